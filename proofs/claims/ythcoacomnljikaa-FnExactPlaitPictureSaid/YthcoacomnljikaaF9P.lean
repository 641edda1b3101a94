/- Plain laws: what the shallow functions come to. -/
import Derived.Test.YthcoacomnljikaaF9W0
set_option linter.unusedVariables false
set_option linter.unusedSimpArgs false
namespace Go.Sh
open Go Go.RowKit

/-! to_i64s -/
theorem toI64_eq (xs : List Int) (h : xs.length ≤ 1048576) : sh24 xs = some xs := by
  unfold sh24
  rw [mkL_ok (by omega), bindS, iter_copy (xs := xs) (by omega) (fun i ys => rfl), bindS]

/-! eq_i64s -/
theorem eqI64_eq (xs ys : List Int) (h : xs.length ≤ 1048576) : sh27 xs ys = some (decide (xs = ys)) := by
  unfold sh27
  by_cases hl : xs.length = ys.length
  · have h1 : ((xs.length : Int) != (ys.length : Int)) = false := by simp; omega
    rw [h1, cond_false, iter_eq (xs := xs) (ys := ys) (by omega) hl (fun k hk => ?_) (by simp [sh27_1]), bindS]
    · by_cases he : xs = ys <;> simp [he, elimS]
    · have h2 : (k : Int) < xs.length := by omega
      have h3 : k < ys.length := by omega
      simp only [sh27_1, h2, decide_true, cond_true, getI_lt hk, getI_lt h3, bindS]
      rw [w64_id (by omega) (by omega)]
      by_cases he : xs[k] = ys[k]
      · simp [he]
      · rw [if_neg he, show (xs[k] != ys[k]) = true from bne_iff_ne.2 he]
        rfl
  · have h1 : ((xs.length : Int) != (ys.length : Int)) = true := by simp; omega
    rw [h1, cond_true]
    have : xs ≠ ys := fun h => hl (by rw [h])
    simp [this]

/-! mark_i64s -/
/-- The numbers that are laid into a result to see whether it is of one's own. -/
def marksFrom (m : Int) (n : Nat) : List Int := (List.range n).map fun (i : Nat) => m + (i : Int)
theorem marksFrom_length (m : Int) (n : Nat) : (marksFrom m n).length = n := by simp [marksFrom]
theorem marksFrom_get (m : Int) (n k : Nat) (h : k < n) : (marksFrom m n)[k]'(by rw [marksFrom_length]; exact h) = m + k := by simp [marksFrom]
theorem marksFrom_succ (m : Int) (k : Nat) : marksFrom m (k + 1) = marksFrom m k ++ [m + k] := by simp [marksFrom, List.range_succ]

theorem markI64_eq (xs : List Int) (m : Int) (h0 : 0 ≤ m) (h1 : m ≤ 1099511627776) (h : xs.length ≤ 1099511627776) : sh28 xs m = some (m + xs.length, marksFrom m xs.length) := by
  unfold sh28
  have hi := iter_steps (sb := sh28_1 xs) (fun k => (m + (k : Int), (k : Int), marksFrom m k ++ xs.drop k)) xs.length (x := (m + xs.length, marksFrom m xs.length)) (by omega) (fun k hk => ?_) ?_
  · simp only [List.drop_zero] at hi
    rw [show marksFrom m 0 ++ xs = xs from rfl] at hi
    simp only [Int.natCast_zero, Int.add_zero] at hi
    rw [hi, bindS]
  · have h2 : (k : Int) < xs.length := by omega
    have hl : k < (marksFrom m k ++ xs.drop k).length := by rw [List.length_append, marksFrom_length, List.length_drop]; omega
    simp only [sh28_1, h2, decide_true, cond_true, getI_lt hl, bindS, Int.toNat_natCast]
    rw [w64_id (by omega) (by omega), w64_id (by omega) (by omega), List.set_append, if_neg (by rw [marksFrom_length]; omega), marksFrom_length, Nat.sub_self, List.drop_eq_getElem_cons hk, List.set_cons_zero, marksFrom_succ, List.append_assoc]
    simp only [Option.some.injEq, Sum.inl.injEq, Prod.mk.injEq]
    refine ⟨by omega, by omega, rfl⟩
  · have hd : decide ((xs.length : Int) < (xs.length : Int)) = false := by simp
    simp only [sh28_1, hd, cond_false, List.drop_length, List.append_nil]


/-! iters -/
theorem w64_lo (x : Int) : -9223372036854775808 ≤ w64 x := by
  have := IntKind.wrap_i64 x
  show _ ≤ IntKind.i64.wrap x
  omega
theorem w64_hi (x : Int) : w64 x ≤ 9223372036854775807 := by
  have := IntKind.wrap_i64 x
  show IntKind.i64.wrap x ≤ _
  omega
theorem getI_toNat {T : Type} {xs : List T} {i : Int} (h0 : 0 ≤ i) (h : i.toNat < xs.length) : getI xs i = some xs[i.toNat] := by
  unfold getI; rw [if_pos h0]; exact List.getElem?_eq_getElem h
theorem nzI_ok {a : Int} (h : a ≠ 0) : nzI a = some a := by simp [nzI, h]

/-- The loop that looks for the first element that passes. -/
theorem iter_find {T : Type} {sb : Int → Option (Int ⊕ (Unit ⊕ Int))} {xs : List T} {p : T → Bool} (hl : xs.length < 1099511627776)
    (hsb : ∀ (k : Nat) (h : k < xs.length), sb (k : Int) = if p xs[k] = true then some (.inr (.inr (k : Int))) else some (.inl ((k : Int) + 1))) (he : sb (xs.length : Int) = some (.inr (.inl ()))) :
    iter sb 0 = some (if xs.any p = true then .inr (xs.findIdx p : Int) else .inl ()) := by
  have h := iter_res (sb := sb) (fun k => (k : Int)) (fun k => if (xs.drop k).any p = true then (.inr (k + (xs.drop k).findIdx p : Nat) : Unit ⊕ Int) else .inl ()) xs.length (by omega) (fun k hk => ?_) (by
    rw [he, List.drop_of_length_le (Nat.le_refl _)]; simp)
  · simpa using h
  · rw [hsb k hk, List.drop_eq_getElem_cons hk]
    by_cases hx : p xs[k] = true
    · right
      rw [if_pos hx]
      simp only [List.any_cons, hx, Bool.true_or, if_true, List.findIdx_cons, cond_true, Nat.add_zero]
    · left
      rw [if_neg hx]
      refine ⟨by simp, ?_⟩
      have hx' : p xs[k] = false := by simpa using hx
      simp only [List.any_cons, hx', Bool.false_or, List.findIdx_cons, cond_false]
      split <;> simp
      omega

theorem iterN_congr {σ ρ : Type} {sb1 sb2 : σ → Option (σ ⊕ ρ)} (I : σ → Prop) (hs : ∀ s, I s → sb1 s = sb2 s ∧ ∀ s', sb2 s = some (.inl s') → I s') : ∀ (n : Nat) (s : σ), I s → iterN sb1 n s = iterN sb2 n s
  | 0, _, _ => rfl
  | n + 1, s, h => by
    obtain ⟨h1, h2⟩ := hs s h
    simp only [iterN, h1]
    cases hb : sb2 s with
    | none => rfl
    | some o =>
      cases o with
      | inl s' => exact iterN_congr I hs n s' (h2 s' hb)
      | inr x => rfl
/-- Two loops whose bodies agree where the invariant holds. -/
theorem iter_congr {σ ρ : Type} {sb1 sb2 : σ → Option (σ ⊕ ρ)} (I : σ → Prop) {s0 : σ} (h0 : I s0) (hs : ∀ s, I s → sb1 s = sb2 s ∧ ∀ s', sb2 s = some (.inl s') → I s') : iter sb1 s0 = iter sb2 s0 :=
  iterN_congr I hs FUEL s0 h0

/-- A loop over a list, as a fold. -/
theorem iter_fold {T σ S ρ : Type} {sb : S → Option (S ⊕ ρ)} (xs : List T) (st : Nat → σ → S) (g : σ → T → σ) (h : σ → ρ) (I : Nat → σ → Prop) (s0 : σ) (h0 : I 0 s0) (hl : xs.length < 1099511627776)
    (hsb : ∀ (k : Nat) (hk : k < xs.length) s, I k s → sb (st k s) = some (.inl (st (k + 1) (g s xs[k]))) ∧ I (k + 1) (g s xs[k])) (he : ∀ s, I xs.length s → sb (st xs.length s) = some (.inr (h s))) :
    iter sb (st 0 s0) = some (h (xs.foldl g s0)) ∧ I xs.length (xs.foldl g s0) := by
  have hI : ∀ k, k ≤ xs.length → I k ((xs.take k).foldl g s0) := by
    intro k
    induction k with
    | zero => intro _; simpa using h0
    | succ k ih =>
      intro hk
      rw [List.take_succ_eq_append_getElem (by omega), List.foldl_append]
      exact (hsb k (by omega) _ (ih (by omega))).2
  have hlast := hI xs.length (Nat.le_refl _)
  rw [List.take_length] at hlast
  refine ⟨?_, hlast⟩
  refine iter_steps (fun k => st k ((xs.take k).foldl g s0)) xs.length (by omega) (fun k hk => ?_) (by rw [List.take_length]; exact he _ hlast)
  rw [(hsb k hk _ (hI k (by omega))).1, List.take_succ_eq_append_getElem hk, List.foldl_append]
  rfl

/-- The greater one. -/
def mx (a b : Int) : Int := if a < b then b else a
def mn (a b : Int) : Int := if b < a then b else a
theorem mx_comm' (a b : Int) : (if b < a then a else b) = mx a b := by unfold mx; split <;> split <;> omega
theorem foldl_snoc {α β : Type} (f : α → β) : ∀ (xs : List α) (a : List β), xs.foldl (fun acc m => acc ++ [f m]) a = a ++ xs.map f
  | [], a => by simp
  | x :: xs, a => by rw [List.foldl_cons, foldl_snoc f xs]; simp

/-! max -/
theorem l00Max_eq (a b : Int) : sh71 a b = some (mx a b) := by
  unfold sh71
  rw [← mx_comm']
  by_cases h : b < a <;> simp [h]

/-! validword -/
/-- A move fits. -/
def okM (s m : Int) : Bool := !(m == 0) && (decide (w64 (1 - s) ≤ m) && decide (m ≤ w64 (s - 1)))
def validW (s : Int) (w : List Int) : Bool := (decide (2 ≤ s) && decide (s ≤ 12)) && (decide (w.length ≤ 200) && w.all (okM s))

theorem l23Ok_eq (s : Int) (w : List Int) (h : w.length ≤ 1048576) : sh69 s w = some (validW s w) := by
  unfold sh69 sh65
  rw [bindS]
  unfold validW
  cases hs : (decide (2 ≤ s) && decide (s ≤ 12))
  · simp
  · by_cases hl : w.length ≤ 200
    · have hd : decide (200 < (w.length : Int)) = false := by simp; omega
      simp only [hd, Bool.not_true, Bool.or_self, cond_false]
      rw [iter_all (xs := w) (p := okM s) (r := false) (by omega) (fun k hk => ?_) (by simp [sh69_1]), bindS]
      · cases ha : w.all (okM s) <;> simp [elimS, hl]
      · have h2 : (k : Int) < w.length := by omega
        simp only [sh69_1, sh65, h2, decide_true, cond_true, getI_lt hk, bindS]
        rw [w64_id (x := (k : Int) + 1) (by omega) (by omega)]
        unfold okM
        cases h0 : w[k] == 0 <;> simp [bindS]
        cases h1 : decide (w64 (1 - s) ≤ w[k]) <;> cases h3 : decide (w[k] ≤ w64 (s - 1)) <;> simp_all
    · have hd : decide (200 < (w.length : Int)) = true := by simp; omega
      simp [hd, hl]

theorem implValidWord_eq (s : Int) (w : List Int) (h : w.length ≤ 1048576) : sh72 s w = some (validW s w) := by
  unfold sh72
  rw [iter_all (xs := w) (p := okM s) (r := false) (by omega) (fun k hk => ?_) (by simp [sh72_1]), bindS]
  · unfold validW
    cases ha : w.all (okM s)
    · simp [elimS]
    · simp only [elimS, if_true, sh79, bindS, Bool.and_true]
      congr 2
      simp only [decide_eq_decide]
      omega
  · have h2 : (k : Int) < w.length := by omega
    simp only [sh72_1, sh79, h2, decide_true, cond_true, getI_lt hk, bindS]
    rw [w64_id (x := (k : Int) + 1) (by omega) (by omega)]
    unfold okM
    cases h0 : w[k] == 0 <;> simp [bindS]
    cases h1 : decide (w64 (1 - s) ≤ w[k]) <;> cases h3 : decide (w[k] ≤ w64 (s - 1)) <;> simp_all

theorem validW_len {s : Int} {w : List Int} (h : validW s w = true) : w.length ≤ 200 := by
  unfold validW at h
  simp only [Bool.and_eq_true, decide_eq_true_eq] at h
  exact h.2.1

/-! order -/
/-- The greater place of a move. -/
def rgt (m : Int) : Int := mx m (w64 (0 - m))
theorem l15Size_eq (m : Int) : sh70 m = some (rgt m) := by
  unfold sh70; rw [l00Max_eq]; rfl
theorem rightOf_eq (m : Int) : sh73 m = some (rgt m) := rfl
theorem rgt_bounds {s m : Int} (hs : 2 ≤ s) (hs2 : s ≤ 12) (h : okM s m = true) : 1 ≤ rgt m ∧ rgt m ≤ s - 1 := by
  unfold okM at h
  simp only [Bool.and_eq_true, Bool.not_eq_true', beq_eq_false_iff_ne, decide_eq_true_eq] at h
  rw [w64_id (by omega) (by omega), w64_id (by omega) (by omega)] at h
  unfold rgt mx
  rw [w64_id (by omega) (by omega)]
  split <;> omega
def swapL (xs : List Int) (k : Nat) : List Int := (xs.set (k - 1) (xs.getD k 0)).set k (xs.getD (k - 1) 0)
theorem swapL_length (xs : List Int) (k : Nat) : (swapL xs k).length = xs.length := by simp [swapL]


/-! decimal -/
theorem u64_id {x : Int} (h1 : 0 ≤ x) (h2 : x < 18446744073709551616) : IntKind.u64.wrap x = x := by
  unfold IntKind.wrap
  have hs : IntKind.u64.signed = false := rfl
  have hb : IntKind.u64.bits = 64 := rfl
  simp only [hs, hb, Bool.false_and]
  show x % 2 ^ 64 = x
  omega
theorem u64_neg {x : Int} (h1 : -9223372036854775808 ≤ x) (h2 : x < 0) : IntKind.u64.wrap (0 - IntKind.u64.wrap x) = -x := by
  unfold IntKind.wrap
  have hs : IntKind.u64.signed = false := rfl
  have hb : IntKind.u64.bits = 64 := rfl
  simp only [hs, hb, Bool.false_and]
  show (0 - x % 2 ^ 64) % 2 ^ 64 = -x
  omega
theorem u8_id {x : Int} (h1 : 0 ≤ x) (h2 : x < 256) : IntKind.u8.wrap x = x := by
  unfold IntKind.wrap
  have hs : IntKind.u8.signed = false := rfl
  have hb : IntKind.u8.bits = 8 := rfl
  simp only [hs, hb, Bool.false_and]
  show x % 2 ^ 8 = x
  omega

/-- The digits of a number, the first one first. -/
def digs (n : Nat) : List Int := if h : n = 0 then [] else digs (n / 10) ++ [48 + ((n % 10 : Nat) : Int)]
decreasing_by omega
theorem digs_zero : digs 0 = [] := by unfold digs; simp
theorem digs_pos {n : Nat} (h : 0 < n) : digs n = digs (n / 10) ++ [48 + ((n % 10 : Nat) : Int)] := by
  rw [digs]; simp [show n ≠ 0 by omega]
theorem digs_len : ∀ (k n : Nat), n < 10 ^ k → (digs n).length ≤ k
  | 0, n, h => by
    have : n = 0 := by simpa using h
    subst this; simp [digs_zero]
  | k + 1, n, h => by
    by_cases h0 : n = 0
    · subst h0; simp [digs_zero]
    · rw [digs_pos (by omega), List.length_append]
      have := digs_len k (n / 10) (by rw [Nat.pow_succ] at h; omega)
      simp; omega
theorem digs_byte (n : Nat) : ∀ x ∈ digs n, 48 ≤ x ∧ x ≤ 57 := by
  induction n using Nat.strongRecOn with
  | ind n ih =>
    intro x hx
    by_cases h0 : n = 0
    · subst h0; rw [digs_zero] at hx; simp at hx
    · rw [digs_pos (by omega)] at hx
      rcases List.mem_append.1 hx with h | h
      · exact ih (n / 10) (by omega) x h
      · simp at h; omega
theorem digs_ne {n : Nat} (h : 0 < n) : digs n ≠ [] := by rw [digs_pos h]; simp

/-- The bytes of a number in decimal. -/
def decL (n : Int) : List Int := if n = 0 then [48] else (if n < 0 then [45] else []) ++ digs n.natAbs
theorem decL_len {n : Int} (h1 : -9223372036854775808 ≤ n) (h2 : n ≤ 9223372036854775807) : (decL n).length ≤ 20 := by
  unfold decL
  have := digs_len 19 n.natAbs (by omega)
  split
  · simp
  · split <;> simp <;> omega
theorem decL_byte (n : Int) : ∀ x ∈ decL n, 0 ≤ x ∧ x < 256 := by
  intro x hx
  unfold decL at hx
  split at hx
  · simp at hx; omega
  · rcases List.mem_append.1 hx with h | h
    · split at h <;> simp at h; omega
    · have := digs_byte _ x h; omega

/-! bytes as a string -/
theorem bytesS_foldl : ∀ (xs : List Int) (s : ByteArray), xs.foldl (fun r n => r.push (UInt8.ofNat n.toNat)) s = ⟨s.data ++ (xs.map fun n => UInt8.ofNat n.toNat).toArray⟩
  | [], s => by simp
  | n :: ns, s => by
    rw [List.foldl_cons, bytesS_foldl ns]
    simp [ByteArray.push]
theorem bytesS_data (xs : List Int) : bytesS xs = ⟨(xs.map fun n => UInt8.ofNat n.toNat).toArray⟩ := by
  unfold bytesS
  rw [bytesS_foldl]
  congr 1
  apply Array.ext'
  simp [ByteArray.empty, ByteArray.emptyWithCapacity]
  rfl
theorem bytesS_size (xs : List Int) : (bytesS xs).size = xs.length := by
  rw [bytesS_data]
  show (List.toArray _).size = _
  simp
theorem bytesS_append (xs ys : List Int) : bytesS xs ++ bytesS ys = bytesS (xs ++ ys) := by
  apply ByteArray.ext
  rw [ByteArray.data_append, bytesS_data, bytesS_data, bytesS_data]
  apply Array.ext'
  simp
theorem strI_bytesS {xs : List Int} (h : ∀ x ∈ xs, 0 ≤ x ∧ x < 256) : strI (bytesS xs) = xs := by
  rw [bytesS_data, strI]
  simp only [List.map_map]
  conv => rhs; rw [← List.map_id xs]
  refine List.map_congr_left fun x hx => ?_
  obtain ⟨h1, h2⟩ := h x hx
  show ((UInt8.ofNat x.toNat).toNat : Int) = x
  rw [UInt8.toNat_ofNat']
  omega
theorem catS_ok {xs ys : List Int} (h : xs.length + ys.length ≤ 1099511627776) : catS (bytesS xs) (bytesS ys) = some (bytesS (xs ++ ys)) := by
  have : LIM = 1099511627776 := rfl
  unfold catS
  rw [bytesS_size, bytesS_size, if_pos (by omega), bytesS_append]
theorem lit_nil : (ByteArray.mk #[] : ByteArray) = bytesS [] := rfl
theorem lit_minus : (ByteArray.mk #[45] : ByteArray) = bytesS [45] := rfl
theorem lit_zero : (ByteArray.mk #[48] : ByteArray) = bytesS [48] := rfl
theorem lit_blank : (ByteArray.mk #[32] : ByteArray) = bytesS [32] := rfl

theorem tmod_abs (n : Int) : (if n.tmod 10 < 0 then 0 - n.tmod 10 else n.tmod 10) = ((n.natAbs % 10 : Nat) : Int) := by
  by_cases h : 0 ≤ n
  · rw [Int.tmod_eq_emod_of_nonneg h]; split <;> omega
  · have := Int.neg_tmod (-n) 10
    rw [Int.neg_neg] at this
    rw [this, Int.tmod_eq_emod_of_nonneg (by omega)]
    split <;> omega
theorem tdiv_abs (n : Int) : (n.tdiv 10).natAbs = n.natAbs / 10 := by
  rw [Int.natAbs_tdiv]; rfl


/-! strings -/
theorem catS_tot {x y : ByteArray} (h : x.size + y.size ≤ 1099511627776) : catS x y = some (x ++ y) := by
  have : LIM = 1099511627776 := rfl
  unfold catS
  rw [if_pos (by omega)]
theorem eqStringS_refl (xs : List ByteArray) (h : xs.length ≤ 1048576) : sh47 xs xs = some true := by
  unfold sh47
  rw [bne_self_eq_false, cond_false, iter_all (xs := xs) (p := fun _ => true) (r := false) (by omega) (fun k hk => ?_) (by simp [sh47_1]), bindS]
  · simp [elimS]
  · have h2 : (k : Int) < xs.length := by omega
    simp only [sh47_1, h2, decide_true, cond_true, getI_lt hk, bindS, beq_self_eq_true, Bool.not_true, cond_false, if_true]
    rw [w64_id (by omega) (by omega)]

/-- The text of a mark. -/
def markT (n : Int) : ByteArray := (sh89 n).getD ByteArray.empty
theorem markT_eq (n : Int) (h0 : 0 ≤ n) (h1 : n ≤ 1099511627776) : sh89 n = some (markT n) := by
  have key : ∃ t, sh89 n = some t := by
    unfold sh89
    by_cases hz : n ≤ 0
    · simp only [hz, decide_true, cond_true]; exact ⟨_, rfl⟩
    · have hd : decide (n ≤ 0) = false := decide_eq_false hz
      rw [hd, cond_false]
      have hN : n.natAbs < 10 ^ 19 := by omega
      have hdl := digs_len 19 _ hN
      obtain ⟨b, hb, hr⟩ := iter_inv (sb := sh89_1) (fun (s : Int × ByteArray) => 0 ≤ s.1 ∧ s.1 ≤ 1099511627776 ∧ s.2.size + (digs s.1.natAbs).length ≤ 19) (fun s => (digs s.1.natAbs).length) (fun (b : ByteArray) => b.size ≤ 19) (s0 := (n, ByteArray.mk #[])) ⟨h0, h1, by
          show (ByteArray.mk #[]).size + (digs n.natAbs).length ≤ 19
          have : (ByteArray.mk #[]).size = 0 := rfl
          omega⟩ (by simp only; omega) (by
        rintro ⟨x, l⟩ ⟨h3, h4, h5⟩
        simp only at h3 h4 h5
        by_cases hx : 0 < x
        · left
          have hp := digs_pos (n := x.natAbs) (by omega)
          have hl1 : (digs x.natAbs).length = (digs (x.natAbs / 10)).length + 1 := by rw [hp, List.length_append]; rfl
          have hdv : (x.tdiv 10).natAbs = x.natAbs / 10 := tdiv_abs x
          have hd0 : 0 ≤ x.tdiv 10 ∧ x.tdiv 10 ≤ x := by rw [Int.tdiv_eq_ediv_of_nonneg (by omega)]; omega
          have hsz : (bytesS [IntKind.u8.wrap (w64 (48 + (x.tmod 10)))]).size = 1 := by rw [bytesS_size]; rfl
          simp only [sh89_1, hx, decide_true, cond_true]
          rw [catS_tot (by omega), bindS]
          first
          | rw [w64_id (x := x.tdiv 10) (by omega) (by omega)]
          | skip
          refine ⟨_, rfl, ⟨by simp only; omega, by simp only; omega, ?_⟩, by simp only; rw [hdv]; omega⟩
          simp only [ByteArray.size_append]
          rw [hdv, hsz]; omega
        · right
          have hd2 : decide (0 < x) = false := decide_eq_false hx
          simp only [sh89_1, hd2, cond_false]
          exact ⟨_, rfl, by omega⟩)
      have hs1 : (ByteArray.mk #[109]).size = 1 := rfl
      rw [hb, bindS, catS_tot (by omega), bindS]
      exact ⟨_, rfl⟩
  obtain ⟨t, ht⟩ := key
  unfold markT
  rw [ht]; rfl
def marksT (m : Int) (n : Nat) : List ByteArray := (List.range n).map fun (i : Nat) => markT (m + (i : Int))
theorem marksT_length (m : Int) (n : Nat) : (marksT m n).length = n := by simp [marksT]
theorem marksT_get (m : Int) (n k : Nat) (h : k < n) : (marksT m n)[k]'(by rw [marksT_length]; exact h) = markT (m + k) := by simp [marksT]
theorem marksT_succ (m : Int) (k : Nat) : marksT m (k + 1) = marksT m k ++ [markT (m + k)] := by simp [marksT, List.range_succ]

theorem markStringS_eq (xs : List ByteArray) (m : Int) (h0 : 0 ≤ m) (h1 : m ≤ 1048576) (h : xs.length ≤ 1048576) : sh48 xs m = some (m + xs.length, marksT m xs.length) := by
  unfold sh48
  have hi := iter_steps (sb := sh48_1 xs) (fun k => (m + (k : Int), (k : Int), marksT m k ++ xs.drop k)) xs.length (x := (m + xs.length, marksT m xs.length)) (by omega) (fun k hk => ?_) ?_
  · simp only [List.drop_zero] at hi
    rw [show marksT m 0 ++ xs = xs from rfl] at hi
    simp only [Int.natCast_zero, Int.add_zero] at hi
    rw [hi, bindS]
  · have h2 : (k : Int) < xs.length := by omega
    have hl : k < (marksT m k ++ xs.drop k).length := by rw [List.length_append, marksT_length, List.length_drop]; omega
    simp only [sh48_1, h2, decide_true, cond_true, getI_lt hl, bindS, Int.toNat_natCast, markT_eq (m + (k : Int)) (by omega) (by omega)]
    rw [w64_id (by omega) (by omega), w64_id (by omega) (by omega), List.set_append, if_neg (by rw [marksT_length]; omega), marksT_length, Nat.sub_self, List.drop_eq_getElem_cons hk, List.set_cons_zero, marksT_succ, List.append_assoc]
    simp only [Option.some.injEq, Sum.inl.injEq, Prod.mk.injEq]
    refine ⟨by omega, by omega, rfl⟩
  · have hd : decide ((xs.length : Int) < (xs.length : Int)) = false := by simp
    simp only [sh48_1, hd, cond_false, List.drop_length, List.append_nil]

theorem heldStringS_eq (m : Int) (n : Nat) (h0 : 0 ≤ m) (h1 : m ≤ 1048576) (h : n ≤ 1048576) : sh49 (marksT m n) m = some (m + n) := by
  unfold sh49
  have hi := iter_steps (sb := sh49_1 (marksT m n)) (fun k => (m + (k : Int), (k : Int))) n (x := .inl (m + n)) (by omega) (fun k hk => ?_) ?_
  · simp only [Int.natCast_zero, Int.add_zero] at hi
    rw [hi, bindS]
    rfl
  · have h2 : (k : Int) < (marksT m n).length := by rw [marksT_length]; omega
    have hl : k < (marksT m n).length := by rw [marksT_length]; exact hk
    simp only [sh49_1, h2, decide_true, cond_true, getI_lt hl, bindS, marksT_get m n k hk, markT_eq (m + (k : Int)) (by omega) (by omega), beq_self_eq_true, Bool.not_true, cond_false]
    rw [w64_id (by omega) (by omega), w64_id (by omega) (by omega)]
    simp only [Option.some.injEq, Sum.inl.injEq, Prod.mk.injEq]
    refine ⟨by omega, by omega⟩
  · have hd : decide ((n : Int) < ((marksT m n).length : Int)) = false := by rw [marksT_length]; simp
    simp only [sh49_1, hd, cond_false]

/-! plaitpicture -/
def bS : Nat → List Int
  | 0 => []
  | k + 1 => bS k ++ [124, 32]
def bI : Nat → List Int
  | 0 => []
  | k + 1 => (if 0 < k then bI k ++ [32] else bI k) ++ [124]
theorem bS_bI : ∀ k : Nat, 0 < k → bS k = bI k ++ [32]
  | 1, _ => rfl
  | k + 2, _ => by
    rw [bS, bS_bI (k + 1) (by omega), show bI (k + 2) = (if 0 < k + 1 then bI (k + 1) ++ [32] else bI (k + 1)) ++ [124] from rfl, if_pos (by omega)]
    simp
theorem bS_length : ∀ k : Nat, (bS k).length = 2 * k
  | 0 => rfl
  | k + 1 => by rw [bS, List.length_append, bS_length k]; simp; omega
theorem bI_length (k : Nat) (h : 0 < k) : (bI k).length = 2 * k - 1 := by
  have h1 := bS_length k
  rw [bS_bI k h, List.length_append] at h1
  simp at h1; omega
theorem bI_le (k : Nat) : (bI k).length ≤ 2 * k := by
  rcases Nat.eq_zero_or_pos k with h | h
  · subst h; simp [bI]
  · rw [bI_length k h]; omega
theorem barsS_eq (s : Int) (h0 : 0 ≤ s) (h1 : s ≤ 12) : iter (sh45_2 s) (0, ([] : List Int)) = some (bS s.toNat) := by
  refine iter_steps (sb := sh45_2 s) (fun k => ((k : Int), bS k)) s.toNat (by omega) (fun k hk => ?_) ?_
  · have h2 : (k : Int) < s := by omega
    have h3 := bS_length k
    simp only [sh45_2, h2, decide_true, cond_true]
    rw [appL_ok (by simp only [List.length_cons, List.length_nil]; omega), bindS, w64_id (by omega) (by omega)]
    rfl
  · have hd : decide (((s.toNat : Nat) : Int) < s) = false := decide_eq_false (by omega)
    simp only [sh45_2, hd, cond_false]
theorem barsI_eq (s : Int) (h0 : 0 ≤ s) (h1 : s ≤ 12) : iter (sh46_2 s) (0, ([] : List Int)) = some (bI s.toNat) := by
  refine iter_steps (sb := sh46_2 s) (fun k => ((k : Int), bI k)) s.toNat (by omega) (fun k hk => ?_) ?_
  · have h2 : (k : Int) < s := by omega
    have h3 := bI_le k
    simp only [sh46_2, h2, decide_true, cond_true]
    by_cases h4 : 0 < k
    · have h5 : decide ((0 : Int) < (k : Int)) = true := decide_eq_true (by omega)
      rw [h5, cond_true, appL_ok (by simp only [List.length_cons, List.length_nil]; omega), bindS, bindS, appL_ok (by simp only [List.length_append, List.length_cons, List.length_nil]; omega), bindS, w64_id (by omega) (by omega), bI, if_pos h4]
      rfl
    · have h5 : decide ((0 : Int) < (k : Int)) = false := decide_eq_false (by omega)
      rw [h5, cond_false, bindS, appL_ok (by simp only [List.length_cons, List.length_nil]; omega), bindS, w64_id (by omega) (by omega), bI, if_neg h4]
      rfl
  · have hd : decide (((s.toNat : Nat) : Int) < s) = false := decide_eq_false (by omega)
    simp only [sh46_2, hd, cond_false]
def sgn (m : Int) : Int := if m < 0 then 45 else 43
def picL (s m : Int) : List Int := (((bI s.toNat).set (2 * (rgt m).toNat - 2) 92).set (2 * (rgt m).toNat - 1) (sgn m)).set (2 * (rgt m).toNat) 47
theorem specPic (s : Int) (w : List Int) (hs : 2 ≤ s) (hs2 : s ≤ 12) (hw : w.length ≤ 200) (hall : ∀ x ∈ w, okM s x = true) : iter (sh45_1 s w) (0, ([] : List ByteArray)) = some (w.map fun m => bytesS (picL s m)) := by
  have hi := iter_fold (sb := sh45_1 s w) w (fun k (l : List ByteArray) => ((k : Int), l)) (fun acc m => acc ++ [bytesS (picL s m)]) (fun l => l) (fun k l => l.length = k) [] rfl (by omega) (fun k hk l hI => ?_) (fun l _ => by
      have hd : decide ((w.length : Int) < (w.length : Int)) = false := by simp
      simp only [sh45_1, hd, cond_false])
  · have h1 := hi.1
    simp only [Int.natCast_zero] at h1
    rw [h1, foldl_snoc, List.nil_append]
  · refine ⟨?_, by simp [hI]⟩
    have h2 : (k : Int) < w.length := by omega
    obtain ⟨b1, b2⟩ := rgt_bounds hs hs2 (hall _ (List.getElem_mem hk))
    obtain ⟨n, hn⟩ : ∃ n : Nat, rgt w[k] = n := ⟨(rgt w[k]).toNat, by omega⟩
    rw [hn] at b1 b2
    have i1 : w64 (2 * (n : Int)) = ((2 * n : Nat) : Int) := by rw [w64_id (by omega) (by omega)]; omega
    have i0 : w64 (((2 * n : Nat) : Int) - 2) = ((2 * n - 2 : Nat) : Int) := by rw [w64_id (by omega) (by omega)]; omega
    have i2 : w64 (((2 * n : Nat) : Int) - 1) = ((2 * n - 1 : Nat) : Int) := by rw [w64_id (by omega) (by omega)]; omega
    have i3 : w64 (w64 (2 * s) - 1) = ((2 * s.toNat - 1 : Nat) : Int) := by rw [w64_id (x := 2 * s) (by omega) (by omega), w64_id (by omega) (by omega)]; omega
    have hB := bS_length s.toNat
    have hl := bI_length s.toNat (by omega)
    simp only [sh45_1, h2, decide_true, cond_true, barsS_eq s (by omega) hs2, getI_lt hk, bindS, l15Size_eq, hn, i0, i1, i2, i3, Int.toNat_natCast]
    rw [getI_lt (by omega), bindS, getI_lt (by simp only [List.length_set]; omega), bindS, getI_lt (by simp only [List.length_set]; omega), bindS]
    have ej : (bif decide (w[k] < 0) then (Option.bind (getI ((((bS s.toNat).set (2 * n - 2) 92).set (2 * n) 47).set (2 * n - 1) 43) ((2 * n - 1 : Nat) : Int)) fun x40 => some (((((bS s.toNat).set (2 * n - 2) 92).set (2 * n) 47).set (2 * n - 1) 43).set (2 * n - 1) 45)) else (some ((((bS s.toNat).set (2 * n - 2) 92).set (2 * n) 47).set (2 * n - 1) 43))) = some ((((bS s.toNat).set (2 * n - 2) 92).set (2 * n) 47).set (2 * n - 1) (sgn w[k])) := by
      unfold sgn
      by_cases hneg : w[k] < 0
      · rw [decide_eq_true hneg, cond_true, getI_lt (by simp only [List.length_set]; omega), bindS, List.set_set, if_pos hneg]
      · rw [decide_eq_false hneg, cond_false, if_neg hneg]
    rw [ej, bindS]
    have et : takeL ((((bS s.toNat).set (2 * n - 2) 92).set (2 * n) 47).set (2 * n - 1) (sgn w[k])) ((2 * s.toNat - 1 : Nat) : Int) = some (picL s w[k]) := by
      unfold takeL
      rw [if_pos (by simp only [List.length_set]; omega), Int.toNat_natCast, bS_bI s.toNat (by omega)]
      congr 1
      rw [List.set_append_left _ _ (by omega), List.set_append_left _ _ (by simp only [List.length_set]; omega), List.set_append_left _ _ (by simp only [List.length_set]; omega), List.take_append_of_le_length (by simp only [List.length_set]; omega), List.take_of_length_le (by simp only [List.length_set]; omega)]
      unfold picL
      rw [hn, Int.toNat_natCast]
      exact List.set_comm _ _ (by omega)
    rw [et, bindS, appL_ok (by simp only [List.length_cons, List.length_nil]; omega), bindS, w64_id (by omega) (by omega)]
    rfl
theorem implPic (s : Int) (w : List Int) (hs : 2 ≤ s) (hs2 : s ≤ 12) (hw : w.length ≤ 200) (hall : ∀ x ∈ w, okM s x = true) : iter (sh46_1 s w) (0, ([] : List ByteArray)) = some (w.map fun m => bytesS (picL s m)) := by
  have hi := iter_fold (sb := sh46_1 s w) w (fun k (l : List ByteArray) => ((k : Int), l)) (fun acc m => acc ++ [bytesS (picL s m)]) (fun l => l) (fun k l => l.length = k) [] rfl (by omega) (fun k hk l hI => ?_) (fun l _ => by
      have hd : decide ((w.length : Int) < (w.length : Int)) = false := by simp
      simp only [sh46_1, hd, cond_false])
  · have h1 := hi.1
    simp only [Int.natCast_zero] at h1
    rw [h1, foldl_snoc, List.nil_append]
  · refine ⟨?_, by simp [hI]⟩
    have h2 : (k : Int) < w.length := by omega
    obtain ⟨b1, b2⟩ := rgt_bounds hs hs2 (hall _ (List.getElem_mem hk))
    obtain ⟨n, hn⟩ : ∃ n : Nat, rgt w[k] = n := ⟨(rgt w[k]).toNat, by omega⟩
    rw [hn] at b1 b2
    have i0 : w64 (2 * w64 ((n : Int) - 1)) = ((2 * n - 2 : Nat) : Int) := by rw [w64_id (x := (n : Int) - 1) (by omega) (by omega), w64_id (by omega) (by omega)]; omega
    have i1 : w64 (((2 * n - 2 : Nat) : Int) + 1) = ((2 * n - 1 : Nat) : Int) := by rw [w64_id (by omega) (by omega)]; omega
    have i2 : w64 (((2 * n - 2 : Nat) : Int) + 2) = ((2 * n : Nat) : Int) := by rw [w64_id (by omega) (by omega)]; omega
    have hl := bI_length s.toNat (by omega)
    have ej : (bif decide (w[k] < 0) then (some 45) else (some 43) : Option Int) = some (sgn w[k]) := by
      unfold sgn
      by_cases hneg : w[k] < 0 <;> simp [hneg]
    simp only [sh46_1, h2, decide_true, cond_true, barsI_eq s (by omega) hs2, getI_lt hk, bindS, rightOf_eq, hn, ej, i0, i1, i2, Int.toNat_natCast]
    rw [getI_lt (by omega), bindS, getI_lt (by simp only [List.length_set]; omega), bindS, getI_lt (by simp only [List.length_set]; omega), bindS, appL_ok (by simp only [List.length_cons, List.length_nil]; omega), bindS, w64_id (by omega) (by omega)]
    unfold picL
    rw [hn, Int.toNat_natCast]
    rfl
theorem plaitPicture_total (s : Int) (w : List Int) (h : w.length ≤ 1048576) : ∃ r, sh45 s w = some r ∧ sh46 s w = some r ∧ r.1.length ≤ 200 := by
  unfold sh45 sh46
  rw [l23Ok_eq s w h, implValidWord_eq s w h]
  simp only [bindS]
  cases hv : validW s w
  · exact ⟨_, rfl, rfl, by simp⟩
  · have hlen := validW_len hv
    unfold validW at hv
    simp only [Bool.and_eq_true, decide_eq_true_eq, List.all_eq_true] at hv
    obtain ⟨⟨hs, hs2⟩, _, hall⟩ := hv
    simp only [Bool.not_true, cond_false, specPic s w hs hs2 hlen hall, implPic s w hs hs2 hlen hall, bindS]
    exact ⟨_, rfl, rfl, by simp only [List.length_map]; exact hlen⟩

/-! FnExactPlaitPicture -/
theorem law9 (s : Int) (w : List Int) : sh9 s w = some true := by
  unfold sh9
  by_cases h : w.length ≤ 1048576
  · obtain ⟨r, h1, h2, h3⟩ := plaitPicture_total s w h
    have hd : decide (1048576 < (w.length : Int)) = false := by simp; omega
    have m1 := markI64_eq w 1 (by omega) (by omega) (by omega)
    have m2 := markStringS_eq r.1 1 (by omega) (by omega) (by omega)
    have m3 := heldStringS_eq 1 r.1.length (by omega) (by omega) (by omega)
    have n1 : decide ((1 : Int) + (w.length : Int) < 0) = false := decide_eq_false (by omega)
    have n2 : decide ((1 : Int) + (r.1.length : Int) < 0) = false := decide_eq_false (by omega)
    simp only [hd, cond_false, toI64_eq w h, bindS, h1, h2, eqStringS_refl r.1 (by omega), bne_self_eq_false, Bool.or_self, eqI64_eq w w h, decide_true, Bool.not_true, m1, m2, m3, n1, n2]
  · have hd : decide (1048576 < (w.length : Int)) = true := by simp; omega
    simp [hd]
end Go.Sh
