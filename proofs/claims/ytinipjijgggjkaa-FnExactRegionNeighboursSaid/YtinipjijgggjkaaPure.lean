/- Plain laws on the words of the shallow functions: loops, indexes, wraps. No program in sight. -/
import Derived.Test.YtinipjijgggjkaaAux
namespace Go.Sh
open Go Go.RowKit

/-- What a slice of integers that came in is told to be (as in the kit's shell). -/
def IsRow (k : IntKind) (w : World) (a : Option Addr) (len cap : Nat) (zs : List Int) : Prop :=
  (a = none ∧ len = 0 ∧ cap = 0 ∧ zs = []) ∨
  ∃ x, a = some x ∧ len ≤ cap ∧ cap ≤ maxLen ∧ zs.length = cap ∧ (∀ i, i < zs.length → w.cell? (x.add i) = some (.int k (zs.getD i 0))) ∧ ∀ n ∈ zs, (Lit.int k n).wf = true

def eI64 : Enc Int := ⟨fun x => [.int .i64 x], 1, fun _ => rfl, by decide, fun x u h => by simp at h; subst h; rfl⟩
def eU8 : Enc Int := ⟨fun x => [.int .u8 x], 1, fun _ => rfl, by decide, fun x u h => by simp at h; subst h; rfl⟩
def eBool : Enc Bool := ⟨fun x => [.bool x], 1, fun _ => rfl, by decide, fun x u h => by simp at h; subst h; rfl⟩
def eStr : Enc ByteArray := ⟨fun x => [.string x], 1, fun _ => rfl, by decide, fun x u h => by simp at h; subst h; rfl⟩

theorem fl_I64 (xs : List Int) : eI64.fl xs = xs.map (Value.int .i64) := by
  induction xs with
  | nil => rfl
  | cons x xs ih => simp only [Enc.fl, List.flatMap_cons, List.map_cons] at ih ⊢; rw [ih]; rfl

theorem rd_isrow {w : World} {a : Option Addr} {len cap : Nat} {zs : List Int} (h : IsRow .i64 w a len cap zs) : Rd w a (eI64.fl (zs.take len)) ∧ (zs.take len).length = len := by
  rcases h with ⟨rfl, rfl, _, rfl⟩ | ⟨x, rfl, hl, _, hz, hc, _⟩
  · exact ⟨by intro j u hj; simp [Enc.fl] at hj, rfl⟩
  · refine ⟨fun j u hj => ⟨x, rfl, ?_⟩, by rw [List.length_take]; omega⟩
    rw [fl_I64, List.getElem?_map, List.getElem?_take] at hj
    split at hj
    · rename_i hlt
      have hjl : j < zs.length := by omega
      rw [hc j hjl]
      simp [List.getElem?_eq_getElem hjl] at hj ⊢
      exact hj
    · simp at hj

/-- From a contract whose answer is true to what a law's shell asks. -/
theorem law_of {P : Program} {f : FuncId} {args : Array Value} {w : World} {T : Value → List Own → Prop} (h : Calls P f args w (Ret w T)) (hT : ∀ v rs, T v rs → v = .bool true) :
    Calls P f args w fun e w' => e = .returned (.bool true) ∧ Below w.heap.size w w' :=
  h.mono fun e w' ⟨v, rs, ht, he, hb, _⟩ => ⟨by rw [he, hT v rs ht], hb.below⟩

theorem FUEL_eq : FUEL = 4611686018427387904 := rfl
theorem w64_id {x : Int} (h1 : -9223372036854775808 ≤ x) (h2 : x ≤ 9223372036854775807) : w64 x = x := by
  have := IntKind.wrap_i64 x
  show IntKind.i64.wrap x = x
  rw [this]
  omega

theorem iterN_mono {σ ρ : Type} {sb : σ → Option (σ ⊕ ρ)} : ∀ (k m : Nat) (s : σ) (x : ρ), k ≤ m → iterN sb k s = some x → iterN sb m s = some x
  | 0, _, s, x, _, h => by simp [iterN] at h
  | k + 1, 0, s, x, hk, _ => by omega
  | k + 1, m + 1, s, x, hk, h => by
    simp only [iterN] at h ⊢
    cases hs : sb s with
    | none => simp [hs] at h
    | some o =>
      cases o with
      | inl s' => simp only [hs] at h ⊢; exact iterN_mono k m s' x (by omega) h
      | inr y => simpa [hs] using h

/-- A loop by its rounds: state f k ahead of round k; n rounds go on, then it ends. -/
theorem iter_steps {σ ρ : Type} {sb : σ → Option (σ ⊕ ρ)} (f : Nat → σ) (n : Nat) {x : ρ} (hn : n < 4611686018427387904) (hs : ∀ k, k < n → sb (f k) = some (.inl (f (k + 1)))) (he : sb (f n) = some (.inr x)) :
    iter sb (f 0) = some x := by
  have key : ∀ j, j ≤ n → iterN sb (j + 1) (f (n - j)) = some x := by
    intro j
    induction j with
    | zero => intro _; simp [iterN, he]
    | succ j ih =>
      intro hj
      rw [iterN, hs (n - (j + 1)) (by omega)]
      rw [show n - (j + 1) + 1 = n - j by omega]
      exact ih (by omega)
  have := key n (Nat.le_refl _)
  rw [Nat.sub_self] at this
  exact iterN_mono (n + 1) FUEL _ _ (by rw [FUEL_eq]; omega) this

/-- A loop that may end early: res k is what it comes to from state f k. -/
theorem iter_res {σ ρ : Type} {sb : σ → Option (σ ⊕ ρ)} (f : Nat → σ) (res : Nat → ρ) (n : Nat) (hn : n < 4611686018427387904)
    (hs : ∀ k, k < n → (sb (f k) = some (.inl (f (k + 1))) ∧ res k = res (k + 1)) ∨ sb (f k) = some (.inr (res k))) (he : sb (f n) = some (.inr (res n))) : iter sb (f 0) = some (res 0) := by
  have key : ∀ j, j ≤ n → iterN sb (j + 1) (f (n - j)) = some (res (n - j)) := by
    intro j
    induction j with
    | zero => intro _; simp [iterN, he]
    | succ j ih =>
      intro hj
      rcases hs (n - (j + 1)) (by omega) with ⟨h1, h2⟩ | h1
      · rw [iterN, h1, h2]
        rw [show n - (j + 1) + 1 = n - j by omega]
        exact ih (by omega)
      · simp [iterN, h1]
  have := key n (Nat.le_refl _)
  rw [Nat.sub_self] at this
  exact iterN_mono (n + 1) FUEL _ _ (by rw [FUEL_eq]; omega) this

/-- A loop by an invariant and a measure. -/
theorem iter_inv {σ ρ : Type} {sb : σ → Option (σ ⊕ ρ)} (I : σ → Prop) (μ : σ → Nat) (R : ρ → Prop) {s0 : σ} (h0 : I s0) (hμ : μ s0 < 4611686018427387904)
    (hs : ∀ s, I s → (∃ s', sb s = some (.inl s') ∧ I s' ∧ μ s' < μ s) ∨ (∃ x, sb s = some (.inr x) ∧ R x)) : ∃ x, iter sb s0 = some x ∧ R x := by
  have key : ∀ k s, μ s ≤ k → I s → ∃ x, iterN sb (k + 1) s = some x ∧ R x := by
    intro k
    induction k with
    | zero =>
      intro s hk hI
      rcases hs s hI with ⟨s', _, _, h3⟩ | ⟨x, h1, h2⟩
      · omega
      · exact ⟨x, by simp [iterN, h1], h2⟩
    | succ k ih =>
      intro s hk hI
      rcases hs s hI with ⟨s', h1, h2, h3⟩ | ⟨x, h1, h2⟩
      · obtain ⟨x, h4, h5⟩ := ih s' (by omega) h2
        exact ⟨x, by rw [iterN, h1]; exact h4, h5⟩
      · exact ⟨x, by simp [iterN, h1], h2⟩
  obtain ⟨x, h1, h2⟩ := key (μ s0) s0 (Nat.le_refl _) h0
  exact ⟨x, iterN_mono _ FUEL _ _ (by rw [FUEL_eq]; omega) h1, h2⟩

theorem getI_ofNat {T : Type} (xs : List T) (k : Nat) : getI xs (k : Int) = xs[k]? := by simp [getI]
theorem getI_lt {T : Type} {xs : List T} {k : Nat} (h : k < xs.length) : getI xs (k : Int) = some xs[k] := by rw [getI_ofNat]; exact List.getElem?_eq_getElem h
theorem appL_ok {T : Type} {xs ys : List T} (h : xs.length + ys.length ≤ 1099511627776) : appL xs ys = some (xs ++ ys) := by
  have : LIM = 1099511627776 := rfl
  simp [appL, this, h]
theorem mkL_ok {T : Type} {n : Nat} {z : T} (h : n ≤ 1099511627776) : mkL (n : Int) z = some (List.replicate n z) := by
  have : LIM = 1099511627776 := rfl
  simp [mkL, this]
  omega
theorem bindS {α β : Type} (x : α) (k : α → Option β) : Option.bind (some x) k = k x := rfl

theorem set_take_drop {T : Type} (xs : List T) (z : T) (k n : Nat) (h : k < n) (hx : k < xs.length) :
    (xs.take k ++ List.replicate (n - k) z).set k xs[k] = xs.take (k + 1) ++ List.replicate (n - (k + 1)) z := by
  have hl : (xs.take k).length = k := by rw [List.length_take]; omega
  rw [List.set_append, if_neg (by omega), hl, Nat.sub_self]
  obtain ⟨m, hm⟩ : ∃ m, n - k = m + 1 := ⟨n - k - 1, by omega⟩
  rw [hm, List.replicate_succ, List.set_cons_zero, show n - (k + 1) = m by omega, List.take_succ_eq_append_getElem hx, List.append_assoc]
  rfl

/-- The copying loop. -/
theorem iter_copy {T : Type} {sb : Int × List T → Option ((Int × List T) ⊕ List T)} {xs : List T} {z : T} (hl : xs.length < 1099511627776)
    (hsb : ∀ (i : Int) (ys : List T), sb (i, ys) = bif decide (i < (xs.length : Int)) then Option.bind (getI xs i) fun x => Option.bind (getI ys i) fun _ => some (.inl (w64 (i + 1), ys.set i.toNat x)) else some (.inr ys)) :
    iter sb (0, List.replicate xs.length z) = some xs := by
  have h := iter_steps (sb := sb) (fun k => ((k : Int), xs.take k ++ List.replicate (xs.length - k) z)) xs.length (x := xs) (by omega) (fun k hk => ?_) (by rw [hsb]; simp)
  · simpa using h
  · rw [hsb]
    have h1 : (k : Int) < xs.length := by omega
    have h2 : k < (xs.take k ++ List.replicate (xs.length - k) z).length := by simp; omega
    simp only [h1, decide_true, cond_true, getI_lt hk, getI_lt h2, bindS, Int.toNat_natCast]
    rw [w64_id (by omega) (by omega), set_take_drop xs z k xs.length hk hk]
    rfl

/-- The comparing loop. -/
theorem iter_eq {T : Type} [DecidableEq T] {sb : Int → Option (Int ⊕ (Unit ⊕ Bool))} {xs ys : List T} (hl : xs.length < 1099511627776) (hxy : xs.length = ys.length)
    (hsb : ∀ (k : Nat) (h : k < xs.length), sb (k : Int) = if xs[k] = ys[k]'(by omega) then some (.inl ((k : Int) + 1)) else some (.inr (.inr false))) (he : sb (xs.length : Int) = some (.inr (.inl ()))) :
    iter sb 0 = some (if xs = ys then .inl () else .inr false) := by
  have h := iter_res (sb := sb) (fun k => (k : Int)) (fun k => if xs.drop k = ys.drop k then (.inl () : Unit ⊕ Bool) else .inr false) xs.length (by omega) (fun k hk => ?_) (by
    rw [he, List.drop_of_length_le (Nat.le_refl _), List.drop_of_length_le (by omega)]; simp)
  · simpa using h
  · rw [hsb k hk, List.drop_eq_getElem_cons hk, List.drop_eq_getElem_cons (by omega : k < ys.length)]
    by_cases hx : xs[k] = ys[k]'(by omega)
    · left
      rw [if_pos hx]
      refine ⟨by simp, ?_⟩
      simp only [hx, List.cons.injEq, true_and]
    · right
      rw [if_neg hx]
      simp only [List.cons.injEq, hx, false_and, if_false]

/-- The loop that looks whether all elements pass. -/
theorem iter_all {T R : Type} {sb : Int → Option (Int ⊕ (Unit ⊕ R))} {xs : List T} {p : T → Bool} {r : R} (hl : xs.length < 1099511627776)
    (hsb : ∀ (k : Nat) (h : k < xs.length), sb (k : Int) = if p xs[k] = true then some (.inl ((k : Int) + 1)) else some (.inr (.inr r))) (he : sb (xs.length : Int) = some (.inr (.inl ()))) :
    iter sb 0 = some (if xs.all p = true then .inl () else .inr r) := by
  have h := iter_res (sb := sb) (fun k => (k : Int)) (fun k => if (xs.drop k).all p = true then (.inl () : Unit ⊕ R) else .inr r) xs.length (by omega) (fun k hk => ?_) (by
    rw [he, List.drop_of_length_le (Nat.le_refl _)]; simp)
  · simpa using h
  · rw [hsb k hk, List.drop_eq_getElem_cons hk]
    by_cases hx : p xs[k] = true
    · left
      rw [if_pos hx]
      refine ⟨by simp, ?_⟩
      simp only [List.all_cons, hx, Bool.true_and]
    · right
      rw [if_neg hx]
      simp only [List.all_cons, hx, Bool.false_and, if_false, Bool.false_eq_true]
end Go.Sh
