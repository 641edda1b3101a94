/- Symbolic execution over the kit's 'Code.wp': environments of live slots, owned blocks, and the rules of the walk. -/
import Derived.WalkKit
import Derived.OrdersHeld
namespace Go.Sh
open Go Go.RowKit

/-! ### Live slots -/

/-- The value of a slot in a list of live slots (the first entry counts). -/
def lk : List (Nat × Value) → Nat → Option Value
  | [], _ => none
  | (k, v) :: r, t => match Nat.beq k t with
    | true => some v
    | false => lk r t

def ev (env : List (Nat × Value)) : Operand → Option Value
  | .tmp t => lk env t
  | .const v => some v
  | .global g => some (.pointer (some ⟨g, 0, none⟩))
  | .func f => some (.func (.func f) #[] #[])

/-- What the operands are is what the list says. -/
def Agr (env : List (Nat × Value)) (ρ : Operand → Value) : Prop := ∀ x v, ev env x = some v → ρ x = v

structure EnvOk (n : Nat) (env : List (Nat × Value)) (a : Act) : Prop where
  dfr : a.defers = []
  size : a.tmps.size = n
  get : ∀ t v, lk env t = some v → a.tmps[t]? = some v

theorem EnvOk.agr {n : Nat} {env : List (Nat × Value)} {a : Act} (h : EnvOk n env a) : Agr env a.eval := by
  intro x v hx
  cases x with
  | tmp t => have := h.get t v hx; simp [Act.eval, this]
  | const u => simpa [ev, Act.eval] using hx
  | global g => simpa [ev, Act.eval] using hx
  | func f => simpa [ev, Act.eval] using hx

theorem EnvOk.put {n : Nat} {env : List (Nat × Value)} {a : Act} (h : EnvOk n env a) {d : Nat} (hd : Nat.blt d n = true) (v : Value) :
    EnvOk n ((d, v) :: env) (a.put (some d) v) := by
  have hd' : d < a.tmps.size := by rw [h.size]; simpa [Nat.blt_eq] using hd
  refine ⟨h.dfr, by simp [Act.put, h.size], fun t u ht => ?_⟩
  simp only [lk] at ht
  by_cases hdt : d = t
  · subst hdt
    simp [Nat.beq_refl] at ht
    subst ht
    simp [Act.put, hd']
  · have hb : Nat.beq d t = false := by
      rcases hb : Nat.beq d t
      · rfl
      · exact absurd (Nat.eq_of_beq_eq_true hb) hdt
    simp only [hb] at ht
    simp [Act.put, Array.getElem?_setIfInBounds_ne hdt, h.get t u ht]

def Sub : List (Nat × Value) → List (Nat × Value) → Prop
  | [], _ => True
  | (k, v) :: r, env => lk env k = some v ∧ Sub r env

theorem Sub.lk {env' env : List (Nat × Value)} (h : Sub env' env) : ∀ t v, lk env' t = some v → Sh.lk env t = some v := by
  induction env' with
  | nil => intro t v h; simp [Sh.lk] at h
  | cons p r ih =>
    obtain ⟨k, u⟩ := p
    intro t v ht
    simp only [Sh.lk] at ht
    split at ht
    · rename_i hb
      have hkt := Nat.eq_of_beq_eq_true hb
      subst hkt
      cases ht
      exact h.1
    · exact ih h.2 t v ht

theorem EnvOk.sub {n : Nat} {env env' : List (Nat × Value)} {a : Act} (h : EnvOk n env a) (hs : Sub env' env) : EnvOk n env' a :=
  ⟨h.dfr, h.size, fun t v ht => h.get t v (hs.lk t v ht)⟩

/-! ### Owned blocks -/

/-- Something held in blocks of one's own: what is said of the world, and of which blocks; it depends on these blocks alone. -/
structure Own where
  p : World → List Nat → Prop
  loc : ∀ w w' fp, p w fp → (∀ b ∈ fp, w'.heap[b]? = w.heap[b]?) → p w' fp

/-- The blocks of the entries are apart from one another; each is new since block number B or one of M. -/
def Sep (B : Nat) (M : List Nat) (w : World) (es : List Own) : Prop :=
  ∃ fp : Nat → List Nat, (∀ (i : Nat) e, es[i]? = some e → e.p w (fp i) ∧ ∀ b ∈ fp i, (B ≤ b ∨ b ∈ M) ∧ b < w.heap.size) ∧
    ∀ i j, i < es.length → j < es.length → i ≠ j → ∀ b ∈ fp i, b ∉ fp j

/-- The world outside M, below its old size, is as it was. -/
structure Bw (M : List Nat) (w0 w : World) : Prop where
  os : w.os = w0.os
  tape : w.tape = w0.tape
  output : w.output = w0.output
  size : w0.heap.size ≤ w.heap.size
  block : ∀ k, k < w0.heap.size → k ∉ M → w.heap[k]? = w0.heap[k]?

theorem Bw.refl (M : List Nat) (w : World) : Bw M w w := ⟨rfl, rfl, rfl, Nat.le_refl _, fun _ _ _ => rfl⟩

theorem Bw.trans {M N : List Nat} {a b c : World} (h : Bw M a b) (k : Bw N b c) (hN : ∀ x ∈ N, a.heap.size ≤ x ∨ x ∈ M) : Bw M a c :=
  ⟨k.os.trans h.os, k.tape.trans h.tape, k.output.trans h.output, Nat.le_trans h.size k.size, fun i hi hM =>
    (k.block i (Nat.lt_of_lt_of_le hi h.size) (fun hx => (hN i hx).elim (fun h => by omega) hM)).trans (h.block i hi hM)⟩

theorem Bw.trans0 {M : List Nat} {a b c : World} (h : Bw M a b) (k : Bw [] b c) : Bw M a c := h.trans k (by simp)

theorem Bw.below {w0 w : World} (h : Bw [] w0 w) : Below w0.heap.size w0 w :=
  ⟨h.os, h.tape, h.output, h.size, fun k hk => h.block k hk (by simp)⟩

theorem Bw.of_below {w0 w : World} (h : Below w0.heap.size w0 w) : Bw [] w0 w :=
  ⟨h.os, h.tape, h.output, h.size, fun k hk _ => h.block k hk⟩

theorem Bw.drew (w : World) : Bw [] w { w with drawn := w.drawn + 1 } := ⟨rfl, rfl, rfl, Nat.le_refl _, fun _ _ _ => rfl⟩

theorem Bw.cell {w0 w : World} (h : Bw [] w0 w) {p : Addr} {v : Value} (hp : w0.cell? p = some v) : w.cell? p = some v :=
  (World.cell?_of_block (w := w0) (h.block p.block (World.block_lt_of_cell? w0 p hp) (by simp))).trans hp

theorem Sep.nil (B : Nat) (M : List Nat) (w : World) : Sep B M w [] := ⟨fun _ => [], by simp, by simp⟩

/-- All old blocks as they were: the entries hold on. -/
theorem Sep.frame {B : Nat} {M : List Nat} {w w' : World} {es : List Own} (h : Sep B M w es) (hb : Bw [] w w') : Sep B M w' es := by
  obtain ⟨fp, h1, h2⟩ := h
  refine ⟨fp, fun i e he => ?_, h2⟩
  obtain ⟨hp, hbd⟩ := h1 i e he
  exact ⟨e.loc w w' _ hp fun b hm => hb.block b (hbd b hm).2 (by simp), fun b hm => ⟨(hbd b hm).1, Nat.lt_of_lt_of_le (hbd b hm).2 hb.size⟩⟩

/-- One entry and its blocks; and what it may be turned into. -/
theorem Sep.upd {B : Nat} {M : List Nat} {w : World} {es : List Own} (h : Sep B M w es) (hB : B ≤ w.heap.size) {i : Nat} {e : Own} (hi : es[i]? = some e) :
    ∃ fp, e.p w fp ∧ (∀ b ∈ fp, (B ≤ b ∨ b ∈ M) ∧ b < w.heap.size) ∧
      ∀ (w' : World) (e' : Own) (fp' : List Nat), e'.p w' fp' → w.heap.size ≤ w'.heap.size →
        (∀ b, b < w.heap.size → b ∉ fp → w'.heap[b]? = w.heap[b]?) → (∀ b ∈ fp', (b ∈ fp ∨ w.heap.size ≤ b) ∧ b < w'.heap.size) →
        Sep B M w' (es.set i e') := by
  obtain ⟨fp, h1, h2⟩ := h
  have hil : i < es.length := by
    rcases Nat.lt_or_ge i es.length with h | h
    · exact h
    · rw [List.getElem?_eq_none h] at hi; cases hi
  refine ⟨fp i, (h1 i e hi).1, (h1 i e hi).2, fun w' e' fp' he' hsz hsame hfp' => ?_⟩
  refine ⟨fun j => if j = i then fp' else fp j, fun j e2 hj => ?_, fun j k hj hk hjk b hb => ?_⟩
  · by_cases hji : j = i
    · subst hji
      rw [List.getElem?_set_self hil] at hj
      cases hj
      simp only [if_true]
      exact ⟨he', fun b hb => ⟨(hfp' b hb).1.elim (fun h => ((h1 j e hi).2 b h).1) (fun h => .inl (Nat.le_trans hB h)), (hfp' b hb).2⟩⟩
    · rw [List.getElem?_set_ne (Ne.symm hji)] at hj
      simp only [if_neg hji]
      have hjl : j < es.length := by
        rcases Nat.lt_or_ge j es.length with h | h
        · exact h
        · rw [List.getElem?_eq_none h] at hj; cases hj
      obtain ⟨hp, hbd⟩ := h1 j e2 hj
      exact ⟨e2.loc w w' _ hp fun b hm => hsame b (hbd b hm).2 (h2 j i hjl hil hji b hm), fun b hm => ⟨(hbd b hm).1, Nat.lt_of_lt_of_le (hbd b hm).2 hsz⟩⟩
  · simp only [List.length_set] at hj hk
    by_cases hji : j = i
    · subst hji
      simp only [if_true] at hb
      have hkj : ¬ k = j := fun h => hjk h.symm
      simp only [if_neg hkj]
      intro hbk
      rcases (hfp' b hb).1 with h | h
      · exact h2 j k hj hk hjk b h hbk
      · have hke : ∃ e3, es[k]? = some e3 := ⟨_, List.getElem?_eq_getElem hk⟩
        obtain ⟨e3, hke⟩ := hke
        have := ((h1 k e3 hke).2 b hbk).2
        omega
    · simp only [if_neg hji] at hb
      by_cases hki : k = i
      · subst hki
        simp only [if_true]
        intro hbk
        rcases (hfp' b hbk).1 with h | h
        · exact h2 j k hj hk hjk b hb h
        · have hje : ∃ e3, es[j]? = some e3 := ⟨_, List.getElem?_eq_getElem hj⟩
          obtain ⟨e3, hje⟩ := hje
          have := ((h1 j e3 hje).2 b hb).2
          omega
      · simp only [if_neg hki]
        exact h2 j k hj hk hjk b hb

/-- What a callee hands back in new memory joins the caller's entries. -/
theorem Sep.join {B : Nat} {M : List Nat} {w w' : World} {es rs : List Own} (h : Sep B M w es) (hb : Bw [] w w') (hB : B ≤ w.heap.size) (hr : Sep w.heap.size [] w' rs) : Sep B M w' (es ++ rs) := by
  obtain ⟨fp, h1, h2⟩ := h
  obtain ⟨fq, k1, k2⟩ := hr
  have old : ∀ j, j < es.length → ∀ b ∈ fp j, b < w.heap.size := fun j hj b hbm =>
    ((h1 j _ (List.getElem?_eq_getElem hj)).2 b hbm).2
  have new : ∀ j, j < rs.length → ∀ b ∈ fq j, w.heap.size ≤ b := fun j hj b hbm => by
    simpa using ((k1 j _ (List.getElem?_eq_getElem hj)).2 b hbm).1
  refine ⟨fun j => if j < es.length then fp j else fq (j - es.length), fun j e hj => ?_, fun j k hj hk hjk b hbj => ?_⟩
  · by_cases hjl : j < es.length
    · rw [List.getElem?_append_left hjl] at hj
      simp only [if_pos hjl]
      obtain ⟨hp, hbd⟩ := h1 j e hj
      exact ⟨e.loc w w' _ hp fun b hm => hb.block b (hbd b hm).2 (by simp), fun b hm => ⟨(hbd b hm).1, Nat.lt_of_lt_of_le (hbd b hm).2 hb.size⟩⟩
    · rw [List.getElem?_append_right (by omega)] at hj
      simp only [if_neg hjl]
      obtain ⟨hp, hbd⟩ := k1 _ e hj
      refine ⟨hp, fun b hm => ⟨.inl ?_, (hbd b hm).2⟩⟩
      have := (hbd b hm).1
      simp at this
      omega
  · simp only [List.length_append] at hj hk
    by_cases hjl : j < es.length <;> by_cases hkl : k < es.length
    · simp only [if_pos hjl, if_pos hkl] at hbj ⊢
      exact h2 j k hjl hkl hjk b hbj
    · simp only [if_pos hjl, if_neg hkl] at hbj ⊢
      intro hbk
      have a1 := old j hjl b hbj
      have a2 := new (k - es.length) (by omega) b hbk
      omega
    · simp only [if_neg hjl, if_pos hkl] at hbj ⊢
      intro hbk
      have a1 := old k hkl b hbk
      have a2 := new (j - es.length) (by omega) b hbj
      omega
    · simp only [if_neg hjl, if_neg hkl] at hbj ⊢
      exact k2 _ _ (by omega) (by omega) (by omega) b hbj

/-- A choice of the entries, in whatever order. -/
theorem Sep.sel {B : Nat} {M : List Nat} {w : World} {es : List Own} (h : Sep B M w es) (ix : List Nat) (es' : List Own) (hn : ix.Nodup) (he : ix.map (fun i => es[i]?) = es'.map some) : Sep B M w es' := by
  obtain ⟨fp, h1, h2⟩ := h
  have hlen : ix.length = es'.length := by have := congrArg List.length he; simpa using this
  have hget : ∀ j, j < ix.length → es[ix.getD j 0]? = es'[j]? := fun j hj => by
    have := congrArg (fun l : List (Option Own) => l[j]?) he
    have hj' : j < es'.length := by omega
    simp [List.getElem?_map, List.getElem?_eq_getElem hj, List.getElem?_eq_getElem hj'] at this
    simp [List.getElem?_eq_getElem hj, List.getElem?_eq_getElem hj', this]
  have hlt : ∀ j, j < ix.length → ix.getD j 0 < es.length := fun j hj => by
    have h3 := hget j hj
    rcases Nat.lt_or_ge (ix.getD j 0) es.length with h | h
    · exact h
    · rw [List.getElem?_eq_none h, List.getElem?_eq_getElem (by omega)] at h3
      cases h3
  refine ⟨fun j => fp (ix.getD j 0), fun j e hj => ?_, fun j k hj hk hjk b hb => ?_⟩
  · have hj' : j < ix.length := by
      rcases Nat.lt_or_ge j es'.length with h | h
      · omega
      · rw [List.getElem?_eq_none h] at hj; cases hj
    exact h1 _ e (by rw [hget j hj']; exact hj)
  · have hj' : j < ix.length := by omega
    have hk' : k < ix.length := by omega
    refine h2 _ _ (hlt j hj') (hlt k hk') (fun he => hjk ?_) b hb
    refine (List.getElem?_inj (l := ix) (i := j) (j := k) hj' hn).1 ?_
    simp [List.getElem?_eq_getElem hj', List.getElem?_eq_getElem hk'] at he ⊢
    exact he

/-- A block that the walk has just made. -/
theorem Sep.push {B : Nat} {M : List Nat} {w : World} {es : List Own} (h : Sep B M w es) (hB : B ≤ w.heap.size) (o : Obj) (e : Own) (he : e.p (w.alloc o) [w.heap.size]) : Sep B M (w.alloc o) (es ++ [e]) := by
  refine h.join ⟨rfl, rfl, rfl, by simp, fun k hk _ => Below.heap_alloc w o k hk⟩ hB ⟨fun _ => [w.heap.size], fun i e2 hi => ?_, fun i j hi hj hij => ?_⟩
  · cases i with
    | zero => simp at hi; subst hi; exact ⟨he, by simp⟩
    | succ i => simp at hi
  · simp at hi hj; omega

/-! ### The state of the walk -/

structure St (w0 : World) (M : List Nat) (n : Nat) (env : List (Nat × Value)) (es : List Own) (a : Act) (w : World) : Prop where
  env : EnvOk n env a
  bw : Bw M w0 w
  sep : Sep w0.heap.size M w es

theorem St.put {w0 : World} {M : List Nat} {n : Nat} {env : List (Nat × Value)} {es : List Own} {a : Act} {w : World} (h : St w0 M n env es a w) {d : Nat} (hd : Nat.blt d n = true) (v : Value) :
    St w0 M n ((d, v) :: env) es (a.put (some d) v) w := ⟨h.env.put hd v, h.bw, h.sep⟩

theorem St.weak {w0 : World} {M : List Nat} {n : Nat} {env env' : List (Nat × Value)} {es es' : List Own} {a : Act} {w : World} (h : St w0 M n env es a w) (hs : Sub env' env)
    (ix : List Nat) (hn : ix.Nodup) (he : ix.map (fun i => es[i]?) = es'.map some) : St w0 M n env' es' a w := ⟨h.env.sub hs, h.bw, h.sep.sel ix es' hn he⟩

theorem St.drew {w0 : World} {M : List Nat} {n : Nat} {env : List (Nat × Value)} {es : List Own} {a : Act} {w : World} (h : St w0 M n env es a w) : St w0 M n env es a { w with drawn := w.drawn + 1 } :=
  ⟨h.env, h.bw.trans0 (Bw.drew w), h.sep.frame (Bw.drew w)⟩

end Go.Sh
