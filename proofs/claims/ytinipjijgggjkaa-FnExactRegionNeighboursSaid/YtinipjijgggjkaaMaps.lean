/- Maps of one's own, the keys structs: whole numbers in them, or rows behind headers. -/
import Derived.Test.YtinipjijgggjkaaMore
import Derived.MapKept
import Derived.WideKeyRuns
namespace Go.Sh
open Go Go.RowKit

theorem run_getM {P : Program} {w : World} {r : Nat} {es : Array MapEntry} {c : Nat} (hb : w.heap[r]? = some (.map es c)) : (getObj r).run P w = .ok (.map es c) w := by
  simp [getObj, Sem.run, hb]
theorem run_setM {P : Program} {w : World} {r : Nat} {es : Array MapEntry} {c : Nat} (o : Obj) (hb : w.heap[r]? = some (.map es c)) : (setObj r o).run P w = .ok () { w with heap := w.heap.setIfInBounds r o } := by
  simp [setObj, Sem.run, hb]
section
variable {K V : Type}
def ents (kv : K → Value) (vv : V → Value) : Nat → List (K × V) → List MapEntry
  | _, [] => []
  | n, (a, v) :: r => { key := kv a, val := vv v, born := n } :: ents kv vv (n + 1) r
variable {kv : K → Value} {vv : V → Value}
theorem ents_length : ∀ (m : List (K × V)) (n : Nat), (ents kv vv n m).length = m.length
  | [], _ => rfl
  | (a, v) :: r, n => by simp [ents, ents_length r]
theorem ents_app : ∀ (m : List (K × V)) (k : K) (v : V) (n : Nat), ents kv vv n (m ++ [(k, v)]) = ents kv vv n m ++ [{ key := kv k, val := vv v, born := n + m.length }]
  | [], k, v, n => rfl
  | (a, w) :: r, k, v, n => by
    simp only [List.cons_append, ents, ents_app r k v (n + 1), List.length_cons]
    rw [show n + 1 + r.length = n + (r.length + 1) by omega]
theorem ents_born : ∀ (m : List (K × V)) (n j : Nat), j < m.length → (ents kv vv n m).findIdx? (fun e => (e.born : Int) == ((n + j : Nat) : Int)) = some j
  | [], n, j, h => by simp at h
  | (a, v) :: r, n, 0, h => by simp [ents, List.findIdx?_cons]
  | (a, v) :: r, n, j + 1, h => by
    have := ents_born r (n + 1) j (by simpa using h)
    rw [show n + 1 + j = n + (j + 1) by omega] at this
    simp only [ents, List.findIdx?_cons, this]
    rw [show ((n : Int) == ((n + (j + 1) : Nat) : Int)) = false by rw [beq_eq_false_iff_ne]; omega]
    rfl
end
section
variable {K V : Type} [DecidableEq K]
def mloc : List (K × V) → K → Option (Nat × V)
  | [], _ => none
  | (a, v) :: r, k => if k = a then some (0, v) else (mloc r k).map fun x => (x.1 + 1, x.2)
def mfind (m : List (K × V)) (k : K) : Option V := (mloc m k).map Prod.snd
def mput : List (K × V) → K → V → List (K × V)
  | [], k, v => [(k, v)]
  | (a, u) :: r, k, v => if k = a then (k, v) :: r else (a, u) :: mput r k v
/-- The entry is there; if it was not: with this value. -/
def mtouch : List (K × V) → K → V → List (K × V)
  | [], k, v => [(k, v)]
  | (a, u) :: r, k, v => if k = a then (a, u) :: r else (a, u) :: mtouch r k v
theorem mfind_nil (k : K) : mfind ([] : List (K × V)) k = none := rfl
theorem mfind_cons (a : K) (v : V) (r : List (K × V)) (k : K) : mfind ((a, v) :: r) k = if k = a then some v else mfind r k := by
  unfold mfind
  simp only [mloc]
  split
  · rfl
  · cases mloc r k <;> rfl
theorem mfind_put : ∀ (m : List (K × V)) (k : K) (v : V) (k' : K), mfind (mput m k v) k' = if k' = k then some v else mfind m k'
  | [], k, v, k' => by rw [mput, mfind_cons]
  | (a, u) :: r, k, v, k' => by
    rw [mput]
    by_cases h : k = a
    · rw [if_pos h, mfind_cons, mfind_cons]
      subst h
      split <;> rfl
    · rw [if_neg h, mfind_cons, mfind_cons, mfind_put r]
      by_cases h1 : k' = a
      · subst h1; simp [Ne.symm h]
      · simp [h1]
theorem mfind_touch : ∀ (m : List (K × V)) (k : K) (v : V) (k' : K), k' ≠ k → mfind (mtouch m k v) k' = mfind m k'
  | [], k, v, k', h => by rw [mtouch, mfind_cons, if_neg h]
  | (a, u) :: r, k, v, k', h => by
    rw [mtouch]
    by_cases h1 : k = a
    · rw [if_pos h1]
    · rw [if_neg h1, mfind_cons, mfind_cons, mfind_touch r k v k' h]
theorem mput_touch : ∀ (m : List (K × V)) (k : K) (z v : V), mput (mtouch m k z) k v = mput m k v
  | [], k, z, v => by simp [mtouch, mput]
  | (a, u) :: r, k, z, v => by
    rw [mtouch]
    by_cases h : k = a
    · rw [if_pos h]
    · rw [if_neg h, mput, mput, if_neg h, if_neg h, mput_touch r]
theorem mloc_touch : ∀ (m : List (K × V)) (k : K) (z : V), ∃ j u, mloc (mtouch m k z) k = some (j, u)
  | [], k, z => ⟨0, z, by simp [mtouch, mloc]⟩
  | (a, u) :: r, k, z => by
    rw [mtouch]
    by_cases h : k = a
    · rw [if_pos h]; exact ⟨0, u, by simp [mloc, h]⟩
    · obtain ⟨j, u', hj⟩ := mloc_touch r k z
      rw [if_neg h]
      exact ⟨j + 1, u', by simp [mloc, h, hj]⟩

variable {kv : K → Value} {vv : V → Value}
theorem ents_key : ∀ (m : List (K × V)) (k : K) (n i : Nat) (u : V), mloc m k = some (i, u) → (ents kv vv n m)[i]? = some { key := kv k, val := vv u, born := n + i }
  | [], k, n, i, u, h => by simp [mloc] at h
  | (a, v) :: r, k, n, i, u, h => by
    simp only [mloc] at h
    by_cases hk : k = a
    · rw [if_pos hk] at h
      simp only [Option.some.injEq, Prod.mk.injEq] at h
      obtain ⟨rfl, rfl⟩ := h
      subst hk
      simp [ents]
    · rw [if_neg hk] at h
      cases hm : mloc r k with
      | none => rw [hm] at h; cases h
      | some x =>
        rw [hm] at h
        simp only [Option.map_some, Option.some.injEq, Prod.mk.injEq] at h
        obtain ⟨rfl, rfl⟩ := h
        have := ents_key r k (n + 1) x.1 x.2 hm
        simp only [ents, List.getElem?_cons_succ, this]
        congr 2; omega
theorem ents_modify (v : V) : ∀ (m : List (K × V)) (k : K) (n i : Nat) (u : V), mloc m k = some (i, u) → (ents kv vv n m).modify i (fun e => { e with key := kv k, val := vv v }) = ents kv vv n (mput m k v)
  | [], k, n, i, u, h => by simp [mloc] at h
  | (a, w) :: r, k, n, i, u, h => by
    simp only [mloc] at h
    rw [mput]
    by_cases hk : k = a
    · rw [if_pos hk] at h
      simp only [Option.some.injEq, Prod.mk.injEq] at h
      obtain ⟨rfl, rfl⟩ := h
      rw [if_pos hk]
      simp [ents]
    · rw [if_neg hk] at h
      cases hm : mloc r k with
      | none => rw [hm] at h; cases h
      | some x =>
        rw [hm] at h
        simp only [Option.map_some, Option.some.injEq, Prod.mk.injEq] at h
        obtain ⟨rfl, rfl⟩ := h
        rw [if_neg hk]
        simp only [ents, List.modify_succ_cons, ents_modify v r k (n + 1) x.1 x.2 hm]
theorem ents_modK : ∀ (m : List (K × V)) (k : K) (n i : Nat) (u : V), mloc m k = some (i, u) → (ents kv vv n m).modify i (fun e => { e with key := kv k }) = ents kv vv n m
  | [], k, n, i, u, h => by simp [mloc] at h
  | (a, w) :: r, k, n, i, u, h => by
    simp only [mloc] at h
    by_cases hk : k = a
    · rw [if_pos hk] at h
      simp only [Option.some.injEq, Prod.mk.injEq] at h
      obtain ⟨rfl, rfl⟩ := h
      subst hk
      simp [ents]
    · rw [if_neg hk] at h
      cases hm : mloc r k with
      | none => rw [hm] at h; cases h
      | some x =>
        rw [hm] at h
        simp only [Option.map_some, Option.some.injEq, Prod.mk.injEq] at h
        obtain ⟨rfl, rfl⟩ := h
        simp only [ents, List.modify_succ_cons, ents_modK r k (n + 1) x.1 x.2 hm]
theorem touch_here : ∀ (m : List (K × V)) (k : K) (z : V) (i : Nat) (u : V), mloc m k = some (i, u) → mtouch m k z = m
  | [], k, z, i, u, h => by simp [mloc] at h
  | (a, w) :: r, k, z, i, u, h => by
    simp only [mloc] at h
    rw [mtouch]
    by_cases hk : k = a
    · rw [if_pos hk]
    · rw [if_neg hk] at h ⊢
      cases hm : mloc r k with
      | none => rw [hm] at h; cases h
      | some x => rw [touch_here r k z x.1 x.2 hm]
theorem put_len : ∀ (m : List (K × V)) (k : K) (v : V) (i : Nat) (u : V), mloc m k = some (i, u) → (mput m k v).length = m.length
  | [], k, v, i, u, h => by simp [mloc] at h
  | (a, w) :: r, k, v, i, u, h => by
    simp only [mloc] at h
    rw [mput]
    by_cases hk : k = a
    · rw [if_pos hk]; rfl
    · rw [if_neg hk] at h ⊢
      cases hm : mloc r k with
      | none => rw [hm] at h; cases h
      | some x => simp only [List.length_cons, put_len r k v x.1 x.2 hm]
theorem put_new : ∀ (m : List (K × V)) (k : K) (v : V), mloc m k = none → mput m k v = m ++ [(k, v)] ∧ mtouch m k v = m ++ [(k, v)]
  | [], k, v, _ => ⟨rfl, rfl⟩
  | (a, w) :: r, k, v, h => by
    simp only [mloc] at h
    by_cases hk : k = a
    · rw [if_pos hk] at h; cases h
    · rw [if_neg hk] at h
      have hm : mloc r k = none := by cases hm : mloc r k with
        | none => rfl
        | some x => rw [hm] at h; cases h
      obtain ⟨h1, h2⟩ := put_new r k v hm
      rw [mput, mtouch, if_neg hk, if_neg hk, h1, h2]
      exact ⟨rfl, rfl⟩
theorem mloc_lt : ∀ (m : List (K × V)) (k : K) (i : Nat) (u : V), mloc m k = some (i, u) → i < m.length
  | [], k, i, u, h => by simp [mloc] at h
  | (a, v) :: r, k, i, u, h => by
    simp only [mloc] at h
    by_cases hk : k = a
    · rw [if_pos hk] at h
      simp only [Option.some.injEq, Prod.mk.injEq] at h
      simp [← h.1]
    · rw [if_neg hk] at h
      cases hm : mloc r k with
      | none => rw [hm] at h; cases h
      | some x =>
        rw [hm] at h
        simp only [Option.map_some, Option.some.injEq, Prod.mk.injEq] at h
        have := mloc_lt r k x.1 x.2 hm
        simp only [List.length_cons]; omega
theorem ents_modV (v : V) : ∀ (m : List (K × V)) (k : K) (n i : Nat) (u : V), mloc m k = some (i, u) → (ents kv vv n m).modify i (fun e => { e with val := vv v }) = ents kv vv n (mput m k v)
  | m, k, n, i, u, h => by
    rw [← ents_modify v m k n i u h]
    apply List.ext_getElem?
    intro j
    rw [List.getElem?_modify, List.getElem?_modify]
    by_cases hj : i = j
    · subst hj
      rw [ents_key m k n i u h]
      simp
    · simp [hj]

/-- What the model asks of a key's type. -/
structure KeyOk (P : Program) (kt : TypeId) (kv : K → Value) : Prop where
  wide : (match P.underlying kt with | some (.array _ _) | some (.struct _) => true | _ => false) = true
  chk : ∀ b k w, (Instr.checkKey b 10000 kt (kv k)).run P w = .ok () w
  eq : ∀ k k' w, (Op.equal kt (kv k) (kv k')).run P w = .ok (decide (k = k')) w
  bits : ∀ k, Instr.sameBits 10000 (kv k) (kv k) = true

variable {P : Program} {kt : TypeId}
theorem run_find (hk : KeyOk P kt kv) (k : K) (w : World) : ∀ (m : List (K × V)) (n i : Nat), (Instr.findAsking kt (kv k) (ents kv vv n m) i).run P w = .ok ((mloc m k).map fun x => (i + x.1, vv x.2)) w
  | [], n, i => by simp [ents, Instr.findAsking, mloc]
  | (a, v) :: r, n, i => by
    simp only [ents, Instr.findAsking, Sem.run_bind, hk.eq, Result.andThen_ok, mloc]
    by_cases h : k = a
    · simp [h]
    · have := run_find hk k w r (n + 1) (i + 1)
      simp only [h, decide_false, Bool.false_eq_true, if_false, this]
      cases mloc r k with
      | none => rfl
      | some x => simp; omega
theorem run_findK (hk : KeyOk P kt kv) (k : K) (w : World) (m : List (K × V)) : (Instr.findKey kt (kv k) (ents kv vv 0 m)).run P w = .ok ((mloc m k).map fun x => (x.1, vv x.2)) w := by
  rw [run_findKey_eq w hk.wide, run_find hk k w m 0 0]
  cases mloc m k <;> simp

def mapB (kv : K → Value) (vv : V → Value) (m : List (K × V)) : Obj := .map (ents kv vv 0 m).toArray m.length
def setO (w : World) (g : Nat) (o : Obj) : World := { w with heap := w.heap.setIfInBounds g o }
theorem setO_here {w : World} {g : Nat} {o o' : Obj} (h : w.heap[g]? = some o) : (setO w g o').heap[g]? = some o' := by
  have hlt : g < w.heap.size := (Array.getElem?_eq_some_iff.1 h).1
  simp [setO, hlt]
theorem setO_other (w : World) (g k : Nat) (o' : Obj) (h : k ≠ g) : (setO w g o').heap[k]? = w.heap[k]? := by simp [setO, Ne.symm h]
theorem bw_setO (w : World) (g : Nat) (o : Obj) : Bw [g] w (setO w g o) := ⟨rfl, rfl, rfl, by simp [setO], fun k _ hM => setO_other w g k o (by simpa using hM)⟩
theorem setO_size (w : World) (g : Nat) (o : Obj) : (setO w g o).heap.size = w.heap.size := by simp [setO]

theorem run_lookM (hk : KeyOk P kt kv) {t vt : TypeId} (ht : P.underlying t = some (.map kt vt)) {z : Value} (hz : ∀ w, (zeroValue vt).run P w = .ok z w) {w : World} {g : Nat} {m : List (K × V)} (hg : w.heap[g]? = some (mapB kv vv m)) (k : K) (c : Bool) :
    (Instr.lookup t (.map (some g)) (kv k) c).run P w = .ok (if c then .tuple #[((mfind m k).map vv).getD z, .bool (mfind m k).isSome] else ((mfind m k).map vv).getD z) w := by
  have hf := run_findK (vv := vv) hk k w m
  have hg' : w.heap[g]? = some (.map (ents kv vv 0 m).toArray m.length) := hg
  unfold Instr.lookup mfind
  simp only [Sem.run_bind, run_underlying ht, Result.andThen_ok, run_getM hg', Sem.run_pure, hk.chk, hf]
  cases mloc m k with
  | none => cases c <;> simp [hz]
  | some x => cases c <;> simp
theorem run_lookN (hk : KeyOk P kt kv) {t vt : TypeId} (ht : P.underlying t = some (.map kt vt)) {z : Value} (hz : ∀ w, (zeroValue vt).run P w = .ok z w) {w : World} (k : K) (c : Bool) :
    (Instr.lookup t (.map none) (kv k) c).run P w = .ok (if c then .tuple #[z, .bool false] else z) w := by
  have hf := run_findK (vv := fun _ : Unit => z) hk k w ([] : List (K × Unit))
  unfold Instr.lookup
  simp only [Sem.run_bind, run_underlying ht, Result.andThen_ok, Sem.run_pure, hk.chk]
  have hf' : (Instr.findKey kt (kv k) []).run P w = .ok none w := hf
  cases c <;> simp [hf', hz]
theorem run_putM (hk : KeyOk P kt kv) {t vt : TypeId} (ht : P.underlying t = some (.map kt vt)) {w : World} {g : Nat} {m : List (K × V)} (hg : w.heap[g]? = some (mapB kv vv m)) (k : K) (v : V) :
    (Instr.mapUpdate t (.map (some g)) (kv k) (vv v)).run P w = .ok () (setO w g (mapB kv vv (mput m k v))) := by
  have hf := run_findK (vv := vv) hk k w m
  have hg' : w.heap[g]? = some (.map (ents kv vv 0 m).toArray m.length) := hg
  unfold Instr.mapUpdate
  simp only [Sem.run_bind, run_underlying ht, Result.andThen_ok, run_getM hg', hk.chk, hf]
  cases hm : mloc m k with
  | none =>
    simp only [Option.map_none, run_setM _ hg', setO, mapB, (put_new m k v hm).1, ents_app, List.length_append, List.length_cons, List.length_nil, Nat.zero_add, List.push_toArray]
  | some x =>
    have hky := ents_key (kv := kv) (vv := vv) m k 0 x.1 x.2 hm
    have hb := hk.bits k
    simp only [Option.map_some, Instr.keyThatStays, List.getElem?_toArray, hky, Option.getD_some, hb, if_true, Sem.run_bind, Sem.run_pure, Result.andThen_ok, run_setM _ hg', setO, mapB, List.modify_toArray]
    rw [ents_modify v m k 0 x.1 x.2 hm, put_len m k v x.1 x.2 hm]
theorem run_entryM (hk : KeyOk P kt kv) {t vt : TypeId} (ht : P.underlying t = some (.map kt vt)) {z : V} (hz : ∀ w, (zeroValue vt).run P w = .ok (vv z) w) {w : World} {g : Nat} {m : List (K × V)} (hg : w.heap[g]? = some (mapB kv vv m)) (k : K) :
    ∃ v0 j u, (Instr.mapEntry t (.map (some g)) (kv k)).run P w = .ok (.tuple #[v0, .int .i64 ((j : Nat) : Int)]) (setO w g (mapB kv vv (mtouch m k z))) ∧ mloc (mtouch m k z) k = some (j, u) := by
  have hf := run_findK (vv := vv) hk k w m
  have hg' : w.heap[g]? = some (.map (ents kv vv 0 m).toArray m.length) := hg
  unfold Instr.mapEntry
  cases hm : mloc m k with
  | none =>
    refine ⟨vv z, m.length, z, ?_, ?_⟩
    · simp only [Sem.run_bind, run_underlying ht, Result.andThen_ok, run_getM hg', hk.chk, hf, hm, Option.map_none, hz, run_setM _ hg', Sem.run_pure, setO, mapB, (put_new m k z hm).2, ents_app, List.length_append, List.length_cons, List.length_nil, Nat.zero_add, List.push_toArray]
      rfl
    · rw [(put_new m k z hm).2]
      have := mloc_touch m k z
      rw [(put_new m k z hm).2] at this
      clear hf hg hg'
      induction m with
      | nil => simp [mloc]
      | cons p r ih =>
        obtain ⟨a, u⟩ := p
        simp only [mloc] at hm
        by_cases ha : k = a
        · rw [if_pos ha] at hm; cases hm
        · rw [if_neg ha] at hm
          have hm' : mloc r k = none := by cases h : mloc r k with
            | none => rfl
            | some x => rw [h] at hm; cases hm
          have hih := ih hm' (by have := mloc_touch r k z; rw [(put_new r k z hm').2] at this; exact this)
          simp only [List.cons_append, mloc, if_neg ha, hih, Option.map_some, List.length_cons]
  | some x =>
    have hky := ents_key (kv := kv) (vv := vv) m k 0 x.1 x.2 hm
    have hb := hk.bits k
    refine ⟨vv x.2, x.1, x.2, ?_, by rw [touch_here m k z x.1 x.2 hm]; exact hm⟩
    simp only [Sem.run_bind, run_underlying ht, Result.andThen_ok, run_getM hg', hk.chk, hf, hm, Option.map_some, Instr.keyThatStays, List.getElem?_toArray, hky, Option.getD_some, hb, if_true, Sem.run_pure, run_setM _ hg', setO, mapB, List.modify_toArray]
    rw [ents_modK m k 0 x.1 x.2 hm, touch_here m k z x.1 x.2 hm]
    simp [goInt]
theorem run_storeM {t : TypeId} {w : World} {g : Nat} {m : List (K × V)} (hg : w.heap[g]? = some (mapB kv vv m)) {k : K} {j : Nat} {u : V} (hj : mloc m k = some (j, u)) (v : V) :
    (Instr.entryStore t (.map (some g)) (.int .i64 (j : Int)) (vv v)).run P w = .ok () (setO w g (mapB kv vv (mput m k v))) := by
  have hg' : w.heap[g]? = some (.map (ents kv vv 0 m).toArray m.length) := hg
  have hbn := ents_born (kv := kv) (vv := vv) m 0 j (mloc_lt m k j u hj)
  rw [Nat.zero_add] at hbn
  unfold Instr.entryStore
  simp only [Sem.run_bind, Sem.run_pure, Result.andThen_ok, run_getM hg', asInt, asIntOf, List.findIdx?_toArray, hbn, run_setM _ hg', setO, mapB, List.modify_toArray, ents_modV v m k 0 j u hj, put_len m k v j u hj]
end

/-! ### entries -/
def hdV (h : Hd) : Value := .slice h.a h.n h.c
def nilHd : Hd := ⟨none, 0, 0⟩
def intV (x : Int) : Value := .int .i64 x
def kvE {K : Type} (e : Enc K) (k : K) : Value := .agg (e.f k).toArray
/-- A map to whole numbers; nil, or a block of one's own. -/
def MapIP {K : Type} (e : Enc K) (o : Option Nat) (m : List (K × Int)) (w : World) (fp : List Nat) : Prop :=
  (o = none ∧ m = [] ∧ fp = []) ∨ ∃ g, o = some g ∧ fp = [g] ∧ w.heap[g]? = some (mapB (kvE e) intV m)
def mapI {K : Type} (e : Enc K) (o : Option Nat) (m : List (K × Int)) : Own :=
  ⟨MapIP e o m, fun w w' fp h hb => by
    rcases h with h | ⟨g, h1, h2, h3⟩
    · exact .inl h
    · exact .inr ⟨g, h1, h2, by rw [hb g (by simp [h2])]; exact h3⟩⟩
section
variable {K : Type} {e : Enc K} {w : World} {P : Program} {w0 : World} {M : List Nat} {env : List (Nat × Value)} {es : List Own} {d : Option Tmp} {ty : TypeId} {ps : String} {af : Array Edge} {gd : Option (Nat × Bool)}
theorem rd_mapI {o : Option Nat} {mi : List (K × Int)} (h : Cl w0 M es w) (i : Nat) (hi : es[i]? = some (mapI e o mi)) : ∃ fp, MapIP e o mi w fp :=
  let ⟨fp, hp, _⟩ := h.2.get hi
  ⟨fp, hp⟩
theorem ef_makeMapI {t : TypeId} :
    Ef P w0 M es env { dst := d, op := .makeMap t none, type := ty, pos := ps, after := af, guard := gd } true (fun v es' => ∃ g, v = .map (some g) ∧ es' = es ++ [mapI e (some g) []]) := by
  intro ρ hρ w hC
  have hr : (execOp ρ { dst := d, op := .makeMap t none, type := ty, pos := ps, after := af, guard := gd }).run P w = .ok (.value (.map (some w.heap.size))) (w.alloc (.map #[] 0)) := by
    simp [execOp, Instr.makeMap]
  rw [hr]
  simp only [EfRes]
  exact good_alloc (e := mapI e (some w.heap.size) []) hC ⟨_, rfl, rfl⟩ (.inr ⟨_, rfl, rfl, heap_alloc_new w _⟩)
end
section
variable {K T : Type} [DecidableEq K]
def rowOf (m : List (K × List T)) (k : K) : List T := (mfind m k).getD []
def hdOf (mh : List (K × Hd)) (k : K) : Hd := (mfind mh k).getD nilHd
/-- The lengths in the headers are those of the rows. -/
def InnM (mh : List (K × Hd)) (m : List (K × List T)) : Prop := ∀ k, (hdOf mh k).n = (rowOf m k).length
/-- A map to rows; those of the keys os are out. -/
def MapRP (e : Enc K) (E : Nat) (eR : Enc T) (g : Nat) (os : List K) (mh : List (K × Hd)) (m : List (K × List T)) (w : World) (fp : List Nat) : Prop :=
  w.heap[g]? = some (mapB (kvE e) hdV mh) ∧ g ∈ fp ∧ ∃ f : K → List Nat,
    (∀ k, k ∉ os → RowP E eR.k (hdOf mh k).a (hdOf mh k).n (hdOf mh k).c (eR.fl (rowOf m k)) w (f k)) ∧
    (∀ k, k ∉ os → ∀ b ∈ f k, b ∈ fp ∧ b ≠ g) ∧ ∀ k k', k ∉ os → k' ∉ os → k ≠ k' → ∀ b ∈ f k, b ∉ f k'
def mapR (e : Enc K) (E : Nat) (eR : Enc T) (g : Nat) (os : List K) (mh : List (K × Hd)) (m : List (K × List T)) : Own :=
  ⟨MapRP e E eR g os mh m, fun w w' fp h hb => by
    obtain ⟨h1, h2, f, h3, h4, h5⟩ := h
    refine ⟨by rw [hb g h2]; exact h1, h2, f, fun k hk => ?_, h4, h5⟩
    exact (rowO E eR.k _ _ _ _).loc w w' (f k) (h3 k hk) fun b hbm => hb b (h4 k hk b hbm).1⟩
theorem rowOf_put (m : List (K × List T)) (k : K) (x : List T) (k' : K) : rowOf (mput m k x) k' = if k' = k then x else rowOf m k' := by
  unfold rowOf; rw [mfind_put]; split <;> rfl
theorem hdOf_put (m : List (K × Hd)) (k : K) (x : Hd) (k' : K) : hdOf (mput m k x) k' = if k' = k then x else hdOf m k' := by
  unfold hdOf; rw [mfind_put]; split <;> rfl
theorem hd_put {os : List K} {mh : List (K × Hd)} {k : K} (ho : k ∈ os) (y : Hd) (k' : K) (hk : k' ∉ os) : hdOf (mput mh k y) k' = hdOf mh k' := by
  have hne : k' ≠ k := fun h => hk (by rw [h]; exact ho)
  rw [hdOf_put, if_neg hne]
theorem hd_touch {os : List K} {mh : List (K × Hd)} {k : K} (ho : k ∈ os) (z : Hd) (k' : K) (hk : k' ∉ os) : hdOf (mtouch mh k z) k' = hdOf mh k' := by
  have hne : k' ≠ k := fun h => hk (by rw [h]; exact ho)
  unfold hdOf
  rw [mfind_touch _ _ _ _ hne]
theorem InnM.get {mh : List (K × Hd)} {m : List (K × List T)} (h : InnM mh m) (k : K) : ∃ ha hc, hdOf mh k = ⟨ha, (rowOf m k).length, hc⟩ :=
  ⟨(hdOf mh k).a, (hdOf mh k).c, by rw [← h k]⟩
theorem InnM.put {mh : List (K × Hd)} {m : List (K × List T)} (h : InnM mh m) (k : K) {a : Option Addr} {n c : Nat} {x : List T} (hn : x.length = n) : InnM (mput mh k ⟨a, n, c⟩) (mput m k x) := fun k' => by
  rw [hdOf_put, rowOf_put]
  split
  · exact hn.symm
  · exact h k'
theorem InnM.nil : InnM ([] : List (K × Hd)) ([] : List (K × List T)) := fun _ => rfl

variable {e : Enc K} {E : Nat} {eR : Enc T} {g : Nat} {os : List K} {mh mh' : List (K × Hd)} {m : List (K × List T)} {w : World} {fp : List Nat}
theorem mapRP_out (k : K) (hk : k ∉ os) (h : MapRP e E eR g os mh m w fp) :
    ∃ f1 f2, MapRP e E eR g (k :: os) mh m w f1 ∧ RowP E eR.k (hdOf mh k).a (hdOf mh k).n (hdOf mh k).c (eR.fl (rowOf m k)) w f2 ∧ (∀ b ∈ f1, b ∉ f2) ∧ (∀ b ∈ f1, b ∈ fp) ∧ ∀ b ∈ f2, b ∈ fp := by
  obtain ⟨h1, h2, f, h3, h4, h5⟩ := h
  refine ⟨fp.filter (fun b => decide (b ∉ f k)), f k, ⟨h1, ?_, f, fun k' hk' => h3 k' (fun h => hk' (List.mem_cons_of_mem _ h)), fun k' hk' b hb => ?_, fun k1 k2 g1 g2 => h5 k1 k2 (fun h => g1 (List.mem_cons_of_mem _ h)) (fun h => g2 (List.mem_cons_of_mem _ h))⟩, h3 k hk, fun b hb => ?_, fun b hb => ?_, fun b hb => (h4 k hk b hb).1⟩
  · simp only [List.mem_filter, decide_eq_true_eq]
    exact ⟨h2, fun hg => (h4 k hk g hg).2 rfl⟩
  · have hk2 : k' ∉ os := fun h => hk' (List.mem_cons_of_mem _ h)
    have hne : k' ≠ k := fun h => hk' (h ▸ List.mem_cons_self ..)
    obtain ⟨h6, h7⟩ := h4 k' hk2 b hb
    simp only [List.mem_filter, decide_eq_true_eq]
    exact ⟨⟨h6, h5 k' k hk2 hk hne b hb⟩, h7⟩
  · simp only [List.mem_filter, decide_eq_true_eq] at hb
    exact hb.2
  · simp only [List.mem_filter] at hb
    exact hb.1
theorem mapRP_in {k : K} (hk : k ∉ os) {a : Option Addr} {n c : Nat} {x : List T} (hh : hdOf mh k = ⟨a, n, c⟩) (f1 f2 : List Nat) (h : MapRP e E eR g (k :: os) mh m w f1) (hr : RowP E eR.k a n c (eR.fl x) w f2) (hd : ∀ b ∈ f1, b ∉ f2) :
    MapRP e E eR g os mh (mput m k x) w (f1 ++ f2) := by
  obtain ⟨h1, h2, f, h3, h4, h5⟩ := h
  have ho : ∀ k', k' ∉ os → k' ≠ k → k' ∉ k :: os := fun k' h6 h7 h8 => by
    rcases List.mem_cons.1 h8 with h9 | h9
    · exact h7 h9
    · exact h6 h9
  refine ⟨h1, List.mem_append_left _ h2, fun k' => if k' = k then f2 else f k', fun k' hk' => ?_, fun k' hk' b hb => ?_, fun k1 k2 g1 g2 hne b hb => ?_⟩
  · by_cases hkk : k' = k
    · subst hkk
      simp only [if_true, rowOf_put, hh]
      exact hr
    · simp only [if_neg hkk, rowOf_put]
      exact h3 k' (ho k' hk' hkk)
  · by_cases hkk : k' = k
    · simp only [if_pos hkk] at hb
      exact ⟨List.mem_append_right _ hb, fun hg => hd g h2 (hg ▸ hb)⟩
    · simp only [if_neg hkk] at hb
      obtain ⟨h6, h7⟩ := h4 k' (ho k' hk' hkk) b hb
      exact ⟨List.mem_append_left _ h6, h7⟩
  · by_cases hk1 : k1 = k
    · simp only [if_pos hk1] at hb
      have hk2 : k2 ≠ k := fun h => hne (hk1.trans h.symm)
      simp only [if_neg hk2]
      intro hb2
      exact hd b (h4 k2 (ho k2 g2 hk2) b hb2).1 hb
    · simp only [if_neg hk1] at hb
      by_cases hk2 : k2 = k
      · simp only [if_pos hk2]
        exact hd b (h4 k1 (ho k1 g1 hk1) b hb).1
      · simp only [if_neg hk2]
        exact h5 k1 k2 (ho k1 g1 hk1) (ho k2 g2 hk2) hne b hb
theorem mapRP_hdr (h : MapRP e E eR g os mh m w fp) (hh : ∀ k, k ∉ os → hdOf mh' k = hdOf mh k) : MapRP e E eR g os mh' m (setO w g (mapB (kvE e) hdV mh')) fp := by
  obtain ⟨h1, h2, f, h3, h4, h5⟩ := h
  refine ⟨setO_here h1, h2, f, fun k hk => ?_, h4, h5⟩
  rw [hh k hk]
  exact (rowO E eR.k _ _ _ _).loc w _ (f k) (h3 k hk) fun b hb => setO_other w g b _ (h4 k hk b hb).2
theorem rowP_nil {w : World} : RowP E eR.k none 0 0 (eR.fl []) w [] := ⟨by simp [Enc.fl], Nat.le_refl _, .inl ⟨rfl, rfl, rfl⟩⟩
theorem mapRP_new {w : World} : MapRP e E eR w.heap.size [] [] ([] : List (K × List T)) (w.alloc (.map #[] 0)) [w.heap.size] :=
  ⟨heap_alloc_new w _, by simp, fun _ => [], fun _ _ => rowP_nil, fun _ _ b hb => by simp at hb, fun _ _ _ _ _ b hb => by simp at hb⟩

section
variable {P : Program} {w0 : World} {M : List Nat} {env : List (Nat × Value)} {es : List Own} {d : Option Tmp} {ty : TypeId} {ps : String} {af : Array Edge} {gd : Option (Nat × Bool)}
theorem rd_mapR (h : Cl w0 M es w) (i : Nat) (hi : es[i]? = some (mapR e E eR g os mh m)) : w.heap[g]? = some (mapB (kvE e) hdV mh) :=
  let ⟨_, hp, _⟩ := h.2.get hi
  hp.1
theorem rd_rowM {k : K} {a : Option Addr} {n c : Nat} (h : Cl w0 M es w) (i : Nat) (hi : es[i]? = some (mapR e E eR g [] mh m)) (hh : hdOf mh k = ⟨a, n, c⟩) : Rd w a (eR.fl (rowOf m k)) := by
  obtain ⟨_, hp, _⟩ := h.2.get hi
  obtain ⟨_, _, f, h3, _⟩ := hp
  have := h3 k (by simp)
  rw [hh] at this
  exact RowP.rd this
theorem ln_rowM {k : K} {a : Option Addr} {n c : Nat} (h : Cl w0 M es w) (i : Nat) (hi : es[i]? = some (mapR e E eR g [] mh m)) (hh : hdOf mh k = ⟨a, n, c⟩) : n ≤ c := by
  obtain ⟨_, hp, _⟩ := h.2.get hi
  obtain ⟨_, _, f, h3, _⟩ := hp
  have := h3 k (by simp)
  rw [hh] at this
  exact this.2.1
theorem good_setO (hC : Cl w0 M es w) {i g : Nat} {e e' : Own} (hi : es[i]? = some e) (ob : Obj) (hg : ∀ fp, e.p w fp → g ∈ fp) (he : ∀ fp, e.p w fp → e'.p (setO w g ob) fp) {F : Value → List Own → Prop} {v : Value} (hT : F v (es.set i e')) :
    Good w0 M false F w v (setO w g ob) := by
  obtain ⟨fp, hp, hbd, hup⟩ := hC.2.upd hC.1.size hi
  have hgf := hg fp hp
  refine ⟨_, hT, hC.1.trans (bw_setO w g ob) (by simpa using (hbd g hgf).1), hup _ e' fp (he fp hp) (by rw [setO_size]; exact Nat.le_refl _) (fun b _ hb => setO_other w g b ob (fun h => hb (h ▸ hgf))) (fun b hb => ⟨.inl hb, by rw [setO_size]; exact (hbd b hb).2⟩), fun h => by cases h⟩

theorem yl_lookI {C : World → Prop} {x y : Operand} {t kt vt : TypeId} {o : Option Nat} {mi : List (K × Int)} {k : K} (ht : P.underlying t = some (.map kt vt)) (hz : ∀ w, (zeroValue vt).run P w = .ok (intV 0) w) (hk : KeyOk P kt (kvE e)) (hx : ev env x = some (.map o)) (hy : ev env y = some (kvE e k))
    (hC : ∀ w, C w → ∃ fp, MapIP e o mi w fp) : Yl P C env { dst := d, op := .lookup t x y false, type := ty, pos := ps, after := af, guard := gd } (.int .i64 ((mfind mi k).getD 0)) := by
  intro ρ hρ w hw
  obtain ⟨fp, hp⟩ := hC w hw
  have hr : (Instr.lookup t (.map o) (kvE e k) false).run P w = .ok (.int .i64 ((mfind mi k).getD 0)) w := by
    rcases hp with ⟨rfl, rfl, _⟩ | ⟨g, rfl, _, hg⟩
    · rw [run_lookN (kv := kvE e) hk ht hz k false]; rfl
    · rw [run_lookM hk ht hz hg k false]
      cases mfind mi k <;> rfl
  simp [execOp, hρ _ _ hx, hρ _ _ hy, hr]
theorem yl_lookIok {C : World → Prop} {x y : Operand} {t kt vt : TypeId} {o : Option Nat} {mi : List (K × Int)} {k : K} (ht : P.underlying t = some (.map kt vt)) (hz : ∀ w, (zeroValue vt).run P w = .ok (intV 0) w) (hk : KeyOk P kt (kvE e)) (hx : ev env x = some (.map o)) (hy : ev env y = some (kvE e k))
    (hC : ∀ w, C w → ∃ fp, MapIP e o mi w fp) : Yl P C env { dst := d, op := .lookup t x y true, type := ty, pos := ps, after := af, guard := gd } (.tuple #[.int .i64 ((mfind mi k).getD 0), .bool (mfind mi k).isSome]) := by
  intro ρ hρ w hw
  obtain ⟨fp, hp⟩ := hC w hw
  have hr : (Instr.lookup t (.map o) (kvE e k) true).run P w = .ok (.tuple #[.int .i64 ((mfind mi k).getD 0), .bool (mfind mi k).isSome]) w := by
    rcases hp with ⟨rfl, rfl, _⟩ | ⟨g, rfl, _, hg⟩
    · rw [run_lookN (kv := kvE e) hk ht hz k true]; rfl
    · rw [run_lookM hk ht hz hg k true]
      cases mfind mi k <;> rfl
  simp [execOp, hρ _ _ hx, hρ _ _ hy, hr]
theorem yl_lookR {C : World → Prop} {x y : Operand} {t kt vt : TypeId} {k : K} {a : Option Addr} {n c : Nat} (ht : P.underlying t = some (.map kt vt)) (hz : ∀ w, (zeroValue vt).run P w = .ok (hdV nilHd) w) (hk : KeyOk P kt (kvE e)) (hx : ev env x = some (.map (some g))) (hy : ev env y = some (kvE e k))
    (hh : hdOf mh k = ⟨a, n, c⟩) (hC : ∀ w, C w → w.heap[g]? = some (mapB (kvE e) hdV mh)) : Yl P C env { dst := d, op := .lookup t x y false, type := ty, pos := ps, after := af, guard := gd } (.slice a n c) := by
  intro ρ hρ w hw
  have hr := run_lookM hk ht hz (hC w hw) k false
  have hv : ((mfind mh k).map hdV).getD (hdV nilHd) = .slice a n c := by
    have : hdV (hdOf mh k) = .slice a n c := by rw [hh]; rfl
    rw [← this]; unfold hdOf
    cases mfind mh k <;> rfl
  simp [execOp, hρ _ _ hx, hρ _ _ hy, hr, hv]
theorem ef_makeMapR {t : TypeId} (E : Nat) (eR : Enc T) :
    Ef P w0 M es env { dst := d, op := .makeMap t none, type := ty, pos := ps, after := af, guard := gd } true (fun v es' => ∃ g, v = .map (some g) ∧ es' = es ++ [mapR e E eR g [] [] []]) := by
  intro ρ hρ w hC
  have hr : (execOp ρ { dst := d, op := .makeMap t none, type := ty, pos := ps, after := af, guard := gd }).run P w = .ok (.value (.map (some w.heap.size))) (w.alloc (.map #[] 0)) := by
    simp [execOp, Instr.makeMap]
  rw [hr]
  simp only [EfRes]
  exact good_alloc (e := mapR e E eR w.heap.size [] [] []) hC ⟨_, rfl, rfl⟩ mapRP_new
theorem ef_mapUpdI {x y z : Operand} {t kt vt : TypeId} {i : Nat} {g : Nat} {mi : List (K × Int)} {k : K} {v : Int} (ht : P.underlying t = some (.map kt vt)) (hk : KeyOk P kt (kvE e)) (hx : ev env x = some (.map (some g))) (hy : ev env y = some (kvE e k)) (hz : ev env z = some (.int .i64 v)) (he : es[i]? = some (mapI e (some g) mi)) :
    Ef P w0 M es env { dst := d, op := .mapUpdate t x y z, type := ty, pos := ps, after := af, guard := gd } false (fun _ es' => es' = es.set i (mapI e (some g) (mput mi k v))) := by
  intro ρ hρ w hC
  obtain ⟨fp, hp⟩ := rd_mapI hC i he
  rcases hp with ⟨h, _⟩ | ⟨g2, h, _, hg⟩
  · cases h
  · cases h
    have hr : (Instr.mapUpdate t (.map (some g)) (kvE e k) (.int .i64 v)).run P w = .ok () (setO w g (mapB (kvE e) intV (mput mi k v))) := run_putM (vv := intV) hk ht hg k v
    have hr2 : (execOp ρ { dst := d, op := .mapUpdate t x y z, type := ty, pos := ps, after := af, guard := gd }).run P w = .ok .skip (setO w g (mapB (kvE e) intV (mput mi k v))) := by
      simp [execOp, hρ _ _ hx, hρ _ _ hy, hρ _ _ hz, hr]
    rw [hr2]
    simp only [EfRes]
    refine good_setO (e' := mapI e (some g) (mput mi k v)) hC he _ (fun fp h => ?_) (fun fp h => ?_) rfl
    · rcases h with ⟨h, _⟩ | ⟨g2, h, h2, _⟩
      · cases h
      · cases h; simp [h2]
    · rcases h with ⟨h, _⟩ | ⟨g2, h, h2, h3⟩
      · cases h
      · cases h; exact .inr ⟨g, rfl, h2, setO_here h3⟩
theorem ef_mapUpdR {x y z : Operand} {t kt vt : TypeId} {i : Nat} {k : K} {a : Option Addr} {n c : Nat} (ht : P.underlying t = some (.map kt vt)) (hk : KeyOk P kt (kvE e)) (hx : ev env x = some (.map (some g))) (hy : ev env y = some (kvE e k)) (hz : ev env z = some (.slice a n c)) (he : es[i]? = some (mapR e E eR g os mh m)) (ho : k ∈ os) :
    Ef P w0 M es env { dst := d, op := .mapUpdate t x y z, type := ty, pos := ps, after := af, guard := gd } false (fun _ es' => es' = es.set i (mapR e E eR g os (mput mh k ⟨a, n, c⟩) m)) := by
  intro ρ hρ w hC
  have hg := rd_mapR hC i he
  have hr : (Instr.mapUpdate t (.map (some g)) (kvE e k) (.slice a n c)).run P w = .ok () (setO w g (mapB (kvE e) hdV (mput mh k ⟨a, n, c⟩))) := run_putM (vv := hdV) hk ht hg k ⟨a, n, c⟩
  have hr2 : (execOp ρ { dst := d, op := .mapUpdate t x y z, type := ty, pos := ps, after := af, guard := gd }).run P w = .ok .skip (setO w g (mapB (kvE e) hdV (mput mh k ⟨a, n, c⟩))) := by
    simp [execOp, hρ _ _ hx, hρ _ _ hy, hρ _ _ hz, hr]
  rw [hr2]
  simp only [EfRes]
  exact good_setO (e' := mapR e E eR g os (mput mh k ⟨a, n, c⟩) m) hC he _ (fun fp h => h.2.1) (fun fp h => mapRP_hdr h fun k' hk' => hd_put ho _ k' hk') rfl
theorem ef_mapEntry {x y : Operand} {t kt vt : TypeId} {i : Nat} {k : K} (ht : P.underlying t = some (.map kt vt)) (hzv : ∀ w, (zeroValue vt).run P w = .ok (hdV nilHd) w) (hk : KeyOk P kt (kvE e)) (hx : ev env x = some (.map (some g))) (hy : ev env y = some (kvE e k)) (he : es[i]? = some (mapR e E eR g os mh m)) (ho : k ∈ os) :
    Ef P w0 M es env { dst := d, op := .mapEntry t x y, type := ty, pos := ps, after := af, guard := gd } false (fun v es' => ∃ v0 j u, mloc (mtouch mh k nilHd) k = some (j, u) ∧ v = .tuple #[v0, .int .i64 ((j : Nat) : Int)] ∧ es' = es.set i (mapR e E eR g os (mtouch mh k nilHd) m)) := by
  intro ρ hρ w hC
  have hg := rd_mapR hC i he
  obtain ⟨v0, j, u, hr, hj⟩ := run_entryM (z := nilHd) hk ht hzv hg k
  have hr2 : (execOp ρ { dst := d, op := .mapEntry t x y, type := ty, pos := ps, after := af, guard := gd }).run P w = .ok (.value (.tuple #[v0, .int .i64 ((j : Nat) : Int)])) (setO w g (mapB (kvE e) hdV (mtouch mh k nilHd))) := by
    simp [execOp, hρ _ _ hx, hρ _ _ hy, hr]
  rw [hr2]
  simp only [EfRes]
  exact good_setO (e' := mapR e E eR g os (mtouch mh k nilHd) m) hC he _ (fun fp h => h.2.1) (fun fp h => mapRP_hdr h fun k' hk' => hd_touch ho _ k' hk') ⟨v0, j, u, hj, rfl, rfl⟩
theorem ef_entryStore {x y z : Operand} {t : TypeId} {i : Nat} {k : K} {a : Option Addr} {n c j : Nat} {u : Hd} (hx : ev env x = some (.map (some g))) (hy : ev env y = some (.int .i64 ((j : Nat) : Int))) (hz : ev env z = some (.slice a n c)) (hj : mloc (mtouch mh k nilHd) k = some (j, u)) (he : es[i]? = some (mapR e E eR g os (mtouch mh k nilHd) m)) (ho : k ∈ os) :
    Ef P w0 M es env { dst := d, op := .entryStore t x y z, type := ty, pos := ps, after := af, guard := gd } false (fun _ es' => es' = es.set i (mapR e E eR g os (mput mh k ⟨a, n, c⟩) m)) := by
  intro ρ hρ w hC
  have hg := rd_mapR hC i he
  have hr : (Instr.entryStore t (.map (some g)) (.int .i64 ((j : Nat) : Int)) (.slice a n c)).run P w = .ok () (setO w g (mapB (kvE e) hdV (mput mh k ⟨a, n, c⟩))) := by
    rw [← mput_touch mh k nilHd]
    exact run_storeM (vv := hdV) hg hj ⟨a, n, c⟩
  have hr2 : (execOp ρ { dst := d, op := .entryStore t x y z, type := ty, pos := ps, after := af, guard := gd }).run P w = .ok .skip (setO w g (mapB (kvE e) hdV (mput mh k ⟨a, n, c⟩))) := by
    simp [execOp, hρ _ _ hx, hρ _ _ hy, hρ _ _ hz, hr]
  rw [hr2]
  simp only [EfRes]
  exact good_setO (e' := mapR e E eR g os (mput mh k ⟨a, n, c⟩) m) hC he _ (fun fp h => h.2.1) (fun fp h => mapRP_hdr h fun k' hk' => (hd_put ho _ k' hk').trans (hd_touch ho _ k' hk').symm) rfl
end
section
variable {P : Program} {w0 : World} {M N : List Nat} {n : Nat} {X : Act → World → Prop} {Q : Exit → Act → World → Prop} {env : List (Nat × Value)} {es es' : List Own} {a : Act} {cd : Code}
theorem JX.mapout (ix : List Nat) (hn : ix.Nodup) (he : ix.map (fun i => es[i]?) = (es' ++ [mapR e E eR g os mh m]).map some) {k : K} {ad : Option Addr} {l c : Nat} (hk : k ∉ os) (hh : hdOf mh k = ⟨ad, l, c⟩)
    (kk : JX P w0 M n X Q env (es' ++ [mapR e E eR g (k :: os) mh m, rowT E eR ad l c (rowOf m k)]) cd) : JX P w0 M n X Q env es cd := fun a w h =>
  kk a w (h.split2 ix hn he fun f hf => by
    have := mapRP_out k hk hf
    rw [hh] at this
    exact this)
theorem JE.mapin (ix : List Nat) (hn : ix.Nodup) {ad : Option Addr} {l c : Nat} {k : K} {x : List T} (he : ix.map (fun i => es[i]?) = (es' ++ [mapR e E eR g (k :: os) mh m, rowT E eR ad l c x]).map some) (hk : k ∉ os) (hh : hdOf mh k = ⟨ad, l, c⟩)
    (kk : JE w0 M n X env (es' ++ [mapR e E eR g os mh (mput m k x)])) : JE w0 M n X env es := fun a w h =>
  kk a w (h.merge2 ix hn he fun f1 f2 h1 h2 hd => mapRP_in hk hh f1 f2 h1 h2 hd)
end
/-- Two keys are not one. -/
def neqG (a b : K) : Option Unit := if a = b then none else some ()
theorem neqG_some {a b : K} {u : Unit} (h : neqG a b = some u) : a ≠ b := by
  unfold neqG at h
  split at h
  · cases h
  · assumption
end
theorem JE.nilmap {K : Type} {w0 : World} {M : List Nat} {n : Nat} {X : Act → World → Prop} {env : List (Nat × Value)} {es : List Own} (e : Enc K) (kk : JE w0 M n X env (es ++ [mapI e none []])) : JE w0 M n X env es := fun a w h =>
  kk a w ⟨h.env, h.bw, h.sep.join (Bw.refl [] w) h.bw.size ⟨fun _ => [], fun i x hi => by
    cases i with
    | zero => simp at hi; subst hi; exact ⟨.inl ⟨rfl, rfl, rfl⟩, by simp⟩
    | succ i => simp at hi, by simp⟩⟩
end Go.Sh
