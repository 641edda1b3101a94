/- Rows of typed elements, and the words of the shallow functions. -/
import Derived.Test.YtinipjijgggjkaaEff
namespace Go.Sh
open Go Go.RowKit

/-! ### words of the shallow functions -/
def getI {T : Type} (xs : List T) (i : Int) : Option T := if 0 ≤ i then xs[i.toNat]? else none
theorem getI_some {T : Type} {xs : List T} {i : Int} {x : T} (h : getI xs i = some x) : 0 ≤ i ∧ i < xs.length ∧ xs[i.toNat]? = some x := by
  unfold getI at h
  split at h
  · refine ⟨by assumption, ?_, h⟩
    have := (List.getElem?_eq_some_iff.1 h).1
    omega
  · cases h

def letB {α β : Type} (x : α) (k : α → β) : β := k x
theorem letB_some {α β : Type} {x : α} {k : α → β} {r : β} (h : letB x k = r) : ∃ y, y = x ∧ k y = r := ⟨x, rfl, h⟩
theorem bind_some {α β : Type} {x : Option α} {k : α → Option β} {r : β} (h : Option.bind x k = some r) : ∃ y, x = some y ∧ k y = some r := by
  cases x with
  | none => cases h
  | some y => exact ⟨y, rfl, h⟩

/-- A length that memory bears. -/
def LIM : Nat := 2 ^ 40
def appL {T : Type} (xs ys : List T) : Option (List T) := if xs.length + ys.length ≤ LIM then some (xs ++ ys) else none
theorem appL_some {T : Type} {xs ys zs : List T} (h : appL xs ys = some zs) : xs.length + ys.length ≤ 1099511627776 ∧ zs = xs ++ ys := by
  unfold appL LIM at h
  split at h
  · exact ⟨by omega, (Option.some.inj h).symm⟩
  · cases h
def catS (x y : ByteArray) : Option ByteArray := if x.size + y.size ≤ LIM then some (x ++ y) else none
theorem catS_some {x y z : ByteArray} (h : catS x y = some z) : x.size + y.size ≤ 1099511627776 ∧ z = x ++ y := by
  unfold catS LIM at h
  split at h
  · exact ⟨by omega, (Option.some.inj h).symm⟩
  · cases h
def getS (s : ByteArray) (i : Int) : Option Int := if 0 ≤ i then (s[i.toNat]?).map (fun b => (b.toNat : Int)) else none
def subS (s : ByteArray) (i j : Int) : Option ByteArray := if 0 ≤ i ∧ i ≤ j ∧ j ≤ s.size then some (s.extract i.toNat j.toNat) else none
def mkL {T : Type} (n : Int) (z : T) : Option (List T) := if 0 ≤ n ∧ n ≤ (LIM : Int) then some (List.replicate n.toNat z) else none
def takeL {T : Type} (xs : List T) (n : Int) : Option (List T) := if 0 ≤ n ∧ n ≤ xs.length then some (xs.take n.toNat) else none
def dropL {T : Type} (xs : List T) (n : Int) : Option (List T) := if 0 ≤ n ∧ n ≤ xs.length then some (xs.drop n.toNat) else none
def quoI (k : IntKind) (a b : Int) : Option Int := if b = 0 then none else some (k.wrap (a.tdiv b))
def remI (a b : Int) : Option Int := if b = 0 then none else some (a.tmod b)

/-! ### elements -/
structure Enc (T : Type) where
  f : T → List Value
  k : Nat
  len : ∀ x, (f x).length = k
  pos : 0 < k
  one : ∀ x, ∀ u ∈ f x, u.oneCell' = true

def Enc.fl {T : Type} (e : Enc T) (xs : List T) : List Value := xs.flatMap e.f

section
variable {T : Type} {e : Enc T}
theorem Enc.fl_length (e : Enc T) : ∀ xs : List T, (e.fl xs).length = xs.length * e.k
  | [] => by simp [Enc.fl]
  | x :: xs => by
    have := Enc.fl_length e xs
    simp only [Enc.fl, List.flatMap_cons, List.length_append, List.length_cons] at this ⊢
    rw [this, e.len, Nat.add_mul]
    omega
theorem Enc.fl_append (e : Enc T) (xs ys : List T) : e.fl (xs ++ ys) = e.fl xs ++ e.fl ys := by simp [Enc.fl]
theorem Enc.fl_drop (e : Enc T) : ∀ (xs : List T) (i : Nat), (e.fl xs).drop (i * e.k) = e.fl (xs.drop i)
  | xs, 0 => by simp
  | [], i + 1 => by simp [Enc.fl]
  | x :: xs, i + 1 => by
    have := Enc.fl_drop e xs i
    simp only [Enc.fl, List.flatMap_cons, List.drop_succ_cons] at this ⊢
    rw [← this, Nat.add_mul, Nat.one_mul, Nat.add_comm, List.drop_append, ← e.len x]
    simp
theorem Enc.fl_take (e : Enc T) : ∀ (xs : List T) (i : Nat), (e.fl xs).take (i * e.k) = e.fl (xs.take i)
  | xs, 0 => by simp [Enc.fl]
  | [], i + 1 => by simp [Enc.fl]
  | x :: xs, i + 1 => by
    have := Enc.fl_take e xs i
    simp only [Enc.fl, List.flatMap_cons, List.take_succ_cons] at this ⊢
    rw [← this, Nat.add_mul, Nat.one_mul, Nat.add_comm, List.take_append, ← e.len x, List.take_of_length_le (by omega)]
    simp
theorem Enc.fl_at {xs : List T} {i : Nat} {x : T} (h : xs[i]? = some x) : ((e.fl xs).drop (i * e.k)).take e.k = e.f x := by
  obtain ⟨hi, hx⟩ := List.getElem?_eq_some_iff.1 h
  rw [Enc.fl_drop, List.drop_eq_getElem_cons hi, hx]
  simp only [Enc.fl, List.flatMap_cons]
  rw [List.take_append, ← e.len x]
  simp
theorem Enc.fl_cell {xs : List T} {i j : Nat} {x : T} {u : Value} (h : xs[i]? = some x) (hj : (e.f x)[j]? = some u) : (e.fl xs)[i * e.k + j]? = some u := by
  have h1 := Enc.fl_at (e := e) h
  rw [← h1, List.getElem?_take] at hj
  split at hj
  · simpa using hj
  · cases hj
theorem Enc.fl_set {xs : List T} {i : Nat} (y : T) (h : i < xs.length) : patch (e.fl xs) (i * e.k) (e.f y) = e.fl (xs.set i y) := by
  unfold patch
  rw [Enc.fl_take, e.len, ← Nat.succ_mul, Enc.fl_drop, List.set_eq_take_append_cons_drop]
  simp [h, Enc.fl]
theorem Enc.fl_setf {xs : List T} {i j : Nat} {x y : T} {v : Value} (h : xs[i]? = some x) (hj : j < e.k) (hy : (e.f x).set j v = e.f y) : patch (e.fl xs) (i * e.k + j) [v] = e.fl (xs.set i y) := by
  have hi := (List.getElem?_eq_some_iff.1 h).1
  have hx := (List.getElem?_eq_some_iff.1 h).2
  have hlen : i * e.k + j + 1 ≤ (e.fl xs).length := by
    rw [Enc.fl_length]
    have : (i + 1) * e.k ≤ xs.length * e.k := Nat.mul_le_mul_right _ hi
    rw [Nat.add_mul] at this
    omega
  have e1 : e.fl xs = e.fl (xs.take i) ++ (e.f x ++ e.fl (xs.drop (i + 1))) := by
    conv => lhs; rw [← List.take_append_drop i xs, Enc.fl_append, List.drop_eq_getElem_cons hi, hx]
    simp [Enc.fl]
  have l1 : (e.fl (xs.take i)).length = i * e.k := by rw [Enc.fl_length, List.length_take]; congr 1; omega
  have e2 : patch (e.fl xs) (i * e.k + j) [v] = (e.fl xs).set (i * e.k + j) v := by
    rw [List.set_eq_take_append_cons_drop, if_pos (by omega)]
    simp [patch]
  rw [e2, e1, List.set_append, if_neg (by omega), l1, Nat.add_sub_cancel_left, List.set_append, if_pos (by rw [e.len]; exact hj), hy, List.set_eq_take_append_cons_drop, if_pos hi]
  simp [Enc.fl]
theorem Enc.fl_one (e : Enc T) (xs : List T) : ∀ u ∈ e.fl xs, u.oneCell' = true := by
  intro u hu
  simp only [Enc.fl, List.mem_flatMap] at hu
  obtain ⟨x, _, hx⟩ := hu
  exact e.one x u hx
end

/-- A row of typed elements. -/
abbrev rowT {T : Type} (E : Nat) (e : Enc T) (a : Option Addr) (n c : Nat) (xs : List T) : Own := rowO E e.k a n c (e.fl xs)

theorem RdT.some {T : Type} {e : Enc T} {w : World} {a : Option Addr} {xs : List T} (h : Rd w a (e.fl xs)) {i : Nat} {x : T} (hx : xs[i]? = some x) : a.isSome = true := by
  have hf : (e.f x)[0]? = .some ((e.f x)[0]'(by rw [e.len]; exact e.pos)) := List.getElem?_eq_getElem _
  exact h.some (Enc.fl_cell hx hf)

section
variable {P : Program} {w0 : World} {M : List Nat} {env : List (Nat × Value)} {es : List Own} {d : Option Tmp} {ty : TypeId} {ps : String} {af : Array Edge} {gd : Option (Nat × Bool)} {C : World → Prop} {T : Type} {e : Enc T}

theorem yl_idxT {x y : Operand} {t E : TypeId} {ti : TypeInfo} {k : IntKind} {a : Option Addr} {n c : Nat} {i : Int} {xs : List T} {z : T} (ht : P.underlying t = some (.slice E)) (hi : P.info? E = some ti) (hk : ti.size = e.k)
    (hx : ev env x = some (.slice a n c)) (hy : ev env y = some (.int k i)) (hz : getI xs i = some z) (hn : xs.length = n) (hC : ∀ w, C w → Rd w a (e.fl xs)) :
    Yl P C env { dst := d, op := .indexAddr t x y, type := ty, pos := ps, after := af, guard := gd } (ptrAt a (i.toNat * e.k)) := by
  obtain ⟨h1, h2, h3⟩ := getI_some hz
  intro ρ hρ w hw
  have := yl_indexAddr (C := C) (d := d) (ty := ty) (ps := ps) (af := af) (gd := gd) ht hi hx hy (RdT.some (hC w hw) h3) h1 (by omega) ρ hρ w hw
  rwa [hk] at this

/-- The same in every world, where the address is known to be one. -/
theorem yl_idxP {x y : Operand} {t E : TypeId} {ti : TypeInfo} {k : IntKind} {a : Option Addr} {n c : Nat} {i : Int} {xs : List T} {z : T} (ht : P.underlying t = some (.slice E)) (hi : P.info? E = some ti) (hk : ti.size = e.k)
    (hx : ev env x = some (.slice a n c)) (hy : ev env y = some (.int k i)) (hz : getI xs i = some z) (hn : xs.length = n) {w : World} (hR : Rd w a (e.fl xs)) :
    Yl P C env { dst := d, op := .indexAddr t x y, type := ty, pos := ps, after := af, guard := gd } (ptrAt a (i.toNat * e.k)) := by
  obtain ⟨h1, h2, h3⟩ := getI_some hz
  have := yl_indexAddr (C := C) (d := d) (ty := ty) (ps := ps) (af := af) (gd := gd) ht hi hx hy (RdT.some hR h3) h1 (by omega)
  rwa [hk] at this

theorem yl_loadT1 {x : Operand} {t : TypeId} {u : TypeDesc} {a : Option Addr} {i : Int} {j : Nat} {xs : List T} {z : T} {v : Value} (ht : P.underlying t = some u) (hn : (match u with | .struct _ | .array _ _ => true | _ => false) = false)
    (hx : ev env x = some (ptrAt a (i.toNat * e.k + j))) (hz : getI xs i = some z) (hC : ∀ w, C w → Rd w a (e.fl xs)) (hv : (e.f z)[j]? = some v) :
    Yl P C env { dst := d, op := .load t x, type := ty, pos := ps, after := af, guard := gd } v :=
  yl_load1 ht hn hx hC (Enc.fl_cell (getI_some hz).2.2 hv)
theorem yl_loadT0 {x : Operand} {t : TypeId} {u : TypeDesc} {a : Option Addr} {i : Int} {xs : List T} {z : T} {v : Value} (ht : P.underlying t = some u) (hn : (match u with | .struct _ | .array _ _ => true | _ => false) = false)
    (hx : ev env x = some (ptrAt a (i.toNat * e.k))) (hz : getI xs i = some z) (hC : ∀ w, C w → Rd w a (e.fl xs)) (hv : (e.f z)[0]? = some v) :
    Yl P C env { dst := d, op := .load t x, type := ty, pos := ps, after := af, guard := gd } v :=
  yl_load1 ht hn hx hC (by have := Enc.fl_cell (e := e) (getI_some hz).2.2 hv; simpa using this)
theorem yl_loadTn {x : Operand} {t : TypeId} {u : TypeDesc} {ti : TypeInfo} {a : Option Addr} {i : Int} {xs : List T} {z : T} (ht : P.underlying t = some u) (hn : (match u with | .struct _ | .array _ _ => true | _ => false) = true) (hi : P.info? t = some ti) (hk : ti.size = e.k)
    (hx : ev env x = some (ptrAt a (i.toNat * e.k))) (hz : getI xs i = some z) (hC : ∀ w, C w → Rd w a (e.fl xs)) :
    Yl P C env { dst := d, op := .load t x, type := ty, pos := ps, after := af, guard := gd } (.agg (e.f z).toArray) :=
  yl_loadn ht hn hi hx hC (by rw [hk]; exact Enc.fl_at (getI_some hz).2.2) (by rw [hk]; exact e.len z) (by rw [hk]; exact e.pos)

theorem ef_storeT {t : TypeId} {ti : TypeInfo} {x y : Operand} {ix E : Nat} {a : Option Addr} {n c : Nat} {i : Int} {xs : List T} {z u : T} {v : Value} (hi : P.info? t = some ti) (hk : ti.size = e.k)
    (hx : ev env x = some (ptrAt a (i.toNat * e.k))) (hy : ev env y = some v) (he : es[ix]? = some (rowT E e a n c xs)) (hz : getI xs i = some z) (hv : v.cells.toList = e.f u) :
    Ef P w0 M es env { dst := d, op := .store t x y, type := ty, pos := ps, after := af, guard := gd } false (fun _ es' => es' = es.set ix (rowT E e a n c (xs.set i.toNat u))) := by
  obtain ⟨h1, h2, h3⟩ := getI_some hz
  have hlt : i.toNat < xs.length := by omega
  have hvs : v.cells.size = e.k := by rw [← e.len u, ← hv]; simp
  have hb : i.toNat * e.k + e.k ≤ (e.fl xs).length := by
    rw [Enc.fl_length, ← Nat.succ_mul]
    exact Nat.mul_le_mul_right _ hlt
  have := ef_store_row (w0 := w0) (M := M) (d := d) (ty := ty) (ps := ps) (af := af) (gd := gd) hi hx hy he (by rw [hvs, hk]) (by rw [hk]; exact e.pos) (by rw [hvs]; exact hb) (by rw [hv]; exact e.one u)
  rw [hv, Enc.fl_set u hlt] at this
  exact this

theorem ef_storeF {t : TypeId} {ti : TypeInfo} {x y : Operand} {ix E j : Nat} {a : Option Addr} {n c : Nat} {i : Int} {xs : List T} {z u : T} {v : Value} (hi : P.info? t = some ti) (hk : ti.size = 1)
    (hx : ev env x = some (ptrAt a (i.toNat * e.k + j))) (hy : ev env y = some v) (he : es[ix]? = some (rowT E e a n c xs)) (hz : getI xs i = some z) (hj : j < e.k) (hv : v.cells = #[v]) (hv1 : v.oneCell' = true) (hu : (e.f z).set j v = e.f u) :
    Ef P w0 M es env { dst := d, op := .store t x y, type := ty, pos := ps, after := af, guard := gd } false (fun _ es' => es' = es.set ix (rowT E e a n c (xs.set i.toNat u))) := by
  obtain ⟨h1, h2, h3⟩ := getI_some hz
  have hlt : i.toNat < xs.length := by omega
  have hb : i.toNat * e.k + e.k ≤ (e.fl xs).length := by
    rw [Enc.fl_length, ← Nat.succ_mul]
    exact Nat.mul_le_mul_right _ hlt
  have := ef_store_row (w0 := w0) (M := M) (d := d) (ty := ty) (ps := ps) (af := af) (gd := gd) hi hx hy he (by rw [hv, hk]; rfl) (by omega) (by rw [hv]; simp; omega) (by rw [hv]; simpa using hv1)
  rw [hv] at this
  rw [show (#[v] : Array Value).toList = [v] from rfl, Enc.fl_setf h3 hj hu] at this
  exact this

theorem ef_appendT {t E : TypeId} {ti : TypeInfo} {z : Value} {ix : Nat} {x y : Operand} (ht : P.underlying t = some (.slice E)) (hi : P.info? E = some ti) (hz : ti.zero = some z) (hk : ti.size = e.k) (hzs : z.cells.size = e.k) (hb0 : 0 < ti.bytes) (hb1 : ti.bytes ≤ 128)
    {a : Option Addr} {n c : Nat} {xs ys zs : List T} (hx : ev env x = some (.slice a n c)) (he : es[ix]? = some (rowT E e a n c xs)) (hn : xs.length = n)
    {sa : Option Addr} {m mc : Nat} (hy : ev env y = some (.slice sa m mc)) (hm : ys.length = m) (hrd : ∀ w, Cl w0 M es w → Rd w sa (e.fl ys)) (hr : appL xs ys = some zs) :
    Ef P w0 M es env { dst := d, op := .call { callee := .builtin .append, args := #[x, y], argTypes := #[t, t] }, type := ty, pos := ps, after := af, guard := gd } false
      (fun v es' => ∃ a' c', v = .slice a' zs.length c' ∧ es' = es.set ix (rowT E e a' zs.length c' zs)) := by
  obtain ⟨hl, rfl⟩ := appL_some hr
  have hroom : (n + m) * ti.bytes ≤ 140737488355328 := by
    rw [← hn, ← hm]
    exact Nat.le_trans (Nat.mul_le_mul hl hb1) (by decide)
  have := ef_append (w0 := w0) (M := M) (d := d) (ty := ty) (ps := ps) (af := af) (gd := gd) ht hi hz hk rfl hzs e.pos hb0 hx he hy (by rw [Enc.fl_length, hm]) hrd (e.fl_one ys) hroom
  rw [← Enc.fl_append, ← hn, ← hm, ← List.length_append] at this
  exact this

theorem madeCells_one (v : Value) (n : Nat) : (madeCells #[v] n).toList = List.replicate n v := by
  unfold madeCells
  apply List.ext_getElem
  · simp
  · intro i h1 h2
    simp [Nat.mod_one]

theorem fl_replicate {u : T} {v : Value} (hu : e.f u = [v]) : ∀ n : Nat, e.fl (List.replicate n u) = List.replicate n v
  | 0 => by simp [Enc.fl]
  | n + 1 => by
    have := fl_replicate hu n
    simp only [Enc.fl, List.replicate_succ, List.flatMap_cons, hu] at this ⊢
    rw [this]
    simp

theorem mkL_some {n : Int} {z : T} {zs : List T} (h : mkL n z = some zs) : 0 ≤ n ∧ n ≤ 1099511627776 ∧ zs = List.replicate n.toNat z := by
  unfold mkL LIM at h
  split at h
  · rename_i hc
    exact ⟨hc.1, by have := hc.2; omega, (Option.some.inj h).symm⟩
  · cases h

theorem ef_makeT {t E : TypeId} {ti : TypeInfo} {v : Value} {u : T} {zs : List T} {x y : Operand} {k1 k2 : IntKind} {i : Int} (ht : P.underlying t = some (.slice E)) (hi : P.info? E = some ti) (hk : ti.size = 1) (hek : e.k = 1) (hz : ti.zero = some v) (hvc : v.cells = #[v]) (hu : e.f u = [v]) (hb1 : ti.bytes ≤ 128)
    (hx : ev env x = some (.int k1 i)) (hy : ev env y = some (.int k2 i)) (hr : mkL i u = some zs) :
    Ef P w0 M es env { dst := d, op := .makeSlice t x y, type := ty, pos := ps, after := af, guard := gd } true (fun v es' => ∃ a, v = .slice a zs.length zs.length ∧ es' = es ++ [rowT E e a zs.length zs.length zs]) := by
  obtain ⟨h0, h1, rfl⟩ := mkL_some hr
  intro ρ hρ w hC
  have hb : (ti.bytes : Int) * i ≤ 281474976710656 := by
    have h2 : ((ti.bytes * i.toNat : Nat) : Int) ≤ ((128 * 1099511627776 : Nat) : Int) := Int.ofNat_le.2 (Nat.mul_le_mul hb1 (by omega))
    rw [Int.natCast_mul, Int.toNat_of_nonneg h0] at h2
    omega
  have hrun := run_make (P := P) w t E ti v ht hi hz k1 k2 i i h0 (Int.le_refl _) hb (by omega)
  have hcells : (madeCells v.cells (i.toNat * ti.size)) = (e.fl (List.replicate i.toNat u)).toArray := by
    rw [hvc, hk, Nat.mul_one, fl_replicate hu]
    apply Array.toList_inj.1
    rw [madeCells_one]
  rw [hcells] at hrun
  have hr2 : (execOp ρ { dst := d, op := .makeSlice t x y, type := ty, pos := ps, after := af, guard := gd }).run P w = .ok (.value (.slice (some ⟨w.heap.size, 0, none⟩) i.toNat i.toNat)) (w.alloc (.cells (e.fl (List.replicate i.toNat u)).toArray E)) := by
    simp [execOp, hρ _ _ hx, hρ _ _ hy, hrun]
  rw [hr2]
  simp only [EfRes, List.length_replicate]
  refine good_alloc (e := rowT E e (some ⟨w.heap.size, 0, none⟩) i.toNat i.toNat (List.replicate i.toNat u)) hC ⟨_, rfl, rfl⟩ ⟨?_, Nat.le_refl _, .inr ⟨_, _, rfl, rfl, heap_alloc_new w _, by simp only [maxLen]; omega, ?_, ?_⟩⟩
  · rw [Enc.fl_length]; simp
  · simp only [List.size_toArray, Enc.fl_length, List.length_replicate]
  · have : (e.fl (List.replicate i.toNat u)).length = i.toNat * e.k := by rw [Enc.fl_length]; simp
    rw [← this]
    simp
end
end Go.Sh
