/- Rows and boxes of one's own; operations that make or write memory, and calls. -/
import Derived.Test.YtinipjijgggjkaaWalk
namespace Go.Sh
open Go Go.RowKit

/-- A slice's array of one's own: n elements of k cells of type E, c places. -/
def RowP (E k : Nat) (a : Option Addr) (n c : Nat) (xs : List Value) (w : World) (fp : List Nat) : Prop :=
  xs.length = n * k ∧ n ≤ c ∧ ((a = none ∧ c = 0 ∧ fp = []) ∨ ∃ g cur, a = some ⟨g, 0, none⟩ ∧ fp = [g] ∧ w.heap[g]? = some (.cells cur E (0, 0)) ∧ c ≤ maxLen ∧ cur.size = c * k ∧ cur.toList.take (n * k) = xs)

def rowO (E k : Nat) (a : Option Addr) (n c : Nat) (xs : List Value) : Own :=
  ⟨RowP E k a n c xs, fun w w' fp h hb => by
    obtain ⟨h1, h2, h3⟩ := h
    refine ⟨h1, h2, ?_⟩
    rcases h3 with h3 | ⟨g, cur, ha, hf, hh, r⟩
    · exact .inl h3
    · exact .inr ⟨g, cur, ha, hf, by rw [hb g (by simp [hf])]; exact hh, r⟩⟩

/-- A variable of one's own in memory: its cells. -/
def boxO (E : Nat) (g : Nat) (us : List Value) : Own :=
  ⟨fun w fp => fp = [g] ∧ w.heap[g]? = some (.cells us.toArray E (0, 0)), fun w w' fp h hb => ⟨h.1, by rw [hb g (by simp [h.1])]; exact h.2⟩⟩

theorem Sep.get {B : Nat} {M : List Nat} {w : World} {es : List Own} (h : Sep B M w es) {i : Nat} {e : Own} (hi : es[i]? = some e) : ∃ fp, e.p w fp ∧ ∀ b ∈ fp, b < w.heap.size := by
  obtain ⟨fp, h1, _⟩ := h
  exact ⟨fp i, (h1 i e hi).1, fun b hb => ((h1 i e hi).2 b hb).2⟩

theorem RowP.rd {E k : Nat} {a : Option Addr} {n c : Nat} {xs : List Value} {w : World} {fp : List Nat} (h : RowP E k a n c xs w fp) : Rd w a xs := by
  intro j u hj
  obtain ⟨h1, h2, h3⟩ := h
  rcases h3 with ⟨_, hc, _⟩ | ⟨g, cur, ha, _, hh, _, _, ht⟩
  · have : n = 0 := by omega
    subst this
    simp at h1
    subst h1
    simp at hj
  · refine ⟨_, ha, ?_⟩
    have hadd : (⟨g, 0, none⟩ : Addr).add j = ⟨g, j, none⟩ := by unfold Addr.add; split <;> simp_all
    rw [hadd]
    rw [← ht, List.getElem?_take] at hj
    split at hj
    · simp [World.cell?, hh]; simpa using hj
    · cases hj

theorem rd_row {w0 : World} {M : List Nat} {es : List Own} {w : World} (h : Cl w0 M es w) (i : Nat) {E k : Nat} {a : Option Addr} {n c : Nat} {xs : List Value} (hi : es[i]? = some (rowO E k a n c xs)) : Rd w a xs :=
  let ⟨_, hp, _⟩ := h.2.get hi
  RowP.rd hp
theorem rd_box {w0 : World} {M : List Nat} {es : List Own} {w : World} (h : Cl w0 M es w) (i : Nat) {E g : Nat} {us : List Value} (hi : es[i]? = some (boxO E g us)) : Rd w (some ⟨g, 0, none⟩) us := by
  obtain ⟨fp, hp, _⟩ := h.2.get hi
  intro j u hj
  refine ⟨_, rfl, ?_⟩
  have hadd : (⟨g, 0, none⟩ : Addr).add j = ⟨g, j, none⟩ := by unfold Addr.add; split <;> simp_all
  rw [hadd]
  simp [World.cell?, hp.2, hj]
theorem rd_arg {w0 : World} {es : List Own} {w : World} {a : Option Addr} {cs : List Value} (hr : Rd w0 a cs) (h : Cl w0 [] es w) : Rd w a cs := hr.bw h.1

section
variable {P : Program} {w0 : World} {M : List Nat} {env : List (Nat × Value)} {es : List Own} {d : Option Tmp} {ty : TypeId} {ps : String} {af : Array Edge} {gd : Option (Nat × Bool)}

theorem yl_fieldAt {C : World → Prop} {x : Operand} {t : TypeId} {i j : Nat} {a : Option Addr} {fs : Array Field} {f : Field} {ti : TypeInfo} (ht : P.underlying t = some (.struct fs)) (hf : fs[i]? = some f) (hi : P.info? f.type = some ti) (h0 : ti.size ≠ 0)
    (hx : ev env x = some (ptrAt a j)) (ha : a.isSome = true) :
    Yl P C env { dst := d, op := .fieldAddr t x i, type := ty, pos := ps, after := af, guard := gd } (ptrAt a (j + f.offset)) := by
  intro ρ hρ w _
  cases a with
  | none => cases ha
  | some ad => simp [execOp, hρ _ _ hx, Instr.fieldAt, ptrAt, Instr.sureAddr, run_underlying ht, hf, fieldPlace, run_sizeOf hi, h0, Addr.add_add]

theorem yl_nilCheckAt {C : World → Prop} {x : Operand} {j : Nat} {a : Option Addr} (hx : ev env x = some (ptrAt a j)) (ha : a.isSome = true) :
    Yl P C env { dst := d, op := .nilCheck x, type := ty, pos := ps, after := af, guard := gd } (ptrAt a j) := by
  intro ρ hρ w _
  cases a with
  | none => cases ha
  | some ad => simp [execOp, hρ _ _ hx, ptrAt]

/-- An operation that makes one block. -/
theorem good_alloc {w0 : World} {M : List Nat} {es : List Own} {w : World} (hC : Cl w0 M es w) {kp : Bool} {T : Value → List Own → Prop} {v : Value} {o : Obj} {e : Own} (hT : T v (es ++ [e])) (he : e.p (w.alloc o) [w.heap.size]) :
    Good w0 M kp T w v (w.alloc o) := by
  have hb : Bw [] w (w.alloc o) := ⟨rfl, rfl, rfl, by simp, fun k hk _ => Below.heap_alloc w o k hk⟩
  exact ⟨_, hT, hC.1.trans0 hb, hC.2.push hC.1.size o e he, fun _ => hb⟩

theorem ef_alloc {t : TypeId} {ti : TypeInfo} {z : Value} {us : List Value} (hi : P.info? t = some ti) (hz : ti.zero = some z) (hu : z.cells = us.toArray) :
    Ef P w0 M es env { dst := d, op := .alloc t, type := ty, pos := ps, after := af, guard := gd } true (fun v es' => ∃ g, v = ptrAt (some ⟨g, 0, none⟩) 0 ∧ es' = es ++ [boxO t g us]) := by
  intro ρ hρ w hC
  have hr : (execOp ρ { dst := d, op := .alloc t, type := ty, pos := ps, after := af, guard := gd }).run P w = .ok (.value (ptrAt (some ⟨w.heap.size, 0, none⟩) 0)) (w.alloc (.cells us.toArray t)) := by
    simp [execOp, Instr.alloc, zeroValue, typeInfo, hi, hz, newVar, newRow, hu, ptrAt, Addr.add]
  rw [hr]
  simp only [EfRes]
  exact good_alloc (e := boxO t w.heap.size us) hC ⟨_, rfl, rfl⟩ ⟨rfl, heap_alloc_new w _⟩

theorem ef_box {t : TypeId} {x : Operand} {v : Value} {us : List Value} (hx : ev env x = some v) (hu : v.cells = us.toArray) :
    Ef P w0 M es env { dst := d, op := .box t x, type := ty, pos := ps, after := af, guard := gd } true (fun v es' => ∃ g, v = ptrAt (some ⟨g, 0, none⟩) 0 ∧ es' = es ++ [boxO t g us]) := by
  intro ρ hρ w hC
  have hr : (execOp ρ { dst := d, op := .box t x, type := ty, pos := ps, after := af, guard := gd }).run P w = .ok (.value (ptrAt (some ⟨w.heap.size, 0, none⟩) 0)) (w.alloc (.cells us.toArray t)) := by
    simp [execOp, hρ _ _ hx, Instr.box, newVar, newRow, hu, ptrAt, Addr.add]
  rw [hr]
  simp only [EfRes]
  exact good_alloc (e := boxO t w.heap.size us) hC ⟨_, rfl, rfl⟩ ⟨rfl, heap_alloc_new w _⟩

/-- A slice literal, by its closed run. -/
theorem ef_buildSlice {t E k m : Nat} {qs : List (Nat × Operand)} {vs : List (Nat × Value)} {us : List Value} (hx : evp env qs = some vs)
    (hf : ∀ w, (Instr.buildSlice t m vs.toArray).run P w = .ok (.slice (some ⟨w.heap.size, 0, none⟩) m m) (w.alloc (.cells us.toArray E))) (hl : us.length = m * k) (hm : m ≤ maxLen) :
    Ef P w0 M es env { dst := d, op := .buildSlice t m qs.toArray, type := ty, pos := ps, after := af, guard := gd } true (fun v es' => ∃ a, v = .slice a m m ∧ es' = es ++ [rowO E k a m m us]) := by
  intro ρ hρ w hC
  have hr : (execOp ρ { dst := d, op := .buildSlice t m qs.toArray, type := ty, pos := ps, after := af, guard := gd }).run P w = .ok (.value (.slice (some ⟨w.heap.size, 0, none⟩) m m)) (w.alloc (.cells us.toArray E)) := by
    simp [execOp, evp_map hρ hx, hf]
  rw [hr]
  simp only [EfRes]
  exact good_alloc (e := rowO E k (some ⟨w.heap.size, 0, none⟩) m m us) hC ⟨_, rfl, rfl⟩ ⟨hl, Nat.le_refl _, .inr ⟨_, _, rfl, rfl, heap_alloc_new w _, hm, by simp [hl], by rw [← hl]; simp⟩⟩

/-! ### stores -/
def patch (us : List Value) (o : Nat) (vs : List Value) : List Value := us.take o ++ vs ++ us.drop (o + vs.length)

theorem patch_length {us vs : List Value} {o : Nat} (h : o + vs.length ≤ us.length) : (patch us o vs).length = us.length := by
  simp [patch]; omega

theorem run_storeAt {t : TypeId} {ti : TypeInfo} {a : Option Addr} {g o j : Nat} {E : TypeId} {cur : Array Value} {w : World} {v : Value} (hi : P.info? t = some ti) (ha : a = some ⟨g, o, none⟩) (hg : w.heap[g]? = some (.cells cur E (0, 0)))
    (hs : v.cells.size = ti.size) (hl : o + j + v.cells.size ≤ cur.size) (h1 : ∀ u ∈ v.cells.toList, u.oneCell' = true) :
    (Instr.storeAt t (ptrAt a j) v).run P w = .ok () (w.setRow g (patch cur.toList (o + j) v.cells.toList).toArray) := by
  subst ha
  have hadd : (⟨g, o, none⟩ : Addr).add j = ⟨g, o + j, none⟩ := by unfold Addr.add; split <;> simp_all
  have hst := run_storeCells_at P g (o + j) E v.cells.toList 0 cur w hg (by simpa using hl) h1
  simp only [Nat.add_zero] at hst
  simp [Instr.storeAt, ptrAt, Instr.sureAddr, storeVar, run_sizeOf hi, hs, hadd, hst, patch]

theorem bw_setRow (w : World) (g : Nat) (cs : Array Value) : Bw [g] w (w.setRow g cs) := ⟨rfl, rfl, rfl, by simp, fun k _ hM => setRow_other w g k cs (by simpa using hM)⟩

/-- A write into one entry's own block. -/
theorem good_setRow {w : World} (hC : Cl w0 M es w) {i g : Nat} {e e' : Own} (hi : es[i]? = some e) (hfp : ∀ fp, e.p w fp → fp = [g]) (cs : Array Value) (he : e'.p (w.setRow g cs) [g]) {T : Value → List Own → Prop} {v : Value} (hT : T v (es.set i e')) :
    Good w0 M false T w v (w.setRow g cs) := by
  obtain ⟨fp, hp, hbd, hup⟩ := hC.2.upd hC.1.size hi
  have hfg := hfp fp hp
  subst hfg
  have hg := hbd g (by simp)
  refine ⟨_, hT, hC.1.trans (bw_setRow w g cs) (by simpa using hg.1), hup _ e' [g] he (by simp) (fun b _ hb => setRow_other w g b cs (by simpa using hb)) (by simp; exact hg.2), fun h => by cases h⟩

theorem ef_store_box {t : TypeId} {ti : TypeInfo} {x y : Operand} {i E g j : Nat} {us : List Value} {v : Value} (hi : P.info? t = some ti) (hx : ev env x = some (ptrAt (some ⟨g, 0, none⟩) j)) (hy : ev env y = some v) (he : es[i]? = some (boxO E g us))
    (hs : v.cells.size = ti.size) (hl : j + v.cells.size ≤ us.length) (h1 : ∀ u ∈ v.cells.toList, u.oneCell' = true) :
    Ef P w0 M es env { dst := d, op := .store t x y, type := ty, pos := ps, after := af, guard := gd } false (fun _ es' => es' = es.set i (boxO E g (patch us j v.cells.toList))) := by
  intro ρ hρ w hC
  obtain ⟨fp, hp, _⟩ := hC.2.get he
  have hr := run_storeAt (P := P) (a := some ⟨g, 0, none⟩) (o := 0) (j := j) (w := w) (v := v) hi rfl hp.2 hs (by simpa using hl) h1
  have hr2 : (execOp ρ { dst := d, op := .store t x y, type := ty, pos := ps, after := af, guard := gd }).run P w = .ok .skip (w.setRow g (patch us j v.cells.toList).toArray) := by
    simp only [Nat.zero_add] at hr
    simp [execOp, hρ _ _ hx, hρ _ _ hy, hr]
  rw [hr2]
  simp only [EfRes]
  refine good_setRow (e' := boxO E g (patch us j v.cells.toList)) hC he (fun fp h => h.1) _ ?_ rfl
  exact ⟨rfl, setRow_heap w g _ _ _ _ hp.2⟩

theorem take_patch {us vs : List Value} {o m : Nat} (h : o + vs.length ≤ m) (hm : m ≤ us.length) : (patch us o vs).take m = patch (us.take m) o vs := by
  unfold patch
  rw [List.take_append, List.take_append]
  simp only [List.length_append, List.length_take]
  rw [List.take_take, List.take_take, List.take_of_length_le (l := vs) (by omega), List.take_drop]
  congr 2
  · congr 1
    omega
  · congr 2
    have e1 : min o us.length = o := by omega
    rw [e1]
    omega

theorem ef_store_row {t : TypeId} {ti : TypeInfo} {x y : Operand} {i E k j : Nat} {a : Option Addr} {n c : Nat} {xs : List Value} {v : Value} (hi : P.info? t = some ti) (hx : ev env x = some (ptrAt a j)) (hy : ev env y = some v) (he : es[i]? = some (rowO E k a n c xs))
    (hs : v.cells.size = ti.size) (h0 : 0 < ti.size) (hl : j + v.cells.size ≤ xs.length) (h1 : ∀ u ∈ v.cells.toList, u.oneCell' = true) :
    Ef P w0 M es env { dst := d, op := .store t x y, type := ty, pos := ps, after := af, guard := gd } false (fun _ es' => es' = es.set i (rowO E k a n c (patch xs j v.cells.toList))) := by
  intro ρ hρ w hC
  obtain ⟨fp, hp, _⟩ := hC.2.get he
  obtain ⟨hlen, hnc, hp3⟩ := hp
  rcases hp3 with ⟨_, hc, _⟩ | ⟨g, cur, ha, hfp, hh, hcm, hcs, ht⟩
  · exfalso
    have hn : n = 0 := by omega
    have h00 : xs.length = 0 := by rw [hlen, hn]; simp
    omega
  · have hcur : n * k ≤ cur.size := by rw [hcs]; exact Nat.mul_le_mul_right _ hnc
    have hr := run_storeAt (P := P) (a := a) (o := 0) (j := j) (w := w) (v := v) hi ha hh hs (by omega) h1
    have hr2 : (execOp ρ { dst := d, op := .store t x y, type := ty, pos := ps, after := af, guard := gd }).run P w = .ok .skip (w.setRow g (patch cur.toList j v.cells.toList).toArray) := by
      simp only [Nat.zero_add] at hr
      simp [execOp, hρ _ _ hx, hρ _ _ hy, hr]
    rw [hr2]
    simp only [EfRes]
    refine good_setRow (e' := rowO E k a n c (patch xs j v.cells.toList)) hC he (g := g) (fun fp2 h => ?_) _ ?_ rfl
    · obtain ⟨_, _, h3⟩ := h
      rcases h3 with ⟨h3, _⟩ | ⟨g2, cur2, ha2, hf2, _⟩
      · rw [ha] at h3; cases h3
      · rw [ha] at ha2; cases ha2; exact hf2
    · have hvl : v.cells.toList.length = v.cells.size := by simp
      refine ⟨?_, hnc, .inr ⟨g, _, ha, rfl, setRow_heap w g _ _ _ _ hh, hcm, ?_, ?_⟩⟩
      · rw [patch_length (by omega)]; exact hlen
      · simp only [List.size_toArray]
        rw [patch_length (by simp; omega)]
        simpa using hcs
      · rw [take_patch (by omega) (by simpa using hcur), ht]

/-! ### append, make -/
theorem run_append_none {t ty2 e : TypeId} {ti : TypeInfo} (ht : P.underlying t = some (.slice e)) (hi : P.info? e = some ti) {a : Option Addr} {n c mc : Nat} (hnc : n ≤ c) (w : World) :
    (Builtin.append_ #[t, t] ty2 #[.slice a n c, .slice none 0 mc]).run P w = .ok (.slice a n c) w := by
  cases a <;> simp [Builtin.append_, run_underlying ht, run_sizeOf hi, Builtin.lenOf, hnc, Builtin.firstCells, storeCells]

theorem run_append_row {t ty2 e : TypeId} {ti : TypeInfo} {z : Value} {k bytes : Nat} (ht : P.underlying t = some (.slice e)) (hi : P.info? e = some ti) (hz : ti.zero = some z) (hk : ti.size = k) (hby : ti.bytes = bytes) (hzs : z.cells.size = k) (hk0 : 0 < k) (hb0 : 0 < bytes)
    {a : Option Addr} {n c : Nat} {xs : List Value} {w : World} {fp : List Nat} (hrow : RowP e k a n c xs w fp) (hfp : ∀ b ∈ fp, b < w.heap.size)
    {sa : Option Addr} {m mc : Nat} {news : List Value} (hl : news.length = m * k) (hrd : Rd w sa news) (h1 : ∀ u ∈ news, u.oneCell' = true) (hroom : (n + m) * bytes ≤ 140737488355328) :
    ∃ a' c' w' fp', (Builtin.append_ #[t, t] ty2 #[.slice a n c, .slice sa m mc]).run P w = .ok (.slice a' (n + m) c') w' ∧ RowP e k a' (n + m) c' (xs ++ news) w' fp' ∧ Bw fp w w' ∧ (∀ b ∈ fp', (b ∈ fp ∨ w.heap.size ≤ b) ∧ b < w'.heap.size) := by
  have hnm : n + m ≤ 140737488355328 := Nat.le_trans (Nat.le_mul_of_pos_right _ hb0) hroom
  subst hk
  subst hby
  cases sa with
  | none =>
    have hm : m = 0 := by
      rcases Nat.eq_zero_or_pos m with h | h
      · exact h
      · exfalso
        have : 0 < news.length := by rw [hl]; exact Nat.mul_pos h hk0
        obtain ⟨ad, h, _⟩ := hrd 0 _ (List.getElem?_eq_getElem this)
        cases h
    subst hm
    simp at hl
    subst hl
    refine ⟨a, c, w, fp, run_append_none ht hi hrow.2.1 w, by simpa using hrow, Bw.refl _ _, fun b hb => ⟨.inl hb, hfp b hb⟩⟩
  | some ad =>
    have hnews : ∀ (j : Nat) u, news[j]? = some u → w.cell? (ad.add j) = some u := fun j u hj => by
      obtain ⟨ad', h, hc⟩ := hrd j u hj
      cases h
      exact hc
    obtain ⟨hlen, hnc, h3⟩ := hrow
    have hlen2 : (xs ++ news).length = (n + m) * ti.size := by rw [List.length_append, hlen, hl, Nat.add_mul]
    have fresh : ∀ old, old < n + m → ∀ M', ∃ a' c' w' fp', a' = some ⟨w.heap.size, 0, none⟩ ∧ c' = grownCap w (n + m) old e ∧ w' = w.drew.alloc (.cells (xs.toArray ++ news.toArray ++ Builtin.zeroCells z.cells (grownCap w (n + m) old e - (n + m))) e) ∧ RowP e ti.size a' (n + m) c' (xs ++ news) w' fp' ∧ Bw M' w w' ∧ (∀ b ∈ fp', (b ∈ M' ∨ w.heap.size ≤ b) ∧ b < w'.heap.size) := by
      intro old ho M'
      have hge := grownCap_ge w (n + m) old e
      have hcm : grownCap w (n + m) old e ≤ maxLen := grownCap_le_maxLen w (n + m) old e (by simp only [maxLen]; omega)
      refine ⟨_, _, _, [w.heap.size], rfl, rfl, rfl, ⟨hlen2, hge, .inr ⟨w.heap.size, _, rfl, rfl, heap_alloc_new w.drew _, hcm, ?_, ?_⟩⟩, ⟨rfl, rfl, rfl, by simp, fun k hk _ => Below.heap_alloc w.drew _ k hk⟩, by simp⟩
      · simp only [Array.size_append, List.size_toArray, size_zeroCells, hzs, hlen, hl, ← Nat.add_mul]
        congr 1
        omega
      · simp only [Array.toList_append, List.append_assoc]
        rw [← List.append_assoc, ← hlen2]
        exact List.take_left
    rcases h3 with ⟨ha, hc, hf⟩ | ⟨g, cur, ha, hf, hg, hcm, hcs, htake⟩
    · subst ha hc hf
      have hn : n = 0 := by omega
      subst hn
      have hx : xs = [] := List.eq_nil_of_length_eq_zero (by simpa using hlen)
      subst hx
      rcases Nat.eq_zero_or_pos m with hm | hm
      · subst hm
        simp at hl
        subst hl
        refine ⟨none, 0, w, [], ?_, ⟨by simp, by simp, .inl ⟨rfl, rfl, rfl⟩⟩, Bw.refl _ _, by simp⟩
        simp [Builtin.append_, run_underlying ht, run_sizeOf hi, Builtin.lenOf, Builtin.firstCells, loadCells, loadCellsFrom]
      · have hr := run_append_nil (P := P) w t ty2 e ti z ht hi hz ad m mc news hl hnews hm (by omega) (by simp only [Nat.zero_add] at hroom; omega)
        obtain ⟨a', c', w', fp', rfl, rfl, rfl, h5, h6, h7⟩ := fresh 0 (by omega) []
        simp only [Nat.zero_add, List.nil_append, Array.empty_append] at h5 h6 h7 ⊢
        exact ⟨_, _, _, fp', hr, h5, h6, h7⟩
    · subst ha hf
      by_cases hroom2 : n + m ≤ c
      · have hfit : n * ti.size + news.length ≤ cur.size := by rw [hl, hcs, ← Nat.add_mul]; exact Nat.mul_le_mul_right _ hroom2
        have hr := run_append_room (P := P) w t ty2 e ti ht hi g n c cur hg ad m mc news hl hnews h1 hroom2 hfit
        refine ⟨_, _, _, [g], hr, ⟨hlen2, hroom2, .inr ⟨g, _, rfl, rfl, setRow_heap w g cur _ e _ hg, hcm, ?_, ?_⟩⟩, bw_setRow w g _, ?_⟩
        · simp only [List.size_toArray, List.length_append, List.length_take, List.length_drop, Array.length_toList]
          omega
        · rw [htake, ← hlen2]
          exact List.take_left
        · intro b hb
          simp at hb
          subst hb
          exact ⟨.inl (by simp), by simpa using hfp b (by simp)⟩
      · have holds : ∀ (j : Nat) u, xs[j]? = some u → w.cell? ((⟨g, 0, none⟩ : Addr).add j) = some u := fun j u hj => by
          obtain ⟨ad', h, hc⟩ := (RowP.rd (k := ti.size) (fp := [g]) (c := c) ⟨hlen, hnc, .inr ⟨g, cur, rfl, rfl, hg, hcm, hcs, htake⟩⟩) j u hj
          cases h
          exact hc
        have hr := run_append_grow (P := P) w t ty2 e ti z ht hi hz ⟨g, 0, none⟩ n c xs hlen holds ad m mc news hl hnews (by omega) (by omega) (growslice_fits (by omega) hroom)
        obtain ⟨a', c', w', fp', rfl, rfl, rfl, h5, h6, h7⟩ := fresh c (by omega) [g]
        exact ⟨_, _, _, fp', hr, h5, h6, h7⟩

/-- append: entry i is the slice, the source reads as told. -/
theorem ef_append {t e : TypeId} {ti : TypeInfo} {z : Value} {k bytes i : Nat} {x y : Operand} (ht : P.underlying t = some (.slice e)) (hi : P.info? e = some ti) (hz : ti.zero = some z) (hk : ti.size = k) (hby : ti.bytes = bytes) (hzs : z.cells.size = k) (hk0 : 0 < k) (hb0 : 0 < bytes)
    {a : Option Addr} {n c : Nat} {xs : List Value} (hx : ev env x = some (.slice a n c)) (he : es[i]? = some (rowO e k a n c xs))
    {sa : Option Addr} {m mc : Nat} {news : List Value} (hy : ev env y = some (.slice sa m mc)) (hl : news.length = m * k) (hrd : ∀ w, Cl w0 M es w → Rd w sa news) (h1 : ∀ u ∈ news, u.oneCell' = true) (hroom : (n + m) * bytes ≤ 140737488355328) :
    Ef P w0 M es env { dst := d, op := .call { callee := .builtin .append, args := #[x, y], argTypes := #[t, t] }, type := ty, pos := ps, after := af, guard := gd } false
      (fun v es' => ∃ a' c', v = .slice a' (n + m) c' ∧ es' = es.set i (rowO e k a' (n + m) c' (xs ++ news))) := by
  intro ρ hρ w hC
  obtain ⟨fp, hp, hbd, hup⟩ := hC.2.upd hC.1.size he
  obtain ⟨a', c', w', fp', hr, hrow, hbw, hnew⟩ := run_append_row (P := P) (ty2 := ty) ht hi hz hk hby hzs hk0 hb0 hp (fun b hb => (hbd b hb).2) (mc := mc) hl (hrd w hC) h1 hroom
  have hr2 : (execOp ρ { dst := d, op := .call { callee := .builtin .append, args := #[x, y], argTypes := #[t, t] }, type := ty, pos := ps, after := af, guard := gd }).run P w = .ok (.value (.slice a' (n + m) c')) w' := by
    simp [execOp, hρ _ _ hx, hρ _ _ hy, resolve, invoke, builtin, hr]
  rw [hr2]
  exact ⟨_, ⟨a', c', rfl, rfl⟩, hC.1.trans hbw (fun b hb => (hbd b hb).1), hup w' _ fp' hrow hbw.size (fun b hb hn => hbw.block b hb hn) hnew, fun h => by cases h⟩

/-- A call, by its contract. -/
def Ret (w : World) (T : Value → List Own → Prop) (e : Ending) (w' : World) : Prop := ∃ v rs, T v rs ∧ e = .returned v ∧ Bw [] w w' ∧ Sep w.heap.size [] w' rs

theorem ef_call {f : FuncId} {fn : Func} {xs : List Operand} {ts : Array TypeId} {vs : List Value} {T : Value → List Own → Prop} (hf : P.funcs[f]? = some fn) (hb : fn.body.isNone = false) (hn : (fn.name == "runtime.NumGoroutine") = false)
    (hx : evl env xs = some vs) (hc : ∀ w, Cl w0 M es w → Calls P f vs.toArray w (Ret w T)) :
    Ef P w0 M es env { dst := d, op := .call { callee := .value (.func f), args := xs.toArray, argTypes := ts }, type := ty, pos := ps, after := af, guard := gd } true
      (fun v es' => ∃ rs, T v rs ∧ es' = es ++ rs) := by
  intro ρ hρ w hC
  have hb' : fn.body ≠ none := fun h => by simp [h] at hb
  have hn' : fn.name ≠ "runtime.NumGoroutine" := by simpa using hn
  have hfv : ρ (.func f) = .func (.func f) #[] #[] := hρ _ _ rfl
  have hr2 : (execOp ρ { dst := d, op := .call { callee := .value (.func f), args := xs.toArray, argTypes := ts }, type := ty, pos := ps, after := af, guard := gd }).run P w = .ok (.enter f vs.toArray) w := by
    simp [execOp, hfv, resolve, Deferred.ofValue, invoke, callFunc, evl_map hρ hx, program, Sem.run, hf, hb', hn']
  rw [hr2]
  refine ⟨rfl, (hc w hC).mono fun e w' h => ?_⟩
  obtain ⟨v, rs, hT, rfl, hbw, hsep⟩ := h
  exact ⟨v, rfl, _, ⟨rs, hT, rfl⟩, hC.1.trans0 hbw, hC.2.join hbw hC.1.size hsep, fun _ => hbw⟩

end
end Go.Sh
