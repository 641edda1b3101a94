/- Library functions that turn a row of one's own: from the kit's words (a block's cells) to the words of `RetMs`. -/
import Derived.Test.YtinipjijgggjkaaMore
import Derived.Sort.Grow
import Derived.Lib.SlicesCompact
namespace Go.Sh
open Go Go.RowKit

/-- The world after a row was written anew and blocks were laid behind. -/
theorem heap_putRow {w : World} {q g off : Nat} {zs : List Int} {os : Array Obj} {cur : Array Value} {E : TypeId} {fr : Nat × Nat} (hh : w.heap[g]? = some (.cells cur E fr)) :
    (Sort.grow (Sort.putRow (Value.int .i64) (Sort.ahead w q) g off zs.toArray) os).heap[g]? = some (.cells (Sort.putCells (Value.int .i64) off zs.toArray cur) E fr) := by
  have hg : g < w.heap.size := by
    rcases Nat.lt_or_ge g w.heap.size with h | h
    · exact h
    · rw [Array.getElem?_eq_none h] at hh; cases hh
  rw [Sort.heap_grow_old _ _ (by simpa using hg)]
  simp [Sort.putRow, Sort.mapBlock, Array.getElem?_modify, hh, Sort.onCells]
theorem bw_putRow {w : World} {q g off : Nat} {zs : List Int} {os : Array Obj} : Bw [g] w (Sort.grow (Sort.putRow (Value.int .i64) (Sort.ahead w q) g off zs.toArray) os) := by
  refine ⟨rfl, rfl, rfl, by simp, fun k hk hm => ?_⟩
  have hkg : g ≠ k := fun h => hm (by simp [h])
  rw [Sort.heap_grow_old _ _ (by simpa using hk)]
  simp [Sort.putRow, Sort.mapBlock, Array.getElem?_modify, hkg]
theorem take_putCells {zs : List Int} {cur : Array Value} {m : Nat} (hm : m ≤ zs.length) (hl : zs.length ≤ cur.size) : (Sort.putCells (Value.int .i64) 0 zs.toArray cur).toList.take m = (zs.take m).map (Value.int .i64) := by
  apply List.ext_getElem
  · simp [Sort.putCells]; omega
  · intro i h1 h2
    simp only [List.length_map, List.length_take] at h2
    have hi : i < zs.length := by omega
    simp [Sort.putCells, hi]
theorem fl_i64 : ∀ (xs : List Int), eI64.fl xs = xs.map (Value.int .i64)
  | [] => rfl
  | x :: xs => by
    have := fl_i64 xs
    unfold Enc.fl at this ⊢
    rw [List.flatMap_cons, this]; rfl
theorem holds_row {w : World} {g : Nat} {cur : Array Value} {E : TypeId} {xs : List Int} (hh : w.heap[g]? = some (.cells cur E (0, 0))) (ht : cur.toList.take xs.length = eI64.fl xs) : Sort.Holds (Value.int .i64) w g 0 xs.toArray := by
  intro j hj
  have hj' : j < xs.length := by simpa using hj
  have hc : cur[j]? = some (.int .i64 xs[j]) := by
    have : (cur.toList.take xs.length)[j]? = some (.int .i64 xs[j]) := by
      rw [ht, fl_i64, List.getElem?_map, List.getElem?_eq_getElem hj']; rfl
    rw [List.getElem?_take_of_lt hj'] at this
    simpa using this
  constructor
  · simp [World.cell?, hh, hc, hj']
  · simp [World.frozen?, hh]

def sortL (xs : List Int) : List Int := xs.mergeSort fun x y => decide (x ≤ y)
theorem sortL_len (xs : List Int) : (sortL xs).length = xs.length := List.length_mergeSort ..
/-- slices.Sort. -/
def sortR (xs : List Int) : Option (List Int) := if xs.length ≤ 1099511627776 then some (sortL xs) else none
theorem sortR_some {xs r : List Int} (h : sortR xs = some r) : xs.length ≤ 1099511627776 ∧ r = sortL xs := by
  unfold sortR at h
  split at h
  · exact ⟨by assumption, (Option.some.inj h).symm⟩
  · cases h
theorem sortR_len {xs r : List Int} (h : sortR xs = some r) : r.length = xs.length := by
  rw [(sortR_some h).2, sortL_len]
/-- slices.Compact. -/
def compR (xs : List Int) : Option (List Int) := if xs.length ≤ 1099511627776 ∧ (Lib.compact xs).length ≤ xs.length then some (Lib.compact xs) else none
theorem compR_some {xs r : List Int} (h : compR xs = some r) : xs.length ≤ 1099511627776 ∧ (Lib.compact xs).length ≤ xs.length ∧ r = Lib.compact xs := by
  unfold compR at h
  split at h
  · rename_i h1
    exact ⟨h1.1, h1.2, (Option.some.inj h).symm⟩
  · cases h

/-- A row rewritten by the library: the new entry. -/
theorem sep_put {w : World} {M : List Nat} {E : TypeId} {g q : Nat} {n c m : Nat} {xs zs : List Int} {os : Array Obj} (gs : Sep w.heap.size M w [rowT E eI64 (some ⟨g, 0, none⟩) n c xs]) (hz : zs.length = n) (hm : m ≤ n) :
    Bw M w (Sort.grow (Sort.putRow (Value.int .i64) (Sort.ahead w q) g 0 zs.toArray) os) ∧ Sep w.heap.size M (Sort.grow (Sort.putRow (Value.int .i64) (Sort.ahead w q) g 0 zs.toArray) os) [rowT E eI64 (some ⟨g, 0, none⟩) m c (zs.take m)] := by
  obtain ⟨fp, hp, hb, hup⟩ := Sep.upd gs (Nat.le_refl _) (i := 0) rfl
  obtain ⟨h1, h2, h3⟩ := hp
  have hk : eI64.k = 1 := rfl
  rcases h3 with ⟨h3, _⟩ | ⟨g2, cur, ha, hf, hh, hcm, hcs, ht⟩
  · cases h3
  · cases ha
    subst hf
    rw [hk, Nat.mul_one] at hcs ht
    have hg := hb g (by simp)
    have hbw := bw_putRow (w := w) (q := q) (g := g) (off := 0) (zs := zs) (os := os)
    refine ⟨(Bw.refl M w).trans hbw (fun x hx => by simp at hx; subst hx; exact hg.1), ?_⟩
    refine hup _ (rowT E eI64 (some ⟨g, 0, none⟩) m c (zs.take m)) [g] ⟨?_, by omega, .inr ⟨g, _, rfl, rfl, heap_putRow hh, hcm, ?_, ?_⟩⟩ hbw.size (fun b hb2 hb3 => hbw.block b hb2 hb3) (fun b hb2 => ⟨.inl hb2, ?_⟩)
    · rw [Enc.fl_length, List.length_take, Nat.min_eq_left (by omega)]
    · simp [Sort.putCells, hcs, hk]
    · rw [hk, Nat.mul_one, take_putCells (by omega) (by omega), fl_i64]
    · simp at hb2; subst hb2
      exact Nat.lt_of_lt_of_le hg.2 hbw.size
section
variable {T : Type} {e : Enc T} {P : Program} {C : World → Prop} {env : List (Nat × Value)} {d : Option Tmp} {ty : TypeId} {ps : String} {af : Array Edge} {gd : Option (Nat × Bool)}
theorem yl_idxVT {x y : Operand} {t E : TypeId} {u : TypeDesc} {ti : TypeInfo} {k' : IntKind} {n : Nat} {i : Int} {z : T} {xs : List T} (ht : P.underlying t = some (.array n E)) (hE : P.underlying E = some u) (hu : (match u with | .struct _ | .array _ _ => true | _ => false) = true) (hi : P.info? E = some ti) (hs : ti.size = e.k)
    (hx : ev env x = some (.agg (e.fl xs).toArray)) (hy : ev env y = some (.int k' i)) (hn : xs.length = n) (hz : getI xs i = some z) :
    Yl P C env { dst := d, op := .index t x y, type := ty, pos := ps, after := af, guard := gd } (.agg (e.f z).toArray) := by
  obtain ⟨h1, h2, h3⟩ := getI_some hz
  intro ρ hρ w _
  have h4 : i < n := by omega
  have h6 : (isAgg E).run P w = .ok true w := (run_isAgg hE w).trans (by cases u <;> first | rfl | cases hu)
  have h7 := Enc.fl_at (e := e) h3
  simp [execOp, hρ _ _ hx, hρ _ _ hy, Instr.index, asIntOf, run_underlying ht, h1, h4, part, h6, run_sizeOf hi, hs]
  exact h7
theorem rv_arr {w0 : World} {M : List Nat} {es : List Own} (i : Nat) {a t g E n c : Nat} {xs : List T} {u : TypeDesc} {ti : TypeInfo} (ha : lk env a = some (ptrAt (some ⟨g, 0, none⟩) 0)) (he : es[i]? = some (rowT E e (some ⟨g, 0, none⟩) n c xs))
    (ht : P.underlying t = some u) (hn : (match u with | .struct _ | .array _ _ => true | _ => false) = true) (hi : P.info? t = some ti) (hl : xs.length * e.k = ti.size) :
    ∃ ad, lk env a = some (.pointer (some ad)) ∧ ∀ w, Cl w0 M es w → (loadVar t ad).run P w = .ok (.agg (e.fl xs).toArray) w :=
  ⟨⟨g, 0, none⟩, ha, fun w hC => run_loadVarn ht hn hi (by rw [Enc.fl_length, hl]) fun j u hj => by
    obtain ⟨ad, h1, h2⟩ := rd_row hC i he j u hj
    cases h1
    exact h2⟩
theorem list_four {xs : List T} {a b c d : T} (hl : xs.length = 4) (ha : getI xs (0 : Int) = some a) (hb : getI xs (1 : Int) = some b) (hc : getI xs (2 : Int) = some c) (hd : getI xs (3 : Int) = some d) : xs = [a, b, c, d] := by
  have h0 := (getI_some ha).2.2
  have h1 := (getI_some hb).2.2
  have h2 := (getI_some hc).2.2
  have h3 := (getI_some hd).2.2
  match xs, hl with
  | [p, q, r, s], _ => simp at h0 h1 h2 h3; rw [h0, h1, h2, h3]
theorem yl_loadArr {x : Operand} {t : TypeId} {u : TypeDesc} {ti : TypeInfo} {a : Option Addr} {xs : List T} (ys : List T) (ht : P.underlying t = some u) (hn : (match u with | .struct _ | .array _ _ => true | _ => false) = true)
    (hi : P.info? t = some ti) (hs : ti.size = ys.length * e.k) (h0 : 0 < ti.size) (hx : ev env x = some (ptrAt a 0)) (hC : ∀ w, C w → Rd w a (e.fl xs)) (hy : xs = ys) :
    Yl P C env { dst := d, op := .load t x, type := ty, pos := ps, after := af, guard := gd } (.agg (e.fl ys).toArray) := by
  subst hy
  exact yl_loadn ht hn hi hx hC (by rw [hs, ← Enc.fl_length, List.drop_zero, List.take_length]) (by rw [hs, Enc.fl_length]) h0
end
section
variable {P : Program} {f : FuncId}
theorem row_of {w : World} {M : List Nat} {E : TypeId} {a : Option Addr} {n c : Nat} {xs : List Int} (gs : Sep w.heap.size M w [rowT E eI64 a n c xs]) (hn : xs.length = n) (hx : ¬ n = 0) : ∃ g, a = some ⟨g, 0, none⟩ ∧ g < w.heap.size ∧ Sort.Holds (Value.int .i64) w g 0 xs.toArray ∧ n ≤ c := by
  obtain ⟨fp, hp, hb⟩ := Sep.get gs (i := 0) rfl
  obtain ⟨h1, h2, h3⟩ := hp
  rcases h3 with ⟨_, hc0, _⟩ | ⟨g, cur, ha, hf, hh, hcm, hcs, ht⟩
  · omega
  · subst ha
    subst hf
    subst hn
    have hk : eI64.k = 1 := rfl
    rw [hk, Nat.mul_one] at hcs ht
    exact ⟨g, rfl, hb g (by simp), holds_row hh ht, h2⟩
theorem sort_ad (hK : ∀ (blk off cap : Nat) (zs : List Int) (w : World), Sort.Holds (Value.int .i64) w blk off zs.toArray → blk < w.heap.size → zs.length < 4611686018427387904 →
      Calls P f #[.slice (some ⟨blk, off, none⟩) zs.length cap] w fun e w' => e = .returned (.tuple #[]) ∧ ∃ n os, w' = Sort.grow (Sort.putRow (Value.int .i64) (Sort.ahead w n) blk off (zs.mergeSort fun x y => decide (x ≤ y)).toArray) os)
    (h0 : ∀ (p : Option Addr) (cap : Nat) (w : World), Calls P f #[.slice p 0 cap] w fun e w' => e = .returned (.tuple #[]) ∧ w' = w)
    {w : World} {M : List Nat} {E : TypeId} {a : Option Addr} {n c : Nat} {xs r : List Int} (gs : Sep w.heap.size M w [rowT E eI64 a n c xs]) (hn : xs.length = n) (hr : sortR xs = some r) :
    Calls P f [.slice a n c].toArray w (RetMs w M fun v es' rs => v = .tuple #[] ∧ es' = [rowT E eI64 a n c r] ∧ rs = []) := by
  obtain ⟨hl, rfl⟩ := sortR_some hr
  by_cases hx : n = 0
  · subst hx
    have hx0 : xs = [] := List.eq_nil_of_length_eq_zero hn
    subst hx0
    refine (h0 a c w).mono fun e w' h => ?_
    obtain ⟨rfl, rfl⟩ := h
    exact ⟨_, _, [], ⟨rfl, rfl, rfl⟩, rfl, Bw.refl M _, by simpa [sortL] using gs⟩
  · obtain ⟨g, rfl, hg, hH, hnc⟩ := row_of gs hn hx
    have hc := hK g 0 c xs w hH hg (by omega)
    rw [hn] at hc
    refine hc.mono fun e w' h => ?_
    obtain ⟨rfl, q, os, rfl⟩ := h
    obtain ⟨h1, h2⟩ := sep_put (q := q) (os := os) (zs := sortL xs) (m := n) gs (by rw [sortL_len, hn]) (Nat.le_refl _)
    rw [List.take_of_length_le (by rw [sortL_len, hn]; exact Nat.le_refl _)] at h2
    exact ⟨_, _, [], ⟨rfl, rfl, rfl⟩, rfl, h1, h2⟩
theorem compact_ad (hK : ∀ (blk off cap : Nat) (zs : List Int) (w : World), Sort.Holds (Value.int .i64) w blk off zs.toArray → zs.length ≤ 9223372036854775807 → zs.length ≤ cap →
      Calls P f #[.slice (some ⟨blk, off, none⟩) zs.length cap] w fun e w' => e = .returned (.slice (some ⟨blk, off, none⟩) (Lib.compact zs).length cap) ∧ ∃ q, w' = Sort.putRow (Value.int .i64) (Sort.ahead w q) blk off (Lib.compact zs ++ List.replicate (zs.length - (Lib.compact zs).length) 0).toArray)
    (h0 : ∀ (a : Option Addr) (cap : Nat) (w : World), Calls P f #[.slice a 0 cap] w fun e w' => e = .returned (.slice a 0 cap) ∧ w' = w)
    {w : World} {M : List Nat} {E : TypeId} {a : Option Addr} {n c : Nat} {xs r : List Int} (gs : Sep w.heap.size M w [rowT E eI64 a n c xs]) (hn : xs.length = n) (hr : compR xs = some r) :
    Calls P f [.slice a n c].toArray w (RetMs w M fun v es' rs => v = .slice a r.length c ∧ es' = [rowT E eI64 a r.length c r] ∧ rs = []) := by
  obtain ⟨hl, hle, rfl⟩ := compR_some hr
  by_cases hx : n = 0
  · subst hx
    have hx0 : xs = [] := List.eq_nil_of_length_eq_zero hn
    subst hx0
    refine (h0 a c w).mono fun e w' h => ?_
    obtain ⟨rfl, rfl⟩ := h
    exact ⟨_, _, [], ⟨rfl, rfl, rfl⟩, rfl, Bw.refl M _, gs⟩
  · obtain ⟨g, rfl, hg, hH, hnc⟩ := row_of gs hn hx
    have hc := hK g 0 c xs w hH (by omega) (by omega)
    rw [hn] at hc
    refine hc.mono fun e w' h => ?_
    obtain ⟨rfl, q, rfl⟩ := h
    have hle' : (Lib.compact xs).length ≤ n := by rw [← hn]; exact hle
    obtain ⟨h1, h2⟩ := sep_put (q := q) (os := #[]) (zs := Lib.compact xs ++ List.replicate (n - (Lib.compact xs).length) 0) (m := (Lib.compact xs).length) gs (by simp; omega) hle'
    rw [List.take_left, Sort.grow_empty] at h2
    rw [Sort.grow_empty] at h1
    exact ⟨_, _, [], ⟨rfl, rfl, rfl⟩, rfl, h1, h2⟩
end
end Go.Sh
