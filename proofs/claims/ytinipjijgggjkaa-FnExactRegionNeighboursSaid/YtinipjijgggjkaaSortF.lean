/- slices.SortFunc at points: from the kit's words to the words of `RetMs`. -/
import Derived.Test.YtinipjijgggjkaaMaps
import Derived.Shelf.SlSortCmp.NoneTotal
import Derived.WalkKit
import Derived.ProofKit
import Derived.Test.YtinipjijgggjkaaSortP
namespace Go.Sh
def cmpI (x y : Int) : Int := if x < y then -1 else if y < x then 1 else 0
def cmpP (a1 a2 b1 b2 : Int) : Int := if cmpI a2 b2 = 0 then cmpI a1 b1 else cmpI a2 b2
/-- Row by row. -/
def ltP (a1 a2 b1 b2 : Int) : Bool := decide (a2 < b2) || (decide (a2 = b2) && decide (a1 < b1))
theorem cmpP_lt (a1 a2 b1 b2 : Int) : decide (cmpP a1 a2 b1 b2 < 0) = ltP a1 a2 b1 b2 := by
  unfold cmpP ltP cmpI
  rw [Bool.eq_iff_iff]
  simp only [decide_eq_true_eq, Bool.or_eq_true, Bool.and_eq_true]
  split <;> split <;> (try split) <;> omega
end Go.Sh
namespace Go.Proofs
open Go.Shelf Go.RowKit Go.Lib Go.Sort
set_option maxHeartbeats 1000000 in
theorem Try.walkCmp (x y : Int) (W : World) : Calls Try.prog 181 #[.int .i64 x, .int .i64 y] W fun e w' => e = .returned (.int .i64 (Go.Sh.cmpI x y)) ∧ w' = W := by
  unfold Go.Sh.cmpI
  go_enter Try.func181, Try.ntmps181
  by_cases h1 : x < y
  · go_wp2
    go_ret
    simp_all
  · by_cases h2 : y < x
    · go_wp2
      go_ret
      simp_all
    · go_wp2
      go_ret
      simp_all
set_option maxRecDepth 100000 in
set_option maxHeartbeats 1000000 in
theorem Try.walkCmpP (x1 x2 y1 y2 : Int) (W : World) : Calls Try.prog 151 #[.agg #[.int .i64 x1, .int .i64 x2], .agg #[.int .i64 y1, .int .i64 y2]] W fun e w' => e = .returned (.int .i64 (Go.Sh.cmpP x1 x2 y1 y2)) ∧ ∃ q os', w' = grow (W.drewN q) os' := by
  unfold Go.Sh.cmpP
  have hc := Try.walkCmp
  obtain ⟨f, hf⟩ : ∃ f, f = Go.Sh.cmpI := ⟨_, rfl⟩
  rw [← hf] at hc ⊢
  clear hf
  by_cases h : f x2 y2 = 0
  · rw [if_pos h]
    go_enter Try.func151, Try.ntmps151
    go_wp2_with (go_at_call 181; refine (hc _ _ _).mono ?_; rintro e w' ⟨rfl, rfl⟩)
    go_ret
    exact ⟨rfl, 0, _, by rw [alloc_eq_grow, alloc_eq_grow, grow_grow]; rfl⟩
  · rw [if_neg h]
    go_enter Try.func151, Try.ntmps151
    go_wp2_with (go_at_call 181; refine (hc _ _ _).mono ?_; rintro e w' ⟨rfl, rfl⟩)
    all_goals first | (exfalso; simp_all; done) | skip
    go_ret
    exact ⟨rfl, 0, _, by rw [alloc_eq_grow, alloc_eq_grow, grow_grow]; rfl⟩
end Go.Proofs
namespace Go.Sh
open Go Go.RowKit
section
variable {w : World} {q g off : Nat} {vs : List Value} {os : Array Obj} {cur : Array Value} {E : TypeId}
theorem heap_putV {fr : Nat × Nat} (hh : w.heap[g]? = some (.cells cur E fr)) :
    (Sort.grow (Sort.putRow id (Sort.ahead w q) g off vs.toArray) os).heap[g]? = some (.cells (Sort.putCells id off vs.toArray cur) E fr) := by
  have hg : g < w.heap.size := by
    rcases Nat.lt_or_ge g w.heap.size with h | h
    · exact h
    · rw [Array.getElem?_eq_none h] at hh; cases hh
  rw [Sort.heap_grow_old _ _ (by simpa using hg)]
  simp [Sort.putRow, Sort.mapBlock, Array.getElem?_modify, hh, Sort.onCells]
theorem bw_putV : Bw [g] w (Sort.grow (Sort.putRow id (Sort.ahead w q) g off vs.toArray) os) := by
  refine ⟨rfl, rfl, rfl, by simp, fun k hk hm => ?_⟩
  have hkg : g ≠ k := fun h => hm (by simp [h])
  rw [Sort.heap_grow_old _ _ (by simpa using hk)]
  simp [Sort.putRow, Sort.mapBlock, Array.getElem?_modify, hkg]
theorem take_putV (hl : vs.length ≤ cur.size) : (Sort.putCells id 0 vs.toArray cur).toList.take vs.length = vs := by
  apply List.ext_getElem
  · simp [Sort.putCells]; omega
  · intro i h1 h2
    simp [Sort.putCells, h2]
end
section
variable {T : Type}
/-- A sorted list. -/
def sortW (lt : T → T → Bool) (xs : List T) : Option (List T) := if xs.length ≤ 1099511627776 then some (xs.mergeSort fun x y => !lt y x) else none
theorem sortW_some {lt : T → T → Bool} {xs r : List T} (h : sortW lt xs = some r) : xs.length ≤ 1099511627776 ∧ r = xs.mergeSort fun x y => !lt y x := by
  unfold sortW at h
  split at h
  · exact ⟨by assumption, (Option.some.inj h).symm⟩
  · cases h
theorem sortW_len {lt : T → T → Bool} {xs r : List T} (h : sortW lt xs = some r) : r.length = xs.length := by
  rw [(sortW_some h).2]; exact List.length_mergeSort ..
end
section
variable {T : Type} [Inhabited T] {e : Enc T}
theorem flatK_fl (xs : List T) : Sort.flatK e.f e.k xs.toArray = (e.fl xs).toArray := by
  refine Sort.ext_get! (by simp [Enc.fl_length]) fun t ht => ?_
  have ht' : t < xs.length * e.k := by simpa using ht
  have hk := e.pos
  have hi : t / e.k < xs.length := by rw [Nat.div_lt_iff_lt_mul hk]; exact ht'
  have hj : t % e.k < e.k := Nat.mod_lt _ hk
  have hx : xs[t / e.k]? = some xs[t / e.k] := List.getElem?_eq_getElem hi
  have hlen := e.len xs[t / e.k]
  have hu : (e.f xs[t / e.k])[t % e.k]? = some ((e.f xs[t / e.k])[t % e.k]'(by omega)) := List.getElem?_eq_getElem (by omega)
  have hc := Enc.fl_cell (e := e) hx hu
  rw [Nat.div_add_mod' t e.k] at hc
  rw [Sort.get_flatK _ _ _ t (by simpa using ht')]
  have h1 : (xs.toArray)[t / e.k]! = xs[t / e.k] := by simp [hi]
  have hl2 : t < (e.fl xs).length := by rw [Enc.fl_length]; exact ht'
  rw [h1]
  simp only [List.getElem!_toArray]
  rw [List.getElem!_eq_getElem?_getD, List.getElem!_eq_getElem?_getD, hc, hu]
theorem sortf_ad {P : Program} {f : FuncId} {fv : Value} {lt : T → T → Bool}
    (hK : ∀ (blk off cap : Nat) (d : Array T) (w : World), Sort.HoldsK e.f e.k w blk off d → blk < w.heap.size → d.size < 4611686018427387904 →
      Calls P f #[.slice (some ⟨blk, off, none⟩) d.size cap, fv] w fun e1 w' => e1 = .returned (.tuple #[]) ∧ ∃ n os, w' = Go.Proofs.sortWorldK e.f e.k w blk off n (d.toList.mergeSort fun x y => !lt y x).toArray os)
    (h0 : ∀ (p : Option Addr) (cap : Nat) (w : World), Calls P f #[.slice p 0 cap, fv] w fun e1 w' => e1 = .returned (.tuple #[]) ∧ w' = w)
    {w : World} {M : List Nat} {E : TypeId} {a : Option Addr} {n c : Nat} {xs r : List T} (gs : Sep w.heap.size M w [rowT E e a n c xs]) (hn : xs.length = n) (hr : sortW lt xs = some r) :
    Calls P f [.slice a n c, fv].toArray w (RetMs w M fun v es' rs => v = .tuple #[] ∧ es' = [rowT E e a n c r] ∧ rs = []) := by
  obtain ⟨hl, hre⟩ := sortW_some hr
  have hrl := sortW_len hr
  by_cases hx : n = 0
  · subst hx
    have hx0 : xs = [] := List.eq_nil_of_length_eq_zero hn
    subst hx0
    have hr0 : r = [] := List.eq_nil_of_length_eq_zero hrl
    subst hr0
    refine (h0 a c w).mono fun e1 w' h => ?_
    obtain ⟨rfl, rfl⟩ := h
    exact ⟨_, _, [], ⟨rfl, rfl, rfl⟩, rfl, Bw.refl M _, by simpa using gs⟩
  · obtain ⟨fp, hp, hb, hup⟩ := Sep.upd gs (Nat.le_refl _) (i := 0) rfl
    obtain ⟨h1, h2, h3⟩ := hp
    rcases h3 with ⟨_, hc0, _⟩ | ⟨g, cur, ha, hf, hh, hcm, hcs, ht⟩
    · omega
    · subst ha
      subst hf
      subst hn
      have hg := hb g (by simp)
      have hH : Sort.HoldsK e.f e.k w g 0 xs.toArray := by
        unfold Sort.HoldsK
        rw [flatK_fl]
        intro j hj
        have hj' : j < (e.fl xs).length := by simpa using hj
        have hjl : j < xs.length * e.k := by rw [← Enc.fl_length]; exact hj'
        have hcj : cur[j]? = some (e.fl xs)[j] := by
          have : (cur.toList.take (xs.length * e.k))[j]? = some (e.fl xs)[j] := by rw [ht]; exact List.getElem?_eq_getElem hj'
          rw [List.getElem?_take_of_lt hjl] at this
          simpa using this
        constructor
        · simp [World.cell?, hh, hcj, hj']
        · simp [World.frozen?, hh]
      have hc := hK g 0 c xs.toArray w hH hg.2 (by simp; omega)
      have hsz : xs.toArray.size = xs.length := by simp
      rw [hsz] at hc
      refine hc.mono fun e1 w' h => ?_
      obtain ⟨rfl, q, os, hw⟩ := h
      have hw2 : w' = Sort.grow (Sort.putRow id (Sort.ahead w q) g 0 (e.fl r).toArray) os := by
        rw [hw]
        unfold Go.Proofs.sortWorldK Sort.putRowK
        rw [flatK_fl, ← hre]
      subst hw2
      have hfl : (e.fl r).length = xs.length * e.k := by rw [Enc.fl_length, hrl]
      have hcur : (e.fl r).length ≤ cur.size := by rw [hfl, hcs]; exact Nat.mul_le_mul_right _ h2
      have hbw := bw_putV (w := w) (q := q) (g := g) (off := 0) (vs := e.fl r) (os := os)
      have hsep := hup _ (rowT E e (some ⟨g, 0, none⟩) xs.length c r) [g] ⟨hfl, h2, .inr ⟨g, _, rfl, rfl, heap_putV hh, hcm, by simp [Sort.putCells, hcs], by
          rw [← hfl]; exact take_putV hcur⟩⟩ hbw.size (fun b hb2 hb3 => hbw.block b hb2 hb3) (fun b hb2 => ⟨.inl hb2, by
          simp at hb2; subst hb2
          exact Nat.lt_of_lt_of_le hg.2 hbw.size⟩)
      exact ⟨_, _, [], ⟨rfl, rfl, rfl⟩, rfl, (Bw.refl M w).trans hbw (fun x hx => by simp at hx; subst hx; exact hg.1), by simpa using hsep⟩
end
end Go.Sh
