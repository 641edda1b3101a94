/- Strings: a string's bytes appended to a row of bytes. -/
import Derived.Test.YtinipjijgggjkaaOpen
import Derived.Lib.AppendStr
namespace Go.Sh
open Go Go.RowKit

/-- A string's bytes as numbers. -/
def strI (s : ByteArray) : List Int := s.data.toList.map fun b => (b.toNat : Int)
theorem strI_cells (s : ByteArray) : eU8.fl (strI s) = Lib.strCells s := by
  rw [fl_U8, strI, Lib.strCells, List.map_map]; rfl
theorem strI_length (s : ByteArray) : (strI s).length = s.size := by
  rw [strI, List.length_map, Array.length_toList]; rfl

theorem run_append_row_str {P : Program} {t u ty2 e : TypeId} {ti : TypeInfo} (ht : P.underlying t = some (.slice e)) (hu : P.underlying u = some .string) (hi : P.info? e = some ti) (hz : ti.zero = some (.int .u8 0)) (hk : ti.size = 1) (hby : ti.bytes = 1)
    {a : Option Addr} {n c : Nat} {xs : List Value} {w : World} {fp : List Nat} (hrow : RowP e 1 a n c xs w fp) (hfp : ∀ b ∈ fp, b < w.heap.size) (s : ByteArray) (hroom : n + s.size ≤ 140737488355328) :
    ∃ a' c' w' fp', (Builtin.append_ #[t, u] ty2 #[.slice a n c, .string s]).run P w = .ok (.slice a' (n + s.size) c') w' ∧ RowP e 1 a' (n + s.size) c' (xs ++ Lib.strCells s) w' fp' ∧ Bw fp w w' ∧ (∀ b ∈ fp', (b ∈ fp ∨ w.heap.size ≤ b) ∧ b < w'.heap.size) := by
  obtain ⟨hlen, hnc, h3⟩ := hrow
  have hxl : xs.length = n := by simpa using hlen
  have hlen2 : (xs ++ Lib.strCells s).length = (n + s.size) * 1 := by rw [List.length_append, hxl, Lib.strCells_length, Nat.mul_one]
  have fresh : ∀ old, old < n + s.size → ∀ M', ∃ a' c' w' fp', a' = some ⟨w.heap.size, 0, none⟩ ∧ c' = grownCap w (n + s.size) old e ∧ w' = w.drew.alloc (.cells (xs.toArray ++ (Lib.strCells s).toArray ++ Builtin.zeroCells (Value.int .u8 0).cells (grownCap w (n + s.size) old e - (n + s.size))) e) ∧ RowP e 1 a' (n + s.size) c' (xs ++ Lib.strCells s) w' fp' ∧ Bw M' w w' ∧ (∀ b ∈ fp', (b ∈ M' ∨ w.heap.size ≤ b) ∧ b < w'.heap.size) := by
    intro old ho M'
    have hge := grownCap_ge w (n + s.size) old e
    have hcm : grownCap w (n + s.size) old e ≤ maxLen := grownCap_le_maxLen w (n + s.size) old e (by simp only [maxLen]; omega)
    refine ⟨_, _, _, [w.heap.size], rfl, rfl, rfl, ⟨hlen2, hge, .inr ⟨w.heap.size, _, rfl, rfl, heap_alloc_new w.drew _, hcm, ?_, ?_⟩⟩, ⟨rfl, rfl, rfl, by simp, fun k hk _ => Below.heap_alloc w.drew _ k hk⟩, by simp⟩
    · have hz1 : (Value.int IntKind.u8 0).cells.size = 1 := rfl
      simp only [Array.size_append, List.size_toArray, size_zeroCells, hz1, hxl, Lib.strCells_length]
      omega
    · simp only [Array.toList_append, List.append_assoc]
      rw [← List.append_assoc, ← hlen2]
      exact List.take_left
  rcases h3 with ⟨ha, hc, hf⟩ | ⟨g, cur, ha, hf, hg, hcm, hcs, htake⟩
  · subst ha hc hf
    have hn : n = 0 := by omega
    subst hn
    have hx : xs = [] := List.eq_nil_of_length_eq_zero hxl
    subst hx
    by_cases hm : s.size = 0
    · have hn : Lib.strCells s = [] := List.eq_nil_of_length_eq_zero (by rw [Lib.strCells_length]; exact hm)
      refine ⟨none, 0, w, [], ?_, ⟨by simp [hn, hm], by simp [hm], .inl ⟨rfl, rfl, rfl⟩⟩, Bw.refl _ _, by simp⟩
      have hf := Lib.run_firstCells_string (P := P) w 1 s
      rw [hm] at hf
      simp [Builtin.append_, run_underlying ht, run_underlying hu, sizeOf, typeInfo, hi, hk, Builtin.lenOf, hm, hf]
    · have hr := run_append_nil_string (P := P) w t u ty2 e ti (.int .u8 0) ht hu hi hz s (by omega) (by omega) (by rw [hby]; omega)
      have e1 : (s.data.map fun b => Value.int .u8 b.toNat) = (Lib.strCells s).toArray := by
        apply Array.ext'
        simp [Lib.strCells]
      rw [e1] at hr
      obtain ⟨a', c', w', fp', rfl, rfl, rfl, h5, h6, h7⟩ := fresh 0 (by omega) []
      simp only [Nat.zero_add, List.nil_append, Array.empty_append] at h5 h6 h7 ⊢
      exact ⟨_, _, _, fp', hr, h5, h6, h7⟩
  · subst ha hf
    by_cases hroom2 : n + s.size ≤ c
    · have hr := Lib.run_append_room_string (P := P) w t u ty2 e ti ht hu hi hk g n c cur hg s hroom2 (by omega)
      refine ⟨_, _, _, [g], hr, ⟨hlen2, hroom2, .inr ⟨g, _, rfl, rfl, setRow_heap w g cur _ e _ hg, hcm, ?_, ?_⟩⟩, bw_setRow w g _, ?_⟩
      · simp only [List.size_toArray, List.length_append, List.length_take, List.length_drop, Array.length_toList, Lib.strCells_length]
        omega
      · have ht' : cur.toList.take n = xs := by simpa using htake
        rw [ht', ← hlen2]
        exact List.take_left
      · intro b hb
        simp at hb
        subst hb
        exact ⟨.inl (by simp), by simpa using hfp b (by simp)⟩
    · have holds : ∀ (j : Nat) u, xs[j]? = some u → w.cell? ((⟨g, 0, none⟩ : Addr).add j) = some u := fun j u hj => by
        obtain ⟨ad', h, hc⟩ := (RowP.rd (k := 1) (fp := [g]) (c := c) ⟨hlen, hnc, .inr ⟨g, cur, rfl, rfl, hg, hcm, hcs, htake⟩⟩) j u hj
        cases h
        exact hc
      have hr := Lib.run_append_grow_string (P := P) w t u ty2 e ti (.int .u8 0) ht hu hi hz ⟨g, 0, none⟩ n c xs (by rw [hk]; simpa using hxl) holds s (by omega) (by omega) (by rw [hby]; exact growslice_fits (by omega) (by omega))
      obtain ⟨a', c', w', fp', rfl, rfl, rfl, h5, h6, h7⟩ := fresh c (by omega) [g]
      exact ⟨_, _, _, fp', hr, h5, h6, h7⟩

section
variable {P : Program} {w0 : World} {M : List Nat} {env : List (Nat × Value)} {es : List Own} {d : Option Tmp} {ty : TypeId} {ps : String} {af : Array Edge} {gd : Option (Nat × Bool)}
theorem ef_appendS {t u E : TypeId} {ti : TypeInfo} {ix : Nat} {x y : Operand} (ht : P.underlying t = some (.slice E)) (hu : P.underlying u = some .string) (hi : P.info? E = some ti) (hz : ti.zero = some (.int .u8 0)) (hk : ti.size = 1) (hby : ti.bytes = 1)
    {a : Option Addr} {n c : Nat} {xs zs : List Int} {s : ByteArray} (hx : ev env x = some (.slice a n c)) (he : es[ix]? = some (rowT E eU8 a n c xs)) (hn : xs.length = n)
    (hy : ev env y = some (.string s)) (hr : appL xs (strI s) = some zs) :
    Ef P w0 M es env { dst := d, op := .call { callee := .builtin .append, args := #[x, y], argTypes := #[t, u] }, type := ty, pos := ps, after := af, guard := gd } false
      (fun v es' => ∃ a' c', v = .slice a' zs.length c' ∧ es' = es.set ix (rowT E eU8 a' zs.length c' zs)) := by
  obtain ⟨hl, rfl⟩ := appL_some hr
  rw [strI_length] at hl
  intro ρ hρ w hC
  obtain ⟨fp, hp, hbd, hup⟩ := hC.2.upd hC.1.size he
  obtain ⟨a', c', w', fp', hr, hrow, hbw, hnew⟩ := run_append_row_str (P := P) (ty2 := ty) ht hu hi hz hk hby hp (fun b hb => (hbd b hb).2) s (by omega)
  have hr2 : (execOp ρ { dst := d, op := .call { callee := .builtin .append, args := #[x, y], argTypes := #[t, u] }, type := ty, pos := ps, after := af, guard := gd }).run P w = .ok (.value (.slice a' (n + s.size) c')) w' := by
    simp [execOp, hρ _ _ hx, hρ _ _ hy, resolve, invoke, builtin, hr]
  rw [hr2]
  have e1 : (xs ++ strI s).length = n + s.size := by rw [List.length_append, hn, strI_length]
  refine ⟨_, ⟨a', c', by rw [e1], rfl⟩, hC.1.trans hbw (fun b hb => (hbd b hb).1), ?_, fun h => by cases h⟩
  rw [e1]
  refine hup w' _ fp' ?_ hbw.size (fun b hb hn => hbw.block b hb hn) hnew
  show RowP E 1 a' (n + s.size) c' (eU8.fl (xs ++ strI s)) w' fp'
  rw [Enc.fl_append, strI_cells]
  exact hrow
end

/-! ### the rest of a slice; arrays -/
def adv (a : Option Addr) (c lo k : Nat) : Option Addr := if c = lo then a else a.map (·.add (lo * k))
theorem dropL_len {T : Type} {xs zs : List T} {i : Int} {n : Nat} (h : dropL xs i = some zs) (hn : xs.length = n) : zs.length = n - i.toNat := by
  obtain ⟨_, _, rfl⟩ := dropL_some h
  rw [List.length_drop, hn]
theorem Rd.dropT {T : Type} {e : Enc T} {w : World} {a : Option Addr} {xs zs : List T} {i : Int} {n c : Nat} (h : Rd w a (e.fl xs)) (hz : dropL xs i = Option.some zs) (hn : xs.length = n) (hc : n ≤ c) : Rd w (adv a c i.toNat e.k) (e.fl zs) := by
  obtain ⟨h0, h1, rfl⟩ := dropL_some hz
  intro j u hj
  unfold adv
  split
  · exfalso
    have hl := (List.getElem?_eq_some_iff.1 hj).1
    rw [Enc.fl_length, List.length_drop, show xs.length - i.toNat = 0 by omega] at hl
    omega
  · rw [← Enc.fl_drop, List.getElem?_drop] at hj
    obtain ⟨ad, rfl, hcell⟩ := h _ u hj
    exact ⟨_, rfl, by rw [Addr.add_add]; exact hcell⟩
theorem rd_nil (w : World) {T : Type} (e : Enc T) : Rd w none (e.fl []) := fun j u hj => by simp [Enc.fl] at hj

section
variable {P : Program} {C : World → Prop} {env : List (Nat × Value)} {d : Option Tmp} {ty : TypeId} {ps : String} {af : Array Edge} {gd : Option (Nat × Bool)} {T : Type} {e : Enc T}
theorem yl_dropT {x y : Operand} {t E : TypeId} {ti : TypeInfo} {k : IntKind} {a : Option Addr} {n c : Nat} {i : Int} {xs zs : List T} (ht : P.underlying t = some (.slice E)) (hi : P.info? E = some ti) (hk : ti.size = e.k)
    (hx : ev env x = some (.slice a n c)) (hy : ev env y = some (.int k i)) (hz : dropL xs i = some zs) (hn : xs.length = n) :
    Yl P C env { dst := d, op := .slice t x (some y) none none, type := ty, pos := ps, after := af, guard := gd } (.slice (adv a c i.toNat e.k) (n - i.toNat) (c - i.toNat)) := by
  obtain ⟨h0, h1, rfl⟩ := dropL_some hz
  intro ρ hρ w hw
  have hle : i ≤ n := by omega
  simp [execOp, hρ _ _ hx, hρ _ _ hy, Instr.sliceAt, Instr.slice, Instr.sliceBounds, Instr.sliceBound, asIntOf, run_underlying ht, run_sizeOf hi, h0, hle, adv, hk]

theorem yl_dropArr {x y : Operand} {t E : TypeId} {ti : TypeInfo} {k : IntKind} {ad : Addr} {n : Nat} {i : Int} {xs zs : List T} (ht : P.underlying t = some (.array n E)) (hi : P.info? E = some ti) (hk : ti.size = e.k)
    (hx : ev env x = some (ptrAt (some ad) 0)) (hy : ev env y = some (.int k i)) (hz : dropL xs i = some zs) (hn : xs.length = n) :
    Yl P C env { dst := d, op := .slice t x (some y) none none, type := ty, pos := ps, after := af, guard := gd } (.slice (adv (some ad) n i.toNat e.k) (n - i.toNat) (n - i.toNat)) := by
  obtain ⟨h0, h1, rfl⟩ := dropL_some hz
  intro ρ hρ w hw
  have hle : i ≤ n := by omega
  have h00 : ad.add 0 = ad := by simp [Addr.add]
  have hv : adv (some ad) n i.toNat e.k = some (if n = i.toNat then ad else ad.add (i.toNat * e.k)) := by unfold adv; split <;> rfl
  rw [hv]
  simp [execOp, hρ _ _ hx, hρ _ _ hy, Instr.sliceAt, Instr.sureAddr, ptrAt, Instr.sliceBounds, Instr.sliceBound, asIntOf, run_underlying ht, run_sizeOf hi, h0, hle, hk, h00]

theorem yl_idxArr {x y : Operand} {t E : TypeId} {ti : TypeInfo} {k : IntKind} {ad : Addr} {n : Nat} {i : Int} {xs : List T} {z : T} (ht : P.underlying t = some (.array n E)) (hi : P.info? E = some ti) (hk : ti.size = e.k)
    (hx : ev env x = some (ptrAt (some ad) 0)) (hy : ev env y = some (.int k i)) (hz : getI xs i = some z) (hn : xs.length = n) :
    Yl P C env { dst := d, op := .indexAddr t x y, type := ty, pos := ps, after := af, guard := gd } (ptrAt (some ad) (i.toNat * e.k)) := by
  obtain ⟨h1, h2, h3⟩ := getI_some hz
  intro ρ hρ w hw
  have hle : i < n := by omega
  have h00 : ad.add 0 = ad := by simp [Addr.add]
  simp [execOp, hρ _ _ hx, hρ _ _ hy, Instr.indexAt, Instr.sureAddr, ptrAt, asIntOf, run_underlying ht, run_sizeOf hi, h1, hle, hk, h00]
end

/-! ### a part of a string -/
theorem subS_some {s z : ByteArray} {i j : Int} (h : subS s i j = some z) : 0 ≤ i ∧ i ≤ j ∧ j ≤ s.size ∧ z = s.extract i.toNat j.toNat := by
  unfold subS at h
  split at h
  · rename_i hc
    exact ⟨hc.1, hc.2.1, hc.2.2, (Option.some.inj h).symm⟩
  · cases h
section
variable {P : Program} {C : World → Prop} {env : List (Nat × Value)} {d : Option Tmp} {ty : TypeId} {ps : String} {af : Array Edge} {gd : Option (Nat × Bool)}
theorem yl_subSlh {x y y2 : Operand} {t : TypeId} {k k2 : IntKind} {s z : ByteArray} {i j : Int} (ht : P.underlying t = some .string) (hx : ev env x = some (.string s)) (hy : ev env y = some (.int k i)) (hy2 : ev env y2 = some (.int k2 j)) (hz : subS s i j = some z) :
    Yl P C env { dst := d, op := .slice t x (some y) (some y2) none, type := ty, pos := ps, after := af, guard := gd } (.string z) := by
  obtain ⟨h0, h1, h2, rfl⟩ := subS_some hz
  intro ρ hρ w hw
  have h3 : 0 ≤ j := by omega
  have h4 : i ≤ (s.size : Int) := by omega
  simp [execOp, hρ _ _ hx, hρ _ _ hy, hρ _ _ hy2, Instr.sliceAt, Instr.slice, Instr.sliceBounds, Instr.sliceBound, asIntOf, run_underlying ht, h0, h1, h2, h3, h4]
  intro hh
  omega
theorem yl_subSl {x y : Operand} {t : TypeId} {k : IntKind} {s z : ByteArray} {i : Int} (ht : P.underlying t = some .string) (hx : ev env x = some (.string s)) (hy : ev env y = some (.int k i)) (hz : subS s i (s.size : Int) = some z) :
    Yl P C env { dst := d, op := .slice t x (some y) none none, type := ty, pos := ps, after := af, guard := gd } (.string z) := by
  obtain ⟨h0, h1, h2, rfl⟩ := subS_some hz
  intro ρ hρ w hw
  simp [execOp, hρ _ _ hx, hρ _ _ hy, Instr.sliceAt, Instr.slice, Instr.sliceBounds, Instr.sliceBound, asIntOf, run_underlying ht, h0, h1]
theorem yl_subSh {x y2 : Operand} {t : TypeId} {k2 : IntKind} {s z : ByteArray} {j : Int} (ht : P.underlying t = some .string) (hx : ev env x = some (.string s)) (hy2 : ev env y2 = some (.int k2 j)) (hz : subS s 0 j = some z) :
    Yl P C env { dst := d, op := .slice t x none (some y2) none, type := ty, pos := ps, after := af, guard := gd } (.string z) := by
  obtain ⟨h0, h1, h2, rfl⟩ := subS_some hz
  intro ρ hρ w hw
  simp [execOp, hρ _ _ hx, hρ _ _ hy2, Instr.sliceAt, Instr.slice, Instr.sliceBounds, Instr.sliceBound, asIntOf, run_underlying ht, h1, h2]
end

theorem St.boxrow {w0 : World} {M : List Nat} {n : Nat} {env : List (Nat × Value)} {es : List Own} {a : Act} {w : World} (h : St w0 M n env es a w) {T : Type} (e : Enc T) {i E g m : Nat} {us : List Value} (xs : List T)
    (hu : us = e.fl xs) (hm : xs.length = m) (hmax : m ≤ maxLen) (he : es[i]? = some (boxO E g us)) : St w0 M n env (es.set i (rowT E e (some ⟨g, 0, none⟩) m m xs)) a w := by
  obtain ⟨fp, hp, hbd, hup⟩ := h.sep.upd h.bw.size he
  refine ⟨h.env, h.bw, hup w _ fp ?_ (Nat.le_refl _) (fun _ _ _ => rfl) (fun b hb => ⟨.inl hb, (hbd b hb).2⟩)⟩
  obtain ⟨rfl, hh⟩ := hp
  subst hu
  refine ⟨by rw [Enc.fl_length, hm], Nat.le_refl _, .inr ⟨g, _, rfl, rfl, hh, hmax, by simp [Enc.fl_length, hm], ?_⟩⟩
  rw [show m * e.k = (e.fl xs).length by rw [Enc.fl_length, hm]]
  simp

section
variable {P : Program} {w0 : World} {M : List Nat} {n : Nat} {ops : Array Oper} {E : Act → World → Prop} {Q : Exit → Act → World → Prop} {env : List (Nat × Value)} {es : List Own} {rest : List Oper}
theorem JL.boxrow {T : Type} (e : Enc T) (i : Nat) {F g m : Nat} {us : List Value} (xs : List T) (hu : us = e.fl xs) (hm : xs.length = m) (hmax : m ≤ maxLen) (he : es[i]? = some (boxO F g us))
    (k : JL P w0 M n ops E Q env (es.set i (rowT F e (some ⟨g, 0, none⟩) m m xs)) rest) : JL P w0 M n ops E Q env es rest := fun a w h => k a w (h.boxrow e xs hu hm hmax he)
end

section
variable {P : Program} {w0 : World} {M : List Nat} {env : List (Nat × Value)} {es : List Own} {d : Option Tmp} {ty : TypeId} {ps : String} {af : Array Edge} {gd : Option (Nat × Bool)} {T : Type} {e : Enc T}
/-- The whole array is written. -/
theorem ef_storeArr {t : TypeId} {ti : TypeInfo} {x y : Operand} {ix E : Nat} {a : Option Addr} {n c : Nat} {xs ys : List T} {v : Value} (hi : P.info? t = some ti)
    (hx : ev env x = some (ptrAt a 0)) (hy : ev env y = some v) (he : es[ix]? = some (rowT E e a n c xs)) (hv : v.cells.toList = e.fl ys) (hs : ti.size = (e.fl ys).length) (h0 : 0 < ti.size) (hl : ys.length = xs.length) :
    Ef P w0 M es env { dst := d, op := .store t x y, type := ty, pos := ps, after := af, guard := gd } false (fun _ es' => es' = es.set ix (rowT E e a n c ys)) := by
  have hvs : v.cells.size = (e.fl ys).length := by rw [← hv]; simp
  have hpatch : patch (e.fl xs) 0 v.cells.toList = e.fl ys := by
    rw [hv]
    unfold patch
    have h1 : (e.fl ys).length = (e.fl xs).length := by rw [Enc.fl_length, Enc.fl_length, hl]
    simp [h1]
  have := ef_store_row (w0 := w0) (M := M) (d := d) (ty := ty) (ps := ps) (af := af) (gd := gd) hi hx hy he (hvs.trans hs.symm) h0 (by rw [hvs, Enc.fl_length, Enc.fl_length, hl]; omega) (by rw [hv]; exact e.fl_one ys)
  rw [hpatch] at this
  exact this
end
end Go.Sh
