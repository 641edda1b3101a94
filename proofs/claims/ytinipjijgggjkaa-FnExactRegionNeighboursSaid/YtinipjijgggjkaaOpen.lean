/- From what a statement says of an argument to the rows that the walks ask. -/
import Derived.Test.YtinipjijgggjkaaExt
import Derived.Deep.Slices
namespace Go.Sh
open Go Go.RowKit

section
variable {H : Type} {enc : TypeId × Value → H} {P : Program} {w : World} {base : Nat} {spare : Nat → Bool} {held : Bool}

theorem dec_int {t : TypeId} {k : IntKind} {n : Nat} {cs : List Value} {x : DataW H × List MemPlace} (ht : P.underlying t = some (.int k)) (h : DataW.trod enc P w base spare held n t cs = some x) : ∃ z, cs = [.int k z] ∧ okI k z :=
  let ⟨z, h1, _, h2⟩ := DataW.trod_int ht h; ⟨z, h1, h2⟩
theorem dec_bool {t : TypeId} {n : Nat} {cs : List Value} {x : DataW H × List MemPlace} (ht : P.underlying t = some .bool) (h : DataW.trod enc P w base spare held n t cs = some x) : ∃ z, cs = [.bool z] :=
  let ⟨z, h1, _⟩ := DataW.trod_bool ht h; ⟨z, h1⟩
theorem dec_string {t : TypeId} {n : Nat} {cs : List Value} {x : DataW H × List MemPlace} (ht : P.underlying t = some .string) (h : DataW.trod enc P w base spare held n t cs = some x) : ∃ z : ByteArray, cs = [.string z] ∧ z.size ≤ maxLen :=
  let ⟨z, h1, _, h2⟩ := DataW.trod_string ht h; ⟨z, h1, h2⟩

/-- A field of a struct. -/
theorem dec_field {t : TypeId} {fs : Array Field} {n : Nat} {cs : List Value} {x : DataW H × List MemPlace} (ht : P.underlying t = some (.struct fs)) (h : DataW.trod enc P w base spare held n t cs = some x) :
    cs.length = P.cellsOf t ∧ ∀ (i : Nat) (f : Field), fs[i]? = some f → ∃ m y, DataW.trod enc P w base spare held m f.type ((cs.drop f.offset).take (P.cellsOf f.type)) = some y := by
  obtain ⟨xs, m, _, _, hl, hlen, hf⟩ := DataW.trod_struct ht h
  refine ⟨hl, fun i f hi => ?_⟩
  have hi2 : i < fs.size := (Array.getElem?_eq_some_iff.1 hi).1
  have := hf i f hi
  rw [List.getElem?_eq_getElem (by omega)] at this
  exact ⟨m, _, this⟩

/-- A row of elements that are told by an encoder. -/
theorem open_rowT {T : Type} (e : Enc T) (ok : T → Prop) {t el : TypeId} {a : Option Addr} {len cap : Nat} {d : DataW H} {p : List MemPlace} (ht : P.underlying t = some (.slice el)) (hk : P.cellsOf el = e.k)
    (hd : ∀ n cs x, DataW.trod enc P w base spare held n el cs = some x → ∃ z, cs = e.f z ∧ ok z) (h : DataW.Trod enc P w base spare held t (.slice a len cap) d p) :
    ∃ xs : List T, Rd w a (e.fl xs) ∧ xs.length = len ∧ len ≤ maxLen ∧ (∀ x ∈ xs, ok x) ∧ len ≤ cap := by
  obtain ⟨fuel, hf⟩ := h
  rcases Deep.open_slice ht hf with ⟨hcs, _⟩ | ⟨ad, l, c, m, n, D, Pl, hcs, _, hlc, hcm, hm, _, hx⟩
  · simp [Value.cells] at hcs
    obtain ⟨rfl, rfl, rfl⟩ := hcs
    exact ⟨[], by intro j u hj; simp [Enc.fl] at hj, rfl, Nat.zero_le _, by simp, Nat.le_refl _⟩
  · simp [Value.cells] at hcs
    obtain ⟨rfl, rfl, rfl⟩ := hcs
    have hlm : len ≤ m := by rw [hm]; split <;> omega
    have key : ∀ q, q ≤ len → ∃ xs : List T, xs.length = q ∧ (∀ x ∈ xs, ok x) ∧ ∀ i z, xs[i]? = some z → w.cells? base (ad.add (i * e.k)) e.k = some (e.f z) := by
      intro q
      induction q with
      | zero => intro _; exact ⟨[], rfl, by simp, by simp⟩
      | succ q ih =>
        intro hq
        obtain ⟨xs, h1, h2, h3⟩ := ih (by omega)
        obtain ⟨cs', h4, h5⟩ := hx q (by omega)
        obtain ⟨z, rfl, h6⟩ := hd _ _ _ h5
        rw [hk] at h4
        refine ⟨xs ++ [z], by simp [h1], ?_, fun i y hi => ?_⟩
        · intro x hx
          rcases List.mem_append.1 hx with h | h
          · exact h2 x h
          · simp at h; rw [h]; exact h6
        · by_cases hiq : i < xs.length
          · rw [List.getElem?_append_left hiq] at hi; exact h3 i y hi
          · rw [List.getElem?_append_right (by omega)] at hi
            have : i - xs.length = 0 := by
              rcases Nat.eq_zero_or_pos (i - xs.length) with h | h
              · exact h
              · rw [List.getElem?_eq_none (by simp; omega)] at hi; cases hi
            rw [this] at hi
            simp at hi
            rw [← hi, show i = q by omega]
            exact h4
    obtain ⟨xs, h1, h2, h3⟩ := key len (Nat.le_refl _)
    refine ⟨xs, fun j u hj => ⟨ad, rfl, ?_⟩, h1, by omega, h2, hlc⟩
    have hjl : j < xs.length * e.k := by rw [← Enc.fl_length]; exact (List.getElem?_eq_some_iff.1 hj).1
    have hpos := e.pos
    have hq : j / e.k < xs.length := Nat.div_lt_of_lt_mul (by rw [Nat.mul_comm]; exact hjl)
    have hr : j % e.k < e.k := Nat.mod_lt _ hpos
    have hz := List.getElem?_eq_getElem hq
    obtain ⟨_, _, hc⟩ := World.cells?_some (h3 _ _ hz)
    have h7 := hc (j % e.k) hr
    rw [Addr.add_add, Nat.mul_comm, Nat.div_add_mod] at h7
    rw [h7]
    have h8 : ((e.f xs[j / e.k])[j % e.k]?) = some ((e.f xs[j / e.k])[j % e.k]'(by rw [e.len]; exact hr)) := List.getElem?_eq_getElem _
    rw [h8]
    have h9 := Enc.fl_cell (e := e) hz h8
    rw [Nat.mul_comm, Nat.div_add_mod] at h9
    rw [← h9, hj]

/-- The same of one cell that holds a slice. -/
theorem open_rowC {T : Type} (e : Enc T) (ok : T → Prop) {t el : TypeId} {n : Nat} {cs : List Value} {x : DataW H × List MemPlace} (ht : P.underlying t = some (.slice el)) (hk : P.cellsOf el = e.k)
    (hd : ∀ n cs x, DataW.trod enc P w base spare held n el cs = some x → ∃ z, cs = e.f z ∧ ok z) (h : DataW.trod enc P w base spare held n t cs = some x) :
    ∃ (a : Option Addr) (len cap : Nat) (xs : List T), cs = [.slice a len cap] ∧ Rd w a (e.fl xs) ∧ xs.length = len ∧ len ≤ maxLen ∧ (∀ x ∈ xs, ok x) ∧ len ≤ cap := by
  have h0 := h
  rcases Deep.open_slice ht h with ⟨rfl, _⟩ | ⟨ad, l, c, _, _, _, _, rfl, _⟩
  · obtain ⟨xs, hx⟩ := open_rowT (d := x.1) (p := x.2) e ok ht hk hd ⟨n, by simpa [Value.cells] using h0⟩
    exact ⟨_, _, _, xs, rfl, hx⟩
  · obtain ⟨xs, hx⟩ := open_rowT (d := x.1) (p := x.2) e ok ht hk hd ⟨n, by simpa [Value.cells] using h0⟩
    exact ⟨_, _, _, xs, rfl, hx⟩

theorem one_string {P : Program} {w : World} {r : Reach} {b0 : Nat} {t : TypeId} {v : Value} {a : ByteArray} (hv : Value.okWide P w r b0 t v) (ht : P.underlying t = some .string) (h : v.cells.toList = [.string a]) : v = .string a := by
  simp only [Value.okWide, ht, Cell.okWide] at hv
  cases v <;> simp_all [Cell.ok, Value.cells]

/-- A struct by value. -/
theorem open_valT {T : Type} (e : Enc T) (ok : T → Prop) {t : TypeId} {fs : Array Field} {r : Reach} {b0 : Nat} {v : Value} {d : DataW H} {p : List MemPlace} (ht : P.underlying t = some (.struct fs))
    (hd : ∀ n cs x, DataW.trod enc P w base spare held n t cs = some x → ∃ z, cs = e.f z ∧ ok z) (hv : Value.okWide P w r b0 t v) (h : DataW.Trod enc P w base spare held t v d p) : ∃ z, v = .agg (e.f z).toArray ∧ ok z := by
  obtain ⟨cs, rfl, _⟩ := Go.WideShapes.okWide_struct ht hv
  obtain ⟨n, hn⟩ := h
  obtain ⟨z, h1, h2⟩ := hd _ _ _ hn
  refine ⟨z, ?_, h2⟩
  simp [Value.cells] at h1
  rw [← h1]
end
end Go.Sh
