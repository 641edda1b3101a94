/- More operations: shifts and bits. -/
import Derived.Test.YtinipjijgggjkaaNest
namespace Go.Sh
open Go Go.RowKit

def andI (k : IntKind) (a b : Int) : Int := k.wrap (BitVec.ofInt k.bits a &&& BitVec.ofInt k.bits b).toNat

section
variable {P : Program} {C : World → Prop} {env : List (Nat × Value)} {d : Option Tmp} {ty : TypeId} {ps : String} {af : Array Edge} {gd : Option (Nat × Bool)}
theorem yl_shr {k yk : IntKind} {x y : Operand} {t t' : TypeId} {a : Int} {b : Nat} (hx : ev env x = some (.int k a)) (hy : ev env y = some (.int yk b)) (h0 : (0 : Int) ≤ b) (h1 : (b : Int) ≤ k.bits) :
    Yl P C env { dst := d, op := .binOp .shr t x y t', type := ty, pos := ps, after := af, guard := gd } (.int k (a / 2 ^ b)) := by
  intro ρ hρ w _
  have := shift_shr k yk a b h0 h1
  simp only [Int.toNat_natCast] at this
  simp [execOp, hρ _ _ hx, hρ _ _ hy, eqGuard, binOp, this]
theorem yl_and {k : IntKind} {x y : Operand} {t t' : TypeId} {a b : Int} (hx : ev env x = some (.int k a)) (hy : ev env y = some (.int k b)) :
    Yl P C env { dst := d, op := .binOp .and t x y t', type := ty, pos := ps, after := af, guard := gd } (.int k (andI k a b)) := by
  intro ρ hρ w _
  simp [execOp, hρ _ _ hx, hρ _ _ hy, eqGuard, binOp, Op.intBits, andI]
end

theorem rows_of {T : Type} {Q : Hd → List T → Prop} : ∀ {hs : List Hd}, (∀ h ∈ hs, ∃ x, Q h x) → ∃ xs : List (List T), xs.length = hs.length ∧ (∀ (i : Nat) h x, hs[i]? = some h → xs[i]? = some x → Q h x) ∧ ∀ x ∈ xs, ∃ h ∈ hs, Q h x
  | [], _ => ⟨[], rfl, by simp, by simp⟩
  | h :: hs, hq => by
    obtain ⟨x, hx⟩ := hq h (List.mem_cons_self ..)
    obtain ⟨xs, h1, h2, h3⟩ := rows_of (hs := hs) (fun y hy => hq y (List.mem_cons_of_mem _ hy))
    refine ⟨x :: xs, by simp [h1], fun i y z hy hz => ?_, fun y hy => ?_⟩
    · cases i with
      | zero => simp at hy hz; subst hy hz; exact hx
      | succ i => exact h2 i y z (by simpa using hy) (by simpa using hz)
    · rcases List.mem_cons.1 hy with h | h
      · subst h; exact ⟨_, List.mem_cons_self .., hx⟩
      · obtain ⟨y2, h4, h5⟩ := h3 y h
        exact ⟨y2, List.mem_cons_of_mem _ h4, h5⟩
section
variable {H : Type} {enc : TypeId × Value → H} {P : Program} {w : World} {base : Nat} {spare : Nat → Bool} {held : Bool}
/-- Rows behind a row of headers. -/
theorem open_rowR {T : Type} (e : Enc T) (ok : T → Prop) {t el el2 : TypeId} {a : Option Addr} {len cap : Nat} {d : DataW H} {p : List MemPlace} (ht : P.underlying t = some (.slice el)) (hk : P.cellsOf el = 1) (ht2 : P.underlying el = some (.slice el2)) (hk2 : P.cellsOf el2 = e.k)
    (hd : ∀ n cs x, DataW.trod enc P w base spare held n el2 cs = some x → ∃ z, cs = e.f z ∧ ok z) (h : DataW.Trod enc P w base spare held t (.slice a len cap) d p) :
    ∃ (hs : List Hd) (xs : List (List T)), Rd w a (eHd.fl hs) ∧ RdI w e hs xs ∧ Inn hs xs ∧ xs.length = len ∧ len ≤ maxLen ∧ (∀ y ∈ xs, y.length ≤ maxLen ∧ ∀ x ∈ y, ok x) ∧ len ≤ cap := by
  obtain ⟨hs, g1, g2, g3, g4, g5⟩ := open_rowT (T := Hd) eHd (fun z => ∃ xs : List T, Rd w z.a (e.fl xs) ∧ xs.length = z.n ∧ z.n ≤ maxLen ∧ (∀ x ∈ xs, ok x) ∧ z.n ≤ z.c) ht hk (fun n cs x hx => by
    obtain ⟨a, l, c, xs, h1, h2, h3, h4, h5, h6⟩ := open_rowC e ok ht2 hk2 hd hx
    exact ⟨⟨a, l, c⟩, h1, xs, h2, h3, h4, h5, h6⟩) h
  obtain ⟨xs, k1, k2, k3⟩ := rows_of g4
  refine ⟨hs, xs, g1, fun i y x hy hx => ⟨(k2 i y x hy hx).1, (k2 i y x hy hx).2.2.2.2⟩, ?_, by omega, g3, fun y hy => ?_, g5⟩
  · unfold Inn
    apply List.ext_getElem?
    intro i
    rw [List.getElem?_map, List.getElem?_map]
    by_cases hi : i < hs.length
    · have hi2 : i < xs.length := by omega
      rw [List.getElem?_eq_getElem hi, List.getElem?_eq_getElem hi2]
      simp only [Option.map_some]
      rw [(k2 i _ _ (List.getElem?_eq_getElem hi) (List.getElem?_eq_getElem hi2)).2.1]
    · rw [List.getElem?_eq_none (by omega), List.getElem?_eq_none (by omega)]; rfl
  · obtain ⟨h, hh, _, h2, h3, h4, _⟩ := k3 y hy
    exact ⟨by omega, h4⟩
end

/-! ### rows of nil rows -/
theorem mkL_nil {T : Type} {i : Int} {z : List (List T)} (h : mkL i ([] : List T) = some z) : mkL i (⟨none, 0, 0⟩ : Hd) = some (List.replicate z.length ⟨none, 0, 0⟩) ∧ z = List.replicate z.length [] := by
  obtain ⟨h0, h1, rfl⟩ := mkL_some h
  refine ⟨?_, by simp⟩
  unfold mkL LIM
  rw [if_pos ⟨h0, by omega⟩, List.length_replicate]
theorem inn_rep {T : Type} {i : Int} {z : List (List T)} (h : mkL i ([] : List T) = some z) : Inn (List.replicate z.length ⟨none, 0, 0⟩) z := by
  have h2 := (mkL_nil h).2
  unfold Inn
  rw [List.map_replicate]
  conv => rhs; rw [h2, List.map_replicate]
  rfl
theorem innP_rep {T : Type} {i : Int} {z : List (List T)} (h : mkL i ([] : List T) = some z) (E : Nat) (e : Enc T) (w : World) : InnP E e none (List.replicate z.length ⟨none, 0, 0⟩) z w [] := by
  have h2 := (mkL_nil h).2
  refine ⟨fun _ => [], fun j y x _ hy hx => ?_, by simp, by simp, by simp⟩
  have hy2 := List.eq_of_mem_replicate (List.mem_of_getElem? hy)
  rw [h2] at hx
  have hx2 := List.eq_of_mem_replicate (List.mem_of_getElem? hx)
  subst hy2 hx2
  exact ⟨by simp [Enc.fl], Nat.le_refl _, .inl ⟨rfl, rfl, rfl⟩⟩
section
variable {P : Program} {w0 : World} {M : List Nat} {n : Nat} {ops : Array Oper} {X : Act → World → Prop} {Q : Exit → Act → World → Prop} {env : List (Nat × Value)} {es es' : List Own} {rest : List Oper}
  {wr : World} {N L : List Nat} {s : Bool} {l : List (Nat × Kd)} {T : Type} {a : Act} {w : World} {d : Option Tmp} {ty : TypeId} {ps : String} {af : Array Edge} {gd : Option (Nat × Bool)}
theorem St.repinn (h : St w0 M n env es a w) {i : Int} {z : List (List T)} (hz : mkL i ([] : List T) = some z) (E : Nat) (e : Enc T) : St w0 M n env (es ++ [innO E e none (List.replicate z.length ⟨none, 0, 0⟩) z]) a w :=
  ⟨h.env, h.bw, h.sep.join (Bw.refl [] w) h.bw.size ⟨fun _ => [], fun j x hi => by
    cases j with
    | zero => simp at hi; subst hi; exact ⟨innP_rep hz E e w, by simp⟩
    | succ j => simp at hi, by simp⟩⟩
theorem JL.repinn {i : Int} {z : List (List T)} (hz : mkL i ([] : List T) = some z) (E : Nat) (e : Enc T) (k : JL P w0 M n ops X Q env (es ++ [innO E e none (List.replicate z.length ⟨none, 0, 0⟩) z]) rest) : JL P w0 M n ops X Q env es rest := fun a w h => k a w (h.repinn hz E e)
theorem JH.repinn {i : Int} {z : List (List T)} (hz : mkL i ([] : List T) = some z) (E : Nat) (e : Enc T) (k : JH P N n wr ops X L s env (es ++ [innO E e none (List.replicate z.length ⟨none, 0, 0⟩) z]) l) : JH P N n wr ops X L s env es l := fun a w h => k a w (h.repinn hz E e)
theorem ef_makeH {t E : TypeId} {ti : TypeInfo} {v : Value} {z : List (List T)} {x y : Operand} {k1 k2 : IntKind} {i : Int} (ht : P.underlying t = some (.slice E)) (hi : P.info? E = some ti) (hk : ti.size = eHd.k) (hz : ti.zero = some v) (hu : v.cells.toList = eHd.f ⟨none, 0, 0⟩) (hb1 : ti.bytes ≤ 128)
    (hx : ev env x = some (.int k1 i)) (hy : ev env y = some (.int k2 i)) (hr : mkL i ([] : List T) = some z) :
    Ef P w0 M es env { dst := d, op := .makeSlice t x y, type := ty, pos := ps, after := af, guard := gd } true (fun v es' => ∃ a, v = .slice a z.length z.length ∧ es' = es ++ [rowT E eHd a z.length z.length (List.replicate z.length ⟨none, 0, 0⟩)]) := by
  have := ef_makeS (P := P) (w0 := w0) (M := M) (es := es) (d := d) (ty := ty) (ps := ps) (af := af) (gd := gd) (e := eHd) ht hi hk hz hu hb1 hx hy (mkL_nil hr).1
  rw [List.length_replicate] at this
  exact this
end
end Go.Sh
