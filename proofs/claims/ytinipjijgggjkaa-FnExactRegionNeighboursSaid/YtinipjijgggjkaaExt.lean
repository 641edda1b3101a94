/- More: calls of function values, pointers as arguments, bytes to a string. -/
import Derived.Test.YtinipjijgggjkaaPure
import Derived.Laws.BytesString
namespace Go.Sh
open Go Go.RowKit

def okI (k : IntKind) (x : Int) : Prop := (Lit.int k x).wf = true
theorem okI_i64 {x : Int} (h : okI .i64 x) : -9223372036854775808 ≤ x ∧ x ≤ 9223372036854775807 := by
  unfold okI Lit.wf at h
  simp only [Bool.and_eq_true, decide_eq_true_eq] at h
  have h1 : IntKind.i64.min = -9223372036854775808 := by decide
  have h2 : IntKind.i64.max = 9223372036854775807 := by decide
  rw [h1, h2] at h
  exact h

/-- A value behind a pointer that comes in. -/
def RdAt (w : World) (a : Option Addr) (i : Nat) (cs : List Value) : Prop := ∀ (j : Nat) u, cs[j]? = some u → ∃ ad, a = some ad ∧ w.cell? (ad.add (i + j)) = some u
theorem RdAt.norm {T : Type} (e : Enc T) {w : World} {a : Option Addr} {i : Nat} {cs : List Value} (h : RdAt w a i cs) : ∃ b, ptrAt a i = ptrAt b ((0 : Int).toNat * e.k) ∧ Rd w b cs := by
  refine ⟨a.map fun x => x.add i, ?_, fun j u hj => ?_⟩
  · rw [show (0 : Int).toNat * e.k = 0 by simp]
    cases a with
    | none => rfl
    | some x => simp [ptrAt, Addr.add]
  · obtain ⟨ad, rfl, hc⟩ := h j u hj
    exact ⟨_, rfl, by rw [Addr.add_add]; exact hc⟩
theorem RdAt.norm0 {w : World} {a : Option Addr} {i : Nat} {cs : List Value} (h : RdAt w a i cs) : ∃ b, ptrAt a i = ptrAt b 0 ∧ Rd w b cs := by
  refine ⟨a.map fun x => x.add i, ?_, fun j u hj => ?_⟩
  · cases a with
    | none => rfl
    | some x => simp [ptrAt, Addr.add]
  · obtain ⟨ad, rfl, hc⟩ := h j u hj
    exact ⟨_, rfl, by rw [Addr.add_add]; exact hc⟩
theorem RdAt.of {T : Type} {e : Enc T} {w : World} {a : Option Addr} {xs : List T} {i : Int} {z : T} (h : Rd w a (e.fl xs)) (hz : getI xs i = some z) : RdAt w a (i.toNat * e.k) (e.fl [z]) := by
  intro j u hj
  have h1 : (e.f z)[j]? = some u := by simpa [Enc.fl] using hj
  exact h _ _ (Enc.fl_cell (getI_some hz).2.2 h1)
theorem RdAt.of0 {w : World} {a : Option Addr} {cs : List Value} (h : Rd w a cs) : RdAt w a 0 cs := fun j u hj => by
  obtain ⟨ad, h1, h2⟩ := h j u hj
  exact ⟨ad, h1, by simpa using h2⟩

section
variable {P : Program} {w0 : World} {M : List Nat} {env : List (Nat × Value)} {es : List Own} {d : Option Tmp} {ty : TypeId} {ps : String} {af : Array Edge} {gd : Option (Nat × Bool)}

/-- A call of a function value that has caught nothing. -/
theorem ef_callv {f : FuncId} {fn : Func} {y : Operand} {xs : List Operand} {ts : Array TypeId} {vs : List Value} {T : Value → List Own → Prop} (hy : ev env y = some (.func (.func f) #[] #[])) (hf : P.funcs[f]? = some fn) (hb : fn.body.isNone = false) (hn : (fn.name == "runtime.NumGoroutine") = false)
    (hx : evl env xs = some vs) (hc : ∀ w, Cl w0 M es w → Calls P f vs.toArray w (Ret w T)) :
    Ef P w0 M es env { dst := d, op := .call { callee := .value y, args := xs.toArray, argTypes := ts }, type := ty, pos := ps, after := af, guard := gd } true
      (fun v es' => ∃ rs, T v rs ∧ es' = es ++ rs) := by
  intro ρ hρ w hC
  have hb' : fn.body ≠ none := fun h => by simp [h] at hb
  have hn' : fn.name ≠ "runtime.NumGoroutine" := by simpa using hn
  have hfv : ρ y = .func (.func f) #[] #[] := hρ _ _ hy
  have hr2 : (execOp ρ { dst := d, op := .call { callee := .value y, args := xs.toArray, argTypes := ts }, type := ty, pos := ps, after := af, guard := gd }).run P w = .ok (.enter f vs.toArray) w := by
    simp [execOp, hfv, resolve, Deferred.ofValue, invoke, callFunc, evl_map hρ hx, program, Sem.run, hf, hb', hn']
  rw [hr2]
  refine ⟨rfl, (hc w hC).mono fun e w' h => ?_⟩
  obtain ⟨v, rs, hT, rfl, hbw, hsep⟩ := h
  exact ⟨v, rfl, _, ⟨rs, hT, rfl⟩, hC.1.trans0 hbw, hC.2.join hbw hC.1.size hsep, fun _ => hbw⟩
end

/-! ### bytes to a string -/
def bytesS (xs : List Int) : ByteArray := xs.foldl (fun r n => r.push (UInt8.ofNat n.toNat)) ByteArray.empty
theorem fl_U8 (xs : List Int) : eU8.fl xs = xs.map (Value.int .u8) := by
  induction xs with
  | nil => rfl
  | cons x xs ih => simp only [Enc.fl, List.flatMap_cons, List.map_cons] at ih ⊢; rw [ih]; rfl
section
variable {P : Program} {C : World → Prop} {env : List (Nat × Value)} {d : Option Tmp} {ty : TypeId} {ps : String} {af : Array Edge} {gd : Option (Nat × Bool)}
theorem yl_bytesT {x : Operand} {s t e : TypeId} {a : Option Addr} {n c : Nat} {xs : List Int} (hs : P.underlying s = some (.slice e)) (ht : P.underlying t = some .string) (he : P.underlying e = some (.int .u8))
    (hx : ev env x = some (.slice a n c)) (hl : xs.length = n) (hC : ∀ w, C w → Rd w a (eU8.fl xs)) :
    Yl P C env { dst := d, op := .convert s t x, type := ty, pos := ps, after := af, guard := gd } (.string (bytesS xs)) := by
  refine yl_conv_of hx fun w hw => ?_
  have hr := hC w hw
  rw [run_convert_bytes_string w s t e a n c hs he ht]
  cases a with
  | none =>
    cases xs with
    | nil => simp [Conv.bytesToString, bytesS]
    | cons x xs =>
      obtain ⟨_, h, _⟩ := hr 0 (.int .u8 x) (by simp [fl_U8])
      cases h
  | some ad =>
    rw [run_bytesToString w ad n c xs]
    · rfl
    · have h2 := run_loadCells_list (P := P) w ad (xs.map (Value.int .u8)) (fun j v hj => by
        obtain ⟨ad', h3, h4⟩ := hr j v (by rw [fl_U8]; exact hj)
        cases h3
        exact h4)
      simpa [hl] using h2
end
end Go.Sh
