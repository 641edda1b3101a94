/- Calls that write memory of the caller: rows and boxes handed over, also by what a function value has caught. -/
import Derived.Test.YtinipjijgggjkaaStr
namespace Go.Sh
open Go Go.RowKit

/-- An argument that reads so whatever is written inside M. -/
def RdS (M : List Nat) (w : World) (a : Option Addr) (cs : List Value) : Prop := ∀ w', Bw M w w' → Rd w' a cs
theorem rd_argS {w0 : World} {M : List Nat} {es : List Own} {w : World} {a : Option Addr} {cs : List Value} (h : RdS M w0 a cs) (hC : Cl w0 M es w) : Rd w a cs := h w hC.1
theorem RdS.rd {M : List Nat} {w : World} {a : Option Addr} {cs : List Value} (h : RdS M w a cs) : Rd w a cs := h w (Bw.refl M w)
theorem Fr.argS {w0 : World} {M : List Nat} {es : List Own} {X : List Nat} {wr : World} {N : List Nat} (h : Fr w0 M es X wr N) {a : Option Addr} {cs : List Value} (hr : RdS M w0 a cs) {w : World} (hw : Bw N wr w) : Rd w a cs := hr w (h.cl.1.trans hw h.ge)
theorem RdS.pass {w0 : World} {M : List Nat} {es : List Own} {X : List Nat} {wr : World} {N : List Nat} (h : Fr w0 M es X wr N) {a : Option Addr} {cs : List Value} (hr : RdS M w0 a cs) : RdS N wr a cs := fun _ hw => h.argS hr hw
theorem RdS.pass0 {w0 : World} {es : List Own} {X : List Nat} {wr : World} {N : List Nat} (h : Fr w0 [] es X wr N) {a : Option Addr} {cs : List Value} (hr : Rd w0 a cs) : RdS N wr a cs := fun _ hw => h.arg hr hw
theorem RdS.row {w0 : World} {M : List Nat} {es : List Own} {X : List Nat} {wr : World} {N : List Nat} (h : Fr w0 M es X wr N) (i : Nat) {E k : Nat} {a : Option Addr} {n c : Nat} {xs : List Value} (hi : es[i]? = some (rowO E k a n c xs)) (hx : X.contains i = false) : RdS N wr a xs := fun _ hw => h.row i hi hx hw
theorem RdS.nil (M : List Nat) (w : World) {T : Type} (e : Enc T) : RdS M w none (e.fl []) := fun w' _ => rd_nil w' e

def RetMs (w : World) (M : List Nat) (T : Value → List Own → List Own → Prop) (e : Ending) (w' : World) : Prop := ∃ v es' rs, T v es' rs ∧ e = .returned v ∧ Bw M w w' ∧ Sep w.heap.size M w' (es' ++ rs)

section
variable {P : Program} {w0 : World} {M : List Nat} {env : List (Nat × Value)} {es : List Own} {d : Option Tmp} {ty : TypeId} {ps : String} {af : Array Edge} {gd : Option (Nat × Bool)}
theorem ef_callms {f : FuncId} {fn : Func} {y : Operand} {xs : List Operand} {ts : Array TypeId} {vs caps : List Value} {T : Value → List Own → List Own → Prop} (X Y : List Nat) (esX esY : List Own) (hy : ev env y = some (.func (.func f) #[] caps.toArray)) (hf : P.funcs[f]? = some fn) (hb : fn.body.isNone = false) (hn : (fn.name == "runtime.NumGoroutine") = false)
    (hx : evl env xs = some vs) (hd : (X ++ Y).Nodup) (hX : X.map (fun i => es[i]?) = esX.map some) (hY : Y.map (fun i => es[i]?) = esY.map some)
    (hc : ∀ w N, Fr w0 M es X w N → Sep w.heap.size N w esX → Calls P f (vs ++ caps).toArray w (RetMs w N T)) :
    Ef P w0 M es env { dst := d, op := .call { callee := .value y, args := xs.toArray, argTypes := ts }, type := ty, pos := ps, after := af, guard := gd } false
      (fun v es' => ∃ e1 rs, T v e1 rs ∧ es' = esY ++ (e1 ++ rs)) := by
  intro ρ hρ w hC
  have hb' : fn.body ≠ none := fun h => by simp [h] at hb
  have hn' : fn.name ≠ "runtime.NumGoroutine" := by simpa using hn
  have hfv : ρ y = .func (.func f) #[] caps.toArray := hρ _ _ hy
  have hr2 : (execOp ρ { dst := d, op := .call { callee := .value y, args := xs.toArray, argTypes := ts }, type := ty, pos := ps, after := af, guard := gd }).run P w = .ok (.enter f (vs ++ caps).toArray) w := by
    simp [execOp, hfv, resolve, Deferred.ofValue, invoke, callFunc, evl_map hρ hx, program, Sem.run, hf, hb', hn']
  rw [hr2]
  obtain ⟨N, hF, hS, hup⟩ := Sep.split hC X Y esX esY hd hX hY
  refine ⟨rfl, (hc w N hF hS).mono fun e2 w' h => ?_⟩
  obtain ⟨v, e1, rs, hT, rfl, hbw, hsep⟩ := h
  exact ⟨v, rfl, _, ⟨_, _, hT, rfl⟩, hC.1.trans hbw hF.ge, hup w' _ hbw hsep, fun h => by cases h⟩
end
end Go.Sh
