/- The facts on types that the walks name, and the encoders of elements. -/
import Derived.Test.YtinipjijgggjkaaLib
import Derived.Test.YtinipjijgggjkaaShelf
import Derived.Test.YtinipjijgggjkaaMaps
import Derived.Test.YtinipjijgggjkaaSortF
import Derived.Test.YtinipjijgggjkaaMore
import Derived.Test.YtinipjijgggjkaaProg
import Derived.Test.YtinipjijgggjkaaChecked
import Derived.KernelRfl
namespace Go.Sh
open Go Go.RowKit
theorem mixedP : Go.Proofs.Try.prog.follows .mixedOrders = true := by kernel_rfl
structure SPanel where
  W : Int
  H : Int
  Breaks : List Int
def okSPanel (x : SPanel) : Prop := okI .i64 x.W ∧ okI .i64 x.H ∧ (x.Breaks.length ≤ maxLen ∧ ∀ y ∈ x.Breaks, okI .i64 y)
structure SPoint where
  X : Int
  Y : Int
deriving DecidableEq
def eSPoint : Enc SPoint := ⟨fun x => [.int .i64 x.X, .int .i64 x.Y], 2, fun _ => rfl, by decide, fun x u h => by
  simp only [List.mem_cons, List.not_mem_nil, or_false] at h
  rcases h with rfl | rfl <;> rfl⟩
def okSPoint (x : SPoint) : Prop := okI .i64 x.X ∧ okI .i64 x.Y
structure A112 where
  a0 : Int
  a1 : Int
deriving DecidableEq
def eA112 : Enc A112 := ⟨fun x => [.int .i64 x.a0, .int .i64 x.a1], 2, fun _ => rfl, by decide, fun x u h => by
  simp only [List.mem_cons, List.not_mem_nil, or_false] at h
  rcases h with rfl | rfl <;> rfl⟩
def okA112 (x : A112) : Prop := okI .i64 x.a0 ∧ okI .i64 x.a1
noncomputable def I22 : TypeInfo := (Go.Proofs.Try.prog.info? 22).getD default
theorem i22 : Go.Proofs.Try.prog.info? 22 = some I22 := by kernel_rfl
theorem i22s : I22.size = 1 := by kernel_rfl
theorem i22n : I22.size ≠ 0 := by rw [i22s]; decide
noncomputable def I2 : TypeInfo := (Go.Proofs.Try.prog.info? 2).getD default
theorem i2 : Go.Proofs.Try.prog.info? 2 = some I2 := by kernel_rfl
theorem i2s : I2.size = 1 := by kernel_rfl
theorem i2z : I2.zero = some (.int .i64 0) := by kernel_rfl
theorem i2b : I2.bytes = 8 := by kernel_rfl
theorem i2b1 : I2.bytes ≤ 128 := by rw [i2b]; decide
noncomputable def I28 : TypeInfo := (Go.Proofs.Try.prog.info? 28).getD default
theorem i28 : Go.Proofs.Try.prog.info? 28 = some I28 := by kernel_rfl
theorem i28z : I28.zero = some (.agg #[.int .i64 0, .int .i64 0, .slice none 0 0]) := by kernel_rfl
theorem i2n : I2.size ≠ 0 := by rw [i2s]; decide
theorem i28s : I28.size = 3 := by kernel_rfl
theorem i28p : 0 < I28.size := by rw [i28s]; decide
theorem bsl61_0  (w : World) : (Instr.buildSlice 61 0 #[]).run Go.Proofs.Try.prog w = .ok (.slice (some ⟨w.heap.size, 0, none⟩) 0 0) (w.alloc (.cells #[] 35)) := by kernel_rfl
theorem bld35_0_1 (p0_0 : Int) (p1_0 : Int) (w : World) : (Instr.build 35 #[(0, .int .i64 p0_0), (1, .int .i64 p1_0)]).run Go.Proofs.Try.prog w = .ok (.agg #[.int .i64 p0_0, .int .i64 p1_0]) w := by kernel_rfl
noncomputable def I35 : TypeInfo := (Go.Proofs.Try.prog.info? 35).getD default
theorem i35 : Go.Proofs.Try.prog.info? 35 = some I35 := by kernel_rfl
theorem i35z : I35.zero = some (.agg #[.int .i64 0, .int .i64 0]) := by kernel_rfl
theorem i35s : I35.size = 2 := by kernel_rfl
theorem i35p : 0 < I35.size := by rw [i35s]; decide
theorem bsl61_1 (p0_0 : Int) (p0_1 : Int) (w : World) : (Instr.buildSlice 61 1 #[(0, .agg #[.int .i64 p0_0, .int .i64 p0_1])]).run Go.Proofs.Try.prog w = .ok (.slice (some ⟨w.heap.size, 0, none⟩) 1 1) (w.alloc (.cells #[.int .i64 p0_0, .int .i64 p0_1] 35)) := by kernel_rfl
theorem i35b : I35.bytes = 16 := by kernel_rfl
theorem i35b0 : 0 < I35.bytes := by rw [i35b]; decide
theorem i35b1 : I35.bytes ≤ 128 := by rw [i35b]; decide
theorem bsl40_0  (w : World) : (Instr.buildSlice 40 0 #[]).run Go.Proofs.Try.prog w = .ok (.slice (some ⟨w.heap.size, 0, none⟩) 0 0) (w.alloc (.cells #[] 61)) := by kernel_rfl
theorem bsl40_1 (p0_0a : Option Addr) (p0_0n p0_0c : Nat) (w : World) : (Instr.buildSlice 40 1 #[(0, .slice p0_0a p0_0n p0_0c)]).run Go.Proofs.Try.prog w = .ok (.slice (some ⟨w.heap.size, 0, none⟩) 1 1) (w.alloc (.cells #[.slice p0_0a p0_0n p0_0c] 61)) := by kernel_rfl
noncomputable def I61 : TypeInfo := (Go.Proofs.Try.prog.info? 61).getD default
theorem i61 : Go.Proofs.Try.prog.info? 61 = some I61 := by kernel_rfl
theorem i61z : I61.zero = some (.slice none 0 0) := by kernel_rfl
theorem i61s : I61.size = 1 := by kernel_rfl
theorem i61b : I61.bytes = 24 := by kernel_rfl
theorem i61b0 : 0 < I61.bytes := by rw [i61b]; decide
theorem i61b1 : I61.bytes ≤ 128 := by rw [i61b]; decide
theorem bsl22_0  (w : World) : (Instr.buildSlice 22 0 #[]).run Go.Proofs.Try.prog w = .ok (.slice (some ⟨w.heap.size, 0, none⟩) 0 0) (w.alloc (.cells #[] 2)) := by kernel_rfl
theorem bsl22_1 (p0_0 : Int) (w : World) : (Instr.buildSlice 22 1 #[(0, .int .i64 p0_0)]).run Go.Proofs.Try.prog w = .ok (.slice (some ⟨w.heap.size, 0, none⟩) 1 1) (w.alloc (.cells #[.int .i64 p0_0] 2)) := by kernel_rfl
theorem i2b0 : 0 < I2.bytes := by rw [i2b]; decide
theorem eqs35 (x0 : Int) (x1 : Int) (y0 : Int) (y1 : Int) (w : World) : (Op.equalIn 10000 35 (.agg #[.int .i64 x0, .int .i64 x1]) (.agg #[.int .i64 y0, .int .i64 y1])).run Go.Proofs.Try.prog w = .ok ((x0 == y0) && ((x1 == y1) && true)) w := by
  rw [show (10000 : Nat) = 9990 + 1 + 1 + 1 + 1 + 1 + 1 + 1 + 1 + 1 + 1 from rfl]
  rw [run_equalIn_struct w _ 35 _ _ (by kernel_rfl) (by kernel_rfl)]
  simp only [Program.fieldsOf, Go.Proofs.Try.underlying35]
  refine eqf_cons (a := .int .i64 x0) (b := .int .i64 y0) (by decide) (by kernel_rfl) (by kernel_rfl) (by
    exact run_equalIn_int w _ _ _ _ _ _ Go.Proofs.Try.underlying2) ?_
  refine eqf_cons (a := .int .i64 x1) (b := .int .i64 y1) (by decide) (by kernel_rfl) (by kernel_rfl) (by
    exact run_equalIn_int w _ _ _ _ _ _ Go.Proofs.Try.underlying2) ?_
  exact eqf_nil
theorem eqs35_g (op : BinOp) (x y : Operand) (xs ys : Array Value) (w : World) : (eqGuard op 35 x y (.agg xs) (.agg ys)).run Go.Proofs.Try.prog w = .ok () w := run_eqGuard_agg w op 35 x y xs ys (by kernel_rfl)
theorem eqs35_eql (x0 : Int) (x1 : Int) (y0 : Int) (y1 : Int) (w : World) : (binOp .eql 35 (.agg #[.int .i64 x0, .int .i64 x1]) (.agg #[.int .i64 y0, .int .i64 y1])).run Go.Proofs.Try.prog w = .ok (.bool (((x0 == y0) && ((x1 == y1) && true)))) w := by rw [run_eql_struct, eqs35]; rfl
theorem eqs35_neq (x0 : Int) (x1 : Int) (y0 : Int) (y1 : Int) (w : World) : (binOp .neq 35 (.agg #[.int .i64 x0, .int .i64 x1]) (.agg #[.int .i64 y0, .int .i64 y1])).run Go.Proofs.Try.prog w = .ok (.bool (!((x0 == y0) && ((x1 == y1) && true)))) w := by rw [run_neq_struct, eqs35]; rfl
theorem chk35 (b : Bool) (x0 x1 : Int) (w : World) : (Instr.checkKey b 10000 35 (.agg #[.int .i64 x0, .int .i64 x1])).run Go.Proofs.Try.prog w = .ok () w := by kernel_rfl
theorem keyOk35 : KeyOk Go.Proofs.Try.prog 35 (kvE eSPoint) := ⟨by rw [Go.Proofs.Try.underlying35], fun b k w => chk35 b k.X k.Y w, fun k k' w => by
  refine (eqs35 k.X k.Y k'.X k'.Y w).trans (congrArg (fun b => Result.ok b w) ?_)
  cases k; cases k'
  rw [Bool.eq_iff_iff]
  simp only [Bool.and_eq_true, beq_iff_eq, and_true, decide_eq_true_eq, SPoint.mk.injEq], fun k => by simp [kvE, eSPoint, Instr.sameBits]⟩
theorem zv61 (w : World) : (zeroValue 61).run Go.Proofs.Try.prog w = .ok (hdV nilHd) w := by kernel_rfl
theorem zv2 (w : World) : (zeroValue 2).run Go.Proofs.Try.prog w = .ok (intV 0) w := by kernel_rfl
def ltPt (p q : SPoint) : Bool := ltP p.X p.Y q.X q.Y
def cfPt (p q : SPoint) : Int := cmpP p.X p.Y q.X q.Y
theorem ltOf_cfPt : Go.Proofs.ltOf cfPt = ltPt := by
  funext p q
  exact cmpP_lt p.X p.Y q.X q.Y
instance instSPoint : Inhabited SPoint := ⟨⟨0, 0⟩⟩
theorem ltPt_iff (p q : SPoint) : ltPt p q = true ↔ p.Y < q.Y ∨ (p.Y = q.Y ∧ p.X < q.X) := by
  unfold ltPt ltP
  simp only [Bool.or_eq_true, Bool.and_eq_true, decide_eq_true_eq]
theorem ltPt_not (p q : SPoint) : ltPt p q = false ↔ ¬ (p.Y < q.Y ∨ (p.Y = q.Y ∧ p.X < q.X)) := by
  rw [← ltPt_iff, Bool.not_eq_true]
theorem swoPt : Go.Sort.SWO (Go.Proofs.ltOf cfPt) := by
  rw [ltOf_cfPt]
  exact ⟨fun x => by rw [ltPt_not]; omega, fun x y z h1 h2 => by rw [ltPt_iff] at *; omega, fun x y z h1 h2 => by rw [ltPt_not] at *; omega⟩
theorem sortPtsK (blk off cap : Nat) (d : Array SPoint) (w : World) (hH : Sort.HoldsK eSPoint.f eSPoint.k w blk off d) (hblk : blk < w.heap.size) (hsz : d.size < 4611686018427387904) :
    Calls Go.Proofs.Try.prog 150 #[.slice (some ⟨blk, off, none⟩) d.size cap, .func (.func 151) #[] #[]] w fun e1 w' => e1 = .returned (.tuple #[]) ∧ ∃ n os, w' = Go.Proofs.sortWorldK eSPoint.f eSPoint.k w blk off n (d.toList.mergeSort fun x y => !ltPt y x).toArray os := by
  have eg : ∀ args w, (callFunc 151 args).run Go.Proofs.Try.prog w = .ok (.enter 151 args) w := Go.Proofs.enters_of Go.Proofs.Try.func151 (by kernel_rfl) rfl
  have h := Go.Proofs.AnyQ.slices_SortFunc_total Go.Proofs.Try.sortPts 2 Go.Proofs.Try.isAgg35 Go.Proofs.Try.sizeOf35 eSPoint.f (fun _ => rfl) eSPoint.one cfPt swoPt 151 #[] blk off cap d w eg (fun _ _ _ _ x y => Go.Proofs.Try.walkCmpP x.X x.Y y.X y.Y _) hH hblk hsz (fun x y h1 h2 => by
    rw [ltOf_cfPt, ltPt_not] at h1 h2
    cases x; cases y
    simp only [SPoint.mk.injEq] at *
    omega)
  rw [ltOf_cfPt] at h
  exact h
theorem sortPts0 (p : Option Addr) (cap : Nat) (w : World) : Calls Go.Proofs.Try.prog 150 #[.slice p 0 cap, .func (.func 151) #[] #[]] w fun e1 w' => e1 = .returned (.tuple #[]) ∧ w' = w :=
  Go.Proofs.AnyF.slices_SortFunc_none Go.Proofs.Try.sortPts p cap _ w
theorem bld112_0_1 (p0_0 : Int) (p1_0 : Int) (w : World) : (Instr.build 112 #[(0, .int .i64 p0_0), (1, .int .i64 p1_0)]).run Go.Proofs.Try.prog w = .ok (.agg #[.int .i64 p0_0, .int .i64 p1_0]) w := by kernel_rfl
theorem bld113_0_1_2_3 (p0_0 : Int) (p0_1 : Int) (p1_0 : Int) (p1_1 : Int) (p2_0 : Int) (p2_1 : Int) (p3_0 : Int) (p3_1 : Int) (w : World) : (Instr.build 113 #[(0, .agg #[.int .i64 p0_0, .int .i64 p0_1]), (1, .agg #[.int .i64 p1_0, .int .i64 p1_1]), (2, .agg #[.int .i64 p2_0, .int .i64 p2_1]), (3, .agg #[.int .i64 p3_0, .int .i64 p3_1])]).run Go.Proofs.Try.prog w = .ok (.agg #[.int .i64 p0_0, .int .i64 p0_1, .int .i64 p1_0, .int .i64 p1_1, .int .i64 p2_0, .int .i64 p2_1, .int .i64 p3_0, .int .i64 p3_1]) w := by kernel_rfl
noncomputable def I112 : TypeInfo := (Go.Proofs.Try.prog.info? 112).getD default
theorem i112 : Go.Proofs.Try.prog.info? 112 = some I112 := by kernel_rfl
theorem i112s : I112.size = 2 := by kernel_rfl
theorem i112z : I112.zero = some (.agg #[.int .i64 0, .int .i64 0]) := by kernel_rfl
theorem i112p : 0 < I112.size := by rw [i112s]; decide
noncomputable def I24 : TypeInfo := (Go.Proofs.Try.prog.info? 24).getD default
theorem i24 : Go.Proofs.Try.prog.info? 24 = some I24 := by kernel_rfl
theorem i24s : I24.size = 3 := by kernel_rfl
theorem i24p : 0 < I24.size := by rw [i24s]; decide
end Go.Sh
