/- The facts on types that the walks name, and the encoders of elements. -/
import Derived.Test.YtnaekndnmnbonaaNest
import Derived.Test.YtnaekndnmnbonaaProg
import Derived.Test.YtnaekndnmnbonaaChecked
import Derived.KernelRfl
namespace Go.Sh
open Go Go.RowKit
theorem mixedP : Go.Proofs.Try.prog.follows .mixedOrders = true := by kernel_rfl
structure SPanel where
  W : Int
  H : Int
  Breaks : List Int
def okSPanel (x : SPanel) : Prop := okI .i64 x.W ∧ okI .i64 x.H ∧ (x.Breaks.length ≤ maxLen ∧ ∀ y ∈ x.Breaks, okI .i64 y)
structure SPoint where
  X : Int
  Y : Int
deriving DecidableEq
def eSPoint : Enc SPoint := ⟨fun x => [.int .i64 x.X, .int .i64 x.Y], 2, fun _ => rfl, by decide, fun x u h => by
  simp only [List.mem_cons, List.not_mem_nil, or_false] at h
  rcases h with rfl | rfl <;> rfl⟩
def okSPoint (x : SPoint) : Prop := okI .i64 x.X ∧ okI .i64 x.Y
structure SWalker where
  At : SPoint
  DX : Int
  DY : Int
def eSWalker : Enc SWalker := ⟨fun x => [.int .i64 x.At.X, .int .i64 x.At.Y, .int .i64 x.DX, .int .i64 x.DY], 4, fun _ => rfl, by decide, fun x u h => by
  simp only [List.mem_cons, List.not_mem_nil, or_false] at h
  rcases h with rfl | rfl | rfl | rfl <;> rfl⟩
def okSWalker (x : SWalker) : Prop := okSPoint x.At ∧ okI .i64 x.DX ∧ okI .i64 x.DY
noncomputable def I33 : TypeInfo := (Go.Proofs.Try.prog.info? 33).getD default
theorem i33 : Go.Proofs.Try.prog.info? 33 = some I33 := by kernel_rfl
theorem i33s : I33.size = 1 := by kernel_rfl
theorem i33n : I33.size ≠ 0 := by rw [i33s]; decide
noncomputable def I2 : TypeInfo := (Go.Proofs.Try.prog.info? 2).getD default
theorem i2 : Go.Proofs.Try.prog.info? 2 = some I2 := by kernel_rfl
theorem i2s : I2.size = 1 := by kernel_rfl
theorem i2n : I2.size ≠ 0 := by rw [i2s]; decide
noncomputable def I93 : TypeInfo := (Go.Proofs.Try.prog.info? 93).getD default
theorem i93 : Go.Proofs.Try.prog.info? 93 = some I93 := by kernel_rfl
theorem i93z : I93.zero = some (.agg #[.int .i64 0, .int .i64 0]) := by kernel_rfl
theorem i93s : I93.size = 2 := by kernel_rfl
theorem i93n : I93.size ≠ 0 := by rw [i93s]; decide
theorem bld93_0_1 (p0_0 : Int) (p1_0 : Int) (w : World) : (Instr.build 93 #[(0, .int .i64 p0_0), (1, .int .i64 p1_0)]).run Go.Proofs.Try.prog w = .ok (.agg #[.int .i64 p0_0, .int .i64 p1_0]) w := by kernel_rfl
noncomputable def I120 : TypeInfo := (Go.Proofs.Try.prog.info? 120).getD default
theorem i120 : Go.Proofs.Try.prog.info? 120 = some I120 := by kernel_rfl
theorem i120s : I120.size = 4 := by kernel_rfl
theorem i120p : 0 < I120.size := by rw [i120s]; decide
theorem i93p : 0 < I93.size := by rw [i93s]; decide
theorem i120z : I120.zero = some (.agg #[.int .i64 0, .int .i64 0, .int .i64 0, .int .i64 0]) := by kernel_rfl
theorem bld120_0_1_2 (p0_0 : Int) (p0_1 : Int) (p1_0 : Int) (p2_0 : Int) (w : World) : (Instr.build 120 #[(0, .agg #[.int .i64 p0_0, .int .i64 p0_1]), (1, .int .i64 p1_0), (2, .int .i64 p2_0)]).run Go.Proofs.Try.prog w = .ok (.agg #[.int .i64 p0_0, .int .i64 p0_1, .int .i64 p1_0, .int .i64 p2_0]) w := by kernel_rfl
theorem bsl22_0  (w : World) : (Instr.buildSlice 22 0 #[]).run Go.Proofs.Try.prog w = .ok (.slice (some ⟨w.heap.size, 0, none⟩) 0 0) (w.alloc (.cells #[] 93)) := by kernel_rfl
theorem bsl33_0  (w : World) : (Instr.buildSlice 33 0 #[]).run Go.Proofs.Try.prog w = .ok (.slice (some ⟨w.heap.size, 0, none⟩) 0 0) (w.alloc (.cells #[] 2)) := by kernel_rfl
theorem eqs120 (x0 : Int) (x1 : Int) (x2 : Int) (x3 : Int) (y0 : Int) (y1 : Int) (y2 : Int) (y3 : Int) (w : World) : (Op.equalIn 10000 120 (.agg #[.int .i64 x0, .int .i64 x1, .int .i64 x2, .int .i64 x3]) (.agg #[.int .i64 y0, .int .i64 y1, .int .i64 y2, .int .i64 y3])).run Go.Proofs.Try.prog w = .ok (((x0 == y0) && ((x1 == y1) && true)) && ((x2 == y2) && ((x3 == y3) && true))) w := by
  rw [show (10000 : Nat) = 9990 + 1 + 1 + 1 + 1 + 1 + 1 + 1 + 1 + 1 + 1 from rfl]
  rw [run_equalIn_struct w _ 120 _ _ (by kernel_rfl) (by kernel_rfl)]
  simp only [Program.fieldsOf, Go.Proofs.Try.underlying120]
  refine eqf_cons (a := .agg #[.int .i64 x0, .int .i64 x1]) (b := .agg #[.int .i64 y0, .int .i64 y1]) (by decide) (by kernel_rfl) (by kernel_rfl) (by
    rw [run_equalIn_struct w _ 93 _ _ (by kernel_rfl) (by kernel_rfl)]
    simp only [Program.fieldsOf, Go.Proofs.Try.underlying93]
    refine eqf_cons (a := .int .i64 x0) (b := .int .i64 y0) (by decide) (by kernel_rfl) (by kernel_rfl) (by
      exact run_equalIn_int w _ _ _ _ _ _ Go.Proofs.Try.underlying2) ?_
    refine eqf_cons (a := .int .i64 x1) (b := .int .i64 y1) (by decide) (by kernel_rfl) (by kernel_rfl) (by
      exact run_equalIn_int w _ _ _ _ _ _ Go.Proofs.Try.underlying2) ?_
    exact eqf_nil) ?_
  refine eqf_cons (a := .int .i64 x2) (b := .int .i64 y2) (by decide) (by kernel_rfl) (by kernel_rfl) (by
    exact run_equalIn_int w _ _ _ _ _ _ Go.Proofs.Try.underlying2) ?_
  refine eqf_cons (a := .int .i64 x3) (b := .int .i64 y3) (by decide) (by kernel_rfl) (by kernel_rfl) (by
    exact run_equalIn_int w _ _ _ _ _ _ Go.Proofs.Try.underlying2) ?_
  exact eqf_nil
theorem eqs120_g (op : BinOp) (x y : Operand) (xs ys : Array Value) (w : World) : (eqGuard op 120 x y (.agg xs) (.agg ys)).run Go.Proofs.Try.prog w = .ok () w := run_eqGuard_agg w op 120 x y xs ys (by kernel_rfl)
theorem eqs120_eql (x0 : Int) (x1 : Int) (x2 : Int) (x3 : Int) (y0 : Int) (y1 : Int) (y2 : Int) (y3 : Int) (w : World) : (binOp .eql 120 (.agg #[.int .i64 x0, .int .i64 x1, .int .i64 x2, .int .i64 x3]) (.agg #[.int .i64 y0, .int .i64 y1, .int .i64 y2, .int .i64 y3])).run Go.Proofs.Try.prog w = .ok (.bool ((((x0 == y0) && ((x1 == y1) && true)) && ((x2 == y2) && ((x3 == y3) && true))))) w := by rw [run_eql_struct, eqs120]; rfl
theorem eqs120_neq (x0 : Int) (x1 : Int) (x2 : Int) (x3 : Int) (y0 : Int) (y1 : Int) (y2 : Int) (y3 : Int) (w : World) : (binOp .neq 120 (.agg #[.int .i64 x0, .int .i64 x1, .int .i64 x2, .int .i64 x3]) (.agg #[.int .i64 y0, .int .i64 y1, .int .i64 y2, .int .i64 y3])).run Go.Proofs.Try.prog w = .ok (.bool (!(((x0 == y0) && ((x1 == y1) && true)) && ((x2 == y2) && ((x3 == y3) && true))))) w := by rw [run_neq_struct, eqs120]; rfl
theorem bsl22_1 (p0_0 : Int) (p0_1 : Int) (w : World) : (Instr.buildSlice 22 1 #[(0, .agg #[.int .i64 p0_0, .int .i64 p0_1])]).run Go.Proofs.Try.prog w = .ok (.slice (some ⟨w.heap.size, 0, none⟩) 1 1) (w.alloc (.cells #[.int .i64 p0_0, .int .i64 p0_1] 93)) := by kernel_rfl
theorem i93b : I93.bytes = 16 := by kernel_rfl
theorem i93b0 : 0 < I93.bytes := by rw [i93b]; decide
theorem i93b1 : I93.bytes ≤ 128 := by rw [i93b]; decide
theorem bsl33_1 (p0_0 : Int) (w : World) : (Instr.buildSlice 33 1 #[(0, .int .i64 p0_0)]).run Go.Proofs.Try.prog w = .ok (.slice (some ⟨w.heap.size, 0, none⟩) 1 1) (w.alloc (.cells #[.int .i64 p0_0] 2)) := by kernel_rfl
theorem i2z : I2.zero = some (.int .i64 0) := by kernel_rfl
theorem i2b : I2.bytes = 8 := by kernel_rfl
theorem i2b0 : 0 < I2.bytes := by rw [i2b]; decide
theorem i2b1 : I2.bytes ≤ 128 := by rw [i2b]; decide
theorem bsl59_0  (w : World) : (Instr.buildSlice 59 0 #[]).run Go.Proofs.Try.prog w = .ok (.slice (some ⟨w.heap.size, 0, none⟩) 0 0) (w.alloc (.cells #[] 22)) := by kernel_rfl
theorem bsl59_1 (p0_0a : Option Addr) (p0_0n p0_0c : Nat) (w : World) : (Instr.buildSlice 59 1 #[(0, .slice p0_0a p0_0n p0_0c)]).run Go.Proofs.Try.prog w = .ok (.slice (some ⟨w.heap.size, 0, none⟩) 1 1) (w.alloc (.cells #[.slice p0_0a p0_0n p0_0c] 22)) := by kernel_rfl
noncomputable def I22 : TypeInfo := (Go.Proofs.Try.prog.info? 22).getD default
theorem i22 : Go.Proofs.Try.prog.info? 22 = some I22 := by kernel_rfl
theorem i22z : I22.zero = some (.slice none 0 0) := by kernel_rfl
theorem i22s : I22.size = 1 := by kernel_rfl
theorem i22b : I22.bytes = 24 := by kernel_rfl
theorem i22b0 : 0 < I22.bytes := by rw [i22b]; decide
theorem i22b1 : I22.bytes ≤ 128 := by rw [i22b]; decide
noncomputable def I4 : TypeInfo := (Go.Proofs.Try.prog.info? 4).getD default
theorem i4 : Go.Proofs.Try.prog.info? 4 = some I4 := by kernel_rfl
theorem i4s : I4.size = 1 := by kernel_rfl
theorem i4z : I4.zero = some (.bool false) := by kernel_rfl
theorem i4b : I4.bytes = 1 := by kernel_rfl
theorem i4b1 : I4.bytes ≤ 128 := by rw [i4b]; decide
theorem bld93_  (w : World) : (Instr.build 93 #[]).run Go.Proofs.Try.prog w = .ok (.agg #[.int .i64 0, .int .i64 0]) w := by kernel_rfl
noncomputable def I39 : TypeInfo := (Go.Proofs.Try.prog.info? 39).getD default
theorem i39 : Go.Proofs.Try.prog.info? 39 = some I39 := by kernel_rfl
theorem i39z : I39.zero = some (.agg #[.int .i64 0, .int .i64 0, .slice none 0 0]) := by kernel_rfl
theorem i39s : I39.size = 3 := by kernel_rfl
theorem i39p : 0 < I39.size := by rw [i39s]; decide
theorem bsl113_0  (w : World) : (Instr.buildSlice 113 0 #[]).run Go.Proofs.Try.prog w = .ok (.slice (some ⟨w.heap.size, 0, none⟩) 0 0) (w.alloc (.cells #[] 117)) := by kernel_rfl
theorem bsl117_0  (w : World) : (Instr.buildSlice 117 0 #[]).run Go.Proofs.Try.prog w = .ok (.slice (some ⟨w.heap.size, 0, none⟩) 0 0) (w.alloc (.cells #[] 120)) := by kernel_rfl
theorem bsl117_1 (p0_0 : Int) (p0_1 : Int) (p0_2 : Int) (p0_3 : Int) (w : World) : (Instr.buildSlice 117 1 #[(0, .agg #[.int .i64 p0_0, .int .i64 p0_1, .int .i64 p0_2, .int .i64 p0_3])]).run Go.Proofs.Try.prog w = .ok (.slice (some ⟨w.heap.size, 0, none⟩) 1 1) (w.alloc (.cells #[.int .i64 p0_0, .int .i64 p0_1, .int .i64 p0_2, .int .i64 p0_3] 120)) := by kernel_rfl
theorem i120b : I120.bytes = 32 := by kernel_rfl
theorem i120b0 : 0 < I120.bytes := by rw [i120b]; decide
theorem i120b1 : I120.bytes ≤ 128 := by rw [i120b]; decide
theorem bsl113_1 (p0_0a : Option Addr) (p0_0n p0_0c : Nat) (w : World) : (Instr.buildSlice 113 1 #[(0, .slice p0_0a p0_0n p0_0c)]).run Go.Proofs.Try.prog w = .ok (.slice (some ⟨w.heap.size, 0, none⟩) 1 1) (w.alloc (.cells #[.slice p0_0a p0_0n p0_0c] 117)) := by kernel_rfl
noncomputable def I117 : TypeInfo := (Go.Proofs.Try.prog.info? 117).getD default
theorem i117 : Go.Proofs.Try.prog.info? 117 = some I117 := by kernel_rfl
theorem i117z : I117.zero = some (.slice none 0 0) := by kernel_rfl
theorem i117s : I117.size = 1 := by kernel_rfl
theorem i117b : I117.bytes = 24 := by kernel_rfl
theorem i117b0 : 0 < I117.bytes := by rw [i117b]; decide
theorem i117b1 : I117.bytes ≤ 128 := by rw [i117b]; decide
noncomputable def I35 : TypeInfo := (Go.Proofs.Try.prog.info? 35).getD default
theorem i35 : Go.Proofs.Try.prog.info? 35 = some I35 := by kernel_rfl
theorem i35s : I35.size = 3 := by kernel_rfl
theorem i35p : 0 < I35.size := by rw [i35s]; decide
end Go.Sh
