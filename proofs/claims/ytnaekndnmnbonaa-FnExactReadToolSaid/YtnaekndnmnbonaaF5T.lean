/- The facts on types that the walks name, and the encoders of elements. -/
import Derived.Test.YtnaekndnmnbonaaMut
import Derived.Test.YtnaekndnmnbonaaProg
import Derived.Test.YtnaekndnmnbonaaChecked
import Derived.KernelRfl
namespace Go.Sh
open Go Go.RowKit
theorem mixedP : Go.Proofs.Try.prog.follows .mixedOrders = true := by kernel_rfl
structure SToolMove where
  X : Int
  Y : Int
  Z : Int
deriving DecidableEq
def eSToolMove : Enc SToolMove := ⟨fun x => [.int .i64 x.X, .int .i64 x.Y, .int .i64 x.Z], 3, fun _ => rfl, by decide, fun x u h => by
  simp only [List.mem_cons, List.not_mem_nil, or_false] at h
  rcases h with rfl | rfl | rfl <;> rfl⟩
def okSToolMove (x : SToolMove) : Prop := okI .i64 x.X ∧ okI .i64 x.Y ∧ okI .i64 x.Z
structure SPoint where
  X : Int
  Y : Int
deriving DecidableEq
def eSPoint : Enc SPoint := ⟨fun x => [.int .i64 x.X, .int .i64 x.Y], 2, fun _ => rfl, by decide, fun x u h => by
  simp only [List.mem_cons, List.not_mem_nil, or_false] at h
  rcases h with rfl | rfl <;> rfl⟩
def okSPoint (x : SPoint) : Prop := okI .i64 x.X ∧ okI .i64 x.Y
theorem bsl49_0  (w : World) : (Instr.buildSlice 49 0 #[]).run Go.Proofs.Try.prog w = .ok (.slice (some ⟨w.heap.size, 0, none⟩) 0 0) (w.alloc (.cells #[] 9)) := by kernel_rfl
theorem bsl49_1 (p0_0 : ByteArray) (w : World) : (Instr.buildSlice 49 1 #[(0, .string p0_0)]).run Go.Proofs.Try.prog w = .ok (.slice (some ⟨w.heap.size, 0, none⟩) 1 1) (w.alloc (.cells #[.string p0_0] 9)) := by kernel_rfl
noncomputable def I9 : TypeInfo := (Go.Proofs.Try.prog.info? 9).getD default
theorem i9 : Go.Proofs.Try.prog.info? 9 = some I9 := by kernel_rfl
theorem i9z : I9.zero = some (.string ByteArray.empty) := by kernel_rfl
theorem i9s : I9.size = 1 := by kernel_rfl
theorem i9b : I9.bytes = 16 := by kernel_rfl
theorem i9b0 : 0 < I9.bytes := by rw [i9b]; decide
theorem i9b1 : I9.bytes ≤ 128 := by rw [i9b]; decide
theorem bsl78_0  (w : World) : (Instr.buildSlice 78 0 #[]).run Go.Proofs.Try.prog w = .ok (.slice (some ⟨w.heap.size, 0, none⟩) 0 0) (w.alloc (.cells #[] 5)) := by kernel_rfl
theorem bsl78_1 (p0_0 : Int) (w : World) : (Instr.buildSlice 78 1 #[(0, .int .u8 p0_0)]).run Go.Proofs.Try.prog w = .ok (.slice (some ⟨w.heap.size, 0, none⟩) 1 1) (w.alloc (.cells #[.int .u8 p0_0] 5)) := by kernel_rfl
noncomputable def I5 : TypeInfo := (Go.Proofs.Try.prog.info? 5).getD default
theorem i5 : Go.Proofs.Try.prog.info? 5 = some I5 := by kernel_rfl
theorem i5z : I5.zero = some (.int .u8 0) := by kernel_rfl
theorem i5s : I5.size = 1 := by kernel_rfl
theorem i5b : I5.bytes = 1 := by kernel_rfl
theorem i5b0 : 0 < I5.bytes := by rw [i5b]; decide
theorem i5b1 : I5.bytes ≤ 128 := by rw [i5b]; decide
noncomputable def I97 : TypeInfo := (Go.Proofs.Try.prog.info? 97).getD default
theorem i97 : Go.Proofs.Try.prog.info? 97 = some I97 := by kernel_rfl
theorem i97s : I97.size = 3 := by kernel_rfl
noncomputable def I2 : TypeInfo := (Go.Proofs.Try.prog.info? 2).getD default
theorem i2 : Go.Proofs.Try.prog.info? 2 = some I2 := by kernel_rfl
theorem i2s : I2.size = 1 := by kernel_rfl
theorem i2n : I2.size ≠ 0 := by rw [i2s]; decide
theorem bsl28_0  (w : World) : (Instr.buildSlice 28 0 #[]).run Go.Proofs.Try.prog w = .ok (.slice (some ⟨w.heap.size, 0, none⟩) 0 0) (w.alloc (.cells #[] 97)) := by kernel_rfl
theorem bld97_0_1_2 (p0_0 : Int) (p1_0 : Int) (p2_0 : Int) (w : World) : (Instr.build 97 #[(0, .int .i64 p0_0), (1, .int .i64 p1_0), (2, .int .i64 p2_0)]).run Go.Proofs.Try.prog w = .ok (.agg #[.int .i64 p0_0, .int .i64 p1_0, .int .i64 p2_0]) w := by kernel_rfl
theorem bsl28_1 (p0_0 : Int) (p0_1 : Int) (p0_2 : Int) (w : World) : (Instr.buildSlice 28 1 #[(0, .agg #[.int .i64 p0_0, .int .i64 p0_1, .int .i64 p0_2])]).run Go.Proofs.Try.prog w = .ok (.slice (some ⟨w.heap.size, 0, none⟩) 1 1) (w.alloc (.cells #[.int .i64 p0_0, .int .i64 p0_1, .int .i64 p0_2] 97)) := by kernel_rfl
theorem i97z : I97.zero = some (.agg #[.int .i64 0, .int .i64 0, .int .i64 0]) := by kernel_rfl
theorem i97b : I97.bytes = 24 := by kernel_rfl
theorem i97b0 : 0 < I97.bytes := by rw [i97b]; decide
theorem i97b1 : I97.bytes ≤ 128 := by rw [i97b]; decide
theorem bld163_  (w : World) : (Instr.build 163 #[]).run Go.Proofs.Try.prog w = .ok (.agg #[.int .u8 0, .int .u8 0, .int .u8 0, .int .u8 0, .int .u8 0, .int .u8 0, .int .u8 0, .int .u8 0, .int .u8 0, .int .u8 0, .int .u8 0, .int .u8 0, .int .u8 0, .int .u8 0, .int .u8 0, .int .u8 0, .int .u8 0, .int .u8 0, .int .u8 0, .int .u8 0]) w := by kernel_rfl
noncomputable def I163 : TypeInfo := (Go.Proofs.Try.prog.info? 163).getD default
theorem i163 : Go.Proofs.Try.prog.info? 163 = some I163 := by kernel_rfl
theorem i163z : I163.zero = some (.agg #[.int .u8 0, .int .u8 0, .int .u8 0, .int .u8 0, .int .u8 0, .int .u8 0, .int .u8 0, .int .u8 0, .int .u8 0, .int .u8 0, .int .u8 0, .int .u8 0, .int .u8 0, .int .u8 0, .int .u8 0, .int .u8 0, .int .u8 0, .int .u8 0, .int .u8 0, .int .u8 0]) := by kernel_rfl
theorem i163s : I163.size = 20 := by kernel_rfl
theorem i163p : 0 < I163.size := by rw [i163s]; decide
theorem bld93_0_1 (p0_0 : Int) (p1_0 : Int) (w : World) : (Instr.build 93 #[(0, .int .i64 p0_0), (1, .int .i64 p1_0)]).run Go.Proofs.Try.prog w = .ok (.agg #[.int .i64 p0_0, .int .i64 p1_0]) w := by kernel_rfl
theorem bld101_  (w : World) : (Instr.build 101 #[]).run Go.Proofs.Try.prog w = .ok (.agg #[.int .i64 0, .int .i64 0, .int .i64 0]) w := by kernel_rfl
noncomputable def I101 : TypeInfo := (Go.Proofs.Try.prog.info? 101).getD default
theorem i101 : Go.Proofs.Try.prog.info? 101 = some I101 := by kernel_rfl
theorem i101z : I101.zero = some (.agg #[.int .i64 0, .int .i64 0, .int .i64 0]) := by kernel_rfl
theorem i101s : I101.size = 3 := by kernel_rfl
theorem i101p : 0 < I101.size := by rw [i101s]; decide
end Go.Sh
