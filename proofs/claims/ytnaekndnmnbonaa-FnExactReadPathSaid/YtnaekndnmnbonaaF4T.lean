/- The facts on types that the walks name, and the encoders of elements. -/
import Derived.Test.YtnaekndnmnbonaaMut
import Derived.Test.YtnaekndnmnbonaaProg
import Derived.Test.YtnaekndnmnbonaaChecked
import Derived.KernelRfl
namespace Go.Sh
open Go Go.RowKit
theorem mixedP : Go.Proofs.Try.prog.follows .mixedOrders = true := by kernel_rfl
structure SPoint where
  X : Int
  Y : Int
deriving DecidableEq
def eSPoint : Enc SPoint := ⟨fun x => [.int .i64 x.X, .int .i64 x.Y], 2, fun _ => rfl, by decide, fun x u h => by
  simp only [List.mem_cons, List.not_mem_nil, or_false] at h
  rcases h with rfl | rfl <;> rfl⟩
def okSPoint (x : SPoint) : Prop := okI .i64 x.X ∧ okI .i64 x.Y
noncomputable def I2 : TypeInfo := (Go.Proofs.Try.prog.info? 2).getD default
theorem i2 : Go.Proofs.Try.prog.info? 2 = some I2 := by kernel_rfl
theorem i2s : I2.size = 1 := by kernel_rfl
theorem i2n : I2.size ≠ 0 := by rw [i2s]; decide
noncomputable def I93 : TypeInfo := (Go.Proofs.Try.prog.info? 93).getD default
theorem i93 : Go.Proofs.Try.prog.info? 93 = some I93 := by kernel_rfl
theorem i93s : I93.size = 2 := by kernel_rfl
theorem bsl49_0  (w : World) : (Instr.buildSlice 49 0 #[]).run Go.Proofs.Try.prog w = .ok (.slice (some ⟨w.heap.size, 0, none⟩) 0 0) (w.alloc (.cells #[] 9)) := by kernel_rfl
theorem bsl49_1 (p0_0 : ByteArray) (w : World) : (Instr.buildSlice 49 1 #[(0, .string p0_0)]).run Go.Proofs.Try.prog w = .ok (.slice (some ⟨w.heap.size, 0, none⟩) 1 1) (w.alloc (.cells #[.string p0_0] 9)) := by kernel_rfl
noncomputable def I9 : TypeInfo := (Go.Proofs.Try.prog.info? 9).getD default
theorem i9 : Go.Proofs.Try.prog.info? 9 = some I9 := by kernel_rfl
theorem i9z : I9.zero = some (.string ByteArray.empty) := by kernel_rfl
theorem i9s : I9.size = 1 := by kernel_rfl
theorem i9b : I9.bytes = 16 := by kernel_rfl
theorem i9b0 : 0 < I9.bytes := by rw [i9b]; decide
theorem i9b1 : I9.bytes ≤ 128 := by rw [i9b]; decide
theorem bsl78_0  (w : World) : (Instr.buildSlice 78 0 #[]).run Go.Proofs.Try.prog w = .ok (.slice (some ⟨w.heap.size, 0, none⟩) 0 0) (w.alloc (.cells #[] 5)) := by kernel_rfl
theorem bsl78_1 (p0_0 : Int) (w : World) : (Instr.buildSlice 78 1 #[(0, .int .u8 p0_0)]).run Go.Proofs.Try.prog w = .ok (.slice (some ⟨w.heap.size, 0, none⟩) 1 1) (w.alloc (.cells #[.int .u8 p0_0] 5)) := by kernel_rfl
noncomputable def I5 : TypeInfo := (Go.Proofs.Try.prog.info? 5).getD default
theorem i5 : Go.Proofs.Try.prog.info? 5 = some I5 := by kernel_rfl
theorem i5z : I5.zero = some (.int .u8 0) := by kernel_rfl
theorem i5s : I5.size = 1 := by kernel_rfl
theorem i5b : I5.bytes = 1 := by kernel_rfl
theorem i5b0 : 0 < I5.bytes := by rw [i5b]; decide
theorem i5b1 : I5.bytes ≤ 128 := by rw [i5b]; decide
theorem bsl22_0  (w : World) : (Instr.buildSlice 22 0 #[]).run Go.Proofs.Try.prog w = .ok (.slice (some ⟨w.heap.size, 0, none⟩) 0 0) (w.alloc (.cells #[] 93)) := by kernel_rfl
theorem bld93_0_1 (p0_0 : Int) (p1_0 : Int) (w : World) : (Instr.build 93 #[(0, .int .i64 p0_0), (1, .int .i64 p1_0)]).run Go.Proofs.Try.prog w = .ok (.agg #[.int .i64 p0_0, .int .i64 p1_0]) w := by kernel_rfl
theorem bsl22_1 (p0_0 : Int) (p0_1 : Int) (w : World) : (Instr.buildSlice 22 1 #[(0, .agg #[.int .i64 p0_0, .int .i64 p0_1])]).run Go.Proofs.Try.prog w = .ok (.slice (some ⟨w.heap.size, 0, none⟩) 1 1) (w.alloc (.cells #[.int .i64 p0_0, .int .i64 p0_1] 93)) := by kernel_rfl
theorem i93z : I93.zero = some (.agg #[.int .i64 0, .int .i64 0]) := by kernel_rfl
theorem i93b : I93.bytes = 16 := by kernel_rfl
theorem i93b0 : 0 < I93.bytes := by rw [i93b]; decide
theorem i93b1 : I93.bytes ≤ 128 := by rw [i93b]; decide
theorem bld163_  (w : World) : (Instr.build 163 #[]).run Go.Proofs.Try.prog w = .ok (.agg #[.int .u8 0, .int .u8 0, .int .u8 0, .int .u8 0, .int .u8 0, .int .u8 0, .int .u8 0, .int .u8 0, .int .u8 0, .int .u8 0, .int .u8 0, .int .u8 0, .int .u8 0, .int .u8 0, .int .u8 0, .int .u8 0, .int .u8 0, .int .u8 0, .int .u8 0, .int .u8 0]) w := by kernel_rfl
noncomputable def I163 : TypeInfo := (Go.Proofs.Try.prog.info? 163).getD default
theorem i163 : Go.Proofs.Try.prog.info? 163 = some I163 := by kernel_rfl
theorem i163z : I163.zero = some (.agg #[.int .u8 0, .int .u8 0, .int .u8 0, .int .u8 0, .int .u8 0, .int .u8 0, .int .u8 0, .int .u8 0, .int .u8 0, .int .u8 0, .int .u8 0, .int .u8 0, .int .u8 0, .int .u8 0, .int .u8 0, .int .u8 0, .int .u8 0, .int .u8 0, .int .u8 0, .int .u8 0]) := by kernel_rfl
theorem i163s : I163.size = 20 := by kernel_rfl
theorem i163p : 0 < I163.size := by rw [i163s]; decide
theorem i93p : 0 < I93.size := by rw [i93s]; decide
end Go.Sh
