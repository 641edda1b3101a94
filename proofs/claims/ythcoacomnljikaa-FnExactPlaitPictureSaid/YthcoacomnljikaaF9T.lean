/- The facts on types that the walks name, and the encoders of elements. -/
import Derived.Test.YthcoacomnljikaaMut
import Derived.Test.YthcoacomnljikaaProg
import Derived.Test.YthcoacomnljikaaChecked
import Derived.KernelRfl
namespace Go.Sh
open Go Go.RowKit
theorem mixedP : Go.Proofs.Try.prog.follows .mixedOrders = true := by kernel_rfl
noncomputable def I2 : TypeInfo := (Go.Proofs.Try.prog.info? 2).getD default
theorem i2 : Go.Proofs.Try.prog.info? 2 = some I2 := by kernel_rfl
theorem i2s : I2.size = 1 := by kernel_rfl
theorem i2z : I2.zero = some (.int .i64 0) := by kernel_rfl
theorem i2b : I2.bytes = 8 := by kernel_rfl
theorem i2b1 : I2.bytes ≤ 128 := by rw [i2b]; decide
theorem bsl61_0  (w : World) : (Instr.buildSlice 61 0 #[]).run Go.Proofs.Try.prog w = .ok (.slice (some ⟨w.heap.size, 0, none⟩) 0 0) (w.alloc (.cells #[] 9)) := by kernel_rfl
theorem bsl100_0  (w : World) : (Instr.buildSlice 100 0 #[]).run Go.Proofs.Try.prog w = .ok (.slice (some ⟨w.heap.size, 0, none⟩) 0 0) (w.alloc (.cells #[] 5)) := by kernel_rfl
theorem bsl100_2 (p0_0 : Int) (p1_0 : Int) (w : World) : (Instr.buildSlice 100 2 #[(0, .int .u8 p0_0), (1, .int .u8 p1_0)]).run Go.Proofs.Try.prog w = .ok (.slice (some ⟨w.heap.size, 0, none⟩) 2 2) (w.alloc (.cells #[.int .u8 p0_0, .int .u8 p1_0] 5)) := by kernel_rfl
noncomputable def I5 : TypeInfo := (Go.Proofs.Try.prog.info? 5).getD default
theorem i5 : Go.Proofs.Try.prog.info? 5 = some I5 := by kernel_rfl
theorem i5z : I5.zero = some (.int .u8 0) := by kernel_rfl
theorem i5s : I5.size = 1 := by kernel_rfl
theorem i5b : I5.bytes = 1 := by kernel_rfl
theorem i5b0 : 0 < I5.bytes := by rw [i5b]; decide
theorem i5b1 : I5.bytes ≤ 128 := by rw [i5b]; decide
theorem bsl61_1 (p0_0 : ByteArray) (w : World) : (Instr.buildSlice 61 1 #[(0, .string p0_0)]).run Go.Proofs.Try.prog w = .ok (.slice (some ⟨w.heap.size, 0, none⟩) 1 1) (w.alloc (.cells #[.string p0_0] 9)) := by kernel_rfl
noncomputable def I9 : TypeInfo := (Go.Proofs.Try.prog.info? 9).getD default
theorem i9 : Go.Proofs.Try.prog.info? 9 = some I9 := by kernel_rfl
theorem i9z : I9.zero = some (.string ByteArray.empty) := by kernel_rfl
theorem i9s : I9.size = 1 := by kernel_rfl
theorem i9b : I9.bytes = 16 := by kernel_rfl
theorem i9b0 : 0 < I9.bytes := by rw [i9b]; decide
theorem i9b1 : I9.bytes ≤ 128 := by rw [i9b]; decide
theorem bsl100_1 (p0_0 : Int) (w : World) : (Instr.buildSlice 100 1 #[(0, .int .u8 p0_0)]).run Go.Proofs.Try.prog w = .ok (.slice (some ⟨w.heap.size, 0, none⟩) 1 1) (w.alloc (.cells #[.int .u8 p0_0] 5)) := by kernel_rfl
end Go.Sh
