/- The facts on types that the walks name, and the encoders of elements. -/
import Derived.Test.YthcoacomnljikaaNest
import Derived.Test.YthcoacomnljikaaProg
import Derived.Test.YthcoacomnljikaaChecked
import Derived.KernelRfl
namespace Go.Sh
open Go Go.RowKit
theorem mixedP : Go.Proofs.Try.prog.follows .mixedOrders = true := by kernel_rfl
noncomputable def I2 : TypeInfo := (Go.Proofs.Try.prog.info? 2).getD default
theorem i2 : Go.Proofs.Try.prog.info? 2 = some I2 := by kernel_rfl
theorem i2s : I2.size = 1 := by kernel_rfl
theorem i2z : I2.zero = some (.int .i64 0) := by kernel_rfl
theorem i2b : I2.bytes = 8 := by kernel_rfl
theorem i2b1 : I2.bytes ≤ 128 := by rw [i2b]; decide
noncomputable def I35 : TypeInfo := (Go.Proofs.Try.prog.info? 35).getD default
theorem i35 : Go.Proofs.Try.prog.info? 35 = some I35 := by kernel_rfl
theorem i35s : I35.size = 1 := by kernel_rfl
theorem bsl35_0  (w : World) : (Instr.buildSlice 35 0 #[]).run Go.Proofs.Try.prog w = .ok (.slice (some ⟨w.heap.size, 0, none⟩) 0 0) (w.alloc (.cells #[] 2)) := by kernel_rfl
theorem bsl35_1 (p0_0 : Int) (w : World) : (Instr.buildSlice 35 1 #[(0, .int .i64 p0_0)]).run Go.Proofs.Try.prog w = .ok (.slice (some ⟨w.heap.size, 0, none⟩) 1 1) (w.alloc (.cells #[.int .i64 p0_0] 2)) := by kernel_rfl
theorem i2b0 : 0 < I2.bytes := by rw [i2b]; decide
noncomputable def I4 : TypeInfo := (Go.Proofs.Try.prog.info? 4).getD default
theorem i4 : Go.Proofs.Try.prog.info? 4 = some I4 := by kernel_rfl
theorem i4s : I4.size = 1 := by kernel_rfl
theorem i4z : I4.zero = some (.bool false) := by kernel_rfl
theorem i4b : I4.bytes = 1 := by kernel_rfl
theorem i4b1 : I4.bytes ≤ 128 := by rw [i4b]; decide
theorem bsl36_0  (w : World) : (Instr.buildSlice 36 0 #[]).run Go.Proofs.Try.prog w = .ok (.slice (some ⟨w.heap.size, 0, none⟩) 0 0) (w.alloc (.cells #[] 35)) := by kernel_rfl
theorem bsl36_1 (p0_0a : Option Addr) (p0_0n p0_0c : Nat) (w : World) : (Instr.buildSlice 36 1 #[(0, .slice p0_0a p0_0n p0_0c)]).run Go.Proofs.Try.prog w = .ok (.slice (some ⟨w.heap.size, 0, none⟩) 1 1) (w.alloc (.cells #[.slice p0_0a p0_0n p0_0c] 35)) := by kernel_rfl
theorem i35z : I35.zero = some (.slice none 0 0) := by kernel_rfl
theorem i35b : I35.bytes = 24 := by kernel_rfl
theorem i35b0 : 0 < I35.bytes := by rw [i35b]; decide
theorem i35b1 : I35.bytes ≤ 128 := by rw [i35b]; decide
end Go.Sh
