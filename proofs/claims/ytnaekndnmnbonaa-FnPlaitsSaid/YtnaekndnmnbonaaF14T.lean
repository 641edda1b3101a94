/- The facts on types that the walks name, and the encoders of elements. -/
import Derived.Test.YtnaekndnmnbonaaMore
import Derived.Test.YtnaekndnmnbonaaProg
import Derived.Test.YtnaekndnmnbonaaChecked
import Derived.KernelRfl
namespace Go.Sh
open Go Go.RowKit
theorem mixedP : Go.Proofs.Try.prog.follows .mixedOrders = true := by kernel_rfl
structure Sl00Src where
  code : List Int
  at_ : Int
  seed : Int
def okSl00Src (x : Sl00Src) : Prop := (x.code.length ≤ maxLen ∧ ∀ y ∈ x.code, okI .u8 y) ∧ okI .i64 x.at_ ∧ okI .u64 x.seed
theorem bld176_0 (p0_0a : Option Addr) (p0_0n p0_0c : Nat) (w : World) : (Instr.build 176 #[(0, .slice p0_0a p0_0n p0_0c)]).run Go.Proofs.Try.prog w = .ok (.agg #[.slice p0_0a p0_0n p0_0c, .int .i64 0, .int .u64 0]) w := by kernel_rfl
noncomputable def I3 : TypeInfo := (Go.Proofs.Try.prog.info? 3).getD default
theorem i3 : Go.Proofs.Try.prog.info? 3 = some I3 := by kernel_rfl
theorem i3s : I3.size = 1 := by kernel_rfl
theorem i3n : I3.size ≠ 0 := by rw [i3s]; decide
noncomputable def I78 : TypeInfo := (Go.Proofs.Try.prog.info? 78).getD default
theorem i78 : Go.Proofs.Try.prog.info? 78 = some I78 := by kernel_rfl
theorem i78s : I78.size = 1 := by kernel_rfl
theorem i78n : I78.size ≠ 0 := by rw [i78s]; decide
noncomputable def I5 : TypeInfo := (Go.Proofs.Try.prog.info? 5).getD default
theorem i5 : Go.Proofs.Try.prog.info? 5 = some I5 := by kernel_rfl
theorem i5s : I5.size = 1 := by kernel_rfl
noncomputable def I164 : TypeInfo := (Go.Proofs.Try.prog.info? 164).getD default
theorem i164 : Go.Proofs.Try.prog.info? 164 = some I164 := by kernel_rfl
theorem i164s : I164.size = 1 := by kernel_rfl
theorem i164n : I164.size ≠ 0 := by rw [i164s]; decide
noncomputable def I2 : TypeInfo := (Go.Proofs.Try.prog.info? 2).getD default
theorem i2 : Go.Proofs.Try.prog.info? 2 = some I2 := by kernel_rfl
theorem i2s : I2.size = 1 := by kernel_rfl
theorem bsl33_0  (w : World) : (Instr.buildSlice 33 0 #[]).run Go.Proofs.Try.prog w = .ok (.slice (some ⟨w.heap.size, 0, none⟩) 0 0) (w.alloc (.cells #[] 2)) := by kernel_rfl
theorem bsl33_1 (p0_0 : Int) (w : World) : (Instr.buildSlice 33 1 #[(0, .int .i64 p0_0)]).run Go.Proofs.Try.prog w = .ok (.slice (some ⟨w.heap.size, 0, none⟩) 1 1) (w.alloc (.cells #[.int .i64 p0_0] 2)) := by kernel_rfl
theorem i2z : I2.zero = some (.int .i64 0) := by kernel_rfl
theorem i2b : I2.bytes = 8 := by kernel_rfl
theorem i2b0 : 0 < I2.bytes := by rw [i2b]; decide
theorem i2b1 : I2.bytes ≤ 128 := by rw [i2b]; decide
theorem bsl33_4 (p0_0 : Int) (p1_0 : Int) (p2_0 : Int) (p3_0 : Int) (w : World) : (Instr.buildSlice 33 4 #[(0, .int .i64 p0_0), (1, .int .i64 p1_0), (2, .int .i64 p2_0), (3, .int .i64 p3_0)]).run Go.Proofs.Try.prog w = .ok (.slice (some ⟨w.heap.size, 0, none⟩) 4 4) (w.alloc (.cells #[.int .i64 p0_0, .int .i64 p1_0, .int .i64 p2_0, .int .i64 p3_0] 2)) := by kernel_rfl
noncomputable def I33 : TypeInfo := (Go.Proofs.Try.prog.info? 33).getD default
theorem i33 : Go.Proofs.Try.prog.info? 33 = some I33 := by kernel_rfl
theorem i33z : I33.zero = some (.slice none 0 0) := by kernel_rfl
theorem i33s : I33.size = 1 := by kernel_rfl
end Go.Sh
