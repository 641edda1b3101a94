/- The facts on types that the walks name, and the encoders of elements. -/
import Derived.Test.YthcbifffelaaoaaOpen
import Derived.Test.YthcbifffelaaoaaProg
import Derived.Test.YthcbifffelaaoaaChecked
import Derived.KernelRfl
namespace Go.Sh
open Go Go.RowKit
theorem mixedP : Go.Proofs.Try.prog.follows .mixedOrders = true := by kernel_rfl
structure SPoint where
  X : Int
  Y : Int
deriving DecidableEq
def eSPoint : Enc SPoint := ⟨fun x => [.int .i64 x.X, .int .i64 x.Y], 2, fun _ => rfl, by decide, fun x u h => by
  simp only [List.mem_cons, List.not_mem_nil, or_false] at h
  rcases h with rfl | rfl <;> rfl⟩
def okSPoint (x : SPoint) : Prop := okI .i64 x.X ∧ okI .i64 x.Y
noncomputable def I47 : TypeInfo := (Go.Proofs.Try.prog.info? 47).getD default
theorem i47 : Go.Proofs.Try.prog.info? 47 = some I47 := by kernel_rfl
theorem i47z : I47.zero = some (.agg #[.int .i64 0, .int .i64 0]) := by kernel_rfl
noncomputable def I2 : TypeInfo := (Go.Proofs.Try.prog.info? 2).getD default
theorem i2 : Go.Proofs.Try.prog.info? 2 = some I2 := by kernel_rfl
theorem i2s : I2.size = 1 := by kernel_rfl
theorem i2n : I2.size ≠ 0 := by rw [i2s]; decide
theorem i47s : I47.size = 2 := by kernel_rfl
theorem i47p : 0 < I47.size := by rw [i47s]; decide
theorem i47b : I47.bytes = 16 := by kernel_rfl
theorem i47b1 : I47.bytes ≤ 128 := by rw [i47b]; decide
noncomputable def I58 : TypeInfo := (Go.Proofs.Try.prog.info? 58).getD default
theorem i58 : Go.Proofs.Try.prog.info? 58 = some I58 := by kernel_rfl
theorem i58s : I58.size = 2 := by kernel_rfl
theorem bld47_  (w : World) : (Instr.build 47 #[]).run Go.Proofs.Try.prog w = .ok (.agg #[.int .i64 0, .int .i64 0]) w := by kernel_rfl
theorem bld47_0_1 (p0_0 : Int) (p1_0 : Int) (w : World) : (Instr.build 47 #[(0, .int .i64 p0_0), (1, .int .i64 p1_0)]).run Go.Proofs.Try.prog w = .ok (.agg #[.int .i64 p0_0, .int .i64 p1_0]) w := by kernel_rfl
end Go.Sh
