/- The facts on types that the walks name, and the encoders of elements. -/
import Derived.Test.YthcbifffelaaoaaOpen
import Derived.Test.YthcbifffelaaoaaProg
import Derived.Test.YthcbifffelaaoaaChecked
import Derived.KernelRfl
namespace Go.Sh
open Go Go.RowKit
theorem mixedP : Go.Proofs.Try.prog.follows .mixedOrders = true := by kernel_rfl
structure SToolMove where
  X : Int
  Y : Int
  Z : Int
deriving DecidableEq
def eSToolMove : Enc SToolMove := ⟨fun x => [.int .i64 x.X, .int .i64 x.Y, .int .i64 x.Z], 3, fun _ => rfl, by decide, fun x u h => by
  simp only [List.mem_cons, List.not_mem_nil, or_false] at h
  rcases h with rfl | rfl | rfl <;> rfl⟩
def okSToolMove (x : SToolMove) : Prop := okI .i64 x.X ∧ okI .i64 x.Y ∧ okI .i64 x.Z
structure SPoint where
  X : Int
  Y : Int
deriving DecidableEq
def eSPoint : Enc SPoint := ⟨fun x => [.int .i64 x.X, .int .i64 x.Y], 2, fun _ => rfl, by decide, fun x u h => by
  simp only [List.mem_cons, List.not_mem_nil, or_false] at h
  rcases h with rfl | rfl <;> rfl⟩
def okSPoint (x : SPoint) : Prop := okI .i64 x.X ∧ okI .i64 x.Y
noncomputable def I62 : TypeInfo := (Go.Proofs.Try.prog.info? 62).getD default
theorem i62 : Go.Proofs.Try.prog.info? 62 = some I62 := by kernel_rfl
theorem i62s : I62.size = 3 := by kernel_rfl
noncomputable def I2 : TypeInfo := (Go.Proofs.Try.prog.info? 2).getD default
theorem i2 : Go.Proofs.Try.prog.info? 2 = some I2 := by kernel_rfl
theorem i2s : I2.size = 1 := by kernel_rfl
theorem i2n : I2.size ≠ 0 := by rw [i2s]; decide
theorem i62z : I62.zero = some (.agg #[.int .i64 0, .int .i64 0, .int .i64 0]) := by kernel_rfl
theorem i62p : 0 < I62.size := by rw [i62s]; decide
theorem i62b : I62.bytes = 24 := by kernel_rfl
theorem i62b1 : I62.bytes ≤ 128 := by rw [i62b]; decide
noncomputable def I64 : TypeInfo := (Go.Proofs.Try.prog.info? 64).getD default
theorem i64 : Go.Proofs.Try.prog.info? 64 = some I64 := by kernel_rfl
theorem i64s : I64.size = 3 := by kernel_rfl
theorem bld47_0_1 (p0_0 : Int) (p1_0 : Int) (w : World) : (Instr.build 47 #[(0, .int .i64 p0_0), (1, .int .i64 p1_0)]).run Go.Proofs.Try.prog w = .ok (.agg #[.int .i64 p0_0, .int .i64 p1_0]) w := by kernel_rfl
end Go.Sh
