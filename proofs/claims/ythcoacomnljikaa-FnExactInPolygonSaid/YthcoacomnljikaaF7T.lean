/- The facts on types that the walks name, and the encoders of elements. -/
import Derived.Test.YthcoacomnljikaaMut
import Derived.Test.YthcoacomnljikaaProg
import Derived.Test.YthcoacomnljikaaChecked
import Derived.KernelRfl
namespace Go.Sh
open Go Go.RowKit
theorem mixedP : Go.Proofs.Try.prog.follows .mixedOrders = true := by kernel_rfl
structure SPoint where
  X : Int
  Y : Int
deriving DecidableEq
def eSPoint : Enc SPoint := ⟨fun x => [.int .i64 x.X, .int .i64 x.Y], 2, fun _ => rfl, by decide, fun x u h => by
  simp only [List.mem_cons, List.not_mem_nil, or_false] at h
  rcases h with rfl | rfl <;> rfl⟩
def okSPoint (x : SPoint) : Prop := okI .i64 x.X ∧ okI .i64 x.Y
noncomputable def I30 : TypeInfo := (Go.Proofs.Try.prog.info? 30).getD default
theorem i30 : Go.Proofs.Try.prog.info? 30 = some I30 := by kernel_rfl
theorem i30z : I30.zero = some (.agg #[.int .i64 0, .int .i64 0]) := by kernel_rfl
noncomputable def I2 : TypeInfo := (Go.Proofs.Try.prog.info? 2).getD default
theorem i2 : Go.Proofs.Try.prog.info? 2 = some I2 := by kernel_rfl
theorem i2s : I2.size = 1 := by kernel_rfl
theorem i2n : I2.size ≠ 0 := by rw [i2s]; decide
theorem i30s : I30.size = 2 := by kernel_rfl
theorem i30p : 0 < I30.size := by rw [i30s]; decide
theorem i30b : I30.bytes = 16 := by kernel_rfl
theorem i30b1 : I30.bytes ≤ 128 := by rw [i30b]; decide
noncomputable def I24 : TypeInfo := (Go.Proofs.Try.prog.info? 24).getD default
theorem i24 : Go.Proofs.Try.prog.info? 24 = some I24 := by kernel_rfl
theorem i24s : I24.size = 2 := by kernel_rfl
theorem i24p : 0 < I24.size := by rw [i24s]; decide
end Go.Sh
