/- The facts on types that the walks name, and the encoders of elements. -/
import Derived.Test.YthcoacomnljikaaNest
import Derived.Test.YthcoacomnljikaaProg
import Derived.Test.YthcoacomnljikaaChecked
import Derived.KernelRfl
namespace Go.Sh
open Go Go.RowKit
theorem mixedP : Go.Proofs.Try.prog.follows .mixedOrders = true := by kernel_rfl
structure SToolMove where
  X : Int
  Y : Int
  Z : Int
deriving DecidableEq
def eSToolMove : Enc SToolMove := ⟨fun x => [.int .i64 x.X, .int .i64 x.Y, .int .i64 x.Z], 3, fun _ => rfl, by decide, fun x u h => by
  simp only [List.mem_cons, List.not_mem_nil, or_false] at h
  rcases h with rfl | rfl | rfl <;> rfl⟩
def okSToolMove (x : SToolMove) : Prop := okI .i64 x.X ∧ okI .i64 x.Y ∧ okI .i64 x.Z
structure SPanel where
  W : Int
  H : Int
  Breaks : List Int
def okSPanel (x : SPanel) : Prop := okI .i64 x.W ∧ okI .i64 x.H ∧ (x.Breaks.length ≤ maxLen ∧ ∀ y ∈ x.Breaks, okI .i64 y)
structure SPoint where
  X : Int
  Y : Int
deriving DecidableEq
def eSPoint : Enc SPoint := ⟨fun x => [.int .i64 x.X, .int .i64 x.Y], 2, fun _ => rfl, by decide, fun x u h => by
  simp only [List.mem_cons, List.not_mem_nil, or_false] at h
  rcases h with rfl | rfl <;> rfl⟩
def okSPoint (x : SPoint) : Prop := okI .i64 x.X ∧ okI .i64 x.Y
noncomputable def I96 : TypeInfo := (Go.Proofs.Try.prog.info? 96).getD default
theorem i96 : Go.Proofs.Try.prog.info? 96 = some I96 := by kernel_rfl
theorem i96z : I96.zero = some (.agg #[.int .i64 0, .int .i64 0, .int .i64 0]) := by kernel_rfl
noncomputable def I2 : TypeInfo := (Go.Proofs.Try.prog.info? 2).getD default
theorem i2 : Go.Proofs.Try.prog.info? 2 = some I2 := by kernel_rfl
theorem i2s : I2.size = 1 := by kernel_rfl
theorem i2n : I2.size ≠ 0 := by rw [i2s]; decide
theorem i96s : I96.size = 3 := by kernel_rfl
theorem i96p : 0 < I96.size := by rw [i96s]; decide
theorem i96b : I96.bytes = 24 := by kernel_rfl
theorem i96b1 : I96.bytes ≤ 128 := by rw [i96b]; decide
noncomputable def I98 : TypeInfo := (Go.Proofs.Try.prog.info? 98).getD default
theorem i98 : Go.Proofs.Try.prog.info? 98 = some I98 := by kernel_rfl
theorem i98s : I98.size = 3 := by kernel_rfl
noncomputable def I35 : TypeInfo := (Go.Proofs.Try.prog.info? 35).getD default
theorem i35 : Go.Proofs.Try.prog.info? 35 = some I35 := by kernel_rfl
theorem i35s : I35.size = 1 := by kernel_rfl
theorem i35n : I35.size ≠ 0 := by rw [i35s]; decide
theorem i2z : I2.zero = some (.int .i64 0) := by kernel_rfl
theorem i2b : I2.bytes = 8 := by kernel_rfl
theorem i2b1 : I2.bytes ≤ 128 := by rw [i2b]; decide
noncomputable def I73 : TypeInfo := (Go.Proofs.Try.prog.info? 73).getD default
theorem i73 : Go.Proofs.Try.prog.info? 73 = some I73 := by kernel_rfl
theorem i73z : I73.zero = some (.agg #[.int .i64 0, .int .i64 0, .slice none 0 0]) := by kernel_rfl
theorem i73s : I73.size = 3 := by kernel_rfl
theorem i73p : 0 < I73.size := by rw [i73s]; decide
theorem bld30_0_1 (p0_0 : Int) (p1_0 : Int) (w : World) : (Instr.build 30 #[(0, .int .i64 p0_0), (1, .int .i64 p1_0)]).run Go.Proofs.Try.prog w = .ok (.agg #[.int .i64 p0_0, .int .i64 p1_0]) w := by kernel_rfl
noncomputable def I70 : TypeInfo := (Go.Proofs.Try.prog.info? 70).getD default
theorem i70 : Go.Proofs.Try.prog.info? 70 = some I70 := by kernel_rfl
theorem i70s : I70.size = 3 := by kernel_rfl
theorem i70p : 0 < I70.size := by rw [i70s]; decide
end Go.Sh
