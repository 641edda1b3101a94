/- The facts on types that the walks name, and the encoders of elements. -/
import Derived.Test.YthcoacomnljikaaMut
import Derived.Test.YthcoacomnljikaaProg
import Derived.Test.YthcoacomnljikaaChecked
import Derived.KernelRfl
namespace Go.Sh
open Go Go.RowKit
theorem mixedP : Go.Proofs.Try.prog.follows .mixedOrders = true := by kernel_rfl
structure SPoint where
  X : Int
  Y : Int
deriving DecidableEq
def eSPoint : Enc SPoint := ⟨fun x => [.int .i64 x.X, .int .i64 x.Y], 2, fun _ => rfl, by decide, fun x u h => by
  simp only [List.mem_cons, List.not_mem_nil, or_false] at h
  rcases h with rfl | rfl <;> rfl⟩
def okSPoint (x : SPoint) : Prop := okI .i64 x.X ∧ okI .i64 x.Y
structure SPanel where
  W : Int
  H : Int
  Breaks : List Int
def okSPanel (x : SPanel) : Prop := okI .i64 x.W ∧ okI .i64 x.H ∧ (x.Breaks.length ≤ maxLen ∧ ∀ y ∈ x.Breaks, okI .i64 y)
noncomputable def I30 : TypeInfo := (Go.Proofs.Try.prog.info? 30).getD default
theorem i30 : Go.Proofs.Try.prog.info? 30 = some I30 := by kernel_rfl
theorem i30z : I30.zero = some (.agg #[.int .i64 0, .int .i64 0]) := by kernel_rfl
noncomputable def I2 : TypeInfo := (Go.Proofs.Try.prog.info? 2).getD default
theorem i2 : Go.Proofs.Try.prog.info? 2 = some I2 := by kernel_rfl
theorem i2s : I2.size = 1 := by kernel_rfl
theorem i2n : I2.size ≠ 0 := by rw [i2s]; decide
theorem i30s : I30.size = 2 := by kernel_rfl
theorem i30p : 0 < I30.size := by rw [i30s]; decide
noncomputable def I35 : TypeInfo := (Go.Proofs.Try.prog.info? 35).getD default
theorem i35 : Go.Proofs.Try.prog.info? 35 = some I35 := by kernel_rfl
theorem i35s : I35.size = 1 := by kernel_rfl
theorem i35n : I35.size ≠ 0 := by rw [i35s]; decide
theorem i2z : I2.zero = some (.int .i64 0) := by kernel_rfl
theorem i2b : I2.bytes = 8 := by kernel_rfl
theorem i2b1 : I2.bytes ≤ 128 := by rw [i2b]; decide
noncomputable def I73 : TypeInfo := (Go.Proofs.Try.prog.info? 73).getD default
theorem i73 : Go.Proofs.Try.prog.info? 73 = some I73 := by kernel_rfl
theorem i73z : I73.zero = some (.agg #[.int .i64 0, .int .i64 0, .slice none 0 0]) := by kernel_rfl
theorem i73s : I73.size = 3 := by kernel_rfl
theorem i73p : 0 < I73.size := by rw [i73s]; decide
theorem bld30_0_1 (p0_0 : Int) (p1_0 : Int) (w : World) : (Instr.build 30 #[(0, .int .i64 p0_0), (1, .int .i64 p1_0)]).run Go.Proofs.Try.prog w = .ok (.agg #[.int .i64 p0_0, .int .i64 p1_0]) w := by kernel_rfl
theorem bsl26_2 (p0_0 : Int) (p0_1 : Int) (p1_0 : Int) (p1_1 : Int) (w : World) : (Instr.buildSlice 26 2 #[(0, .agg #[.int .i64 p0_0, .int .i64 p0_1]), (1, .agg #[.int .i64 p1_0, .int .i64 p1_1])]).run Go.Proofs.Try.prog w = .ok (.slice (some ⟨w.heap.size, 0, none⟩) 2 2) (w.alloc (.cells #[.int .i64 p0_0, .int .i64 p0_1, .int .i64 p1_0, .int .i64 p1_1] 30)) := by kernel_rfl
theorem bsl26_1 (p0_0 : Int) (p0_1 : Int) (w : World) : (Instr.buildSlice 26 1 #[(0, .agg #[.int .i64 p0_0, .int .i64 p0_1])]).run Go.Proofs.Try.prog w = .ok (.slice (some ⟨w.heap.size, 0, none⟩) 1 1) (w.alloc (.cells #[.int .i64 p0_0, .int .i64 p0_1] 30)) := by kernel_rfl
noncomputable def I70 : TypeInfo := (Go.Proofs.Try.prog.info? 70).getD default
theorem i70 : Go.Proofs.Try.prog.info? 70 = some I70 := by kernel_rfl
theorem i70s : I70.size = 3 := by kernel_rfl
theorem i70p : 0 < I70.size := by rw [i70s]; decide
noncomputable def I24 : TypeInfo := (Go.Proofs.Try.prog.info? 24).getD default
theorem i24 : Go.Proofs.Try.prog.info? 24 = some I24 := by kernel_rfl
theorem i24s : I24.size = 2 := by kernel_rfl
theorem i24p : 0 < I24.size := by rw [i24s]; decide
end Go.Sh
