/- The facts on types that the walks name, and the encoders of elements. -/
import Derived.Test.YthcoacomnljikaaMut
import Derived.Test.YthcoacomnljikaaProg
import Derived.Test.YthcoacomnljikaaChecked
import Derived.KernelRfl
namespace Go.Sh
open Go Go.RowKit
theorem mixedP : Go.Proofs.Try.prog.follows .mixedOrders = true := by kernel_rfl
structure SToolMove where
  X : Int
  Y : Int
  Z : Int
deriving DecidableEq
def eSToolMove : Enc SToolMove := ⟨fun x => [.int .i64 x.X, .int .i64 x.Y, .int .i64 x.Z], 3, fun _ => rfl, by decide, fun x u h => by
  simp only [List.mem_cons, List.not_mem_nil, or_false] at h
  rcases h with rfl | rfl | rfl <;> rfl⟩
def okSToolMove (x : SToolMove) : Prop := okI .i64 x.X ∧ okI .i64 x.Y ∧ okI .i64 x.Z
structure SPoint where
  X : Int
  Y : Int
deriving DecidableEq
def eSPoint : Enc SPoint := ⟨fun x => [.int .i64 x.X, .int .i64 x.Y], 2, fun _ => rfl, by decide, fun x u h => by
  simp only [List.mem_cons, List.not_mem_nil, or_false] at h
  rcases h with rfl | rfl <;> rfl⟩
def okSPoint (x : SPoint) : Prop := okI .i64 x.X ∧ okI .i64 x.Y
noncomputable def I96 : TypeInfo := (Go.Proofs.Try.prog.info? 96).getD default
theorem i96 : Go.Proofs.Try.prog.info? 96 = some I96 := by kernel_rfl
theorem i96s : I96.size = 3 := by kernel_rfl
noncomputable def I2 : TypeInfo := (Go.Proofs.Try.prog.info? 2).getD default
theorem i2 : Go.Proofs.Try.prog.info? 2 = some I2 := by kernel_rfl
theorem i2s : I2.size = 1 := by kernel_rfl
theorem i2n : I2.size ≠ 0 := by rw [i2s]; decide
theorem bsl54_0  (w : World) : (Instr.buildSlice 54 0 #[]).run Go.Proofs.Try.prog w = .ok (.slice (some ⟨w.heap.size, 0, none⟩) 0 0) (w.alloc (.cells #[] 96)) := by kernel_rfl
theorem i96z : I96.zero = some (.agg #[.int .i64 0, .int .i64 0, .int .i64 0]) := by kernel_rfl
theorem i96p : 0 < I96.size := by rw [i96s]; decide
theorem bsl54_1 (p0_0 : Int) (p0_1 : Int) (p0_2 : Int) (w : World) : (Instr.buildSlice 54 1 #[(0, .agg #[.int .i64 p0_0, .int .i64 p0_1, .int .i64 p0_2])]).run Go.Proofs.Try.prog w = .ok (.slice (some ⟨w.heap.size, 0, none⟩) 1 1) (w.alloc (.cells #[.int .i64 p0_0, .int .i64 p0_1, .int .i64 p0_2] 96)) := by kernel_rfl
theorem i96b : I96.bytes = 24 := by kernel_rfl
theorem i96b0 : 0 < I96.bytes := by rw [i96b]; decide
theorem i96b1 : I96.bytes ≤ 128 := by rw [i96b]; decide
noncomputable def I98 : TypeInfo := (Go.Proofs.Try.prog.info? 98).getD default
theorem i98 : Go.Proofs.Try.prog.info? 98 = some I98 := by kernel_rfl
theorem i98s : I98.size = 3 := by kernel_rfl
theorem bld30_0_1 (p0_0 : Int) (p1_0 : Int) (w : World) : (Instr.build 30 #[(0, .int .i64 p0_0), (1, .int .i64 p1_0)]).run Go.Proofs.Try.prog w = .ok (.agg #[.int .i64 p0_0, .int .i64 p1_0]) w := by kernel_rfl
end Go.Sh
