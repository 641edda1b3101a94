/- The facts on types that the walks name, and the encoders of elements. -/
import Derived.Test.YthcoacomnljikaaMut
import Derived.Test.YthcoacomnljikaaProg
import Derived.Test.YthcoacomnljikaaChecked
import Derived.KernelRfl
namespace Go.Sh
open Go Go.RowKit
theorem mixedP : Go.Proofs.Try.prog.follows .mixedOrders = true := by kernel_rfl
structure SToolMove where
  X : Int
  Y : Int
  Z : Int
deriving DecidableEq
def eSToolMove : Enc SToolMove := ⟨fun x => [.int .i64 x.X, .int .i64 x.Y, .int .i64 x.Z], 3, fun _ => rfl, by decide, fun x u h => by
  simp only [List.mem_cons, List.not_mem_nil, or_false] at h
  rcases h with rfl | rfl | rfl <;> rfl⟩
def okSToolMove (x : SToolMove) : Prop := okI .i64 x.X ∧ okI .i64 x.Y ∧ okI .i64 x.Z
structure SPoint where
  X : Int
  Y : Int
deriving DecidableEq
def eSPoint : Enc SPoint := ⟨fun x => [.int .i64 x.X, .int .i64 x.Y], 2, fun _ => rfl, by decide, fun x u h => by
  simp only [List.mem_cons, List.not_mem_nil, or_false] at h
  rcases h with rfl | rfl <;> rfl⟩
def okSPoint (x : SPoint) : Prop := okI .i64 x.X ∧ okI .i64 x.Y
noncomputable def I96 : TypeInfo := (Go.Proofs.Try.prog.info? 96).getD default
theorem i96 : Go.Proofs.Try.prog.info? 96 = some I96 := by kernel_rfl
theorem i96z : I96.zero = some (.agg #[.int .i64 0, .int .i64 0, .int .i64 0]) := by kernel_rfl
noncomputable def I2 : TypeInfo := (Go.Proofs.Try.prog.info? 2).getD default
theorem i2 : Go.Proofs.Try.prog.info? 2 = some I2 := by kernel_rfl
theorem i2s : I2.size = 1 := by kernel_rfl
theorem i2n : I2.size ≠ 0 := by rw [i2s]; decide
theorem i96s : I96.size = 3 := by kernel_rfl
theorem i96p : 0 < I96.size := by rw [i96s]; decide
theorem i96b : I96.bytes = 24 := by kernel_rfl
theorem i96b1 : I96.bytes ≤ 128 := by rw [i96b]; decide
noncomputable def I98 : TypeInfo := (Go.Proofs.Try.prog.info? 98).getD default
theorem i98 : Go.Proofs.Try.prog.info? 98 = some I98 := by kernel_rfl
theorem i98s : I98.size = 3 := by kernel_rfl
theorem bsl100_0  (w : World) : (Instr.buildSlice 100 0 #[]).run Go.Proofs.Try.prog w = .ok (.slice (some ⟨w.heap.size, 0, none⟩) 0 0) (w.alloc (.cells #[] 5)) := by kernel_rfl
theorem bsl100_1 (p0_0 : Int) (w : World) : (Instr.buildSlice 100 1 #[(0, .int .u8 p0_0)]).run Go.Proofs.Try.prog w = .ok (.slice (some ⟨w.heap.size, 0, none⟩) 1 1) (w.alloc (.cells #[.int .u8 p0_0] 5)) := by kernel_rfl
noncomputable def I5 : TypeInfo := (Go.Proofs.Try.prog.info? 5).getD default
theorem i5 : Go.Proofs.Try.prog.info? 5 = some I5 := by kernel_rfl
theorem i5z : I5.zero = some (.int .u8 0) := by kernel_rfl
theorem i5s : I5.size = 1 := by kernel_rfl
theorem i5b : I5.bytes = 1 := by kernel_rfl
theorem i5b0 : 0 < I5.bytes := by rw [i5b]; decide
theorem i5b1 : I5.bytes ≤ 128 := by rw [i5b]; decide
theorem bld30_0_1 (p0_0 : Int) (p1_0 : Int) (w : World) : (Instr.build 30 #[(0, .int .i64 p0_0), (1, .int .i64 p1_0)]).run Go.Proofs.Try.prog w = .ok (.agg #[.int .i64 p0_0, .int .i64 p1_0]) w := by kernel_rfl
theorem bld116_  (w : World) : (Instr.build 116 #[]).run Go.Proofs.Try.prog w = .ok (.agg #[.int .u8 0, .int .u8 0, .int .u8 0, .int .u8 0, .int .u8 0, .int .u8 0, .int .u8 0, .int .u8 0, .int .u8 0, .int .u8 0, .int .u8 0, .int .u8 0, .int .u8 0, .int .u8 0, .int .u8 0, .int .u8 0, .int .u8 0, .int .u8 0, .int .u8 0, .int .u8 0]) w := by kernel_rfl
noncomputable def I116 : TypeInfo := (Go.Proofs.Try.prog.info? 116).getD default
theorem i116 : Go.Proofs.Try.prog.info? 116 = some I116 := by kernel_rfl
theorem i116z : I116.zero = some (.agg #[.int .u8 0, .int .u8 0, .int .u8 0, .int .u8 0, .int .u8 0, .int .u8 0, .int .u8 0, .int .u8 0, .int .u8 0, .int .u8 0, .int .u8 0, .int .u8 0, .int .u8 0, .int .u8 0, .int .u8 0, .int .u8 0, .int .u8 0, .int .u8 0, .int .u8 0, .int .u8 0]) := by kernel_rfl
theorem i116s : I116.size = 20 := by kernel_rfl
theorem i116p : 0 < I116.size := by rw [i116s]; decide
noncomputable def I9 : TypeInfo := (Go.Proofs.Try.prog.info? 9).getD default
theorem i9 : Go.Proofs.Try.prog.info? 9 = some I9 := by kernel_rfl
theorem i9s : I9.size = 1 := by kernel_rfl
theorem bsl61_0  (w : World) : (Instr.buildSlice 61 0 #[]).run Go.Proofs.Try.prog w = .ok (.slice (some ⟨w.heap.size, 0, none⟩) 0 0) (w.alloc (.cells #[] 9)) := by kernel_rfl
theorem bsl61_1 (p0_0 : ByteArray) (w : World) : (Instr.buildSlice 61 1 #[(0, .string p0_0)]).run Go.Proofs.Try.prog w = .ok (.slice (some ⟨w.heap.size, 0, none⟩) 1 1) (w.alloc (.cells #[.string p0_0] 9)) := by kernel_rfl
theorem i9z : I9.zero = some (.string ByteArray.empty) := by kernel_rfl
theorem i9b : I9.bytes = 16 := by kernel_rfl
theorem i9b0 : 0 < I9.bytes := by rw [i9b]; decide
theorem i9b1 : I9.bytes ≤ 128 := by rw [i9b]; decide
theorem bsl35_3 (p0_0 : Int) (p1_0 : Int) (p2_0 : Int) (w : World) : (Instr.buildSlice 35 3 #[(0, .int .i64 p0_0), (1, .int .i64 p1_0), (2, .int .i64 p2_0)]).run Go.Proofs.Try.prog w = .ok (.slice (some ⟨w.heap.size, 0, none⟩) 3 3) (w.alloc (.cells #[.int .i64 p0_0, .int .i64 p1_0, .int .i64 p2_0] 2)) := by kernel_rfl
end Go.Sh
