/- The facts on types that the walks name, and the encoders of elements. -/
import Derived.Test.YtnaekndnmnbonaaMore
import Derived.Test.YtnaekndnmnbonaaProg
import Derived.Test.YtnaekndnmnbonaaChecked
import Derived.KernelRfl
namespace Go.Sh
open Go Go.RowKit
theorem mixedP : Go.Proofs.Try.prog.follows .mixedOrders = true := by kernel_rfl
structure SPanel where
  W : Int
  H : Int
  Breaks : List Int
def okSPanel (x : SPanel) : Prop := okI .i64 x.W ∧ okI .i64 x.H ∧ (x.Breaks.length ≤ maxLen ∧ ∀ y ∈ x.Breaks, okI .i64 y)
structure SPoint where
  X : Int
  Y : Int
deriving DecidableEq
def eSPoint : Enc SPoint := ⟨fun x => [.int .i64 x.X, .int .i64 x.Y], 2, fun _ => rfl, by decide, fun x u h => by
  simp only [List.mem_cons, List.not_mem_nil, or_false] at h
  rcases h with rfl | rfl <;> rfl⟩
def okSPoint (x : SPoint) : Prop := okI .i64 x.X ∧ okI .i64 x.Y
noncomputable def I33 : TypeInfo := (Go.Proofs.Try.prog.info? 33).getD default
theorem i33 : Go.Proofs.Try.prog.info? 33 = some I33 := by kernel_rfl
theorem i33s : I33.size = 1 := by kernel_rfl
theorem i33n : I33.size ≠ 0 := by rw [i33s]; decide
noncomputable def I2 : TypeInfo := (Go.Proofs.Try.prog.info? 2).getD default
theorem i2 : Go.Proofs.Try.prog.info? 2 = some I2 := by kernel_rfl
theorem i2s : I2.size = 1 := by kernel_rfl
theorem i2z : I2.zero = some (.int .i64 0) := by kernel_rfl
theorem i2b : I2.bytes = 8 := by kernel_rfl
theorem i2b1 : I2.bytes ≤ 128 := by rw [i2b]; decide
noncomputable def I39 : TypeInfo := (Go.Proofs.Try.prog.info? 39).getD default
theorem i39 : Go.Proofs.Try.prog.info? 39 = some I39 := by kernel_rfl
theorem i39z : I39.zero = some (.agg #[.int .i64 0, .int .i64 0, .slice none 0 0]) := by kernel_rfl
theorem i2n : I2.size ≠ 0 := by rw [i2s]; decide
theorem i39s : I39.size = 3 := by kernel_rfl
theorem i39p : 0 < I39.size := by rw [i39s]; decide
noncomputable def I93 : TypeInfo := (Go.Proofs.Try.prog.info? 93).getD default
theorem i93 : Go.Proofs.Try.prog.info? 93 = some I93 := by kernel_rfl
theorem i93s : I93.size = 2 := by kernel_rfl
noncomputable def I22 : TypeInfo := (Go.Proofs.Try.prog.info? 22).getD default
theorem i22 : Go.Proofs.Try.prog.info? 22 = some I22 := by kernel_rfl
theorem i22s : I22.size = 1 := by kernel_rfl
noncomputable def I65 : TypeInfo := (Go.Proofs.Try.prog.info? 65).getD default
theorem i65 : Go.Proofs.Try.prog.info? 65 = some I65 := by kernel_rfl
theorem i65s : I65.size = 1 := by kernel_rfl
theorem bsl33_0  (w : World) : (Instr.buildSlice 33 0 #[]).run Go.Proofs.Try.prog w = .ok (.slice (some ⟨w.heap.size, 0, none⟩) 0 0) (w.alloc (.cells #[] 2)) := by kernel_rfl
theorem i2b0 : 0 < I2.bytes := by rw [i2b]; decide
theorem bld39_0_1_2 (p0_0 : Int) (p1_0 : Int) (p2_0a : Option Addr) (p2_0n p2_0c : Nat) (w : World) : (Instr.build 39 #[(0, .int .i64 p0_0), (1, .int .i64 p1_0), (2, .slice p2_0a p2_0n p2_0c)]).run Go.Proofs.Try.prog w = .ok (.agg #[.int .i64 p0_0, .int .i64 p1_0, .slice p2_0a p2_0n p2_0c]) w := by kernel_rfl
theorem i93z : I93.zero = some (.agg #[.int .i64 0, .int .i64 0]) := by kernel_rfl
theorem i93p : 0 < I93.size := by rw [i93s]; decide
theorem bld93_  (w : World) : (Instr.build 93 #[]).run Go.Proofs.Try.prog w = .ok (.agg #[.int .i64 0, .int .i64 0]) w := by kernel_rfl
theorem bld93_0_1 (p0_0 : Int) (p1_0 : Int) (w : World) : (Instr.build 93 #[(0, .int .i64 p0_0), (1, .int .i64 p1_0)]).run Go.Proofs.Try.prog w = .ok (.agg #[.int .i64 p0_0, .int .i64 p1_0]) w := by kernel_rfl
theorem bld39_  (w : World) : (Instr.build 39 #[]).run Go.Proofs.Try.prog w = .ok (.agg #[.int .i64 0, .int .i64 0, .slice none 0 0]) w := by kernel_rfl
theorem bsl33_1 (p0_0 : Int) (w : World) : (Instr.buildSlice 33 1 #[(0, .int .i64 p0_0)]).run Go.Proofs.Try.prog w = .ok (.slice (some ⟨w.heap.size, 0, none⟩) 1 1) (w.alloc (.cells #[.int .i64 p0_0] 2)) := by kernel_rfl
theorem i93b : I93.bytes = 16 := by kernel_rfl
theorem i93b1 : I93.bytes ≤ 128 := by rw [i93b]; decide
noncomputable def I134 : TypeInfo := (Go.Proofs.Try.prog.info? 134).getD default
theorem i134 : Go.Proofs.Try.prog.info? 134 = some I134 := by kernel_rfl
theorem i134s : I134.size = 2 := by kernel_rfl
theorem i22z : I22.zero = some (.slice none 0 0) := by kernel_rfl
theorem i22b : I22.bytes = 24 := by kernel_rfl
theorem i22b1 : I22.bytes ≤ 128 := by rw [i22b]; decide
theorem bsl22_0  (w : World) : (Instr.buildSlice 22 0 #[]).run Go.Proofs.Try.prog w = .ok (.slice (some ⟨w.heap.size, 0, none⟩) 0 0) (w.alloc (.cells #[] 93)) := by kernel_rfl
theorem bsl22_1 (p0_0 : Int) (p0_1 : Int) (w : World) : (Instr.buildSlice 22 1 #[(0, .agg #[.int .i64 p0_0, .int .i64 p0_1])]).run Go.Proofs.Try.prog w = .ok (.slice (some ⟨w.heap.size, 0, none⟩) 1 1) (w.alloc (.cells #[.int .i64 p0_0, .int .i64 p0_1] 93)) := by kernel_rfl
theorem i93b0 : 0 < I93.bytes := by rw [i93b]; decide
theorem bld101_0_1_2 (p0_0 : Int) (p1_0 : Int) (p2_0 : Int) (w : World) : (Instr.build 101 #[(0, .int .i64 p0_0), (1, .int .i64 p1_0), (2, .int .i64 p2_0)]).run Go.Proofs.Try.prog w = .ok (.agg #[.int .i64 p0_0, .int .i64 p1_0, .int .i64 p2_0]) w := by kernel_rfl
noncomputable def I35 : TypeInfo := (Go.Proofs.Try.prog.info? 35).getD default
theorem i35 : Go.Proofs.Try.prog.info? 35 = some I35 := by kernel_rfl
theorem i35s : I35.size = 3 := by kernel_rfl
theorem i35p : 0 < I35.size := by rw [i35s]; decide
end Go.Sh
