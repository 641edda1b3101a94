/- The facts on types that the walks name, and the encoders of elements. -/
import Derived.Test.YtinipjijgggjkaaLib
import Derived.Test.YtinipjijgggjkaaShelf
import Derived.Test.YtinipjijgggjkaaMore
import Derived.Test.YtinipjijgggjkaaProg
import Derived.Test.YtinipjijgggjkaaChecked
import Derived.KernelRfl
namespace Go.Sh
open Go Go.RowKit
theorem mixedP : Go.Proofs.Try.prog.follows .mixedOrders = true := by kernel_rfl
structure SPanel where
  W : Int
  H : Int
  Breaks : List Int
def okSPanel (x : SPanel) : Prop := okI .i64 x.W ∧ okI .i64 x.H ∧ (x.Breaks.length ≤ maxLen ∧ ∀ y ∈ x.Breaks, okI .i64 y)
structure SPoint where
  X : Int
  Y : Int
deriving DecidableEq
def eSPoint : Enc SPoint := ⟨fun x => [.int .i64 x.X, .int .i64 x.Y], 2, fun _ => rfl, by decide, fun x u h => by
  simp only [List.mem_cons, List.not_mem_nil, or_false] at h
  rcases h with rfl | rfl <;> rfl⟩
def okSPoint (x : SPoint) : Prop := okI .i64 x.X ∧ okI .i64 x.Y
structure SWalker where
  At : SPoint
  DX : Int
  DY : Int
def eSWalker : Enc SWalker := ⟨fun x => [.int .i64 x.At.X, .int .i64 x.At.Y, .int .i64 x.DX, .int .i64 x.DY], 4, fun _ => rfl, by decide, fun x u h => by
  simp only [List.mem_cons, List.not_mem_nil, or_false] at h
  rcases h with rfl | rfl | rfl | rfl <;> rfl⟩
def okSWalker (x : SWalker) : Prop := okSPoint x.At ∧ okI .i64 x.DX ∧ okI .i64 x.DY
structure A112 where
  a0 : Int
  a1 : Int
deriving DecidableEq
def eA112 : Enc A112 := ⟨fun x => [.int .i64 x.a0, .int .i64 x.a1], 2, fun _ => rfl, by decide, fun x u h => by
  simp only [List.mem_cons, List.not_mem_nil, or_false] at h
  rcases h with rfl | rfl <;> rfl⟩
def okA112 (x : A112) : Prop := okI .i64 x.a0 ∧ okI .i64 x.a1
structure A178 where
  a0 : Int
  a1 : Int
  a2 : Int
  a3 : Int
deriving DecidableEq
def eA178 : Enc A178 := ⟨fun x => [.int .i64 x.a0, .int .i64 x.a1, .int .i64 x.a2, .int .i64 x.a3], 4, fun _ => rfl, by decide, fun x u h => by
  simp only [List.mem_cons, List.not_mem_nil, or_false] at h
  rcases h with rfl | rfl | rfl | rfl <;> rfl⟩
def okA178 (x : A178) : Prop := okI .i64 x.a0 ∧ okI .i64 x.a1 ∧ okI .i64 x.a2 ∧ okI .i64 x.a3
structure Sl00Src where
  code : List Int
  at_ : Int
  seed : Int
def okSl00Src (x : Sl00Src) : Prop := (x.code.length ≤ maxLen ∧ ∀ y ∈ x.code, okI .u8 y) ∧ okI .i64 x.at_ ∧ okI .u64 x.seed
noncomputable def I2 : TypeInfo := (Go.Proofs.Try.prog.info? 2).getD default
theorem i2 : Go.Proofs.Try.prog.info? 2 = some I2 := by kernel_rfl
theorem i2s : I2.size = 1 := by kernel_rfl
theorem i2n : I2.size ≠ 0 := by rw [i2s]; decide
noncomputable def I22 : TypeInfo := (Go.Proofs.Try.prog.info? 22).getD default
theorem i22 : Go.Proofs.Try.prog.info? 22 = some I22 := by kernel_rfl
theorem i22s : I22.size = 1 := by kernel_rfl
theorem i22n : I22.size ≠ 0 := by rw [i22s]; decide
noncomputable def I35 : TypeInfo := (Go.Proofs.Try.prog.info? 35).getD default
theorem i35 : Go.Proofs.Try.prog.info? 35 = some I35 := by kernel_rfl
theorem i35z : I35.zero = some (.agg #[.int .i64 0, .int .i64 0]) := by kernel_rfl
theorem i35s : I35.size = 2 := by kernel_rfl
theorem i35n : I35.size ≠ 0 := by rw [i35s]; decide
theorem bld35_0_1 (p0_0 : Int) (p1_0 : Int) (w : World) : (Instr.build 35 #[(0, .int .i64 p0_0), (1, .int .i64 p1_0)]).run Go.Proofs.Try.prog w = .ok (.agg #[.int .i64 p0_0, .int .i64 p1_0]) w := by kernel_rfl
noncomputable def I126 : TypeInfo := (Go.Proofs.Try.prog.info? 126).getD default
theorem i126 : Go.Proofs.Try.prog.info? 126 = some I126 := by kernel_rfl
theorem i126s : I126.size = 4 := by kernel_rfl
theorem i126p : 0 < I126.size := by rw [i126s]; decide
theorem i35p : 0 < I35.size := by rw [i35s]; decide
theorem i126z : I126.zero = some (.agg #[.int .i64 0, .int .i64 0, .int .i64 0, .int .i64 0]) := by kernel_rfl
theorem bld126_0_1_2 (p0_0 : Int) (p0_1 : Int) (p1_0 : Int) (p2_0 : Int) (w : World) : (Instr.build 126 #[(0, .agg #[.int .i64 p0_0, .int .i64 p0_1]), (1, .int .i64 p1_0), (2, .int .i64 p2_0)]).run Go.Proofs.Try.prog w = .ok (.agg #[.int .i64 p0_0, .int .i64 p0_1, .int .i64 p1_0, .int .i64 p2_0]) w := by kernel_rfl
theorem bsl61_0  (w : World) : (Instr.buildSlice 61 0 #[]).run Go.Proofs.Try.prog w = .ok (.slice (some ⟨w.heap.size, 0, none⟩) 0 0) (w.alloc (.cells #[] 35)) := by kernel_rfl
theorem bsl22_0  (w : World) : (Instr.buildSlice 22 0 #[]).run Go.Proofs.Try.prog w = .ok (.slice (some ⟨w.heap.size, 0, none⟩) 0 0) (w.alloc (.cells #[] 2)) := by kernel_rfl
theorem eqs126 (x0 : Int) (x1 : Int) (x2 : Int) (x3 : Int) (y0 : Int) (y1 : Int) (y2 : Int) (y3 : Int) (w : World) : (Op.equalIn 10000 126 (.agg #[.int .i64 x0, .int .i64 x1, .int .i64 x2, .int .i64 x3]) (.agg #[.int .i64 y0, .int .i64 y1, .int .i64 y2, .int .i64 y3])).run Go.Proofs.Try.prog w = .ok (((x0 == y0) && ((x1 == y1) && true)) && ((x2 == y2) && ((x3 == y3) && true))) w := by
  rw [show (10000 : Nat) = 9990 + 1 + 1 + 1 + 1 + 1 + 1 + 1 + 1 + 1 + 1 from rfl]
  rw [run_equalIn_struct w _ 126 _ _ (by kernel_rfl) (by kernel_rfl)]
  simp only [Program.fieldsOf, Go.Proofs.Try.underlying126]
  refine eqf_cons (a := .agg #[.int .i64 x0, .int .i64 x1]) (b := .agg #[.int .i64 y0, .int .i64 y1]) (by decide) (by kernel_rfl) (by kernel_rfl) (by
    rw [run_equalIn_struct w _ 35 _ _ (by kernel_rfl) (by kernel_rfl)]
    simp only [Program.fieldsOf, Go.Proofs.Try.underlying35]
    refine eqf_cons (a := .int .i64 x0) (b := .int .i64 y0) (by decide) (by kernel_rfl) (by kernel_rfl) (by
      exact run_equalIn_int w _ _ _ _ _ _ Go.Proofs.Try.underlying2) ?_
    refine eqf_cons (a := .int .i64 x1) (b := .int .i64 y1) (by decide) (by kernel_rfl) (by kernel_rfl) (by
      exact run_equalIn_int w _ _ _ _ _ _ Go.Proofs.Try.underlying2) ?_
    exact eqf_nil) ?_
  refine eqf_cons (a := .int .i64 x2) (b := .int .i64 y2) (by decide) (by kernel_rfl) (by kernel_rfl) (by
    exact run_equalIn_int w _ _ _ _ _ _ Go.Proofs.Try.underlying2) ?_
  refine eqf_cons (a := .int .i64 x3) (b := .int .i64 y3) (by decide) (by kernel_rfl) (by kernel_rfl) (by
    exact run_equalIn_int w _ _ _ _ _ _ Go.Proofs.Try.underlying2) ?_
  exact eqf_nil
theorem eqs126_g (op : BinOp) (x y : Operand) (xs ys : Array Value) (w : World) : (eqGuard op 126 x y (.agg xs) (.agg ys)).run Go.Proofs.Try.prog w = .ok () w := run_eqGuard_agg w op 126 x y xs ys (by kernel_rfl)
theorem eqs126_eql (x0 : Int) (x1 : Int) (x2 : Int) (x3 : Int) (y0 : Int) (y1 : Int) (y2 : Int) (y3 : Int) (w : World) : (binOp .eql 126 (.agg #[.int .i64 x0, .int .i64 x1, .int .i64 x2, .int .i64 x3]) (.agg #[.int .i64 y0, .int .i64 y1, .int .i64 y2, .int .i64 y3])).run Go.Proofs.Try.prog w = .ok (.bool ((((x0 == y0) && ((x1 == y1) && true)) && ((x2 == y2) && ((x3 == y3) && true))))) w := by rw [run_eql_struct, eqs126]; rfl
theorem eqs126_neq (x0 : Int) (x1 : Int) (x2 : Int) (x3 : Int) (y0 : Int) (y1 : Int) (y2 : Int) (y3 : Int) (w : World) : (binOp .neq 126 (.agg #[.int .i64 x0, .int .i64 x1, .int .i64 x2, .int .i64 x3]) (.agg #[.int .i64 y0, .int .i64 y1, .int .i64 y2, .int .i64 y3])).run Go.Proofs.Try.prog w = .ok (.bool (!(((x0 == y0) && ((x1 == y1) && true)) && ((x2 == y2) && ((x3 == y3) && true))))) w := by rw [run_neq_struct, eqs126]; rfl
theorem bsl61_1 (p0_0 : Int) (p0_1 : Int) (w : World) : (Instr.buildSlice 61 1 #[(0, .agg #[.int .i64 p0_0, .int .i64 p0_1])]).run Go.Proofs.Try.prog w = .ok (.slice (some ⟨w.heap.size, 0, none⟩) 1 1) (w.alloc (.cells #[.int .i64 p0_0, .int .i64 p0_1] 35)) := by kernel_rfl
theorem i35b : I35.bytes = 16 := by kernel_rfl
theorem i35b0 : 0 < I35.bytes := by rw [i35b]; decide
theorem i35b1 : I35.bytes ≤ 128 := by rw [i35b]; decide
theorem bsl22_1 (p0_0 : Int) (w : World) : (Instr.buildSlice 22 1 #[(0, .int .i64 p0_0)]).run Go.Proofs.Try.prog w = .ok (.slice (some ⟨w.heap.size, 0, none⟩) 1 1) (w.alloc (.cells #[.int .i64 p0_0] 2)) := by kernel_rfl
theorem i2z : I2.zero = some (.int .i64 0) := by kernel_rfl
theorem i2b : I2.bytes = 8 := by kernel_rfl
theorem i2b0 : 0 < I2.bytes := by rw [i2b]; decide
theorem i2b1 : I2.bytes ≤ 128 := by rw [i2b]; decide
theorem bsl40_0  (w : World) : (Instr.buildSlice 40 0 #[]).run Go.Proofs.Try.prog w = .ok (.slice (some ⟨w.heap.size, 0, none⟩) 0 0) (w.alloc (.cells #[] 61)) := by kernel_rfl
theorem bsl40_1 (p0_0a : Option Addr) (p0_0n p0_0c : Nat) (w : World) : (Instr.buildSlice 40 1 #[(0, .slice p0_0a p0_0n p0_0c)]).run Go.Proofs.Try.prog w = .ok (.slice (some ⟨w.heap.size, 0, none⟩) 1 1) (w.alloc (.cells #[.slice p0_0a p0_0n p0_0c] 61)) := by kernel_rfl
noncomputable def I61 : TypeInfo := (Go.Proofs.Try.prog.info? 61).getD default
theorem i61 : Go.Proofs.Try.prog.info? 61 = some I61 := by kernel_rfl
theorem i61z : I61.zero = some (.slice none 0 0) := by kernel_rfl
theorem i61s : I61.size = 1 := by kernel_rfl
theorem i61b : I61.bytes = 24 := by kernel_rfl
theorem i61b0 : 0 < I61.bytes := by rw [i61b]; decide
theorem i61b1 : I61.bytes ≤ 128 := by rw [i61b]; decide
theorem bsl99_0  (w : World) : (Instr.buildSlice 99 0 #[]).run Go.Proofs.Try.prog w = .ok (.slice (some ⟨w.heap.size, 0, none⟩) 0 0) (w.alloc (.cells #[] 104)) := by kernel_rfl
noncomputable def I4 : TypeInfo := (Go.Proofs.Try.prog.info? 4).getD default
theorem i4 : Go.Proofs.Try.prog.info? 4 = some I4 := by kernel_rfl
theorem i4s : I4.size = 1 := by kernel_rfl
theorem i4z : I4.zero = some (.bool false) := by kernel_rfl
theorem i4b : I4.bytes = 1 := by kernel_rfl
theorem i4b1 : I4.bytes ≤ 128 := by rw [i4b]; decide
theorem bsl99_1 (p0_0a : Option Addr) (p0_0n p0_0c : Nat) (w : World) : (Instr.buildSlice 99 1 #[(0, .slice p0_0a p0_0n p0_0c)]).run Go.Proofs.Try.prog w = .ok (.slice (some ⟨w.heap.size, 0, none⟩) 1 1) (w.alloc (.cells #[.slice p0_0a p0_0n p0_0c] 104)) := by kernel_rfl
noncomputable def I104 : TypeInfo := (Go.Proofs.Try.prog.info? 104).getD default
theorem i104 : Go.Proofs.Try.prog.info? 104 = some I104 := by kernel_rfl
theorem i104z : I104.zero = some (.slice none 0 0) := by kernel_rfl
theorem i104s : I104.size = 1 := by kernel_rfl
theorem i104b : I104.bytes = 24 := by kernel_rfl
theorem i104b0 : 0 < I104.bytes := by rw [i104b]; decide
theorem i104b1 : I104.bytes ≤ 128 := by rw [i104b]; decide
noncomputable def I28 : TypeInfo := (Go.Proofs.Try.prog.info? 28).getD default
theorem i28 : Go.Proofs.Try.prog.info? 28 = some I28 := by kernel_rfl
theorem i28s : I28.size = 3 := by kernel_rfl
theorem i28p : 0 < I28.size := by rw [i28s]; decide
theorem bsl121_0  (w : World) : (Instr.buildSlice 121 0 #[]).run Go.Proofs.Try.prog w = .ok (.slice (some ⟨w.heap.size, 0, none⟩) 0 0) (w.alloc (.cells #[] 164)) := by kernel_rfl
theorem bsl164_0  (w : World) : (Instr.buildSlice 164 0 #[]).run Go.Proofs.Try.prog w = .ok (.slice (some ⟨w.heap.size, 0, none⟩) 0 0) (w.alloc (.cells #[] 126)) := by kernel_rfl
theorem bsl164_1 (p0_0 : Int) (p0_1 : Int) (p0_2 : Int) (p0_3 : Int) (w : World) : (Instr.buildSlice 164 1 #[(0, .agg #[.int .i64 p0_0, .int .i64 p0_1, .int .i64 p0_2, .int .i64 p0_3])]).run Go.Proofs.Try.prog w = .ok (.slice (some ⟨w.heap.size, 0, none⟩) 1 1) (w.alloc (.cells #[.int .i64 p0_0, .int .i64 p0_1, .int .i64 p0_2, .int .i64 p0_3] 126)) := by kernel_rfl
theorem i126b : I126.bytes = 32 := by kernel_rfl
theorem i126b0 : 0 < I126.bytes := by rw [i126b]; decide
theorem i126b1 : I126.bytes ≤ 128 := by rw [i126b]; decide
theorem bsl121_1 (p0_0a : Option Addr) (p0_0n p0_0c : Nat) (w : World) : (Instr.buildSlice 121 1 #[(0, .slice p0_0a p0_0n p0_0c)]).run Go.Proofs.Try.prog w = .ok (.slice (some ⟨w.heap.size, 0, none⟩) 1 1) (w.alloc (.cells #[.slice p0_0a p0_0n p0_0c] 164)) := by kernel_rfl
noncomputable def I164 : TypeInfo := (Go.Proofs.Try.prog.info? 164).getD default
theorem i164 : Go.Proofs.Try.prog.info? 164 = some I164 := by kernel_rfl
theorem i164z : I164.zero = some (.slice none 0 0) := by kernel_rfl
theorem i164s : I164.size = 1 := by kernel_rfl
theorem i164b : I164.bytes = 24 := by kernel_rfl
theorem i164b0 : 0 < I164.bytes := by rw [i164b]; decide
theorem i164b1 : I164.bytes ≤ 128 := by rw [i164b]; decide
noncomputable def I178 : TypeInfo := (Go.Proofs.Try.prog.info? 178).getD default
theorem i178 : Go.Proofs.Try.prog.info? 178 = some I178 := by kernel_rfl
theorem i178z : I178.zero = some (.agg #[.int .i64 0, .int .i64 0, .int .i64 0, .int .i64 0]) := by kernel_rfl
theorem bld178_  (w : World) : (Instr.build 178 #[]).run Go.Proofs.Try.prog w = .ok (.agg #[.int .i64 0, .int .i64 0, .int .i64 0, .int .i64 0]) w := by kernel_rfl
theorem i178s : I178.size = 4 := by kernel_rfl
theorem i178p : 0 < I178.size := by rw [i178s]; decide
theorem bld112_0_1 (p0_0 : Int) (p1_0 : Int) (w : World) : (Instr.build 112 #[(0, .int .i64 p0_0), (1, .int .i64 p1_0)]).run Go.Proofs.Try.prog w = .ok (.agg #[.int .i64 p0_0, .int .i64 p1_0]) w := by kernel_rfl
theorem bld113_0_1_2_3 (p0_0 : Int) (p0_1 : Int) (p1_0 : Int) (p1_1 : Int) (p2_0 : Int) (p2_1 : Int) (p3_0 : Int) (p3_1 : Int) (w : World) : (Instr.build 113 #[(0, .agg #[.int .i64 p0_0, .int .i64 p0_1]), (1, .agg #[.int .i64 p1_0, .int .i64 p1_1]), (2, .agg #[.int .i64 p2_0, .int .i64 p2_1]), (3, .agg #[.int .i64 p3_0, .int .i64 p3_1])]).run Go.Proofs.Try.prog w = .ok (.agg #[.int .i64 p0_0, .int .i64 p0_1, .int .i64 p1_0, .int .i64 p1_1, .int .i64 p2_0, .int .i64 p2_1, .int .i64 p3_0, .int .i64 p3_1]) w := by kernel_rfl
noncomputable def I112 : TypeInfo := (Go.Proofs.Try.prog.info? 112).getD default
theorem i112 : Go.Proofs.Try.prog.info? 112 = some I112 := by kernel_rfl
theorem i112s : I112.size = 2 := by kernel_rfl
theorem i112z : I112.zero = some (.agg #[.int .i64 0, .int .i64 0]) := by kernel_rfl
theorem i112p : 0 < I112.size := by rw [i112s]; decide
noncomputable def I3 : TypeInfo := (Go.Proofs.Try.prog.info? 3).getD default
theorem i3 : Go.Proofs.Try.prog.info? 3 = some I3 := by kernel_rfl
theorem i3s : I3.size = 1 := by kernel_rfl
theorem i3n : I3.size ≠ 0 := by rw [i3s]; decide
noncomputable def I54 : TypeInfo := (Go.Proofs.Try.prog.info? 54).getD default
theorem i54 : Go.Proofs.Try.prog.info? 54 = some I54 := by kernel_rfl
theorem i54s : I54.size = 1 := by kernel_rfl
theorem i54n : I54.size ≠ 0 := by rw [i54s]; decide
noncomputable def I5 : TypeInfo := (Go.Proofs.Try.prog.info? 5).getD default
theorem i5 : Go.Proofs.Try.prog.info? 5 = some I5 := by kernel_rfl
theorem i5s : I5.size = 1 := by kernel_rfl
noncomputable def I160 : TypeInfo := (Go.Proofs.Try.prog.info? 160).getD default
theorem i160 : Go.Proofs.Try.prog.info? 160 = some I160 := by kernel_rfl
theorem i160s : I160.size = 1 := by kernel_rfl
theorem i160n : I160.size ≠ 0 := by rw [i160s]; decide
theorem i28z : I28.zero = some (.agg #[.int .i64 0, .int .i64 0, .slice none 0 0]) := by kernel_rfl
theorem bld28_0_1_2 (p0_0 : Int) (p1_0 : Int) (p2_0a : Option Addr) (p2_0n p2_0c : Nat) (w : World) : (Instr.build 28 #[(0, .int .i64 p0_0), (1, .int .i64 p1_0), (2, .slice p2_0a p2_0n p2_0c)]).run Go.Proofs.Try.prog w = .ok (.agg #[.int .i64 p0_0, .int .i64 p1_0, .slice p2_0a p2_0n p2_0c]) w := by kernel_rfl
theorem bsl22_4 (p0_0 : Int) (p1_0 : Int) (p2_0 : Int) (p3_0 : Int) (w : World) : (Instr.buildSlice 22 4 #[(0, .int .i64 p0_0), (1, .int .i64 p1_0), (2, .int .i64 p2_0), (3, .int .i64 p3_0)]).run Go.Proofs.Try.prog w = .ok (.slice (some ⟨w.heap.size, 0, none⟩) 4 4) (w.alloc (.cells #[.int .i64 p0_0, .int .i64 p1_0, .int .i64 p2_0, .int .i64 p3_0] 2)) := by kernel_rfl
theorem bsl22_3 (p0_0 : Int) (p1_0 : Int) (p2_0 : Int) (w : World) : (Instr.buildSlice 22 3 #[(0, .int .i64 p0_0), (1, .int .i64 p1_0), (2, .int .i64 p2_0)]).run Go.Proofs.Try.prog w = .ok (.slice (some ⟨w.heap.size, 0, none⟩) 3 3) (w.alloc (.cells #[.int .i64 p0_0, .int .i64 p1_0, .int .i64 p2_0] 2)) := by kernel_rfl
theorem bld162_0 (p0_0a : Option Addr) (p0_0n p0_0c : Nat) (w : World) : (Instr.build 162 #[(0, .slice p0_0a p0_0n p0_0c)]).run Go.Proofs.Try.prog w = .ok (.agg #[.slice p0_0a p0_0n p0_0c, .int .i64 0, .int .u64 0]) w := by kernel_rfl
theorem bld169_  (w : World) : (Instr.build 169 #[]).run Go.Proofs.Try.prog w = .ok (.agg #[.int .u8 0, .int .u8 0, .int .u8 0, .int .u8 0, .int .u8 0, .int .u8 0, .int .u8 0, .int .u8 0, .int .u8 0, .int .u8 0, .int .u8 0, .int .u8 0, .int .u8 0, .int .u8 0, .int .u8 0, .int .u8 0, .int .u8 0, .int .u8 0, .int .u8 0, .int .u8 0]) w := by kernel_rfl
noncomputable def I169 : TypeInfo := (Go.Proofs.Try.prog.info? 169).getD default
theorem i169 : Go.Proofs.Try.prog.info? 169 = some I169 := by kernel_rfl
theorem i169z : I169.zero = some (.agg #[.int .u8 0, .int .u8 0, .int .u8 0, .int .u8 0, .int .u8 0, .int .u8 0, .int .u8 0, .int .u8 0, .int .u8 0, .int .u8 0, .int .u8 0, .int .u8 0, .int .u8 0, .int .u8 0, .int .u8 0, .int .u8 0, .int .u8 0, .int .u8 0, .int .u8 0, .int .u8 0]) := by kernel_rfl
theorem i169s : I169.size = 20 := by kernel_rfl
theorem i169p : 0 < I169.size := by rw [i169s]; decide
theorem bsl64_0  (w : World) : (Instr.buildSlice 64 0 #[]).run Go.Proofs.Try.prog w = .ok (.slice (some ⟨w.heap.size, 0, none⟩) 0 0) (w.alloc (.cells #[] 9)) := by kernel_rfl
theorem bsl64_1 (p0_0 : ByteArray) (w : World) : (Instr.buildSlice 64 1 #[(0, .string p0_0)]).run Go.Proofs.Try.prog w = .ok (.slice (some ⟨w.heap.size, 0, none⟩) 1 1) (w.alloc (.cells #[.string p0_0] 9)) := by kernel_rfl
noncomputable def I9 : TypeInfo := (Go.Proofs.Try.prog.info? 9).getD default
theorem i9 : Go.Proofs.Try.prog.info? 9 = some I9 := by kernel_rfl
theorem i9z : I9.zero = some (.string ByteArray.empty) := by kernel_rfl
theorem i9s : I9.size = 1 := by kernel_rfl
theorem i9b : I9.bytes = 16 := by kernel_rfl
theorem i9b0 : 0 < I9.bytes := by rw [i9b]; decide
theorem i9b1 : I9.bytes ≤ 128 := by rw [i9b]; decide
theorem bsl54_0  (w : World) : (Instr.buildSlice 54 0 #[]).run Go.Proofs.Try.prog w = .ok (.slice (some ⟨w.heap.size, 0, none⟩) 0 0) (w.alloc (.cells #[] 5)) := by kernel_rfl
theorem bsl54_1 (p0_0 : Int) (w : World) : (Instr.buildSlice 54 1 #[(0, .int .u8 p0_0)]).run Go.Proofs.Try.prog w = .ok (.slice (some ⟨w.heap.size, 0, none⟩) 1 1) (w.alloc (.cells #[.int .u8 p0_0] 5)) := by kernel_rfl
theorem i5z : I5.zero = some (.int .u8 0) := by kernel_rfl
theorem i5b : I5.bytes = 1 := by kernel_rfl
theorem i5b0 : 0 < I5.bytes := by rw [i5b]; decide
theorem i5b1 : I5.bytes ≤ 128 := by rw [i5b]; decide
end Go.Sh
