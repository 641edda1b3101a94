/- The facts on types that the walks name, and the encoders of elements. -/
import Derived.Test.YtnifcedmpilldaaMore
import Derived.Test.YtnifcedmpilldaaProg
import Derived.Test.YtnifcedmpilldaaChecked
import Derived.KernelRfl
namespace Go.Sh
open Go Go.RowKit
theorem mixedP : Go.Proofs.Try.prog.follows .mixedOrders = true := by kernel_rfl
structure Sl00Src where
  code : List Int
  at_ : Int
  seed : Int
def okSl00Src (x : Sl00Src) : Prop := (x.code.length ≤ maxLen ∧ ∀ y ∈ x.code, okI .u8 y) ∧ okI .i64 x.at_ ∧ okI .u64 x.seed
structure SPanel where
  W : Int
  H : Int
  Breaks : List Int
def okSPanel (x : SPanel) : Prop := okI .i64 x.W ∧ okI .i64 x.H ∧ (x.Breaks.length ≤ maxLen ∧ ∀ y ∈ x.Breaks, okI .i64 y)
structure SPoint where
  X : Int
  Y : Int
deriving DecidableEq
def eSPoint : Enc SPoint := ⟨fun x => [.int .i64 x.X, .int .i64 x.Y], 2, fun _ => rfl, by decide, fun x u h => by
  simp only [List.mem_cons, List.not_mem_nil, or_false] at h
  rcases h with rfl | rfl <;> rfl⟩
def okSPoint (x : SPoint) : Prop := okI .i64 x.X ∧ okI .i64 x.Y
structure SWalker where
  At : SPoint
  DX : Int
  DY : Int
def eSWalker : Enc SWalker := ⟨fun x => [.int .i64 x.At.X, .int .i64 x.At.Y, .int .i64 x.DX, .int .i64 x.DY], 4, fun _ => rfl, by decide, fun x u h => by
  simp only [List.mem_cons, List.not_mem_nil, or_false] at h
  rcases h with rfl | rfl | rfl | rfl <;> rfl⟩
def okSWalker (x : SWalker) : Prop := okSPoint x.At ∧ okI .i64 x.DX ∧ okI .i64 x.DY
structure SToolMove where
  X : Int
  Y : Int
  Z : Int
deriving DecidableEq
def eSToolMove : Enc SToolMove := ⟨fun x => [.int .i64 x.X, .int .i64 x.Y, .int .i64 x.Z], 3, fun _ => rfl, by decide, fun x u h => by
  simp only [List.mem_cons, List.not_mem_nil, or_false] at h
  rcases h with rfl | rfl | rfl <;> rfl⟩
def okSToolMove (x : SToolMove) : Prop := okI .i64 x.X ∧ okI .i64 x.Y ∧ okI .i64 x.Z
noncomputable def I2 : TypeInfo := (Go.Proofs.Try.prog.info? 2).getD default
theorem i2 : Go.Proofs.Try.prog.info? 2 = some I2 := by kernel_rfl
theorem i2s : I2.size = 1 := by kernel_rfl
theorem bld163_0 (p0_0a : Option Addr) (p0_0n p0_0c : Nat) (w : World) : (Instr.build 163 #[(0, .slice p0_0a p0_0n p0_0c)]).run Go.Proofs.Try.prog w = .ok (.agg #[.slice p0_0a p0_0n p0_0c, .int .i64 0, .int .u64 0]) w := by kernel_rfl
noncomputable def I3 : TypeInfo := (Go.Proofs.Try.prog.info? 3).getD default
theorem i3 : Go.Proofs.Try.prog.info? 3 = some I3 := by kernel_rfl
theorem i3s : I3.size = 1 := by kernel_rfl
theorem i3n : I3.size ≠ 0 := by rw [i3s]; decide
noncomputable def I22 : TypeInfo := (Go.Proofs.Try.prog.info? 22).getD default
theorem i22 : Go.Proofs.Try.prog.info? 22 = some I22 := by kernel_rfl
theorem i22s : I22.size = 1 := by kernel_rfl
theorem i22n : I22.size ≠ 0 := by rw [i22s]; decide
noncomputable def I5 : TypeInfo := (Go.Proofs.Try.prog.info? 5).getD default
theorem i5 : Go.Proofs.Try.prog.info? 5 = some I5 := by kernel_rfl
theorem i5s : I5.size = 1 := by kernel_rfl
noncomputable def I161 : TypeInfo := (Go.Proofs.Try.prog.info? 161).getD default
theorem i161 : Go.Proofs.Try.prog.info? 161 = some I161 := by kernel_rfl
theorem i161s : I161.size = 1 := by kernel_rfl
theorem i161n : I161.size ≠ 0 := by rw [i161s]; decide
noncomputable def I26 : TypeInfo := (Go.Proofs.Try.prog.info? 26).getD default
theorem i26 : Go.Proofs.Try.prog.info? 26 = some I26 := by kernel_rfl
theorem i26z : I26.zero = some (.agg #[.int .i64 0, .int .i64 0, .slice none 0 0]) := by kernel_rfl
theorem i2z : I2.zero = some (.int .i64 0) := by kernel_rfl
theorem i2b : I2.bytes = 8 := by kernel_rfl
theorem i2b1 : I2.bytes ≤ 128 := by rw [i2b]; decide
theorem bld26_0_1_2 (p0_0 : Int) (p1_0 : Int) (p2_0a : Option Addr) (p2_0n p2_0c : Nat) (w : World) : (Instr.build 26 #[(0, .int .i64 p0_0), (1, .int .i64 p1_0), (2, .slice p2_0a p2_0n p2_0c)]).run Go.Proofs.Try.prog w = .ok (.agg #[.int .i64 p0_0, .int .i64 p1_0, .slice p2_0a p2_0n p2_0c]) w := by kernel_rfl
theorem i26s : I26.size = 3 := by kernel_rfl
noncomputable def I24 : TypeInfo := (Go.Proofs.Try.prog.info? 24).getD default
theorem i24 : Go.Proofs.Try.prog.info? 24 = some I24 := by kernel_rfl
theorem i24s : I24.size = 1 := by kernel_rfl
theorem i24n : I24.size ≠ 0 := by rw [i24s]; decide
theorem i26p : 0 < I26.size := by rw [i26s]; decide
theorem bsl24_4 (p0_0 : Int) (p1_0 : Int) (p2_0 : Int) (p3_0 : Int) (w : World) : (Instr.buildSlice 24 4 #[(0, .int .i64 p0_0), (1, .int .i64 p1_0), (2, .int .i64 p2_0), (3, .int .i64 p3_0)]).run Go.Proofs.Try.prog w = .ok (.slice (some ⟨w.heap.size, 0, none⟩) 4 4) (w.alloc (.cells #[.int .i64 p0_0, .int .i64 p1_0, .int .i64 p2_0, .int .i64 p3_0] 2)) := by kernel_rfl
theorem i2n : I2.size ≠ 0 := by rw [i2s]; decide
theorem bsl24_1 (p0_0 : Int) (w : World) : (Instr.buildSlice 24 1 #[(0, .int .i64 p0_0)]).run Go.Proofs.Try.prog w = .ok (.slice (some ⟨w.heap.size, 0, none⟩) 1 1) (w.alloc (.cells #[.int .i64 p0_0] 2)) := by kernel_rfl
theorem i2b0 : 0 < I2.bytes := by rw [i2b]; decide
theorem bsl24_3 (p0_0 : Int) (p1_0 : Int) (p2_0 : Int) (w : World) : (Instr.buildSlice 24 3 #[(0, .int .i64 p0_0), (1, .int .i64 p1_0), (2, .int .i64 p2_0)]).run Go.Proofs.Try.prog w = .ok (.slice (some ⟨w.heap.size, 0, none⟩) 3 3) (w.alloc (.cells #[.int .i64 p0_0, .int .i64 p1_0, .int .i64 p2_0] 2)) := by kernel_rfl
noncomputable def I104 : TypeInfo := (Go.Proofs.Try.prog.info? 104).getD default
theorem i104 : Go.Proofs.Try.prog.info? 104 = some I104 := by kernel_rfl
theorem i104z : I104.zero = some (.agg #[.int .i64 0, .int .i64 0, .int .i64 0, .int .i64 0]) := by kernel_rfl
theorem bld42_0_1 (p0_0 : Int) (p1_0 : Int) (w : World) : (Instr.build 42 #[(0, .int .i64 p0_0), (1, .int .i64 p1_0)]).run Go.Proofs.Try.prog w = .ok (.agg #[.int .i64 p0_0, .int .i64 p1_0]) w := by kernel_rfl
theorem bld104_0_1_2 (p0_0 : Int) (p0_1 : Int) (p1_0 : Int) (p2_0 : Int) (w : World) : (Instr.build 104 #[(0, .agg #[.int .i64 p0_0, .int .i64 p0_1]), (1, .int .i64 p1_0), (2, .int .i64 p2_0)]).run Go.Proofs.Try.prog w = .ok (.agg #[.int .i64 p0_0, .int .i64 p0_1, .int .i64 p1_0, .int .i64 p2_0]) w := by kernel_rfl
theorem i104s : I104.size = 4 := by kernel_rfl
noncomputable def I42 : TypeInfo := (Go.Proofs.Try.prog.info? 42).getD default
theorem i42 : Go.Proofs.Try.prog.info? 42 = some I42 := by kernel_rfl
theorem i42z : I42.zero = some (.agg #[.int .i64 0, .int .i64 0]) := by kernel_rfl
theorem i42s : I42.size = 2 := by kernel_rfl
theorem i42n : I42.size ≠ 0 := by rw [i42s]; decide
theorem i104p : 0 < I104.size := by rw [i104s]; decide
theorem i42p : 0 < I42.size := by rw [i42s]; decide
theorem bsl99_0  (w : World) : (Instr.buildSlice 99 0 #[]).run Go.Proofs.Try.prog w = .ok (.slice (some ⟨w.heap.size, 0, none⟩) 0 0) (w.alloc (.cells #[] 102)) := by kernel_rfl
theorem bsl102_0  (w : World) : (Instr.buildSlice 102 0 #[]).run Go.Proofs.Try.prog w = .ok (.slice (some ⟨w.heap.size, 0, none⟩) 0 0) (w.alloc (.cells #[] 104)) := by kernel_rfl
theorem bsl102_1 (p0_0 : Int) (p0_1 : Int) (p0_2 : Int) (p0_3 : Int) (w : World) : (Instr.buildSlice 102 1 #[(0, .agg #[.int .i64 p0_0, .int .i64 p0_1, .int .i64 p0_2, .int .i64 p0_3])]).run Go.Proofs.Try.prog w = .ok (.slice (some ⟨w.heap.size, 0, none⟩) 1 1) (w.alloc (.cells #[.int .i64 p0_0, .int .i64 p0_1, .int .i64 p0_2, .int .i64 p0_3] 104)) := by kernel_rfl
theorem i104b : I104.bytes = 32 := by kernel_rfl
theorem i104b0 : 0 < I104.bytes := by rw [i104b]; decide
theorem i104b1 : I104.bytes ≤ 128 := by rw [i104b]; decide
theorem bsl99_1 (p0_0a : Option Addr) (p0_0n p0_0c : Nat) (w : World) : (Instr.buildSlice 99 1 #[(0, .slice p0_0a p0_0n p0_0c)]).run Go.Proofs.Try.prog w = .ok (.slice (some ⟨w.heap.size, 0, none⟩) 1 1) (w.alloc (.cells #[.slice p0_0a p0_0n p0_0c] 102)) := by kernel_rfl
noncomputable def I102 : TypeInfo := (Go.Proofs.Try.prog.info? 102).getD default
theorem i102 : Go.Proofs.Try.prog.info? 102 = some I102 := by kernel_rfl
theorem i102z : I102.zero = some (.slice none 0 0) := by kernel_rfl
theorem i102s : I102.size = 1 := by kernel_rfl
theorem i102b : I102.bytes = 24 := by kernel_rfl
theorem i102b0 : 0 < I102.bytes := by rw [i102b]; decide
theorem i102b1 : I102.bytes ≤ 128 := by rw [i102b]; decide
theorem bld42_  (w : World) : (Instr.build 42 #[]).run Go.Proofs.Try.prog w = .ok (.agg #[.int .i64 0, .int .i64 0]) w := by kernel_rfl
theorem bsl24_0  (w : World) : (Instr.buildSlice 24 0 #[]).run Go.Proofs.Try.prog w = .ok (.slice (some ⟨w.heap.size, 0, none⟩) 0 0) (w.alloc (.cells #[] 2)) := by kernel_rfl
noncomputable def I4 : TypeInfo := (Go.Proofs.Try.prog.info? 4).getD default
theorem i4 : Go.Proofs.Try.prog.info? 4 = some I4 := by kernel_rfl
theorem i4s : I4.size = 1 := by kernel_rfl
theorem i4z : I4.zero = some (.bool false) := by kernel_rfl
theorem i4b : I4.bytes = 1 := by kernel_rfl
theorem i4b1 : I4.bytes ≤ 128 := by rw [i4b]; decide
theorem bsl34_0  (w : World) : (Instr.buildSlice 34 0 #[]).run Go.Proofs.Try.prog w = .ok (.slice (some ⟨w.heap.size, 0, none⟩) 0 0) (w.alloc (.cells #[] 42)) := by kernel_rfl
theorem bsl34_1 (p0_0 : Int) (p0_1 : Int) (w : World) : (Instr.buildSlice 34 1 #[(0, .agg #[.int .i64 p0_0, .int .i64 p0_1])]).run Go.Proofs.Try.prog w = .ok (.slice (some ⟨w.heap.size, 0, none⟩) 1 1) (w.alloc (.cells #[.int .i64 p0_0, .int .i64 p0_1] 42)) := by kernel_rfl
theorem i42b : I42.bytes = 16 := by kernel_rfl
theorem i42b0 : 0 < I42.bytes := by rw [i42b]; decide
theorem i42b1 : I42.bytes ≤ 128 := by rw [i42b]; decide
theorem bld88_0_1_2 (p0_0 : Int) (p1_0 : Int) (p2_0 : Int) (w : World) : (Instr.build 88 #[(0, .int .i64 p0_0), (1, .int .i64 p1_0), (2, .int .i64 p2_0)]).run Go.Proofs.Try.prog w = .ok (.agg #[.int .i64 p0_0, .int .i64 p1_0, .int .i64 p2_0]) w := by kernel_rfl
theorem bsl65_1 (p0_0 : Int) (p0_1 : Int) (p0_2 : Int) (w : World) : (Instr.buildSlice 65 1 #[(0, .agg #[.int .i64 p0_0, .int .i64 p0_1, .int .i64 p0_2])]).run Go.Proofs.Try.prog w = .ok (.slice (some ⟨w.heap.size, 0, none⟩) 1 1) (w.alloc (.cells #[.int .i64 p0_0, .int .i64 p0_1, .int .i64 p0_2] 88)) := by kernel_rfl
noncomputable def I88 : TypeInfo := (Go.Proofs.Try.prog.info? 88).getD default
theorem i88 : Go.Proofs.Try.prog.info? 88 = some I88 := by kernel_rfl
theorem i88z : I88.zero = some (.agg #[.int .i64 0, .int .i64 0, .int .i64 0]) := by kernel_rfl
theorem i88s : I88.size = 3 := by kernel_rfl
theorem i88b : I88.bytes = 24 := by kernel_rfl
theorem i88b0 : 0 < I88.bytes := by rw [i88b]; decide
theorem i88b1 : I88.bytes ≤ 128 := by rw [i88b]; decide
theorem bsl65_2 (p0_0 : Int) (p0_1 : Int) (p0_2 : Int) (p1_0 : Int) (p1_1 : Int) (p1_2 : Int) (w : World) : (Instr.buildSlice 65 2 #[(0, .agg #[.int .i64 p0_0, .int .i64 p0_1, .int .i64 p0_2]), (1, .agg #[.int .i64 p1_0, .int .i64 p1_1, .int .i64 p1_2])]).run Go.Proofs.Try.prog w = .ok (.slice (some ⟨w.heap.size, 0, none⟩) 2 2) (w.alloc (.cells #[.int .i64 p0_0, .int .i64 p0_1, .int .i64 p0_2, .int .i64 p1_0, .int .i64 p1_1, .int .i64 p1_2] 88)) := by kernel_rfl
theorem bsl65_0  (w : World) : (Instr.buildSlice 65 0 #[]).run Go.Proofs.Try.prog w = .ok (.slice (some ⟨w.heap.size, 0, none⟩) 0 0) (w.alloc (.cells #[] 88)) := by kernel_rfl
theorem eqs104 (x0 : Int) (x1 : Int) (x2 : Int) (x3 : Int) (y0 : Int) (y1 : Int) (y2 : Int) (y3 : Int) (w : World) : (Op.equalIn 10000 104 (.agg #[.int .i64 x0, .int .i64 x1, .int .i64 x2, .int .i64 x3]) (.agg #[.int .i64 y0, .int .i64 y1, .int .i64 y2, .int .i64 y3])).run Go.Proofs.Try.prog w = .ok (((x0 == y0) && ((x1 == y1) && true)) && ((x2 == y2) && ((x3 == y3) && true))) w := by
  rw [show (10000 : Nat) = 9990 + 1 + 1 + 1 + 1 + 1 + 1 + 1 + 1 + 1 + 1 from rfl]
  rw [run_equalIn_struct w _ 104 _ _ (by kernel_rfl) (by kernel_rfl)]
  simp only [Program.fieldsOf, Go.Proofs.Try.underlying104]
  refine eqf_cons (a := .agg #[.int .i64 x0, .int .i64 x1]) (b := .agg #[.int .i64 y0, .int .i64 y1]) (by decide) (by kernel_rfl) (by kernel_rfl) (by
    rw [run_equalIn_struct w _ 42 _ _ (by kernel_rfl) (by kernel_rfl)]
    simp only [Program.fieldsOf, Go.Proofs.Try.underlying42]
    refine eqf_cons (a := .int .i64 x0) (b := .int .i64 y0) (by decide) (by kernel_rfl) (by kernel_rfl) (by
      exact run_equalIn_int w _ _ _ _ _ _ Go.Proofs.Try.underlying2) ?_
    refine eqf_cons (a := .int .i64 x1) (b := .int .i64 y1) (by decide) (by kernel_rfl) (by kernel_rfl) (by
      exact run_equalIn_int w _ _ _ _ _ _ Go.Proofs.Try.underlying2) ?_
    exact eqf_nil) ?_
  refine eqf_cons (a := .int .i64 x2) (b := .int .i64 y2) (by decide) (by kernel_rfl) (by kernel_rfl) (by
    exact run_equalIn_int w _ _ _ _ _ _ Go.Proofs.Try.underlying2) ?_
  refine eqf_cons (a := .int .i64 x3) (b := .int .i64 y3) (by decide) (by kernel_rfl) (by kernel_rfl) (by
    exact run_equalIn_int w _ _ _ _ _ _ Go.Proofs.Try.underlying2) ?_
  exact eqf_nil
theorem eqs104_g (op : BinOp) (x y : Operand) (xs ys : Array Value) (w : World) : (eqGuard op 104 x y (.agg xs) (.agg ys)).run Go.Proofs.Try.prog w = .ok () w := run_eqGuard_agg w op 104 x y xs ys (by kernel_rfl)
theorem eqs104_eql (x0 : Int) (x1 : Int) (x2 : Int) (x3 : Int) (y0 : Int) (y1 : Int) (y2 : Int) (y3 : Int) (w : World) : (binOp .eql 104 (.agg #[.int .i64 x0, .int .i64 x1, .int .i64 x2, .int .i64 x3]) (.agg #[.int .i64 y0, .int .i64 y1, .int .i64 y2, .int .i64 y3])).run Go.Proofs.Try.prog w = .ok (.bool ((((x0 == y0) && ((x1 == y1) && true)) && ((x2 == y2) && ((x3 == y3) && true))))) w := by rw [run_eql_struct, eqs104]; rfl
theorem eqs104_neq (x0 : Int) (x1 : Int) (x2 : Int) (x3 : Int) (y0 : Int) (y1 : Int) (y2 : Int) (y3 : Int) (w : World) : (binOp .neq 104 (.agg #[.int .i64 x0, .int .i64 x1, .int .i64 x2, .int .i64 x3]) (.agg #[.int .i64 y0, .int .i64 y1, .int .i64 y2, .int .i64 y3])).run Go.Proofs.Try.prog w = .ok (.bool (!(((x0 == y0) && ((x1 == y1) && true)) && ((x2 == y2) && ((x3 == y3) && true))))) w := by rw [run_neq_struct, eqs104]; rfl
theorem bsl29_0  (w : World) : (Instr.buildSlice 29 0 #[]).run Go.Proofs.Try.prog w = .ok (.slice (some ⟨w.heap.size, 0, none⟩) 0 0) (w.alloc (.cells #[] 34)) := by kernel_rfl
theorem bsl29_1 (p0_0a : Option Addr) (p0_0n p0_0c : Nat) (w : World) : (Instr.buildSlice 29 1 #[(0, .slice p0_0a p0_0n p0_0c)]).run Go.Proofs.Try.prog w = .ok (.slice (some ⟨w.heap.size, 0, none⟩) 1 1) (w.alloc (.cells #[.slice p0_0a p0_0n p0_0c] 34)) := by kernel_rfl
noncomputable def I34 : TypeInfo := (Go.Proofs.Try.prog.info? 34).getD default
theorem i34 : Go.Proofs.Try.prog.info? 34 = some I34 := by kernel_rfl
theorem i34z : I34.zero = some (.slice none 0 0) := by kernel_rfl
theorem i34s : I34.size = 1 := by kernel_rfl
theorem i34b : I34.bytes = 24 := by kernel_rfl
theorem i34b0 : 0 < I34.bytes := by rw [i34b]; decide
theorem i34b1 : I34.bytes ≤ 128 := by rw [i34b]; decide
theorem eqs88 (x0 : Int) (x1 : Int) (x2 : Int) (y0 : Int) (y1 : Int) (y2 : Int) (w : World) : (Op.equalIn 10000 88 (.agg #[.int .i64 x0, .int .i64 x1, .int .i64 x2]) (.agg #[.int .i64 y0, .int .i64 y1, .int .i64 y2])).run Go.Proofs.Try.prog w = .ok ((x0 == y0) && ((x1 == y1) && ((x2 == y2) && true))) w := by
  rw [show (10000 : Nat) = 9990 + 1 + 1 + 1 + 1 + 1 + 1 + 1 + 1 + 1 + 1 from rfl]
  rw [run_equalIn_struct w _ 88 _ _ (by kernel_rfl) (by kernel_rfl)]
  simp only [Program.fieldsOf, Go.Proofs.Try.underlying88]
  refine eqf_cons (a := .int .i64 x0) (b := .int .i64 y0) (by decide) (by kernel_rfl) (by kernel_rfl) (by
    exact run_equalIn_int w _ _ _ _ _ _ Go.Proofs.Try.underlying2) ?_
  refine eqf_cons (a := .int .i64 x1) (b := .int .i64 y1) (by decide) (by kernel_rfl) (by kernel_rfl) (by
    exact run_equalIn_int w _ _ _ _ _ _ Go.Proofs.Try.underlying2) ?_
  refine eqf_cons (a := .int .i64 x2) (b := .int .i64 y2) (by decide) (by kernel_rfl) (by kernel_rfl) (by
    exact run_equalIn_int w _ _ _ _ _ _ Go.Proofs.Try.underlying2) ?_
  exact eqf_nil
theorem eqs88_g (op : BinOp) (x y : Operand) (xs ys : Array Value) (w : World) : (eqGuard op 88 x y (.agg xs) (.agg ys)).run Go.Proofs.Try.prog w = .ok () w := run_eqGuard_agg w op 88 x y xs ys (by kernel_rfl)
theorem eqs88_eql (x0 : Int) (x1 : Int) (x2 : Int) (y0 : Int) (y1 : Int) (y2 : Int) (w : World) : (binOp .eql 88 (.agg #[.int .i64 x0, .int .i64 x1, .int .i64 x2]) (.agg #[.int .i64 y0, .int .i64 y1, .int .i64 y2])).run Go.Proofs.Try.prog w = .ok (.bool (((x0 == y0) && ((x1 == y1) && ((x2 == y2) && true))))) w := by rw [run_eql_struct, eqs88]; rfl
theorem eqs88_neq (x0 : Int) (x1 : Int) (x2 : Int) (y0 : Int) (y1 : Int) (y2 : Int) (w : World) : (binOp .neq 88 (.agg #[.int .i64 x0, .int .i64 x1, .int .i64 x2]) (.agg #[.int .i64 y0, .int .i64 y1, .int .i64 y2])).run Go.Proofs.Try.prog w = .ok (.bool (!((x0 == y0) && ((x1 == y1) && ((x2 == y2) && true))))) w := by rw [run_neq_struct, eqs88]; rfl
end Go.Sh
