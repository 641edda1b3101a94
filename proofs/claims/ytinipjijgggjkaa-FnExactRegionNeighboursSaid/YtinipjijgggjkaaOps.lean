/- The operations of the model, each with what it yields; pure ones in every world. -/
import Derived.Test.YtinipjijgggjkaaCore
namespace Go.Sh
open Go Go.RowKit

abbrev w64 (x : Int) : Int := IntKind.i64.wrap x

def evl (env : List (Nat × Value)) : List Operand → Option (List Value)
  | [] => some []
  | x :: r => match ev env x with
    | none => none
    | some v => match evl env r with
      | none => none
      | some l => some (v :: l)

theorem evl_map {env : List (Nat × Value)} {ρ : Operand → Value} (hρ : Agr env ρ) : ∀ {xs : List Operand} {vs : List Value}, evl env xs = some vs → xs.map ρ = vs
  | [], vs, h => by simp [evl] at h; simp [h]
  | x :: r, vs, h => by
    simp only [evl] at h
    cases hx : ev env x with
    | none => simp [hx] at h
    | some v =>
      cases hr : evl env r with
      | none => simp [hx, hr] at h
      | some l =>
        simp [hx, hr] at h
        subst h
        simp [hρ _ _ hx, evl_map hρ hr]

def evp (env : List (Nat × Value)) : List (Nat × Operand) → Option (List (Nat × Value))
  | [] => some []
  | (i, x) :: r => match ev env x with
    | none => none
    | some v => match evp env r with
      | none => none
      | some l => some ((i, v) :: l)

theorem evp_map {env : List (Nat × Value)} {ρ : Operand → Value} (hρ : Agr env ρ) : ∀ {xs : List (Nat × Operand)} {vs : List (Nat × Value)}, evp env xs = some vs → xs.map (fun p => (p.1, ρ p.2)) = vs
  | [], vs, h => by simp [evp] at h; simp [h]
  | (i, x) :: r, vs, h => by
    simp only [evp] at h
    cases hx : ev env x with
    | none => simp [hx] at h
    | some v =>
      cases hr : evp env r with
      | none => simp [hx, hr] at h
      | some l =>
        simp [hx, hr] at h
        subst h
        simp [hρ _ _ hx, evp_map hρ hr]

theorem run_isAgg {P : Program} {t : TypeId} {u : TypeDesc} (ht : P.underlying t = some u) (w : World) : (isAgg t).run P w = .ok (match u with | .struct _ | .array _ _ => true | _ => false) w := by
  simp only [isAgg, Sem.run_bind, run_underlying ht, Result.andThen_ok]
  cases u <;> simp
theorem run_sizeOf {P : Program} {t : TypeId} {i : TypeInfo} (ht : P.info? t = some i) (w : World) : (sizeOf t).run P w = .ok i.size w := by
  simp [sizeOf, typeInfo, ht]

/-- In every world of the class the operation yields v and leaves the world as it is. -/
def Yl (P : Program) (C : World → Prop) (env : List (Nat × Value)) (o : Oper) (v : Value) : Prop :=
  ∀ ρ, Agr env ρ → ∀ w, C w → (execOp ρ o).run P w = .ok (.value v) w

section
variable {P : Program} {C : World → Prop} {env : List (Nat × Value)} {d : Option Tmp} {ty : TypeId} {ps : String} {af : Array Edge} {gd : Option (Nat × Bool)}

theorem yl_move {x : Operand} {v : Value} (hx : ev env x = some v) : Yl P C env { dst := d, op := .move x, type := ty, pos := ps, after := af, guard := gd } v := by
  intro ρ hρ w _; simp [execOp, hρ x v hx]
theorem yl_assign {x : Operand} {v : Value} (hx : ev env x = some v) : Yl P C env { dst := d, op := .assign x, type := ty, pos := ps, after := af, guard := gd } v := by
  intro ρ hρ w _; simp [execOp, hρ x v hx]
theorem yl_pick {c x y : Operand} {b : Bool} {u v : Value} (hc : ev env c = some (.bool b)) (hx : ev env x = some u) (hy : ev env y = some v) :
    Yl P C env { dst := d, op := .pick c x y, type := ty, pos := ps, after := af, guard := gd } (if b then u else v) := by
  intro ρ hρ w _; simp [execOp, hρ _ _ hc, hρ _ _ hx, hρ _ _ hy, asBool]
theorem yl_pick_true {c x y : Operand} {u : Value} (hc : ev env c = some (.bool true)) (hx : ev env x = some u) :
    Yl P C env { dst := d, op := .pick c x y, type := ty, pos := ps, after := af, guard := gd } u := by
  intro ρ hρ w _; simp [execOp, hρ _ _ hc, hρ _ _ hx, asBool]
theorem yl_pick_false {c x y : Operand} {u : Value} (hc : ev env c = some (.bool false)) (hx : ev env y = some u) :
    Yl P C env { dst := d, op := .pick c x y, type := ty, pos := ps, after := af, guard := gd } u := by
  intro ρ hρ w _; simp [execOp, hρ _ _ hc, hρ _ _ hx, asBool]
theorem yl_add {k : IntKind} {x y : Operand} {t t' : TypeId} {a b : Int} (hx : ev env x = some (.int k a)) (hy : ev env y = some (.int k b)) :
    Yl P C env { dst := d, op := .binOp .add t x y t', type := ty, pos := ps, after := af, guard := gd } (.int k (k.wrap (a + b))) := by
  intro ρ hρ w _; simp [execOp, hρ _ _ hx, hρ _ _ hy, eqGuard, binOp, Op.intArith]
theorem yl_sub {k : IntKind} {x y : Operand} {t t' : TypeId} {a b : Int} (hx : ev env x = some (.int k a)) (hy : ev env y = some (.int k b)) :
    Yl P C env { dst := d, op := .binOp .sub t x y t', type := ty, pos := ps, after := af, guard := gd } (.int k (k.wrap (a - b))) := by
  intro ρ hρ w _; simp [execOp, hρ _ _ hx, hρ _ _ hy, eqGuard, binOp, Op.intArith]
theorem yl_mul {k : IntKind} {x y : Operand} {t t' : TypeId} {a b : Int} (hx : ev env x = some (.int k a)) (hy : ev env y = some (.int k b)) :
    Yl P C env { dst := d, op := .binOp .mul t x y t', type := ty, pos := ps, after := af, guard := gd } (.int k (k.wrap (a * b))) := by
  intro ρ hρ w _; simp [execOp, hρ _ _ hx, hρ _ _ hy, eqGuard, binOp, Op.intArith]
theorem yl_quo {k : IntKind} {x y : Operand} {t t' : TypeId} {a b : Int} (hx : ev env x = some (.int k a)) (hy : ev env y = some (.int k b)) (hb : b ≠ 0) :
    Yl P C env { dst := d, op := .binOp .quo t x y t', type := ty, pos := ps, after := af, guard := gd } (.int k (k.wrap (a.tdiv b))) := by
  intro ρ hρ w _; simp [execOp, hρ _ _ hx, hρ _ _ hy, eqGuard, binOp, Op.intDiv, hb]
theorem yl_rem {k : IntKind} {x y : Operand} {t t' : TypeId} {a b : Int} (hx : ev env x = some (.int k a)) (hy : ev env y = some (.int k b)) (hb : b ≠ 0) :
    Yl P C env { dst := d, op := .binOp .rem t x y t', type := ty, pos := ps, after := af, guard := gd } (.int k (a.tmod b)) := by
  intro ρ hρ w _; simp [execOp, hρ _ _ hx, hρ _ _ hy, eqGuard, binOp, Op.intDiv, hb]
theorem yl_eql {k : IntKind} {x y : Operand} {t t' : TypeId} {a b : Int} (hx : ev env x = some (.int k a)) (hy : ev env y = some (.int k b)) :
    Yl P C env { dst := d, op := .binOp .eql t x y t', type := ty, pos := ps, after := af, guard := gd } (.bool (a == b)) := by
  intro ρ hρ w _; simp [execOp, hρ _ _ hx, hρ _ _ hy, eqGuard, binOp, Op.intCmp]
theorem yl_neq {k : IntKind} {x y : Operand} {t t' : TypeId} {a b : Int} (hx : ev env x = some (.int k a)) (hy : ev env y = some (.int k b)) :
    Yl P C env { dst := d, op := .binOp .neq t x y t', type := ty, pos := ps, after := af, guard := gd } (.bool (a != b)) := by
  intro ρ hρ w _; simp [execOp, hρ _ _ hx, hρ _ _ hy, eqGuard, binOp, Op.intCmp]
theorem yl_lss {k : IntKind} {x y : Operand} {t t' : TypeId} {a b : Int} (hx : ev env x = some (.int k a)) (hy : ev env y = some (.int k b)) :
    Yl P C env { dst := d, op := .binOp .lss t x y t', type := ty, pos := ps, after := af, guard := gd } (.bool (decide (a < b))) := by
  intro ρ hρ w _; simp [execOp, hρ _ _ hx, hρ _ _ hy, eqGuard, binOp, Op.intCmp]
theorem yl_leq {k : IntKind} {x y : Operand} {t t' : TypeId} {a b : Int} (hx : ev env x = some (.int k a)) (hy : ev env y = some (.int k b)) :
    Yl P C env { dst := d, op := .binOp .leq t x y t', type := ty, pos := ps, after := af, guard := gd } (.bool (decide (a ≤ b))) := by
  intro ρ hρ w _; simp [execOp, hρ _ _ hx, hρ _ _ hy, eqGuard, binOp, Op.intCmp]
theorem yl_gtr {k : IntKind} {x y : Operand} {t t' : TypeId} {a b : Int} (hx : ev env x = some (.int k a)) (hy : ev env y = some (.int k b)) :
    Yl P C env { dst := d, op := .binOp .gtr t x y t', type := ty, pos := ps, after := af, guard := gd } (.bool (decide (b < a))) := by
  intro ρ hρ w _; simp [execOp, hρ _ _ hx, hρ _ _ hy, eqGuard, binOp, Op.intCmp]
theorem yl_geq {k : IntKind} {x y : Operand} {t t' : TypeId} {a b : Int} (hx : ev env x = some (.int k a)) (hy : ev env y = some (.int k b)) :
    Yl P C env { dst := d, op := .binOp .geq t x y t', type := ty, pos := ps, after := af, guard := gd } (.bool (decide (b ≤ a))) := by
  intro ρ hρ w _; simp [execOp, hρ _ _ hx, hρ _ _ hy, eqGuard, binOp, Op.intCmp]
theorem yl_beql {x y : Operand} {t t' : TypeId} {a b : Bool} (ht : P.underlying t = some .bool) (hx : ev env x = some (.bool a)) (hy : ev env y = some (.bool b)) :
    Yl P C env { dst := d, op := .binOp .eql t x y t', type := ty, pos := ps, after := af, guard := gd } (.bool (a == b)) := by
  intro ρ hρ w _; simp only [execOp, hρ _ _ hx, hρ _ _ hy, eqGuard, binOp, Sem.run_bind, Sem.run_pure, run_equal_bool w t a b ht, Result.andThen_ok, Bool.not_true, Bool.false_eq_true, if_false]
theorem yl_bneq {x y : Operand} {t t' : TypeId} {a b : Bool} (ht : P.underlying t = some .bool) (hx : ev env x = some (.bool a)) (hy : ev env y = some (.bool b)) :
    Yl P C env { dst := d, op := .binOp .neq t x y t', type := ty, pos := ps, after := af, guard := gd } (.bool (a != b)) := by
  intro ρ hρ w _; simp only [execOp, hρ _ _ hx, hρ _ _ hy, eqGuard, binOp, Sem.run_bind, Sem.run_pure, run_equal_bool w t a b ht, Result.andThen_ok, Bool.not_true, Bool.false_eq_true, if_false]; rfl
theorem yl_seql {x y : Operand} {t t' : TypeId} {a b : ByteArray} (hx : ev env x = some (.string a)) (hy : ev env y = some (.string b)) :
    Yl P C env { dst := d, op := .binOp .eql t x y t', type := ty, pos := ps, after := af, guard := gd } (.bool (a.toList == b.toList)) := by
  intro ρ hρ w _; simp [execOp, hρ _ _ hx, hρ _ _ hy, eqGuard, binOp, Op.stringOp]
theorem yl_sneq {x y : Operand} {t t' : TypeId} {a b : ByteArray} (hx : ev env x = some (.string a)) (hy : ev env y = some (.string b)) :
    Yl P C env { dst := d, op := .binOp .neq t x y t', type := ty, pos := ps, after := af, guard := gd } (.bool (!(a.toList == b.toList))) := by
  intro ρ hρ w _; simp [execOp, hρ _ _ hx, hρ _ _ hy, eqGuard, binOp, Op.stringOp]
theorem yl_neg {k : IntKind} {x : Operand} {t : TypeId} {a : Int} (hx : ev env x = some (.int k a)) :
    Yl P C env { dst := d, op := .unOp .neg t x, type := ty, pos := ps, after := af, guard := gd } (.int k (k.wrap (0 - a))) := by
  intro ρ hρ w _; simp [execOp, hρ _ _ hx, Op.unary, Op.intArith]
theorem yl_not {x : Operand} {t : TypeId} {b : Bool} (hx : ev env x = some (.bool b)) :
    Yl P C env { dst := d, op := .unOp .not t x, type := ty, pos := ps, after := af, guard := gd } (.bool (!b)) := by
  intro ρ hρ w _; simp [execOp, hρ _ _ hx, Op.unary]
theorem yl_conv {k k' : IntKind} {x : Operand} {s t : TypeId} {u : TypeDesc} {a : Int} (hs : P.underlying s = some u) (ht : P.underlying t = some (.int k)) (hx : ev env x = some (.int k' a)) :
    Yl P C env { dst := d, op := .convert s t x, type := ty, pos := ps, after := af, guard := gd } (.int k (k.wrap a)) := by
  intro ρ hρ w _; simp [execOp, hρ _ _ hx, convert, run_underlying hs, run_underlying ht, Conv.intToInt]
theorem yl_extract {x : Operand} {i : Nat} {vs : Array Value} {v : Value} (hx : ev env x = some (.tuple vs)) (hv : vs[i]? = some v) :
    Yl P C env { dst := d, op := .extract x i, type := ty, pos := ps, after := af, guard := gd } v := by
  intro ρ hρ w _; simp [execOp, hρ _ _ hx, Instr.extract, hv]
theorem yl_len_slice {x : Operand} {t e : TypeId} {a : Option Addr} {m c : Nat} (ht : P.underlying t = some (.slice e)) (hx : ev env x = some (.slice a m c)) :
    Yl P C env { dst := d, op := .call { callee := .builtin .len, args := #[x], argTypes := #[t] }, type := ty, pos := ps, after := af, guard := gd } (.int .i64 m) := by
  intro ρ hρ w _; simp [execOp, hρ _ _ hx, resolve, invoke, builtin, Builtin.len_, run_underlying ht, goInt]
theorem yl_len_string {x : Operand} {t : TypeId} {s : ByteArray} (ht : P.underlying t = some .string) (hx : ev env x = some (.string s)) :
    Yl P C env { dst := d, op := .call { callee := .builtin .len, args := #[x], argTypes := #[t] }, type := ty, pos := ps, after := af, guard := gd } (.int .i64 s.size) := by
  intro ρ hρ w _; simp [execOp, hρ _ _ hx, resolve, invoke, builtin, Builtin.len_, run_underlying ht, goInt]
theorem yl_max {x y : Operand} {ts : Array TypeId} {k : IntKind} {a b : Int} (hx : ev env x = some (.int k a)) (hy : ev env y = some (.int k b)) :
    Yl P C env { dst := d, op := .call { callee := .builtin .max, args := #[x, y], argTypes := ts }, type := ty, pos := ps, after := af, guard := gd } (.int k (if a < b then b else a)) := by
  intro ρ hρ w _; simp [execOp, hρ _ _ hx, hρ _ _ hy, resolve, invoke, builtin, Builtin.max_, Builtin.max2]
theorem yl_min {x y : Operand} {ts : Array TypeId} {k : IntKind} {a b : Int} (hx : ev env x = some (.int k a)) (hy : ev env y = some (.int k b)) :
    Yl P C env { dst := d, op := .call { callee := .builtin .min, args := #[x, y], argTypes := ts }, type := ty, pos := ps, after := af, guard := gd } (.int k (if b < a then b else a)) := by
  intro ρ hρ w _; simp [execOp, hρ _ _ hx, hρ _ _ hy, resolve, invoke, builtin, Builtin.min_, Builtin.min2]
theorem yl_func {f : FuncId} {xs : List Operand} {vs : List Value} (h : evl env xs = some vs) :
    Yl P C env { dst := d, op := .makeFunc (.func f) #[] xs.toArray, type := ty, pos := ps, after := af, guard := gd } (.func (.func f) #[] vs.toArray) := by
  intro ρ hρ w _
  simp [execOp, evl_map hρ h, Instr.makeFunc]

/-! #### by a closed run over the values -/
theorem yl_field {x : Operand} {t : TypeId} {i : Nat} {u v : Value} (hx : ev env x = some u) (hf : ∀ w, (Instr.field t u i).run P w = .ok v w) :
    Yl P C env { dst := d, op := .field t x i, type := ty, pos := ps, after := af, guard := gd } v := by
  intro ρ hρ w _
  simp [execOp, hρ _ _ hx, hf]
theorem yl_build {t : TypeId} {qs : List (Nat × Operand)} {vs : List (Nat × Value)} {v : Value} (hx : evp env qs = some vs) (hf : ∀ w, (Instr.build t vs.toArray).run P w = .ok v w) :
    Yl P C env { dst := d, op := .build t qs.toArray, type := ty, pos := ps, after := af, guard := gd } v := by
  intro ρ hρ w _
  simp [execOp, evp_map hρ hx, hf]
theorem yl_fieldAddr {x : Operand} {t : TypeId} {i : Nat} {u v : Value} (hx : ev env x = some u) (hf : ∀ w, (Instr.fieldAt t u i).run P w = .ok v w) :
    Yl P C env { dst := d, op := .fieldAddr t x i, type := ty, pos := ps, after := af, guard := gd } v := by
  intro ρ hρ w _
  simp [execOp, hρ _ _ hx, hf]
theorem yl_nilCheck {x : Operand} {a : Addr} (hx : ev env x = some (.pointer (some a))) :
    Yl P C env { dst := d, op := .nilCheck x, type := ty, pos := ps, after := af, guard := gd } (.pointer (some a)) := by
  intro ρ hρ w _
  simp [execOp, hρ _ _ hx]
theorem yl_conv_of {x : Operand} {s t : TypeId} {u v : Value} (hx : ev env x = some u) (hf : ∀ w, C w → (convert s t u).run P w = .ok v w) :
    Yl P C env { dst := d, op := .convert s t x, type := ty, pos := ps, after := af, guard := gd } v := by
  intro ρ hρ w hC
  simp [execOp, hρ _ _ hx, hf w hC]
theorem yl_index_of {x y : Operand} {t : TypeId} {u i v : Value} (hx : ev env x = some u) (hy : ev env y = some i) (hf : ∀ w, (Instr.index t u i).run P w = .ok v w) :
    Yl P C env { dst := d, op := .index t x y, type := ty, pos := ps, after := af, guard := gd } v := by
  intro ρ hρ w _
  simp [execOp, hρ _ _ hx, hρ _ _ hy, hf]
theorem yl_binop_of {x y : Operand} {b : BinOp} {t t' : TypeId} {u i v : Value} (hx : ev env x = some u) (hy : ev env y = some i)
    (hg : ∀ w, (eqGuard b t x y u i).run P w = .ok () w) (hf : ∀ w, (binOp b t u i).run P w = .ok v w) :
    Yl P C env { dst := d, op := .binOp b t x y t', type := ty, pos := ps, after := af, guard := gd } v := by
  intro ρ hρ w _
  simp [execOp, hρ _ _ hx, hρ _ _ hy, hg, hf]

/-! #### indexes -/
/-- The address of a cell of a slice. -/
def ptrAt (a : Option Addr) (j : Nat) : Value := match a with
  | some ad => .pointer (some (ad.add j))
  | none => undef

theorem yl_indexAddr {x y : Operand} {t e : TypeId} {ti : TypeInfo} {k : IntKind} {a : Option Addr} {n c : Nat} {i : Int} (ht : P.underlying t = some (.slice e)) (hi : P.info? e = some ti)
    (hx : ev env x = some (.slice a n c)) (hy : ev env y = some (.int k i)) (ha : a.isSome = true) (h0 : 0 ≤ i) (hn : i < n) :
    Yl P C env { dst := d, op := .indexAddr t x y, type := ty, pos := ps, after := af, guard := gd } (ptrAt a (i.toNat * ti.size)) := by
  intro ρ hρ w _
  cases a with
  | none => cases ha
  | some ad => simp [execOp, hρ _ _ hx, hρ _ _ hy, Instr.indexAt, asIntOf, run_underlying ht, run_sizeOf hi, h0, hn, ptrAt]

theorem yl_index_string {x y : Operand} {t : TypeId} {k : IntKind} {s : ByteArray} {i : Int} {b : UInt8} (ht : P.underlying t = some .string)
    (hx : ev env x = some (.string s)) (hy : ev env y = some (.int k i)) (h0 : 0 ≤ i) (hb : s[i.toNat]? = some b) :
    Yl P C env { dst := d, op := .index t x y, type := ty, pos := ps, after := af, guard := gd } (.int .u8 b.toNat) := by
  intro ρ hρ w _
  simp [execOp, hρ _ _ hx, hρ _ _ hy, Instr.index, asIntOf, run_underlying ht, h0, hb]

/-! #### loads -/
/-- The cells behind an address read as told. -/
def Rd (w : World) (a : Option Addr) (cs : List Value) : Prop := ∀ (j : Nat) u, cs[j]? = some u → ∃ ad, a = some ad ∧ w.cell? (ad.add j) = some u

theorem Rd.some {w : World} {a : Option Addr} {cs : List Value} (h : Rd w a cs) {j : Nat} {u : Value} (hj : cs[j]? = .some u) : a.isSome = true := by
  obtain ⟨ad, rfl, _⟩ := h j u hj; rfl
theorem Rd.bw {w w' : World} {a : Option Addr} {cs : List Value} (h : Rd w a cs) (hb : Bw [] w w') : Rd w' a cs := fun j u hj =>
  let ⟨ad, ha, hc⟩ := h j u hj
  ⟨ad, ha, hb.cell hc⟩

theorem run_loadVar1 {t : TypeId} {u : TypeDesc} (ht : P.underlying t = some u) (hn : (match u with | .struct _ | .array _ _ => true | _ => false) = false) {a : Addr} {w : World} {v : Value} (hc : w.cell? a = some v) :
    (loadVar t a).run P w = .ok v w := by
  simp [loadVar, Sem.run_bind, run_isAgg ht, hn, load, Sem.run, hc]

theorem yl_load1 {x : Operand} {t : TypeId} {u : TypeDesc} {a : Option Addr} {j : Nat} {cs : List Value} {v : Value} (ht : P.underlying t = some u) (hn : (match u with | .struct _ | .array _ _ => true | _ => false) = false)
    (hx : ev env x = some (ptrAt a j)) (hC : ∀ w, C w → Rd w a cs) (hv : cs[j]? = some v) :
    Yl P C env { dst := d, op := .load t x, type := ty, pos := ps, after := af, guard := gd } v := by
  intro ρ hρ w hw
  obtain ⟨ad, rfl, hc⟩ := hC w hw j v hv
  simp [execOp, hρ _ _ hx, Instr.loadAt, ptrAt, Instr.sureAddr, run_loadVar1 ht hn hc]

theorem run_loadCellsFrom {a : Addr} {w : World} : ∀ (vs : List Value) (i : Nat) (acc : Array Value), (∀ (j : Nat) u, vs[j]? = some u → w.cell? (a.add (i + j)) = some u) →
    (loadCellsFrom a i vs.length acc).run P w = .ok (acc ++ vs.toArray) w
  | [], i, acc, _ => by simp [loadCellsFrom]
  | v :: vs, i, acc, h => by
    have h0 := h 0 v (by simp)
    simp only [Nat.add_zero] at h0
    simp only [List.length_cons, loadCellsFrom, Sem.run_bind, load, Sem.run, h0, Result.andThen_ok]
    rw [run_loadCellsFrom vs (i + 1) (acc.push v) (fun j u hj => by have := h (j + 1) u (by simpa using hj); rwa [show i + (j + 1) = i + 1 + j by omega] at this)]
    simp

theorem run_loadVarn {t : TypeId} {u : TypeDesc} {ti : TypeInfo} (ht : P.underlying t = some u) (hn : (match u with | .struct _ | .array _ _ => true | _ => false) = true) (hi : P.info? t = some ti) {a : Addr} {w : World} {vs : List Value}
    (hl : vs.length = ti.size) (hc : ∀ (j : Nat) u, vs[j]? = some u → w.cell? (a.add j) = some u) : (loadVar t a).run P w = .ok (.agg vs.toArray) w := by
  have := run_loadCellsFrom (P := P) (a := a) (w := w) vs 0 #[] (fun j u hj => by simpa using hc j u hj)
  simp only [loadVar, Sem.run_bind, run_isAgg ht, hn, Result.andThen_ok, if_true, run_sizeOf hi, loadCells, ← hl, this]
  simp

theorem Addr.add_add (a : Addr) (i j : Nat) : (a.add i).add j = a.add (i + j) := by
  unfold Addr.add
  by_cases hi : i = 0 <;> by_cases hj : j = 0 <;> simp [hi, hj, Nat.add_assoc]

theorem yl_loadn {x : Operand} {t : TypeId} {u : TypeDesc} {ti : TypeInfo} {a : Option Addr} {j : Nat} {cs vs : List Value} (ht : P.underlying t = some u) (hn : (match u with | .struct _ | .array _ _ => true | _ => false) = true)
    (hi : P.info? t = some ti) (hx : ev env x = some (ptrAt a j)) (hC : ∀ w, C w → Rd w a cs) (hv : (cs.drop j).take ti.size = vs) (hl : vs.length = ti.size) (h0 : 0 < ti.size) :
    Yl P C env { dst := d, op := .load t x, type := ty, pos := ps, after := af, guard := gd } (.agg vs.toArray) := by
  intro ρ hρ w hw
  have hget : ∀ (i : Nat) u, vs[i]? = some u → cs[j + i]? = some u := fun i u hiu => by
    rw [← hv, List.getElem?_take] at hiu
    split at hiu
    · simpa using hiu
    · cases hiu
  have hR := hC w hw
  obtain ⟨u0, hu0⟩ : ∃ u0, vs[0]? = some u0 := ⟨_, List.getElem?_eq_getElem (by omega)⟩
  obtain ⟨ad, rfl, _⟩ := hR _ _ (hget 0 u0 hu0)
  have hc : ∀ (i : Nat) u, vs[i]? = some u → w.cell? ((ad.add j).add i) = some u := fun i u hiu => by
    obtain ⟨ad', he, hc⟩ := hR _ _ (hget i u hiu)
    cases he
    rw [Addr.add_add]
    exact hc
  simp [execOp, hρ _ _ hx, Instr.loadAt, ptrAt, Instr.sureAddr, run_loadVarn ht hn hi hl hc]

end
end Go.Sh
