/- Small rules that the printed proofs use. -/
import Derived.Test.YtinipjijgggjkaaDrawn
namespace Go.Sh
open Go Go.RowKit

section
variable {P : Program} {w0 : World} {M : List Nat} {n : Nat} {ops : Array Oper} {E : Act → World → Prop} {Q : Exit → Act → World → Prop} {env : List (Nat × Value)} {es : List Own} {rest : List Oper}
  {wr : World} {L : List Nat} {s : Bool} {l : List (Nat × Kd)} {c : Code} {id id' : Nat}

theorem JL.set {d : Nat} {v : Value} (hv : lk env d = some v) (k : JL P w0 M n ops E Q ((d, v) :: env) es rest) : JL P w0 M n ops E Q env es rest := fun a w h => k a w (h.set hv)
theorem JE.set {d : Nat} {v : Value} (hv : lk env d = some v) (k : JE w0 M n E ((d, v) :: env) es) : JE w0 M n E env es := fun a w h => k a w (h.set hv)
theorem JX.set {d : Nat} {v : Value} (hv : lk env d = some v) (k : JX P w0 M n E Q ((d, v) :: env) es c) : JX P w0 M n E Q env es c := fun a w h => k a w (h.set hv)

theorem JL.nilrow {T : Type} (F : Nat) (e : Enc T) (k : JL P w0 M n ops E Q env (es ++ [rowT F e none 0 0 []]) rest) : JL P w0 M n ops E Q env es rest := fun a w h => k a w (h.nilrow F e)
theorem JE.nilrow {T : Type} (F : Nat) (e : Enc T) (k : JE w0 M n E env (es ++ [rowT F e none 0 0 []])) : JE w0 M n E env es := fun a w h => k a w (h.nilrow F e)
theorem JX.nilrow {T : Type} (F : Nat) (e : Enc T) (k : JX P w0 M n E Q env (es ++ [rowT F e none 0 0 []]) c) : JX P w0 M n E Q env es c := fun a w h => k a w (h.nilrow F e)

theorem JE.qb (h : Nat.beq id' id = true) (k : JE w0 M n E env es) : JE w0 M n (QB id E Q (.exit id')) env es := fun a w hS => by
  show match Nat.beq id' id with | true => E a w | false => Q (.exit id') a w
  rw [h]
  exact k a w hS
theorem JE.qbn (h : Nat.beq id' id = false) (k : JE w0 M n (Q (.exit id')) env es) : JE w0 M n (QB id E Q (.exit id')) env es := fun a w hS => by
  show match Nat.beq id' id with | true => E a w | false => Q (.exit id') a w
  rw [h]
  exact k a w hS
theorem JE.qbr (k : JE w0 M n (Q .ret) env es) : JE w0 M n (QB id E Q .ret) env es := k

theorem JX.condT {cnd : Operand} {b : Bool} {x y : Code} (hc : ev env cnd = some (.bool b)) (hb : b = true) (k : JX P w0 M n E Q env es x) : JX P w0 M n E Q env es (.cond cnd x y) :=
  JX.cond hc (fun _ => k) (fun h => by rw [hb] at h; cases h)
theorem JX.condF {cnd : Operand} {b : Bool} {x y : Code} (hc : ev env cnd = some (.bool b)) (hb : b = false) (k : JX P w0 M n E Q env es y) : JX P w0 M n E Q env es (.cond cnd x y) :=
  JX.cond hc (fun h => by rw [hb] at h; cases h) (fun _ => k)

theorem JL.cut {K : (List (Nat × Value) → List Own → Prop) → Prop} (m : Nat) (h1 : K (fun env' es' => JL P w0 M n ops E Q env' es' (rest.drop m))) (h2 : K (fun env' es' => JL P w0 M n ops E Q env' es' (rest.drop m)) → JL P w0 M n ops E Q env es rest) :
    JL P w0 M n ops E Q env es rest := h2 h1
theorem JX.cut {K : (List (Nat × Value) → List Own → Prop) → Prop} (h1 : K (fun env' es' => JE w0 M n E env' es')) (h2 : K (fun env' es' => JE w0 M n E env' es') → JX P w0 M n E Q env es c) : JX P w0 M n E Q env es c := h2 h1

theorem JE.cont {σ ρ : Type} {I : σ → Act → World → Prop} {s' : σ} {o : σ ⊕ ρ} (h : some (Sum.inl s') = some o) (k : JE w0 M n (I s') env es) : JE w0 M n (fun a w => ∃ s', o = .inl s' ∧ I s' a w) env es := fun a w hS =>
  ⟨s', (Option.some.inj h).symm, k a w hS⟩
end

theorem cond_some {α : Type} {b : Bool} {x y : Option α} {r : α} (h : cond b x y = some r) : (b = true ∧ x = some r) ∨ (b = false ∧ y = some r) := by
  cases b
  · exact .inr ⟨rfl, h⟩
  · exact .inl ⟨rfl, h⟩

/-- The end of a loop: a way on, or a result. -/
def elimS {β R X : Type} (y : β ⊕ R) (kr : R → Option X) (k : β → Option X) : Option X := match y with
  | .inl b => k b
  | .inr r => kr r
theorem elimS_inl {β R X : Type} {y : β ⊕ R} {b : β} {kr : R → Option X} {k : β → Option X} {r : X} (h : elimS y kr k = some r) (hy : Sum.inl b = y) : k b = some r := by subst hy; exact h
theorem elimS_inr {β R X : Type} {y : β ⊕ R} {x : R} {kr : R → Option X} {k : β → Option X} {r : X} (h : elimS y kr k = some r) (hy : Sum.inr x = y) : kr x = some r := by subst hy; exact h

/-! ### a callee that writes into its first owned argument -/
def RetM (w : World) (M : List Nat) (T : Value → Own → List Own → Prop) (e : Ending) (w' : World) : Prop := ∃ v e' rs, T v e' rs ∧ e = .returned v ∧ Bw M w w' ∧ Sep w.heap.size M w' (e' :: rs)

theorem Sep.one {w : World} {e : Own} {fp : List Nat} (h : e.p w fp) (hb : ∀ b ∈ fp, b < w.heap.size) : Sep w.heap.size fp w [e] :=
  ⟨fun _ => fp, fun i x hi => by
    cases i with
    | zero => simp at hi; subst hi; exact ⟨h, fun b hm => ⟨.inr hm, hb b hm⟩⟩
    | succ i => simp at hi, fun i j hi hj hij => by simp at hi hj; omega⟩

theorem Sep.callm {B : Nat} {M : List Nat} {w : World} {es : List Own} {i : Nat} {e : Own} (h : Sep B M w es) (hB : B ≤ w.heap.size) (hi : es[i]? = some e) :
    ∃ fp, e.p w fp ∧ (∀ b ∈ fp, (B ≤ b ∨ b ∈ M) ∧ b < w.heap.size) ∧ ∀ (w' : World) (e' : Own) (rs : List Own), Bw fp w w' → Sep w.heap.size fp w' (e' :: rs) → Sep B M w' (es.set i e' ++ rs) := by
  obtain ⟨f, h1, h2⟩ := h
  have hil : i < es.length := (List.getElem?_eq_some_iff.1 hi).1
  refine ⟨f i, (h1 i e hi).1, (h1 i e hi).2, fun w' e' rs hb hs => ?_⟩
  obtain ⟨fq, k1, k2⟩ := hs
  have old : ∀ j, j < es.length → ∀ b ∈ f j, b < w.heap.size ∧ (B ≤ b ∨ b ∈ M) := fun j hj b hm =>
    let h := (h1 j _ (List.getElem?_eq_getElem hj)).2 b hm
    ⟨h.2, h.1⟩
  have new : ∀ j, j < rs.length + 1 → ∀ b ∈ fq j, (w.heap.size ≤ b ∨ b ∈ f i) ∧ b < w'.heap.size := fun j hj b hm =>
    (k1 j _ (List.getElem?_eq_getElem (by simpa using hj))).2 b hm
  have apart : ∀ j k, j < es.length → j ≠ i → k < rs.length + 1 → ∀ b, b ∈ f j → b ∈ fq k → False := fun j k hj hji hk b hbj hbk => by
    have a1 := (old j hj b hbj).1
    rcases (new k hk b hbk).1 with h | h
    · omega
    · exact h2 j i hj hil hji b hbj h
  refine ⟨fun j => if j < es.length then (if j = i then fq 0 else f j) else fq (j - es.length + 1), fun j x hj => ?_, fun j k hj hk hjk b hbj hbk => ?_⟩
  · by_cases hjl : j < es.length
    · rw [List.getElem?_append_left (by simpa using hjl)] at hj
      simp only [if_pos hjl]
      by_cases hji : j = i
      · subst hji
        rw [List.getElem?_set_self hjl] at hj
        cases hj
        simp only [if_true]
        exact ⟨(k1 0 e' (by simp)).1, fun b hm => ⟨(new 0 (by omega) b hm).1.elim (fun h => .inl (Nat.le_trans hB h)) (fun h => (old j hjl b h).2), (new 0 (by omega) b hm).2⟩⟩
      · rw [List.getElem?_set_ne (Ne.symm hji)] at hj
        simp only [if_neg hji]
        obtain ⟨hp, hbd⟩ := h1 j x hj
        exact ⟨x.loc w w' _ hp fun b hm => hb.block b (hbd b hm).2 (fun hx => h2 j i hjl hil hji b hm hx), fun b hm => ⟨(hbd b hm).1, Nat.lt_of_lt_of_le (hbd b hm).2 hb.size⟩⟩
    · rw [List.getElem?_append_right (by simpa using Nat.le_of_not_lt hjl)] at hj
      simp only [List.length_set] at hj
      simp only [if_neg hjl]
      obtain ⟨hp, hbd⟩ := k1 (j - es.length + 1) x (by simpa using hj)
      exact ⟨hp, fun b hm => ⟨(hbd b hm).1.elim (fun h => .inl (Nat.le_trans hB h)) (fun h => (old i hil b h).2), (hbd b hm).2⟩⟩
  · simp only [List.length_append, List.length_set] at hj hk
    by_cases hjl : j < es.length <;> by_cases hkl : k < es.length
    · simp only [if_pos hjl] at hbj
      simp only [if_pos hkl] at hbk
      by_cases hji : j = i <;> by_cases hki : k = i
      · omega
      · simp only [if_pos hji] at hbj
        simp only [if_neg hki] at hbk
        exact apart k 0 hkl hki (by omega) b hbk hbj
      · simp only [if_neg hji] at hbj
        simp only [if_pos hki] at hbk
        exact apart j 0 hjl hji (by omega) b hbj hbk
      · simp only [if_neg hji] at hbj
        simp only [if_neg hki] at hbk
        exact h2 j k hjl hkl hjk b hbj hbk
    · simp only [if_pos hjl] at hbj
      simp only [if_neg hkl] at hbk
      by_cases hji : j = i
      · simp only [if_pos hji] at hbj
        exact k2 0 (k - es.length + 1) (by simp) (by simp; omega) (by omega) b hbj hbk
      · simp only [if_neg hji] at hbj
        exact apart j _ hjl hji (by omega) b hbj hbk
    · simp only [if_neg hjl] at hbj
      simp only [if_pos hkl] at hbk
      by_cases hki : k = i
      · simp only [if_pos hki] at hbk
        exact k2 (j - es.length + 1) 0 (by simp; omega) (by simp) (by omega) b hbj hbk
      · simp only [if_neg hki] at hbk
        exact apart k _ hkl hki (by omega) b hbk hbj
    · simp only [if_neg hjl] at hbj
      simp only [if_neg hkl] at hbk
      exact k2 _ _ (by simp; omega) (by simp; omega) (by omega) b hbj hbk

section
variable {P : Program} {w0 : World} {M : List Nat} {env : List (Nat × Value)} {es : List Own} {d : Option Tmp} {ty : TypeId} {ps : String} {af : Array Edge} {gd : Option (Nat × Bool)}
theorem ef_callm {f : FuncId} {fn : Func} {xs : List Operand} {ts : Array TypeId} {vs : List Value} {T : Value → Own → List Own → Prop} (i : Nat) {e : Own} (hf : P.funcs[f]? = some fn) (hb : fn.body.isNone = false) (hn : (fn.name == "runtime.NumGoroutine") = false)
    (hx : evl env xs = some vs) (he : es[i]? = some e) (hc : ∀ w fp, Sep w.heap.size fp w [e] → Calls P f vs.toArray w (RetM w fp T)) :
    Ef P w0 M es env { dst := d, op := .call { callee := .value (.func f), args := xs.toArray, argTypes := ts }, type := ty, pos := ps, after := af, guard := gd } false
      (fun v es' => ∃ e' rs, T v e' rs ∧ es' = es.set i e' ++ rs) := by
  intro ρ hρ w hC
  have hb' : fn.body ≠ none := fun h => by simp [h] at hb
  have hn' : fn.name ≠ "runtime.NumGoroutine" := by simpa using hn
  have hfv : ρ (.func f) = .func (.func f) #[] #[] := hρ _ _ rfl
  have hr2 : (execOp ρ { dst := d, op := .call { callee := .value (.func f), args := xs.toArray, argTypes := ts }, type := ty, pos := ps, after := af, guard := gd }).run P w = .ok (.enter f vs.toArray) w := by
    simp [execOp, hfv, resolve, Deferred.ofValue, invoke, callFunc, evl_map hρ hx, program, Sem.run, hf, hb', hn']
  rw [hr2]
  obtain ⟨fp, hp, hbd, hup⟩ := hC.2.callm hC.1.size he
  refine ⟨rfl, (hc w fp (Sep.one hp fun b hm => (hbd b hm).2)).mono fun e2 w' h => ?_⟩
  obtain ⟨v, e', rs, hT, rfl, hbw, hsep⟩ := h
  exact ⟨v, rfl, _, ⟨_, _, hT, rfl⟩, hC.1.trans hbw (fun b hm => (hbd b hm).1), hup w' e' rs hbw hsep, fun h => by cases h⟩
end

/-! ### strings -/
section
variable {P : Program} {C : World → Prop} {env : List (Nat × Value)} {d : Option Tmp} {ty : TypeId} {ps : String} {af : Array Edge} {gd : Option (Nat × Bool)}
theorem yl_catS {x y : Operand} {t t' : TypeId} {a b z : ByteArray} (hx : ev env x = some (.string a)) (hy : ev env y = some (.string b)) (hz : catS a b = some z) :
    Yl P C env { dst := d, op := .binOp .add t x y t', type := ty, pos := ps, after := af, guard := gd } (.string z) := by
  obtain ⟨hl, rfl⟩ := catS_some hz
  intro ρ hρ w _
  have hm : ¬ (((a.size + b.size : Nat) : Int) > IntKind.i64.max) := by
    have : IntKind.i64.max = 9223372036854775807 := rfl
    omega
  simp only [execOp, hρ _ _ hx, hρ _ _ hy, eqGuard, binOp, Op.stringOp, if_neg hm, Sem.run_bind, Sem.run_pure, Result.andThen_ok, Bool.not_false, if_true]
theorem yl_getS {x y : Operand} {t : TypeId} {k : IntKind} {s : ByteArray} {i z : Int} (ht : P.underlying t = some .string) (hx : ev env x = some (.string s)) (hy : ev env y = some (.int k i)) (hz : getS s i = some z) :
    Yl P C env { dst := d, op := .index t x y, type := ty, pos := ps, after := af, guard := gd } (.int .u8 z) := by
  unfold getS at hz
  split at hz
  · rename_i h0
    cases hb : s[i.toNat]? with
    | none => simp [hb] at hz
    | some b =>
      simp [hb] at hz
      subst hz
      exact yl_index_string ht hx hy h0 hb
  · cases hz
end

/-! ### more operations -/
def nzI (b : Int) : Option Int := if b = 0 then none else some b
theorem nzI_some {b x : Int} (h : nzI b = some x) : b ≠ 0 := by
  unfold nzI at h
  split at h
  · cases h
  · assumption

theorem takeL_some {T : Type} {xs zs : List T} {n : Int} (h : takeL xs n = some zs) : 0 ≤ n ∧ n ≤ xs.length ∧ zs = xs.take n.toNat := by
  unfold takeL at h
  split at h
  · rename_i hc
    exact ⟨hc.1, hc.2, (Option.some.inj h).symm⟩
  · cases h
theorem dropL_some {T : Type} {xs zs : List T} {n : Int} (h : dropL xs n = some zs) : 0 ≤ n ∧ n ≤ xs.length ∧ zs = xs.drop n.toNat := by
  unfold dropL at h
  split at h
  · rename_i hc
    exact ⟨hc.1, hc.2, (Option.some.inj h).symm⟩
  · cases h

theorem ln_row {w0 : World} {M : List Nat} {es : List Own} {w : World} (h : Cl w0 M es w) (i : Nat) {E k : Nat} {a : Option Addr} {n c : Nat} {xs : List Value} (hi : es[i]? = some (rowO E k a n c xs)) : n ≤ c :=
  let ⟨_, hp, _⟩ := h.2.get hi
  hp.2.1

theorem St.takeT {w0 : World} {M : List Nat} {n : Nat} {env : List (Nat × Value)} {es : List Own} {a : Act} {w : World} (h : St w0 M n env es a w) {T : Type} {i E m c : Nat} {e : Enc T} {ad : Option Addr} {xs zs : List T} {z : Int}
    (hz : takeL xs z = some zs) (he : es[i]? = some (rowT E e ad m c xs)) : St w0 M n env (es.set i (rowT E e ad zs.length c zs)) a w := by
  obtain ⟨h0, h1, rfl⟩ := takeL_some hz
  obtain ⟨fp, hp, hbd, hup⟩ := h.sep.upd h.bw.size he
  refine ⟨h.env, h.bw, hup w _ fp ?_ (Nat.le_refl _) (fun _ _ _ => rfl) (fun b hb => ⟨.inl hb, (hbd b hb).2⟩)⟩
  obtain ⟨hl, hc, hr⟩ := hp
  have hxm : xs.length = m := by
    rw [Enc.fl_length] at hl
    exact Nat.eq_of_mul_eq_mul_right e.pos hl
  have hlen : (xs.take z.toNat).length = z.toNat := by rw [List.length_take]; omega
  refine ⟨by rw [Enc.fl_length], by omega, ?_⟩
  rcases hr with h | ⟨g, cur, h1', h2, h3, h4, h5, h6⟩
  · exact .inl h
  · refine .inr ⟨g, cur, h1', h2, h3, h4, h5, ?_⟩
    rw [hlen, ← Enc.fl_take, ← h6, List.take_take]
    congr 1
    have : z.toNat * e.k ≤ m * e.k := Nat.mul_le_mul_right _ (by omega)
    omega

section
variable {P : Program} {w0 : World} {M : List Nat} {n : Nat} {ops : Array Oper} {E : Act → World → Prop} {Q : Exit → Act → World → Prop} {env : List (Nat × Value)} {es : List Own} {rest : List Oper}
  {wr : World} {L : List Nat} {s : Bool} {l : List (Nat × Kd)} {c : Code} {id id' : Nat}
theorem JL.takeT (i : Nat) {T : Type} {F m c : Nat} {e : Enc T} {ad : Option Addr} {xs zs : List T} {z : Int} (hz : takeL xs z = some zs) (he : es[i]? = some (rowT F e ad m c xs))
    (k : JL P w0 M n ops E Q env (es.set i (rowT F e ad zs.length c zs)) rest) : JL P w0 M n ops E Q env es rest := fun a w h => k a w (h.takeT hz he)
end

section
variable {P : Program} {C : World → Prop} {env : List (Nat × Value)} {d : Option Tmp} {ty : TypeId} {ps : String} {af : Array Edge} {gd : Option (Nat × Bool)} {T : Type} {e : Enc T}

theorem yl_takeT {x y : Operand} {t E : TypeId} {k : IntKind} {a : Option Addr} {n c : Nat} {i : Int} {xs zs : List T} (ht : P.underlying t = some (.slice E)) {ti : TypeInfo} (hi : P.info? E = some ti)
    (hx : ev env x = some (.slice a n c)) (hy : ev env y = some (.int k i)) (hz : takeL xs i = some zs) (hn : xs.length = n) (hC : ∀ w, C w → n ≤ c) :
    Yl P C env { dst := d, op := .slice t x none (some y) none, type := ty, pos := ps, after := af, guard := gd } (.slice a zs.length c) := by
  obtain ⟨h0, h1, rfl⟩ := takeL_some hz
  intro ρ hρ w hw
  have hc := hC w hw
  have hle : i ≤ c := by omega
  have hlen : (xs.take i.toNat).length = i.toNat := by rw [List.length_take]; omega
  have ha : a.map (·.add 0) = a := by cases a <;> simp [Addr.add]
  rw [hlen]
  simp [execOp, hρ _ _ hx, hρ _ _ hy, Instr.sliceAt, Instr.slice, Instr.sliceBounds, Instr.sliceBound, asIntOf, run_underlying ht, run_sizeOf hi, h0, hle, ha]

theorem yl_fieldAtT {x : Operand} {t : TypeId} {i j : Nat} {a : Option Addr} {fs : Array Field} {f : Field} {ti : TypeInfo} {xs : List T} {z : T} {q : Int} (ht : P.underlying t = some (.struct fs)) (hf : fs[i]? = some f) (hi : P.info? f.type = some ti) (h0 : ti.size ≠ 0)
    (hx : ev env x = some (ptrAt a j)) (hz : getI xs q = some z) (hC : ∀ w, C w → Rd w a (e.fl xs)) :
    Yl P C env { dst := d, op := .fieldAddr t x i, type := ty, pos := ps, after := af, guard := gd } (ptrAt a (j + f.offset)) := by
  intro ρ hρ w hw
  exact yl_fieldAt (C := C) (d := d) (ty := ty) (ps := ps) (af := af) (gd := gd) ht hf hi h0 hx (RdT.some (hC w hw) (getI_some hz).2.2) ρ hρ w hw
theorem yl_nilCheckT {x : Operand} {j : Nat} {a : Option Addr} {xs : List T} {z : T} {q : Int} (hx : ev env x = some (ptrAt a j)) (hz : getI xs q = some z) (hC : ∀ w, C w → Rd w a (e.fl xs)) :
    Yl P C env { dst := d, op := .nilCheck x, type := ty, pos := ps, after := af, guard := gd } (ptrAt a j) := by
  intro ρ hρ w hw
  exact yl_nilCheckAt (C := C) (d := d) (ty := ty) (ps := ps) (af := af) (gd := gd) hx (RdT.some (hC w hw) (getI_some hz).2.2) ρ hρ w hw

theorem yl_max3 {x y z : Operand} {ts : Array TypeId} {k : IntKind} {a b c : Int} (hx : ev env x = some (.int k a)) (hy : ev env y = some (.int k b)) (hz : ev env z = some (.int k c)) :
    Yl P C env { dst := d, op := .call { callee := .builtin .max, args := #[x, y, z], argTypes := ts }, type := ty, pos := ps, after := af, guard := gd } (.int k (if (if a < b then b else a) < c then c else (if a < b then b else a))) := by
  intro ρ hρ w _; simp [execOp, hρ _ _ hx, hρ _ _ hy, hρ _ _ hz, resolve, invoke, builtin, Builtin.max_, Builtin.max2]

theorem rv_box {env : List (Nat × Value)} {w0 : World} {M : List Nat} {es : List Own} (i : Nat) {a t g E : Nat} {us : List Value} {u : TypeDesc} {ti : TypeInfo} (ha : lk env a = some (ptrAt (some ⟨g, 0, none⟩) 0)) (he : es[i]? = some (boxO E g us))
    (ht : P.underlying t = some u) (hn : (match u with | .struct _ | .array _ _ => true | _ => false) = true) (hi : P.info? t = some ti) (hl : us.length = ti.size) :
    ∃ ad, lk env a = some (.pointer (some ad)) ∧ ∀ w, Cl w0 M es w → (loadVar t ad).run P w = .ok (.agg us.toArray) w :=
  ⟨⟨g, 0, none⟩, ha, fun w hC => run_loadVarn ht hn hi hl fun j u hj => by
    obtain ⟨ad, h1, h2⟩ := rd_box hC i he j u hj
    cases h1
    exact h2⟩
end

/-! ### addresses -/
section
variable {P : Program} {env : List (Nat × Value)} {d : Option Tmp} {ty : TypeId} {ps : String} {af : Array Edge} {gd : Option (Nat × Bool)} {C : World → Prop} {T : Type} {e : Enc T}
theorem RdT.pos {w : World} {a : Option Addr} {xs : List T} (h : Rd w a (e.fl xs)) (h0 : 0 < xs.length) : a.isSome = true :=
  RdT.some h (List.getElem?_eq_getElem h0)
theorem yl_idxQ {x y : Operand} {t E : TypeId} {ti : TypeInfo} {k : IntKind} {a : Option Addr} {n c : Nat} {i : Int} {xs ys : List T} {z : T} (ht : P.underlying t = some (.slice E)) (hi : P.info? E = some ti) (hk : ti.size = e.k)
    (hx : ev env x = some (.slice a n c)) (hy : ev env y = some (.int k i)) (hz : getI ys i = some z) (hn : ys.length = n) {w : World} (hR : Rd w a (e.fl xs)) (hn0 : xs.length = n) :
    Yl P C env { dst := d, op := .indexAddr t x y, type := ty, pos := ps, after := af, guard := gd } (ptrAt a (i.toNat * e.k)) := by
  obtain ⟨h1, h2, h3⟩ := getI_some hz
  have := yl_indexAddr (C := C) (d := d) (ty := ty) (ps := ps) (af := af) (gd := gd) ht hi hx hy (RdT.pos hR (by omega)) h1 (by omega)
  rwa [hk] at this
theorem RdT.someQ {w : World} {a : Option Addr} {xs ys : List T} {z : T} {q : Int} (h : Rd w a (e.fl xs)) (hz : getI ys q = Option.some z) {n : Nat} (hn : ys.length = n) (hn0 : xs.length = n) : a.isSome = true :=
  RdT.pos h (by have := getI_some hz; omega)
end

/-! ### made rows of structs -/
section
variable {P : Program} {w0 : World} {M : List Nat} {env : List (Nat × Value)} {es : List Own} {d : Option Tmp} {ty : TypeId} {ps : String} {af : Array Edge} {gd : Option (Nat × Bool)} {T : Type} {e : Enc T}
theorem madeCells_fl {z : Array Value} {u : T} (hz : z.toList = e.f u) (n : Nat) : (madeCells z (n * e.k)).toList = e.fl (List.replicate n u) := by
  have hsz : z.size = e.k := by rw [← e.len u, ← hz]; simp
  apply List.ext_getElem
  · rw [Enc.fl_length]; simp [madeCells]
  · intro i h1 h2
    have hi : i < n * e.k := by simpa [madeCells] using h1
    have hq : i / e.k < n := (Nat.div_lt_iff_lt_mul e.pos).2 hi
    have hm : i % e.k < e.k := Nat.mod_lt _ e.pos
    have hr : (List.replicate n u)[i / e.k]? = some u := by simp [hq]
    have hc : (e.f u)[i % e.k]? = some ((e.f u)[i % e.k]'(by rw [e.len]; exact hm)) := List.getElem?_eq_getElem _
    have h3 := Enc.fl_cell (e := e) hr hc
    rw [Nat.div_add_mod' i e.k] at h3
    have h4 : (e.fl (List.replicate n u))[i] = (e.f u)[i % e.k]'(by rw [e.len]; exact hm) := by
      rw [List.getElem?_eq_getElem h2] at h3
      exact Option.some.inj h3
    rw [h4]
    have hlt : i % z.size < z.size := by rw [hsz]; exact hm
    simp only [madeCells, Array.toList_map, Array.toList_range, List.getElem_map, List.getElem_range]
    rw [getElem!_pos z (i % z.size) hlt]
    have : z[i % z.size] = z.toList[i % z.size]'(by simpa using hlt) := by simp
    rw [this]
    simp only [hz, hsz]

theorem ef_makeS {t E : TypeId} {ti : TypeInfo} {v : Value} {u : T} {zs : List T} {x y : Operand} {k1 k2 : IntKind} {i : Int} (ht : P.underlying t = some (.slice E)) (hi : P.info? E = some ti) (hk : ti.size = e.k) (hz : ti.zero = some v) (hu : v.cells.toList = e.f u) (hb1 : ti.bytes ≤ 128)
    (hx : ev env x = some (.int k1 i)) (hy : ev env y = some (.int k2 i)) (hr : mkL i u = some zs) :
    Ef P w0 M es env { dst := d, op := .makeSlice t x y, type := ty, pos := ps, after := af, guard := gd } true (fun v es' => ∃ a, v = .slice a zs.length zs.length ∧ es' = es ++ [rowT E e a zs.length zs.length zs]) := by
  obtain ⟨h0, h1, rfl⟩ := mkL_some hr
  intro ρ hρ w hC
  have hb : (ti.bytes : Int) * i ≤ 281474976710656 := by
    have h2 : ((ti.bytes * i.toNat : Nat) : Int) ≤ ((128 * 1099511627776 : Nat) : Int) := Int.ofNat_le.2 (Nat.mul_le_mul hb1 (by omega))
    rw [Int.natCast_mul, Int.toNat_of_nonneg h0] at h2
    omega
  have hrun := run_make (P := P) w t E ti v ht hi hz k1 k2 i i h0 (Int.le_refl _) hb (by omega)
  have hcells : (madeCells v.cells (i.toNat * ti.size)) = (e.fl (List.replicate i.toNat u)).toArray := by
    apply Array.toList_inj.1
    rw [hk, madeCells_fl hu]
  rw [hcells] at hrun
  have hr2 : (execOp ρ { dst := d, op := .makeSlice t x y, type := ty, pos := ps, after := af, guard := gd }).run P w = .ok (.value (.slice (some ⟨w.heap.size, 0, none⟩) i.toNat i.toNat)) (w.alloc (.cells (e.fl (List.replicate i.toNat u)).toArray E)) := by
    simp [execOp, hρ _ _ hx, hρ _ _ hy, hrun]
  rw [hr2]
  simp only [EfRes, List.length_replicate]
  refine good_alloc (e := rowT E e (some ⟨w.heap.size, 0, none⟩) i.toNat i.toNat (List.replicate i.toNat u)) hC ⟨_, rfl, rfl⟩ ⟨?_, Nat.le_refl _, .inr ⟨_, _, rfl, rfl, heap_alloc_new w _, by simp only [maxLen]; omega, ?_, ?_⟩⟩
  · rw [Enc.fl_length]; simp
  · simp only [List.size_toArray, Enc.fl_length, List.length_replicate]
  · have : (e.fl (List.replicate i.toNat u)).length = i.toNat * e.k := by rw [Enc.fl_length]; simp
    rw [← this]
    simp
end
end Go.Sh
