/- The judgements of the walk: a list of operations, a region that draws, code, loops, calls. -/
import Derived.Test.YtinipjijgggjkaaDraw
namespace Go.Sh
open Go Go.RowKit

def Cl (w0 : World) (M : List Nat) (es : List Own) (w : World) : Prop := Bw M w0 w ∧ Sep w0.heap.size M w es

def putE (d : Option Tmp) (v : Value) (env : List (Nat × Value)) : List (Nat × Value) := match d with
  | some d => (d, v) :: env
  | none => env
def dok (n : Nat) : Option Tmp → Bool
  | some d => Nat.blt d n
  | none => true

theorem St.putE {w0 : World} {M : List Nat} {n : Nat} {env : List (Nat × Value)} {es : List Own} {a : Act} {w : World} (h : St w0 M n env es a w) {d : Option Tmp} (hd : dok n d = true) (v : Value) :
    St w0 M n (putE d v env) es (a.put d v) w := by
  cases d with
  | none => exact h
  | some d => exact h.put hd v

theorem St.at {w0 : World} {M : List Nat} {n : Nat} {env : List (Nat × Value)} {es es' : List Own} {a : Act} {w w' : World} (h : St w0 M n env es a w) (hb : Bw M w0 w') (hs : Sep w0.heap.size M w' es') :
    St w0 M n env es' a w' := ⟨h.env, hb, hs⟩

/-- What an operation that writes, makes memory or calls leaves. -/
def Good (w0 : World) (M : List Nat) (kp : Bool) (T : Value → List Own → Prop) (w : World) (v : Value) (w' : World) : Prop :=
  ∃ es', T v es' ∧ Bw M w0 w' ∧ Sep w0.heap.size M w' es' ∧ (kp = true → Bw [] w w')

def EfRes (P : Program) (w0 : World) (M : List Nat) (kp : Bool) (T : Value → List Own → Prop) (w : World) : Result Next → Prop
  | .ok (.value v) w' => Good w0 M kp T w v w'
  | .ok .skip w' => Good w0 M kp T w undef w'
  | .ok (.enter f args) w' => w' = w ∧ Calls P f args w fun e w'' => ∃ v, e = .returned v ∧ Good w0 M kp T w v w''
  | _ => False

def Ef (P : Program) (w0 : World) (M : List Nat) (es : List Own) (env : List (Nat × Value)) (o : Oper) (kp : Bool) (T : Value → List Own → Prop) : Prop :=
  ∀ ρ, Agr env ρ → ∀ w, Cl w0 M es w → EfRes P w0 M kp T w ((execOp ρ o).run P w)

theorem wp_of_ef {P : Program} {w0 : World} {M : List Nat} {n : Nat} {es : List Own} {env : List (Nat × Value)} {o : Oper} {kp : Bool} {T : Value → List Own → Prop} (hy : Ef P w0 M es env o kp T)
    {a : Act} {w : World} (hS : St w0 M n env es a w) (hd : dok n o.dst = true) {K : Act → World → Prop} {Q : Exit → Act → World → Prop}
    (k : ∀ v es' w', T v es' → (kp = true → Bw [] w w') → St w0 M n (putE o.dst v env) es' (a.put o.dst v) w' → K (a.put o.dst v) w') : o.wp P a w K Q := by
  have h := hy _ hS.env.agr w ⟨hS.bw, hS.sep⟩
  unfold Oper.wp
  generalize (execOp a.eval o).run P w = r at h
  cases r with
  | ok x w' =>
    cases x <;> simp only [EfRes] at h <;> simp only [Oper.upon]
    case value v =>
      obtain ⟨es', hT, hb, hs, hk⟩ := h
      exact k v es' w' hT hk ((hS.at hb hs).putE hd v)
    case skip =>
      obtain ⟨es', hT, hb, hs, hk⟩ := h
      exact k _ es' w' hT hk ((hS.at hb hs).putE hd _)
    case enter f args =>
      obtain ⟨rfl, hc⟩ := h
      refine hc.mono fun e w'' he => ?_
      obtain ⟨v, rfl, es', hT, hb, hs, hk⟩ := he
      exact k v es' w'' hT hk ((hS.at hb hs).putE hd v)
  | halt x w' => simp only [EfRes] at h

/-! ### lists of operations -/
section
variable {P : Program} {w0 : World} {M : List Nat} {n : Nat} {ops : Array Oper} {E : Act → World → Prop} {Q : Exit → Act → World → Prop}
  {env : List (Nat × Value)} {es : List Own} {rest : List Oper} {op : Op} {ty : TypeId} {ps : String} {af : Array Edge}

def JL (P : Program) (w0 : World) (M : List Nat) (n : Nat) (ops : Array Oper) (E : Act → World → Prop) (Q : Exit → Act → World → Prop) (env : List (Nat × Value)) (es : List Own) (rest : List Oper) : Prop :=
  ∀ a w, St w0 M n env es a w → wpList P ops (Exit.then E Q) rest a w

/-- What holds at an end. -/
def JE (w0 : World) (M : List Nat) (n : Nat) (E : Act → World → Prop) (env : List (Nat × Value)) (es : List Own) : Prop := ∀ a w, St w0 M n env es a w → E a w

theorem JE.weak {env' : List (Nat × Value)} {es' : List Own} (ix : List Nat) (k : JE w0 M n E env' es') (hs : Sub env' env) (hn : ix.Nodup) (he : ix.map (fun i => es[i]?) = es'.map some) : JE w0 M n E env es :=
  fun a w h => k a w (h.weak hs ix hn he)

theorem JL.nil (k : JE w0 M n E env es) : JL P w0 M n ops E Q env es [] := fun a w h => wpList_nil (Q := Exit.then E Q) (k a w h)

theorem JL.val {d : Nat} {v : Value} (hy : Yl P (Cl w0 M es) env { dst := some d, op := op, type := ty, pos := ps, after := af, guard := none } v) (hd : Nat.blt d n = true)
    (k : JL P w0 M n ops E Q ((d, v) :: env) es rest) : JL P w0 M n ops E Q env es ({ dst := some d, op := op, type := ty, pos := ps, after := af, guard := none } :: rest) := by
  intro a w h
  refine wpList_plain rfl fun K hK => ?_
  unfold Oper.wp
  rw [hy _ h.env.agr w ⟨h.bw, h.sep⟩]
  exact hK _ _ (k _ _ (h.put hd v))

theorem JL.eff {d : Option Tmp} {kp : Bool} {T : Value → List Own → Prop} (hy : Ef P w0 M es env { dst := d, op := op, type := ty, pos := ps, after := af, guard := none } kp T) (hd : dok n d = true)
    (k : ∀ v es', T v es' → JL P w0 M n ops E Q (putE d v env) es' rest) : JL P w0 M n ops E Q env es ({ dst := d, op := op, type := ty, pos := ps, after := af, guard := none } :: rest) := by
  intro a w h
  refine wpList_plain rfl fun K hK => ?_
  exact wp_of_ef hy h hd fun v es' w' hT _ hS => hK _ _ (k v es' hT _ _ hS)

theorem yielded_env {a : Act} {j t : Nat} {b : Bool} (h : EnvOk n env a) (hj : (ops[j]?).bind (·.dst) = some t) (ht : lk env t = some (.bool b)) : yielded ops a.tmps j = some b := by
  unfold yielded
  rw [hj]
  simp [h.get t _ ht]

/-- A guarded operation whose guard says yes. -/
theorem JL.gval {d j t : Nat} {v : Value} {b : Bool} (hj : (ops[j]?).bind (·.dst) = some t) (ht : lk env t = some (.bool b)) (hy : Yl P (Cl w0 M es) env { dst := some d, op := op, type := ty, pos := ps, after := af, guard := some (j, b) } v) (hd : Nat.blt d n = true)
    (k : JL P w0 M n ops E Q ((d, v) :: env) es rest) : JL P w0 M n ops E Q env es ({ dst := some d, op := op, type := ty, pos := ps, after := af, guard := some (j, b) } :: rest) := by
  intro a w h
  refine wpList_step fun K hK => ?_
  simp only [Region.wanted, yielded_env h.env hj ht, beq_self_eq_true, if_true]
  unfold Oper.wp
  rw [hy _ h.env.agr w ⟨h.bw, h.sep⟩]
  exact hK _ _ (k _ _ (h.put hd v))

theorem JL.geff {d : Option Tmp} {j t : Nat} {b : Bool} {kp : Bool} {T : Value → List Own → Prop} (hj : (ops[j]?).bind (·.dst) = some t) (ht : lk env t = some (.bool b))
    (hy : Ef P w0 M es env { dst := d, op := op, type := ty, pos := ps, after := af, guard := some (j, b) } kp T) (hd : dok n d = true)
    (k : ∀ v es', T v es' → JL P w0 M n ops E Q (putE d v env) es' rest) : JL P w0 M n ops E Q env es ({ dst := d, op := op, type := ty, pos := ps, after := af, guard := some (j, b) } :: rest) := by
  intro a w h
  refine wpList_step fun K hK => ?_
  simp only [Region.wanted, yielded_env h.env hj ht, beq_self_eq_true, if_true]
  exact wp_of_ef hy h hd fun v es' w' hT _ hS => hK _ _ (k v es' hT _ _ hS)

theorem wanted_not {a : Act} {j t : Nat} {b c : Bool} {d : Option Tmp} (h : EnvOk n env a) (hj : (ops[j]?).bind (·.dst) = some t) (ht : lk env t = some (.bool c)) (hc : (c == b) = false) :
    Region.wanted { dst := d, op := op, type := ty, pos := ps, after := af, guard := some (j, b) } (yielded ops a.tmps) = false := by
  simp only [Region.wanted, yielded_env h hj ht]
  cases b <;> cases c <;> simp_all

/-- A guarded operation whose guard has not come up, or says no: it is passed over. -/
theorem JL.gskip {d : Option Tmp} {j t : Nat} {b c : Bool} (hj : (ops[j]?).bind (·.dst) = some t) (ht : lk env t = some (.bool c)) (hc : (c == b) = false) (hd : dok n d = true)
    (k : JL P w0 M n ops E Q (putE d undef env) es rest) : JL P w0 M n ops E Q env es ({ dst := d, op := op, type := ty, pos := ps, after := af, guard := some (j, b) } :: rest) := by
  intro a w h
  refine wpList_step fun K hK => ?_
  simp only [wanted_not h.env hj ht hc, Bool.false_eq_true, if_false]
  exact hK _ _ (k _ _ (h.putE hd undef))

theorem yielded_undef {a : Act} {j t : Nat} (h : EnvOk n env a) (hj : (ops[j]?).bind (·.dst) = some t) (ht : lk env t = some undef) : yielded ops a.tmps j = none := by
  unfold yielded
  rw [hj]
  simp [h.get t _ ht, undef]

/-- A guarded operation whose guard was itself passed over. -/
theorem JL.gnone {d : Option Tmp} {j t : Nat} {b : Bool} (hj : (ops[j]?).bind (·.dst) = some t) (ht : lk env t = some undef) (hd : dok n d = true)
    (k : JL P w0 M n ops E Q (putE d undef env) es rest) : JL P w0 M n ops E Q env es ({ dst := d, op := op, type := ty, pos := ps, after := af, guard := some (j, b) } :: rest) := by
  intro a w h
  refine wpList_step fun K hK => ?_
  simp only [Region.wanted, yielded_undef h.env hj ht]
  exact hK _ _ (k _ _ (h.putE hd undef))

/-- A cut: forget slots and entries. -/
theorem JL.weak {env' : List (Nat × Value)} {es' : List Own} (ix : List Nat) (k : JL P w0 M n ops E Q env' es' rest) (hs : Sub env' env) (hn : ix.Nodup) (he : ix.map (fun i => es[i]?) = es'.map some) : JL P w0 M n ops E Q env es rest :=
  fun a w h => k a w (h.weak hs ix hn he)
end

/-! ### code -/
/-- The ways out of a block. -/
abbrev QB (id : Nat) (E : Act → World → Prop) (Q : Exit → Act → World → Prop) : Exit → Act → World → Prop
  | .exit id', a, w => match Nat.beq id' id with
    | true => E a w
    | false => Q (.exit id') a w
  | e, a, w => Q e a w

section
variable {P : Program} {w0 : World} {M : List Nat} {n : Nat} {Q : Exit → Act → World → Prop} {E : Act → World → Prop}
  {env : List (Nat × Value)} {es : List Own} {x y z : Code} {id id' : Nat}

/-- Code, with what shall hold where it ends (E) and where it leaves otherwise (Q). -/
def JX (P : Program) (w0 : World) (M : List Nat) (n : Nat) (E : Act → World → Prop) (Q : Exit → Act → World → Prop) (env : List (Nat × Value)) (es : List Own) (c : Code) : Prop :=
  ∀ a w, St w0 M n env es a w → c.wp P (Exit.then E Q) a w

theorem JX.weak {env' : List (Nat × Value)} {es' : List Own} (ix : List Nat) (k : JX P w0 M n E Q env' es' x) (hs : Sub env' env) (hn : ix.Nodup) (he : ix.map (fun i => es[i]?) = es'.map some) : JX P w0 M n E Q env es x :=
  fun a w h => k a w (h.weak hs ix hn he)

theorem JE.code (k : JX P w0 M n E Q env es y) : JE w0 M n (y.wp P (Exit.then E Q)) env es := k

theorem then_then {E' : Act → World → Prop} : Exit.then E' (Exit.then E Q) = Exit.then E' Q := by
  funext e a w
  cases e <;> rfl
theorem then_self : Exit.then (Q .normal) Q = Q := by
  funext e a w
  cases e <;> rfl

theorem JX.seq (k : JX P w0 M n (y.wp P (Exit.then E Q)) Q env es x) : JX P w0 M n E Q env es (.seq x y) := fun a w h =>
  wp_seq (by rw [then_then]; exact k a w h)

theorem JX.skip (k : JE w0 M n E env es) : JX P w0 M n E Q env es .skip := fun a w h => wp_skip (k a w h)
theorem JX.ret (k : JE w0 M n (Q .ret) env es) : JX P w0 M n E Q env es .ret := fun a w h => wp_ret (k a w h)
theorem JX.exit (k : JE w0 M n (Q (.exit id)) env es) : JX P w0 M n E Q env es (.exit id) := fun a w h => wp_exit (k a w h)

theorem JX.cond {c : Operand} {b : Bool} (hc : ev env c = some (.bool b)) (ht : b = true → JX P w0 M n E Q env es x) (hf : b = false → JX P w0 M n E Q env es y) :
    JX P w0 M n E Q env es (.cond c x y) := fun a w h => wp_cond_split (h.env.agr _ _ hc) (fun hb => ht hb a w h) (fun hb => hf hb a w h)

theorem JX.region {l : List Oper} (k : JL P w0 M n l.toArray E Q env es l) : JX P w0 M n E Q env es (.region id l.toArray false) := fun a w h => wp_region_lit (k a w h)

theorem JX.block (k : JX P w0 M n E (QB id E Q) env es x) : JX P w0 M n E Q env es (.block id x) := fun a w h => by
  refine wp_block (wp_mono (k a w h) fun e a w hq => ?_)
  cases e with
  | normal => exact hq
  | exit id' =>
    show if id' = id then E a w else Q (.exit id') a w
    by_cases hid : id' = id
    · subst hid
      rw [if_pos rfl]
      have hq' : (match Nat.beq id' id' with | true => E a w | false => Q (.exit id') a w) := hq
      rw [Nat.beq_refl] at hq'
      exact hq'
    · rw [if_neg hid]
      have hb : Nat.beq id' id = false := by
        rcases hb : Nat.beq id' id
        · rfl
        · exact absurd (Nat.eq_of_beq_eq_true hb) hid
      have hq' : (match Nat.beq id' id with | true => E a w | false => Q (.exit id') a w) := hq
      rw [hb] at hq'
      exact hq'
  | goto l => exact hq
  | ret => exact hq
  | panic c => exact hq
  | outgrown => exact hq
end

/-! ### loops -/
def iterN {σ ρ : Type} (sb : σ → Option (σ ⊕ ρ)) : Nat → σ → Option ρ
  | 0, _ => none
  | n + 1, s => match sb s with
    | none => none
    | some (.inl s') => iterN sb n s'
    | some (.inr x) => some x

/-- A number of rounds that no loop here comes to. -/
def FUEL : Nat := 2 ^ 62
def iter {σ ρ : Type} (sb : σ → Option (σ ⊕ ρ)) (s : σ) : Option ρ := iterN sb FUEL s

theorem wp_iterN {P : Program} {σ ρ : Type} {E : Act → World → Prop} {Q : Exit → Act → World → Prop} {c : Code} {I : σ → Act → World → Prop} {sb : σ → Option (σ ⊕ ρ)} {x : ρ}
    (hb : ∀ s o, sb s = some o → (∀ r, o = .inr r → r = x) → ∀ a w, I s a w → c.wp P (Exit.then (fun a' w' => ∃ s', o = .inl s' ∧ I s' a' w') Q) a w) :
    ∀ (k : Nat) (s : σ) (a : Act) (w : World), iterN sb k s = some x → I s a w → Code.rounds P c (Exit.then E Q) k a w
  | 0, s, a, w, h, _ => by simp [iterN] at h
  | k + 1, s, a, w, h, hI => by
    rw [rounds_succ, then_then]
    cases ho : sb s with
    | none => simp [iterN, ho] at h
    | some o =>
      simp only [iterN, ho] at h
      refine wp_mono (hb s o ho (fun r hr => ?_) a w hI) fun e a' w' hq => ?_
      · subst hr; simpa using h
      · cases e with
        | normal =>
          obtain ⟨s', rfl, hI'⟩ := hq
          exact wp_iterN hb k s' a' w' h hI'
        | _ => exact hq

theorem JX.loop {P : Program} {w0 : World} {M : List Nat} {n : Nat} {Q : Exit → Act → World → Prop} {E : Act → World → Prop} {env : List (Nat × Value)} {es : List Own} {c : Code}
    {σ ρ : Type} (I : σ → Act → World → Prop) (sb : σ → Option (σ ⊕ ρ)) {s0 : σ} {x : ρ} (hx : iter sb s0 = some x) (h0 : JE w0 M n (I s0) env es)
    (hb : ∀ s o, sb s = some o → (∀ r, o = .inr r → r = x) → ∀ a w, I s a w → c.wp P (Exit.then (fun a' w' => ∃ s', o = .inl s' ∧ I s' a' w') Q) a w) :
    JX P w0 M n E Q env es (.loop c) := fun a w h => wp_loop_rounds FUEL (wp_iterN hb FUEL s0 a w hx (h0 a w h))

/-! ### a function's beginning and end -/
def argEnv : Nat → List Value → List (Nat × Value)
  | _, [] => []
  | i, v :: r => (i, v) :: argEnv (i + 1) r

theorem lk_argEnv : ∀ (vs : List Value) (i t : Nat) (v : Value), lk (argEnv i vs) t = some v → i ≤ t ∧ vs[t - i]? = some v
  | [], i, t, v, h => by simp [argEnv, lk] at h
  | u :: r, i, t, v, h => by
    simp only [argEnv, lk] at h
    split at h
    · rename_i hb
      have := Nat.eq_of_beq_eq_true hb
      subst this
      cases h
      simp
    · rename_i hb
      obtain ⟨h1, h2⟩ := lk_argEnv r (i + 1) t v h
      refine ⟨by omega, ?_⟩
      rw [show t - i = (t - (i + 1)) + 1 by omega]
      simpa using h2

theorem calls_of {P : Program} {f : FuncId} {fn : Func} {c : Code} {vs : List Value} {w : World} {R : Ending → World → Prop} {M : List Nat} {es : List Own} {n : Nat} (hf : P.funcs[f]? = some fn) (hb : fn.body = some c) (hn : fn.ntmps = n)
    (hl : Nat.ble vs.length n = true) (hs : Sep w.heap.size M w es)
    (k : JX P w M n (bodyPost P fn R .normal) (bodyPost P fn R) (argEnv 0 vs) es c) : Calls P f vs.toArray w R := by
  refine calls_of_wp hf hb ?_
  have hl' : vs.length ≤ n := Nat.le_of_ble_eq_true hl
  have := k { tmps := vs.toArray ++ Array.replicate (fn.ntmps - vs.toArray.size) undef, defers := [] } w
    ⟨⟨rfl, by simp [hn]; omega, fun t v ht => by
      obtain ⟨_, h2⟩ := lk_argEnv vs 0 t v ht
      simp only [Nat.sub_zero] at h2
      have ht : t < vs.length := by
        rcases Nat.lt_or_ge t vs.length with h | h
        · exact h
        · rw [List.getElem?_eq_none h] at h2; cases h2
      rw [Array.getElem?_append_left (by simpa using ht)]
      simpa using h2⟩, Bw.refl _ _, hs⟩
  rw [then_self] at this
  exact this

/-- The results, out of slots and out of memory. -/
def rvOk (P : Program) (C : World → Prop) (env : List (Nat × Value)) : List ResultVar → List Value → Prop
  | [], [] => True
  | .tmp t :: r, v :: vs => lk env t = some v ∧ rvOk P C env r vs
  | .cell a t :: r, v :: vs => (∃ ad, lk env a = some (.pointer (some ad)) ∧ ∀ w, C w → (loadVar t ad).run P w = .ok v w) ∧ rvOk P C env r vs
  | _, _ => False

theorem run_mapM_list {P : Program} {α β : Type} (f : α → Sem β) (w : World) : ∀ (l : List α) (r : List β), l.length = r.length → (∀ (i : Nat) x y, l[i]? = some x → r[i]? = some y → (f x).run P w = .ok y w) →
    (l.mapM f).run P w = .ok r w
  | [], [], _, _ => by simp
  | [], _ :: _, h, _ => by simp at h
  | _ :: _, [], h, _ => by simp at h
  | x :: l, y :: r, h, hh => by
    have h0 := hh 0 x y (by simp) (by simp)
    have h1 := run_mapM_list (P := P) f w l r (by simpa using h) (fun i x y hx hy => hh (i + 1) x y (by simpa using hx) (by simpa using hy))
    simp [List.mapM_cons, h0, h1]

theorem rvOk_get {P : Program} {C : World → Prop} {env : List (Nat × Value)} : ∀ {rs : List ResultVar} {vs : List Value}, rvOk P C env rs vs → rs.length = vs.length ∧ ∀ (i : Nat) x y, rs[i]? = some x → vs[i]? = some y →
    ∀ {n : Nat} {a : Act} {w : World}, EnvOk n env a → C w → ((match x with | .tmp t => pure (a.tmps.getD t undef) | .cell b t => do loadVar t (← asAddr (a.tmps.getD b undef)) : Sem Value)).run P w = .ok y w
  | [], [], _ => ⟨rfl, by simp⟩
  | [], _ :: _, h => h.elim
  | .tmp _ :: _, [], h => h.elim
  | .cell _ _ :: _, [], h => h.elim
  | .tmp t :: r, v :: vs, h => by
    obtain ⟨h1, h2⟩ := h
    obtain ⟨k1, k2⟩ := rvOk_get h2
    refine ⟨by simp [k1], fun i x y hx hy n a w he hC => ?_⟩
    cases i with
    | zero =>
      simp at hx hy
      subst hx hy
      have := he.get t v h1
      simp [Array.getD_eq_getD_getElem?, this]
    | succ i => exact k2 i x y (by simpa using hx) (by simpa using hy) he hC
  | .cell b t :: r, v :: vs, h => by
    obtain ⟨⟨ad, h1, hl⟩, h2⟩ := h
    obtain ⟨k1, k2⟩ := rvOk_get h2
    refine ⟨by simp [k1], fun i x y hx hy n a w he hC => ?_⟩
    cases i with
    | zero =>
      simp at hx hy
      subst hx hy
      have := he.get b _ h1
      simp [Array.getD_eq_getD_getElem?, this, asAddr, hl w hC]
    | succ i => exact k2 i x y (by simpa using hx) (by simpa using hy) he hC

/-- One value, or a tuple. -/
def rets : List Value → Value
  | [v] => v
  | vs => .tuple vs.toArray

theorem JE.ret {P : Program} {w0 : World} {M : List Nat} {n : Nat} {env : List (Nat × Value)} {es : List Own} {fn : Func} {R : Ending → World → Prop} {rs : List ResultVar} {vs : List Value}
    (hf : fn.results = rs.toArray) (hr : rvOk P (Cl w0 M es) env rs vs) (k : ∀ w, Bw M w0 w → Sep w0.heap.size M w es → R (.returned (rets vs)) w) : JE w0 M n (bodyPost P fn R .ret) env es := fun a w h => by
  obtain ⟨h1, h2⟩ := rvOk_get hr
  refine ⟨h.env.dfr, _, ?_, k w h.bw h.sep⟩
  have hm := run_mapM_list (P := P) (fun x : ResultVar => (match x with | .tmp t => pure (a.tmps.getD t undef) | .cell b t => do loadVar t (← asAddr (a.tmps.getD b undef)) : Sem Value)) w rs vs h1
    (fun i x y hx hy => h2 i x y hx hy h.env ⟨h.bw, h.sep⟩)
  unfold results
  rw [hf, List.mapM_toArray]
  simp only [Sem.run_bind, map_eq_pure_bind]
  have hm2 : (rs.mapM (fun x => (match x with
      | .tmp t => pure (a.tmps.getD t undef)
      | .cell b t => do
        let c ← asAddr (a.tmps.getD b undef)
        loadVar t c : Sem Value))).run P w = .ok vs w := hm
  erw [hm2]
  simp only [Result.andThen_ok, Sem.run_pure]
  cases vs with
  | nil => simp [rets]
  | cons v r => cases r with
    | nil => simp [rets]
    | cons u r => simp [rets]

end Go.Sh
