/- Regions that draw their order: the walk relative to the world at the region's start. -/
import Derived.Test.YtinipjijgggjkaaRow
namespace Go.Sh
open Go Go.RowKit

theorem EnvOk.set {n : Nat} {env : List (Nat × Value)} {a : Act} (h : EnvOk n env a) {d : Nat} {v : Value} (hv : lk env d = some v) : EnvOk n ((d, v) :: env) a :=
  ⟨h.dfr, h.size, fun t u ht => by
    simp only [lk] at ht
    split at ht
    · rename_i hb
      have := Nat.eq_of_beq_eq_true hb
      subst this
      cases ht
      exact h.get _ _ hv
    · exact h.get t u ht⟩
theorem St.set {w0 : World} {M : List Nat} {n : Nat} {env : List (Nat × Value)} {es : List Own} {a : Act} {w : World} (h : St w0 M n env es a w) {d : Nat} {v : Value} (hv : lk env d = some v) : St w0 M n ((d, v) :: env) es a w :=
  ⟨h.env.set hv, h.bw, h.sep⟩

theorem St.nilrow {w0 : World} {M : List Nat} {n : Nat} {env : List (Nat × Value)} {es : List Own} {a : Act} {w : World} (h : St w0 M n env es a w) {T : Type} (E : Nat) (e : Enc T) : St w0 M n env (es ++ [rowT E e none 0 0 []]) a w :=
  ⟨h.env, h.bw, h.sep.join (Bw.refl [] w) h.bw.size ⟨fun _ => [], fun i x hi => by
    cases i with
    | zero => simp at hi; subst hi; exact ⟨⟨by simp [Enc.fl], Nat.le_refl _, .inl ⟨rfl, rfl, rfl⟩⟩, by simp⟩
    | succ i => simp at hi, by simp⟩⟩


/-- The frame of a drawn region: the entries X may be written, what else was there stays as it is. -/
structure Fr (w0 : World) (M : List Nat) (es : List Own) (X : List Nat) (wr : World) (N : List Nat) : Prop where
  cl : Cl w0 M es wr
  ge : ∀ b ∈ N, w0.heap.size ≤ b ∨ b ∈ M
  keep : ∀ (i : Nat) e, es[i]? = some e → X.contains i = false → ∀ w, Bw N wr w → ∃ fp, e.p w fp

theorem Fr.row {w0 : World} {M : List Nat} {es : List Own} {X : List Nat} {wr : World} {N : List Nat} (h : Fr w0 M es X wr N) (i : Nat) {E k : Nat} {a : Option Addr} {n c : Nat} {xs : List Value} (hi : es[i]? = some (rowO E k a n c xs)) (hx : X.contains i = false)
    {w : World} (hw : Bw N wr w) : Rd w a xs :=
  let ⟨_, hp⟩ := h.keep i _ hi hx w hw
  RowP.rd hp
theorem Fr.box {w0 : World} {M : List Nat} {es : List Own} {X : List Nat} {wr : World} {N : List Nat} (h : Fr w0 M es X wr N) (i : Nat) {E g : Nat} {us : List Value} (hi : es[i]? = some (boxO E g us)) (hx : X.contains i = false)
    {w : World} (hw : Bw N wr w) : Rd w (some ⟨g, 0, none⟩) us := by
  obtain ⟨fp, hp⟩ := h.keep i _ hi hx w hw
  intro j u hj
  refine ⟨_, rfl, ?_⟩
  have hadd : (⟨g, 0, none⟩ : Addr).add j = ⟨g, j, none⟩ := by unfold Addr.add; split <;> simp_all
  rw [hadd]
  simp [World.cell?, hp.2, hj]
theorem Addr.add_block (a : Addr) (j : Nat) : (a.add j).block = a.block := by unfold Addr.add; split <;> rfl
theorem Fr.arg {w0 : World} {es : List Own} {X : List Nat} {wr : World} {N : List Nat} (h : Fr w0 [] es X wr N) {a : Option Addr} {cs : List Value} (hr : Rd w0 a cs) {w : World} (hw : Bw N wr w) : Rd w a cs := fun j u hj => by
  obtain ⟨ad, ha, hc⟩ := hr j u hj
  refine ⟨ad, ha, ?_⟩
  have hlt := World.block_lt_of_cell? w0 _ hc
  have h1 := h.cl.1.cell hc
  have hlt2 := World.block_lt_of_cell? wr _ h1
  rw [← h1]
  refine World.cell?_of_block (w := wr) (hw.block _ hlt2 fun hm => ?_)
  rcases h.ge _ hm with h2 | h2
  · omega
  · simp at h2

theorem Sep.split {w0 : World} {M : List Nat} {wr : World} {es : List Own} (hC : Cl w0 M es wr) (X Y : List Nat) (esX esY : List Own) (hn : (X ++ Y).Nodup) (hX : X.map (fun i => es[i]?) = esX.map some) (hY : Y.map (fun i => es[i]?) = esY.map some) :
    ∃ N, Fr w0 M es X wr N ∧ Sep wr.heap.size N wr esX ∧ ∀ w es', Bw N wr w → Sep wr.heap.size N w es' → Sep w0.heap.size M w (esY ++ es') := by
  obtain ⟨fp, h1, h2⟩ := hC.2
  have hB := hC.1.size
  have getX : ∀ j, j < X.length → es[X.getD j 0]? = esX[j]? := fun j hj => by
    have hlen : X.length = esX.length := by have := congrArg List.length hX; simpa using this
    have := congrArg (fun l : List (Option Own) => l[j]?) hX
    have hj' : j < esX.length := by omega
    simp [List.getElem?_map, List.getElem?_eq_getElem hj, List.getElem?_eq_getElem hj'] at this
    simp [List.getElem?_eq_getElem hj, List.getElem?_eq_getElem hj', this]
  have getY : ∀ j, j < Y.length → es[Y.getD j 0]? = esY[j]? := fun j hj => by
    have hlen : Y.length = esY.length := by have := congrArg List.length hY; simpa using this
    have := congrArg (fun l : List (Option Own) => l[j]?) hY
    have hj' : j < esY.length := by omega
    simp [List.getElem?_map, List.getElem?_eq_getElem hj, List.getElem?_eq_getElem hj'] at this
    simp [List.getElem?_eq_getElem hj, List.getElem?_eq_getElem hj', this]
  have lX : X.length = esX.length := by have := congrArg List.length hX; simpa using this
  have lY : Y.length = esY.length := by have := congrArg List.length hY; simpa using this
  have ltof : ∀ {i : Nat} {e : Own}, es[i]? = some e → i < es.length := fun hi => (List.getElem?_eq_some_iff.1 hi).1
  have someX : ∀ j, j < X.length → ∃ e, es[X.getD j 0]? = some e := fun j hj => ⟨_, (getX j hj).trans (List.getElem?_eq_getElem (by omega))⟩
  have someY : ∀ j, j < Y.length → ∃ e, es[Y.getD j 0]? = some e := fun j hj => ⟨_, (getY j hj).trans (List.getElem?_eq_getElem (by omega))⟩
  have injX : ∀ j k, j < X.length → k < X.length → j ≠ k → X.getD j 0 ≠ X.getD k 0 := fun j k hj hk hne he => by
    have hnX := (List.nodup_append.1 hn).1
    refine hne ((List.getElem?_inj (l := X) hj hnX).1 ?_)
    simp [List.getElem?_eq_getElem hj, List.getElem?_eq_getElem hk] at he ⊢
    exact he
  have injY : ∀ j k, j < Y.length → k < Y.length → j ≠ k → Y.getD j 0 ≠ Y.getD k 0 := fun j k hj hk hne he => by
    have hnY := (List.nodup_append.1 hn).2.1
    refine hne ((List.getElem?_inj (l := Y) hj hnY).1 ?_)
    simp [List.getElem?_eq_getElem hj, List.getElem?_eq_getElem hk] at he ⊢
    exact he
  have memX : ∀ j, j < X.length → X.getD j 0 ∈ X := fun j hj => by simp [List.getElem?_eq_getElem hj]
  have memY : ∀ j, j < Y.length → Y.getD j 0 ∈ Y := fun j hj => by simp [List.getElem?_eq_getElem hj]
  have disj : ∀ i ∈ X, ∀ j ∈ Y, i ≠ j := (List.nodup_append.1 hn).2.2
  let N : List Nat := X.flatMap fp
  have memN : ∀ b, b ∈ N ↔ ∃ i ∈ X, b ∈ fp i := fun b => List.mem_flatMap
  have inEs : ∀ i ∈ X, i < es.length := fun i hi => by
    obtain ⟨j, hj, he⟩ := List.getElem_of_mem hi
    obtain ⟨e, hs⟩ := someX j hj
    have : X.getD j 0 = i := by simp [List.getElem?_eq_getElem hj, he]
    rw [this] at hs
    exact ltof hs
  have outN : ∀ i, i < es.length → i ∉ X → ∀ b ∈ fp i, b ∉ N := fun i hi hx b hb hN => by
    obtain ⟨k, hk, hbk⟩ := (memN b).1 hN
    exact h2 i k hi (inEs k hk) (fun h => hx (h ▸ hk)) b hb hbk
  refine ⟨N, ⟨hC, fun b hb => ?_, fun i e hi hx w hw => ?_⟩, ⟨fun j => fp (X.getD j 0), fun j e hj => ?_, fun j k hj hk hjk b hb => ?_⟩, fun w es' hw hs => ?_⟩
  · obtain ⟨i, hi, hbi⟩ := (memN b).1 hb
    exact ((h1 i _ (List.getElem?_eq_getElem (inEs i hi))).2 b hbi).1
  · refine ⟨fp i, e.loc wr w _ (h1 i e hi).1 fun b hb => hw.block b ((h1 i e hi).2 b hb).2 (outN i (ltof hi) (fun h => ?_) b hb)⟩
    have : X.contains i = true := by simpa using h
    rw [hx] at this
    cases this
  · have hj' : j < X.length := by have := (List.getElem?_eq_some_iff.1 hj).1; omega
    obtain ⟨hp, hbd⟩ := h1 (X.getD j 0) e ((getX j hj').trans hj)
    exact ⟨hp, fun b hb => ⟨.inr ((memN b).2 ⟨_, memX j hj', hb⟩), (hbd b hb).2⟩⟩
  · have hj' : j < X.length := by omega
    have hk' : k < X.length := by omega
    obtain ⟨_, e1⟩ := someX j hj'
    obtain ⟨_, e2⟩ := someX k hk'
    exact h2 _ _ (ltof e1) (ltof e2) (injX j k hj' hk' hjk) b hb
  · obtain ⟨fq, k1, k2⟩ := hs
    refine ⟨fun j => if j < esY.length then fp (Y.getD j 0) else fq (j - esY.length), fun j e hj => ?_, fun j k hj hk hjk b hbj hbk => ?_⟩
    · by_cases hjl : j < esY.length
      · rw [List.getElem?_append_left hjl] at hj
        simp only [if_pos hjl]
        have hi := (getY j (by omega)).trans hj
        obtain ⟨hp, hbd⟩ := h1 _ e hi
        have hnx : Y.getD j 0 ∉ X := fun h => disj _ h _ (memY j (by omega)) rfl
        exact ⟨e.loc wr w _ hp fun b hb => hw.block b (hbd b hb).2 (outN _ (ltof hi) hnx b hb), fun b hb => ⟨(hbd b hb).1, Nat.lt_of_lt_of_le (hbd b hb).2 hw.size⟩⟩
      · rw [List.getElem?_append_right (by omega)] at hj
        simp only [if_neg hjl]
        obtain ⟨hp, hbd⟩ := k1 _ e hj
        refine ⟨hp, fun b hb => ⟨?_, (hbd b hb).2⟩⟩
        rcases (hbd b hb).1 with h | h
        · exact .inl (Nat.le_trans hB h)
        · obtain ⟨i, hi, hbi⟩ := (memN b).1 h
          exact ((h1 i _ (List.getElem?_eq_getElem (inEs i hi))).2 b hbi).1
    · have apart : ∀ j k, j < esY.length → k < es'.length → ∀ b, b ∈ fp (Y.getD j 0) → b ∈ fq k → False := fun j k hj hk b hbj hbk => by
        obtain ⟨e, hi⟩ := someY j (by omega)
        have a1 := ((h1 _ e hi).2 b hbj).2
        rcases ((k1 k _ (List.getElem?_eq_getElem hk)).2 b hbk).1 with h | h
        · omega
        · exact outN _ (ltof hi) (fun h => disj _ h _ (memY j (by omega)) rfl) b hbj h
      simp only [List.length_append] at hj hk
      by_cases hjl : j < esY.length <;> by_cases hkl : k < esY.length
      · simp only [if_pos hjl] at hbj
        simp only [if_pos hkl] at hbk
        obtain ⟨_, e1⟩ := someY j (by omega)
        obtain ⟨_, e2⟩ := someY k (by omega)
        exact h2 _ _ (ltof e1) (ltof e2) (injY j k (by omega) (by omega) hjk) b hbj hbk
      · simp only [if_pos hjl] at hbj
        simp only [if_neg hkl] at hbk
        exact apart j _ hjl (by omega) b hbj hbk
      · simp only [if_neg hjl] at hbj
        simp only [if_pos hkl] at hbk
        exact apart k _ hkl (by omega) b hbk hbj
      · simp only [if_neg hjl] at hbj
        simp only [if_neg hkl] at hbk
        exact k2 _ _ (by omega) (by omega) (by omega) b hbj hbk

section
variable {P : Program} {w0 : World} {M N : List Nat} {n : Nat} {wr : World} {ops : Array Oper} {E : Act → World → Prop} {L : List Nat} {s : Bool}
  {env : List (Nat × Value)} {es es0 : List Own} {r : List (Nat × Kd)} {i : Nat} {op : Op} {ty : TypeId} {ps : String} {af : Array Edge}

def JH (P : Program) (N : List Nat) (n : Nat) (wr : World) (ops : Array Oper) (E : Act → World → Prop) (L : List Nat) (s : Bool) (env : List (Nat × Value)) (es : List Own) (l : List (Nat × Kd)) : Prop :=
  ∀ a w, St wr N n env es a w → (s = true → Bw [] wr w) → wpOrd P ops (OnlyN E) (Bw [] wr) (Bw N wr) L l a w

theorem JX.drawH {Q : Exit → Act → World → Prop} {id : Nat} (l : List (Nat × Kd)) (L X Y : List Nat) (esX esY : List Own) (hm : P.follows .mixedOrders = true) (hl : cnt l = ops.size)
    (hok : (Region.noSelect ops && okOrd .any ops L l (Array.replicate ops.size false)) = true) (hn : (X ++ Y).Nodup) (hX : X.map (fun i => es[i]?) = esX.map some) (hY : Y.map (fun i => es[i]?) = esY.map some)
    (k : ∀ wr N, Fr w0 M es X wr N → JH P N n wr ops (fun a w => ∃ es', St wr N n [] es' a w ∧ (St w0 M n [] (esY ++ es') a w → E a w)) L true env esX l) : JX P w0 M n E Q env es (.region id ops true) := fun a w h => by
  have hC : Cl w0 M es { w with drawn := w.drawn + 1 } := ⟨h.drew.bw, h.drew.sep⟩
  obtain ⟨N, hF, hsX, hback⟩ := Sep.split hC X Y esX esY hn hX hY
  refine wp_region_ord (E := fun a w => ∃ es', St _ N n [] es' a w ∧ (St w0 M n [] (esY ++ es') a w → E a w)) l L hm hl hok (k _ N hF a _ ⟨h.env, Bw.refl _ _, hsX⟩ fun _ => Bw.refl _ _) fun a w h => ?_
  obtain ⟨es', hS, hE⟩ := h
  exact hE ⟨hS.env, hC.1.trans hS.bw hF.ge, hback w es' hS.bw hS.sep⟩

theorem JH.nil {esY : List Own} (k : JE w0 M n E env (esY ++ es)) : JH P N n wr ops (fun a w => ∃ es', St wr N n [] es' a w ∧ (St w0 M n [] (esY ++ es') a w → E a w)) L s env es [] := fun a w h _ =>
  ⟨es, ⟨⟨h.env.dfr, h.env.size, fun t v ht => by simp [lk] at ht⟩, h.bw, h.sep⟩, fun h2 => k a w ⟨h.env, h2.bw, h2.sep⟩⟩

theorem JH.pure {d : Nat} {v : Value} (ho : ops[i]? = some { dst := some d, op := op, type := ty, pos := ps, after := af, guard := none })
    (hy : Yl P (fun _ => True) env { dst := some d, op := op, type := ty, pos := ps, after := af, guard := none } v) (hd : Nat.blt d n = true)
    (k : JH P N n wr ops E L s ((d, v) :: env) es r) : JH P N n wr ops E L s env es ((i, .pure) :: r) := fun a w h hw =>
  ⟨_, v, ho, .inl ⟨rfl, fun w' _ => hy _ h.env.agr w' trivial⟩, k _ _ (h.put hd v) hw⟩
theorem JH.read {d : Nat} {v : Value} (ho : ops[i]? = some { dst := some d, op := op, type := ty, pos := ps, after := af, guard := none })
    (hy : Yl P (Bw N wr) env { dst := some d, op := op, type := ty, pos := ps, after := af, guard := none } v) (hd : Nat.blt d n = true)
    (k : JH P N n wr ops E L s ((d, v) :: env) es r) : JH P N n wr ops E L s env es ((i, .read) :: r) := fun a w h hw =>
  ⟨_, v, ho, .inl ⟨rfl, fun w' hw' => hy _ h.env.agr w' hw'⟩, h.bw, k _ _ (h.put hd v) hw⟩
theorem JH.read0 {d : Nat} {v : Value} (ho : ops[i]? = some { dst := some d, op := op, type := ty, pos := ps, after := af, guard := none })
    (hy : Yl P (Bw [] wr) env { dst := some d, op := op, type := ty, pos := ps, after := af, guard := none } v) (hd : Nat.blt d n = true)
    (k : JH P N n wr ops E L true ((d, v) :: env) es r) : JH P N n wr ops E L true env es ((i, .read0) :: r) := fun a w h hw =>
  ⟨_, v, ho, .inl ⟨rfl, fun w' hw' => hy _ h.env.agr w' hw'⟩, hw rfl, k _ _ (h.put hd v) hw⟩
theorem JH.gpure {d j t : Nat} {b : Bool} {v : Value} (ho : ops[i]? = some { dst := some d, op := op, type := ty, pos := ps, after := af, guard := some (j, b) }) (hj : (ops[j]?).bind (·.dst) = some t) (ht : lk env t = some (.bool b))
    (hy : Yl P (fun _ => True) env { dst := some d, op := op, type := ty, pos := ps, after := af, guard := some (j, b) } v) (hd : Nat.blt d n = true)
    (k : JH P N n wr ops E L s ((d, v) :: env) es r) : JH P N n wr ops E L s env es ((i, .pure) :: r) := fun a w h hw =>
  ⟨_, v, ho, .inl ⟨by simp [Region.wanted, yielded_env h.env hj ht], fun w' _ => hy _ h.env.agr w' trivial⟩, k _ _ (h.put hd v) hw⟩
theorem JH.gread {d j t : Nat} {b : Bool} {v : Value} (ho : ops[i]? = some { dst := some d, op := op, type := ty, pos := ps, after := af, guard := some (j, b) }) (hj : (ops[j]?).bind (·.dst) = some t) (ht : lk env t = some (.bool b))
    (hy : Yl P (Bw N wr) env { dst := some d, op := op, type := ty, pos := ps, after := af, guard := some (j, b) } v) (hd : Nat.blt d n = true)
    (k : JH P N n wr ops E L s ((d, v) :: env) es r) : JH P N n wr ops E L s env es ((i, .read) :: r) := fun a w h hw =>
  ⟨_, v, ho, .inl ⟨by simp [Region.wanted, yielded_env h.env hj ht], fun w' hw' => hy _ h.env.agr w' hw'⟩, h.bw, k _ _ (h.put hd v) hw⟩
theorem JH.gread0 {d j t : Nat} {b : Bool} {v : Value} (ho : ops[i]? = some { dst := some d, op := op, type := ty, pos := ps, after := af, guard := some (j, b) }) (hj : (ops[j]?).bind (·.dst) = some t) (ht : lk env t = some (.bool b))
    (hy : Yl P (Bw [] wr) env { dst := some d, op := op, type := ty, pos := ps, after := af, guard := some (j, b) } v) (hd : Nat.blt d n = true)
    (k : JH P N n wr ops E L true ((d, v) :: env) es r) : JH P N n wr ops E L true env es ((i, .read0) :: r) := fun a w h hw =>
  ⟨_, v, ho, .inl ⟨by simp [Region.wanted, yielded_env h.env hj ht], fun w' hw' => hy _ h.env.agr w' hw'⟩, hw rfl, k _ _ (h.put hd v) hw⟩

theorem JH.gnot {d : Option Tmp} {j : Nat} {b : Bool} {kd : Kd} (ho : ops[i]? = some { dst := d, op := op, type := ty, pos := ps, after := af, guard := some (j, b) }) (hd : dok n d = true)
    (hkd : (match kd with | .two _ => false | .three _ _ => false | .twoP _ _ => false | .tree _ => false | .read0 => s | _ => true) = true)
    (hn : ∀ a, EnvOk n env a → Region.wanted { dst := d, op := op, type := ty, pos := ps, after := af, guard := some (j, b) } (yielded ops a.tmps) = false)
    (k : JH P N n wr ops E L s (putE d undef env) es r) : JH P N n wr ops E L s env es ((i, kd) :: r) := fun a w h hw => by
  cases kd with
  | pure => exact ⟨_, undef, ho, .inr ⟨hn a h.env, rfl⟩, k _ _ (h.putE hd undef) hw⟩
  | read => exact ⟨_, undef, ho, .inr ⟨hn a h.env, rfl⟩, h.bw, k _ _ (h.putE hd undef) hw⟩
  | read0 => exact ⟨_, undef, ho, .inr ⟨hn a h.env, rfl⟩, hw hkd, k _ _ (h.putE hd undef) hw⟩
  | must =>
    show wpSt P ops _ _ _ _ i _ a w
    unfold wpSt wpOp
    simp only [ho, hn a h.env, Bool.false_eq_true, if_false]
    exact ⟨⟨fun x => x, .inr fun x => x⟩, k _ _ (h.putE hd undef) hw⟩
  | two j => cases hkd
  | three j k => cases hkd
  | twoP j ps => cases hkd
  | tree t => cases hkd
theorem JH.gskip {d : Option Tmp} {j t : Nat} {b c : Bool} {kd : Kd} (ho : ops[i]? = some { dst := d, op := op, type := ty, pos := ps, after := af, guard := some (j, b) }) (hj : (ops[j]?).bind (·.dst) = some t) (ht : lk env t = some (.bool c)) (hc : (c == b) = false) (hd : dok n d = true)
    (hkd : (match kd with | .two _ => false | .three _ _ => false | .twoP _ _ => false | .tree _ => false | .read0 => s | _ => true) = true)
    (k : JH P N n wr ops E L s (putE d undef env) es r) : JH P N n wr ops E L s env es ((i, kd) :: r) := JH.gnot ho hd hkd (fun a h => wanted_not h hj ht hc) k
theorem JH.gnone {d : Option Tmp} {j t : Nat} {b : Bool} {kd : Kd} (ho : ops[i]? = some { dst := d, op := op, type := ty, pos := ps, after := af, guard := some (j, b) }) (hj : (ops[j]?).bind (·.dst) = some t) (ht : lk env t = some undef) (hd : dok n d = true)
    (hkd : (match kd with | .two _ => false | .three _ _ => false | .twoP _ _ => false | .tree _ => false | .read0 => s | _ => true) = true)
    (k : JH P N n wr ops E L s (putE d undef env) es r) : JH P N n wr ops E L s env es ((i, kd) :: r) := JH.gnot ho hd hkd (fun a h => by simp [Region.wanted, yielded_undef h hj ht]) k

theorem JH.must_of {o : Oper} {kp : Bool} {T : Value → List Own → Prop} (ho : ops[i]? = some o) (hw : ∀ a, EnvOk n env a → Region.wanted o (yielded ops a.tmps) = true)
    (hy : Ef P wr N es env o kp T) (hd : dok n o.dst = true) (hL : (kp || L.contains i) = true)
    (k : ∀ v es', T v es' → JH P N n wr ops E L (s && kp) (putE o.dst v env) es' r) : JH P N n wr ops E L s env es ((i, .must) :: r) := fun a w h hs => by
  show wpSt P ops _ _ _ _ i _ a w
  unfold wpSt wpOp
  simp only [ho, hw a h.env, if_true]
  refine .inl (wp_of_ef hy h hd fun v es' w' hT hk hS => ⟨⟨fun _ => hS.bw, ?_⟩, k v es' hT _ _ hS fun hsk => ?_⟩)
  · cases kp with
    | true => exact .inr fun hb => hb.trans0 (hk rfl)
    | false => exact .inl (by simpa using hL)
  · simp only [Bool.and_eq_true] at hsk
    exact (hs hsk.1).trans0 (hk hsk.2)
theorem JH.must {d : Option Tmp} {kp : Bool} {T : Value → List Own → Prop} (ho : ops[i]? = some { dst := d, op := op, type := ty, pos := ps, after := af, guard := none })
    (hy : Ef P wr N es env { dst := d, op := op, type := ty, pos := ps, after := af, guard := none } kp T) (hd : dok n d = true) (hL : (kp || L.contains i) = true)
    (k : ∀ v es', T v es' → JH P N n wr ops E L (s && kp) (putE d v env) es' r) : JH P N n wr ops E L s env es ((i, .must) :: r) := JH.must_of ho (fun _ _ => rfl) hy hd hL k
theorem JH.gmust {d : Option Tmp} {j t : Nat} {b : Bool} {kp : Bool} {T : Value → List Own → Prop} (ho : ops[i]? = some { dst := d, op := op, type := ty, pos := ps, after := af, guard := some (j, b) }) (hj : (ops[j]?).bind (·.dst) = some t) (ht : lk env t = some (.bool b))
    (hy : Ef P wr N es env { dst := d, op := op, type := ty, pos := ps, after := af, guard := some (j, b) } kp T) (hd : dok n d = true) (hL : (kp || L.contains i) = true)
    (k : ∀ v es', T v es' → JH P N n wr ops E L (s && kp) (putE d v env) es' r) : JH P N n wr ops E L s env es ((i, .must) :: r) :=
  JH.must_of ho (fun a h => by simp [Region.wanted, yielded_env h hj ht]) hy hd hL k

theorem JH.mval_of {o : Oper} {v : Value} (ho : ops[i]? = some o) (hw : ∀ a, EnvOk n env a → Region.wanted o (yielded ops a.tmps) = true) (hy : Yl P (Cl wr N es) env o v) (hd : dok n o.dst = true)
    (k : JH P N n wr ops E L s (putE o.dst v env) es r) : JH P N n wr ops E L s env es ((i, .must) :: r) := fun a w h hs => by
  show wpSt P ops _ _ _ _ i _ a w
  unfold wpSt wpOp
  simp only [ho, hw a h.env, if_true]
  refine .inl ?_
  unfold Oper.wp
  rw [hy _ h.env.agr w ⟨h.bw, h.sep⟩]
  exact ⟨⟨fun x => x, .inr fun x => x⟩, k _ _ (h.putE hd v) hs⟩
theorem JH.mval {d : Nat} {v : Value} (ho : ops[i]? = some { dst := some d, op := op, type := ty, pos := ps, after := af, guard := none })
    (hy : Yl P (Cl wr N es) env { dst := some d, op := op, type := ty, pos := ps, after := af, guard := none } v) (hd : Nat.blt d n = true)
    (k : JH P N n wr ops E L s ((d, v) :: env) es r) : JH P N n wr ops E L s env es ((i, .must) :: r) := JH.mval_of ho (fun _ _ => rfl) hy hd k
theorem JH.gmval {d j t : Nat} {b : Bool} {v : Value} (ho : ops[i]? = some { dst := some d, op := op, type := ty, pos := ps, after := af, guard := some (j, b) }) (hj : (ops[j]?).bind (·.dst) = some t) (ht : lk env t = some (.bool b))
    (hy : Yl P (Cl wr N es) env { dst := some d, op := op, type := ty, pos := ps, after := af, guard := some (j, b) } v) (hd : Nat.blt d n = true)
    (k : JH P N n wr ops E L s ((d, v) :: env) es r) : JH P N n wr ops E L s env es ((i, .must) :: r) := JH.mval_of ho (fun a h => by simp [Region.wanted, yielded_env h hj ht]) hy hd k

theorem JH.two {j : Nat} (h1 : JH P N n wr ops E L s env es ((i, .must) :: (j, .must) :: r)) (h2 : JH P N n wr ops E L s env es ((j, .must) :: (i, .must) :: r)) : JH P N n wr ops E L s env es ((i, .two j) :: r) :=
  fun a w h hs => ⟨h1 a w h hs, h2 a w h hs⟩
theorem JH.twoP {j : Nat} {ps : List Nat} (h1 : JH P N n wr ops E L s env es ((i, .must) :: (ps.map (fun p => (p, Kd.pure)) ++ (j, .must) :: r))) (h2 : JH P N n wr ops E L s env es ((j, .must) :: (i, .must) :: (ps.map (fun p => (p, Kd.pure)) ++ r))) : JH P N n wr ops E L s env es ((i, .twoP j ps) :: r) :=
  fun a w h hs => ⟨wpSt_mono (fun a1 w1 k1 => wpOrd_pures ps _ a1 w1 k1) (h1 a w h hs), wpSt_mono (fun a1 w1 k1 => wpSt_mono (fun a2 w2 k2 => wpOrd_pures ps _ a2 w2 k2) k1) (h2 a w h hs)⟩
theorem JH.three {j k : Nat} (h1 : JH P N n wr ops E L s env es ((i, .must) :: (j, .two k) :: r)) (h2 : JH P N n wr ops E L s env es ((j, .must) :: (i, .two k) :: r)) (h3 : JH P N n wr ops E L s env es ((k, .must) :: (i, .two j) :: r)) : JH P N n wr ops E L s env es ((i, .three j k) :: r) :=
  fun a w h hs => ⟨h1 a w h hs, h2 a w h hs, h3 a w h hs⟩
theorem JH.set {d : Nat} {v : Value} (hv : lk env d = some v) (k : JH P N n wr ops E L s ((d, v) :: env) es r) : JH P N n wr ops E L s env es r := fun a w h => k a w (h.set hv)
theorem JH.nilrow {T : Type} (F : Nat) (e : Enc T) (k : JH P N n wr ops E L s env (es ++ [rowT F e none 0 0 []]) r) : JH P N n wr ops E L s env es r := fun a w h => k a w (h.nilrow F e)
theorem JH.cut {K : (List (Nat × Value) → List Own → Prop) → Prop} (m : Nat) (h1 : K (fun env' es' => JH P N n wr ops E L s env' es' (r.drop m))) (h2 : K (fun env' es' => JH P N n wr ops E L s env' es' (r.drop m)) → JH P N n wr ops E L s env es r) :
    JH P N n wr ops E L s env es r := h2 h1
theorem JH.cutS {K : (List (Nat × Value) → List Own → Prop) → Prop} (s' : Bool) (m : Nat) (h1 : K (fun env' es' => JH P N n wr ops E L s' env' es' (r.drop m))) (h2 : K (fun env' es' => JH P N n wr ops E L s' env' es' (r.drop m)) → JH P N n wr ops E L s env es r) :
    JH P N n wr ops E L s env es r := h2 h1
theorem JH.tpure {j : Nat} {t : OTr} (h : JH P N n wr ops E L s env es ((i, .pure) :: (0, .tree t) :: r)) : JH P N n wr ops E L s env es ((j, .tree (.pure i t)) :: r) := fun a w h1 h2 => h a w h1 h2
theorem JH.tread {j : Nat} {t : OTr} (h : JH P N n wr ops E L s env es ((i, .read) :: (0, .tree t) :: r)) : JH P N n wr ops E L s env es ((j, .tree (.read i t)) :: r) := fun a w h1 h2 => h a w h1 h2
theorem JH.tread0 {j : Nat} {t : OTr} (h : JH P N n wr ops E L s env es ((i, .read0) :: (0, .tree t) :: r)) : JH P N n wr ops E L s env es ((j, .tree (.read0 i t)) :: r) := fun a w h1 h2 => h a w h1 h2
theorem JH.talt {j : Nat} {t u : OTr} (h : JH P N n wr ops E L s env es ((i, .must) :: (0, .tree t) :: r)) (k : JH P N n wr ops E L s env es ((0, .tree u) :: r)) : JH P N n wr ops E L s env es ((j, .tree (.alt i t u)) :: r) := fun a w h1 h2 => ⟨h a w h1 h2, k a w h1 h2⟩
theorem JH.tnil {j : Nat} : JH P N n wr ops E L s env es ((j, .tree .nil) :: r) := fun _ _ _ _ => trivial
theorem JH.tdone {j : Nat} (h : JH P N n wr ops E L s env es r) : JH P N n wr ops E L s env es ((j, .tree .done) :: r) := fun a w h1 h2 => h a w h1 h2
theorem JH.weak {env' : List (Nat × Value)} {es' : List Own} (ix : List Nat) (k : JH P N n wr ops E L s env' es' r) (hs : Sub env' env) (hn : ix.Nodup) (he : ix.map (fun i => es[i]?) = es'.map some) : JH P N n wr ops E L s env es r :=
  fun a w h => k a w (h.weak hs ix hn he)

end
end Go.Sh
