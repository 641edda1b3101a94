/- A region that draws its order: one walk, in an order of one's choice, serves every order. Operations that yield in every world ('pure'), or in every world of a class S ('read'), may come early or late; all others come up alone. -/
import Derived.Test.YtinipjijgggjkaaOps
import Derived.StillTail
namespace Go.Sh
open Go Go.RowKit

section
variable {P : Program} {ops : Array Oper} {Q : Exit → Act → World → Prop} {md : Region.Mode} {S S1 : World → Prop} {L : List Nat}

/-- Whatever order is picked; the class S1 is kept by every operation, S0 by those outside L. -/
def wpAnyG (P : Program) (md : Region.Mode) (ops : Array Oper) (Q : Exit → Act → World → Prop) (S S1 : World → Prop) (L : List Nat) : Nat → Array Bool → Act → World → Prop
  | 0, listed, a, w => Region.ready md ops listed = [] ∧ Q .normal a w
  | fuel + 1, listed, a, w =>
    (Region.ready md ops listed = [] → Q .normal a w) ∧
    ∀ i ∈ Region.ready md ops listed, wpOp P ops Q i (fun a' w' => ((S1 w → S1 w') ∧ (L.contains i = true ∨ (S w → S w'))) ∧ wpAnyG P md ops Q S S1 L fuel (listed.setIfInBounds i true) a' w') a w

theorem wpAny_of_G : ∀ (fuel : Nat) (listed : Array Bool) (a : Act) (w : World), wpAnyG P md ops Q S S1 L fuel listed a w → wpAny P md ops Q fuel listed a w
  | 0, _, _, _, h => h
  | fuel + 1, _, _, _, h => ⟨h.1, fun i hi => wpOp_mono (fun a' w' h' => wpAny_of_G fuel _ a' w' h'.2) (h.2 i hi)⟩

theorem wpAnyG_first {S' : World → Prop} {i : Nat} {oi : Oper} {v : Value} (hi : ops[i]? = some oi) (hsel : ∀ (j : Nat) (o : Oper) cs b, ops[j]? = some o → o.op ≠ .select cs b)
    (hQ : ∀ c a w, Q (.panic c) (a.put oi.dst v) w → Q (.panic c) a w)
    (hpres : ∀ j oj, ops[j]? = some oj → (∀ e ∈ oj.after, Region.binds md e = true → e.on ≠ i) → ∀ w w', ((S1 w → S1 w') ∧ (L.contains j = true ∨ (S w → S w'))) → S' w → S' w') :
    ∀ (fuel : Nat) (listed : Array Bool) (a : Act) (w : World),
      (∀ j oj, ops[j]? = some oj → j ≠ i → listed.getD j true = false → (∀ e ∈ oj.after, Region.binds md e = true → e.on ≠ i) → oi.apart ops oj = true) →
      i ∈ Region.ready md ops listed → YieldsIf P ops S' oi v a → S' w →
      wpAnyG P md ops Q S S1 L fuel (listed.setIfInBounds i true) (a.put oi.dst v) w → wpAnyG P md ops Q S S1 L (fuel + 1) listed a w := by
  intro fuel
  induction fuel with
  | zero =>
    intro listed a w _ hr hy hS H
    refine ⟨fun h => (by rw [h] at hr; cases hr), fun j hj => ?_⟩
    by_cases hji : j = i
    · subst hji; exact hy.wpOp hi hS ⟨⟨id, .inr id⟩, H⟩
    · have := ready_mono hj hji
      rw [H.1] at this
      cases this
  | succ fuel ih =>
    intro listed a w hfree hr hy hS H
    refine ⟨fun h => (by rw [h] at hr; cases hr), fun j hj => ?_⟩
    by_cases hji : j = i
    · subst hji; exact hy.wpOp hi hS ⟨⟨id, .inr id⟩, H⟩
    · have h1 := H.2 j (ready_mono hj hji)
      obtain ⟨hjun, oj, hoj, hall⟩ := mem_ready.1 hj
      have hnot : ∀ e ∈ oj.after, Region.binds md e = true → e.on ≠ i := fun e he hb heq => by
        have h1 := hall e he hb
        have h0 := (mem_ready.1 hr).1
        rw [heq] at h1
        rcases Nat.lt_or_ge i listed.size with h' | h'
        · simp [h'] at h0 h1; rw [h0] at h1; cases h1
        · simp [Array.getElem?_eq_none h'] at h1
      have h2 := wpOp_putIf hoj (hfree j oj hoj hji hjun hnot) (fun cs b => hsel i oi cs b hi) (fun cs b => hsel j oj cs b hoj) hQ hy h1
      have hfree' : ∀ k ok, ops[k]? = some ok → k ≠ i → (listed.setIfInBounds j true).getD k true = false →
          (∀ e ∈ ok.after, Region.binds md e = true → e.on ≠ i) → oi.apart ops ok = true := fun k ok hk hki hun hno => by
        refine hfree k ok hk hki ?_ hno
        by_cases hjk : j = k
        · subst hjk; exact hjun
        · rw [getD_set_ne true hjk] at hun; exact hun
      refine wpOp_mono (fun a' w' h3 => ⟨h3.2.1, ih (listed.setIfInBounds j true) a' w' hfree' (ready_mono hr (Ne.symm hji)) h3.1 (hpres j oj hoj hnot w w' h3.2.1 hS) ?_⟩) h2
      rw [Array.setIfInBounds_comm _ _ hji]
      exact h3.2.2

/-- A tree of orders: at each place one free operation, or all that may come next. -/
inductive OTr where
  | done
  | nil
  | pure (i : Nat) (t : OTr)
  | read (i : Nat) (t : OTr)
  | read0 (i : Nat) (t : OTr)
  | alt (i : Nat) (t u : OTr)
def OTr.n : OTr → Nat
  | .done => 0
  | .nil => 0
  | .pure _ t => t.n + 1
  | .read _ t => t.n + 1
  | .read0 _ t => t.n + 1
  | .alt _ t _ => t.n + 1
def OTr.heads : OTr → List Nat
  | .alt i _ u => i :: u.heads
  | _ => []
/-- What is done behind the tree. -/
def OTr.fin : OTr → Array Bool → Array Bool
  | .pure i t, listed => t.fin (listed.setIfInBounds i true)
  | .read i t, listed => t.fin (listed.setIfInBounds i true)
  | .read0 i t, listed => t.fin (listed.setIfInBounds i true)
  | .alt i t _, listed => t.fin (listed.setIfInBounds i true)
  | _, listed => listed
def okTr (md : Region.Mode) (ops : Array Oper) (L : List Nat) (f : Array Bool) : OTr → Bool → Array Bool → Bool
  | .done, top, listed => top && listed == f
  | .nil, top, _ => !top
  | .pure i t, top, listed => top && (Region.ready md ops listed).contains i && Region.free md ops listed i && okTr md ops L f t true (listed.setIfInBounds i true)
  | .read i t, top, listed => top && (Region.ready md ops listed).contains i && Region.free md ops listed i && okTr md ops L f t true (listed.setIfInBounds i true)
  | .read0 i t, top, listed => top && (Region.ready md ops listed).contains i && Region.free md ops listed i && L.all (fun j => Region.waitsFor md ops j i) && okTr md ops L f t true (listed.setIfInBounds i true)
  | .alt i t u, top, listed => (!top || Region.ready md ops listed == i :: u.heads) && (u.heads.isEmpty || u.n == t.n + 1) && okTr md ops L f t true (listed.setIfInBounds i true) && okTr md ops L f u false listed

/-- pure: yields in every world; read: in every world of S1; read0: in every world of S; must: comes up alone; two, three: come up in whatever order, and nothing else. -/
inductive Kd where
  | pure
  | read
  | read0
  | must
  | two (j : Nat)
  | three (j k : Nat)
  | twoP (j : Nat) (ps : List Nat)
  | tree (t : OTr)

def Kd.n : Kd → Nat
  | .two _ => 2
  | .three _ _ => 3
  | .twoP _ ps => ps.length + 2
  | .tree t => t.n
  | _ => 1
def cnt : List (Nat × Kd) → Nat
  | [] => 0
  | (_, k) :: r => cnt r + k.n

/-- Pure ones, one after the other. -/
def okPs (md : Region.Mode) (ops : Array Oper) : List Nat → Array Bool → Bool
  | [], _ => true
  | p :: ps, listed => (Region.ready md ops listed).contains p && Region.free md ops listed p && okPs md ops ps (listed.setIfInBounds p true)
def finPs : List Nat → Array Bool → Array Bool
  | [], listed => listed
  | p :: ps, listed => finPs ps (listed.setIfInBounds p true)

/-- The order chosen, checked. -/
def okOrd (md : Region.Mode) (ops : Array Oper) (L : List Nat) : List (Nat × Kd) → Array Bool → Bool
  | [], listed => (Region.ready md ops listed).isEmpty
  | (i, .pure) :: r, listed => (Region.ready md ops listed).contains i && Region.free md ops listed i && okOrd md ops L r (listed.setIfInBounds i true)
  | (i, .read) :: r, listed => (Region.ready md ops listed).contains i && Region.free md ops listed i && okOrd md ops L r (listed.setIfInBounds i true)
  | (i, .read0) :: r, listed => (Region.ready md ops listed).contains i && Region.free md ops listed i && L.all (fun j => Region.waitsFor md ops j i) && okOrd md ops L r (listed.setIfInBounds i true)
  | (i, .must) :: r, listed => (Region.ready md ops listed == [i]) && okOrd md ops L r (listed.setIfInBounds i true)
  | (i, .two j) :: r, listed => (Region.ready md ops listed == [i, j]) && (Region.ready md ops (listed.setIfInBounds i true) == [j]) && (Region.ready md ops (listed.setIfInBounds j true) == [i]) && (i != j) &&
      okOrd md ops L r ((listed.setIfInBounds i true).setIfInBounds j true)
  | (i, .three j k) :: r, listed => (Region.ready md ops listed == [i, j, k]) && (i != j) && (i != k) && (j != k) &&
      (Region.ready md ops (listed.setIfInBounds i true) == [j, k]) && (Region.ready md ops (listed.setIfInBounds j true) == [i, k]) && (Region.ready md ops (listed.setIfInBounds k true) == [i, j]) &&
      (Region.ready md ops ((listed.setIfInBounds i true).setIfInBounds j true) == [k]) && (Region.ready md ops ((listed.setIfInBounds i true).setIfInBounds k true) == [j]) && (Region.ready md ops ((listed.setIfInBounds j true).setIfInBounds k true) == [i]) &&
      okOrd md ops L r (((listed.setIfInBounds i true).setIfInBounds j true).setIfInBounds k true)
  | (i, .twoP j ps) :: r, listed => (Region.ready md ops listed == [i, j] || Region.ready md ops listed == [j, i]) && okPs md ops ps (listed.setIfInBounds i true) && (Region.ready md ops (finPs ps (listed.setIfInBounds i true)) == [j]) &&
      (Region.ready md ops (listed.setIfInBounds j true) == [i]) && okPs md ops ps ((listed.setIfInBounds j true).setIfInBounds i true) && (finPs ps ((listed.setIfInBounds j true).setIfInBounds i true) == (finPs ps (listed.setIfInBounds i true)).setIfInBounds j true) &&
      okOrd md ops L r ((finPs ps (listed.setIfInBounds i true)).setIfInBounds j true)
  | (_, .tree t) :: r, listed => okTr md ops L (t.fin listed) t true listed && okOrd md ops L r (t.fin listed)

/-- One operation, and what it keeps. -/
def wpSt (P : Program) (ops : Array Oper) (Q : Exit → Act → World → Prop) (S S1 : World → Prop) (L : List Nat) (i : Nat) (K : Act → World → Prop) (a : Act) (w : World) : Prop :=
  wpOp P ops Q i (fun a' w' => ((S1 w → S1 w') ∧ (L.contains i = true ∨ (S w → S w'))) ∧ K a' w') a w

theorem wpSt_mono {i : Nat} {a : Act} {w : World} {K K' : Act → World → Prop} (h : ∀ a w, K a w → K' a w) (hh : wpSt P ops Q S S1 L i K a w) : wpSt P ops Q S S1 L i K' a w :=
  wpOp_mono (fun a' w' h' => ⟨h'.1, h a' w' h'.2⟩) hh

def wpPs (P : Program) (ops : Array Oper) : List Nat → (Act → World → Prop) → Act → World → Prop
  | [], K, a, w => K a w
  | p :: ps, K, a, w => ∃ o v, ops[p]? = some o ∧ YieldsIf P ops (fun _ => True) o v a ∧ wpPs P ops ps K (a.put o.dst v) w

def wpTr (P : Program) (ops : Array Oper) (Q : Exit → Act → World → Prop) (S S1 : World → Prop) (L : List Nat) (K : Act → World → Prop) : OTr → Act → World → Prop
  | .done, a, w => K a w
  | .nil, _, _ => True
  | .pure i t, a, w => ∃ o v, ops[i]? = some o ∧ YieldsIf P ops (fun _ => True) o v a ∧ wpTr P ops Q S S1 L K t (a.put o.dst v) w
  | .read i t, a, w => ∃ o v, ops[i]? = some o ∧ YieldsIf P ops S1 o v a ∧ S1 w ∧ wpTr P ops Q S S1 L K t (a.put o.dst v) w
  | .read0 i t, a, w => ∃ o v, ops[i]? = some o ∧ YieldsIf P ops S o v a ∧ S w ∧ wpTr P ops Q S S1 L K t (a.put o.dst v) w
  | .alt i t u, a, w => wpSt P ops Q S S1 L i (wpTr P ops Q S S1 L K t) a w ∧ wpTr P ops Q S S1 L K u a w

def wpOrd (P : Program) (ops : Array Oper) (Q : Exit → Act → World → Prop) (S S1 : World → Prop) (L : List Nat) : List (Nat × Kd) → Act → World → Prop
  | [], a, w => Q .normal a w
  | (i, .pure) :: r, a, w => ∃ o v, ops[i]? = some o ∧ YieldsIf P ops (fun _ => True) o v a ∧ wpOrd P ops Q S S1 L r (a.put o.dst v) w
  | (i, .read) :: r, a, w => ∃ o v, ops[i]? = some o ∧ YieldsIf P ops S1 o v a ∧ S1 w ∧ wpOrd P ops Q S S1 L r (a.put o.dst v) w
  | (i, .read0) :: r, a, w => ∃ o v, ops[i]? = some o ∧ YieldsIf P ops S o v a ∧ S w ∧ wpOrd P ops Q S S1 L r (a.put o.dst v) w
  | (i, .must) :: r, a, w => wpSt P ops Q S S1 L i (wpOrd P ops Q S S1 L r) a w
  | (i, .two j) :: r, a, w => wpSt P ops Q S S1 L i (wpSt P ops Q S S1 L j (wpOrd P ops Q S S1 L r)) a w ∧ wpSt P ops Q S S1 L j (wpSt P ops Q S S1 L i (wpOrd P ops Q S S1 L r)) a w
  | (i, .three j k) :: r, a, w =>
      (wpSt P ops Q S S1 L i (fun a w => wpSt P ops Q S S1 L j (wpSt P ops Q S S1 L k (wpOrd P ops Q S S1 L r)) a w ∧ wpSt P ops Q S S1 L k (wpSt P ops Q S S1 L j (wpOrd P ops Q S S1 L r)) a w) a w) ∧
      (wpSt P ops Q S S1 L j (fun a w => wpSt P ops Q S S1 L i (wpSt P ops Q S S1 L k (wpOrd P ops Q S S1 L r)) a w ∧ wpSt P ops Q S S1 L k (wpSt P ops Q S S1 L i (wpOrd P ops Q S S1 L r)) a w) a w) ∧
      (wpSt P ops Q S S1 L k (fun a w => wpSt P ops Q S S1 L i (wpSt P ops Q S S1 L j (wpOrd P ops Q S S1 L r)) a w ∧ wpSt P ops Q S S1 L j (wpSt P ops Q S S1 L i (wpOrd P ops Q S S1 L r)) a w) a w)
  | (i, .twoP j ps) :: r, a, w => wpSt P ops Q S S1 L i (wpPs P ops ps (wpSt P ops Q S S1 L j (wpOrd P ops Q S S1 L r))) a w ∧ wpSt P ops Q S S1 L j (wpSt P ops Q S S1 L i (wpPs P ops ps (wpOrd P ops Q S S1 L r))) a w
  | (_, .tree t) :: r, a, w => wpTr P ops Q S S1 L (wpOrd P ops Q S S1 L r) t a w

theorem wpOrd_pures : ∀ (ps : List Nat) (r : List (Nat × Kd)) (a : Act) (w : World), wpOrd P ops Q S S1 L (ps.map (fun p => (p, Kd.pure)) ++ r) a w → wpPs P ops ps (wpOrd P ops Q S S1 L r) a w
  | [], _, _, _, h => h
  | _ :: ps, r, _, _, h => let ⟨o, v, h1, h2, h3⟩ := h; ⟨o, v, h1, h2, wpOrd_pures ps r _ _ h3⟩

theorem wpAnyG_one {i m : Nat} {listed : Array Bool} {a : Act} {w : World} (hr : Region.ready md ops listed = [i]) (h : wpSt P ops Q S S1 L i (wpAnyG P md ops Q S S1 L m (listed.setIfInBounds i true)) a w) : wpAnyG P md ops Q S S1 L (m + 1) listed a w := by
  unfold wpAnyG
  refine ⟨fun h0 => (by rw [hr] at h0; cases h0), fun j hj => ?_⟩
  rw [hr] at hj
  simp at hj
  subst hj
  exact h
theorem wpAnyG_two {i j m : Nat} {listed : Array Bool} {a : Act} {w : World} (hr : Region.ready md ops listed = [i, j]) (h1 : wpSt P ops Q S S1 L i (wpAnyG P md ops Q S S1 L m (listed.setIfInBounds i true)) a w)
    (h2 : wpSt P ops Q S S1 L j (wpAnyG P md ops Q S S1 L m (listed.setIfInBounds j true)) a w) : wpAnyG P md ops Q S S1 L (m + 1) listed a w := by
  unfold wpAnyG
  refine ⟨fun h0 => (by rw [hr] at h0; cases h0), fun x hj => ?_⟩
  rw [hr] at hj
  simp at hj
  rcases hj with rfl | rfl
  · exact h1
  · exact h2
theorem wpAnyG_three {i j k m : Nat} {listed : Array Bool} {a : Act} {w : World} (hr : Region.ready md ops listed = [i, j, k]) (h1 : wpSt P ops Q S S1 L i (wpAnyG P md ops Q S S1 L m (listed.setIfInBounds i true)) a w)
    (h2 : wpSt P ops Q S S1 L j (wpAnyG P md ops Q S S1 L m (listed.setIfInBounds j true)) a w) (h3 : wpSt P ops Q S S1 L k (wpAnyG P md ops Q S S1 L m (listed.setIfInBounds k true)) a w) : wpAnyG P md ops Q S S1 L (m + 1) listed a w := by
  unfold wpAnyG
  refine ⟨fun h0 => (by rw [hr] at h0; cases h0), fun x hj => ?_⟩
  rw [hr] at hj
  simp at hj
  rcases hj with rfl | rfl | rfl
  · exact h1
  · exact h2
  · exact h3

theorem wpAnyG_ps (hs : Region.noSelect ops = true) (hQ : ∀ c a w, ¬ Q (.panic c) a w) {m : Nat} {K : Act → World → Prop} : ∀ (ps : List Nat) (listed : Array Bool), okPs md ops ps listed = true → (∀ a w, K a w → wpAnyG P md ops Q S S1 L m (finPs ps listed) a w) →
    ∀ a w, wpPs P ops ps K a w → wpAnyG P md ops Q S S1 L (m + ps.length) listed a w
  | [], _, _, hK, a, w, h => hK a w h
  | p :: ps, listed, hok, hK, a, w, h => by
    obtain ⟨o, v, hi, hy, h⟩ := h
    simp only [okPs, Bool.and_eq_true] at hok
    exact wpAnyG_first (S' := fun _ => True) hi (Region.noSelect_spec hs) (fun c a w h => absurd h (hQ _ _ _)) (fun _ _ _ _ _ _ _ _ => trivial) (m + ps.length) listed a w
      (Region.free_spec hi hok.1.2) (by simpa using hok.1.1) hy trivial (wpAnyG_ps hs hQ ps _ hok.2 hK _ _ h)

theorem wpAnyG_tr (hs : Region.noSelect ops = true) (hQ : ∀ c a w, ¬ Q (.panic c) a w) {m : Nat} {K : Act → World → Prop} {f : Array Bool} (hK : ∀ a w, K a w → wpAnyG P md ops Q S S1 L m f a w) :
    ∀ (t : OTr) (top : Bool) (listed : Array Bool) (a : Act) (w : World), okTr md ops L f t top listed = true → wpTr P ops Q S S1 L K t a w →
      (top = true → wpAnyG P md ops Q S S1 L (m + t.n) listed a w) ∧ ∀ i ∈ t.heads, wpSt P ops Q S S1 L i (wpAnyG P md ops Q S S1 L (m + t.n - 1) (listed.setIfInBounds i true)) a w
  | .done, top, listed, a, w, hok, h => by
    simp only [okTr, Bool.and_eq_true, beq_iff_eq] at hok
    obtain ⟨_, rfl⟩ := hok
    exact ⟨fun _ => hK a w h, by simp [OTr.heads]⟩
  | .nil, top, listed, a, w, hok, h => by
    refine ⟨fun ht => ?_, by simp [OTr.heads]⟩
    subst ht
    simp [okTr] at hok
  | .pure i t, top, listed, a, w, hok, h => by
    obtain ⟨o, v, hi, hy, h⟩ := h
    simp only [okTr, Bool.and_eq_true] at hok
    refine ⟨fun _ => ?_, by simp [OTr.heads]⟩
    exact wpAnyG_first (S' := fun _ => True) hi (Region.noSelect_spec hs) (fun c a w h => absurd h (hQ _ _ _)) (fun _ _ _ _ _ _ _ _ => trivial) (m + t.n) listed a w
      (Region.free_spec hi hok.1.2) (by simpa using hok.1.1.2) hy trivial ((wpAnyG_tr hs hQ hK t true _ _ _ hok.2 h).1 rfl)
  | .read i t, top, listed, a, w, hok, h => by
    obtain ⟨o, v, hi, hy, hS, h⟩ := h
    simp only [okTr, Bool.and_eq_true] at hok
    refine ⟨fun _ => ?_, by simp [OTr.heads]⟩
    exact wpAnyG_first (S' := S1) hi (Region.noSelect_spec hs) (fun c a w h => absurd h (hQ _ _ _)) (fun _ _ _ _ _ _ hd hw => hd.1 hw) (m + t.n) listed a w
      (Region.free_spec hi hok.1.2) (by simpa using hok.1.1.2) hy hS ((wpAnyG_tr hs hQ hK t true _ _ _ hok.2 h).1 rfl)
  | .read0 i t, top, listed, a, w, hok, h => by
    obtain ⟨o, v, hi, hy, hS, h⟩ := h
    simp only [okTr, Bool.and_eq_true] at hok
    refine ⟨fun _ => ?_, by simp [OTr.heads]⟩
    refine wpAnyG_first (S' := S) hi (Region.noSelect_spec hs) (fun c a w h => absurd h (hQ _ _ _)) (fun j oj hj hno w w' hd hw => ?_) (m + t.n) listed a w
      (Region.free_spec hi hok.1.1.2) (by simpa using hok.1.1.1.2) hy hS ((wpAnyG_tr hs hQ hK t true _ _ _ hok.2 h).1 rfl)
    rcases hd.2 with hd | hd
    · have h1 := List.all_eq_true.1 hok.1.2 j (by simpa using hd)
      obtain ⟨oj', hj', e, he, hb, hon⟩ := Region.waitsFor_spec h1
      rw [hj] at hj'
      cases hj'
      exact absurd hon (hno e he hb)
    · exact hd hw
  | .alt i t u, top, listed, a, w, hok, h => by
    simp only [okTr, Bool.and_eq_true] at hok
    obtain ⟨⟨⟨h1, h2⟩, h3⟩, h4⟩ := hok
    have hall : ∀ j ∈ i :: u.heads, wpSt P ops Q S S1 L j (wpAnyG P md ops Q S S1 L (m + t.n) (listed.setIfInBounds j true)) a w := fun j hj => by
      rcases List.mem_cons.1 hj with rfl | hj
      · exact wpSt_mono (fun a1 w1 k1 => (wpAnyG_tr hs hQ hK t true _ a1 w1 h3 k1).1 rfl) h.1
      · have hu := (wpAnyG_tr hs hQ hK u false listed a w h4 h.2).2 j hj
        have hn : u.n = t.n + 1 := by
          rcases Bool.or_eq_true _ _ ▸ h2 with h2 | h2
          · rw [List.isEmpty_iff.1 h2] at hj; cases hj
          · simpa using h2
        rw [hn] at hu
        exact hu
    refine ⟨fun ht => ?_, fun j hj => hall j hj⟩
    subst ht
    have hr : Region.ready md ops listed = i :: u.heads := by simpa using h1
    show wpAnyG P md ops Q S S1 L (m + t.n + 1) listed a w
    unfold wpAnyG
    refine ⟨fun h0 => (by rw [hr] at h0; cases h0), fun j hj => ?_⟩
    rw [hr] at hj
    exact hall j hj

theorem wpAnyG_ord (hs : Region.noSelect ops = true) (hQ : ∀ c a w, ¬ Q (.panic c) a w) : ∀ (l : List (Nat × Kd)) (listed : Array Bool) (a : Act) (w : World),
    okOrd md ops L l listed = true → wpOrd P ops Q S S1 L l a w → wpAnyG P md ops Q S S1 L (cnt l) listed a w
  | [], listed, a, w, hok, h => ⟨by simpa [okOrd] using hok, h⟩
  | (i, .pure) :: r, listed, a, w, hok, h => by
    obtain ⟨o, v, hi, hy, h⟩ := h
    simp only [okOrd, Bool.and_eq_true] at hok
    exact wpAnyG_first (S' := fun _ => True) hi (Region.noSelect_spec hs) (fun c a w h => absurd h (hQ _ _ _)) (fun _ _ _ _ _ _ _ _ => trivial) (cnt r) listed a w
      (Region.free_spec hi hok.1.2) (by simpa using hok.1.1) hy trivial (wpAnyG_ord hs hQ r _ _ _ hok.2 h)
  | (i, .read) :: r, listed, a, w, hok, h => by
    obtain ⟨o, v, hi, hy, hS, h⟩ := h
    simp only [okOrd, Bool.and_eq_true] at hok
    exact wpAnyG_first (S' := S1) hi (Region.noSelect_spec hs) (fun c a w h => absurd h (hQ _ _ _)) (fun _ _ _ _ _ _ hd hw => hd.1 hw) (cnt r) listed a w
      (Region.free_spec hi hok.1.2) (by simpa using hok.1.1) hy hS (wpAnyG_ord hs hQ r _ _ _ hok.2 h)
  | (i, .read0) :: r, listed, a, w, hok, h => by
    obtain ⟨o, v, hi, hy, hS, h⟩ := h
    simp only [okOrd, Bool.and_eq_true] at hok
    refine wpAnyG_first (S' := S) hi (Region.noSelect_spec hs) (fun c a w h => absurd h (hQ _ _ _)) (fun j oj hj hno w w' hd hw => ?_) (cnt r) listed a w
      (Region.free_spec hi hok.1.1.2) (by simpa using hok.1.1.1) hy hS (wpAnyG_ord hs hQ r _ _ _ hok.2 h)
    rcases hd.2 with hd | hd
    · have h1 := List.all_eq_true.1 hok.1.2 j (by simpa using hd)
      obtain ⟨oj', hj', e, he, hb, hon⟩ := Region.waitsFor_spec h1
      rw [hj] at hj'
      cases hj'
      exact absurd hon (hno e he hb)
    · exact hd hw
  | (i, .must) :: r, listed, a, w, hok, h => by
    simp only [okOrd, Bool.and_eq_true, beq_iff_eq] at hok
    exact wpAnyG_one hok.1 (wpSt_mono (fun a' w' h' => wpAnyG_ord hs hQ r _ a' w' hok.2 h') h)
  | (i, .two j) :: r, listed, a, w, hok, h => by
    simp only [okOrd, Bool.and_eq_true, beq_iff_eq, bne_iff_ne] at hok
    obtain ⟨⟨⟨⟨h1, h2⟩, h3⟩, hne⟩, h4⟩ := hok
    have hcm : (listed.setIfInBounds j true).setIfInBounds i true = (listed.setIfInBounds i true).setIfInBounds j true := Array.setIfInBounds_comm _ _ (Ne.symm hne)
    refine wpAnyG_two (m := cnt r + 1) h1 (wpSt_mono (fun a1 w1 k1 => wpAnyG_one h2 (wpSt_mono (fun a2 w2 k2 => wpAnyG_ord hs hQ r _ a2 w2 h4 k2) k1)) h.1)
      (wpSt_mono (fun a1 w1 k1 => wpAnyG_one h3 (wpSt_mono (fun a2 w2 k2 => ?_) k1)) h.2)
    rw [hcm]
    exact wpAnyG_ord hs hQ r _ a2 w2 h4 k2
  | (i, .three j k) :: r, listed, a, w, hok, h => by
    simp only [okOrd, Bool.and_eq_true, beq_iff_eq, bne_iff_ne] at hok
    obtain ⟨⟨⟨⟨⟨⟨⟨⟨⟨⟨h1, n1⟩, n2⟩, n3⟩, hi⟩, hj⟩, hk⟩, hij⟩, hik⟩, hjk⟩, h4⟩ := hok
    have fin : ∀ (l : Array Bool), l = ((listed.setIfInBounds i true).setIfInBounds j true).setIfInBounds k true → ∀ a w, wpOrd P ops Q S S1 L r a w → wpAnyG P md ops Q S S1 L (cnt r) l a w := fun l hl a w k2 => by
      rw [hl]
      exact wpAnyG_ord hs hQ r _ a w h4 k2
    have cji : (listed.setIfInBounds j true).setIfInBounds i true = (listed.setIfInBounds i true).setIfInBounds j true := Array.setIfInBounds_comm _ _ (Ne.symm n1)
    have cki : (listed.setIfInBounds k true).setIfInBounds i true = (listed.setIfInBounds i true).setIfInBounds k true := Array.setIfInBounds_comm _ _ (Ne.symm n2)
    have ckj : (listed.setIfInBounds k true).setIfInBounds j true = (listed.setIfInBounds j true).setIfInBounds k true := Array.setIfInBounds_comm _ _ (Ne.symm n3)
    have e2 : ((listed.setIfInBounds i true).setIfInBounds k true).setIfInBounds j true = ((listed.setIfInBounds i true).setIfInBounds j true).setIfInBounds k true := Array.setIfInBounds_comm _ _ (Ne.symm n3)
    have e3 : ((listed.setIfInBounds j true).setIfInBounds k true).setIfInBounds i true = ((listed.setIfInBounds i true).setIfInBounds j true).setIfInBounds k true := by rw [Array.setIfInBounds_comm _ _ (Ne.symm n2), cji]
    refine wpAnyG_three (m := cnt r + 2) h1 (wpSt_mono (fun a1 w1 k1 => ?_) h.1) (wpSt_mono (fun a1 w1 k1 => ?_) h.2.1) (wpSt_mono (fun a1 w1 k1 => ?_) h.2.2)
    · exact wpAnyG_two (m := cnt r + 1) hi (wpSt_mono (fun a2 w2 k2 => wpAnyG_one hij (wpSt_mono (fun a3 w3 k3 => fin _ rfl a3 w3 k3) k2)) k1.1)
        (wpSt_mono (fun a2 w2 k2 => wpAnyG_one hik (wpSt_mono (fun a3 w3 k3 => fin _ e2 a3 w3 k3) k2)) k1.2)
    · exact wpAnyG_two (m := cnt r + 1) hj (wpSt_mono (fun a2 w2 k2 => wpAnyG_one (by rw [cji]; exact hij) (wpSt_mono (fun a3 w3 k3 => fin _ (by rw [cji]) a3 w3 k3) k2)) k1.1)
        (wpSt_mono (fun a2 w2 k2 => wpAnyG_one hjk (wpSt_mono (fun a3 w3 k3 => fin _ e3 a3 w3 k3) k2)) k1.2)
    · exact wpAnyG_two (m := cnt r + 1) hk (wpSt_mono (fun a2 w2 k2 => wpAnyG_one (by rw [cki]; exact hik) (wpSt_mono (fun a3 w3 k3 => fin _ (by rw [cki]; exact e2) a3 w3 k3) k2)) k1.1)
        (wpSt_mono (fun a2 w2 k2 => wpAnyG_one (by rw [ckj]; exact hjk) (wpSt_mono (fun a3 w3 k3 => fin _ (by rw [ckj]; exact e3) a3 w3 k3) k2)) k1.2)

  | (i, .twoP j ps) :: r, listed, a, w, hok, h => by
    simp only [okOrd, Bool.and_eq_true, beq_iff_eq, Bool.or_eq_true] at hok
    obtain ⟨⟨⟨⟨⟨⟨h0, h1⟩, h2⟩, h3⟩, h4⟩, h5⟩, h6⟩ := hok
    have kA : wpSt P ops Q S S1 L i (wpAnyG P md ops Q S S1 L (cnt r + ps.length + 1) (listed.setIfInBounds i true)) a w := wpSt_mono (fun a1 w1 k1 => by
      have := wpAnyG_ps (m := cnt r + 1) hs hQ ps _ h1 (fun a2 w2 k2 => wpAnyG_one h2 (wpSt_mono (fun a3 w3 k3 => wpAnyG_ord hs hQ r _ a3 w3 h6 k3) k2)) a1 w1 k1
      rwa [show cnt r + 1 + ps.length = cnt r + ps.length + 1 by omega] at this) h.1
    have kB : wpSt P ops Q S S1 L j (wpAnyG P md ops Q S S1 L (cnt r + ps.length + 1) (listed.setIfInBounds j true)) a w := wpSt_mono (fun a1 w1 k1 =>
      wpAnyG_one h3 (wpSt_mono (fun a2 w2 k2 => wpAnyG_ps (m := cnt r) hs hQ ps _ h4 (fun a3 w3 k3 => by rw [h5]; exact wpAnyG_ord hs hQ r _ a3 w3 h6 k3) a2 w2 k2) k1)) h.2
    show wpAnyG P md ops Q S S1 L (cnt r + (ps.length + 2)) listed a w
    rw [show cnt r + (ps.length + 2) = cnt r + ps.length + 1 + 1 by omega]
    rcases h0 with h0 | h0
    · exact wpAnyG_two h0 kA kB
    · exact wpAnyG_two h0 kB kA

  | (_, .tree t) :: r, listed, a, w, hok, h => by
    simp only [okOrd, Bool.and_eq_true] at hok
    exact (wpAnyG_tr (m := cnt r) hs hQ (fun a1 w1 k1 => wpAnyG_ord hs hQ r _ a1 w1 hok.2 k1) t true listed a w hok.1 h).1 rfl

/-- Only the way on. -/
def OnlyN (E : Act → World → Prop) : Exit → Act → World → Prop
  | .normal, a, w => E a w
  | _, _, _ => False

theorem wp_region_ord {id : Nat} {a : Act} {w : World} {E : Act → World → Prop} (l : List (Nat × Kd)) (L : List Nat) (hm : P.follows .mixedOrders = true) (hl : cnt l = ops.size)
    (hok : (Region.noSelect ops && okOrd .any ops L l (Array.replicate ops.size false)) = true)
    (h : wpOrd P ops (OnlyN E) S S1 L l a { w with drawn := w.drawn + 1 }) (hE : ∀ a w, E a w → Q .normal a w) : (Code.region id ops true).wp P Q a w := by
  simp only [Bool.and_eq_true] at hok
  have h1 : (Code.region id ops true).wp P (OnlyN E) a w := wp_region_any hm (wpAny_of_G (S := S) (S1 := S1) (L := L) _ _ _ _ (by
    have := wpAnyG_ord hok.1 (fun c a w h => h) l _ a _ hok.2 h
    rw [hl] at this
    exact this))
  exact wp_mono h1 fun e a w q => by
    cases e <;> first | exact hE _ _ q | exact q.elim
end
end Go.Sh
