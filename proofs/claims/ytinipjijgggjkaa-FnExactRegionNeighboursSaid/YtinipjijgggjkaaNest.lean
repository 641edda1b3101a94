/- Slices of slices: an outer row of headers, and the rows behind them. -/
import Derived.Test.YtinipjijgggjkaaMut
import Derived.Laws.StructEq
import Derived.Laws.Cover3
namespace Go.Sh
open Go Go.RowKit

/-- A slice as it lies in a cell. -/
structure Hd where
  a : Option Addr
  n : Nat
  c : Nat
def eHd : Enc Hd := ⟨fun h => [.slice h.a h.n h.c], 1, fun _ => rfl, by decide, fun x u h => by simp at h; subst h; rfl⟩

/-- The lengths in the headers are those of the rows. -/
def Inn {T : Type} (hs : List Hd) (xs : List (List T)) : Prop := hs.map (·.n) = xs.map List.length
section
variable {T : Type} {hs : List Hd} {xs : List (List T)}
theorem Inn.len (h : Inn hs xs) : hs.length = xs.length := by have := congrArg List.length h; simpa using this
theorem Inn.nil : Inn [] ([] : List (List T)) := rfl
theorem Inn.get (h : Inn hs xs) {i : Nat} {x : List T} (hx : xs[i]? = some x) : ∃ ha hc, hs[i]? = some ⟨ha, x.length, hc⟩ := by
  have h1 := congrArg (fun l : List Nat => l[i]?) h
  simp only [List.getElem?_map, hx, Option.map_some] at h1
  cases hh : hs[i]? with
  | none => rw [hh] at h1; cases h1
  | some y =>
    rw [hh] at h1
    simp at h1
    exact ⟨y.a, y.c, by rw [← h1]⟩
theorem Inn.sub (h : Inn hs xs) {i : Int} {x : List T} (hx : getI xs i = some x) : ∃ ha hc, getI hs i = some ⟨ha, x.length, hc⟩ := by
  obtain ⟨h0, h1, h2⟩ := getI_some hx
  obtain ⟨ha, hc, h3⟩ := h.get h2
  exact ⟨ha, hc, by unfold getI; rw [if_pos h0]; exact h3⟩
theorem Inn.app (h : Inn hs xs) {r : List T} {a : Option Addr} {n c : Nat} (hr : r.length = n) : Inn (hs ++ [⟨a, n, c⟩]) (xs ++ [r]) := by
  unfold Inn at h ⊢; simp [h, hr]
theorem Inn.set (h : Inn hs xs) {k : Nat} {z : List T} {a : Option Addr} {n c : Nat} (hz : z.length = n) : Inn (hs.set k ⟨a, n, c⟩) (xs.set k z) := by
  unfold Inn at h ⊢; simp [List.map_set, h, hz]
theorem Inn.set0 (h : Inn hs xs) {i : Int} {x z : List T} (hx : getI xs i = some x) (hz : z.length = x.length) : Inn hs (xs.set i.toNat z) := by
  obtain ⟨h0, h1, h2⟩ := getI_some hx
  unfold Inn at h ⊢
  rw [List.map_set, h, hz]
  apply List.ext_getElem?
  intro j
  rw [List.getElem?_set]
  split
  · rename_i hj
    subst hj
    simp [h2]
    omega
  · rfl
theorem Inn.appZ (h : Inn hs xs) {r : List T} {zs : List (List T)} {a : Option Addr} {n c : Nat} (hr : r.length = n) (hz : zs = xs ++ [r]) : Inn (hs ++ [⟨a, n, c⟩]) zs := by subst hz; exact h.app hr
theorem appL_hd (h : Inn hs xs) {zs : List (List T)} {r : List T} {y : Hd} (hz : appL xs [r] = some zs) : appL hs [y] = some (hs ++ [y]) ∧ zs = xs ++ [r] := by
  obtain ⟨h1, h2⟩ := appL_some hz
  exact ⟨appL_ok (by rw [h.len]; exact h1), h2⟩
end

/-- The rows behind headers, all of them or all but one. -/
def InnP {T : Type} (E : Nat) (e : Enc T) (sk : Option Nat) (hs : List Hd) (xs : List (List T)) (w : World) (fp : List Nat) : Prop :=
  ∃ f : Nat → List Nat, (∀ (i : Nat) h x, sk ≠ some i → hs[i]? = some h → xs[i]? = some x → RowP E e.k h.a h.n h.c (e.fl x) w (f i)) ∧
    (∀ b, b ∈ fp ↔ ∃ i, i < hs.length ∧ sk ≠ some i ∧ b ∈ f i) ∧ (∀ i j, i < hs.length → j < hs.length → sk ≠ some i → sk ≠ some j → i ≠ j → ∀ b ∈ f i, b ∉ f j) ∧ hs.length = xs.length
def innO {T : Type} (E : Nat) (e : Enc T) (sk : Option Nat) (hs : List Hd) (xs : List (List T)) : Own :=
  ⟨InnP E e sk hs xs, fun w w' fp h hb => by
    obtain ⟨f, h1, h2, h3, h4⟩ := h
    refine ⟨f, fun i h x hi hh hx => ?_, h2, h3, h4⟩
    exact (rowO E e.k h.a h.n h.c (e.fl x)).loc w w' (f i) (h1 i h x hi hh hx) fun b hbm => hb b ((h2 b).2 ⟨i, (List.getElem?_eq_some_iff.1 hh).1, hi, hbm⟩)⟩

/-- What reads behind headers. -/
def RdI {T : Type} (w : World) (e : Enc T) (hs : List Hd) (xs : List (List T)) : Prop := ∀ (i : Nat) h x, hs[i]? = some h → xs[i]? = some x → Rd w h.a (e.fl x) ∧ h.n ≤ h.c
section
variable {T : Type} {e : Enc T} {hs : List Hd} {xs : List (List T)} {w : World}
theorem RdI.bw {w' : World} (h : RdI w e hs xs) (hb : Bw [] w w') : RdI w' e hs xs := fun i y x hy hx => ⟨(h i y x hy hx).1.bw hb, (h i y x hy hx).2⟩
theorem RdI.sub {i : Int} {x : List T} {ha : Option Addr} {n hc : Nat} (h : RdI w e hs xs) (hx : getI xs i = some x) (hh : getI hs i = some ⟨ha, n, hc⟩) : Rd w ha (e.fl x) := (h _ _ _ (getI_some hh).2.2 (getI_some hx).2.2).1
theorem RdI.ln {i : Int} {x : List T} {ha : Option Addr} {n hc : Nat} (h : RdI w e hs xs) (hx : getI xs i = some x) (hh : getI hs i = some ⟨ha, n, hc⟩) : n ≤ hc := (h _ _ _ (getI_some hh).2.2 (getI_some hx).2.2).2
theorem InnP.rd {E : Nat} {fp : List Nat} (h : InnP E e none hs xs w fp) : RdI w e hs xs := by
  obtain ⟨f, h1, _⟩ := h
  intro i y x hy hx
  have := h1 i y x (by simp) hy hx
  exact ⟨RowP.rd this, this.2.1⟩
theorem rd_inn {w0 : World} {M : List Nat} {es : List Own} (h : Cl w0 M es w) (i : Nat) {E : Nat} (hi : es[i]? = some (innO E e none hs xs)) : RdI w e hs xs :=
  let ⟨_, hp, _⟩ := h.2.get hi
  InnP.rd hp
theorem Fr.inn {w0 : World} {M : List Nat} {es : List Own} {X : List Nat} {wr : World} {N : List Nat} (h : Fr w0 M es X wr N) (i : Nat) {E : Nat} (hi : es[i]? = some (innO E e none hs xs)) (hx : X.contains i = false) (hw : Bw N wr w) : RdI w e hs xs :=
  let ⟨_, hp⟩ := h.keep i _ hi hx w hw
  InnP.rd hp
theorem RdI.nil : RdI w e [] xs := fun i y x hy => by simp at hy
end

/-! ### two entries into one, one into two -/
theorem Sep.merge2 {B : Nat} {M : List Nat} {w : World} {es : List Own} {e1 e2 e : Own} (h : Sep B M w (es ++ [e1, e2])) (hm : ∀ f1 f2, e1.p w f1 → e2.p w f2 → (∀ b ∈ f1, b ∉ f2) → e.p w (f1 ++ f2)) : Sep B M w (es ++ [e]) := by
  obtain ⟨fp, h1, h2⟩ := h
  have l1 : (es ++ [e1, e2])[es.length]? = some e1 := by simp
  have l2 : (es ++ [e1, e2])[es.length + 1]? = some e2 := by simp
  have hlen : (es ++ [e1, e2]).length = es.length + 2 := by simp
  refine ⟨fun i => if i = es.length then fp es.length ++ fp (es.length + 1) else fp i, fun i x hi => ?_, fun i j hi hj hij b hb => ?_⟩
  · by_cases hil : i < es.length
    · rw [List.getElem?_append_left hil] at hi
      simp only [if_neg (Nat.ne_of_lt hil)]
      exact h1 i x (by rw [List.getElem?_append_left hil]; exact hi)
    · have hie : i = es.length := by
        have := (List.getElem?_eq_some_iff.1 hi).1
        simp at this; omega
      subst hie
      simp at hi
      subst hi
      simp only [if_true]
      refine ⟨hm _ _ (h1 _ _ l1).1 (h1 _ _ l2).1 (h2 _ _ (by omega) (by omega) (by omega)), fun b hb => ?_⟩
      rcases List.mem_append.1 hb with hb | hb
      · exact (h1 _ _ l1).2 b hb
      · exact (h1 _ _ l2).2 b hb
  · simp only [List.length_append, List.length_cons, List.length_nil] at hi hj
    by_cases hil : i = es.length
    · subst hil
      have hjl : j ≠ es.length := fun h => hij h.symm
      simp only [if_true] at hb
      simp only [if_neg hjl]
      rcases List.mem_append.1 hb with hb | hb
      · exact h2 _ _ (by omega) (by omega) (fun h => hjl h.symm) b hb
      · exact h2 _ _ (by omega) (by omega) (by omega) b hb
    · simp only [if_neg hil] at hb
      by_cases hjl : j = es.length
      · subst hjl
        simp only [if_true]
        intro hc
        rcases List.mem_append.1 hc with hc | hc
        · exact h2 i es.length (by omega) (by omega) hil b hb hc
        · exact h2 i (es.length + 1) (by omega) (by omega) (by omega) b hb hc
      · simp only [if_neg hjl]
        exact h2 i j (by omega) (by omega) hij b hb
theorem Sep.split2 {B : Nat} {M : List Nat} {w : World} {es : List Own} {e1 e2 e : Own} (h : Sep B M w (es ++ [e])) (hm : ∀ f, e.p w f → ∃ f1 f2, e1.p w f1 ∧ e2.p w f2 ∧ (∀ b ∈ f1, b ∉ f2) ∧ (∀ b ∈ f1, b ∈ f) ∧ ∀ b ∈ f2, b ∈ f) : Sep B M w (es ++ [e1, e2]) := by
  obtain ⟨fp, h1, h2⟩ := h
  have l1 : (es ++ [e])[es.length]? = some e := by simp
  obtain ⟨f1, f2, p1, p2, hd, s1, s2⟩ := hm _ (h1 _ _ l1).1
  have hb0 := (h1 _ _ l1).2
  have hlen : (es ++ [e]).length = es.length + 1 := by simp
  refine ⟨fun i => if i = es.length then f1 else if i = es.length + 1 then f2 else fp i, fun i x hi => ?_, fun i j hi hj hij b hb => ?_⟩
  · by_cases hil : i < es.length
    · rw [List.getElem?_append_left hil] at hi
      simp only [if_neg (Nat.ne_of_lt hil), if_neg (show i ≠ es.length + 1 by omega)]
      exact h1 i x (by rw [List.getElem?_append_left hil]; exact hi)
    · by_cases hie : i = es.length
      · subst hie
        simp at hi
        subst hi
        simp only [if_true]
        exact ⟨p1, fun b hb => hb0 b (s1 b hb)⟩
      · have hie2 : i = es.length + 1 := by
          have := (List.getElem?_eq_some_iff.1 hi).1
          simp at this; omega
        subst hie2
        simp at hi
        subst hi
        simp only [if_neg hie, if_true]
        exact ⟨p2, fun b hb => hb0 b (s2 b hb)⟩
  · simp only [List.length_append, List.length_cons, List.length_nil] at hi hj
    have out : ∀ k, k < es.length → ∀ b ∈ fp k, b ∉ fp es.length := fun k hk b hb => h2 k es.length (by omega) (by omega) (by omega) b hb
    have out2 : ∀ k, k < es.length → ∀ b ∈ fp es.length, b ∉ fp k := fun k hk b hb => h2 es.length k (by omega) (by omega) (by omega) b hb
    by_cases hil : i = es.length
    · subst hil
      simp only [if_true] at hb
      have hjl : j ≠ es.length := fun h => hij h.symm
      simp only [if_neg hjl]
      by_cases hj2 : j = es.length + 1
      · subst hj2; simp only [if_true]; exact hd b hb
      · simp only [if_neg hj2]
        exact out2 j (by omega) b (s1 b hb)
    · simp only [if_neg hil] at hb
      by_cases hi2 : i = es.length + 1
      · subst hi2
        simp only [if_true] at hb
        by_cases hjl : j = es.length
        · subst hjl; simp only [if_true]; exact fun hc => hd b hc hb
        · simp only [if_neg hjl, if_neg (show j ≠ es.length + 1 by omega)]
          exact out2 j (by omega) b (s2 b hb)
      · simp only [if_neg hi2] at hb
        by_cases hjl : j = es.length
        · subst hjl; simp only [if_true]; exact fun hc => out i (by omega) b hb (s1 b hc)
        · by_cases hj2 : j = es.length + 1
          · subst hj2; simp only [if_neg hjl, if_true]; exact fun hc => out i (by omega) b hb (s2 b hc)
          · simp only [if_neg hjl, if_neg hj2]
            exact h2 i j (by omega) (by omega) hij b hb

section
variable {w0 : World} {M : List Nat} {n : Nat} {env : List (Nat × Value)} {es es' : List Own} {a : Act} {w : World} {T : Type} {e : Enc T} {E : Nat}
theorem St.merge2 {e1 e2 x : Own} (h : St w0 M n env es a w) (ix : List Nat) (hn : ix.Nodup) (he : ix.map (fun i => es[i]?) = (es' ++ [e1, e2]).map some) (hm : ∀ f1 f2, e1.p w f1 → e2.p w f2 → (∀ b ∈ f1, b ∉ f2) → x.p w (f1 ++ f2)) : St w0 M n env (es' ++ [x]) a w :=
  ⟨h.env, h.bw, (h.sep.sel ix _ hn he).merge2 hm⟩
theorem St.split2 {e1 e2 x : Own} (h : St w0 M n env es a w) (ix : List Nat) (hn : ix.Nodup) (he : ix.map (fun i => es[i]?) = (es' ++ [x]).map some) (hm : ∀ f, x.p w f → ∃ f1 f2, e1.p w f1 ∧ e2.p w f2 ∧ (∀ b ∈ f1, b ∉ f2) ∧ (∀ b ∈ f1, b ∈ f) ∧ ∀ b ∈ f2, b ∈ f) : St w0 M n env (es' ++ [e1, e2]) a w :=
  ⟨h.env, h.bw, (h.sep.sel ix _ hn he).split2 hm⟩

theorem innP_absorb {hs : List Hd} {xs : List (List T)} {ad : Option Addr} {m c : Nat} {r : List T} (f1 f2 : List Nat) (h1 : InnP E e none hs xs w f1) (h2 : RowP E e.k ad m c (e.fl r) w f2) (hd : ∀ b ∈ f1, b ∉ f2) : InnP E e none (hs ++ [⟨ad, m, c⟩]) (xs ++ [r]) w (f1 ++ f2) := by
  obtain ⟨f, g1, g2, g3, g4⟩ := h1
  refine ⟨fun i => if i = hs.length then f2 else f i, fun i h x _ hh hx => ?_, fun b => ?_, fun i j hi hj _ _ hij b hb => ?_, by simp [g4]⟩
  · by_cases hi : i < hs.length
    · simp only [if_neg (Nat.ne_of_lt hi)]
      rw [List.getElem?_append_left hi] at hh
      rw [List.getElem?_append_left (by omega)] at hx
      exact g1 i h x (by simp) hh hx
    · have hie : i = hs.length := by
        have := (List.getElem?_eq_some_iff.1 hh).1
        simp at this; omega
      subst hie
      simp at hh
      rw [g4] at hx
      simp at hx
      subst hh; subst hx
      simp only [if_true]
      exact h2
  · simp only [List.mem_append, g2, List.length_append, List.length_cons, List.length_nil]
    constructor
    · rintro (⟨i, hi, _, hb⟩ | hb)
      · exact ⟨i, by omega, by simp, by simp only [if_neg (Nat.ne_of_lt hi)]; exact hb⟩
      · exact ⟨hs.length, by omega, by simp, by simp only [if_true]; exact hb⟩
    · rintro ⟨i, hi, _, hb⟩
      by_cases hie : i = hs.length
      · subst hie; simp only [if_true] at hb; exact .inr hb
      · simp only [if_neg hie] at hb; exact .inl ⟨i, by omega, by simp, hb⟩
  · simp only [List.length_append, List.length_cons, List.length_nil] at hi hj
    by_cases hie : i = hs.length
    · subst hie
      simp only [if_true] at hb
      simp only [if_neg (show j ≠ hs.length from fun h => hij h.symm)]
      exact fun hc => hd b ((g2 b).2 ⟨j, by omega, by simp, hc⟩) hb
    · simp only [if_neg hie] at hb
      by_cases hje : j = hs.length
      · subst hje
        simp only [if_true]
        exact hd b ((g2 b).2 ⟨i, by omega, by simp, hb⟩)
      · simp only [if_neg hje]
        exact g3 i j (by omega) (by omega) (by simp) (by simp) hij b hb
theorem innP_focus {hs : List Hd} {xs : List (List T)} {k : Nat} {y : Hd} {x : List T} (hy : hs[k]? = some y) (hx : xs[k]? = some x) (fp : List Nat) (h : InnP E e none hs xs w fp) :
    ∃ f1 f2, InnP E e (some k) hs xs w f1 ∧ RowP E e.k y.a y.n y.c (e.fl x) w f2 ∧ (∀ b ∈ f1, b ∉ f2) ∧ (∀ b ∈ f1, b ∈ fp) ∧ ∀ b ∈ f2, b ∈ fp := by
  obtain ⟨f, g1, g2, g3, g4⟩ := h
  have hkl := (List.getElem?_eq_some_iff.1 hy).1
  let F : List Nat := (List.range hs.length).flatMap fun i => if i = k then [] else f i
  have memF : ∀ b, b ∈ F ↔ ∃ i, i < hs.length ∧ some k ≠ some i ∧ b ∈ f i := by
    intro b
    simp only [F, List.mem_flatMap, List.mem_range]
    constructor
    · rintro ⟨i, hi, hb⟩
      by_cases hik : i = k
      · simp [hik] at hb
      · simp only [if_neg hik] at hb; exact ⟨i, hi, fun h => hik (Option.some.inj h).symm, hb⟩
    · rintro ⟨i, hi, hik, hb⟩
      exact ⟨i, hi, by rw [if_neg (fun h => hik (by rw [h]))]; exact hb⟩
  refine ⟨F, f k, ⟨f, fun i h z hi hh hz => g1 i h z (by simp) hh hz, memF, fun i j hi hj _ _ hij => g3 i j hi hj (by simp) (by simp) hij, g4⟩, g1 k y x (by simp) hy hx, fun b hb => ?_, fun b hb => ?_, fun b hb => ?_⟩
  · obtain ⟨i, hi, hik, hbi⟩ := (memF b).1 hb
    exact g3 i k hi hkl (by simp) (by simp) (fun h => hik (by rw [h])) b hbi
  · obtain ⟨i, hi, hik, hbi⟩ := (memF b).1 hb
    exact (g2 b).2 ⟨i, hi, by simp, hbi⟩
  · exact (g2 b).2 ⟨k, hkl, by simp, hb⟩
theorem innP_unfocus {hs : List Hd} {xs : List (List T)} {k : Nat} {ad : Option Addr} {m c : Nat} {z : List T} (hk : k < hs.length) (f1 f2 : List Nat) (h1 : InnP E e (some k) hs xs w f1) (h2 : RowP E e.k ad m c (e.fl z) w f2) (hd : ∀ b ∈ f1, b ∉ f2) :
    InnP E e none (hs.set k ⟨ad, m, c⟩) (xs.set k z) w (f1 ++ f2) := by
  obtain ⟨f, g1, g2, g3, g4⟩ := h1
  refine ⟨fun i => if i = k then f2 else f i, fun i h x _ hh hx => ?_, fun b => ?_, fun i j hi hj _ _ hij b hb => ?_, by simp [g4]⟩
  · by_cases hi : i = k
    · subst hi
      rw [List.getElem?_set_self hk] at hh
      rw [List.getElem?_set_self (by omega)] at hx
      cases hh; cases hx
      simp only [if_true]
      exact h2
    · rw [List.getElem?_set_ne (Ne.symm hi)] at hh hx
      simp only [if_neg hi]
      exact g1 i h x (fun h => hi (Option.some.inj h).symm) hh hx
  · simp only [List.mem_append, g2, List.length_set]
    constructor
    · rintro (⟨i, hi, hik, hb⟩ | hb)
      · exact ⟨i, hi, by simp, by rw [if_neg (fun h => hik (by rw [h]))]; exact hb⟩
      · exact ⟨k, hk, by simp, by simp only [if_true]; exact hb⟩
    · rintro ⟨i, hi, _, hb⟩
      by_cases hie : i = k
      · subst hie; simp only [if_true] at hb; exact .inr hb
      · simp only [if_neg hie] at hb; exact .inl ⟨i, hi, fun h => hie (Option.some.inj h).symm, hb⟩
  · simp only [List.length_set] at hi hj
    by_cases hie : i = k
    · subst hie
      simp only [if_true] at hb
      simp only [if_neg (show j ≠ i from fun h => hij h.symm)]
      exact fun hc => hd b ((g2 b).2 ⟨j, hj, fun h => hij (Option.some.inj h), hc⟩) hb
    · simp only [if_neg hie] at hb
      by_cases hje : j = k
      · subst hje
        simp only [if_true]
        exact hd b ((g2 b).2 ⟨i, hi, fun h => hie (Option.some.inj h).symm, hb⟩)
      · simp only [if_neg hje]
        exact g3 i j hi hj (fun h => hie (Option.some.inj h).symm) (fun h => hje (Option.some.inj h).symm) hij b hb

theorem St.absorb {hs : List Hd} {xs : List (List T)} {ad : Option Addr} {m c : Nat} {r : List T} (h : St w0 M n env es a w) (ix : List Nat) (hn : ix.Nodup) (he : ix.map (fun i => es[i]?) = (es' ++ [innO E e none hs xs, rowT E e ad m c r]).map some) :
    St w0 M n env (es' ++ [innO E e none (hs ++ [⟨ad, m, c⟩]) (xs ++ [r])]) a w := h.merge2 ix hn he innP_absorb
theorem St.focus {hs : List Hd} {xs : List (List T)} {i : Int} {ha : Option Addr} {m hc : Nat} {x : List T} (h : St w0 M n env es a w) (ix : List Nat) (hn : ix.Nodup) (he : ix.map (fun i => es[i]?) = (es' ++ [innO E e none hs xs]).map some) (hh : getI hs i = some ⟨ha, m, hc⟩) (hx : getI xs i = some x) :
    St w0 M n env (es' ++ [innO E e (some i.toNat) hs xs, rowT E e ha m hc x]) a w := h.split2 ix hn he (innP_focus (getI_some hh).2.2 (getI_some hx).2.2)
theorem St.unfocus {hs : List Hd} {xs : List (List T)} {i : Int} {y : Hd} {ad : Option Addr} {m c : Nat} {z : List T} (h : St w0 M n env es a w) (ix : List Nat) (hn : ix.Nodup) (he : ix.map (fun i => es[i]?) = (es' ++ [innO E e (some i.toNat) hs xs, rowT E e ad m c z]).map some) (hh : getI hs i = some y) :
    St w0 M n env (es' ++ [innO E e none (hs.set i.toNat ⟨ad, m, c⟩) (xs.set i.toNat z)]) a w := h.merge2 ix hn he (innP_unfocus (by have := getI_some hh; omega))
theorem set_same {hs : List Hd} {i : Int} {y : Hd} (hh : getI hs i = some y) : hs.set i.toNat y = hs := by
  obtain ⟨h0, h1, h2⟩ := getI_some hh
  apply List.ext_getElem?
  intro j
  rw [List.getElem?_set]
  split
  · rename_i hj
    subst hj
    rw [h2]
    simp; omega
  · rfl
theorem St.unfocus0 {hs : List Hd} {xs : List (List T)} {i : Int} {ad : Option Addr} {m c : Nat} {z : List T} (h : St w0 M n env es a w) (ix : List Nat) (hn : ix.Nodup) (he : ix.map (fun i => es[i]?) = (es' ++ [innO E e (some i.toNat) hs xs, rowT E e ad m c z]).map some) (hh : getI hs i = some ⟨ad, m, c⟩) :
    St w0 M n env (es' ++ [innO E e none hs (xs.set i.toNat z)]) a w := by
  have := h.unfocus ix hn he hh
  rwa [set_same hh] at this
theorem St.nilinn (h : St w0 M n env es a w) (E : Nat) (e : Enc T) : St w0 M n env (es ++ [innO E e none [] []]) a w :=
  ⟨h.env, h.bw, h.sep.join (Bw.refl [] w) h.bw.size ⟨fun _ => [], fun i x hi => by
    cases i with
    | zero => simp at hi; subst hi; exact ⟨⟨fun _ => [], by simp, by simp, by simp, rfl⟩, by simp⟩
    | succ i => simp at hi, by simp⟩⟩
end

section
variable {P : Program} {w0 : World} {M : List Nat} {n : Nat} {ops : Array Oper} {X : Act → World → Prop} {Q : Exit → Act → World → Prop} {env : List (Nat × Value)} {es es' : List Own} {rest : List Oper}
  {wr : World} {N L : List Nat} {s : Bool} {l : List (Nat × Kd)} {cd : Code} {T : Type} {e : Enc T} {E : Nat} {hs : List Hd} {xs : List (List T)} {i : Int} {y : Hd} {ad : Option Addr} {m c : Nat} {x r z : List T} {zs : List (List T)}
theorem JL.absorb (ix : List Nat) (hn : ix.Nodup) (he : ix.map (fun i => es[i]?) = (es' ++ [innO E e none hs xs, rowT E e ad m c r]).map some) (hz : zs = xs ++ [r]) (k : JL P w0 M n ops X Q env (es' ++ [innO E e none (hs ++ [⟨ad, m, c⟩]) zs]) rest) : JL P w0 M n ops X Q env es rest := by subst hz; exact fun a w h => k a w (h.absorb ix hn he)
theorem JL.focus (ix : List Nat) (hn : ix.Nodup) (he : ix.map (fun i => es[i]?) = (es' ++ [innO E e none hs xs]).map some) (hh : getI hs i = some ⟨ad, m, c⟩) (hx : getI xs i = some x) (k : JL P w0 M n ops X Q env (es' ++ [innO E e (some i.toNat) hs xs, rowT E e ad m c x]) rest) : JL P w0 M n ops X Q env es rest := fun a w h => k a w (h.focus ix hn he hh hx)
theorem JL.unfocus (ix : List Nat) (hn : ix.Nodup) (he : ix.map (fun i => es[i]?) = (es' ++ [innO E e (some i.toNat) hs xs, rowT E e ad m c z]).map some) (hh : getI hs i = some y) (k : JL P w0 M n ops X Q env (es' ++ [innO E e none (hs.set i.toNat ⟨ad, m, c⟩) (xs.set i.toNat z)]) rest) : JL P w0 M n ops X Q env es rest := fun a w h => k a w (h.unfocus ix hn he hh)
theorem JL.unfocus0 (ix : List Nat) (hn : ix.Nodup) (he : ix.map (fun i => es[i]?) = (es' ++ [innO E e (some i.toNat) hs xs, rowT E e ad m c z]).map some) (hh : getI hs i = some ⟨ad, m, c⟩) (k : JL P w0 M n ops X Q env (es' ++ [innO E e none hs (xs.set i.toNat z)]) rest) : JL P w0 M n ops X Q env es rest := fun a w h => k a w (h.unfocus0 ix hn he hh)
theorem JL.nilinn (E : Nat) (e : Enc T) (k : JL P w0 M n ops X Q env (es ++ [innO E e none [] []]) rest) : JL P w0 M n ops X Q env es rest := fun a w h => k a w (h.nilinn E e)
theorem JH.absorb (ix : List Nat) (hn : ix.Nodup) (he : ix.map (fun i => es[i]?) = (es' ++ [innO E e none hs xs, rowT E e ad m c r]).map some) (hz : zs = xs ++ [r]) (k : JH P N n wr ops X L s env (es' ++ [innO E e none (hs ++ [⟨ad, m, c⟩]) zs]) l) : JH P N n wr ops X L s env es l := by subst hz; exact fun a w h => k a w (h.absorb ix hn he)
theorem JH.focus (ix : List Nat) (hn : ix.Nodup) (he : ix.map (fun i => es[i]?) = (es' ++ [innO E e none hs xs]).map some) (hh : getI hs i = some ⟨ad, m, c⟩) (hx : getI xs i = some x) (k : JH P N n wr ops X L s env (es' ++ [innO E e (some i.toNat) hs xs, rowT E e ad m c x]) l) : JH P N n wr ops X L s env es l := fun a w h => k a w (h.focus ix hn he hh hx)
theorem JH.unfocus (ix : List Nat) (hn : ix.Nodup) (he : ix.map (fun i => es[i]?) = (es' ++ [innO E e (some i.toNat) hs xs, rowT E e ad m c z]).map some) (hh : getI hs i = some y) (k : JH P N n wr ops X L s env (es' ++ [innO E e none (hs.set i.toNat ⟨ad, m, c⟩) (xs.set i.toNat z)]) l) : JH P N n wr ops X L s env es l := fun a w h => k a w (h.unfocus ix hn he hh)
theorem JH.unfocus0 (ix : List Nat) (hn : ix.Nodup) (he : ix.map (fun i => es[i]?) = (es' ++ [innO E e (some i.toNat) hs xs, rowT E e ad m c z]).map some) (hh : getI hs i = some ⟨ad, m, c⟩) (k : JH P N n wr ops X L s env (es' ++ [innO E e none hs (xs.set i.toNat z)]) l) : JH P N n wr ops X L s env es l := fun a w h => k a w (h.unfocus0 ix hn he hh)
theorem JH.nilinn (E : Nat) (e : Enc T) (k : JH P N n wr ops X L s env (es ++ [innO E e none [] []]) l) : JH P N n wr ops X L s env es l := fun a w h => k a w (h.nilinn E e)
theorem JE.nilinn (E : Nat) (e : Enc T) (k : JE w0 M n X env (es ++ [innO E e none [] []])) : JE w0 M n X env es := fun a w h => k a w (h.nilinn E e)
theorem JE.focus (ix : List Nat) (hn : ix.Nodup) (he : ix.map (fun i => es[i]?) = (es' ++ [innO E e none hs xs]).map some) (hh : getI hs i = some ⟨ad, m, c⟩) (hx : getI xs i = some x) (k : JE w0 M n X env (es' ++ [innO E e (some i.toNat) hs xs, rowT E e ad m c x])) : JE w0 M n X env es := fun a w h => k a w (h.focus ix hn he hh hx)
theorem JX.nilinn (E : Nat) (e : Enc T) (k : JX P w0 M n X Q env (es ++ [innO E e none [] []]) cd) : JX P w0 M n X Q env es cd := fun a w h => k a w (h.nilinn E e)
end

section
variable {P : Program} {w0 : World} {M : List Nat} {env : List (Nat × Value)} {es : List Own} {d : Option Tmp} {ty : TypeId} {ps : String} {af : Array Edge} {gd : Option (Nat × Bool)} {T : Type}
/-- A header appended to an outer row. -/
theorem ef_appendH {t E : TypeId} {ti : TypeInfo} {z : Value} {ix : Nat} {x y : Operand} (ht : P.underlying t = some (.slice E)) (hi : P.info? E = some ti) (hz : ti.zero = some z) (hk : ti.size = eHd.k) (hzs : z.cells.size = eHd.k) (hb0 : 0 < ti.bytes) (hb1 : ti.bytes ≤ 128)
    {a : Option Addr} {n c : Nat} {hs : List Hd} {xs zs : List (List T)} {r : List T} {u : Hd} (hx : ev env x = some (.slice a n c)) (he : es[ix]? = some (rowT E eHd a n c hs)) (hn : hs.length = n)
    {sa : Option Addr} {m mc : Nat} (hy : ev env y = some (.slice sa m mc)) (hm : [u].length = m) (hrd : ∀ w, Cl w0 M es w → Rd w sa (eHd.fl [u])) (hr : appL xs [r] = some zs) (hI : Inn hs xs) :
    Ef P w0 M es env { dst := d, op := .call { callee := .builtin .append, args := #[x, y], argTypes := #[t, t] }, type := ty, pos := ps, after := af, guard := gd } false
      (fun v es' => ∃ a' c', v = .slice a' zs.length c' ∧ es' = es.set ix (rowT E eHd a' zs.length c' (hs ++ [u]))) := by
  obtain ⟨h1, h2⟩ := appL_hd (y := u) hI hr
  have := ef_appendT (P := P) (w0 := w0) (M := M) (d := d) (ty := ty) (ps := ps) (af := af) (gd := gd) ht hi hz hk hzs hb0 hb1 hx he hn hy hm hrd h1
  have hl : (hs ++ [u]).length = zs.length := by rw [h2, List.length_append, List.length_append, hI.len]; rfl
  rw [hl] at this
  exact this
end
/-- What reads behind headers, whatever is written inside M. -/
def RdIS {T : Type} (M : List Nat) (w : World) (e : Enc T) (hs : List Hd) (xs : List (List T)) : Prop := ∀ (i : Nat) h x, hs[i]? = some h → xs[i]? = some x → RdS M w h.a (e.fl x) ∧ h.n ≤ h.c
theorem RdIS.sub {T : Type} {M : List Nat} {w : World} {e : Enc T} {hs : List Hd} {xs : List (List T)} {i : Int} {x : List T} {ha : Option Addr} {n hc : Nat} (h : RdIS M w e hs xs) (hx : getI xs i = some x) (hh : getI hs i = some ⟨ha, n, hc⟩) : RdS M w ha (e.fl x) := (h _ _ _ (getI_some hh).2.2 (getI_some hx).2.2).1
theorem RdIS.ln {T : Type} {M : List Nat} {w : World} {e : Enc T} {hs : List Hd} {xs : List (List T)} {i : Int} {x : List T} {ha : Option Addr} {n hc : Nat} (h : RdIS M w e hs xs) (hx : getI xs i = some x) (hh : getI hs i = some ⟨ha, n, hc⟩) : n ≤ hc := (h _ _ _ (getI_some hh).2.2 (getI_some hx).2.2).2
theorem rdI_arg {T : Type} {w0 : World} {es : List Own} {w : World} {e : Enc T} {hs : List Hd} {xs : List (List T)} (hr : RdI w0 e hs xs) (h : Cl w0 [] es w) : RdI w e hs xs := hr.bw h.1
theorem rdI_argS {T : Type} {w0 : World} {M : List Nat} {es : List Own} {w : World} {e : Enc T} {hs : List Hd} {xs : List (List T)} (hr : RdIS M w0 e hs xs) (h : Cl w0 M es w) : RdI w e hs xs := fun i y x hy hx => ⟨rd_argS (hr i y x hy hx).1 h, (hr i y x hy hx).2⟩
theorem Fr.argI {T : Type} {w0 : World} {es : List Own} {X : List Nat} {wr : World} {N : List Nat} (h : Fr w0 [] es X wr N) {e : Enc T} {hs : List Hd} {xs : List (List T)} (hr : RdI w0 e hs xs) {w : World} (hw : Bw N wr w) : RdI w e hs xs := fun i y x hy hx => ⟨h.arg (hr i y x hy hx).1 hw, (hr i y x hy hx).2⟩
theorem Fr.argIS {T : Type} {w0 : World} {M : List Nat} {es : List Own} {X : List Nat} {wr : World} {N : List Nat} (h : Fr w0 M es X wr N) {e : Enc T} {hs : List Hd} {xs : List (List T)} (hr : RdIS M w0 e hs xs) {w : World} (hw : Bw N wr w) : RdI w e hs xs := fun i y x hy hx => ⟨h.argS (hr i y x hy hx).1 hw, (hr i y x hy hx).2⟩

/-! ### structs compared -/
theorem eqf_cons {P : Program} {w : World} {d : Nat} {xs ys : Array Value} {f : Field} {fs : List Field} {a b : Value} {r s : Bool} (hn : f.name ≠ "_") (h1 : (part f.type xs f.offset).run P w = .ok a w) (h2 : (part f.type ys f.offset).run P w = .ok b w)
    (h3 : (Op.equalIn d f.type a b).run P w = .ok r w) (h4 : (Op.eqFields d xs ys fs).run P w = .ok s w) : (Op.eqFields d xs ys (f :: fs)).run P w = .ok (r && s) w := by
  simp only [Op.eqFields, if_pos hn, Sem.run_bind, h1, h2, h3, Result.andThen_ok]
  cases r
  · simp
  · simpa using h4
theorem eqf_nil {P : Program} {w : World} {d : Nat} {xs ys : Array Value} : (Op.eqFields d xs ys []).run P w = .ok true w := by simp [Op.eqFields]
/-! ### a struct within a row's element -/
section
variable {P : Program} {C : World → Prop} {env : List (Nat × Value)} {d : Option Tmp} {ty : TypeId} {ps : String} {af : Array Edge} {gd : Option (Nat × Bool)} {T : Type} {e : Enc T}
theorem yl_loadTs {x : Operand} {t : TypeId} {u : TypeDesc} {ti : TypeInfo} {a : Option Addr} {i : Int} {j kk : Nat} {xs : List T} {z : T} {vs : List Value} (ht : P.underlying t = some u) (hn : (match u with | .struct _ | .array _ _ => true | _ => false) = true) (hi : P.info? t = some ti) (hs : ti.size = kk)
    (hx : ev env x = some (ptrAt a (i.toNat * e.k + j))) (hz : getI xs i = some z) (hC : ∀ w, C w → Rd w a (e.fl xs)) (hv : ((e.f z).drop j).take kk = vs) (hl : vs.length = kk) (h0 : 0 < kk) (hj : j + kk ≤ e.k) :
    Yl P C env { dst := d, op := .load t x, type := ty, pos := ps, after := af, guard := gd } (.agg vs.toArray) := by
  subst hs
  refine yl_loadn ht hn hi hx hC ?_ hl h0
  have h1 := Enc.fl_at (e := e) (getI_some hz).2.2
  rw [← hv, ← h1, List.drop_take, List.take_take, List.drop_drop, Nat.min_eq_left (by omega)]
end
/-! ### a slice against nil; an element of an array -/
section
variable {P : Program} {C : World → Prop} {env : List (Nat × Value)} {d : Option Tmp} {ty : TypeId} {ps : String} {af : Array Edge} {gd : Option (Nat × Bool)} {T : Type} {e : Enc T}
theorem yl_nilQ {x y : Operand} {t t' E : TypeId} {a : Option Addr} {n c : Nat} (ht : P.underlying t = some (.slice E)) (hx : ev env x = some (.slice a n c)) (hy : ev env y = some (.slice none 0 0)) :
    Yl P C env { dst := d, op := .binOp .eql t x y t', type := ty, pos := ps, after := af, guard := gd } (.bool a.isNone) :=
  yl_binop_of hx hy (fun w => by simp [eqGuard]) (fun w => by
    simp only [binOp]
    simp [run_equal_slice_nil w t E a n c ht])
theorem nilQ {w : World} {a : Option Addr} {xs : List T} (h : Rd w a (e.fl xs)) : (a.isNone = true ∧ xs = []) ∨ a.isNone = false := by
  cases a with
  | some ad => exact .inr rfl
  | none =>
    refine .inl ⟨rfl, ?_⟩
    cases xs with
    | nil => rfl
    | cons x r =>
      have := RdT.some (i := 0) (x := x) h (by simp)
      cases this
theorem yl_idxV {x y : Operand} {t E : TypeId} {u : TypeDesc} {ti : TypeInfo} {k k' : IntKind} {n : Nat} {i z : Int} {xs : List Int} (ht : P.underlying t = some (.array n E)) (hE : P.underlying E = some u) (hu : (match u with | .struct _ | .array _ _ => true | _ => false) = false) (hi : P.info? E = some ti) (hs : ti.size = 1)
    (hx : ev env x = some (.agg (xs.map (Value.int k)).toArray)) (hy : ev env y = some (.int k' i)) (hn : xs.length = n) (hz : getI xs i = some z) :
    Yl P C env { dst := d, op := .index t x y, type := ty, pos := ps, after := af, guard := gd } (.int k z) := by
  obtain ⟨h1, h2, h3⟩ := getI_some hz
  intro ρ hρ w _
  have h4 : i < n := by omega
  have h6 : (isAgg E).run P w = .ok false w := (run_isAgg hE w).trans (by cases u <;> first | rfl | cases hu)
  simp [execOp, hρ _ _ hx, hρ _ _ hy, Instr.index, asIntOf, run_underlying ht, h1, h4, part, h6, run_sizeOf hi, hs, h3]
end

/-! ### a box that is only read, beside what is written -/
def RdAtS (M : List Nat) (w : World) (a : Option Addr) (i : Nat) (cs : List Value) : Prop := ∀ w', Bw M w w' → RdAt w' a i cs
theorem RdAtS.norm0 {M : List Nat} {w : World} {a : Option Addr} {i : Nat} {cs : List Value} (h : RdAtS M w a i cs) : ∃ b, ptrAt a i = ptrAt b 0 ∧ RdS M w b cs := by
  cases a with
  | none => exact ⟨none, by simp [ptrAt], fun w' hw j u hj => by obtain ⟨_, h1, _⟩ := h w' hw j u hj; cases h1⟩
  | some ad =>
    refine ⟨some (ad.add i), ?_, fun w' hw j u hj => ?_⟩
    · simp [ptrAt, Addr.add_add]
    · obtain ⟨ad', h1, h2⟩ := h w' hw j u hj
      cases h1
      exact ⟨_, rfl, by rw [Addr.add_add]; exact h2⟩
theorem RdAtS.of0 {M : List Nat} {w : World} {a : Option Addr} {cs : List Value} (h : RdS M w a cs) : RdAtS M w a 0 cs := fun w' hw => RdAt.of0 (h w' hw)
theorem RdS.box {w0 : World} {M : List Nat} {es : List Own} {X : List Nat} {wr : World} {N : List Nat} (h : Fr w0 M es X wr N) (i : Nat) {E g : Nat} {us : List Value} (hi : es[i]? = some (boxO E g us)) (hx : X.contains i = false) : RdS N wr (some ⟨g, 0, none⟩) us := fun _ hw => h.box i hi hx hw
end Go.Sh
