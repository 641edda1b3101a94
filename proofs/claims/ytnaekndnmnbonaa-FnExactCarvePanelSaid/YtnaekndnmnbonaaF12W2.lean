/- Walks through functions that the law reaches, printed by program. -/
import Derived.Test.YtnaekndnmnbonaaF12W1
set_option linter.unusedVariables false
set_option linter.unusedSimpArgs false
namespace Go.Sh
open Go Go.RowKit
/- (impl.Panel).carveOrder -/
def sh100_2 (x3 : List (List SWalker) × List Int) (x1820 : List Bool) (x1819 : SPoint) : (Int × Int × Int) → Option ((Int × Int × Int) ⊕ (Int))
  | (x1824, x1825, x1826) => bif decide (x1826 < ((x3.1.length : Nat) : Int)) then (Option.bind (getI x3.1 x1826) fun x1827 => Option.bind (getI x1827 0) fun x1831 => Option.bind (sh155 x1831.At.X x1819.X) fun x1835 => Option.bind (sh155 x1831.At.Y x1819.Y) fun x1836 => Option.bind (getI x1820 x1826) fun x1837 => Option.bind (bif !x1837 && ((decide (x1824 < 0)) || (decide ((w64 (x1835 + x1836)) < x1825))) then (some (x1826, w64 (x1835 + x1836))) else (some (x1824, x1825))) fun j1838 => (some (.inl (j1838.1, j1838.2, w64 (x1826 + 1))))) else (some (.inr x1824))
def sh100_1 (x3 : List (List SWalker) × List Int) : (Int × List Int × SPoint × List Bool) → Option ((Int × List Int × SPoint × List Bool) ⊕ (List Int))
  | (x1817, x1818, x1819, x1820) => bif decide (x1817 < ((x3.1.length : Nat) : Int)) then (Option.bind (iter (sh100_2 x3 x1820 x1819) ((-1), 0, 0)) fun b2 => (Option.bind (getI x1820 b2) fun x1839 => Option.bind (getI x3.1 b2) fun x1840 => Option.bind (getI x1840 0) fun x1844 => Option.bind (appL x1818 [b2]) fun x1847 => some (.inl (w64 (x1817 + 1), x1847, x1844.At, x1820.set (b2).toNat true)))) else (some (.inr x1818))
def sh100 (q0 : SPanel) : Option (List Int) := Option.bind (sh104 q0) fun x3 => Option.bind (mkL ((x3.1.length : Nat) : Int) false) fun x314 => Option.bind (iter (sh100_1 x3) (0, ([] : List Int), SPoint.mk 0 0, x314)) fun b1 => (some b1)
def T100 (r : List Int) (v : Value) (rs : List Own) : Prop := ∃ (a0 : Option Addr) (n0 c0 : Nat), r.length = n0 ∧ v = rets [.slice a0 n0 c0] ∧ rs = [rowT 2 eI64 a0 n0 c0 r]
set_option maxRecDepth 100000 in
set_option maxHeartbeats 1000000 in
theorem c100 {w : World} {q0 : SPanel} {a_0_2 : Option Addr} {n_0_2 c_0_2 : Nat} (g_0_2 : Rd w a_0_2 (eI64.fl q0.Breaks)) (l_0_2 : q0.Breaks.length = n_0_2) (k_0_2 : n_0_2 ≤ c_0_2) {r : List Int} (hres : sh100 q0 = some r) : Calls Go.Proofs.Try.prog 100 [.agg #[.int .i64 q0.W, .int .i64 q0.H, .slice a_0_2 n_0_2 c_0_2]].toArray w (Ret w (T100 r)) := by
  subst l_0_2
  unfold sh100 at hres
  refine calls_of (n := 83) (M := []) (es := []) Go.Proofs.Try.func100 rfl rfl rfl (Sep.nil _ _ _) ?_
  refine JX.seq ?_
  refine JX.region ?_
  refine JL.eff (ef_box rfl rfl) rfl ?_
  rintro _ _ ⟨g1, rfl, rfl⟩
  refine JL.val (yl_assign rfl) rfl ?_
  refine JL.nil ?_
  refine JE.code ?_
  refine JX.seq ?_
  refine JX.region ?_
  refine JL.val (yl_loadn Go.Proofs.Try.underlying39 rfl i39 rfl (fun w hC => rd_box hC 0 rfl) rfl (i39s).symm i39p) rfl ?_
  obtain ⟨x3, hx3, hres⟩ := bind_some hres
  refine JL.eff (ef_call (vs := [.agg #[.int .i64 q0.W, .int .i64 q0.H, .slice a_0_2 q0.Breaks.length c_0_2]]) (T := T104 x3) Go.Proofs.Try.func104 rfl (by kernel_rfl) rfl (fun w hC => c104 (q0 := q0) (rd_arg g_0_2 hC) rfl k_0_2 hx3)) rfl ?_
  rintro _ _ ⟨_, ⟨a4, _, cp5, hs7, rfl, hi8, a10, _, cp11, rfl, rfl, rfl⟩, rfl⟩
  refine JL.val (yl_move rfl) rfl ?_
  refine JL.val (yl_extract rfl rfl) rfl ?_
  refine JL.val (yl_extract rfl rfl) rfl ?_
  refine JL.val (yl_assign rfl) rfl ?_
  refine JL.val (yl_assign rfl) rfl ?_
  refine JL.nil ?_
  refine JE.weak (env' := [(3, .slice a4 x3.1.length cp5)]) (es' := [rowT 117 eHd a4 x3.1.length cp5 hs7, innO 120 eSWalker none hs7 x3.1]) [1, 2] ?_ ⟨rfl, trivial⟩ (by decide) rfl
  refine JE.code ?_
  refine JX.seq ?_
  refine JX.drawH [(1, .pure), (2, .pure), (3, .pure), (0, .tree (.alt 0 (.alt 4 (.alt 5 (.pure 6 (.alt 7 (.pure 8 .done) .nil)) .nil) (.alt 5 (.pure 6 (.alt 4 (.alt 7 (.pure 8 .done) .nil) (.alt 7 (.alt 4 (.pure 8 .done) .nil) .nil))) .nil)) (.alt 4 (.alt 0 (.alt 5 (.pure 6 (.alt 7 (.pure 8 .done) .nil)) .nil) (.alt 5 (.alt 0 (.pure 6 (.alt 7 (.pure 8 .done) .nil)) .nil) .nil)) (.alt 5 (.alt 0 (.pure 6 (.alt 4 (.alt 7 (.pure 8 .done) .nil) (.alt 7 (.alt 4 (.pure 8 .done) .nil) .nil))) (.alt 4 (.alt 0 (.pure 6 (.alt 7 (.pure 8 .done) .nil)) .nil) .nil)) .nil))))] [7] [] [0, 1] [] [rowT 117 eHd a4 x3.1.length cp5 hs7, innO 120 eSWalker none hs7 x3.1] mixedP (by kernel_rfl) (by kernel_rfl) (by decide) rfl rfl ?_
  intro wrr13 Nr13 hFr13
  refine JH.pure rfl (yl_build rfl (fun w => bld93_  w)) rfl ?_
  refine JH.pure rfl (yl_move rfl) rfl ?_
  refine JH.pure rfl (yl_len_slice Go.Proofs.Try.underlying113 rfl) rfl ?_
  obtain ⟨x314, hx314, hres⟩ := bind_some hres
  refine JH.cutS (K := fun J => ∀ (a14 : Option Addr) (a315 : Option Addr) (g614 : Nat), J [(3, .slice a4 x3.1.length cp5), (5, .slice a14 0 0), (6, ptrAt (some ⟨g614, 0, none⟩) 0), (7, .slice a315 x314.length x314.length)] [rowT 2 eI64 a14 0 0 ([] : List Int), rowT 4 eBool a315 x314.length x314.length x314, boxO 93 g614 [.int .i64 0, .int .i64 0]]) false 1 ?_ ?_
  · intro a14 a315 g614
    refine JH.nil ?_
    refine JE.weak (env' := [(3, .slice a4 x3.1.length cp5), (5, .slice a14 0 0), (6, ptrAt (some ⟨g614, 0, none⟩) 0), (7, .slice a315 x314.length x314.length)]) (es' := [rowT 117 eHd a4 x3.1.length cp5 hs7, innO 120 eSWalker none hs7 x3.1, rowT 2 eI64 a14 0 0 ([] : List Int), boxO 93 g614 [.int .i64 0, .int .i64 0], rowT 4 eBool a315 x314.length x314.length x314]) [0, 1, 2, 4, 3] ?_ ⟨rfl, rfl, rfl, rfl, trivial⟩ (by decide) rfl
    refine JE.code ?_
    refine JX.seq ?_
    refine JX.seq ?_
    refine JX.region ?_
    refine JL.val (yl_move rfl) rfl ?_
    refine JL.val (yl_len_slice Go.Proofs.Try.underlying113 rfl) rfl ?_
    refine JL.val (yl_move rfl) rfl ?_
    refine JL.nil ?_
    refine JE.code ?_
    refine JX.block ?_
    obtain ⟨y1, hy1, hresO1⟩ := bind_some hres
    refine JX.loop (I := fun (s1 : Int × List Int × SPoint × List Bool) aa ww => ∃ (a1814 : Option Addr) (cp1815 : Nat) (l1816 : s1.2.2.2.length = x314.length), St w [] 83 [(3, .slice a4 x3.1.length cp5), (5, .slice a1814 s1.2.1.length cp1815), (6, ptrAt (some ⟨g614, 0, none⟩) 0), (7, .slice a315 x314.length x314.length), (25, .int .i64 ((x3.1.length : Nat) : Int)), (26, .int .i64 s1.1)] [rowT 117 eHd a4 x3.1.length cp5 hs7, innO 120 eSWalker none hs7 x3.1, rowT 2 eI64 a1814 s1.2.1.length cp1815 s1.2.1, boxO 93 g614 [.int .i64 s1.2.2.1.X, .int .i64 s1.2.2.1.Y], rowT 4 eBool a315 x314.length x314.length s1.2.2.2] aa ww) (sh100_1 x3) hy1 (fun a w h => ⟨a14, 0, rfl, h.weak ⟨rfl, rfl, rfl, rfl, rfl, rfl, trivial⟩ [0, 1, 2, 3, 4] (by decide) rfl⟩) ?_
    rintro ⟨x1817, x1818, x1819, x1820⟩ o1 hres hox1 aa ww ⟨a1821, cp1822, l1823, hS⟩
    refine (?_ : JX Go.Proofs.Try.prog w [] 83 _ _ [(3, .slice a4 x3.1.length cp5), (5, .slice a1821 x1818.length cp1822), (6, ptrAt (some ⟨g614, 0, none⟩) 0), (7, .slice a315 x314.length x314.length), (25, .int .i64 ((x3.1.length : Nat) : Int)), (26, .int .i64 x1817)] [rowT 117 eHd a4 x3.1.length cp5 hs7, innO 120 eSWalker none hs7 x3.1, rowT 2 eI64 a1821 x1818.length cp1822 x1818, boxO 93 g614 [.int .i64 x1819.X, .int .i64 x1819.Y], rowT 4 eBool a315 x314.length x314.length x1820] _) aa ww hS
    clear hS
    simp only [sh100_1] at hres
    refine JX.seq ?_
    refine JX.region ?_
    refine JL.val (yl_lss rfl rfl) rfl ?_
    refine JL.nil ?_
    refine JE.code ?_
    refine JX.seq ?_
    rcases cond_some hres with ⟨hb, hres⟩ | ⟨hb, hres⟩
    · refine JX.condT rfl hb ?_
      refine JX.skip ?_
      refine JE.code ?_
      refine JX.seq ?_
      refine JX.block ?_
      refine JX.seq ?_
      refine JX.region ?_
      refine JL.val (yl_assign rfl) rfl ?_
      refine JL.val (yl_assign rfl) rfl ?_
      refine JL.nil ?_
      refine JE.code ?_
      refine JX.seq ?_
      refine JX.seq ?_
      refine JX.region ?_
      refine JL.val (yl_move rfl) rfl ?_
      refine JL.val (yl_len_slice Go.Proofs.Try.underlying113 rfl) rfl ?_
      refine JL.val (yl_move rfl) rfl ?_
      refine JL.nil ?_
      refine JE.code ?_
      refine JX.block ?_
      obtain ⟨y2, hy2, hresO2⟩ := bind_some hres
      refine JX.loop (I := fun (s2 : Int × Int × Int) aa ww => St w [] 83 [(3, .slice a4 x3.1.length cp5), (5, .slice a1821 x1818.length cp1822), (6, ptrAt (some ⟨g614, 0, none⟩) 0), (7, .slice a315 x314.length x314.length), (8, .int .i64 s2.1), (9, .int .i64 s2.2.1), (25, .int .i64 ((x3.1.length : Nat) : Int)), (26, .int .i64 x1817), (28, .slice a4 x3.1.length cp5), (29, .int .i64 ((x3.1.length : Nat) : Int)), (30, .int .i64 s2.2.2)] [rowT 117 eHd a4 x3.1.length cp5 hs7, innO 120 eSWalker none hs7 x3.1, rowT 2 eI64 a1821 x1818.length cp1822 x1818, boxO 93 g614 [.int .i64 x1819.X, .int .i64 x1819.Y], rowT 4 eBool a315 x314.length x314.length x1820] aa ww) (sh100_2 x3 x1820 x1819) hy2 (fun a w h => h.weak ⟨rfl, rfl, rfl, rfl, rfl, rfl, rfl, rfl, rfl, rfl, rfl, trivial⟩ [0, 1, 2, 3, 4] (by decide) rfl) ?_
      rintro ⟨x1824, x1825, x1826⟩ o2 hres hox2 aa ww hS
      refine (?_ : JX Go.Proofs.Try.prog w [] 83 _ _ [(3, .slice a4 x3.1.length cp5), (5, .slice a1821 x1818.length cp1822), (6, ptrAt (some ⟨g614, 0, none⟩) 0), (7, .slice a315 x314.length x314.length), (8, .int .i64 x1824), (9, .int .i64 x1825), (25, .int .i64 ((x3.1.length : Nat) : Int)), (26, .int .i64 x1817), (28, .slice a4 x3.1.length cp5), (29, .int .i64 ((x3.1.length : Nat) : Int)), (30, .int .i64 x1826)] [rowT 117 eHd a4 x3.1.length cp5 hs7, innO 120 eSWalker none hs7 x3.1, rowT 2 eI64 a1821 x1818.length cp1822 x1818, boxO 93 g614 [.int .i64 x1819.X, .int .i64 x1819.Y], rowT 4 eBool a315 x314.length x314.length x1820] _) aa ww hS
      clear hS
      simp only [sh100_2] at hres
      refine JX.seq ?_
      refine JX.region ?_
      refine JL.val (yl_lss rfl rfl) rfl ?_
      refine JL.nil ?_
      refine JE.code ?_
      refine JX.seq ?_
      rcases cond_some hres with ⟨hb, hres⟩ | ⟨hb, hres⟩
      · refine JX.condT rfl hb ?_
        refine JX.skip ?_
        refine JE.code ?_
        refine JX.seq ?_
        refine JX.block ?_
        refine JX.seq ?_
        refine JX.region ?_
        refine JL.val (yl_move rfl) rfl ?_
        obtain ⟨x1827, hx1827, hres⟩ := bind_some hres
        obtain ⟨ha1828, hc1829, hhx1827⟩ := Inn.sub hi8 hx1827
        refine JL.val (yl_idxT Go.Proofs.Try.underlying113 i117 i117s rfl rfl hhx1827 (Inn.len hi8) (fun w hC => rd_row hC 0 rfl)) rfl ?_
        refine JL.val (yl_loadT0 (z := ⟨ha1828, x1827.length, hc1829⟩) Go.Proofs.Try.underlying117 rfl rfl hhx1827 (fun w hC => rd_row hC 0 rfl) rfl) rfl ?_
        refine JL.val (yl_assign rfl) rfl ?_
        refine JL.val (yl_assign rfl) rfl ?_
        refine JL.nil ?_
        refine JE.weak (env' := [(3, .slice a4 x3.1.length cp5), (5, .slice a1821 x1818.length cp1822), (6, ptrAt (some ⟨g614, 0, none⟩) 0), (7, .slice a315 x314.length x314.length), (8, .int .i64 x1824), (9, .int .i64 x1825), (10, .int .i64 x1826), (11, .slice ha1828 x1827.length hc1829), (25, .int .i64 ((x3.1.length : Nat) : Int)), (26, .int .i64 x1817), (28, .slice a4 x3.1.length cp5), (29, .int .i64 ((x3.1.length : Nat) : Int)), (30, .int .i64 x1826)]) (es' := [rowT 117 eHd a4 x3.1.length cp5 hs7, innO 120 eSWalker none hs7 x3.1, rowT 2 eI64 a1821 x1818.length cp1822 x1818, boxO 93 g614 [.int .i64 x1819.X, .int .i64 x1819.Y], rowT 4 eBool a315 x314.length x314.length x1820]) [0, 1, 2, 3, 4] ?_ ⟨rfl, rfl, rfl, rfl, rfl, rfl, rfl, rfl, rfl, rfl, rfl, rfl, rfl, trivial⟩ (by decide) rfl
        refine JE.code ?_
        refine JX.seq ?_
        refine JX.region ?_
        refine JL.val (yl_move rfl) rfl ?_
        obtain ⟨x1831, hx1831, hres⟩ := bind_some hres
        refine JL.val (yl_idxT Go.Proofs.Try.underlying117 i120 i120s rfl rfl hx1831 rfl (fun w hC => (RdI.sub (rd_inn hC 1 rfl) hx1827 hhx1827))) rfl ?_
        refine JL.val (yl_fieldAtT Go.Proofs.Try.underlying120 rfl i93 i93n rfl hx1831 (fun w hC => (RdI.sub (rd_inn hC 1 rfl) hx1827 hhx1827))) rfl ?_
        refine JL.val (yl_loadTs (j := 0) (kk := 2) Go.Proofs.Try.underlying93 rfl i93 i93s rfl hx1831 (fun w hC => (RdI.sub (rd_inn hC 1 rfl) hx1827 hhx1827)) rfl rfl (by decide) (Nat.le_of_ble_eq_true rfl)) rfl ?_
        refine JL.eff (ef_alloc i93 i93z rfl) rfl ?_
        rintro _ _ ⟨g1832, rfl, rfl⟩
        refine JL.eff (ef_store_box (i := 5) (v := .agg #[.int .i64 x1831.At.X, .int .i64 x1831.At.Y]) i93 rfl rfl rfl (i93s).symm (Nat.le_of_ble_eq_true rfl) (by simp [Value.cells, Value.oneCell'])) rfl ?_
        rintro _ _ rfl
        refine JL.nil ?_
        refine JE.weak (env' := [(3, .slice a4 x3.1.length cp5), (5, .slice a1821 x1818.length cp1822), (6, ptrAt (some ⟨g614, 0, none⟩) 0), (7, .slice a315 x314.length x314.length), (8, .int .i64 x1824), (9, .int .i64 x1825), (10, .int .i64 x1826), (12, ptrAt (some ⟨g1832, 0, none⟩) 0), (25, .int .i64 ((x3.1.length : Nat) : Int)), (26, .int .i64 x1817), (28, .slice a4 x3.1.length cp5), (29, .int .i64 ((x3.1.length : Nat) : Int)), (30, .int .i64 x1826)]) (es' := [rowT 117 eHd a4 x3.1.length cp5 hs7, innO 120 eSWalker none hs7 x3.1, rowT 2 eI64 a1821 x1818.length cp1822 x1818, boxO 93 g614 [.int .i64 x1819.X, .int .i64 x1819.Y], rowT 4 eBool a315 x314.length x314.length x1820, boxO 93 g1832 [.int .i64 x1831.At.X, .int .i64 x1831.At.Y]]) [0, 1, 2, 3, 4, 5] ?_ ⟨rfl, rfl, rfl, rfl, rfl, rfl, rfl, rfl, rfl, rfl, rfl, rfl, rfl, trivial⟩ (by decide) rfl
        refine JE.code ?_
        refine JX.seq ?_
        refine JX.drawH [(0, .pure), (1, .read), (2, .pure), (3, .read), (5, .pure), (6, .read), (7, .pure), (8, .read), (4, .must), (9, .must), (10, .pure), (11, .pure)] [] [] [0, 1, 2, 3, 4, 5] [] [rowT 117 eHd a4 x3.1.length cp5 hs7, innO 120 eSWalker none hs7 x3.1, rowT 2 eI64 a1821 x1818.length cp1822 x1818, boxO 93 g614 [.int .i64 x1819.X, .int .i64 x1819.Y], rowT 4 eBool a315 x314.length x314.length x1820, boxO 93 g1832 [.int .i64 x1831.At.X, .int .i64 x1831.At.Y]] mixedP (by kernel_rfl) (by kernel_rfl) (by decide) rfl rfl ?_
        intro wrr1834 Nr1834 hFr1834
        refine JH.pure rfl (yl_fieldAt (a := some _) Go.Proofs.Try.underlying93 rfl i2 i2n rfl rfl) rfl ?_
        refine JH.read rfl (yl_load1 Go.Proofs.Try.underlying2 rfl rfl (fun w hw => hFr1834.box 5 rfl rfl hw) rfl) rfl ?_
        refine JH.pure rfl (yl_fieldAt (a := some _) Go.Proofs.Try.underlying93 rfl i2 i2n rfl rfl) rfl ?_
        refine JH.read rfl (yl_load1 Go.Proofs.Try.underlying2 rfl rfl (fun w hw => hFr1834.box 3 rfl rfl hw) rfl) rfl ?_
        refine JH.pure rfl (yl_fieldAt (a := some _) Go.Proofs.Try.underlying93 rfl i2 i2n rfl rfl) rfl ?_
        refine JH.read rfl (yl_load1 Go.Proofs.Try.underlying2 rfl rfl (fun w hw => hFr1834.box 5 rfl rfl hw) rfl) rfl ?_
        refine JH.pure rfl (yl_fieldAt (a := some _) Go.Proofs.Try.underlying93 rfl i2 i2n rfl rfl) rfl ?_
        refine JH.read rfl (yl_load1 Go.Proofs.Try.underlying2 rfl rfl (fun w hw => hFr1834.box 3 rfl rfl hw) rfl) rfl ?_
        obtain ⟨x1835, hx1835, hres⟩ := bind_some hres
        refine JH.must rfl (ef_call (T := T155 x1835) Go.Proofs.Try.func155 rfl (by kernel_rfl) rfl (fun w hC => c155  hx1835)) rfl rfl ?_
        rintro _ _ ⟨_, ⟨rfl, rfl⟩, rfl⟩
        obtain ⟨x1836, hx1836, hres⟩ := bind_some hres
        refine JH.must rfl (ef_call (T := T155 x1836) Go.Proofs.Try.func155 rfl (by kernel_rfl) rfl (fun w hC => c155  hx1836)) rfl rfl ?_
        rintro _ _ ⟨_, ⟨rfl, rfl⟩, rfl⟩
        refine JH.pure rfl (yl_add rfl rfl) rfl ?_
        refine JH.pure rfl (yl_assign rfl) rfl ?_
        refine JH.nil ?_
        refine JE.weak (env' := [(3, .slice a4 x3.1.length cp5), (5, .slice a1821 x1818.length cp1822), (6, ptrAt (some ⟨g614, 0, none⟩) 0), (7, .slice a315 x314.length x314.length), (8, .int .i64 x1824), (9, .int .i64 x1825), (10, .int .i64 x1826), (13, .int .i64 (w64 (x1835 + x1836))), (25, .int .i64 ((x3.1.length : Nat) : Int)), (26, .int .i64 x1817), (28, .slice a4 x3.1.length cp5), (29, .int .i64 ((x3.1.length : Nat) : Int)), (30, .int .i64 x1826)]) (es' := [rowT 117 eHd a4 x3.1.length cp5 hs7, innO 120 eSWalker none hs7 x3.1, rowT 2 eI64 a1821 x1818.length cp1822 x1818, boxO 93 g614 [.int .i64 x1819.X, .int .i64 x1819.Y], rowT 4 eBool a315 x314.length x314.length x1820]) [0, 1, 2, 3, 4] ?_ ⟨rfl, rfl, rfl, rfl, rfl, rfl, rfl, rfl, rfl, rfl, rfl, rfl, rfl, trivial⟩ (by decide) rfl
        refine JE.code ?_
        refine JX.seq ?_
        refine JX.region ?_
        refine JL.val (yl_move rfl) rfl ?_
        refine JL.val (yl_move rfl) rfl ?_
        obtain ⟨x1837, hx1837, hres⟩ := bind_some hres
        refine JL.val (yl_idxT Go.Proofs.Try.underlying153 i4 i4s rfl rfl hx1837 l1823 (fun w hC => rd_row hC 4 rfl)) rfl ?_
        refine JL.val (yl_loadT0 Go.Proofs.Try.underlying4 rfl rfl hx1837 (fun w hC => rd_row hC 4 rfl) rfl) rfl ?_
        refine JL.val (yl_not rfl) rfl ?_
        refine JL.val (yl_move rfl) rfl ?_
        refine JL.cut (K := fun J => J [(3, .slice a4 x3.1.length cp5), (5, .slice a1821 x1818.length cp1822), (6, ptrAt (some ⟨g614, 0, none⟩) 0), (7, .slice a315 x314.length x314.length), (8, .int .i64 x1824), (9, .int .i64 x1825), (10, .int .i64 x1826), (13, .int .i64 (w64 (x1835 + x1836))), (25, .int .i64 ((x3.1.length : Nat) : Int)), (26, .int .i64 x1817), (28, .slice a4 x3.1.length cp5), (29, .int .i64 ((x3.1.length : Nat) : Int)), (30, .int .i64 x1826), (63, .bool (!x1837 && ((decide (x1824 < 0)) || (decide ((w64 (x1835 + x1836)) < x1825)))))] [rowT 117 eHd a4 x3.1.length cp5 hs7, innO 120 eSWalker none hs7 x3.1, rowT 2 eI64 a1821 x1818.length cp1822 x1818, boxO 93 g614 [.int .i64 x1819.X, .int .i64 x1819.Y], rowT 4 eBool a315 x314.length x314.length x1820]) 8 ?_ ?_
        · refine JL.nil ?_
          refine JE.weak (env' := [(3, .slice a4 x3.1.length cp5), (5, .slice a1821 x1818.length cp1822), (6, ptrAt (some ⟨g614, 0, none⟩) 0), (7, .slice a315 x314.length x314.length), (8, .int .i64 x1824), (9, .int .i64 x1825), (10, .int .i64 x1826), (13, .int .i64 (w64 (x1835 + x1836))), (25, .int .i64 ((x3.1.length : Nat) : Int)), (26, .int .i64 x1817), (28, .slice a4 x3.1.length cp5), (29, .int .i64 ((x3.1.length : Nat) : Int)), (30, .int .i64 x1826), (63, .bool (!x1837 && ((decide (x1824 < 0)) || (decide ((w64 (x1835 + x1836)) < x1825)))))]) (es' := [rowT 117 eHd a4 x3.1.length cp5 hs7, innO 120 eSWalker none hs7 x3.1, rowT 2 eI64 a1821 x1818.length cp1822 x1818, boxO 93 g614 [.int .i64 x1819.X, .int .i64 x1819.Y], rowT 4 eBool a315 x314.length x314.length x1820]) [0, 1, 2, 3, 4] ?_ ⟨rfl, rfl, rfl, rfl, rfl, rfl, rfl, rfl, rfl, rfl, rfl, rfl, rfl, rfl, trivial⟩ (by decide) rfl
          refine JE.code ?_
          obtain ⟨j1838, hj1838, hresj1838⟩ := bind_some hres
          refine JX.cut (K := fun J => J [(3, .slice a4 x3.1.length cp5), (5, .slice a1821 x1818.length cp1822), (6, ptrAt (some ⟨g614, 0, none⟩) 0), (7, .slice a315 x314.length x314.length), (8, .int .i64 j1838.1), (9, .int .i64 j1838.2), (25, .int .i64 ((x3.1.length : Nat) : Int)), (26, .int .i64 x1817), (28, .slice a4 x3.1.length cp5), (29, .int .i64 ((x3.1.length : Nat) : Int)), (30, .int .i64 x1826)] [rowT 117 eHd a4 x3.1.length cp5 hs7, innO 120 eSWalker none hs7 x3.1, rowT 2 eI64 a1821 x1818.length cp1822 x1818, boxO 93 g614 [.int .i64 x1819.X, .int .i64 x1819.Y], rowT 4 eBool a315 x314.length x314.length x1820]) ?_ ?_
          · have hres := hresj1838
            refine JE.code ?_
            refine JX.region ?_
            refine JL.val (yl_add rfl rfl) rfl ?_
            refine JL.val (yl_move rfl) rfl ?_
            refine JL.nil ?_
            refine JE.cont hres ?_
            exact fun a w h => h.weak ⟨rfl, rfl, rfl, rfl, rfl, rfl, rfl, rfl, rfl, rfl, rfl, trivial⟩ [0, 1, 2, 3, 4] (by decide) rfl
          · intro K
            rcases cond_some hj1838 with ⟨hb, hres⟩ | ⟨hb, hres⟩
            · refine JX.condT rfl hb ?_
              refine JX.region ?_
              refine JL.val (yl_move rfl) rfl ?_
              refine JL.val (yl_move rfl) rfl ?_
              refine JL.val (yl_assign rfl) rfl ?_
              refine JL.val (yl_assign rfl) rfl ?_
              refine JL.nil ?_
              refine JE.weak (env' := [(3, .slice a4 x3.1.length cp5), (5, .slice a1821 x1818.length cp1822), (6, ptrAt (some ⟨g614, 0, none⟩) 0), (7, .slice a315 x314.length x314.length), (8, .int .i64 x1826), (9, .int .i64 (w64 (x1835 + x1836))), (25, .int .i64 ((x3.1.length : Nat) : Int)), (26, .int .i64 x1817), (28, .slice a4 x3.1.length cp5), (29, .int .i64 ((x3.1.length : Nat) : Int)), (30, .int .i64 x1826)]) (es' := [rowT 117 eHd a4 x3.1.length cp5 hs7, innO 120 eSWalker none hs7 x3.1, rowT 2 eI64 a1821 x1818.length cp1822 x1818, boxO 93 g614 [.int .i64 x1819.X, .int .i64 x1819.Y], rowT 4 eBool a315 x314.length x314.length x1820]) [0, 1, 2, 3, 4] ?_ ⟨rfl, rfl, rfl, rfl, rfl, rfl, rfl, rfl, rfl, rfl, rfl, trivial⟩ (by decide) rfl
              have hj := Option.some.inj hres
              exact JE.weak [0, 1, 2, 3, 4] (K) ⟨(by subst hj; rfl), (by subst hj; rfl), (by subst hj; rfl), (by subst hj; rfl), (by subst hj; rfl), (by subst hj; rfl), (by subst hj; rfl), (by subst hj; rfl), (by subst hj; rfl), (by subst hj; rfl), (by subst hj; rfl), trivial⟩ (by decide) (by subst hj; rfl)
            · refine JX.condF rfl hb ?_
              refine JX.skip ?_
              have hj := Option.some.inj hres
              exact JE.weak [0, 1, 2, 3, 4] (K) ⟨(by subst hj; rfl), (by subst hj; rfl), (by subst hj; rfl), (by subst hj; rfl), (by subst hj; rfl), (by subst hj; rfl), (by subst hj; rfl), (by subst hj; rfl), (by subst hj; rfl), (by subst hj; rfl), (by subst hj; rfl), trivial⟩ (by decide) (by subst hj; rfl)
        · intro K
          rcases Bool.eq_false_or_eq_true (!x1837) with hb | hb
          · refine JL.set (d := 55) (v := .bool true) (congrArg (fun b => some (Value.bool b)) hb) ?_
            refine JL.gval rfl rfl (yl_move rfl) rfl ?_
            refine JL.gval rfl rfl (yl_lss rfl rfl) rfl ?_
            refine JL.gval rfl rfl (yl_move rfl) rfl ?_
            refine JL.cut (K := fun J => J [(3, .slice a4 x3.1.length cp5), (5, .slice a1821 x1818.length cp1822), (6, ptrAt (some ⟨g614, 0, none⟩) 0), (7, .slice a315 x314.length x314.length), (8, .int .i64 x1824), (9, .int .i64 x1825), (10, .int .i64 x1826), (13, .int .i64 (w64 (x1835 + x1836))), (25, .int .i64 ((x3.1.length : Nat) : Int)), (26, .int .i64 x1817), (28, .slice a4 x3.1.length cp5), (29, .int .i64 ((x3.1.length : Nat) : Int)), (30, .int .i64 x1826), (55, .bool true), (62, .bool ((decide (x1824 < 0)) || (decide ((w64 (x1835 + x1836)) < x1825))))] [rowT 117 eHd a4 x3.1.length cp5 hs7, innO 120 eSWalker none hs7 x3.1, rowT 2 eI64 a1821 x1818.length cp1822 x1818, boxO 93 g614 [.int .i64 x1819.X, .int .i64 x1819.Y], rowT 4 eBool a315 x314.length x314.length x1820]) 4 ?_ ?_
            · refine JL.val (yl_pick_true rfl rfl) rfl ?_
              exact JL.weak [0, 1, 2, 3, 4] K ⟨rfl, rfl, rfl, rfl, rfl, rfl, rfl, rfl, rfl, rfl, rfl, rfl, rfl, (by rw [hb]; rfl), trivial⟩ (by decide) rfl
            · intro K
              rcases Bool.eq_false_or_eq_true (decide (x1824 < 0)) with hb | hb
              · refine JL.set (d := 58) (v := .bool true) (congrArg (fun b => some (Value.bool b)) hb) ?_
                refine JL.gskip rfl rfl rfl rfl ?_
                refine JL.gskip rfl rfl rfl rfl ?_
                refine JL.gskip rfl rfl rfl rfl ?_
                refine JL.gval rfl rfl (yl_pick_true rfl rfl) rfl ?_
                exact JL.weak [0, 1, 2, 3, 4] K ⟨rfl, rfl, rfl, rfl, rfl, rfl, rfl, rfl, rfl, rfl, rfl, rfl, rfl, rfl, (by rw [hb]; rfl), trivial⟩ (by decide) rfl
              · refine JL.set (d := 58) (v := .bool false) (congrArg (fun b => some (Value.bool b)) hb) ?_
                refine JL.gval rfl rfl (yl_move rfl) rfl ?_
                refine JL.gval rfl rfl (yl_move rfl) rfl ?_
                refine JL.gval rfl rfl (yl_lss rfl rfl) rfl ?_
                refine JL.gval rfl rfl (yl_pick_false rfl rfl) rfl ?_
                exact JL.weak [0, 1, 2, 3, 4] K ⟨rfl, rfl, rfl, rfl, rfl, rfl, rfl, rfl, rfl, rfl, rfl, rfl, rfl, rfl, (by rw [hb]; rfl), trivial⟩ (by decide) rfl
          · refine JL.set (d := 55) (v := .bool false) (congrArg (fun b => some (Value.bool b)) hb) ?_
            refine JL.gskip rfl rfl rfl rfl ?_
            refine JL.gskip rfl rfl rfl rfl ?_
            refine JL.gskip rfl rfl rfl rfl ?_
            refine JL.gnone rfl rfl rfl ?_
            refine JL.gnone rfl rfl rfl ?_
            refine JL.gnone rfl rfl rfl ?_
            refine JL.gskip rfl rfl rfl rfl ?_
            refine JL.val (yl_pick_false rfl rfl) rfl ?_
            exact JL.weak [0, 1, 2, 3, 4] K ⟨rfl, rfl, rfl, rfl, rfl, rfl, rfl, rfl, rfl, rfl, rfl, rfl, rfl, (by rw [hb]; rfl), trivial⟩ (by decide) rfl
      · refine JX.condF rfl hb ?_
        refine JX.exit ?_
        refine JE.qb rfl ?_
        obtain ⟨b2, hb2⟩ : ∃ b : Int, b = x1824 := ⟨_, rfl⟩
        have hy2 : b2 = y2 := by rw [hb2]; exact hox2 _ (Option.some.inj hres).symm
        have hres := hresO2
        rw [← hy2] at hres
        refine JE.weak (env' := [(3, .slice a4 x3.1.length cp5), (5, .slice a1821 x1818.length cp1822), (6, ptrAt (some ⟨g614, 0, none⟩) 0), (7, .slice a315 x314.length x314.length), (8, .int .i64 b2), (25, .int .i64 ((x3.1.length : Nat) : Int)), (26, .int .i64 x1817)]) (es' := [rowT 117 eHd a4 x3.1.length cp5 hs7, innO 120 eSWalker none hs7 x3.1, rowT 2 eI64 a1821 x1818.length cp1822 x1818, boxO 93 g614 [.int .i64 x1819.X, .int .i64 x1819.Y], rowT 4 eBool a315 x314.length x314.length x1820]) [0, 1, 2, 3, 4] ?_ ⟨(by subst hb2; rfl), (by subst hb2; rfl), (by subst hb2; rfl), (by subst hb2; rfl), (by subst hb2; rfl), (by subst hb2; rfl), (by subst hb2; rfl), trivial⟩ (by decide) (by subst hb2; rfl)
        refine JE.code ?_
        refine JX.seq ?_
        refine JX.region ?_
        refine JL.val (yl_move rfl) rfl ?_
        refine JL.val (yl_move rfl) rfl ?_
        obtain ⟨x1839, hx1839, hres⟩ := bind_some hres
        refine JL.val (yl_idxT Go.Proofs.Try.underlying153 i4 i4s rfl rfl hx1839 l1823 (fun w hC => rd_row hC 4 rfl)) rfl ?_
        refine JL.eff (ef_storeT (ix := 4) (u := true) i4 i4s rfl rfl rfl hx1839 rfl) rfl ?_
        rintro _ _ rfl
        refine JL.nil ?_
        refine JE.weak (env' := [(3, .slice a4 x3.1.length cp5), (5, .slice a1821 x1818.length cp1822), (6, ptrAt (some ⟨g614, 0, none⟩) 0), (7, .slice a315 x314.length x314.length), (8, .int .i64 b2), (25, .int .i64 ((x3.1.length : Nat) : Int)), (26, .int .i64 x1817)]) (es' := [rowT 117 eHd a4 x3.1.length cp5 hs7, innO 120 eSWalker none hs7 x3.1, rowT 2 eI64 a1821 x1818.length cp1822 x1818, boxO 93 g614 [.int .i64 x1819.X, .int .i64 x1819.Y], rowT 4 eBool a315 x314.length x314.length (x1820.set (b2).toNat true)]) [0, 1, 2, 3, 4] ?_ ⟨rfl, rfl, rfl, rfl, rfl, rfl, rfl, trivial⟩ (by decide) rfl
        refine JE.code ?_
        refine JX.seq ?_
        refine JX.region ?_
        refine JL.val (yl_move rfl) rfl ?_
        refine JL.val (yl_move rfl) rfl ?_
        obtain ⟨x1840, hx1840, hres⟩ := bind_some hres
        obtain ⟨ha1841, hc1842, hhx1840⟩ := Inn.sub hi8 hx1840
        refine JL.val (yl_idxT Go.Proofs.Try.underlying113 i117 i117s rfl rfl hhx1840 (Inn.len hi8) (fun w hC => rd_row hC 0 rfl)) rfl ?_
        refine JL.val (yl_loadT0 (z := ⟨ha1841, x1840.length, hc1842⟩) Go.Proofs.Try.underlying117 rfl rfl hhx1840 (fun w hC => rd_row hC 0 rfl) rfl) rfl ?_
        obtain ⟨x1844, hx1844, hres⟩ := bind_some hres
        refine JL.val (yl_idxT Go.Proofs.Try.underlying117 i120 i120s rfl rfl hx1844 rfl (fun w hC => (RdI.sub (rd_inn hC 1 rfl) hx1840 hhx1840))) rfl ?_
        refine JL.val (yl_fieldAtT Go.Proofs.Try.underlying120 rfl i93 i93n rfl hx1844 (fun w hC => (RdI.sub (rd_inn hC 1 rfl) hx1840 hhx1840))) rfl ?_
        refine JL.val (yl_loadTs (j := 0) (kk := 2) Go.Proofs.Try.underlying93 rfl i93 i93s rfl hx1844 (fun w hC => (RdI.sub (rd_inn hC 1 rfl) hx1840 hhx1840)) rfl rfl (by decide) (Nat.le_of_ble_eq_true rfl)) rfl ?_
        refine JL.eff (ef_store_box (i := 3) (v := .agg #[.int .i64 x1844.At.X, .int .i64 x1844.At.Y]) i93 rfl rfl rfl (i93s).symm (Nat.le_of_ble_eq_true rfl) (by simp [Value.cells, Value.oneCell'])) rfl ?_
        rintro _ _ rfl
        refine JL.nil ?_
        refine JE.weak (env' := [(3, .slice a4 x3.1.length cp5), (5, .slice a1821 x1818.length cp1822), (6, ptrAt (some ⟨g614, 0, none⟩) 0), (7, .slice a315 x314.length x314.length), (8, .int .i64 b2), (25, .int .i64 ((x3.1.length : Nat) : Int)), (26, .int .i64 x1817)]) (es' := [rowT 117 eHd a4 x3.1.length cp5 hs7, innO 120 eSWalker none hs7 x3.1, rowT 2 eI64 a1821 x1818.length cp1822 x1818, boxO 93 g614 [.int .i64 x1844.At.X, .int .i64 x1844.At.Y], rowT 4 eBool a315 x314.length x314.length (x1820.set (b2).toNat true)]) [0, 1, 2, 3, 4] ?_ ⟨rfl, rfl, rfl, rfl, rfl, rfl, rfl, trivial⟩ (by decide) rfl
        refine JE.code ?_
        refine JX.region ?_
        refine JL.val (yl_move rfl) rfl ?_
        refine JL.val (yl_move rfl) rfl ?_
        refine JL.eff (ef_buildSlice (E := 2) (k := eI64.k) (us := eI64.fl [b2]) rfl (fun w => bsl33_1 b2 w) rfl (by decide)) rfl ?_
        rintro _ _ ⟨a1845, rfl, rfl⟩
        obtain ⟨x1847, hx1847, hres⟩ := bind_some hres
        refine JL.eff (ef_appendT (ix := 2) Go.Proofs.Try.underlying33 i2 i2z i2s rfl i2b0 i2b1 rfl rfl rfl rfl rfl (fun w hC => rd_row hC 5 rfl) hx1847) rfl ?_
        rintro _ _ ⟨a1848, cp1849, rfl, rfl⟩
        refine JL.val (yl_assign rfl) rfl ?_
        refine JL.nil ?_
        refine JE.weak (env' := [(3, .slice a4 x3.1.length cp5), (5, .slice a1848 x1847.length cp1849), (6, ptrAt (some ⟨g614, 0, none⟩) 0), (7, .slice a315 x314.length x314.length), (25, .int .i64 ((x3.1.length : Nat) : Int)), (26, .int .i64 x1817)]) (es' := [rowT 117 eHd a4 x3.1.length cp5 hs7, innO 120 eSWalker none hs7 x3.1, rowT 2 eI64 a1848 x1847.length cp1849 x1847, boxO 93 g614 [.int .i64 x1844.At.X, .int .i64 x1844.At.Y], rowT 4 eBool a315 x314.length x314.length (x1820.set (b2).toNat true)]) [0, 1, 2, 3, 4] ?_ ⟨rfl, rfl, rfl, rfl, rfl, rfl, trivial⟩ (by decide) rfl
        refine JE.code ?_
        refine JX.region ?_
        refine JL.val (yl_add rfl rfl) rfl ?_
        refine JL.val (yl_move rfl) rfl ?_
        refine JL.nil ?_
        refine JE.cont hres ?_
        exact fun a w h => ⟨a1848, cp1849, (List.length_set.trans l1823), h.weak ⟨rfl, rfl, rfl, rfl, rfl, rfl, trivial⟩ [0, 1, 2, 3, 4] (by decide) rfl⟩
    · refine JX.condF rfl hb ?_
      refine JX.exit ?_
      refine JE.qb rfl ?_
      obtain ⟨b1, hb1⟩ : ∃ b : List Int, b = x1818 := ⟨_, rfl⟩
      have hy1 : b1 = y1 := by rw [hb1]; exact hox1 _ (Option.some.inj hres).symm
      have hres := hresO1
      rw [← hy1] at hres
      refine JE.weak (env' := [(5, .slice a1821 b1.length cp1822)]) (es' := [rowT 2 eI64 a1821 b1.length cp1822 b1]) [2] ?_ ⟨(by subst hb1; rfl), trivial⟩ (by decide) (by subst hb1; rfl)
      refine JE.code ?_
      refine JX.seq ?_
      refine JX.region ?_
      refine JL.val (yl_move rfl) rfl ?_
      refine JL.val (yl_assign rfl) rfl ?_
      refine JL.nil ?_
      refine JE.code ?_
      refine JX.ret ?_
      obtain rfl := Option.some.inj hres
      refine JE.ret (rs := [.tmp 2]) (vs := [.slice a1821 b1.length cp1822]) rfl ⟨rfl, trivial⟩ ?_
      exact fun w' hb hs => ⟨_, _, ⟨a1821, b1.length, cp1822, rfl, rfl, rfl⟩, rfl, hb, hs.sel [0] _ (by decide) rfl⟩
  · intro K
    refine JH.talt ?_ ?_
    · refine JH.must rfl (ef_buildSlice (E := 2) (k := eI64.k) (us := eI64.fl ([] : List Int)) rfl (fun w => bsl33_0  w) rfl (by decide)) rfl rfl ?_
      rintro _ _ ⟨a14, rfl, rfl⟩
      refine JH.talt ?_ ?_
      · refine JH.must rfl (ef_makeS (e := eBool) Go.Proofs.Try.underlying153 i4 i4s i4z rfl i4b1 rfl rfl hx314) rfl rfl ?_
        rintro _ _ ⟨a315, rfl, rfl⟩
        refine JH.talt ?_ ?_
        · refine JH.must rfl (ef_alloc i93 i93z rfl) rfl rfl ?_
          rintro _ _ ⟨g614, rfl, rfl⟩
          refine JH.tpure ?_
          refine JH.pure rfl (yl_assign rfl) rfl ?_
          refine JH.talt ?_ ?_
          · refine JH.must rfl (ef_store_box (i := 2) (v := .agg #[.int .i64 0, .int .i64 0]) i93 rfl rfl rfl (i93s).symm (Nat.le_of_ble_eq_true rfl) (by simp [Value.cells, Value.oneCell'])) rfl rfl ?_
            rintro _ _ rfl
            refine JH.tpure ?_
            refine JH.pure rfl (yl_assign rfl) rfl ?_
            refine JH.tdone ?_
            exact JH.weak [0, 1, 2] (K a14 a315 g614) ⟨rfl, rfl, rfl, rfl, trivial⟩ (by decide) rfl
          · exact JH.tnil
        · exact JH.tnil
      · refine JH.talt ?_ ?_
        · refine JH.must rfl (ef_alloc i93 i93z rfl) rfl rfl ?_
          rintro _ _ ⟨g614, rfl, rfl⟩
          refine JH.tpure ?_
          refine JH.pure rfl (yl_assign rfl) rfl ?_
          refine JH.talt ?_ ?_
          · refine JH.must rfl (ef_makeS (e := eBool) Go.Proofs.Try.underlying153 i4 i4s i4z rfl i4b1 rfl rfl hx314) rfl rfl ?_
            rintro _ _ ⟨a315, rfl, rfl⟩
            refine JH.talt ?_ ?_
            · refine JH.must rfl (ef_store_box (i := 1) (v := .agg #[.int .i64 0, .int .i64 0]) i93 rfl rfl rfl (i93s).symm (Nat.le_of_ble_eq_true rfl) (by simp [Value.cells, Value.oneCell'])) rfl rfl ?_
              rintro _ _ rfl
              refine JH.tpure ?_
              refine JH.pure rfl (yl_assign rfl) rfl ?_
              refine JH.tdone ?_
              exact JH.weak [0, 2, 1] (K a14 a315 g614) ⟨rfl, rfl, rfl, rfl, trivial⟩ (by decide) rfl
            · exact JH.tnil
          · refine JH.talt ?_ ?_
            · refine JH.must rfl (ef_store_box (i := 1) (v := .agg #[.int .i64 0, .int .i64 0]) i93 rfl rfl rfl (i93s).symm (Nat.le_of_ble_eq_true rfl) (by simp [Value.cells, Value.oneCell'])) rfl rfl ?_
              rintro _ _ rfl
              refine JH.talt ?_ ?_
              · refine JH.must rfl (ef_makeS (e := eBool) Go.Proofs.Try.underlying153 i4 i4s i4z rfl i4b1 rfl rfl hx314) rfl rfl ?_
                rintro _ _ ⟨a315, rfl, rfl⟩
                refine JH.tpure ?_
                refine JH.pure rfl (yl_assign rfl) rfl ?_
                refine JH.tdone ?_
                exact JH.weak [0, 2, 1] (K a14 a315 g614) ⟨rfl, rfl, rfl, rfl, trivial⟩ (by decide) rfl
              · exact JH.tnil
            · exact JH.tnil
        · exact JH.tnil
    · refine JH.talt ?_ ?_
      · refine JH.must rfl (ef_makeS (e := eBool) Go.Proofs.Try.underlying153 i4 i4s i4z rfl i4b1 rfl rfl hx314) rfl rfl ?_
        rintro _ _ ⟨a315, rfl, rfl⟩
        refine JH.talt ?_ ?_
        · refine JH.must rfl (ef_buildSlice (E := 2) (k := eI64.k) (us := eI64.fl ([] : List Int)) rfl (fun w => bsl33_0  w) rfl (by decide)) rfl rfl ?_
          rintro _ _ ⟨a14, rfl, rfl⟩
          refine JH.talt ?_ ?_
          · refine JH.must rfl (ef_alloc i93 i93z rfl) rfl rfl ?_
            rintro _ _ ⟨g614, rfl, rfl⟩
            refine JH.tpure ?_
            refine JH.pure rfl (yl_assign rfl) rfl ?_
            refine JH.talt ?_ ?_
            · refine JH.must rfl (ef_store_box (i := 2) (v := .agg #[.int .i64 0, .int .i64 0]) i93 rfl rfl rfl (i93s).symm (Nat.le_of_ble_eq_true rfl) (by simp [Value.cells, Value.oneCell'])) rfl rfl ?_
              rintro _ _ rfl
              refine JH.tpure ?_
              refine JH.pure rfl (yl_assign rfl) rfl ?_
              refine JH.tdone ?_
              exact JH.weak [1, 0, 2] (K a14 a315 g614) ⟨rfl, rfl, rfl, rfl, trivial⟩ (by decide) rfl
            · exact JH.tnil
          · exact JH.tnil
        · refine JH.talt ?_ ?_
          · refine JH.must rfl (ef_alloc i93 i93z rfl) rfl rfl ?_
            rintro _ _ ⟨g614, rfl, rfl⟩
            refine JH.talt ?_ ?_
            · refine JH.must rfl (ef_buildSlice (E := 2) (k := eI64.k) (us := eI64.fl ([] : List Int)) rfl (fun w => bsl33_0  w) rfl (by decide)) rfl rfl ?_
              rintro _ _ ⟨a14, rfl, rfl⟩
              refine JH.tpure ?_
              refine JH.pure rfl (yl_assign rfl) rfl ?_
              refine JH.talt ?_ ?_
              · refine JH.must rfl (ef_store_box (i := 1) (v := .agg #[.int .i64 0, .int .i64 0]) i93 rfl rfl rfl (i93s).symm (Nat.le_of_ble_eq_true rfl) (by simp [Value.cells, Value.oneCell'])) rfl rfl ?_
                rintro _ _ rfl
                refine JH.tpure ?_
                refine JH.pure rfl (yl_assign rfl) rfl ?_
                refine JH.tdone ?_
                exact JH.weak [2, 0, 1] (K a14 a315 g614) ⟨rfl, rfl, rfl, rfl, trivial⟩ (by decide) rfl
              · exact JH.tnil
            · exact JH.tnil
          · exact JH.tnil
      · refine JH.talt ?_ ?_
        · refine JH.must rfl (ef_alloc i93 i93z rfl) rfl rfl ?_
          rintro _ _ ⟨g614, rfl, rfl⟩
          refine JH.talt ?_ ?_
          · refine JH.must rfl (ef_buildSlice (E := 2) (k := eI64.k) (us := eI64.fl ([] : List Int)) rfl (fun w => bsl33_0  w) rfl (by decide)) rfl rfl ?_
            rintro _ _ ⟨a14, rfl, rfl⟩
            refine JH.tpure ?_
            refine JH.pure rfl (yl_assign rfl) rfl ?_
            refine JH.talt ?_ ?_
            · refine JH.must rfl (ef_makeS (e := eBool) Go.Proofs.Try.underlying153 i4 i4s i4z rfl i4b1 rfl rfl hx314) rfl rfl ?_
              rintro _ _ ⟨a315, rfl, rfl⟩
              refine JH.talt ?_ ?_
              · refine JH.must rfl (ef_store_box (i := 0) (v := .agg #[.int .i64 0, .int .i64 0]) i93 rfl rfl rfl (i93s).symm (Nat.le_of_ble_eq_true rfl) (by simp [Value.cells, Value.oneCell'])) rfl rfl ?_
                rintro _ _ rfl
                refine JH.tpure ?_
                refine JH.pure rfl (yl_assign rfl) rfl ?_
                refine JH.tdone ?_
                exact JH.weak [1, 2, 0] (K a14 a315 g614) ⟨rfl, rfl, rfl, rfl, trivial⟩ (by decide) rfl
              · exact JH.tnil
            · refine JH.talt ?_ ?_
              · refine JH.must rfl (ef_store_box (i := 0) (v := .agg #[.int .i64 0, .int .i64 0]) i93 rfl rfl rfl (i93s).symm (Nat.le_of_ble_eq_true rfl) (by simp [Value.cells, Value.oneCell'])) rfl rfl ?_
                rintro _ _ rfl
                refine JH.talt ?_ ?_
                · refine JH.must rfl (ef_makeS (e := eBool) Go.Proofs.Try.underlying153 i4 i4s i4z rfl i4b1 rfl rfl hx314) rfl rfl ?_
                  rintro _ _ ⟨a315, rfl, rfl⟩
                  refine JH.tpure ?_
                  refine JH.pure rfl (yl_assign rfl) rfl ?_
                  refine JH.tdone ?_
                  exact JH.weak [1, 2, 0] (K a14 a315 g614) ⟨rfl, rfl, rfl, rfl, trivial⟩ (by decide) rfl
                · exact JH.tnil
              · exact JH.tnil
          · refine JH.talt ?_ ?_
            · refine JH.must rfl (ef_makeS (e := eBool) Go.Proofs.Try.underlying153 i4 i4s i4z rfl i4b1 rfl rfl hx314) rfl rfl ?_
              rintro _ _ ⟨a315, rfl, rfl⟩
              refine JH.talt ?_ ?_
              · refine JH.must rfl (ef_buildSlice (E := 2) (k := eI64.k) (us := eI64.fl ([] : List Int)) rfl (fun w => bsl33_0  w) rfl (by decide)) rfl rfl ?_
                rintro _ _ ⟨a14, rfl, rfl⟩
                refine JH.tpure ?_
                refine JH.pure rfl (yl_assign rfl) rfl ?_
                refine JH.talt ?_ ?_
                · refine JH.must rfl (ef_store_box (i := 0) (v := .agg #[.int .i64 0, .int .i64 0]) i93 rfl rfl rfl (i93s).symm (Nat.le_of_ble_eq_true rfl) (by simp [Value.cells, Value.oneCell'])) rfl rfl ?_
                  rintro _ _ rfl
                  refine JH.tpure ?_
                  refine JH.pure rfl (yl_assign rfl) rfl ?_
                  refine JH.tdone ?_
                  exact JH.weak [2, 1, 0] (K a14 a315 g614) ⟨rfl, rfl, rfl, rfl, trivial⟩ (by decide) rfl
                · exact JH.tnil
              · exact JH.tnil
            · exact JH.tnil
        · exact JH.tnil

/- impl.validUnit -/
def sh103 (q0 : Int) : Option (Bool) := Option.bind (sh136 q0 1 1000) fun x1 => some x1
def T103 (r : Bool) (v : Value) (rs : List Own) : Prop := v = rets [.bool r] ∧ rs = []
set_option maxRecDepth 100000 in
theorem c103 {w : World} {q0 : Int} {r : Bool} (hres : sh103 q0 = some r) : Calls Go.Proofs.Try.prog 103 [.int .i64 q0].toArray w (Ret w (T103 r)) := by
  unfold sh103 at hres
  refine calls_of (n := 5) (M := []) (es := []) Go.Proofs.Try.func103 rfl rfl rfl (Sep.nil _ _ _) ?_
  refine JX.seq ?_
  refine JX.region ?_
  refine JL.val (yl_assign rfl) rfl ?_
  refine JL.nil ?_
  refine JE.code ?_
  refine JX.seq ?_
  refine JX.region ?_
  refine JL.val (yl_move rfl) rfl ?_
  obtain ⟨x1, hx1, hres⟩ := bind_some hres
  refine JL.eff (ef_call (T := T136 x1) Go.Proofs.Try.func136 rfl (by kernel_rfl) rfl (fun w hC => c136  hx1)) rfl ?_
  rintro _ _ ⟨_, ⟨rfl, rfl⟩, rfl⟩
  refine JL.val (yl_assign rfl) rfl ?_
  refine JL.nil ?_
  refine JE.code ?_
  refine JX.ret ?_
  obtain rfl := Option.some.inj hres
  refine JE.ret (rs := [.tmp 2]) (vs := [.bool x1]) rfl ⟨rfl, trivial⟩ ?_
  exact fun w' hb hs => ⟨_, _, ⟨rfl, rfl⟩, rfl, hb, hs.sel [] _ (by decide) rfl⟩

/- impl.validCut -/
def sh113 (q0 : Int) (q1 : Int) (q2 : Int) : Option (Bool) := Option.bind (sh103 q0) fun x1 => Option.bind (bif x1 then (Option.bind (sh136 q1 1 500) fun x3 => some x3) else (some false)) fun cb2 => (Option.bind (bif cb2 then (Option.bind (sh136 q2 1 500) fun x5 => some x5) else (some false)) fun cb4 => (some cb4))
def T113 (r : Bool) (v : Value) (rs : List Own) : Prop := v = rets [.bool r] ∧ rs = []
set_option maxRecDepth 100000 in
theorem c113 {w : World} {q0 : Int} {q1 : Int} {q2 : Int} {r : Bool} (hres : sh113 q0 q1 q2 = some r) : Calls Go.Proofs.Try.prog 113 [.int .i64 q0, .int .i64 q1, .int .i64 q2].toArray w (Ret w (T113 r)) := by
  unfold sh113 at hres
  refine calls_of (n := 17) (M := []) (es := []) Go.Proofs.Try.func113 rfl rfl rfl (Sep.nil _ _ _) ?_
  refine JX.seq ?_
  refine JX.region ?_
  refine JL.val (yl_assign rfl) rfl ?_
  refine JL.nil ?_
  refine JE.code ?_
  refine JX.seq ?_
  refine JX.region ?_
  refine JL.val (yl_move rfl) rfl ?_
  obtain ⟨x1, hx1, hres⟩ := bind_some hres
  refine JL.eff (ef_call (T := T103 x1) Go.Proofs.Try.func103 rfl (by kernel_rfl) rfl (fun w hC => c103  hx1)) rfl ?_
  rintro _ _ ⟨_, ⟨rfl, rfl⟩, rfl⟩
  refine JL.val (yl_move rfl) rfl ?_
  obtain ⟨cb2, hcb2, hres⟩ := bind_some hres
  refine JL.cut (K := fun J => J [(2, .int .i64 q2), (12, .bool cb2)] []) 3 ?_ ?_
  · refine JL.val (yl_move rfl) rfl ?_
    obtain ⟨cb4, hcb4, hres⟩ := bind_some hres
    refine JL.cut (K := fun J => J [(16, .bool cb4)] []) 3 ?_ ?_
    · refine JL.val (yl_assign rfl) rfl ?_
      refine JL.nil ?_
      refine JE.weak (env' := [(6, .bool cb4)]) (es' := []) [] ?_ ⟨rfl, trivial⟩ (by decide) rfl
      refine JE.code ?_
      refine JX.ret ?_
      obtain rfl := Option.some.inj hres
      refine JE.ret (rs := [.tmp 6]) (vs := [.bool cb4]) rfl ⟨rfl, trivial⟩ ?_
      exact fun w' hb hs => ⟨_, _, ⟨rfl, rfl⟩, rfl, hb, hs.sel [] _ (by decide) rfl⟩
    · intro K
      rcases cond_some hcb4 with ⟨hb, hres⟩ | ⟨hb, hres⟩
      · refine JL.set (d := 13) (v := .bool true) (congrArg (fun b => some (Value.bool b)) hb) ?_
        refine JL.gval rfl rfl (yl_move rfl) rfl ?_
        obtain ⟨x5, hx5, hres⟩ := bind_some hres
        refine JL.geff rfl rfl (ef_call (T := T136 x5) Go.Proofs.Try.func136 rfl (by kernel_rfl) rfl (fun w hC => c136  hx5)) rfl ?_
        rintro _ _ ⟨_, ⟨rfl, rfl⟩, rfl⟩
        refine JL.val (yl_pick_true rfl rfl) rfl ?_
        have he := Option.some.inj hres
        exact JL.weak [] K ⟨(by rw [← he]; rfl), trivial⟩ (by decide) rfl
      · refine JL.set (d := 13) (v := .bool false) (congrArg (fun b => some (Value.bool b)) hb) ?_
        refine JL.gskip rfl rfl rfl rfl ?_
        refine JL.gskip rfl rfl rfl rfl ?_
        refine JL.val (yl_pick_false rfl rfl) rfl ?_
        have he := Option.some.inj hres
        exact JL.weak [] K ⟨(by rw [← he]; rfl), trivial⟩ (by decide) rfl
  · intro K
    rcases cond_some hcb2 with ⟨hb, hres⟩ | ⟨hb, hres⟩
    · refine JL.set (d := 9) (v := .bool true) (congrArg (fun b => some (Value.bool b)) hb) ?_
      refine JL.gval rfl rfl (yl_move rfl) rfl ?_
      obtain ⟨x3, hx3, hres⟩ := bind_some hres
      refine JL.geff rfl rfl (ef_call (T := T136 x3) Go.Proofs.Try.func136 rfl (by kernel_rfl) rfl (fun w hC => c136  hx3)) rfl ?_
      rintro _ _ ⟨_, ⟨rfl, rfl⟩, rfl⟩
      refine JL.val (yl_pick_true rfl rfl) rfl ?_
      have he := Option.some.inj hres
      exact JL.weak [] K ⟨rfl, (by rw [← he]; rfl), trivial⟩ (by decide) rfl
    · refine JL.set (d := 9) (v := .bool false) (congrArg (fun b => some (Value.bool b)) hb) ?_
      refine JL.gskip rfl rfl rfl rfl ?_
      refine JL.gskip rfl rfl rfl rfl ?_
      refine JL.val (yl_pick_false rfl rfl) rfl ?_
      have he := Option.some.inj hres
      exact JL.weak [] K ⟨rfl, (by rw [← he]; rfl), trivial⟩ (by decide) rfl

/- impl.path -/
def sh105_1 (q0 : List SWalker) (q1 : Int) : (Int × List SPoint) → Option ((Int × List SPoint) ⊕ (List SPoint))
  | (x5, x6) => bif decide (x5 < (q0.length : Int)) then (Option.bind (getI q0 x5) fun x9 => Option.bind (appL x6 [SPoint.mk (w64 (x9.At.X * q1)) (w64 (x9.At.Y * q1))]) fun x14 => some (.inl (w64 (x5 + 1), x14))) else (some (.inr x6))
def sh105 (q0 : List SWalker) (q1 : Int) : Option (List SPoint) := Option.bind (iter (sh105_1 q0 q1) (0, ([] : List SPoint))) fun b1 => (some b1)
def T105 (r : List SPoint) (v : Value) (rs : List Own) : Prop := ∃ (a0 : Option Addr) (n0 c0 : Nat), r.length = n0 ∧ v = rets [.slice a0 n0 c0] ∧ rs = [rowT 93 eSPoint a0 n0 c0 r]
set_option maxRecDepth 100000 in
theorem c105 {w : World} {q0 : List SWalker} {a_0 : Option Addr} {n_0 c_0 : Nat} (g_0 : Rd w a_0 (eSWalker.fl q0)) (l_0 : q0.length = n_0) (k_0 : n_0 ≤ c_0) {q1 : Int} {r : List SPoint} (hres : sh105 q0 q1 = some r) : Calls Go.Proofs.Try.prog 105 [.slice a_0 n_0 c_0, .int .i64 q1].toArray w (Ret w (T105 r)) := by
  subst l_0
  unfold sh105 at hres
  refine calls_of (n := 31) (M := []) (es := []) Go.Proofs.Try.func105 rfl rfl rfl (Sep.nil _ _ _) ?_
  refine JX.seq ?_
  refine JX.region ?_
  refine JL.val (yl_assign rfl) rfl ?_
  refine JL.nil ?_
  refine JE.code ?_
  refine JX.seq ?_
  refine JX.region ?_
  refine JL.eff (ef_buildSlice (E := 93) (k := eSPoint.k) (us := eSPoint.fl ([] : List SPoint)) rfl (fun w => bsl22_0  w) rfl (by decide)) rfl ?_
  rintro _ _ ⟨a1, rfl, rfl⟩
  refine JL.val (yl_assign rfl) rfl ?_
  refine JL.nil ?_
  refine JE.code ?_
  refine JX.seq ?_
  refine JX.seq ?_
  refine JX.region ?_
  refine JL.val (yl_move rfl) rfl ?_
  refine JL.val (yl_len_slice Go.Proofs.Try.underlying117 rfl) rfl ?_
  refine JL.val (yl_move rfl) rfl ?_
  refine JL.nil ?_
  refine JE.code ?_
  refine JX.block ?_
  obtain ⟨y1, hy1, hresO1⟩ := bind_some hres
  refine JX.loop (I := fun (s1 : Int × List SPoint) aa ww => ∃ (a3 : Option Addr) (cp4 : Nat), St w [] 31 [(1, .int .i64 q1), (5, .slice a3 s1.2.length cp4), (9, .slice a_0 q0.length c_0), (10, .int .i64 (q0.length : Int)), (11, .int .i64 s1.1)] [rowT 93 eSPoint a3 s1.2.length cp4 s1.2] aa ww) (sh105_1 q0 q1) hy1 (fun a w h => ⟨a1, 0, h.weak ⟨rfl, rfl, rfl, rfl, rfl, trivial⟩ [0] (by decide) rfl⟩) ?_
  rintro ⟨x5, x6⟩ o1 hres hox1 aa ww ⟨a7, cp8, hS⟩
  refine (?_ : JX Go.Proofs.Try.prog w [] 31 _ _ [(1, .int .i64 q1), (5, .slice a7 x6.length cp8), (9, .slice a_0 q0.length c_0), (10, .int .i64 (q0.length : Int)), (11, .int .i64 x5)] [rowT 93 eSPoint a7 x6.length cp8 x6] _) aa ww hS
  clear hS
  simp only [sh105_1] at hres
  refine JX.seq ?_
  refine JX.region ?_
  refine JL.val (yl_lss rfl rfl) rfl ?_
  refine JL.nil ?_
  refine JE.code ?_
  refine JX.seq ?_
  rcases cond_some hres with ⟨hb, hres⟩ | ⟨hb, hres⟩
  · refine JX.condT rfl hb ?_
    refine JX.skip ?_
    refine JE.code ?_
    refine JX.seq ?_
    refine JX.block ?_
    refine JX.seq ?_
    refine JX.region ?_
    obtain ⟨x9, hx9, hres⟩ := bind_some hres
    refine JL.val (yl_idxT Go.Proofs.Try.underlying117 i120 i120s rfl rfl hx9 rfl (fun w hC => rd_arg g_0 hC)) rfl ?_
    refine JL.val (yl_loadTn Go.Proofs.Try.underlying120 rfl i120 i120s rfl hx9 (fun w hC => rd_arg g_0 hC)) rfl ?_
    refine JL.eff (ef_alloc i120 i120z rfl) rfl ?_
    rintro _ _ ⟨g10, rfl, rfl⟩
    refine JL.eff (ef_store_box (i := 1) (v := .agg #[.int .i64 x9.At.X, .int .i64 x9.At.Y, .int .i64 x9.DX, .int .i64 x9.DY]) i120 rfl rfl rfl (i120s).symm (Nat.le_of_ble_eq_true rfl) (by simp [Value.cells, Value.oneCell'])) rfl ?_
    rintro _ _ rfl
    refine JL.nil ?_
    refine JE.weak (env' := [(1, .int .i64 q1), (5, .slice a7 x6.length cp8), (7, ptrAt (some ⟨g10, 0, none⟩) 0), (9, .slice a_0 q0.length c_0), (10, .int .i64 (q0.length : Int)), (11, .int .i64 x5)]) (es' := [rowT 93 eSPoint a7 x6.length cp8 x6, boxO 120 g10 [.int .i64 x9.At.X, .int .i64 x9.At.Y, .int .i64 x9.DX, .int .i64 x9.DY]]) [0, 1] ?_ ⟨rfl, rfl, rfl, rfl, rfl, rfl, trivial⟩ (by decide) rfl
    refine JE.code ?_
    refine JX.region ?_
    refine JL.val (yl_move rfl) rfl ?_
    refine JL.val (yl_fieldAt (a := some _) Go.Proofs.Try.underlying120 rfl i93 i93n rfl rfl) rfl ?_
    refine JL.val (yl_fieldAt (a := some _) Go.Proofs.Try.underlying93 rfl i2 i2n rfl rfl) rfl ?_
    refine JL.val (yl_load1 Go.Proofs.Try.underlying2 rfl rfl (fun w hC => rd_box hC 1 rfl) rfl) rfl ?_
    refine JL.val (yl_move rfl) rfl ?_
    refine JL.val (yl_mul rfl rfl) rfl ?_
    refine JL.val (yl_fieldAt (a := some _) Go.Proofs.Try.underlying120 rfl i93 i93n rfl rfl) rfl ?_
    refine JL.val (yl_fieldAt (a := some _) Go.Proofs.Try.underlying93 rfl i2 i2n rfl rfl) rfl ?_
    refine JL.val (yl_load1 Go.Proofs.Try.underlying2 rfl rfl (fun w hC => rd_box hC 1 rfl) rfl) rfl ?_
    refine JL.val (yl_move rfl) rfl ?_
    refine JL.val (yl_mul rfl rfl) rfl ?_
    refine JL.val (yl_build rfl (fun w => bld93_0_1 (w64 (x9.At.X * q1)) (w64 (x9.At.Y * q1)) w)) rfl ?_
    refine JL.eff (ef_buildSlice (E := 93) (k := eSPoint.k) (us := eSPoint.fl [SPoint.mk (w64 (x9.At.X * q1)) (w64 (x9.At.Y * q1))]) rfl (fun w => bsl22_1 (w64 (x9.At.X * q1)) (w64 (x9.At.Y * q1)) w) rfl (by decide)) rfl ?_
    rintro _ _ ⟨a12, rfl, rfl⟩
    obtain ⟨x14, hx14, hres⟩ := bind_some hres
    refine JL.eff (ef_appendT (ix := 0) Go.Proofs.Try.underlying22 i93 i93z i93s rfl i93b0 i93b1 rfl rfl rfl rfl rfl (fun w hC => rd_row hC 2 rfl) hx14) rfl ?_
    rintro _ _ ⟨a15, cp16, rfl, rfl⟩
    refine JL.val (yl_assign rfl) rfl ?_
    refine JL.nil ?_
    refine JE.weak (env' := [(1, .int .i64 q1), (5, .slice a15 x14.length cp16), (9, .slice a_0 q0.length c_0), (10, .int .i64 (q0.length : Int)), (11, .int .i64 x5)]) (es' := [rowT 93 eSPoint a15 x14.length cp16 x14]) [0] ?_ ⟨rfl, rfl, rfl, rfl, rfl, trivial⟩ (by decide) rfl
    refine JE.code ?_
    refine JX.region ?_
    refine JL.val (yl_add rfl rfl) rfl ?_
    refine JL.val (yl_move rfl) rfl ?_
    refine JL.nil ?_
    refine JE.cont hres ?_
    exact fun a w h => ⟨a15, cp16, h.weak ⟨rfl, rfl, rfl, rfl, rfl, trivial⟩ [0] (by decide) rfl⟩
  · refine JX.condF rfl hb ?_
    refine JX.exit ?_
    refine JE.qb rfl ?_
    obtain ⟨b1, hb1⟩ : ∃ b : List SPoint, b = x6 := ⟨_, rfl⟩
    have hy1 : b1 = y1 := by rw [hb1]; exact hox1 _ (Option.some.inj hres).symm
    have hres := hresO1
    rw [← hy1] at hres
    refine JE.weak (env' := [(5, .slice a7 b1.length cp8)]) (es' := [rowT 93 eSPoint a7 b1.length cp8 b1]) [0] ?_ ⟨(by subst hb1; rfl), trivial⟩ (by decide) (by subst hb1; rfl)
    refine JE.code ?_
    refine JX.seq ?_
    refine JX.region ?_
    refine JL.val (yl_move rfl) rfl ?_
    refine JL.val (yl_assign rfl) rfl ?_
    refine JL.nil ?_
    refine JE.code ?_
    refine JX.ret ?_
    obtain rfl := Option.some.inj hres
    refine JE.ret (rs := [.tmp 4]) (vs := [.slice a7 b1.length cp8]) rfl ⟨rfl, trivial⟩ ?_
    exact fun w' hb hs => ⟨_, _, ⟨a7, b1.length, cp8, rfl, rfl, rfl⟩, rfl, hb, hs.sel [0] _ (by decide) rfl⟩

/- impl.carve -/
def sh114_1 (q2 : Int) (x1 : List SPoint) : (Int × List SToolMove) → Option ((Int × List SToolMove) ⊕ (List SToolMove))
  | (x12, x13) => bif decide (x12 < (x1.length : Int)) then (Option.bind (getI x1 x12) fun x16 => Option.bind (appL x13 [SToolMove.mk x16.X x16.Y (w64 (0 - q2))]) fun x21 => some (.inl (w64 (x12 + 1), x21))) else (some (.inr x13))
def sh114 (q0 : List SWalker) (q1 : Int) (q2 : Int) (q3 : Int) : Option (List SToolMove) := Option.bind (sh105 q0 q1) fun x1 => Option.bind (getI x1 0) fun x5 => Option.bind (iter (sh114_1 q2 x1) (0, [SToolMove.mk x5.X x5.Y q3])) fun b1 => (Option.bind (appL b1 [SToolMove.mk x5.X x5.Y (w64 (0 - q2)), SToolMove.mk x5.X x5.Y q3]) fun x28 => some x28)
def T114 (r : List SToolMove) (v : Value) (rs : List Own) : Prop := ∃ (a0 : Option Addr) (n0 c0 : Nat), r.length = n0 ∧ v = rets [.slice a0 n0 c0] ∧ rs = [rowT 97 eSToolMove a0 n0 c0 r]
set_option maxRecDepth 100000 in
theorem c114 {w : World} {q0 : List SWalker} {a_0 : Option Addr} {n_0 c_0 : Nat} (g_0 : Rd w a_0 (eSWalker.fl q0)) (l_0 : q0.length = n_0) (k_0 : n_0 ≤ c_0) {q1 : Int} {q2 : Int} {q3 : Int} {r : List SToolMove} (hres : sh114 q0 q1 q2 q3 = some r) : Calls Go.Proofs.Try.prog 114 [.slice a_0 n_0 c_0, .int .i64 q1, .int .i64 q2, .int .i64 q3].toArray w (Ret w (T114 r)) := by
  subst l_0
  unfold sh114 at hres
  refine calls_of (n := 60) (M := []) (es := []) Go.Proofs.Try.func114 rfl rfl rfl (Sep.nil _ _ _) ?_
  refine JX.seq ?_
  refine JX.region ?_
  refine JL.val (yl_assign rfl) rfl ?_
  refine JL.nil ?_
  refine JE.code ?_
  refine JX.seq ?_
  refine JX.region ?_
  refine JL.val (yl_move rfl) rfl ?_
  refine JL.val (yl_move rfl) rfl ?_
  obtain ⟨x1, hx1, hres⟩ := bind_some hres
  refine JL.eff (ef_call (T := T105 x1) Go.Proofs.Try.func105 rfl (by kernel_rfl) rfl (fun w hC => c105 (rd_arg g_0 hC) rfl k_0 hx1)) rfl ?_
  rintro _ _ ⟨_, ⟨a2, _, cp3, rfl, rfl, rfl⟩, rfl⟩
  refine JL.val (yl_assign rfl) rfl ?_
  refine JL.nil ?_
  refine JE.weak (env' := [(2, .int .i64 q2), (3, .int .i64 q3), (9, .slice a2 x1.length cp3)]) (es' := [rowT 93 eSPoint a2 x1.length cp3 x1]) [0] ?_ ⟨rfl, rfl, rfl, trivial⟩ (by decide) rfl
  refine JE.code ?_
  refine JX.seq ?_
  refine JX.region ?_
  refine JL.val (yl_move rfl) rfl ?_
  obtain ⟨x5, hx5, hres⟩ := bind_some hres
  refine JL.val (yl_idxT Go.Proofs.Try.underlying22 i93 i93s rfl rfl hx5 rfl (fun w hC => rd_row hC 0 rfl)) rfl ?_
  refine JL.val (yl_loadTn Go.Proofs.Try.underlying93 rfl i93 i93s rfl hx5 (fun w hC => rd_row hC 0 rfl)) rfl ?_
  refine JL.eff (ef_alloc i93 i93z rfl) rfl ?_
  rintro _ _ ⟨g6, rfl, rfl⟩
  refine JL.eff (ef_store_box (i := 1) (v := .agg #[.int .i64 x5.X, .int .i64 x5.Y]) i93 rfl rfl rfl (i93s).symm (Nat.le_of_ble_eq_true rfl) (by simp [Value.cells, Value.oneCell'])) rfl ?_
  rintro _ _ rfl
  refine JL.nil ?_
  refine JE.weak (env' := [(2, .int .i64 q2), (3, .int .i64 q3), (9, .slice a2 x1.length cp3), (10, ptrAt (some ⟨g6, 0, none⟩) 0)]) (es' := [rowT 93 eSPoint a2 x1.length cp3 x1, boxO 93 g6 [.int .i64 x5.X, .int .i64 x5.Y]]) [0, 1] ?_ ⟨rfl, rfl, rfl, rfl, trivial⟩ (by decide) rfl
  refine JE.code ?_
  refine JX.seq ?_
  refine JX.region ?_
  refine JL.val (yl_fieldAt (a := some _) Go.Proofs.Try.underlying93 rfl i2 i2n rfl rfl) rfl ?_
  refine JL.val (yl_load1 Go.Proofs.Try.underlying2 rfl rfl (fun w hC => rd_box hC 1 rfl) rfl) rfl ?_
  refine JL.val (yl_fieldAt (a := some _) Go.Proofs.Try.underlying93 rfl i2 i2n rfl rfl) rfl ?_
  refine JL.val (yl_load1 Go.Proofs.Try.underlying2 rfl rfl (fun w hC => rd_box hC 1 rfl) rfl) rfl ?_
  refine JL.val (yl_move rfl) rfl ?_
  refine JL.val (yl_build rfl (fun w => bld97_0_1_2 x5.X x5.Y q3 w)) rfl ?_
  refine JL.eff (ef_buildSlice (E := 97) (k := eSToolMove.k) (us := eSToolMove.fl [SToolMove.mk x5.X x5.Y q3]) rfl (fun w => bsl28_1 x5.X x5.Y q3 w) rfl (by decide)) rfl ?_
  rintro _ _ ⟨a8, rfl, rfl⟩
  refine JL.val (yl_assign rfl) rfl ?_
  refine JL.nil ?_
  refine JE.weak (env' := [(2, .int .i64 q2), (3, .int .i64 q3), (9, .slice a2 x1.length cp3), (10, ptrAt (some ⟨g6, 0, none⟩) 0), (11, .slice a8 1 1)]) (es' := [rowT 93 eSPoint a2 x1.length cp3 x1, boxO 93 g6 [.int .i64 x5.X, .int .i64 x5.Y], rowT 97 eSToolMove a8 1 1 [SToolMove.mk x5.X x5.Y q3]]) [0, 1, 2] ?_ ⟨rfl, rfl, rfl, rfl, rfl, trivial⟩ (by decide) rfl
  refine JE.code ?_
  refine JX.seq ?_
  refine JX.seq ?_
  refine JX.region ?_
  refine JL.val (yl_move rfl) rfl ?_
  refine JL.val (yl_len_slice Go.Proofs.Try.underlying22 rfl) rfl ?_
  refine JL.val (yl_move rfl) rfl ?_
  refine JL.nil ?_
  refine JE.code ?_
  refine JX.block ?_
  obtain ⟨y1, hy1, hresO1⟩ := bind_some hres
  refine JX.loop (I := fun (s1 : Int × List SToolMove) aa ww => ∃ (a10 : Option Addr) (cp11 : Nat), St w [] 60 [(2, .int .i64 q2), (3, .int .i64 q3), (10, ptrAt (some ⟨g6, 0, none⟩) 0), (11, .slice a10 s1.2.length cp11), (27, .slice a2 x1.length cp3), (28, .int .i64 (x1.length : Int)), (29, .int .i64 s1.1)] [boxO 93 g6 [.int .i64 x5.X, .int .i64 x5.Y], rowT 97 eSToolMove a10 s1.2.length cp11 s1.2, rowT 93 eSPoint a2 x1.length cp3 x1] aa ww) (sh114_1 q2 x1) hy1 (fun a w h => ⟨a8, 1, h.weak ⟨rfl, rfl, rfl, rfl, rfl, rfl, rfl, trivial⟩ [1, 2, 0] (by decide) rfl⟩) ?_
  rintro ⟨x12, x13⟩ o1 hres hox1 aa ww ⟨a14, cp15, hS⟩
  refine (?_ : JX Go.Proofs.Try.prog w [] 60 _ _ [(2, .int .i64 q2), (3, .int .i64 q3), (10, ptrAt (some ⟨g6, 0, none⟩) 0), (11, .slice a14 x13.length cp15), (27, .slice a2 x1.length cp3), (28, .int .i64 (x1.length : Int)), (29, .int .i64 x12)] [boxO 93 g6 [.int .i64 x5.X, .int .i64 x5.Y], rowT 97 eSToolMove a14 x13.length cp15 x13, rowT 93 eSPoint a2 x1.length cp3 x1] _) aa ww hS
  clear hS
  simp only [sh114_1] at hres
  refine JX.seq ?_
  refine JX.region ?_
  refine JL.val (yl_lss rfl rfl) rfl ?_
  refine JL.nil ?_
  refine JE.code ?_
  refine JX.seq ?_
  rcases cond_some hres with ⟨hb, hres⟩ | ⟨hb, hres⟩
  · refine JX.condT rfl hb ?_
    refine JX.skip ?_
    refine JE.code ?_
    refine JX.seq ?_
    refine JX.block ?_
    refine JX.seq ?_
    refine JX.region ?_
    obtain ⟨x16, hx16, hres⟩ := bind_some hres
    refine JL.val (yl_idxT Go.Proofs.Try.underlying22 i93 i93s rfl rfl hx16 rfl (fun w hC => rd_row hC 2 rfl)) rfl ?_
    refine JL.val (yl_loadTn Go.Proofs.Try.underlying93 rfl i93 i93s rfl hx16 (fun w hC => rd_row hC 2 rfl)) rfl ?_
    refine JL.eff (ef_alloc i93 i93z rfl) rfl ?_
    rintro _ _ ⟨g17, rfl, rfl⟩
    refine JL.eff (ef_store_box (i := 3) (v := .agg #[.int .i64 x16.X, .int .i64 x16.Y]) i93 rfl rfl rfl (i93s).symm (Nat.le_of_ble_eq_true rfl) (by simp [Value.cells, Value.oneCell'])) rfl ?_
    rintro _ _ rfl
    refine JL.nil ?_
    refine JE.weak (env' := [(2, .int .i64 q2), (3, .int .i64 q3), (10, ptrAt (some ⟨g6, 0, none⟩) 0), (11, .slice a14 x13.length cp15), (13, ptrAt (some ⟨g17, 0, none⟩) 0), (27, .slice a2 x1.length cp3), (28, .int .i64 (x1.length : Int)), (29, .int .i64 x12)]) (es' := [boxO 93 g6 [.int .i64 x5.X, .int .i64 x5.Y], rowT 97 eSToolMove a14 x13.length cp15 x13, boxO 93 g17 [.int .i64 x16.X, .int .i64 x16.Y], rowT 93 eSPoint a2 x1.length cp3 x1]) [0, 1, 3, 2] ?_ ⟨rfl, rfl, rfl, rfl, rfl, rfl, rfl, rfl, trivial⟩ (by decide) rfl
    refine JE.code ?_
    refine JX.region ?_
    refine JL.val (yl_move rfl) rfl ?_
    refine JL.val (yl_fieldAt (a := some _) Go.Proofs.Try.underlying93 rfl i2 i2n rfl rfl) rfl ?_
    refine JL.val (yl_load1 Go.Proofs.Try.underlying2 rfl rfl (fun w hC => rd_box hC 2 rfl) rfl) rfl ?_
    refine JL.val (yl_fieldAt (a := some _) Go.Proofs.Try.underlying93 rfl i2 i2n rfl rfl) rfl ?_
    refine JL.val (yl_load1 Go.Proofs.Try.underlying2 rfl rfl (fun w hC => rd_box hC 2 rfl) rfl) rfl ?_
    refine JL.val (yl_move rfl) rfl ?_
    refine JL.val (yl_neg rfl) rfl ?_
    refine JL.val (yl_build rfl (fun w => bld97_0_1_2 x16.X x16.Y (w64 (0 - q2)) w)) rfl ?_
    refine JL.eff (ef_buildSlice (E := 97) (k := eSToolMove.k) (us := eSToolMove.fl [SToolMove.mk x16.X x16.Y (w64 (0 - q2))]) rfl (fun w => bsl28_1 x16.X x16.Y (w64 (0 - q2)) w) rfl (by decide)) rfl ?_
    rintro _ _ ⟨a19, rfl, rfl⟩
    obtain ⟨x21, hx21, hres⟩ := bind_some hres
    refine JL.eff (ef_appendT (ix := 1) Go.Proofs.Try.underlying28 i97 i97z i97s rfl i97b0 i97b1 rfl rfl rfl rfl rfl (fun w hC => rd_row hC 4 rfl) hx21) rfl ?_
    rintro _ _ ⟨a22, cp23, rfl, rfl⟩
    refine JL.val (yl_assign rfl) rfl ?_
    refine JL.nil ?_
    refine JE.weak (env' := [(2, .int .i64 q2), (3, .int .i64 q3), (10, ptrAt (some ⟨g6, 0, none⟩) 0), (11, .slice a22 x21.length cp23), (27, .slice a2 x1.length cp3), (28, .int .i64 (x1.length : Int)), (29, .int .i64 x12)]) (es' := [boxO 93 g6 [.int .i64 x5.X, .int .i64 x5.Y], rowT 97 eSToolMove a22 x21.length cp23 x21, rowT 93 eSPoint a2 x1.length cp3 x1]) [0, 1, 3] ?_ ⟨rfl, rfl, rfl, rfl, rfl, rfl, rfl, trivial⟩ (by decide) rfl
    refine JE.code ?_
    refine JX.region ?_
    refine JL.val (yl_add rfl rfl) rfl ?_
    refine JL.val (yl_move rfl) rfl ?_
    refine JL.nil ?_
    refine JE.cont hres ?_
    exact fun a w h => ⟨a22, cp23, h.weak ⟨rfl, rfl, rfl, rfl, rfl, rfl, rfl, trivial⟩ [0, 1, 2] (by decide) rfl⟩
  · refine JX.condF rfl hb ?_
    refine JX.exit ?_
    refine JE.qb rfl ?_
    obtain ⟨b1, hb1⟩ : ∃ b : List SToolMove, b = x13 := ⟨_, rfl⟩
    have hy1 : b1 = y1 := by rw [hb1]; exact hox1 _ (Option.some.inj hres).symm
    have hres := hresO1
    rw [← hy1] at hres
    refine JE.weak (env' := [(2, .int .i64 q2), (3, .int .i64 q3), (10, ptrAt (some ⟨g6, 0, none⟩) 0), (11, .slice a14 b1.length cp15)]) (es' := [boxO 93 g6 [.int .i64 x5.X, .int .i64 x5.Y], rowT 97 eSToolMove a14 b1.length cp15 b1]) [0, 1] ?_ ⟨(by subst hb1; rfl), (by subst hb1; rfl), (by subst hb1; rfl), (by subst hb1; rfl), trivial⟩ (by decide) (by subst hb1; rfl)
    refine JE.code ?_
    refine JX.seq ?_
    refine JX.region ?_
    refine JL.val (yl_move rfl) rfl ?_
    refine JL.val (yl_fieldAt (a := some _) Go.Proofs.Try.underlying93 rfl i2 i2n rfl rfl) rfl ?_
    refine JL.val (yl_load1 Go.Proofs.Try.underlying2 rfl rfl (fun w hC => rd_box hC 0 rfl) rfl) rfl ?_
    refine JL.val (yl_fieldAt (a := some _) Go.Proofs.Try.underlying93 rfl i2 i2n rfl rfl) rfl ?_
    refine JL.val (yl_load1 Go.Proofs.Try.underlying2 rfl rfl (fun w hC => rd_box hC 0 rfl) rfl) rfl ?_
    refine JL.val (yl_move rfl) rfl ?_
    refine JL.val (yl_neg rfl) rfl ?_
    refine JL.val (yl_build rfl (fun w => bld97_0_1_2 x5.X x5.Y (w64 (0 - q2)) w)) rfl ?_
    refine JL.val (yl_fieldAt (a := some _) Go.Proofs.Try.underlying93 rfl i2 i2n rfl rfl) rfl ?_
    refine JL.val (yl_load1 Go.Proofs.Try.underlying2 rfl rfl (fun w hC => rd_box hC 0 rfl) rfl) rfl ?_
    refine JL.val (yl_fieldAt (a := some _) Go.Proofs.Try.underlying93 rfl i2 i2n rfl rfl) rfl ?_
    refine JL.val (yl_load1 Go.Proofs.Try.underlying2 rfl rfl (fun w hC => rd_box hC 0 rfl) rfl) rfl ?_
    refine JL.val (yl_move rfl) rfl ?_
    refine JL.val (yl_build rfl (fun w => bld97_0_1_2 x5.X x5.Y q3 w)) rfl ?_
    refine JL.eff (ef_buildSlice (E := 97) (k := eSToolMove.k) (us := eSToolMove.fl [SToolMove.mk x5.X x5.Y (w64 (0 - q2)), SToolMove.mk x5.X x5.Y q3]) rfl (fun w => bsl28_2 x5.X x5.Y (w64 (0 - q2)) x5.X x5.Y q3 w) rfl (by decide)) rfl ?_
    rintro _ _ ⟨a26, rfl, rfl⟩
    obtain ⟨x28, hx28, hres⟩ := bind_some hres
    refine JL.eff (ef_appendT (ix := 1) Go.Proofs.Try.underlying28 i97 i97z i97s rfl i97b0 i97b1 rfl rfl rfl rfl rfl (fun w hC => rd_row hC 2 rfl) hx28) rfl ?_
    rintro _ _ ⟨a29, cp30, rfl, rfl⟩
    refine JL.val (yl_assign rfl) rfl ?_
    refine JL.nil ?_
    refine JE.weak (env' := [(8, .slice a29 x28.length cp30)]) (es' := [rowT 97 eSToolMove a29 x28.length cp30 x28]) [1] ?_ ⟨rfl, trivial⟩ (by decide) rfl
    refine JE.code ?_
    refine JX.ret ?_
    obtain rfl := Option.some.inj hres
    refine JE.ret (rs := [.tmp 8]) (vs := [.slice a29 x28.length cp30]) rfl ⟨rfl, trivial⟩ ?_
    exact fun w' hb hs => ⟨_, _, ⟨a29, x28.length, cp30, rfl, rfl, rfl⟩, rfl, hb, hs.sel [0] _ (by decide) rfl⟩

/- impl.CarvePanel -/
def sh57_1 (q1 : Int) (q2 : Int) (q3 : Int) (x9 : List (List SWalker) × List Int) (x19 : List Int) : (Int × List SToolMove) → Option ((Int × List SToolMove) ⊕ (List SToolMove))
  | (x25, x26) => bif decide (x25 < (x19.length : Int)) then (Option.bind (getI x19 x25) fun x29 => Option.bind (getI x9.1 x29) fun x30 => Option.bind (sh114 x30 q1 q2 q3) fun x34 => Option.bind (appL x26 x34) fun x38 => some (.inl (w64 (x25 + 1), x38))) else (some (.inr x26))
def sh57 (q0 : SPanel) (q1 : Int) (q2 : Int) (q3 : Int) : Option (List SToolMove × Int) := Option.bind (sh99 q0) fun x3 => bif !x3 then (some (([] : List SToolMove), 1)) else (Option.bind (sh113 q1 q2 q3) fun x5 => bif !x5 then (some (([] : List SToolMove), 2)) else (Option.bind (sh104 q0) fun x9 => Option.bind (sh100 q0) fun x19 => Option.bind (iter (sh57_1 q1 q2 q3 x9 x19) (0, ([] : List SToolMove))) fun b1 => (some (b1, 0))))
def T57 (r : List SToolMove × Int) (v : Value) (rs : List Own) : Prop := ∃ (a0 : Option Addr) (n0 c0 : Nat), r.1.length = n0 ∧ v = rets [.slice a0 n0 c0, .int .i64 r.2] ∧ rs = [rowT 97 eSToolMove a0 n0 c0 r.1]
set_option maxRecDepth 100000 in
theorem c57 {w : World} {q0 : SPanel} {a_0_2 : Option Addr} {n_0_2 c_0_2 : Nat} (g_0_2 : Rd w a_0_2 (eI64.fl q0.Breaks)) (l_0_2 : q0.Breaks.length = n_0_2) (k_0_2 : n_0_2 ≤ c_0_2) {q1 : Int} {q2 : Int} {q3 : Int} {r : List SToolMove × Int} (hres : sh57 q0 q1 q2 q3 = some r) : Calls Go.Proofs.Try.prog 57 [.agg #[.int .i64 q0.W, .int .i64 q0.H, .slice a_0_2 n_0_2 c_0_2], .int .i64 q1, .int .i64 q2, .int .i64 q3].toArray w (Ret w (T57 r)) := by
  subst l_0_2
  unfold sh57 at hres
  refine calls_of (n := 48) (M := []) (es := []) Go.Proofs.Try.func57 rfl rfl rfl (Sep.nil _ _ _) ?_
  refine JX.seq ?_
  refine JX.region ?_
  refine JL.eff (ef_box rfl rfl) rfl ?_
  rintro _ _ ⟨g1, rfl, rfl⟩
  refine JL.val (yl_assign rfl) rfl ?_
  refine JL.val (yl_assign rfl) rfl ?_
  refine JL.nil ?_
  refine JE.code ?_
  refine JX.seq ?_
  refine JX.seq ?_
  refine JX.region ?_
  refine JL.val (yl_loadn Go.Proofs.Try.underlying39 rfl i39 rfl (fun w hC => rd_box hC 0 rfl) rfl (i39s).symm i39p) rfl ?_
  obtain ⟨x3, hx3, hres⟩ := bind_some hres
  refine JL.eff (ef_call (vs := [.agg #[.int .i64 q0.W, .int .i64 q0.H, .slice a_0_2 q0.Breaks.length c_0_2]]) (T := T99 x3) Go.Proofs.Try.func99 rfl (by kernel_rfl) rfl (fun w hC => c99 (q0 := q0) (rd_arg g_0_2 hC) rfl k_0_2 hx3)) rfl ?_
  rintro _ _ ⟨_, ⟨rfl, rfl⟩, rfl⟩
  refine JL.val (yl_not rfl) rfl ?_
  refine JL.nil ?_
  refine JE.code ?_
  rcases cond_some hres with ⟨hb, hres⟩ | ⟨hb, hres⟩
  · refine JX.condT rfl hb ?_
    refine JX.seq ?_
    refine JX.region ?_
    refine JL.val (yl_assign rfl) rfl ?_
    refine JL.val (yl_assign rfl) rfl ?_
    refine JL.nil ?_
    refine JE.weak (env' := [(8, .slice none 0 0), (9, .int .i64 1)]) (es' := []) [] ?_ ⟨rfl, rfl, trivial⟩ (by decide) rfl
    refine JE.code ?_
    refine JX.ret ?_
    refine JE.nilrow 97 eSToolMove ?_
    obtain rfl := Option.some.inj hres
    refine JE.ret (rs := [.tmp 8, .tmp 9]) (vs := [.slice none 0 0, .int .i64 1]) rfl ⟨rfl, rfl, trivial⟩ ?_
    exact fun w' hb hs => ⟨_, _, ⟨none, 0, 0, rfl, rfl, rfl⟩, rfl, hb, hs.sel [0] _ (by decide) rfl⟩
  · refine JX.condF rfl hb ?_
    refine JX.skip ?_
    refine JE.code ?_
    refine JX.seq ?_
    refine JX.seq ?_
    refine JX.region ?_
    refine JL.val (yl_move rfl) rfl ?_
    refine JL.val (yl_move rfl) rfl ?_
    refine JL.val (yl_move rfl) rfl ?_
    obtain ⟨x5, hx5, hres⟩ := bind_some hres
    refine JL.eff (ef_call (T := T113 x5) Go.Proofs.Try.func113 rfl (by kernel_rfl) rfl (fun w hC => c113  hx5)) rfl ?_
    rintro _ _ ⟨_, ⟨rfl, rfl⟩, rfl⟩
    refine JL.val (yl_not rfl) rfl ?_
    refine JL.nil ?_
    refine JE.weak (env' := [(1, .int .i64 q1), (2, .int .i64 q2), (3, .int .i64 q3), (4, ptrAt (some ⟨g1, 0, none⟩) 0), (22, .bool !x5)]) (es' := [boxO 39 g1 [.int .i64 q0.W, .int .i64 q0.H, .slice a_0_2 q0.Breaks.length c_0_2]]) [0] ?_ ⟨rfl, rfl, rfl, rfl, rfl, trivial⟩ (by decide) rfl
    refine JE.code ?_
    rcases cond_some hres with ⟨hb, hres⟩ | ⟨hb, hres⟩
    · refine JX.condT rfl hb ?_
      refine JX.seq ?_
      refine JX.region ?_
      refine JL.val (yl_assign rfl) rfl ?_
      refine JL.val (yl_assign rfl) rfl ?_
      refine JL.nil ?_
      refine JE.weak (env' := [(8, .slice none 0 0), (9, .int .i64 2)]) (es' := []) [] ?_ ⟨rfl, rfl, trivial⟩ (by decide) rfl
      refine JE.code ?_
      refine JX.ret ?_
      refine JE.nilrow 97 eSToolMove ?_
      obtain rfl := Option.some.inj hres
      refine JE.ret (rs := [.tmp 8, .tmp 9]) (vs := [.slice none 0 0, .int .i64 2]) rfl ⟨rfl, rfl, trivial⟩ ?_
      exact fun w' hb hs => ⟨_, _, ⟨none, 0, 0, rfl, rfl, rfl⟩, rfl, hb, hs.sel [0] _ (by decide) rfl⟩
    · refine JX.condF rfl hb ?_
      refine JX.skip ?_
      refine JE.code ?_
      refine JX.seq ?_
      refine JX.region ?_
      refine JL.eff (ef_buildSlice (E := 97) (k := eSToolMove.k) (us := eSToolMove.fl ([] : List SToolMove)) rfl (fun w => bsl28_0  w) rfl (by decide)) rfl ?_
      rintro _ _ ⟨a7, rfl, rfl⟩
      refine JL.val (yl_assign rfl) rfl ?_
      refine JL.nil ?_
      refine JE.code ?_
      refine JX.seq ?_
      refine JX.region ?_
      refine JL.val (yl_loadn Go.Proofs.Try.underlying39 rfl i39 rfl (fun w hC => rd_box hC 0 rfl) rfl (i39s).symm i39p) rfl ?_
      obtain ⟨x9, hx9, hres⟩ := bind_some hres
      refine JL.eff (ef_call (vs := [.agg #[.int .i64 q0.W, .int .i64 q0.H, .slice a_0_2 q0.Breaks.length c_0_2]]) (T := T104 x9) Go.Proofs.Try.func104 rfl (by kernel_rfl) rfl (fun w hC => c104 (q0 := q0) (rd_arg g_0_2 hC) rfl k_0_2 hx9)) rfl ?_
      rintro _ _ ⟨_, ⟨a10, _, cp11, hs13, rfl, hi14, a16, _, cp17, rfl, rfl, rfl⟩, rfl⟩
      refine JL.val (yl_move rfl) rfl ?_
      refine JL.val (yl_extract rfl rfl) rfl ?_
      refine JL.val (yl_extract rfl rfl) rfl ?_
      refine JL.val (yl_assign rfl) rfl ?_
      refine JL.val (yl_assign rfl) rfl ?_
      refine JL.nil ?_
      refine JE.weak (env' := [(1, .int .i64 q1), (2, .int .i64 q2), (3, .int .i64 q3), (4, ptrAt (some ⟨g1, 0, none⟩) 0), (10, .slice a7 0 0), (11, .slice a10 x9.1.length cp11)]) (es' := [boxO 39 g1 [.int .i64 q0.W, .int .i64 q0.H, .slice a_0_2 q0.Breaks.length c_0_2], rowT 97 eSToolMove a7 0 0 ([] : List SToolMove), rowT 117 eHd a10 x9.1.length cp11 hs13, innO 120 eSWalker none hs13 x9.1]) [0, 1, 2, 3] ?_ ⟨rfl, rfl, rfl, rfl, rfl, rfl, trivial⟩ (by decide) rfl
      refine JE.code ?_
      refine JX.seq ?_
      refine JX.seq ?_
      refine JX.region ?_
      refine JL.val (yl_loadn Go.Proofs.Try.underlying39 rfl i39 rfl (fun w hC => rd_box hC 0 rfl) rfl (i39s).symm i39p) rfl ?_
      obtain ⟨x19, hx19, hres⟩ := bind_some hres
      refine JL.eff (ef_call (vs := [.agg #[.int .i64 q0.W, .int .i64 q0.H, .slice a_0_2 q0.Breaks.length c_0_2]]) (T := T100 x19) Go.Proofs.Try.func100 rfl (by kernel_rfl) rfl (fun w hC => c100 (q0 := q0) (rd_arg g_0_2 hC) rfl k_0_2 hx19)) rfl ?_
      rintro _ _ ⟨_, ⟨a20, _, cp21, rfl, rfl, rfl⟩, rfl⟩
      refine JL.val (yl_len_slice Go.Proofs.Try.underlying33 rfl) rfl ?_
      refine JL.val (yl_move rfl) rfl ?_
      refine JL.nil ?_
      refine JE.weak (env' := [(1, .int .i64 q1), (2, .int .i64 q2), (3, .int .i64 q3), (10, .slice a7 0 0), (11, .slice a10 x9.1.length cp11), (30, .slice a20 x19.length cp21), (31, .int .i64 (x19.length : Int)), (32, .int .i64 0)]) (es' := [rowT 97 eSToolMove a7 0 0 ([] : List SToolMove), rowT 117 eHd a10 x9.1.length cp11 hs13, innO 120 eSWalker none hs13 x9.1, rowT 2 eI64 a20 x19.length cp21 x19]) [1, 2, 3, 4] ?_ ⟨rfl, rfl, rfl, rfl, rfl, rfl, rfl, rfl, trivial⟩ (by decide) rfl
      refine JE.code ?_
      refine JX.block ?_
      obtain ⟨y1, hy1, hresO1⟩ := bind_some hres
      refine JX.loop (I := fun (s1 : Int × List SToolMove) aa ww => ∃ (a23 : Option Addr) (cp24 : Nat), St w [] 48 [(1, .int .i64 q1), (2, .int .i64 q2), (3, .int .i64 q3), (10, .slice a23 s1.2.length cp24), (11, .slice a10 x9.1.length cp11), (30, .slice a20 x19.length cp21), (31, .int .i64 (x19.length : Int)), (32, .int .i64 s1.1)] [rowT 97 eSToolMove a23 s1.2.length cp24 s1.2, rowT 117 eHd a10 x9.1.length cp11 hs13, innO 120 eSWalker none hs13 x9.1, rowT 2 eI64 a20 x19.length cp21 x19] aa ww) (sh57_1 q1 q2 q3 x9 x19) hy1 (fun a w h => ⟨a7, 0, h.weak ⟨rfl, rfl, rfl, rfl, rfl, rfl, rfl, rfl, trivial⟩ [0, 1, 2, 3] (by decide) rfl⟩) ?_
      rintro ⟨x25, x26⟩ o1 hres hox1 aa ww ⟨a27, cp28, hS⟩
      refine (?_ : JX Go.Proofs.Try.prog w [] 48 _ _ [(1, .int .i64 q1), (2, .int .i64 q2), (3, .int .i64 q3), (10, .slice a27 x26.length cp28), (11, .slice a10 x9.1.length cp11), (30, .slice a20 x19.length cp21), (31, .int .i64 (x19.length : Int)), (32, .int .i64 x25)] [rowT 97 eSToolMove a27 x26.length cp28 x26, rowT 117 eHd a10 x9.1.length cp11 hs13, innO 120 eSWalker none hs13 x9.1, rowT 2 eI64 a20 x19.length cp21 x19] _) aa ww hS
      clear hS
      simp only [sh57_1] at hres
      refine JX.seq ?_
      refine JX.region ?_
      refine JL.val (yl_lss rfl rfl) rfl ?_
      refine JL.nil ?_
      refine JE.code ?_
      refine JX.seq ?_
      rcases cond_some hres with ⟨hb, hres⟩ | ⟨hb, hres⟩
      · refine JX.condT rfl hb ?_
        refine JX.skip ?_
        refine JE.code ?_
        refine JX.seq ?_
        refine JX.block ?_
        refine JX.seq ?_
        refine JX.region ?_
        obtain ⟨x29, hx29, hres⟩ := bind_some hres
        refine JL.val (yl_idxT Go.Proofs.Try.underlying33 i2 i2s rfl rfl hx29 rfl (fun w hC => rd_row hC 3 rfl)) rfl ?_
        refine JL.val (yl_loadT0 Go.Proofs.Try.underlying2 rfl rfl hx29 (fun w hC => rd_row hC 3 rfl) rfl) rfl ?_
        refine JL.val (yl_assign rfl) rfl ?_
        refine JL.nil ?_
        refine JE.code ?_
        refine JX.region ?_
        refine JL.val (yl_move rfl) rfl ?_
        refine JL.val (yl_move rfl) rfl ?_
        refine JL.val (yl_move rfl) rfl ?_
        obtain ⟨x30, hx30, hres⟩ := bind_some hres
        obtain ⟨ha31, hc32, hhx30⟩ := Inn.sub hi14 hx30
        refine JL.val (yl_idxT Go.Proofs.Try.underlying113 i117 i117s rfl rfl hhx30 (Inn.len hi14) (fun w hC => rd_row hC 1 rfl)) rfl ?_
        refine JL.val (yl_loadT0 (z := ⟨ha31, x30.length, hc32⟩) Go.Proofs.Try.underlying117 rfl rfl hhx30 (fun w hC => rd_row hC 1 rfl) rfl) rfl ?_
        refine JL.val (yl_move rfl) rfl ?_
        refine JL.val (yl_move rfl) rfl ?_
        refine JL.val (yl_move rfl) rfl ?_
        obtain ⟨x34, hx34, hres⟩ := bind_some hres
        refine JL.eff (ef_call (T := T114 x34) Go.Proofs.Try.func114 rfl (by kernel_rfl) rfl (fun w hC => c114 ((RdI.sub (rd_inn hC 2 rfl) hx30 hhx30)) rfl (RdI.ln (rd_inn hC 2 rfl) hx30 hhx30) hx34)) rfl ?_
        rintro _ _ ⟨_, ⟨a35, _, cp36, rfl, rfl, rfl⟩, rfl⟩
        obtain ⟨x38, hx38, hres⟩ := bind_some hres
        refine JL.eff (ef_appendT (ix := 0) Go.Proofs.Try.underlying28 i97 i97z i97s rfl i97b0 i97b1 rfl rfl rfl rfl rfl (fun w hC => rd_row hC 4 rfl) hx38) rfl ?_
        rintro _ _ ⟨a39, cp40, rfl, rfl⟩
        refine JL.val (yl_assign rfl) rfl ?_
        refine JL.nil ?_
        refine JE.weak (env' := [(1, .int .i64 q1), (2, .int .i64 q2), (3, .int .i64 q3), (10, .slice a39 x38.length cp40), (11, .slice a10 x9.1.length cp11), (30, .slice a20 x19.length cp21), (31, .int .i64 (x19.length : Int)), (32, .int .i64 x25)]) (es' := [rowT 97 eSToolMove a39 x38.length cp40 x38, rowT 117 eHd a10 x9.1.length cp11 hs13, innO 120 eSWalker none hs13 x9.1, rowT 2 eI64 a20 x19.length cp21 x19]) [0, 1, 2, 3] ?_ ⟨rfl, rfl, rfl, rfl, rfl, rfl, rfl, rfl, trivial⟩ (by decide) rfl
        refine JE.code ?_
        refine JX.region ?_
        refine JL.val (yl_add rfl rfl) rfl ?_
        refine JL.val (yl_move rfl) rfl ?_
        refine JL.nil ?_
        refine JE.cont hres ?_
        exact fun a w h => ⟨a39, cp40, h.weak ⟨rfl, rfl, rfl, rfl, rfl, rfl, rfl, rfl, trivial⟩ [0, 1, 2, 3] (by decide) rfl⟩
      · refine JX.condF rfl hb ?_
        refine JX.exit ?_
        refine JE.qb rfl ?_
        obtain ⟨b1, hb1⟩ : ∃ b : List SToolMove, b = x26 := ⟨_, rfl⟩
        have hy1 : b1 = y1 := by rw [hb1]; exact hox1 _ (Option.some.inj hres).symm
        have hres := hresO1
        rw [← hy1] at hres
        refine JE.weak (env' := [(10, .slice a27 b1.length cp28)]) (es' := [rowT 97 eSToolMove a27 b1.length cp28 b1]) [0] ?_ ⟨(by subst hb1; rfl), trivial⟩ (by decide) (by subst hb1; rfl)
        refine JE.code ?_
        refine JX.seq ?_
        refine JX.region ?_
        refine JL.val (yl_move rfl) rfl ?_
        refine JL.val (yl_assign rfl) rfl ?_
        refine JL.val (yl_assign rfl) rfl ?_
        refine JL.nil ?_
        refine JE.code ?_
        refine JX.ret ?_
        obtain rfl := Option.some.inj hres
        refine JE.ret (rs := [.tmp 8, .tmp 9]) (vs := [.slice a27 b1.length cp28, .int .i64 0]) rfl ⟨rfl, rfl, trivial⟩ ?_
        exact fun w' hb hs => ⟨_, _, ⟨a27, b1.length, cp28, rfl, rfl, rfl⟩, rfl, hb, hs.sel [0] _ (by decide) rfl⟩

/- laws.FnExactCarvePanel -/
def sh12 (q0 : SPanel) (q1 : Int) (q2 : Int) (q3 : Int) : Option (Bool) := Option.bind (sh27 q0 1048576) fun x3 => bif decide (x3 < 0) then (some true) else (Option.bind (sh29 q0) fun x4 => Option.bind (sh56 x4 q1 q2 q3) fun x8 => Option.bind (sh29 q0) fun x12 => Option.bind (sh57 x12 q1 q2 q3) fun x18 => Option.bind (sh24 x18.1 x8.1) fun x22 => bif !x22 || (x18.2 != x8.2) then (some false) else (Option.bind (sh29 q0) fun x24 => Option.bind (sh32 x12 x24) fun x28 => bif !x28 then (some false) else (Option.bind (sh33 x12 1) fun x29 => Option.bind (bif decide (x29.1 < 0) then (some true) else (Option.bind (sh24 x18.1 x8.1) fun x32 => some !x32)) fun cb31 => (bif cb31 || (x18.2 != x8.2) then (some false) else (Option.bind (sh25 x18.1 1) fun x33 => Option.bind (sh26 x33.2 1) fun x35 => bif decide (x35 < 0) then (some false) else (bif x35 != x33.1 then (some false) else (Option.bind (sh29 q0) fun x36 => Option.bind (sh57 x36 q1 q2 q3) fun x40 => Option.bind (sh24 x40.1 x8.1) fun x44 => bif !x44 || (x40.2 != x8.2) then (some false) else (Option.bind (sh26 x33.2 1) fun x45 => bif decide (x45 < 0) then (some false) else (bif x45 != x33.1 then (some false) else (some true))))))))))
def T12 (r : Bool) (v : Value) (rs : List Own) : Prop := v = rets [.bool r] ∧ rs = []
set_option maxRecDepth 100000 in
set_option maxHeartbeats 1000000 in
theorem c12 {w : World} {q0 : SPanel} {a_0_2 : Option Addr} {n_0_2 c_0_2 : Nat} (g_0_2 : Rd w a_0_2 (eI64.fl q0.Breaks)) (l_0_2 : q0.Breaks.length = n_0_2) (k_0_2 : n_0_2 ≤ c_0_2) {q1 : Int} {q2 : Int} {q3 : Int} {r : Bool} (hres : sh12 q0 q1 q2 q3 = some r) : Calls Go.Proofs.Try.prog 12 [.agg #[.int .i64 q0.W, .int .i64 q0.H, .slice a_0_2 n_0_2 c_0_2], .int .i64 q1, .int .i64 q2, .int .i64 q3].toArray w (Ret w (T12 r)) := by
  subst l_0_2
  unfold sh12 at hres
  refine calls_of (n := 111) (M := []) (es := []) Go.Proofs.Try.func12 rfl rfl rfl (Sep.nil _ _ _) ?_
  refine JX.seq ?_
  refine JX.region ?_
  refine JL.eff (ef_box rfl rfl) rfl ?_
  rintro _ _ ⟨g1, rfl, rfl⟩
  refine JL.val (yl_assign rfl) rfl ?_
  refine JL.nil ?_
  refine JE.code ?_
  refine JX.seq ?_
  refine JX.region ?_
  refine JL.val (yl_assign rfl) rfl ?_
  refine JL.nil ?_
  refine JE.code ?_
  refine JX.seq ?_
  refine JX.region ?_
  refine JL.val (yl_loadn Go.Proofs.Try.underlying35 rfl i35 rfl (fun w hC => rd_box hC 0 rfl) rfl (i35s).symm i35p) rfl ?_
  refine JL.val (yl_move rfl) rfl ?_
  obtain ⟨x3, hx3, hres⟩ := bind_some hres
  refine JL.eff (ef_call (vs := [.agg #[.int .i64 q0.W, .int .i64 q0.H, .slice a_0_2 q0.Breaks.length c_0_2], .int .i64 1048576]) (T := T27 x3) Go.Proofs.Try.func27 rfl (by kernel_rfl) rfl (fun w hC => c27 (q0 := q0) (rd_arg g_0_2 hC) rfl k_0_2 hx3)) rfl ?_
  rintro _ _ ⟨_, ⟨rfl, rfl⟩, rfl⟩
  refine JL.val (yl_assign rfl) rfl ?_
  refine JL.nil ?_
  refine JE.weak (env' := [(1, .int .i64 q1), (2, .int .i64 q2), (3, .int .i64 q3), (4, ptrAt (some ⟨g1, 0, none⟩) 0), (9, .int .i64 x3)]) (es' := [boxO 35 g1 [.int .i64 q0.W, .int .i64 q0.H, .slice a_0_2 q0.Breaks.length c_0_2]]) [0] ?_ ⟨rfl, rfl, rfl, rfl, rfl, trivial⟩ (by decide) rfl
  refine JE.code ?_
  refine JX.seq ?_
  refine JX.seq ?_
  refine JX.region ?_
  refine JL.val (yl_move rfl) rfl ?_
  refine JL.val (yl_lss rfl rfl) rfl ?_
  refine JL.nil ?_
  refine JE.code ?_
  rcases cond_some hres with ⟨hb, hres⟩ | ⟨hb, hres⟩
  · refine JX.condT rfl hb ?_
    refine JX.seq ?_
    refine JX.region ?_
    refine JL.val (yl_assign rfl) rfl ?_
    refine JL.nil ?_
    refine JE.weak (env' := [(8, .bool true)]) (es' := []) [] ?_ ⟨rfl, trivial⟩ (by decide) rfl
    refine JE.code ?_
    refine JX.ret ?_
    obtain rfl := Option.some.inj hres
    refine JE.ret (rs := [.tmp 8]) (vs := [.bool true]) rfl ⟨rfl, trivial⟩ ?_
    exact fun w' hb hs => ⟨_, _, ⟨rfl, rfl⟩, rfl, hb, hs.sel [] _ (by decide) rfl⟩
  · refine JX.condF rfl hb ?_
    refine JX.skip ?_
    refine JE.code ?_
    refine JX.seq ?_
    refine JX.region ?_
    refine JL.val (yl_loadn Go.Proofs.Try.underlying35 rfl i35 rfl (fun w hC => rd_box hC 0 rfl) rfl (i35s).symm i35p) rfl ?_
    obtain ⟨x4, hx4, hres⟩ := bind_some hres
    refine JL.eff (ef_call (vs := [.agg #[.int .i64 q0.W, .int .i64 q0.H, .slice a_0_2 q0.Breaks.length c_0_2]]) (T := T29 x4) Go.Proofs.Try.func29 rfl (by kernel_rfl) rfl (fun w hC => c29 (q0 := q0) (rd_arg g_0_2 hC) rfl k_0_2 hx4)) rfl ?_
    rintro _ _ ⟨_, ⟨a5, _, cp6, rfl, rfl, rfl⟩, rfl⟩
    refine JL.val (yl_move rfl) rfl ?_
    refine JL.val (yl_move rfl) rfl ?_
    refine JL.val (yl_move rfl) rfl ?_
    obtain ⟨x8, hx8, hres⟩ := bind_some hres
    refine JL.eff (ef_call (vs := [.agg #[.int .i64 x4.W, .int .i64 x4.H, .slice a5 x4.Breaks.length cp6], .int .i64 q1, .int .i64 q2, .int .i64 q3]) (T := T56 x8) Go.Proofs.Try.func56 rfl (by kernel_rfl) rfl (fun w hC => c56 (q0 := x4) (rd_row hC 1 rfl) rfl (ln_row hC 1 rfl) hx8)) rfl ?_
    rintro _ _ ⟨_, ⟨a9, _, cp10, rfl, rfl, rfl⟩, rfl⟩
    refine JL.val (yl_move rfl) rfl ?_
    refine JL.val (yl_extract rfl rfl) rfl ?_
    refine JL.val (yl_extract rfl rfl) rfl ?_
    refine JL.val (yl_assign rfl) rfl ?_
    refine JL.val (yl_assign rfl) rfl ?_
    refine JL.nil ?_
    refine JE.weak (env' := [(1, .int .i64 q1), (2, .int .i64 q2), (3, .int .i64 q3), (4, ptrAt (some ⟨g1, 0, none⟩) 0), (10, .slice a9 x8.1.length cp10), (11, .int .i64 x8.2)]) (es' := [boxO 35 g1 [.int .i64 q0.W, .int .i64 q0.H, .slice a_0_2 q0.Breaks.length c_0_2], rowT 97 eSToolMove a9 x8.1.length cp10 x8.1]) [0, 2] ?_ ⟨rfl, rfl, rfl, rfl, rfl, rfl, trivial⟩ (by decide) rfl
    refine JE.code ?_
    refine JX.seq ?_
    refine JX.region ?_
    refine JL.val (yl_loadn Go.Proofs.Try.underlying35 rfl i35 rfl (fun w hC => rd_box hC 0 rfl) rfl (i35s).symm i35p) rfl ?_
    obtain ⟨x12, hx12, hres⟩ := bind_some hres
    refine JL.eff (ef_call (vs := [.agg #[.int .i64 q0.W, .int .i64 q0.H, .slice a_0_2 q0.Breaks.length c_0_2]]) (T := T29 x12) Go.Proofs.Try.func29 rfl (by kernel_rfl) rfl (fun w hC => c29 (q0 := q0) (rd_arg g_0_2 hC) rfl k_0_2 hx12)) rfl ?_
    rintro _ _ ⟨_, ⟨a13, _, cp14, rfl, rfl, rfl⟩, rfl⟩
    refine JL.eff (ef_alloc i39 i39z rfl) rfl ?_
    rintro _ _ ⟨g16, rfl, rfl⟩
    refine JL.eff (ef_store_box (i := 3) (v := .agg #[.int .i64 x12.W, .int .i64 x12.H, .slice a13 x12.Breaks.length cp14]) i39 rfl rfl rfl (i39s).symm (Nat.le_of_ble_eq_true rfl) (by simp [Value.cells, Value.oneCell'])) rfl ?_
    rintro _ _ rfl
    refine JL.nil ?_
    refine JE.weak (env' := [(1, .int .i64 q1), (2, .int .i64 q2), (3, .int .i64 q3), (4, ptrAt (some ⟨g1, 0, none⟩) 0), (10, .slice a9 x8.1.length cp10), (11, .int .i64 x8.2), (12, ptrAt (some ⟨g16, 0, none⟩) 0)]) (es' := [boxO 35 g1 [.int .i64 q0.W, .int .i64 q0.H, .slice a_0_2 q0.Breaks.length c_0_2], rowT 97 eSToolMove a9 x8.1.length cp10 x8.1, boxO 39 g16 [.int .i64 x12.W, .int .i64 x12.H, .slice a13 x12.Breaks.length cp14], rowT 2 eI64 a13 x12.Breaks.length cp14 x12.Breaks]) [0, 1, 3, 2] ?_ ⟨rfl, rfl, rfl, rfl, rfl, rfl, rfl, trivial⟩ (by decide) rfl
    refine JE.code ?_
    refine JX.seq ?_
    refine JX.region ?_
    refine JL.val (yl_loadn Go.Proofs.Try.underlying39 rfl i39 rfl (fun w hC => rd_box hC 2 rfl) rfl (i39s).symm i39p) rfl ?_
    refine JL.val (yl_move rfl) rfl ?_
    refine JL.val (yl_move rfl) rfl ?_
    refine JL.val (yl_move rfl) rfl ?_
    obtain ⟨x18, hx18, hres⟩ := bind_some hres
    refine JL.eff (ef_call (vs := [.agg #[.int .i64 x12.W, .int .i64 x12.H, .slice a13 x12.Breaks.length cp14], .int .i64 q1, .int .i64 q2, .int .i64 q3]) (T := T57 x18) Go.Proofs.Try.func57 rfl (by kernel_rfl) rfl (fun w hC => c57 (q0 := x12) (rd_row hC 3 rfl) rfl (ln_row hC 3 rfl) hx18)) rfl ?_
    rintro _ _ ⟨_, ⟨a19, _, cp20, rfl, rfl, rfl⟩, rfl⟩
    refine JL.val (yl_move rfl) rfl ?_
    refine JL.val (yl_extract rfl rfl) rfl ?_
    refine JL.val (yl_extract rfl rfl) rfl ?_
    refine JL.val (yl_assign rfl) rfl ?_
    refine JL.val (yl_assign rfl) rfl ?_
    refine JL.nil ?_
    refine JE.weak (env' := [(1, .int .i64 q1), (2, .int .i64 q2), (3, .int .i64 q3), (4, ptrAt (some ⟨g1, 0, none⟩) 0), (10, .slice a9 x8.1.length cp10), (11, .int .i64 x8.2), (12, ptrAt (some ⟨g16, 0, none⟩) 0), (13, .slice a19 x18.1.length cp20), (14, .int .i64 x18.2)]) (es' := [boxO 35 g1 [.int .i64 q0.W, .int .i64 q0.H, .slice a_0_2 q0.Breaks.length c_0_2], rowT 97 eSToolMove a9 x8.1.length cp10 x8.1, boxO 39 g16 [.int .i64 x12.W, .int .i64 x12.H, .slice a13 x12.Breaks.length cp14], rowT 2 eI64 a13 x12.Breaks.length cp14 x12.Breaks, rowT 97 eSToolMove a19 x18.1.length cp20 x18.1]) [0, 1, 2, 3, 4] ?_ ⟨rfl, rfl, rfl, rfl, rfl, rfl, rfl, rfl, rfl, trivial⟩ (by decide) rfl
    refine JE.code ?_
    refine JX.seq ?_
    refine JX.seq ?_
    refine JX.region ?_
    refine JL.val (yl_move rfl) rfl ?_
    refine JL.val (yl_move rfl) rfl ?_
    obtain ⟨x22, hx22, hres⟩ := bind_some hres
    refine JL.eff (ef_call (T := T24 x22) Go.Proofs.Try.func24 rfl (by kernel_rfl) rfl (fun w hC => c24 (rd_row hC 4 rfl) rfl (ln_row hC 4 rfl) (rd_row hC 1 rfl) rfl (ln_row hC 1 rfl) hx22)) rfl ?_
    rintro _ _ ⟨_, ⟨rfl, rfl⟩, rfl⟩
    refine JL.val (yl_not rfl) rfl ?_
    refine JL.val (yl_move rfl) rfl ?_
    refine JL.cut (K := fun J => J [(1, .int .i64 q1), (2, .int .i64 q2), (3, .int .i64 q3), (4, ptrAt (some ⟨g1, 0, none⟩) 0), (10, .slice a9 x8.1.length cp10), (11, .int .i64 x8.2), (12, ptrAt (some ⟨g16, 0, none⟩) 0), (13, .slice a19 x18.1.length cp20), (14, .int .i64 x18.2), (52, .bool (!x22 || (x18.2 != x8.2)))] [boxO 35 g1 [.int .i64 q0.W, .int .i64 q0.H, .slice a_0_2 q0.Breaks.length c_0_2], rowT 97 eSToolMove a9 x8.1.length cp10 x8.1, boxO 39 g16 [.int .i64 x12.W, .int .i64 x12.H, .slice a13 x12.Breaks.length cp14], rowT 2 eI64 a13 x12.Breaks.length cp14 x12.Breaks, rowT 97 eSToolMove a19 x18.1.length cp20 x18.1]) 4 ?_ ?_
    · refine JL.nil ?_
      refine JE.weak (env' := [(1, .int .i64 q1), (2, .int .i64 q2), (3, .int .i64 q3), (4, ptrAt (some ⟨g1, 0, none⟩) 0), (10, .slice a9 x8.1.length cp10), (11, .int .i64 x8.2), (12, ptrAt (some ⟨g16, 0, none⟩) 0), (13, .slice a19 x18.1.length cp20), (14, .int .i64 x18.2), (52, .bool (!x22 || (x18.2 != x8.2)))]) (es' := [boxO 35 g1 [.int .i64 q0.W, .int .i64 q0.H, .slice a_0_2 q0.Breaks.length c_0_2], rowT 97 eSToolMove a9 x8.1.length cp10 x8.1, boxO 39 g16 [.int .i64 x12.W, .int .i64 x12.H, .slice a13 x12.Breaks.length cp14], rowT 2 eI64 a13 x12.Breaks.length cp14 x12.Breaks, rowT 97 eSToolMove a19 x18.1.length cp20 x18.1]) [0, 1, 2, 3, 4] ?_ ⟨rfl, rfl, rfl, rfl, rfl, rfl, rfl, rfl, rfl, rfl, trivial⟩ (by decide) rfl
      refine JE.code ?_
      rcases cond_some hres with ⟨hb, hres⟩ | ⟨hb, hres⟩
      · refine JX.condT rfl hb ?_
        refine JX.seq ?_
        refine JX.region ?_
        refine JL.val (yl_assign rfl) rfl ?_
        refine JL.nil ?_
        refine JE.weak (env' := [(8, .bool false)]) (es' := []) [] ?_ ⟨rfl, trivial⟩ (by decide) rfl
        refine JE.code ?_
        refine JX.ret ?_
        obtain rfl := Option.some.inj hres
        refine JE.ret (rs := [.tmp 8]) (vs := [.bool false]) rfl ⟨rfl, trivial⟩ ?_
        exact fun w' hb hs => ⟨_, _, ⟨rfl, rfl⟩, rfl, hb, hs.sel [] _ (by decide) rfl⟩
      · refine JX.condF rfl hb ?_
        refine JX.skip ?_
        refine JE.code ?_
        refine JX.seq ?_
        refine JX.seq ?_
        refine JX.drawH [(0, .read), (1, .read), (2, .must), (3, .must), (4, .pure)] [] [] [0, 1, 2, 3, 4] [] [boxO 35 g1 [.int .i64 q0.W, .int .i64 q0.H, .slice a_0_2 q0.Breaks.length c_0_2], rowT 97 eSToolMove a9 x8.1.length cp10 x8.1, boxO 39 g16 [.int .i64 x12.W, .int .i64 x12.H, .slice a13 x12.Breaks.length cp14], rowT 2 eI64 a13 x12.Breaks.length cp14 x12.Breaks, rowT 97 eSToolMove a19 x18.1.length cp20 x18.1] mixedP (by kernel_rfl) (by kernel_rfl) (by decide) rfl rfl ?_
        intro wrr23 Nr23 hFr23
        refine JH.read rfl (yl_loadn Go.Proofs.Try.underlying39 rfl i39 rfl (fun w hw => hFr23.box 2 rfl rfl hw) rfl (i39s).symm i39p) rfl ?_
        refine JH.read rfl (yl_loadn Go.Proofs.Try.underlying35 rfl i35 rfl (fun w hw => hFr23.box 0 rfl rfl hw) rfl (i35s).symm i35p) rfl ?_
        obtain ⟨x24, hx24, hres⟩ := bind_some hres
        refine JH.must rfl (ef_call (vs := [.agg #[.int .i64 q0.W, .int .i64 q0.H, .slice a_0_2 q0.Breaks.length c_0_2]]) (T := T29 x24) Go.Proofs.Try.func29 rfl (by kernel_rfl) rfl (fun w hC => c29 (q0 := q0) (hFr23.arg g_0_2 hC.1) rfl k_0_2 hx24)) rfl rfl ?_
        rintro _ _ ⟨_, ⟨a25, _, cp26, rfl, rfl, rfl⟩, rfl⟩
        obtain ⟨x28, hx28, hres⟩ := bind_some hres
        refine JH.must rfl (ef_call (vs := [.agg #[.int .i64 x12.W, .int .i64 x12.H, .slice a13 x12.Breaks.length cp14], .agg #[.int .i64 x24.W, .int .i64 x24.H, .slice a25 x24.Breaks.length cp26]]) (T := T32 x28) Go.Proofs.Try.func32 rfl (by kernel_rfl) rfl (fun w hC => c32 (q0 := x12) (q1 := x24) (hFr23.row 3 rfl rfl hC.1) rfl (ln_row hFr23.cl 3 rfl) (rd_row hC 0 rfl) rfl (ln_row hC 0 rfl) hx28)) rfl rfl ?_
        rintro _ _ ⟨_, ⟨rfl, rfl⟩, rfl⟩
        refine JH.pure rfl (yl_not rfl) rfl ?_
        refine JH.nil ?_
        refine JE.weak (env' := [(1, .int .i64 q1), (2, .int .i64 q2), (3, .int .i64 q3), (4, ptrAt (some ⟨g1, 0, none⟩) 0), (10, .slice a9 x8.1.length cp10), (11, .int .i64 x8.2), (12, ptrAt (some ⟨g16, 0, none⟩) 0), (13, .slice a19 x18.1.length cp20), (14, .int .i64 x18.2), (57, .bool !x28)]) (es' := [boxO 35 g1 [.int .i64 q0.W, .int .i64 q0.H, .slice a_0_2 q0.Breaks.length c_0_2], rowT 97 eSToolMove a9 x8.1.length cp10 x8.1, boxO 39 g16 [.int .i64 x12.W, .int .i64 x12.H, .slice a13 x12.Breaks.length cp14], rowT 2 eI64 a13 x12.Breaks.length cp14 x12.Breaks, rowT 97 eSToolMove a19 x18.1.length cp20 x18.1]) [0, 1, 2, 3, 4] ?_ ⟨rfl, rfl, rfl, rfl, rfl, rfl, rfl, rfl, rfl, rfl, trivial⟩ (by decide) rfl
        refine JE.code ?_
        rcases cond_some hres with ⟨hb, hres⟩ | ⟨hb, hres⟩
        · refine JX.condT rfl hb ?_
          refine JX.seq ?_
          refine JX.region ?_
          refine JL.val (yl_assign rfl) rfl ?_
          refine JL.nil ?_
          refine JE.weak (env' := [(8, .bool false)]) (es' := []) [] ?_ ⟨rfl, trivial⟩ (by decide) rfl
          refine JE.code ?_
          refine JX.ret ?_
          obtain rfl := Option.some.inj hres
          refine JE.ret (rs := [.tmp 8]) (vs := [.bool false]) rfl ⟨rfl, trivial⟩ ?_
          exact fun w' hb hs => ⟨_, _, ⟨rfl, rfl⟩, rfl, hb, hs.sel [] _ (by decide) rfl⟩
        · refine JX.condF rfl hb ?_
          refine JX.skip ?_
          refine JE.code ?_
          refine JX.seq ?_
          refine JX.region ?_
          refine JL.val (yl_assign rfl) rfl ?_
          refine JL.nil ?_
          refine JE.code ?_
          refine JX.seq ?_
          refine JX.region ?_
          refine JL.val (yl_loadn Go.Proofs.Try.underlying39 rfl i39 rfl (fun w hC => rd_box hC 2 rfl) rfl (i39s).symm i39p) rfl ?_
          refine JL.val (yl_move rfl) rfl ?_
          obtain ⟨x29, hx29, hres⟩ := bind_some hres
          refine JL.eff (ef_callms (caps := []) (vs := [.agg #[.int .i64 x12.W, .int .i64 x12.H, .slice a13 x12.Breaks.length cp14], .int .i64 1]) (T := T33 a13 x12.Breaks.length cp14 x29) [3] [0, 1, 2, 4] [rowT 2 eI64 a13 x12.Breaks.length cp14 x12.Breaks] [boxO 35 g1 [.int .i64 q0.W, .int .i64 q0.H, .slice a_0_2 q0.Breaks.length c_0_2], rowT 97 eSToolMove a9 x8.1.length cp10 x8.1, boxO 39 g16 [.int .i64 x12.W, .int .i64 x12.H, .slice a13 x12.Breaks.length cp14], rowT 97 eSToolMove a19 x18.1.length cp20 x18.1] rfl Go.Proofs.Try.func33 rfl (by kernel_rfl) rfl (by decide) rfl rfl (fun w N hF hS => c33 (q0 := x12) rfl hS hx29)) rfl ?_
          rintro _ _ ⟨_, _, ⟨l30, rfl, rfl, rfl⟩, rfl⟩
          refine JL.val (yl_assign rfl) rfl ?_
          refine JL.nil ?_
          refine JE.weak (env' := [(1, .int .i64 q1), (2, .int .i64 q2), (3, .int .i64 q3), (4, ptrAt (some ⟨g1, 0, none⟩) 0), (10, .slice a9 x8.1.length cp10), (11, .int .i64 x8.2), (13, .slice a19 x18.1.length cp20), (14, .int .i64 x18.2), (15, .int .i64 x29.1)]) (es' := [boxO 35 g1 [.int .i64 q0.W, .int .i64 q0.H, .slice a_0_2 q0.Breaks.length c_0_2], rowT 97 eSToolMove a9 x8.1.length cp10 x8.1, rowT 97 eSToolMove a19 x18.1.length cp20 x18.1]) [0, 1, 3] ?_ ⟨rfl, rfl, rfl, rfl, rfl, rfl, rfl, rfl, rfl, trivial⟩ (by decide) rfl
          refine JE.code ?_
          refine JX.seq ?_
          refine JX.seq ?_
          refine JX.region ?_
          refine JL.val (yl_move rfl) rfl ?_
          refine JL.val (yl_lss rfl rfl) rfl ?_
          refine JL.val (yl_move rfl) rfl ?_
          obtain ⟨cb31, hcb31, hres⟩ := bind_some hres
          refine JL.cut (K := fun J => J [(1, .int .i64 q1), (2, .int .i64 q2), (3, .int .i64 q3), (4, ptrAt (some ⟨g1, 0, none⟩) 0), (10, .slice a9 x8.1.length cp10), (11, .int .i64 x8.2), (13, .slice a19 x18.1.length cp20), (14, .int .i64 x18.2), (68, .bool cb31)] [boxO 35 g1 [.int .i64 q0.W, .int .i64 q0.H, .slice a_0_2 q0.Breaks.length c_0_2], rowT 97 eSToolMove a9 x8.1.length cp10 x8.1, rowT 97 eSToolMove a19 x18.1.length cp20 x18.1]) 5 ?_ ?_
          · refine JL.val (yl_move rfl) rfl ?_
            refine JL.cut (K := fun J => J [(1, .int .i64 q1), (2, .int .i64 q2), (3, .int .i64 q3), (4, ptrAt (some ⟨g1, 0, none⟩) 0), (10, .slice a9 x8.1.length cp10), (11, .int .i64 x8.2), (13, .slice a19 x18.1.length cp20), (73, .bool (cb31 || (x18.2 != x8.2)))] [boxO 35 g1 [.int .i64 q0.W, .int .i64 q0.H, .slice a_0_2 q0.Breaks.length c_0_2], rowT 97 eSToolMove a9 x8.1.length cp10 x8.1, rowT 97 eSToolMove a19 x18.1.length cp20 x18.1]) 4 ?_ ?_
            · refine JL.nil ?_
              refine JE.weak (env' := [(1, .int .i64 q1), (2, .int .i64 q2), (3, .int .i64 q3), (4, ptrAt (some ⟨g1, 0, none⟩) 0), (10, .slice a9 x8.1.length cp10), (11, .int .i64 x8.2), (13, .slice a19 x18.1.length cp20), (73, .bool (cb31 || (x18.2 != x8.2)))]) (es' := [boxO 35 g1 [.int .i64 q0.W, .int .i64 q0.H, .slice a_0_2 q0.Breaks.length c_0_2], rowT 97 eSToolMove a9 x8.1.length cp10 x8.1, rowT 97 eSToolMove a19 x18.1.length cp20 x18.1]) [0, 1, 2] ?_ ⟨rfl, rfl, rfl, rfl, rfl, rfl, rfl, rfl, trivial⟩ (by decide) rfl
              refine JE.code ?_
              rcases cond_some hres with ⟨hb, hres⟩ | ⟨hb, hres⟩
              · refine JX.condT rfl hb ?_
                refine JX.seq ?_
                refine JX.region ?_
                refine JL.val (yl_assign rfl) rfl ?_
                refine JL.nil ?_
                refine JE.weak (env' := [(8, .bool false)]) (es' := []) [] ?_ ⟨rfl, trivial⟩ (by decide) rfl
                refine JE.code ?_
                refine JX.ret ?_
                obtain rfl := Option.some.inj hres
                refine JE.ret (rs := [.tmp 8]) (vs := [.bool false]) rfl ⟨rfl, trivial⟩ ?_
                exact fun w' hb hs => ⟨_, _, ⟨rfl, rfl⟩, rfl, hb, hs.sel [] _ (by decide) rfl⟩
              · refine JX.condF rfl hb ?_
                refine JX.skip ?_
                refine JE.code ?_
                refine JX.seq ?_
                refine JX.region ?_
                refine JL.val (yl_assign rfl) rfl ?_
                refine JL.nil ?_
                refine JE.code ?_
                refine JX.seq ?_
                refine JX.region ?_
                refine JL.val (yl_move rfl) rfl ?_
                refine JL.val (yl_move rfl) rfl ?_
                obtain ⟨x33, hx33, hres⟩ := bind_some hres
                refine JL.eff (ef_callm (T := T25 a19 x18.1.length cp20 x33) 2 Go.Proofs.Try.func25 rfl (by kernel_rfl) rfl rfl (fun w fp hs => c25 hs rfl hx33)) rfl ?_
                rintro _ _ ⟨_, _, ⟨l34, rfl, rfl, rfl⟩, rfl⟩
                refine JL.val (yl_assign rfl) rfl ?_
                refine JL.nil ?_
                refine JE.weak (env' := [(1, .int .i64 q1), (2, .int .i64 q2), (3, .int .i64 q3), (4, ptrAt (some ⟨g1, 0, none⟩) 0), (10, .slice a9 x8.1.length cp10), (11, .int .i64 x8.2), (13, .slice a19 x18.1.length cp20), (16, .int .i64 x33.1)]) (es' := [boxO 35 g1 [.int .i64 q0.W, .int .i64 q0.H, .slice a_0_2 q0.Breaks.length c_0_2], rowT 97 eSToolMove a9 x8.1.length cp10 x8.1, rowT 97 eSToolMove a19 x18.1.length cp20 x33.2]) [0, 1, 2] ?_ ⟨rfl, rfl, rfl, rfl, rfl, rfl, rfl, rfl, trivial⟩ (by decide) rfl
                refine JE.code ?_
                refine JX.seq ?_
                refine JX.region ?_
                refine JL.val (yl_assign rfl) rfl ?_
                refine JL.nil ?_
                refine JE.code ?_
                refine JX.seq ?_
                refine JX.region ?_
                refine JL.val (yl_move rfl) rfl ?_
                refine JL.val (yl_move rfl) rfl ?_
                obtain ⟨x35, hx35, hres⟩ := bind_some hres
                refine JL.eff (ef_call (T := T26 x35) Go.Proofs.Try.func26 rfl (by kernel_rfl) rfl (fun w hC => c26 (rd_row hC 2 rfl) l34 (ln_row hC 2 rfl) hx35)) rfl ?_
                rintro _ _ ⟨_, ⟨rfl, rfl⟩, rfl⟩
                refine JL.val (yl_assign rfl) rfl ?_
                refine JL.nil ?_
                refine JE.weak (env' := [(1, .int .i64 q1), (2, .int .i64 q2), (3, .int .i64 q3), (4, ptrAt (some ⟨g1, 0, none⟩) 0), (10, .slice a9 x8.1.length cp10), (11, .int .i64 x8.2), (13, .slice a19 x18.1.length cp20), (16, .int .i64 x33.1), (17, .int .i64 x35)]) (es' := [boxO 35 g1 [.int .i64 q0.W, .int .i64 q0.H, .slice a_0_2 q0.Breaks.length c_0_2], rowT 97 eSToolMove a9 x8.1.length cp10 x8.1, rowT 97 eSToolMove a19 x18.1.length cp20 x33.2]) [0, 1, 2] ?_ ⟨rfl, rfl, rfl, rfl, rfl, rfl, rfl, rfl, rfl, trivial⟩ (by decide) rfl
                refine JE.code ?_
                refine JX.seq ?_
                refine JX.seq ?_
                refine JX.region ?_
                refine JL.val (yl_move rfl) rfl ?_
                refine JL.val (yl_lss rfl rfl) rfl ?_
                refine JL.nil ?_
                refine JE.code ?_
                rcases cond_some hres with ⟨hb, hres⟩ | ⟨hb, hres⟩
                · refine JX.condT rfl hb ?_
                  refine JX.seq ?_
                  refine JX.region ?_
                  refine JL.val (yl_assign rfl) rfl ?_
                  refine JL.nil ?_
                  refine JE.weak (env' := [(8, .bool false)]) (es' := []) [] ?_ ⟨rfl, trivial⟩ (by decide) rfl
                  refine JE.code ?_
                  refine JX.ret ?_
                  obtain rfl := Option.some.inj hres
                  refine JE.ret (rs := [.tmp 8]) (vs := [.bool false]) rfl ⟨rfl, trivial⟩ ?_
                  exact fun w' hb hs => ⟨_, _, ⟨rfl, rfl⟩, rfl, hb, hs.sel [] _ (by decide) rfl⟩
                · refine JX.condF rfl hb ?_
                  refine JX.skip ?_
                  refine JE.code ?_
                  refine JX.seq ?_
                  refine JX.seq ?_
                  refine JX.region ?_
                  refine JL.val (yl_move rfl) rfl ?_
                  refine JL.val (yl_move rfl) rfl ?_
                  refine JL.val (yl_neq rfl rfl) rfl ?_
                  refine JL.nil ?_
                  refine JE.code ?_
                  rcases cond_some hres with ⟨hb, hres⟩ | ⟨hb, hres⟩
                  · refine JX.condT rfl hb ?_
                    refine JX.seq ?_
                    refine JX.region ?_
                    refine JL.val (yl_assign rfl) rfl ?_
                    refine JL.nil ?_
                    refine JE.weak (env' := [(8, .bool false)]) (es' := []) [] ?_ ⟨rfl, trivial⟩ (by decide) rfl
                    refine JE.code ?_
                    refine JX.ret ?_
                    obtain rfl := Option.some.inj hres
                    refine JE.ret (rs := [.tmp 8]) (vs := [.bool false]) rfl ⟨rfl, trivial⟩ ?_
                    exact fun w' hb hs => ⟨_, _, ⟨rfl, rfl⟩, rfl, hb, hs.sel [] _ (by decide) rfl⟩
                  · refine JX.condF rfl hb ?_
                    refine JX.skip ?_
                    refine JE.code ?_
                    refine JX.seq ?_
                    refine JX.region ?_
                    refine JL.val (yl_loadn Go.Proofs.Try.underlying35 rfl i35 rfl (fun w hC => rd_box hC 0 rfl) rfl (i35s).symm i35p) rfl ?_
                    obtain ⟨x36, hx36, hres⟩ := bind_some hres
                    refine JL.eff (ef_call (vs := [.agg #[.int .i64 q0.W, .int .i64 q0.H, .slice a_0_2 q0.Breaks.length c_0_2]]) (T := T29 x36) Go.Proofs.Try.func29 rfl (by kernel_rfl) rfl (fun w hC => c29 (q0 := q0) (rd_arg g_0_2 hC) rfl k_0_2 hx36)) rfl ?_
                    rintro _ _ ⟨_, ⟨a37, _, cp38, rfl, rfl, rfl⟩, rfl⟩
                    refine JL.val (yl_move rfl) rfl ?_
                    refine JL.val (yl_move rfl) rfl ?_
                    refine JL.val (yl_move rfl) rfl ?_
                    obtain ⟨x40, hx40, hres⟩ := bind_some hres
                    refine JL.eff (ef_call (vs := [.agg #[.int .i64 x36.W, .int .i64 x36.H, .slice a37 x36.Breaks.length cp38], .int .i64 q1, .int .i64 q2, .int .i64 q3]) (T := T57 x40) Go.Proofs.Try.func57 rfl (by kernel_rfl) rfl (fun w hC => c57 (q0 := x36) (rd_row hC 3 rfl) rfl (ln_row hC 3 rfl) hx40)) rfl ?_
                    rintro _ _ ⟨_, ⟨a41, _, cp42, rfl, rfl, rfl⟩, rfl⟩
                    refine JL.val (yl_move rfl) rfl ?_
                    refine JL.val (yl_extract rfl rfl) rfl ?_
                    refine JL.val (yl_extract rfl rfl) rfl ?_
                    refine JL.val (yl_assign rfl) rfl ?_
                    refine JL.val (yl_assign rfl) rfl ?_
                    refine JL.nil ?_
                    refine JE.weak (env' := [(10, .slice a9 x8.1.length cp10), (11, .int .i64 x8.2), (13, .slice a19 x18.1.length cp20), (16, .int .i64 x33.1), (18, .slice a41 x40.1.length cp42), (19, .int .i64 x40.2)]) (es' := [rowT 97 eSToolMove a9 x8.1.length cp10 x8.1, rowT 97 eSToolMove a19 x18.1.length cp20 x33.2, rowT 97 eSToolMove a41 x40.1.length cp42 x40.1]) [1, 2, 4] ?_ ⟨rfl, rfl, rfl, rfl, rfl, rfl, trivial⟩ (by decide) rfl
                    refine JE.code ?_
                    refine JX.seq ?_
                    refine JX.seq ?_
                    refine JX.region ?_
                    refine JL.val (yl_move rfl) rfl ?_
                    refine JL.val (yl_move rfl) rfl ?_
                    obtain ⟨x44, hx44, hres⟩ := bind_some hres
                    refine JL.eff (ef_call (T := T24 x44) Go.Proofs.Try.func24 rfl (by kernel_rfl) rfl (fun w hC => c24 (rd_row hC 2 rfl) rfl (ln_row hC 2 rfl) (rd_row hC 0 rfl) rfl (ln_row hC 0 rfl) hx44)) rfl ?_
                    rintro _ _ ⟨_, ⟨rfl, rfl⟩, rfl⟩
                    refine JL.val (yl_not rfl) rfl ?_
                    refine JL.val (yl_move rfl) rfl ?_
                    refine JL.cut (K := fun J => J [(13, .slice a19 x18.1.length cp20), (16, .int .i64 x33.1), (102, .bool (!x44 || (x40.2 != x8.2)))] [rowT 97 eSToolMove a19 x18.1.length cp20 x33.2]) 4 ?_ ?_
                    · refine JL.nil ?_
                      refine JE.weak (env' := [(13, .slice a19 x18.1.length cp20), (16, .int .i64 x33.1), (102, .bool (!x44 || (x40.2 != x8.2)))]) (es' := [rowT 97 eSToolMove a19 x18.1.length cp20 x33.2]) [0] ?_ ⟨rfl, rfl, rfl, trivial⟩ (by decide) rfl
                      refine JE.code ?_
                      rcases cond_some hres with ⟨hb, hres⟩ | ⟨hb, hres⟩
                      · refine JX.condT rfl hb ?_
                        refine JX.seq ?_
                        refine JX.region ?_
                        refine JL.val (yl_assign rfl) rfl ?_
                        refine JL.nil ?_
                        refine JE.weak (env' := [(8, .bool false)]) (es' := []) [] ?_ ⟨rfl, trivial⟩ (by decide) rfl
                        refine JE.code ?_
                        refine JX.ret ?_
                        obtain rfl := Option.some.inj hres
                        refine JE.ret (rs := [.tmp 8]) (vs := [.bool false]) rfl ⟨rfl, trivial⟩ ?_
                        exact fun w' hb hs => ⟨_, _, ⟨rfl, rfl⟩, rfl, hb, hs.sel [] _ (by decide) rfl⟩
                      · refine JX.condF rfl hb ?_
                        refine JX.skip ?_
                        refine JE.code ?_
                        refine JX.seq ?_
                        refine JX.region ?_
                        refine JL.val (yl_assign rfl) rfl ?_
                        refine JL.nil ?_
                        refine JE.code ?_
                        refine JX.seq ?_
                        refine JX.region ?_
                        refine JL.val (yl_move rfl) rfl ?_
                        refine JL.val (yl_move rfl) rfl ?_
                        obtain ⟨x45, hx45, hres⟩ := bind_some hres
                        refine JL.eff (ef_call (T := T26 x45) Go.Proofs.Try.func26 rfl (by kernel_rfl) rfl (fun w hC => c26 (rd_row hC 0 rfl) l34 (ln_row hC 0 rfl) hx45)) rfl ?_
                        rintro _ _ ⟨_, ⟨rfl, rfl⟩, rfl⟩
                        refine JL.val (yl_assign rfl) rfl ?_
                        refine JL.nil ?_
                        refine JE.weak (env' := [(16, .int .i64 x33.1), (17, .int .i64 x45)]) (es' := []) [] ?_ ⟨rfl, rfl, trivial⟩ (by decide) rfl
                        refine JE.code ?_
                        refine JX.seq ?_
                        refine JX.seq ?_
                        refine JX.region ?_
                        refine JL.val (yl_move rfl) rfl ?_
                        refine JL.val (yl_lss rfl rfl) rfl ?_
                        refine JL.nil ?_
                        refine JE.code ?_
                        rcases cond_some hres with ⟨hb, hres⟩ | ⟨hb, hres⟩
                        · refine JX.condT rfl hb ?_
                          refine JX.seq ?_
                          refine JX.region ?_
                          refine JL.val (yl_assign rfl) rfl ?_
                          refine JL.nil ?_
                          refine JE.code ?_
                          refine JX.ret ?_
                          obtain rfl := Option.some.inj hres
                          refine JE.ret (rs := [.tmp 8]) (vs := [.bool false]) rfl ⟨rfl, trivial⟩ ?_
                          exact fun w' hb hs => ⟨_, _, ⟨rfl, rfl⟩, rfl, hb, hs.sel [] _ (by decide) rfl⟩
                        · refine JX.condF rfl hb ?_
                          refine JX.skip ?_
                          refine JE.code ?_
                          refine JX.seq ?_
                          refine JX.seq ?_
                          refine JX.region ?_
                          refine JL.val (yl_move rfl) rfl ?_
                          refine JL.val (yl_move rfl) rfl ?_
                          refine JL.val (yl_neq rfl rfl) rfl ?_
                          refine JL.nil ?_
                          refine JE.code ?_
                          rcases cond_some hres with ⟨hb, hres⟩ | ⟨hb, hres⟩
                          · refine JX.condT rfl hb ?_
                            refine JX.seq ?_
                            refine JX.region ?_
                            refine JL.val (yl_assign rfl) rfl ?_
                            refine JL.nil ?_
                            refine JE.code ?_
                            refine JX.ret ?_
                            obtain rfl := Option.some.inj hres
                            refine JE.ret (rs := [.tmp 8]) (vs := [.bool false]) rfl ⟨rfl, trivial⟩ ?_
                            exact fun w' hb hs => ⟨_, _, ⟨rfl, rfl⟩, rfl, hb, hs.sel [] _ (by decide) rfl⟩
                          · refine JX.condF rfl hb ?_
                            refine JX.skip ?_
                            refine JE.code ?_
                            refine JX.seq ?_
                            refine JX.region ?_
                            refine JL.val (yl_assign rfl) rfl ?_
                            refine JL.nil ?_
                            refine JE.code ?_
                            refine JX.ret ?_
                            obtain rfl := Option.some.inj hres
                            refine JE.ret (rs := [.tmp 8]) (vs := [.bool true]) rfl ⟨rfl, trivial⟩ ?_
                            exact fun w' hb hs => ⟨_, _, ⟨rfl, rfl⟩, rfl, hb, hs.sel [] _ (by decide) rfl⟩
                    · intro K
                      rcases Bool.eq_false_or_eq_true (!x44) with hb | hb
                      · refine JL.set (d := 98) (v := .bool true) (congrArg (fun b => some (Value.bool b)) hb) ?_
                        refine JL.gskip rfl rfl rfl rfl ?_
                        refine JL.gskip rfl rfl rfl rfl ?_
                        refine JL.gskip rfl rfl rfl rfl ?_
                        refine JL.val (yl_pick_true rfl rfl) rfl ?_
                        exact JL.weak [1] K ⟨rfl, rfl, (by rw [hb]; rfl), trivial⟩ (by decide) rfl
                      · refine JL.set (d := 98) (v := .bool false) (congrArg (fun b => some (Value.bool b)) hb) ?_
                        refine JL.gval rfl rfl (yl_move rfl) rfl ?_
                        refine JL.gval rfl rfl (yl_move rfl) rfl ?_
                        refine JL.gval rfl rfl (yl_neq rfl rfl) rfl ?_
                        refine JL.val (yl_pick_false rfl rfl) rfl ?_
                        exact JL.weak [1] K ⟨rfl, rfl, (by rw [hb]; rfl), trivial⟩ (by decide) rfl
            · intro K
              rcases Bool.eq_false_or_eq_true (cb31) with hb | hb
              · refine JL.set (d := 69) (v := .bool true) (congrArg (fun b => some (Value.bool b)) hb) ?_
                refine JL.gskip rfl rfl rfl rfl ?_
                refine JL.gskip rfl rfl rfl rfl ?_
                refine JL.gskip rfl rfl rfl rfl ?_
                refine JL.val (yl_pick_true rfl rfl) rfl ?_
                exact JL.weak [0, 1, 2] K ⟨rfl, rfl, rfl, rfl, rfl, rfl, rfl, (by rw [hb]; rfl), trivial⟩ (by decide) rfl
              · refine JL.set (d := 69) (v := .bool false) (congrArg (fun b => some (Value.bool b)) hb) ?_
                refine JL.gval rfl rfl (yl_move rfl) rfl ?_
                refine JL.gval rfl rfl (yl_move rfl) rfl ?_
                refine JL.gval rfl rfl (yl_neq rfl rfl) rfl ?_
                refine JL.val (yl_pick_false rfl rfl) rfl ?_
                exact JL.weak [0, 1, 2] K ⟨rfl, rfl, rfl, rfl, rfl, rfl, rfl, (by rw [hb]; rfl), trivial⟩ (by decide) rfl
          · intro K
            rcases cond_some hcb31 with ⟨hb, hres⟩ | ⟨hb, hres⟩
            · refine JL.set (d := 63) (v := .bool true) (congrArg (fun b => some (Value.bool b)) hb) ?_
              refine JL.gskip rfl rfl rfl rfl ?_
              refine JL.gskip rfl rfl rfl rfl ?_
              refine JL.gskip rfl rfl rfl rfl ?_
              refine JL.gskip rfl rfl rfl rfl ?_
              refine JL.val (yl_pick_true rfl rfl) rfl ?_
              have he := Option.some.inj hres
              exact JL.weak [0, 1, 2] K ⟨rfl, rfl, rfl, rfl, rfl, rfl, rfl, rfl, (by rw [← he]; rfl), trivial⟩ (by decide) rfl
            · refine JL.set (d := 63) (v := .bool false) (congrArg (fun b => some (Value.bool b)) hb) ?_
              refine JL.gval rfl rfl (yl_move rfl) rfl ?_
              refine JL.gval rfl rfl (yl_move rfl) rfl ?_
              obtain ⟨x32, hx32, hres⟩ := bind_some hres
              refine JL.geff rfl rfl (ef_call (T := T24 x32) Go.Proofs.Try.func24 rfl (by kernel_rfl) rfl (fun w hC => c24 (rd_row hC 2 rfl) rfl (ln_row hC 2 rfl) (rd_row hC 1 rfl) rfl (ln_row hC 1 rfl) hx32)) rfl ?_
              rintro _ _ ⟨_, ⟨rfl, rfl⟩, rfl⟩
              refine JL.gval rfl rfl (yl_not rfl) rfl ?_
              refine JL.val (yl_pick_false rfl rfl) rfl ?_
              have he := Option.some.inj hres
              exact JL.weak [0, 1, 2] K ⟨rfl, rfl, rfl, rfl, rfl, rfl, rfl, rfl, (by rw [← he]; rfl), trivial⟩ (by decide) rfl
    · intro K
      rcases Bool.eq_false_or_eq_true (!x22) with hb | hb
      · refine JL.set (d := 48) (v := .bool true) (congrArg (fun b => some (Value.bool b)) hb) ?_
        refine JL.gskip rfl rfl rfl rfl ?_
        refine JL.gskip rfl rfl rfl rfl ?_
        refine JL.gskip rfl rfl rfl rfl ?_
        refine JL.val (yl_pick_true rfl rfl) rfl ?_
        exact JL.weak [0, 1, 2, 3, 4] K ⟨rfl, rfl, rfl, rfl, rfl, rfl, rfl, rfl, rfl, (by rw [hb]; rfl), trivial⟩ (by decide) rfl
      · refine JL.set (d := 48) (v := .bool false) (congrArg (fun b => some (Value.bool b)) hb) ?_
        refine JL.gval rfl rfl (yl_move rfl) rfl ?_
        refine JL.gval rfl rfl (yl_move rfl) rfl ?_
        refine JL.gval rfl rfl (yl_neq rfl rfl) rfl ?_
        refine JL.val (yl_pick_false rfl rfl) rfl ?_
        exact JL.weak [0, 1, 2, 3, 4] K ⟨rfl, rfl, rfl, rfl, rfl, rfl, rfl, rfl, rfl, (by rw [hb]; rfl), trivial⟩ (by decide) rfl

end Go.Sh
