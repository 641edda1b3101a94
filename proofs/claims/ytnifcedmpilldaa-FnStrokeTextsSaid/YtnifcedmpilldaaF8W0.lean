/- Walks through functions that the law reaches, printed by program. -/
import Derived.Test.YtnifcedmpilldaaF8T
set_option linter.unusedVariables false
set_option linter.unusedSimpArgs false
namespace Go.Sh
open Go Go.RowKit
/- laws.f6big -/
def sh9 (q0 : List Int) : Option (Bool) := some (decide (4096 < (q0.length : Int)))
def T9 (r : Bool) (v : Value) (rs : List Own) : Prop := v = rets [.bool r] ∧ rs = []
set_option maxRecDepth 100000 in
theorem c9 {w : World} {q0 : List Int} {a_0 : Option Addr} {n_0 c_0 : Nat} (g_0 : Rd w a_0 (eU8.fl q0)) (l_0 : q0.length = n_0) (k_0 : n_0 ≤ c_0) {r : Bool} (hres : sh9 q0 = some r) : Calls Go.Proofs.Try.prog 9 [.slice a_0 n_0 c_0].toArray w (Ret w (T9 r)) := by
  subst l_0
  unfold sh9 at hres
  refine calls_of (n := 6) (M := []) (es := []) Go.Proofs.Try.func9 rfl rfl rfl (Sep.nil _ _ _) ?_
  refine JX.seq ?_
  refine JX.region ?_
  refine JL.val (yl_assign rfl) rfl ?_
  refine JL.nil ?_
  refine JE.code ?_
  refine JX.seq ?_
  refine JX.region ?_
  refine JL.val (yl_move rfl) rfl ?_
  refine JL.val (yl_len_slice Go.Proofs.Try.underlying22 rfl) rfl ?_
  refine JL.val (yl_gtr rfl rfl) rfl ?_
  refine JL.val (yl_assign rfl) rfl ?_
  refine JL.nil ?_
  refine JE.weak (env' := [(2, .bool (decide (4096 < (q0.length : Int))))]) (es' := []) [] ?_ ⟨rfl, trivial⟩ (by decide) rfl
  refine JE.code ?_
  refine JX.ret ?_
  obtain rfl := Option.some.inj hres
  refine JE.ret (rs := [.tmp 2]) (vs := [.bool (decide (4096 < (q0.length : Int)))]) rfl ⟨rfl, trivial⟩ ?_
  exact fun w' hb hs => ⟨_, _, ⟨rfl, rfl⟩, rfl, hb, hs.sel [] _ (by decide) rfl⟩

/- laws.f6points -/
def sh17_1 (q0 : List SPoint) (q1 : List SPoint) : Int → Option (Int ⊕ (Unit ⊕ Bool))
  | x1 => bif decide (x1 < (q0.length : Int)) then (Option.bind (getI q0 x1) fun x3 => Option.bind (getI q1 x1) fun x4 => bif !(((x3.X == x4.X) && ((x3.Y == x4.Y) && true))) then (some (.inr (.inr false))) else (some (.inl (w64 (x1 + 1))))) else (some (.inr (.inl ())))
def sh17 (q0 : List SPoint) (q1 : List SPoint) : Option (Bool) := bif (q0.length : Int) != (q1.length : Int) then (some false) else (Option.bind (iter (sh17_1 q0 q1) 0) fun y1 => elimS y1 (fun r => some r) fun b1 => (some true))
def T17 (r : Bool) (v : Value) (rs : List Own) : Prop := v = rets [.bool r] ∧ rs = []
set_option maxRecDepth 100000 in
theorem c17 {w : World} {q0 : List SPoint} {a_0 : Option Addr} {n_0 c_0 : Nat} (g_0 : Rd w a_0 (eSPoint.fl q0)) (l_0 : q0.length = n_0) (k_0 : n_0 ≤ c_0) {q1 : List SPoint} {a_1 : Option Addr} {n_1 c_1 : Nat} (g_1 : Rd w a_1 (eSPoint.fl q1)) (l_1 : q1.length = n_1) (k_1 : n_1 ≤ c_1) {r : Bool} (hres : sh17 q0 q1 = some r) : Calls Go.Proofs.Try.prog 17 [.slice a_0 n_0 c_0, .slice a_1 n_1 c_1].toArray w (Ret w (T17 r)) := by
  subst l_0
  subst l_1
  unfold sh17 at hres
  refine calls_of (n := 26) (M := []) (es := []) Go.Proofs.Try.func17 rfl rfl rfl (Sep.nil _ _ _) ?_
  refine JX.seq ?_
  refine JX.region ?_
  refine JL.val (yl_assign rfl) rfl ?_
  refine JL.nil ?_
  refine JE.code ?_
  refine JX.seq ?_
  refine JX.seq ?_
  refine JX.region ?_
  refine JL.val (yl_move rfl) rfl ?_
  refine JL.val (yl_len_slice Go.Proofs.Try.underlying34 rfl) rfl ?_
  refine JL.val (yl_move rfl) rfl ?_
  refine JL.val (yl_len_slice Go.Proofs.Try.underlying34 rfl) rfl ?_
  refine JL.val (yl_neq rfl rfl) rfl ?_
  refine JL.nil ?_
  refine JE.weak (env' := [(0, .slice a_0 q0.length c_0), (1, .slice a_1 q1.length c_1), (10, .bool ((q0.length : Int) != (q1.length : Int)))]) (es' := []) [] ?_ ⟨rfl, rfl, rfl, trivial⟩ (by decide) rfl
  refine JE.code ?_
  rcases cond_some hres with ⟨hb, hres⟩ | ⟨hb, hres⟩
  · refine JX.condT rfl hb ?_
    refine JX.seq ?_
    refine JX.region ?_
    refine JL.val (yl_assign rfl) rfl ?_
    refine JL.nil ?_
    refine JE.code ?_
    refine JX.ret ?_
    obtain rfl := Option.some.inj hres
    refine JE.ret (rs := [.tmp 4]) (vs := [.bool false]) rfl ⟨rfl, trivial⟩ ?_
    exact fun w' hb hs => ⟨_, _, ⟨rfl, rfl⟩, rfl, hb, hs.sel [] _ (by decide) rfl⟩
  · refine JX.condF rfl hb ?_
    refine JX.skip ?_
    refine JE.code ?_
    refine JX.seq ?_
    refine JX.seq ?_
    refine JX.region ?_
    refine JL.val (yl_assign rfl) rfl ?_
    refine JL.nil ?_
    refine JE.code ?_
    refine JX.block ?_
    obtain ⟨y1, hy1, hresO1⟩ := bind_some hres
    refine JX.loop (I := fun (s1 : Int) aa ww => St w [] 26 [(0, .slice a_0 q0.length c_0), (1, .slice a_1 q1.length c_1), (5, .int .i64 s1)] [] aa ww) (sh17_1 q0 q1) hy1 (fun a w h => h.weak ⟨rfl, rfl, rfl, trivial⟩ [] (by decide) rfl) ?_
    rintro x1 o1 hres hox1 aa ww hS
    refine (?_ : JX Go.Proofs.Try.prog w [] 26 _ _ [(0, .slice a_0 q0.length c_0), (1, .slice a_1 q1.length c_1), (5, .int .i64 x1)] [] _) aa ww hS
    clear hS
    unfold sh17_1 at hres
    refine JX.seq ?_
    refine JX.seq ?_
    refine JX.region ?_
    refine JL.val (yl_move rfl) rfl ?_
    refine JL.val (yl_move rfl) rfl ?_
    refine JL.val (yl_len_slice Go.Proofs.Try.underlying34 rfl) rfl ?_
    refine JL.val (yl_lss rfl rfl) rfl ?_
    refine JL.nil ?_
    refine JE.weak (env' := [(0, .slice a_0 q0.length c_0), (1, .slice a_1 q1.length c_1), (5, .int .i64 x1), (14, .bool (decide (x1 < (q0.length : Int))))]) (es' := []) [] ?_ ⟨rfl, rfl, rfl, rfl, trivial⟩ (by decide) rfl
    refine JE.code ?_
    rcases cond_some hres with ⟨hb, hres⟩ | ⟨hb, hres⟩
    · refine JX.condT rfl hb ?_
      refine JX.skip ?_
      refine JE.code ?_
      refine JX.seq ?_
      refine JX.block ?_
      refine JX.seq ?_
      refine JX.drawH [(0, .pure), (1, .pure), (2, .pure), (3, .read), (4, .pure), (5, .pure), (6, .pure), (7, .read), (8, .pure)] [] [] [] [] [] mixedP (by kernel_rfl) (by kernel_rfl) (by decide) rfl rfl ?_
      intro wrr2 Nr2 hFr2
      refine JH.pure rfl (yl_move rfl) rfl ?_
      refine JH.pure rfl (yl_move rfl) rfl ?_
      obtain ⟨x3, hx3, hres⟩ := bind_some hres
      refine JH.pure rfl (yl_idxQ Go.Proofs.Try.underlying34 i42 i42s rfl rfl hx3 rfl (rd_arg g_0 hFr2.cl) rfl) rfl ?_
      refine JH.read rfl (yl_loadTn Go.Proofs.Try.underlying42 rfl i42 i42s rfl hx3 (fun w hw => hFr2.arg g_0 hw)) rfl ?_
      refine JH.pure rfl (yl_move rfl) rfl ?_
      refine JH.pure rfl (yl_move rfl) rfl ?_
      obtain ⟨x4, hx4, hres⟩ := bind_some hres
      refine JH.pure rfl (yl_idxQ Go.Proofs.Try.underlying34 i42 i42s rfl rfl hx4 rfl (rd_arg g_1 hFr2.cl) rfl) rfl ?_
      refine JH.read rfl (yl_loadTn Go.Proofs.Try.underlying42 rfl i42 i42s rfl hx4 (fun w hw => hFr2.arg g_1 hw)) rfl ?_
      refine JH.pure rfl (yl_binop_of rfl rfl (fun w => eqs42_g _ _ _ _ _ w) (fun w => eqs42_neq x3.X x3.Y x4.X x4.Y w)) rfl ?_
      refine JH.nil ?_
      refine JE.weak (env' := [(0, .slice a_0 q0.length c_0), (1, .slice a_1 q1.length c_1), (5, .int .i64 x1), (25, .bool (!(((x3.X == x4.X) && ((x3.Y == x4.Y) && true)))))]) (es' := []) [] ?_ ⟨rfl, rfl, rfl, rfl, trivial⟩ (by decide) rfl
      refine JE.code ?_
      rcases cond_some hres with ⟨hb, hres⟩ | ⟨hb, hres⟩
      · refine JX.condT rfl hb ?_
        refine JX.seq ?_
        refine JX.region ?_
        refine JL.val (yl_assign rfl) rfl ?_
        refine JL.nil ?_
        refine JE.code ?_
        refine JX.ret ?_
        refine JE.qbr ?_
        refine JE.qbr ?_
        have hres := elimS_inr hresO1 (hox1 _ (Option.some.inj hres).symm)
        obtain rfl := Option.some.inj hres
        refine JE.ret (rs := [.tmp 4]) (vs := [.bool false]) rfl ⟨rfl, trivial⟩ ?_
        exact fun w' hb hs => ⟨_, _, ⟨rfl, rfl⟩, rfl, hb, hs.sel [] _ (by decide) rfl⟩
      · refine JX.condF rfl hb ?_
        refine JX.skip ?_
        refine JE.code ?_
        refine JX.region ?_
        refine JL.val (yl_move rfl) rfl ?_
        refine JL.val (yl_add rfl rfl) rfl ?_
        refine JL.val (yl_assign rfl) rfl ?_
        refine JL.nil ?_
        refine JE.cont hres ?_
        exact fun a w h => h.weak ⟨rfl, rfl, rfl, trivial⟩ [] (by decide) rfl
    · refine JX.condF rfl hb ?_
      refine JX.exit ?_
      refine JE.qb rfl ?_
      obtain ⟨b1, hb1⟩ : ∃ b : Unit, b = () := ⟨_, rfl⟩
      have hy1 : Sum.inl b1 = y1 := by rw [hb1]; exact hox1 _ (Option.some.inj hres).symm
      have hres := elimS_inl hresO1 hy1
      refine JE.weak (env' := []) (es' := []) [] ?_ trivial (by decide) (by subst hb1; rfl)
      refine JE.code ?_
      refine JX.seq ?_
      refine JX.region ?_
      refine JL.val (yl_assign rfl) rfl ?_
      refine JL.nil ?_
      refine JE.code ?_
      refine JX.ret ?_
      obtain rfl := Option.some.inj hres
      refine JE.ret (rs := [.tmp 4]) (vs := [.bool true]) rfl ⟨rfl, trivial⟩ ?_
      exact fun w' hb hs => ⟨_, _, ⟨rfl, rfl⟩, rfl, hb, hs.sel [] _ (by decide) rfl⟩

/- spec.l00From -/
def sh90 (q0 : List Int) : Option (Sl00Src) := some (Sl00Src.mk q0 0 0)
def T90 (a_0 : Option Addr) (n_0 c_0 : Nat) (r : Sl00Src) (v : Value) (rs : List Own) : Prop := ∃ (gr0 : Nat), v = rets [ptrAt (some ⟨gr0, 0, none⟩) 0] ∧ rs = [boxO 163 gr0 [.slice a_0 n_0 c_0, .int .i64 r.at_, .int .u64 r.seed]]
set_option maxRecDepth 100000 in
theorem c90 {w : World} {q0 : List Int} {a_0 : Option Addr} {n_0 c_0 : Nat} (g_0 : Rd w a_0 (eU8.fl q0)) (l_0 : q0.length = n_0) (k_0 : n_0 ≤ c_0) {r : Sl00Src} (hres : sh90 q0 = some r) : Calls Go.Proofs.Try.prog 90 [.slice a_0 n_0 c_0].toArray w (Ret w (T90 a_0 n_0 c_0 r)) := by
  subst l_0
  unfold sh90 at hres
  refine calls_of (n := 6) (M := []) (es := []) Go.Proofs.Try.func90 rfl rfl rfl (Sep.nil _ _ _) ?_
  refine JX.seq ?_
  refine JX.region ?_
  refine JL.val (yl_assign rfl) rfl ?_
  refine JL.nil ?_
  refine JE.code ?_
  refine JX.seq ?_
  refine JX.region ?_
  refine JL.val (yl_move rfl) rfl ?_
  refine JL.val (yl_build rfl (fun w => bld163_0 a_0 q0.length c_0 w)) rfl ?_
  refine JL.eff (ef_box rfl rfl) rfl ?_
  rintro _ _ ⟨g1, rfl, rfl⟩
  refine JL.val (yl_assign rfl) rfl ?_
  refine JL.nil ?_
  refine JE.weak (env' := [(2, ptrAt (some ⟨g1, 0, none⟩) 0)]) (es' := [boxO 163 g1 [.slice a_0 q0.length c_0, .int .i64 0, .int .u64 0]]) [0] ?_ ⟨rfl, trivial⟩ (by decide) rfl
  refine JE.code ?_
  refine JX.ret ?_
  obtain rfl := Option.some.inj hres
  refine JE.ret (rs := [.tmp 2]) (vs := [ptrAt (some ⟨g1, 0, none⟩) 0]) rfl ⟨rfl, trivial⟩ ?_
  exact fun w' hb hs => ⟨_, _, ⟨g1, rfl, rfl⟩, rfl, hb, hs.sel [0] _ (by decide) rfl⟩

/- (*spec.l00Src).next -/
def sh173 (q0 : Sl00Src) : Option (Int × Int × Int) := Option.bind (bif decide (q0.at_ < (q0.code.length : Int)) then (Option.bind (getI q0.code q0.at_) fun x5 => some (w64 (x5))) else (some 0)) fun j2 => (bif decide ((w64 (q0.at_ + 1)) ≤ (q0.code.length : Int)) then (some (j2, w64 (q0.at_ + 1), IntKind.u64.wrap ((IntKind.u64.wrap ((IntKind.u64.wrap (q0.seed * 6364136223846793005)) + (IntKind.u64.wrap (j2)))) + 1442695040888963407))) else (some (w64 (andI .u64 ((IntKind.u64.wrap ((IntKind.u64.wrap ((IntKind.u64.wrap (q0.seed * 6364136223846793005)) + (IntKind.u64.wrap (j2)))) + 1442695040888963407)) / 2 ^ 40) 255), w64 (q0.at_ + 1), IntKind.u64.wrap ((IntKind.u64.wrap ((IntKind.u64.wrap (q0.seed * 6364136223846793005)) + (IntKind.u64.wrap (j2)))) + 1442695040888963407))))
def T173 (gb_0 : Nat) (a_0_0 : Option Addr) (n_0_0 c_0_0 : Nat) (r : Int × Int × Int) (v : Value) (es' rs : List Own) : Prop := es' = [boxO 163 gb_0 [.slice a_0_0 n_0_0 c_0_0, .int .i64 r.2.1, .int .u64 r.2.2]] ∧ v = rets [.int .i64 r.1] ∧ rs = []
set_option maxRecDepth 100000 in
theorem c173 {w : World} {M : List Nat} {q0 : Sl00Src} {gb_0 : Nat} {a_0_0 : Option Addr} {n_0_0 c_0_0 : Nat} (g_0_0 : RdS M w a_0_0 (eU8.fl q0.code)) (l_0_0 : q0.code.length = n_0_0) (k_0_0 : n_0_0 ≤ c_0_0) (gs : Sep w.heap.size M w [boxO 163 gb_0 [.slice a_0_0 n_0_0 c_0_0, .int .i64 q0.at_, .int .u64 q0.seed]]) {r : Int × Int × Int} (hres : sh173 q0 = some r) : Calls Go.Proofs.Try.prog 173 [ptrAt (some ⟨gb_0, 0, none⟩) 0].toArray w (RetMs w M (T173 gb_0 a_0_0 n_0_0 c_0_0 r)) := by
  subst l_0_0
  unfold sh173 at hres
  refine calls_of (n := 62) (M := M) (es := [boxO 163 gb_0 [.slice a_0_0 q0.code.length c_0_0, .int .i64 q0.at_, .int .u64 q0.seed]]) Go.Proofs.Try.func173 rfl rfl rfl gs ?_
  refine JX.seq ?_
  refine JX.region ?_
  refine JL.val (yl_assign rfl) rfl ?_
  refine JL.nil ?_
  refine JE.code ?_
  refine JX.seq ?_
  refine JX.region ?_
  refine JL.val (yl_assign rfl) rfl ?_
  refine JL.nil ?_
  refine JE.code ?_
  refine JX.seq ?_
  refine JX.seq ?_
  refine JX.drawH [(0, .pure), (1, .pure), (2, .pure), (3, .read), (4, .pure), (5, .pure), (6, .pure), (7, .read), (8, .pure), (9, .pure)] [] [] [0] [] [boxO 163 gb_0 [.slice a_0_0 q0.code.length c_0_0, .int .i64 q0.at_, .int .u64 q0.seed]] mixedP (by kernel_rfl) (by kernel_rfl) (by decide) rfl rfl ?_
  intro wrr1 Nr1 hFr1
  refine JH.pure rfl (yl_move rfl) rfl ?_
  refine JH.pure rfl (yl_nilCheckAt (a := some _) rfl rfl) rfl ?_
  refine JH.pure rfl (yl_fieldAt (a := some _) Go.Proofs.Try.underlying163 rfl i3 i3n rfl rfl) rfl ?_
  refine JH.read rfl (yl_load1 Go.Proofs.Try.underlying3 rfl rfl (fun w hw => hFr1.box 0 rfl rfl hw) rfl) rfl ?_
  refine JH.pure rfl (yl_move rfl) rfl ?_
  refine JH.pure rfl (yl_nilCheckAt (a := some _) rfl rfl) rfl ?_
  refine JH.pure rfl (yl_fieldAt (a := some _) Go.Proofs.Try.underlying163 rfl i22 i22n rfl rfl) rfl ?_
  refine JH.read rfl (yl_load1 Go.Proofs.Try.underlying22 rfl rfl (fun w hw => hFr1.box 0 rfl rfl hw) rfl) rfl ?_
  refine JH.pure rfl (yl_len_slice Go.Proofs.Try.underlying22 rfl) rfl ?_
  refine JH.pure rfl (yl_lss rfl rfl) rfl ?_
  refine JH.nil ?_
  refine JE.weak (env' := [(0, ptrAt (some ⟨gb_0, 0, none⟩) 0), (3, .int .i64 0), (13, .bool (decide (q0.at_ < (q0.code.length : Int))))]) (es' := [boxO 163 gb_0 [.slice a_0_0 q0.code.length c_0_0, .int .i64 q0.at_, .int .u64 q0.seed]]) [0] ?_ ⟨rfl, rfl, rfl, trivial⟩ (by decide) rfl
  refine JE.code ?_
  obtain ⟨j2, hj2, hresj2⟩ := bind_some hres
  refine JX.cut (K := fun J => J [(0, ptrAt (some ⟨gb_0, 0, none⟩) 0), (3, .int .i64 j2)] [boxO 163 gb_0 [.slice a_0_0 q0.code.length c_0_0, .int .i64 q0.at_, .int .u64 q0.seed]]) ?_ ?_
  · have hres := hresj2
    refine JE.code ?_
    refine JX.seq ?_
    refine JX.region ?_
    refine JL.val (yl_move rfl) rfl ?_
    refine JL.val (yl_nilCheckAt (a := some _) rfl rfl) rfl ?_
    refine JL.val (yl_fieldAt (a := some _) Go.Proofs.Try.underlying163 rfl i3 i3n rfl rfl) rfl ?_
    refine JL.val (yl_load1 Go.Proofs.Try.underlying3 rfl rfl (fun w hC => rd_box hC 0 rfl) rfl) rfl ?_
    refine JL.val (yl_add rfl rfl) rfl ?_
    refine JL.val (yl_nilCheckAt (a := some _) rfl rfl) rfl ?_
    refine JL.val (yl_fieldAt (a := some _) Go.Proofs.Try.underlying163 rfl i3 i3n rfl rfl) rfl ?_
    refine JL.eff (ef_store_box (i := 0) (v := .int .i64 (w64 (q0.at_ + 1))) i3 rfl rfl rfl (i3s).symm (Nat.le_of_ble_eq_true rfl) (by simp [Value.cells, Value.oneCell'])) rfl ?_
    rintro _ _ rfl
    refine JL.nil ?_
    refine JE.weak (env' := [(0, ptrAt (some ⟨gb_0, 0, none⟩) 0), (3, .int .i64 j2)]) (es' := [boxO 163 gb_0 [.slice a_0_0 q0.code.length c_0_0, .int .i64 (w64 (q0.at_ + 1)), .int .u64 q0.seed]]) [0] ?_ ⟨rfl, rfl, trivial⟩ (by decide) rfl
    refine JE.code ?_
    refine JX.seq ?_
    refine JX.region ?_
    refine JL.val (yl_move rfl) rfl ?_
    refine JL.val (yl_move rfl) rfl ?_
    refine JL.val (yl_nilCheckAt (a := some _) rfl rfl) rfl ?_
    refine JL.val (yl_fieldAt (a := some _) Go.Proofs.Try.underlying163 rfl i161 i161n rfl rfl) rfl ?_
    refine JL.val (yl_load1 Go.Proofs.Try.underlying161 rfl rfl (fun w hC => rd_box hC 0 rfl) rfl) rfl ?_
    refine JL.val (yl_mul rfl rfl) rfl ?_
    refine JL.val (yl_move rfl) rfl ?_
    refine JL.val (yl_conv Go.Proofs.Try.underlying3 Go.Proofs.Try.underlying161 rfl) rfl ?_
    refine JL.val (yl_add rfl rfl) rfl ?_
    refine JL.val (yl_add rfl rfl) rfl ?_
    refine JL.val (yl_nilCheckAt (a := some _) rfl rfl) rfl ?_
    refine JL.val (yl_fieldAt (a := some _) Go.Proofs.Try.underlying163 rfl i161 i161n rfl rfl) rfl ?_
    refine JL.eff (ef_store_box (i := 0) (v := .int .u64 (IntKind.u64.wrap ((IntKind.u64.wrap ((IntKind.u64.wrap (q0.seed * 6364136223846793005)) + (IntKind.u64.wrap (j2)))) + 1442695040888963407))) i161 rfl rfl rfl (i161s).symm (Nat.le_of_ble_eq_true rfl) (by simp [Value.cells, Value.oneCell'])) rfl ?_
    rintro _ _ rfl
    refine JL.nil ?_
    refine JE.weak (env' := [(0, ptrAt (some ⟨gb_0, 0, none⟩) 0), (3, .int .i64 j2)]) (es' := [boxO 163 gb_0 [.slice a_0_0 q0.code.length c_0_0, .int .i64 (w64 (q0.at_ + 1)), .int .u64 (IntKind.u64.wrap ((IntKind.u64.wrap ((IntKind.u64.wrap (q0.seed * 6364136223846793005)) + (IntKind.u64.wrap (j2)))) + 1442695040888963407))]]) [0] ?_ ⟨rfl, rfl, trivial⟩ (by decide) rfl
    refine JE.code ?_
    refine JX.seq ?_
    refine JX.seq ?_
    refine JX.drawH [(0, .pure), (1, .pure), (2, .pure), (3, .read), (4, .pure), (5, .pure), (6, .pure), (7, .read), (8, .pure), (9, .pure)] [] [] [0] [] [boxO 163 gb_0 [.slice a_0_0 q0.code.length c_0_0, .int .i64 (w64 (q0.at_ + 1)), .int .u64 (IntKind.u64.wrap ((IntKind.u64.wrap ((IntKind.u64.wrap (q0.seed * 6364136223846793005)) + (IntKind.u64.wrap (j2)))) + 1442695040888963407))]] mixedP (by kernel_rfl) (by kernel_rfl) (by decide) rfl rfl ?_
    intro wrr3 Nr3 hFr3
    refine JH.pure rfl (yl_move rfl) rfl ?_
    refine JH.pure rfl (yl_nilCheckAt (a := some _) rfl rfl) rfl ?_
    refine JH.pure rfl (yl_fieldAt (a := some _) Go.Proofs.Try.underlying163 rfl i3 i3n rfl rfl) rfl ?_
    refine JH.read rfl (yl_load1 Go.Proofs.Try.underlying3 rfl rfl (fun w hw => hFr3.box 0 rfl rfl hw) rfl) rfl ?_
    refine JH.pure rfl (yl_move rfl) rfl ?_
    refine JH.pure rfl (yl_nilCheckAt (a := some _) rfl rfl) rfl ?_
    refine JH.pure rfl (yl_fieldAt (a := some _) Go.Proofs.Try.underlying163 rfl i22 i22n rfl rfl) rfl ?_
    refine JH.read rfl (yl_load1 Go.Proofs.Try.underlying22 rfl rfl (fun w hw => hFr3.box 0 rfl rfl hw) rfl) rfl ?_
    refine JH.pure rfl (yl_len_slice Go.Proofs.Try.underlying22 rfl) rfl ?_
    refine JH.pure rfl (yl_leq rfl rfl) rfl ?_
    refine JH.nil ?_
    refine JE.weak (env' := [(0, ptrAt (some ⟨gb_0, 0, none⟩) 0), (3, .int .i64 j2), (53, .bool (decide ((w64 (q0.at_ + 1)) ≤ (q0.code.length : Int))))]) (es' := [boxO 163 gb_0 [.slice a_0_0 q0.code.length c_0_0, .int .i64 (w64 (q0.at_ + 1)), .int .u64 (IntKind.u64.wrap ((IntKind.u64.wrap ((IntKind.u64.wrap (q0.seed * 6364136223846793005)) + (IntKind.u64.wrap (j2)))) + 1442695040888963407))]]) [0] ?_ ⟨rfl, rfl, rfl, trivial⟩ (by decide) rfl
    refine JE.code ?_
    rcases cond_some hres with ⟨hb, hres⟩ | ⟨hb, hres⟩
    · refine JX.condT rfl hb ?_
      refine JX.seq ?_
      refine JX.region ?_
      refine JL.val (yl_move rfl) rfl ?_
      refine JL.val (yl_assign rfl) rfl ?_
      refine JL.nil ?_
      refine JE.code ?_
      refine JX.ret ?_
      obtain rfl := Option.some.inj hres
      refine JE.ret (rs := [.tmp 2]) (vs := [.int .i64 j2]) rfl ⟨rfl, trivial⟩ ?_
      exact fun w' hb hs => ⟨_, _, _, ⟨rfl, rfl, rfl⟩, rfl, hb, hs.sel [0] _ (by decide) rfl⟩
    · refine JX.condF rfl hb ?_
      refine JX.skip ?_
      refine JE.code ?_
      refine JX.seq ?_
      refine JX.region ?_
      refine JL.val (yl_move rfl) rfl ?_
      refine JL.val (yl_nilCheckAt (a := some _) rfl rfl) rfl ?_
      refine JL.val (yl_fieldAt (a := some _) Go.Proofs.Try.underlying163 rfl i161 i161n rfl rfl) rfl ?_
      refine JL.val (yl_load1 Go.Proofs.Try.underlying161 rfl rfl (fun w hC => rd_box hC 0 rfl) rfl) rfl ?_
      refine JL.val (yl_shr rfl rfl (by decide) (by decide)) rfl ?_
      refine JL.val (yl_and rfl rfl) rfl ?_
      refine JL.val (yl_conv Go.Proofs.Try.underlying161 Go.Proofs.Try.underlying2 rfl) rfl ?_
      refine JL.val (yl_assign rfl) rfl ?_
      refine JL.nil ?_
      refine JE.weak (env' := [(2, .int .i64 (w64 (andI .u64 ((IntKind.u64.wrap ((IntKind.u64.wrap ((IntKind.u64.wrap (q0.seed * 6364136223846793005)) + (IntKind.u64.wrap (j2)))) + 1442695040888963407)) / 2 ^ 40) 255)))]) (es' := [boxO 163 gb_0 [.slice a_0_0 q0.code.length c_0_0, .int .i64 (w64 (q0.at_ + 1)), .int .u64 (IntKind.u64.wrap ((IntKind.u64.wrap ((IntKind.u64.wrap (q0.seed * 6364136223846793005)) + (IntKind.u64.wrap (j2)))) + 1442695040888963407))]]) [0] ?_ ⟨rfl, trivial⟩ (by decide) rfl
      refine JE.code ?_
      refine JX.ret ?_
      obtain rfl := Option.some.inj hres
      refine JE.ret (rs := [.tmp 2]) (vs := [.int .i64 (w64 (andI .u64 ((IntKind.u64.wrap ((IntKind.u64.wrap ((IntKind.u64.wrap (q0.seed * 6364136223846793005)) + (IntKind.u64.wrap (j2)))) + 1442695040888963407)) / 2 ^ 40) 255))]) rfl ⟨rfl, trivial⟩ ?_
      exact fun w' hb hs => ⟨_, _, _, ⟨rfl, rfl, rfl⟩, rfl, hb, hs.sel [0] _ (by decide) rfl⟩
  · intro K
    rcases cond_some hj2 with ⟨hb, hres⟩ | ⟨hb, hres⟩
    · refine JX.condT rfl hb ?_
      refine JX.drawH [(0, .pure), (1, .pure), (2, .pure), (3, .read), (4, .pure), (5, .pure), (6, .pure), (7, .read), (8, .pure), (9, .read), (10, .pure), (11, .pure)] [] [] [0] [] [boxO 163 gb_0 [.slice a_0_0 q0.code.length c_0_0, .int .i64 q0.at_, .int .u64 q0.seed]] mixedP (by kernel_rfl) (by kernel_rfl) (by decide) rfl rfl ?_
      intro wrr4 Nr4 hFr4
      refine JH.pure rfl (yl_move rfl) rfl ?_
      refine JH.pure rfl (yl_nilCheckAt (a := some _) rfl rfl) rfl ?_
      refine JH.pure rfl (yl_fieldAt (a := some _) Go.Proofs.Try.underlying163 rfl i22 i22n rfl rfl) rfl ?_
      refine JH.read rfl (yl_load1 Go.Proofs.Try.underlying22 rfl rfl (fun w hw => hFr4.box 0 rfl rfl hw) rfl) rfl ?_
      refine JH.pure rfl (yl_move rfl) rfl ?_
      refine JH.pure rfl (yl_nilCheckAt (a := some _) rfl rfl) rfl ?_
      refine JH.pure rfl (yl_fieldAt (a := some _) Go.Proofs.Try.underlying163 rfl i3 i3n rfl rfl) rfl ?_
      refine JH.read rfl (yl_load1 Go.Proofs.Try.underlying3 rfl rfl (fun w hw => hFr4.box 0 rfl rfl hw) rfl) rfl ?_
      obtain ⟨x5, hx5, hres⟩ := bind_some hres
      refine JH.pure rfl (yl_idxQ Go.Proofs.Try.underlying22 i5 i5s rfl rfl hx5 rfl (rd_argS g_0_0 hFr4.cl) rfl) rfl ?_
      refine JH.read rfl (yl_loadT0 Go.Proofs.Try.underlying5 rfl rfl hx5 (fun w hw => hFr4.argS g_0_0 hw) rfl) rfl ?_
      refine JH.pure rfl (yl_conv Go.Proofs.Try.underlying5 Go.Proofs.Try.underlying3 rfl) rfl ?_
      refine JH.pure rfl (yl_assign rfl) rfl ?_
      refine JH.nil ?_
      refine JE.weak (env' := [(0, ptrAt (some ⟨gb_0, 0, none⟩) 0), (3, .int .i64 (w64 (x5)))]) (es' := [boxO 163 gb_0 [.slice a_0_0 q0.code.length c_0_0, .int .i64 q0.at_, .int .u64 q0.seed]]) [0] ?_ ⟨rfl, rfl, trivial⟩ (by decide) rfl
      have hj := Option.some.inj hres
      exact JE.weak [0] (K) ⟨(by subst hj; rfl), (by subst hj; rfl), trivial⟩ (by decide) (by subst hj; rfl)
    · refine JX.condF rfl hb ?_
      refine JX.skip ?_
      have hj := Option.some.inj hres
      exact JE.weak [0] (K) ⟨(by subst hj; rfl), (by subst hj; rfl), trivial⟩ (by decide) (by subst hj; rfl)

/- (*spec.l00Src).pick -/
def sh92 (q0 : Sl00Src) (q1 : Int) : Option (Int × Int × Int) := bif decide (q1 ≤ 1) then (some (0, q0.at_, q0.seed)) else (Option.bind (sh173 q0) fun x1 => Option.bind (bif decide (200 < q1) then (Option.bind (sh173 (Sl00Src.mk q0.code x1.2.1 x1.2.2)) fun x4 => some (w64 ((w64 (x1.1 * 256)) + x4.1), (x4.2.1, x4.2.2))) else (some (x1.1, (x1.2.1, x1.2.2)))) fun j2 => (Option.bind (nzI q1) fun x3 => some (j2.1.tmod q1, j2.2.1, j2.2.2)))
def T92 (gb_0 : Nat) (a_0_0 : Option Addr) (n_0_0 c_0_0 : Nat) (r : Int × Int × Int) (v : Value) (es' rs : List Own) : Prop := es' = [boxO 163 gb_0 [.slice a_0_0 n_0_0 c_0_0, .int .i64 r.2.1, .int .u64 r.2.2]] ∧ v = rets [.int .i64 r.1] ∧ rs = []
set_option maxRecDepth 100000 in
theorem c92 {w : World} {M : List Nat} {q0 : Sl00Src} {gb_0 : Nat} {a_0_0 : Option Addr} {n_0_0 c_0_0 : Nat} (g_0_0 : RdS M w a_0_0 (eU8.fl q0.code)) (l_0_0 : q0.code.length = n_0_0) (k_0_0 : n_0_0 ≤ c_0_0) {q1 : Int} (gs : Sep w.heap.size M w [boxO 163 gb_0 [.slice a_0_0 n_0_0 c_0_0, .int .i64 q0.at_, .int .u64 q0.seed]]) {r : Int × Int × Int} (hres : sh92 q0 q1 = some r) : Calls Go.Proofs.Try.prog 92 [ptrAt (some ⟨gb_0, 0, none⟩) 0, .int .i64 q1].toArray w (RetMs w M (T92 gb_0 a_0_0 n_0_0 c_0_0 r)) := by
  subst l_0_0
  unfold sh92 at hres
  refine calls_of (n := 20) (M := M) (es := [boxO 163 gb_0 [.slice a_0_0 q0.code.length c_0_0, .int .i64 q0.at_, .int .u64 q0.seed]]) Go.Proofs.Try.func92 rfl rfl rfl gs ?_
  refine JX.seq ?_
  refine JX.region ?_
  refine JL.val (yl_assign rfl) rfl ?_
  refine JL.nil ?_
  refine JE.code ?_
  refine JX.seq ?_
  refine JX.seq ?_
  refine JX.region ?_
  refine JL.val (yl_move rfl) rfl ?_
  refine JL.val (yl_leq rfl rfl) rfl ?_
  refine JL.nil ?_
  refine JE.code ?_
  rcases cond_some hres with ⟨hb, hres⟩ | ⟨hb, hres⟩
  · refine JX.condT rfl hb ?_
    refine JX.seq ?_
    refine JX.region ?_
    refine JL.val (yl_assign rfl) rfl ?_
    refine JL.nil ?_
    refine JE.code ?_
    refine JX.ret ?_
    obtain rfl := Option.some.inj hres
    refine JE.ret (rs := [.tmp 4]) (vs := [.int .i64 0]) rfl ⟨rfl, trivial⟩ ?_
    exact fun w' hb hs => ⟨_, _, _, ⟨rfl, rfl, rfl⟩, rfl, hb, hs.sel [0] _ (by decide) rfl⟩
  · refine JX.condF rfl hb ?_
    refine JX.skip ?_
    refine JE.code ?_
    refine JX.seq ?_
    refine JX.region ?_
    refine JL.val (yl_move rfl) rfl ?_
    obtain ⟨x1, hx1, hres⟩ := bind_some hres
    refine JL.eff (ef_callms (caps := []) (vs := [ptrAt (some ⟨gb_0, 0, none⟩) 0]) (T := T173 gb_0 a_0_0 q0.code.length c_0_0 x1) [0] [] [boxO 163 gb_0 [.slice a_0_0 q0.code.length c_0_0, .int .i64 q0.at_, .int .u64 q0.seed]] [] rfl Go.Proofs.Try.func173 rfl (by kernel_rfl) rfl (by decide) rfl rfl (fun w N hF hS => c173 (q0 := q0) (RdS.pass hF g_0_0) rfl k_0_0 hS hx1)) rfl ?_
    rintro _ _ ⟨_, _, ⟨rfl, rfl, rfl⟩, rfl⟩
    refine JL.val (yl_assign rfl) rfl ?_
    refine JL.nil ?_
    refine JE.code ?_
    refine JX.seq ?_
    refine JX.seq ?_
    refine JX.region ?_
    refine JL.val (yl_move rfl) rfl ?_
    refine JL.val (yl_gtr rfl rfl) rfl ?_
    refine JL.nil ?_
    refine JE.code ?_
    obtain ⟨j2, hj2, hresj2⟩ := bind_some hres
    refine JX.cut (K := fun J => J [(1, .int .i64 q1), (5, .int .i64 j2.1)] [boxO 163 gb_0 [.slice a_0_0 q0.code.length c_0_0, .int .i64 j2.2.1, .int .u64 j2.2.2]]) ?_ ?_
    · have hres := hresj2
      refine JE.code ?_
      refine JX.seq ?_
      refine JX.region ?_
      refine JL.val (yl_move rfl) rfl ?_
      refine JL.val (yl_move rfl) rfl ?_
      obtain ⟨x3, hx3, hres⟩ := bind_some hres
      refine JL.val (yl_rem rfl rfl (nzI_some hx3)) rfl ?_
      refine JL.val (yl_assign rfl) rfl ?_
      refine JL.nil ?_
      refine JE.weak (env' := [(4, .int .i64 (j2.1.tmod q1))]) (es' := [boxO 163 gb_0 [.slice a_0_0 q0.code.length c_0_0, .int .i64 j2.2.1, .int .u64 j2.2.2]]) [0] ?_ ⟨rfl, trivial⟩ (by decide) rfl
      refine JE.code ?_
      refine JX.ret ?_
      obtain rfl := Option.some.inj hres
      refine JE.ret (rs := [.tmp 4]) (vs := [.int .i64 (j2.1.tmod q1)]) rfl ⟨rfl, trivial⟩ ?_
      exact fun w' hb hs => ⟨_, _, _, ⟨rfl, rfl, rfl⟩, rfl, hb, hs.sel [0] _ (by decide) rfl⟩
    · intro K
      rcases cond_some hj2 with ⟨hb, hres⟩ | ⟨hb, hres⟩
      · refine JX.condT rfl hb ?_
        refine JX.region ?_
        refine JL.val (yl_move rfl) rfl ?_
        refine JL.val (yl_mul rfl rfl) rfl ?_
        refine JL.val (yl_move rfl) rfl ?_
        obtain ⟨x4, hx4, hres⟩ := bind_some hres
        refine JL.eff (ef_callms (caps := []) (vs := [ptrAt (some ⟨gb_0, 0, none⟩) 0]) (T := T173 gb_0 a_0_0 q0.code.length c_0_0 x4) [0] [] [boxO 163 gb_0 [.slice a_0_0 q0.code.length c_0_0, .int .i64 x1.2.1, .int .u64 x1.2.2]] [] rfl Go.Proofs.Try.func173 rfl (by kernel_rfl) rfl (by decide) rfl rfl (fun w N hF hS => c173 (q0 := Sl00Src.mk q0.code x1.2.1 x1.2.2) (RdS.pass hF g_0_0) rfl k_0_0 hS hx4)) rfl ?_
        rintro _ _ ⟨_, _, ⟨rfl, rfl, rfl⟩, rfl⟩
        refine JL.val (yl_add rfl rfl) rfl ?_
        refine JL.val (yl_assign rfl) rfl ?_
        refine JL.nil ?_
        refine JE.weak (env' := [(1, .int .i64 q1), (5, .int .i64 (w64 ((w64 (x1.1 * 256)) + x4.1)))]) (es' := [boxO 163 gb_0 [.slice a_0_0 q0.code.length c_0_0, .int .i64 x4.2.1, .int .u64 x4.2.2]]) [0] ?_ ⟨rfl, rfl, trivial⟩ (by decide) rfl
        have hj := Option.some.inj hres
        exact JE.weak [0] (K) ⟨(by subst hj; rfl), (by subst hj; rfl), trivial⟩ (by decide) (by subst hj; rfl)
      · refine JX.condF rfl hb ?_
        refine JX.skip ?_
        have hj := Option.some.inj hres
        exact JE.weak [0] (K) ⟨(by subst hj; rfl), (by subst hj; rfl), trivial⟩ (by decide) (by subst hj; rfl)

/- (*spec.l00Src).among -/
def sh94 (q0 : Sl00Src) (q1 : List Int) : Option (Int × Int × Int) := Option.bind (sh92 q0 (q1.length : Int)) fun x1 => Option.bind (getI q1 x1.1) fun x2 => some (x2, x1.2.1, x1.2.2)
def T94 (gb_0 : Nat) (a_0_0 : Option Addr) (n_0_0 c_0_0 : Nat) (r : Int × Int × Int) (v : Value) (es' rs : List Own) : Prop := es' = [boxO 163 gb_0 [.slice a_0_0 n_0_0 c_0_0, .int .i64 r.2.1, .int .u64 r.2.2]] ∧ v = rets [.int .i64 r.1] ∧ rs = []
set_option maxRecDepth 100000 in
theorem c94 {w : World} {M : List Nat} {q0 : Sl00Src} {gb_0 : Nat} {a_0_0 : Option Addr} {n_0_0 c_0_0 : Nat} (g_0_0 : RdS M w a_0_0 (eU8.fl q0.code)) (l_0_0 : q0.code.length = n_0_0) (k_0_0 : n_0_0 ≤ c_0_0) {q1 : List Int} {a_1 : Option Addr} {n_1 c_1 : Nat} (g_1 : RdS M w a_1 (eI64.fl q1)) (l_1 : q1.length = n_1) (k_1 : n_1 ≤ c_1) (gs : Sep w.heap.size M w [boxO 163 gb_0 [.slice a_0_0 n_0_0 c_0_0, .int .i64 q0.at_, .int .u64 q0.seed]]) {r : Int × Int × Int} (hres : sh94 q0 q1 = some r) : Calls Go.Proofs.Try.prog 94 [ptrAt (some ⟨gb_0, 0, none⟩) 0, .slice a_1 n_1 c_1].toArray w (RetMs w M (T94 gb_0 a_0_0 n_0_0 c_0_0 r)) := by
  subst l_0_0
  subst l_1
  unfold sh94 at hres
  refine calls_of (n := 12) (M := M) (es := [boxO 163 gb_0 [.slice a_0_0 q0.code.length c_0_0, .int .i64 q0.at_, .int .u64 q0.seed]]) Go.Proofs.Try.func94 rfl rfl rfl gs ?_
  refine JX.seq ?_
  refine JX.region ?_
  refine JL.val (yl_assign rfl) rfl ?_
  refine JL.nil ?_
  refine JE.code ?_
  refine JX.seq ?_
  refine JX.region ?_
  refine JL.val (yl_move rfl) rfl ?_
  refine JL.val (yl_move rfl) rfl ?_
  refine JL.val (yl_move rfl) rfl ?_
  refine JL.val (yl_len_slice Go.Proofs.Try.underlying24 rfl) rfl ?_
  obtain ⟨x1, hx1, hres⟩ := bind_some hres
  refine JL.eff (ef_callms (caps := []) (vs := [ptrAt (some ⟨gb_0, 0, none⟩) 0, .int .i64 (q1.length : Int)]) (T := T92 gb_0 a_0_0 q0.code.length c_0_0 x1) [0] [] [boxO 163 gb_0 [.slice a_0_0 q0.code.length c_0_0, .int .i64 q0.at_, .int .u64 q0.seed]] [] rfl Go.Proofs.Try.func92 rfl (by kernel_rfl) rfl (by decide) rfl rfl (fun w N hF hS => c92 (q0 := q0) (RdS.pass hF g_0_0) rfl k_0_0 hS hx1)) rfl ?_
  rintro _ _ ⟨_, _, ⟨rfl, rfl, rfl⟩, rfl⟩
  obtain ⟨x2, hx2, hres⟩ := bind_some hres
  refine JL.val (yl_idxT Go.Proofs.Try.underlying24 i2 i2s rfl rfl hx2 rfl (fun w hC => rd_argS g_1 hC)) rfl ?_
  refine JL.val (yl_loadT0 Go.Proofs.Try.underlying2 rfl rfl hx2 (fun w hC => rd_argS g_1 hC) rfl) rfl ?_
  refine JL.val (yl_assign rfl) rfl ?_
  refine JL.nil ?_
  refine JE.weak (env' := [(4, .int .i64 x2)]) (es' := [boxO 163 gb_0 [.slice a_0_0 q0.code.length c_0_0, .int .i64 x1.2.1, .int .u64 x1.2.2]]) [0] ?_ ⟨rfl, trivial⟩ (by decide) rfl
  refine JE.code ?_
  refine JX.ret ?_
  obtain rfl := Option.some.inj hres
  refine JE.ret (rs := [.tmp 4]) (vs := [.int .i64 x2]) rfl ⟨rfl, trivial⟩ ?_
  exact fun w' hb hs => ⟨_, _, _, ⟨rfl, rfl, rfl⟩, rfl, hb, hs.sel [0] _ (by decide) rfl⟩

/- spec.l00Max -/
def sh182 (q0 : Int) (q1 : Int) : Option (Int) := bif decide (q1 < q0) then (some q0) else (some q1)
def T182 (r : Int) (v : Value) (rs : List Own) : Prop := v = rets [.int .i64 r] ∧ rs = []
set_option maxRecDepth 100000 in
theorem c182 {w : World} {q0 : Int} {q1 : Int} {r : Int} (hres : sh182 q0 q1 = some r) : Calls Go.Proofs.Try.prog 182 [.int .i64 q0, .int .i64 q1].toArray w (Ret w (T182 r)) := by
  unfold sh182 at hres
  refine calls_of (n := 10) (M := []) (es := []) Go.Proofs.Try.func182 rfl rfl rfl (Sep.nil _ _ _) ?_
  refine JX.seq ?_
  refine JX.region ?_
  refine JL.val (yl_assign rfl) rfl ?_
  refine JL.nil ?_
  refine JE.code ?_
  refine JX.seq ?_
  refine JX.seq ?_
  refine JX.region ?_
  refine JL.val (yl_move rfl) rfl ?_
  refine JL.val (yl_move rfl) rfl ?_
  refine JL.val (yl_gtr rfl rfl) rfl ?_
  refine JL.nil ?_
  refine JE.code ?_
  rcases cond_some hres with ⟨hb, hres⟩ | ⟨hb, hres⟩
  · refine JX.condT rfl hb ?_
    refine JX.seq ?_
    refine JX.region ?_
    refine JL.val (yl_move rfl) rfl ?_
    refine JL.val (yl_assign rfl) rfl ?_
    refine JL.nil ?_
    refine JE.code ?_
    refine JX.ret ?_
    obtain rfl := Option.some.inj hres
    refine JE.ret (rs := [.tmp 4]) (vs := [.int .i64 q0]) rfl ⟨rfl, trivial⟩ ?_
    exact fun w' hb hs => ⟨_, _, ⟨rfl, rfl⟩, rfl, hb, hs.sel [] _ (by decide) rfl⟩
  · refine JX.condF rfl hb ?_
    refine JX.skip ?_
    refine JE.code ?_
    refine JX.seq ?_
    refine JX.region ?_
    refine JL.val (yl_move rfl) rfl ?_
    refine JL.val (yl_assign rfl) rfl ?_
    refine JL.nil ?_
    refine JE.code ?_
    refine JX.ret ?_
    obtain rfl := Option.some.inj hres
    refine JE.ret (rs := [.tmp 4]) (vs := [.int .i64 q1]) rfl ⟨rfl, trivial⟩ ?_
    exact fun w' hb hs => ⟨_, _, ⟨rfl, rfl⟩, rfl, hb, hs.sel [] _ (by decide) rfl⟩

/- spec.l19Draw -/
def sh169_1 (j6 : Int × Int × (Int × Int)) : (Int × Int × Int × List SPoint) → Option ((Int × Int × Int × List SPoint) ⊕ (List SPoint))
  | (x12, x13, x14, x15) => bif decide (0 < x14) then (Option.bind (sh182 0 x12) fun x18 => Option.bind (sh182 0 x13) fun x19 => Option.bind (appL x15 [SPoint.mk x18 x19]) fun x22 => some (.inl (w64 (x12 + j6.1), w64 (x13 + j6.2.1), w64 (x14 - 1), x22))) else (some (.inr x15))
def sh169 (q0 : Sl00Src) : Option (List SPoint × Int × Int) := Option.bind (sh92 q0 120) fun x1 => Option.bind (sh92 (Sl00Src.mk q0.code x1.2.1 x1.2.2) 120) fun x2 => Option.bind (sh92 (Sl00Src.mk q0.code x2.2.1 x2.2.2) 9) fun x3 => Option.bind (sh92 (Sl00Src.mk q0.code x3.2.1 x3.2.2) 9) fun x4 => Option.bind (sh92 (Sl00Src.mk q0.code x4.2.1 x4.2.2) 3) fun x5 => Option.bind (bif x5.1 == 0 then (Option.bind (sh92 (Sl00Src.mk q0.code x5.2.1 x5.2.2) 2) fun x27 => some (x27.1, w64 (x4.1 - 2), (x27.2.1, x27.2.2))) else (Option.bind (bif x5.1 == 1 then (Option.bind (sh92 (Sl00Src.mk q0.code x5.2.1 x5.2.2) 2) fun x29 => some (x29.1, (x29.2.1, x29.2.2))) else (some (w64 (x4.1 - 2), (x5.2.1, x5.2.2)))) fun j28 => (some (w64 (x3.1 - 2), j28.1, (j28.2.1, j28.2.2))))) fun j6 => (Option.bind (sh92 (Sl00Src.mk q0.code j6.2.2.1 j6.2.2.2) 8) fun x9 => Option.bind (iter (sh169_1 j6) (x1.1, x2.1, w64 (1 + x9.1), ([] : List SPoint))) fun b1 => (some (b1, x9.2.1, x9.2.2)))
def T169 (gb_0 : Nat) (a_0_0 : Option Addr) (n_0_0 c_0_0 : Nat) (r : List SPoint × Int × Int) (v : Value) (es' rs : List Own) : Prop := es' = [boxO 163 gb_0 [.slice a_0_0 n_0_0 c_0_0, .int .i64 r.2.1, .int .u64 r.2.2]] ∧ ∃ (a0 : Option Addr) (n0 c0 : Nat), r.1.length = n0 ∧ v = rets [.slice a0 n0 c0] ∧ rs = [rowT 42 eSPoint a0 n0 c0 r.1]
set_option maxRecDepth 100000 in
theorem c169 {w : World} {M : List Nat} {q0 : Sl00Src} {gb_0 : Nat} {a_0_0 : Option Addr} {n_0_0 c_0_0 : Nat} (g_0_0 : RdS M w a_0_0 (eU8.fl q0.code)) (l_0_0 : q0.code.length = n_0_0) (k_0_0 : n_0_0 ≤ c_0_0) (gs : Sep w.heap.size M w [boxO 163 gb_0 [.slice a_0_0 n_0_0 c_0_0, .int .i64 q0.at_, .int .u64 q0.seed]]) {r : List SPoint × Int × Int} (hres : sh169 q0 = some r) : Calls Go.Proofs.Try.prog 169 [ptrAt (some ⟨gb_0, 0, none⟩) 0].toArray w (RetMs w M (T169 gb_0 a_0_0 n_0_0 c_0_0 r)) := by
  subst l_0_0
  unfold sh169 at hres
  refine calls_of (n := 52) (M := M) (es := [boxO 163 gb_0 [.slice a_0_0 q0.code.length c_0_0, .int .i64 q0.at_, .int .u64 q0.seed]]) Go.Proofs.Try.func169 rfl rfl rfl gs ?_
  refine JX.seq ?_
  refine JX.region ?_
  refine JL.val (yl_assign rfl) rfl ?_
  refine JL.nil ?_
  refine JE.code ?_
  refine JX.seq ?_
  refine JX.region ?_
  refine JL.val (yl_move rfl) rfl ?_
  obtain ⟨x1, hx1, hres⟩ := bind_some hres
  refine JL.eff (ef_callms (caps := []) (vs := [ptrAt (some ⟨gb_0, 0, none⟩) 0, .int .i64 120]) (T := T92 gb_0 a_0_0 q0.code.length c_0_0 x1) [0] [] [boxO 163 gb_0 [.slice a_0_0 q0.code.length c_0_0, .int .i64 q0.at_, .int .u64 q0.seed]] [] rfl Go.Proofs.Try.func92 rfl (by kernel_rfl) rfl (by decide) rfl rfl (fun w N hF hS => c92 (q0 := q0) (RdS.pass hF g_0_0) rfl k_0_0 hS hx1)) rfl ?_
  rintro _ _ ⟨_, _, ⟨rfl, rfl, rfl⟩, rfl⟩
  refine JL.val (yl_assign rfl) rfl ?_
  refine JL.nil ?_
  refine JE.code ?_
  refine JX.seq ?_
  refine JX.region ?_
  refine JL.val (yl_move rfl) rfl ?_
  obtain ⟨x2, hx2, hres⟩ := bind_some hres
  refine JL.eff (ef_callms (caps := []) (vs := [ptrAt (some ⟨gb_0, 0, none⟩) 0, .int .i64 120]) (T := T92 gb_0 a_0_0 q0.code.length c_0_0 x2) [0] [] [boxO 163 gb_0 [.slice a_0_0 q0.code.length c_0_0, .int .i64 x1.2.1, .int .u64 x1.2.2]] [] rfl Go.Proofs.Try.func92 rfl (by kernel_rfl) rfl (by decide) rfl rfl (fun w N hF hS => c92 (q0 := Sl00Src.mk q0.code x1.2.1 x1.2.2) (RdS.pass hF g_0_0) rfl k_0_0 hS hx2)) rfl ?_
  rintro _ _ ⟨_, _, ⟨rfl, rfl, rfl⟩, rfl⟩
  refine JL.val (yl_assign rfl) rfl ?_
  refine JL.nil ?_
  refine JE.code ?_
  refine JX.seq ?_
  refine JX.region ?_
  refine JL.val (yl_move rfl) rfl ?_
  obtain ⟨x3, hx3, hres⟩ := bind_some hres
  refine JL.eff (ef_callms (caps := []) (vs := [ptrAt (some ⟨gb_0, 0, none⟩) 0, .int .i64 9]) (T := T92 gb_0 a_0_0 q0.code.length c_0_0 x3) [0] [] [boxO 163 gb_0 [.slice a_0_0 q0.code.length c_0_0, .int .i64 x2.2.1, .int .u64 x2.2.2]] [] rfl Go.Proofs.Try.func92 rfl (by kernel_rfl) rfl (by decide) rfl rfl (fun w N hF hS => c92 (q0 := Sl00Src.mk q0.code x2.2.1 x2.2.2) (RdS.pass hF g_0_0) rfl k_0_0 hS hx3)) rfl ?_
  rintro _ _ ⟨_, _, ⟨rfl, rfl, rfl⟩, rfl⟩
  refine JL.val (yl_sub rfl rfl) rfl ?_
  refine JL.val (yl_assign rfl) rfl ?_
  refine JL.nil ?_
  refine JE.weak (env' := [(0, ptrAt (some ⟨gb_0, 0, none⟩) 0), (3, .int .i64 x1.1), (4, .int .i64 x2.1), (5, .int .i64 (w64 (x3.1 - 2)))]) (es' := [boxO 163 gb_0 [.slice a_0_0 q0.code.length c_0_0, .int .i64 x3.2.1, .int .u64 x3.2.2]]) [0] ?_ ⟨rfl, rfl, rfl, rfl, trivial⟩ (by decide) rfl
  refine JE.code ?_
  refine JX.seq ?_
  refine JX.region ?_
  refine JL.val (yl_move rfl) rfl ?_
  obtain ⟨x4, hx4, hres⟩ := bind_some hres
  refine JL.eff (ef_callms (caps := []) (vs := [ptrAt (some ⟨gb_0, 0, none⟩) 0, .int .i64 9]) (T := T92 gb_0 a_0_0 q0.code.length c_0_0 x4) [0] [] [boxO 163 gb_0 [.slice a_0_0 q0.code.length c_0_0, .int .i64 x3.2.1, .int .u64 x3.2.2]] [] rfl Go.Proofs.Try.func92 rfl (by kernel_rfl) rfl (by decide) rfl rfl (fun w N hF hS => c92 (q0 := Sl00Src.mk q0.code x3.2.1 x3.2.2) (RdS.pass hF g_0_0) rfl k_0_0 hS hx4)) rfl ?_
  rintro _ _ ⟨_, _, ⟨rfl, rfl, rfl⟩, rfl⟩
  refine JL.val (yl_sub rfl rfl) rfl ?_
  refine JL.val (yl_assign rfl) rfl ?_
  refine JL.nil ?_
  refine JE.weak (env' := [(0, ptrAt (some ⟨gb_0, 0, none⟩) 0), (3, .int .i64 x1.1), (4, .int .i64 x2.1), (5, .int .i64 (w64 (x3.1 - 2))), (6, .int .i64 (w64 (x4.1 - 2)))]) (es' := [boxO 163 gb_0 [.slice a_0_0 q0.code.length c_0_0, .int .i64 x4.2.1, .int .u64 x4.2.2]]) [0] ?_ ⟨rfl, rfl, rfl, rfl, rfl, trivial⟩ (by decide) rfl
  refine JE.code ?_
  refine JX.seq ?_
  refine JX.seq ?_
  refine JX.region ?_
  refine JL.val (yl_move rfl) rfl ?_
  obtain ⟨x5, hx5, hres⟩ := bind_some hres
  refine JL.eff (ef_callms (caps := []) (vs := [ptrAt (some ⟨gb_0, 0, none⟩) 0, .int .i64 3]) (T := T92 gb_0 a_0_0 q0.code.length c_0_0 x5) [0] [] [boxO 163 gb_0 [.slice a_0_0 q0.code.length c_0_0, .int .i64 x4.2.1, .int .u64 x4.2.2]] [] rfl Go.Proofs.Try.func92 rfl (by kernel_rfl) rfl (by decide) rfl rfl (fun w N hF hS => c92 (q0 := Sl00Src.mk q0.code x4.2.1 x4.2.2) (RdS.pass hF g_0_0) rfl k_0_0 hS hx5)) rfl ?_
  rintro _ _ ⟨_, _, ⟨rfl, rfl, rfl⟩, rfl⟩
  refine JL.nil ?_
  refine JE.code ?_
  refine JX.block ?_
  refine JX.seq ?_
  refine JX.region ?_
  refine JL.val (yl_eql rfl rfl) rfl ?_
  refine JL.val (yl_assign rfl) rfl ?_
  refine JL.nil ?_
  refine JE.code ?_
  obtain ⟨j6, hj6, hresj6⟩ := bind_some hres
  refine JX.cut (K := fun J => J [(0, ptrAt (some ⟨gb_0, 0, none⟩) 0), (3, .int .i64 x1.1), (4, .int .i64 x2.1), (5, .int .i64 j6.1), (6, .int .i64 j6.2.1)] [boxO 163 gb_0 [.slice a_0_0 q0.code.length c_0_0, .int .i64 j6.2.2.1, .int .u64 j6.2.2.2]]) ?_ ?_
  · have hres := hresj6
    refine JE.code ?_
    refine JX.seq ?_
    refine JX.region ?_
    refine JL.eff (ef_buildSlice (E := 42) (k := eSPoint.k) (us := eSPoint.fl ([] : List SPoint)) rfl (fun w => bsl34_0  w) rfl (by decide)) rfl ?_
    rintro _ _ ⟨a7, rfl, rfl⟩
    refine JL.val (yl_assign rfl) rfl ?_
    refine JL.nil ?_
    refine JE.code ?_
    refine JX.seq ?_
    refine JX.seq ?_
    refine JX.region ?_
    refine JL.val (yl_move rfl) rfl ?_
    obtain ⟨x9, hx9, hres⟩ := bind_some hres
    refine JL.eff (ef_callms (caps := []) (vs := [ptrAt (some ⟨gb_0, 0, none⟩) 0, .int .i64 8]) (T := T92 gb_0 a_0_0 q0.code.length c_0_0 x9) [0] [1] [boxO 163 gb_0 [.slice a_0_0 q0.code.length c_0_0, .int .i64 j6.2.2.1, .int .u64 j6.2.2.2]] [rowT 42 eSPoint a7 0 0 ([] : List SPoint)] rfl Go.Proofs.Try.func92 rfl (by kernel_rfl) rfl (by decide) rfl rfl (fun w N hF hS => c92 (q0 := Sl00Src.mk q0.code j6.2.2.1 j6.2.2.2) (RdS.pass hF g_0_0) rfl k_0_0 hS hx9)) rfl ?_
    rintro _ _ ⟨_, _, ⟨rfl, rfl, rfl⟩, rfl⟩
    refine JL.val (yl_add rfl rfl) rfl ?_
    refine JL.val (yl_assign rfl) rfl ?_
    refine JL.nil ?_
    refine JE.weak (env' := [(3, .int .i64 x1.1), (4, .int .i64 x2.1), (5, .int .i64 j6.1), (6, .int .i64 j6.2.1), (7, .slice a7 0 0), (8, .int .i64 (w64 (1 + x9.1)))]) (es' := [boxO 163 gb_0 [.slice a_0_0 q0.code.length c_0_0, .int .i64 x9.2.1, .int .u64 x9.2.2], rowT 42 eSPoint a7 0 0 ([] : List SPoint)]) [1, 0] ?_ ⟨rfl, rfl, rfl, rfl, rfl, rfl, trivial⟩ (by decide) rfl
    refine JE.code ?_
    refine JX.block ?_
    obtain ⟨y1, hy1, hresO1⟩ := bind_some hres
    refine JX.loop (I := fun (s1 : Int × Int × Int × List SPoint) aa ww => ∃ (a10 : Option Addr) (cp11 : Nat), St w M 52 [(3, .int .i64 s1.1), (4, .int .i64 s1.2.1), (5, .int .i64 j6.1), (6, .int .i64 j6.2.1), (7, .slice a10 s1.2.2.2.length cp11), (8, .int .i64 s1.2.2.1)] [boxO 163 gb_0 [.slice a_0_0 q0.code.length c_0_0, .int .i64 x9.2.1, .int .u64 x9.2.2], rowT 42 eSPoint a10 s1.2.2.2.length cp11 s1.2.2.2] aa ww) (sh169_1 j6) hy1 (fun a w h => ⟨a7, 0, h.weak ⟨rfl, rfl, rfl, rfl, rfl, rfl, trivial⟩ [0, 1] (by decide) rfl⟩) ?_
    rintro ⟨x12, x13, x14, x15⟩ o1 hres hox1 aa ww ⟨a16, cp17, hS⟩
    refine (?_ : JX Go.Proofs.Try.prog w M 52 _ _ [(3, .int .i64 x12), (4, .int .i64 x13), (5, .int .i64 j6.1), (6, .int .i64 j6.2.1), (7, .slice a16 x15.length cp17), (8, .int .i64 x14)] [boxO 163 gb_0 [.slice a_0_0 q0.code.length c_0_0, .int .i64 x9.2.1, .int .u64 x9.2.2], rowT 42 eSPoint a16 x15.length cp17 x15] _) aa ww hS
    clear hS
    simp only [sh169_1] at hres
    refine JX.seq ?_
    refine JX.seq ?_
    refine JX.region ?_
    refine JL.val (yl_move rfl) rfl ?_
    refine JL.val (yl_gtr rfl rfl) rfl ?_
    refine JL.nil ?_
    refine JE.code ?_
    rcases cond_some hres with ⟨hb, hres⟩ | ⟨hb, hres⟩
    · refine JX.condT rfl hb ?_
      refine JX.skip ?_
      refine JE.code ?_
      refine JX.seq ?_
      refine JX.block ?_
      refine JX.seq ?_
      refine JX.region ?_
      refine JL.val (yl_move rfl) rfl ?_
      refine JL.val (yl_move rfl) rfl ?_
      obtain ⟨x18, hx18, hres⟩ := bind_some hres
      refine JL.eff (ef_call (T := T182 x18) Go.Proofs.Try.func182 rfl (by kernel_rfl) rfl (fun w hC => c182  hx18)) rfl ?_
      rintro _ _ ⟨_, ⟨rfl, rfl⟩, rfl⟩
      refine JL.val (yl_move rfl) rfl ?_
      obtain ⟨x19, hx19, hres⟩ := bind_some hres
      refine JL.eff (ef_call (T := T182 x19) Go.Proofs.Try.func182 rfl (by kernel_rfl) rfl (fun w hC => c182  hx19)) rfl ?_
      rintro _ _ ⟨_, ⟨rfl, rfl⟩, rfl⟩
      refine JL.val (yl_build rfl (fun w => bld42_0_1 x18 x19 w)) rfl ?_
      refine JL.eff (ef_buildSlice (E := 42) (k := eSPoint.k) (us := eSPoint.fl [SPoint.mk x18 x19]) rfl (fun w => bsl34_1 x18 x19 w) rfl (by decide)) rfl ?_
      rintro _ _ ⟨a20, rfl, rfl⟩
      obtain ⟨x22, hx22, hres⟩ := bind_some hres
      refine JL.eff (ef_appendT (ix := 1) Go.Proofs.Try.underlying34 i42 i42z i42s rfl i42b0 i42b1 rfl rfl rfl rfl rfl (fun w hC => rd_row hC 2 rfl) hx22) rfl ?_
      rintro _ _ ⟨a23, cp24, rfl, rfl⟩
      refine JL.val (yl_assign rfl) rfl ?_
      refine JL.nil ?_
      refine JE.weak (env' := [(3, .int .i64 x12), (4, .int .i64 x13), (5, .int .i64 j6.1), (6, .int .i64 j6.2.1), (7, .slice a23 x22.length cp24), (8, .int .i64 x14)]) (es' := [boxO 163 gb_0 [.slice a_0_0 q0.code.length c_0_0, .int .i64 x9.2.1, .int .u64 x9.2.2], rowT 42 eSPoint a23 x22.length cp24 x22]) [0, 1] ?_ ⟨rfl, rfl, rfl, rfl, rfl, rfl, trivial⟩ (by decide) rfl
      refine JE.code ?_
      refine JX.seq ?_
      refine JX.region ?_
      refine JL.val (yl_move rfl) rfl ?_
      refine JL.val (yl_move rfl) rfl ?_
      refine JL.val (yl_add rfl rfl) rfl ?_
      refine JL.val (yl_assign rfl) rfl ?_
      refine JL.nil ?_
      refine JE.weak (env' := [(3, .int .i64 (w64 (x12 + j6.1))), (4, .int .i64 x13), (5, .int .i64 j6.1), (6, .int .i64 j6.2.1), (7, .slice a23 x22.length cp24), (8, .int .i64 x14)]) (es' := [boxO 163 gb_0 [.slice a_0_0 q0.code.length c_0_0, .int .i64 x9.2.1, .int .u64 x9.2.2], rowT 42 eSPoint a23 x22.length cp24 x22]) [0, 1] ?_ ⟨rfl, rfl, rfl, rfl, rfl, rfl, trivial⟩ (by decide) rfl
      refine JE.code ?_
      refine JX.region ?_
      refine JL.val (yl_move rfl) rfl ?_
      refine JL.val (yl_move rfl) rfl ?_
      refine JL.val (yl_add rfl rfl) rfl ?_
      refine JL.val (yl_assign rfl) rfl ?_
      refine JL.nil ?_
      refine JE.weak (env' := [(3, .int .i64 (w64 (x12 + j6.1))), (4, .int .i64 (w64 (x13 + j6.2.1))), (5, .int .i64 j6.1), (6, .int .i64 j6.2.1), (7, .slice a23 x22.length cp24), (8, .int .i64 x14)]) (es' := [boxO 163 gb_0 [.slice a_0_0 q0.code.length c_0_0, .int .i64 x9.2.1, .int .u64 x9.2.2], rowT 42 eSPoint a23 x22.length cp24 x22]) [0, 1] ?_ ⟨rfl, rfl, rfl, rfl, rfl, rfl, trivial⟩ (by decide) rfl
      refine JE.code ?_
      refine JX.region ?_
      refine JL.val (yl_move rfl) rfl ?_
      refine JL.val (yl_sub rfl rfl) rfl ?_
      refine JL.val (yl_assign rfl) rfl ?_
      refine JL.nil ?_
      refine JE.cont hres ?_
      exact fun a w h => ⟨a23, cp24, h.weak ⟨rfl, rfl, rfl, rfl, rfl, rfl, trivial⟩ [0, 1] (by decide) rfl⟩
    · refine JX.condF rfl hb ?_
      refine JX.exit ?_
      refine JE.qb rfl ?_
      obtain ⟨b1, hb1⟩ : ∃ b : List SPoint, b = x15 := ⟨_, rfl⟩
      have hy1 : b1 = y1 := by rw [hb1]; exact hox1 _ (Option.some.inj hres).symm
      have hres := hresO1
      rw [← hy1] at hres
      refine JE.weak (env' := [(7, .slice a16 b1.length cp17)]) (es' := [boxO 163 gb_0 [.slice a_0_0 q0.code.length c_0_0, .int .i64 x9.2.1, .int .u64 x9.2.2], rowT 42 eSPoint a16 b1.length cp17 b1]) [0, 1] ?_ ⟨(by subst hb1; rfl), trivial⟩ (by decide) (by subst hb1; rfl)
      refine JE.code ?_
      refine JX.seq ?_
      refine JX.region ?_
      refine JL.val (yl_move rfl) rfl ?_
      refine JL.val (yl_assign rfl) rfl ?_
      refine JL.nil ?_
      refine JE.code ?_
      refine JX.ret ?_
      obtain rfl := Option.some.inj hres
      refine JE.ret (rs := [.tmp 2]) (vs := [.slice a16 b1.length cp17]) rfl ⟨rfl, trivial⟩ ?_
      exact fun w' hb hs => ⟨_, _, _, ⟨rfl, a16, b1.length, cp17, rfl, rfl, rfl⟩, rfl, hb, hs.sel [0, 1] _ (by decide) rfl⟩
  · intro K
    rcases cond_some hj6 with ⟨hb, hres⟩ | ⟨hb, hres⟩
    · refine JX.condT rfl hb ?_
      refine JX.region ?_
      refine JL.val (yl_move rfl) rfl ?_
      obtain ⟨x27, hx27, hres⟩ := bind_some hres
      refine JL.eff (ef_callms (caps := []) (vs := [ptrAt (some ⟨gb_0, 0, none⟩) 0, .int .i64 2]) (T := T92 gb_0 a_0_0 q0.code.length c_0_0 x27) [0] [] [boxO 163 gb_0 [.slice a_0_0 q0.code.length c_0_0, .int .i64 x5.2.1, .int .u64 x5.2.2]] [] rfl Go.Proofs.Try.func92 rfl (by kernel_rfl) rfl (by decide) rfl rfl (fun w N hF hS => c92 (q0 := Sl00Src.mk q0.code x5.2.1 x5.2.2) (RdS.pass hF g_0_0) rfl k_0_0 hS hx27)) rfl ?_
      rintro _ _ ⟨_, _, ⟨rfl, rfl, rfl⟩, rfl⟩
      refine JL.val (yl_assign rfl) rfl ?_
      refine JL.nil ?_
      have hj := Option.some.inj hres
      exact JE.weak [0] (K) ⟨(by subst hj; rfl), (by subst hj; rfl), (by subst hj; rfl), (by subst hj; rfl), (by subst hj; rfl), trivial⟩ (by decide) (by subst hj; rfl)
    · refine JX.condF rfl hb ?_
      refine JX.seq ?_
      refine JX.region ?_
      refine JL.val (yl_eql rfl rfl) rfl ?_
      refine JL.val (yl_assign rfl) rfl ?_
      refine JL.nil ?_
      refine JE.code ?_
      obtain ⟨j28, hj28, hresj28⟩ := bind_some hres
      refine JX.cut (K := fun J => J [(0, ptrAt (some ⟨gb_0, 0, none⟩) 0), (3, .int .i64 x1.1), (4, .int .i64 x2.1), (5, .int .i64 (w64 (x3.1 - 2))), (6, .int .i64 j28.1)] [boxO 163 gb_0 [.slice a_0_0 q0.code.length c_0_0, .int .i64 j28.2.1, .int .u64 j28.2.2]]) ?_ ?_
      · have hres := hresj28
        have hj := Option.some.inj hres
        exact JE.weak [0] (K) ⟨(by subst hj; rfl), (by subst hj; rfl), (by subst hj; rfl), (by subst hj; rfl), (by subst hj; rfl), trivial⟩ (by decide) (by subst hj; rfl)
      · intro K
        rcases cond_some hj28 with ⟨hb, hres⟩ | ⟨hb, hres⟩
        · refine JX.condT rfl hb ?_
          refine JX.region ?_
          refine JL.val (yl_move rfl) rfl ?_
          obtain ⟨x29, hx29, hres⟩ := bind_some hres
          refine JL.eff (ef_callms (caps := []) (vs := [ptrAt (some ⟨gb_0, 0, none⟩) 0, .int .i64 2]) (T := T92 gb_0 a_0_0 q0.code.length c_0_0 x29) [0] [] [boxO 163 gb_0 [.slice a_0_0 q0.code.length c_0_0, .int .i64 x5.2.1, .int .u64 x5.2.2]] [] rfl Go.Proofs.Try.func92 rfl (by kernel_rfl) rfl (by decide) rfl rfl (fun w N hF hS => c92 (q0 := Sl00Src.mk q0.code x5.2.1 x5.2.2) (RdS.pass hF g_0_0) rfl k_0_0 hS hx29)) rfl ?_
          rintro _ _ ⟨_, _, ⟨rfl, rfl, rfl⟩, rfl⟩
          refine JL.val (yl_assign rfl) rfl ?_
          refine JL.nil ?_
          have hj := Option.some.inj hres
          exact JE.weak [0] (K) ⟨(by subst hj; rfl), (by subst hj; rfl), (by subst hj; rfl), (by subst hj; rfl), (by subst hj; rfl), trivial⟩ (by decide) (by subst hj; rfl)
        · refine JX.condF rfl hb ?_
          refine JX.skip ?_
          have hj := Option.some.inj hres
          exact JE.weak [0] (K) ⟨(by subst hj; rfl), (by subst hj; rfl), (by subst hj; rfl), (by subst hj; rfl), (by subst hj; rfl), trivial⟩ (by decide) (by subst hj; rfl)

/- spec.l19Bent -/
def sh127 (q0 : Sl00Src) : Option (List SPoint × Int × Int) := Option.bind (sh169 q0) fun x1 => Option.bind (sh92 (Sl00Src.mk q0.code x1.2.1 x1.2.2) 24) fun x5 => bif x5.1 == 0 then (Option.bind (sh94 (Sl00Src.mk q0.code x5.2.1 x5.2.2) [(-1), 0, 2000, 2001]) fun x8 => Option.bind (getI x1.1 (0 : Int)) fun x9 => some (x1.1.set ((0 : Int)).toNat (SPoint.mk x8.1 x9.Y), x8.2.1, x8.2.2)) else (bif x5.1 == 1 then (Option.bind (sh94 (Sl00Src.mk q0.code x5.2.1 x5.2.2) [(-9223372036854775808), 9223372036854775807]) fun x12 => Option.bind (getI x1.1 (0 : Int)) fun x13 => some (x1.1.set ((0 : Int)).toNat (SPoint.mk x13.X x12.1), x12.2.1, x12.2.2)) else (bif x5.1 == 2 then (some (([] : List SPoint), x5.2.1, x5.2.2)) else (bif x5.1 == 3 then (Option.bind (sh92 (Sl00Src.mk q0.code x5.2.1 x5.2.2) 2) fun x16 => Option.bind (mkL (w64 (60 + x16.1)) (SPoint.mk 0 0)) fun x17 => some (x17, x16.2.1, x16.2.2)) else (some (x1.1, x5.2.1, x5.2.2)))))
def T127 (gb_0 : Nat) (a_0_0 : Option Addr) (n_0_0 c_0_0 : Nat) (r : List SPoint × Int × Int) (v : Value) (es' rs : List Own) : Prop := es' = [boxO 163 gb_0 [.slice a_0_0 n_0_0 c_0_0, .int .i64 r.2.1, .int .u64 r.2.2]] ∧ ∃ (a0 : Option Addr) (n0 c0 : Nat), r.1.length = n0 ∧ v = rets [.slice a0 n0 c0] ∧ rs = [rowT 42 eSPoint a0 n0 c0 r.1]
set_option maxRecDepth 100000 in
theorem c127 {w : World} {M : List Nat} {q0 : Sl00Src} {gb_0 : Nat} {a_0_0 : Option Addr} {n_0_0 c_0_0 : Nat} (g_0_0 : RdS M w a_0_0 (eU8.fl q0.code)) (l_0_0 : q0.code.length = n_0_0) (k_0_0 : n_0_0 ≤ c_0_0) (gs : Sep w.heap.size M w [boxO 163 gb_0 [.slice a_0_0 n_0_0 c_0_0, .int .i64 q0.at_, .int .u64 q0.seed]]) {r : List SPoint × Int × Int} (hres : sh127 q0 = some r) : Calls Go.Proofs.Try.prog 127 [ptrAt (some ⟨gb_0, 0, none⟩) 0].toArray w (RetMs w M (T127 gb_0 a_0_0 n_0_0 c_0_0 r)) := by
  subst l_0_0
  unfold sh127 at hres
  refine calls_of (n := 34) (M := M) (es := [boxO 163 gb_0 [.slice a_0_0 q0.code.length c_0_0, .int .i64 q0.at_, .int .u64 q0.seed]]) Go.Proofs.Try.func127 rfl rfl rfl gs ?_
  refine JX.seq ?_
  refine JX.region ?_
  refine JL.val (yl_assign rfl) rfl ?_
  refine JL.nil ?_
  refine JE.code ?_
  refine JX.seq ?_
  refine JX.region ?_
  refine JL.val (yl_move rfl) rfl ?_
  obtain ⟨x1, hx1, hres⟩ := bind_some hres
  refine JL.eff (ef_callms (caps := []) (vs := [ptrAt (some ⟨gb_0, 0, none⟩) 0]) (T := T169 gb_0 a_0_0 q0.code.length c_0_0 x1) [0] [] [boxO 163 gb_0 [.slice a_0_0 q0.code.length c_0_0, .int .i64 q0.at_, .int .u64 q0.seed]] [] rfl Go.Proofs.Try.func169 rfl (by kernel_rfl) rfl (by decide) rfl rfl (fun w N hF hS => c169 (q0 := q0) (RdS.pass hF g_0_0) rfl k_0_0 hS hx1)) rfl ?_
  rintro _ _ ⟨_, _, ⟨rfl, a2, _, cp3, rfl, rfl, rfl⟩, rfl⟩
  refine JL.val (yl_assign rfl) rfl ?_
  refine JL.nil ?_
  refine JE.code ?_
  refine JX.seq ?_
  refine JX.seq ?_
  refine JX.region ?_
  refine JL.val (yl_move rfl) rfl ?_
  obtain ⟨x5, hx5, hres⟩ := bind_some hres
  refine JL.eff (ef_callms (caps := []) (vs := [ptrAt (some ⟨gb_0, 0, none⟩) 0, .int .i64 24]) (T := T92 gb_0 a_0_0 q0.code.length c_0_0 x5) [0] [1] [boxO 163 gb_0 [.slice a_0_0 q0.code.length c_0_0, .int .i64 x1.2.1, .int .u64 x1.2.2]] [rowT 42 eSPoint a2 x1.1.length cp3 x1.1] rfl Go.Proofs.Try.func92 rfl (by kernel_rfl) rfl (by decide) rfl rfl (fun w N hF hS => c92 (q0 := Sl00Src.mk q0.code x1.2.1 x1.2.2) (RdS.pass hF g_0_0) rfl k_0_0 hS hx5)) rfl ?_
  rintro _ _ ⟨_, _, ⟨rfl, rfl, rfl⟩, rfl⟩
  refine JL.nil ?_
  refine JE.code ?_
  refine JX.block ?_
  refine JX.seq ?_
  refine JX.region ?_
  refine JL.val (yl_eql rfl rfl) rfl ?_
  refine JL.val (yl_assign rfl) rfl ?_
  refine JL.nil ?_
  refine JE.code ?_
  rcases cond_some hres with ⟨hb, hres⟩ | ⟨hb, hres⟩
  · refine JX.condT rfl hb ?_
    refine JX.region ?_
    refine JL.val (yl_move rfl) rfl ?_
    refine JL.val (yl_move rfl) rfl ?_
    refine JL.eff (ef_buildSlice (E := 2) (k := eI64.k) (us := eI64.fl [(-1), 0, 2000, 2001]) rfl (fun w => bsl24_4 (-1) 0 2000 2001 w) rfl (by decide)) rfl ?_
    rintro _ _ ⟨a6, rfl, rfl⟩
    obtain ⟨x8, hx8, hres⟩ := bind_some hres
    refine JL.eff (ef_callms (caps := []) (vs := [ptrAt (some ⟨gb_0, 0, none⟩) 0, .slice a6 4 4]) (T := T94 gb_0 a_0_0 q0.code.length c_0_0 x8) [1] [0, 2] [boxO 163 gb_0 [.slice a_0_0 q0.code.length c_0_0, .int .i64 x5.2.1, .int .u64 x5.2.2]] [rowT 42 eSPoint a2 x1.1.length cp3 x1.1, rowT 2 eI64 a6 4 4 [(-1), 0, 2000, 2001]] rfl Go.Proofs.Try.func94 rfl (by kernel_rfl) rfl (by decide) rfl rfl (fun w N hF hS => c94 (q0 := Sl00Src.mk q0.code x5.2.1 x5.2.2) (RdS.pass hF g_0_0) rfl k_0_0 (RdS.row hF 2 rfl rfl) rfl (ln_row hF.cl 2 rfl) hS hx8)) rfl ?_
    rintro _ _ ⟨_, _, ⟨rfl, rfl, rfl⟩, rfl⟩
    obtain ⟨x9, hx9, hres⟩ := bind_some hres
    refine JL.val (yl_idxT Go.Proofs.Try.underlying34 i42 i42s rfl rfl hx9 rfl (fun w hC => rd_row hC 0 rfl)) rfl ?_
    refine JL.val (yl_fieldAtT Go.Proofs.Try.underlying42 rfl i2 i2n rfl hx9 (fun w hC => rd_row hC 0 rfl)) rfl ?_
    refine JL.eff (ef_storeF (ix := 0) (u := SPoint.mk x8.1 x9.Y) i2 i2s rfl rfl rfl hx9 (by decide) rfl rfl rfl) rfl ?_
    rintro _ _ rfl
    refine JL.nil ?_
    refine JE.weak (env' := [(3, .slice a2 x1.1.length cp3)]) (es' := [boxO 163 gb_0 [.slice a_0_0 q0.code.length c_0_0, .int .i64 x8.2.1, .int .u64 x8.2.2], rowT 42 eSPoint a2 x1.1.length cp3 (x1.1.set ((0 : Int)).toNat (SPoint.mk x8.1 x9.Y))]) [2, 0] ?_ ⟨rfl, trivial⟩ (by decide) rfl
    refine JE.code ?_
    refine JX.seq ?_
    refine JX.region ?_
    refine JL.val (yl_move rfl) rfl ?_
    refine JL.val (yl_assign rfl) rfl ?_
    refine JL.nil ?_
    refine JE.code ?_
    refine JX.ret ?_
    obtain rfl := Option.some.inj hres
    refine JE.ret (rs := [.tmp 2]) (vs := [.slice a2 x1.1.length cp3]) rfl ⟨rfl, trivial⟩ ?_
    exact fun w' hb hs => ⟨_, _, _, ⟨rfl, a2, x1.1.length, cp3, List.length_set, rfl, rfl⟩, rfl, hb, hs.sel [0, 1] _ (by decide) rfl⟩
  · refine JX.condF rfl hb ?_
    refine JX.seq ?_
    refine JX.region ?_
    refine JL.val (yl_eql rfl rfl) rfl ?_
    refine JL.val (yl_assign rfl) rfl ?_
    refine JL.nil ?_
    refine JE.code ?_
    rcases cond_some hres with ⟨hb, hres⟩ | ⟨hb, hres⟩
    · refine JX.condT rfl hb ?_
      refine JX.region ?_
      refine JL.val (yl_move rfl) rfl ?_
      refine JL.val (yl_move rfl) rfl ?_
      refine JL.eff (ef_buildSlice (E := 2) (k := eI64.k) (us := eI64.fl [(-9223372036854775808), 9223372036854775807]) rfl (fun w => bsl24_2 (-9223372036854775808) 9223372036854775807 w) rfl (by decide)) rfl ?_
      rintro _ _ ⟨a10, rfl, rfl⟩
      obtain ⟨x12, hx12, hres⟩ := bind_some hres
      refine JL.eff (ef_callms (caps := []) (vs := [ptrAt (some ⟨gb_0, 0, none⟩) 0, .slice a10 2 2]) (T := T94 gb_0 a_0_0 q0.code.length c_0_0 x12) [1] [0, 2] [boxO 163 gb_0 [.slice a_0_0 q0.code.length c_0_0, .int .i64 x5.2.1, .int .u64 x5.2.2]] [rowT 42 eSPoint a2 x1.1.length cp3 x1.1, rowT 2 eI64 a10 2 2 [(-9223372036854775808), 9223372036854775807]] rfl Go.Proofs.Try.func94 rfl (by kernel_rfl) rfl (by decide) rfl rfl (fun w N hF hS => c94 (q0 := Sl00Src.mk q0.code x5.2.1 x5.2.2) (RdS.pass hF g_0_0) rfl k_0_0 (RdS.row hF 2 rfl rfl) rfl (ln_row hF.cl 2 rfl) hS hx12)) rfl ?_
      rintro _ _ ⟨_, _, ⟨rfl, rfl, rfl⟩, rfl⟩
      obtain ⟨x13, hx13, hres⟩ := bind_some hres
      refine JL.val (yl_idxT Go.Proofs.Try.underlying34 i42 i42s rfl rfl hx13 rfl (fun w hC => rd_row hC 0 rfl)) rfl ?_
      refine JL.val (yl_fieldAtT Go.Proofs.Try.underlying42 rfl i2 i2n rfl hx13 (fun w hC => rd_row hC 0 rfl)) rfl ?_
      refine JL.eff (ef_storeF (ix := 0) (u := SPoint.mk x13.X x12.1) i2 i2s rfl rfl rfl hx13 (by decide) rfl rfl rfl) rfl ?_
      rintro _ _ rfl
      refine JL.nil ?_
      refine JE.weak (env' := [(3, .slice a2 x1.1.length cp3)]) (es' := [boxO 163 gb_0 [.slice a_0_0 q0.code.length c_0_0, .int .i64 x12.2.1, .int .u64 x12.2.2], rowT 42 eSPoint a2 x1.1.length cp3 (x1.1.set ((0 : Int)).toNat (SPoint.mk x13.X x12.1))]) [2, 0] ?_ ⟨rfl, trivial⟩ (by decide) rfl
      refine JE.code ?_
      refine JX.seq ?_
      refine JX.region ?_
      refine JL.val (yl_move rfl) rfl ?_
      refine JL.val (yl_assign rfl) rfl ?_
      refine JL.nil ?_
      refine JE.code ?_
      refine JX.ret ?_
      obtain rfl := Option.some.inj hres
      refine JE.ret (rs := [.tmp 2]) (vs := [.slice a2 x1.1.length cp3]) rfl ⟨rfl, trivial⟩ ?_
      exact fun w' hb hs => ⟨_, _, _, ⟨rfl, a2, x1.1.length, cp3, List.length_set, rfl, rfl⟩, rfl, hb, hs.sel [0, 1] _ (by decide) rfl⟩
    · refine JX.condF rfl hb ?_
      refine JX.seq ?_
      refine JX.region ?_
      refine JL.val (yl_eql rfl rfl) rfl ?_
      refine JL.val (yl_assign rfl) rfl ?_
      refine JL.nil ?_
      refine JE.code ?_
      rcases cond_some hres with ⟨hb, hres⟩ | ⟨hb, hres⟩
      · refine JX.condT rfl hb ?_
        refine JX.seq ?_
        refine JX.region ?_
        refine JL.eff (ef_buildSlice (E := 42) (k := eSPoint.k) (us := eSPoint.fl ([] : List SPoint)) rfl (fun w => bsl34_0  w) rfl (by decide)) rfl ?_
        rintro _ _ ⟨a14, rfl, rfl⟩
        refine JL.val (yl_assign rfl) rfl ?_
        refine JL.nil ?_
        refine JE.weak (env' := [(2, .slice a14 0 0)]) (es' := [boxO 163 gb_0 [.slice a_0_0 q0.code.length c_0_0, .int .i64 x5.2.1, .int .u64 x5.2.2], rowT 42 eSPoint a14 0 0 ([] : List SPoint)]) [1, 2] ?_ ⟨rfl, trivial⟩ (by decide) rfl
        refine JE.code ?_
        refine JX.ret ?_
        refine JE.qbr ?_
        obtain rfl := Option.some.inj hres
        refine JE.ret (rs := [.tmp 2]) (vs := [.slice a14 0 0]) rfl ⟨rfl, trivial⟩ ?_
        exact fun w' hb hs => ⟨_, _, _, ⟨rfl, a14, 0, 0, rfl, rfl, rfl⟩, rfl, hb, hs.sel [0, 1] _ (by decide) rfl⟩
      · refine JX.condF rfl hb ?_
        refine JX.seq ?_
        refine JX.region ?_
        refine JL.val (yl_eql rfl rfl) rfl ?_
        refine JL.val (yl_assign rfl) rfl ?_
        refine JL.nil ?_
        refine JE.code ?_
        rcases cond_some hres with ⟨hb, hres⟩ | ⟨hb, hres⟩
        · refine JX.condT rfl hb ?_
          refine JX.seq ?_
          refine JX.region ?_
          refine JL.val (yl_move rfl) rfl ?_
          obtain ⟨x16, hx16, hres⟩ := bind_some hres
          refine JL.eff (ef_callms (caps := []) (vs := [ptrAt (some ⟨gb_0, 0, none⟩) 0, .int .i64 2]) (T := T92 gb_0 a_0_0 q0.code.length c_0_0 x16) [1] [0] [boxO 163 gb_0 [.slice a_0_0 q0.code.length c_0_0, .int .i64 x5.2.1, .int .u64 x5.2.2]] [rowT 42 eSPoint a2 x1.1.length cp3 x1.1] rfl Go.Proofs.Try.func92 rfl (by kernel_rfl) rfl (by decide) rfl rfl (fun w N hF hS => c92 (q0 := Sl00Src.mk q0.code x5.2.1 x5.2.2) (RdS.pass hF g_0_0) rfl k_0_0 hS hx16)) rfl ?_
          rintro _ _ ⟨_, _, ⟨rfl, rfl, rfl⟩, rfl⟩
          refine JL.val (yl_add rfl rfl) rfl ?_
          obtain ⟨x17, hx17, hres⟩ := bind_some hres
          refine JL.eff (ef_makeS (e := eSPoint) Go.Proofs.Try.underlying34 i42 i42s i42z rfl i42b1 rfl rfl hx17) rfl ?_
          rintro _ _ ⟨a18, rfl, rfl⟩
          refine JL.val (yl_assign rfl) rfl ?_
          refine JL.nil ?_
          refine JE.weak (env' := [(2, .slice a18 x17.length x17.length)]) (es' := [boxO 163 gb_0 [.slice a_0_0 q0.code.length c_0_0, .int .i64 x16.2.1, .int .u64 x16.2.2], rowT 42 eSPoint a18 x17.length x17.length x17]) [1, 2] ?_ ⟨rfl, trivial⟩ (by decide) rfl
          refine JE.code ?_
          refine JX.ret ?_
          refine JE.qbr ?_
          obtain rfl := Option.some.inj hres
          refine JE.ret (rs := [.tmp 2]) (vs := [.slice a18 x17.length x17.length]) rfl ⟨rfl, trivial⟩ ?_
          exact fun w' hb hs => ⟨_, _, _, ⟨rfl, a18, x17.length, x17.length, rfl, rfl, rfl⟩, rfl, hb, hs.sel [0, 1] _ (by decide) rfl⟩
        · refine JX.condF rfl hb ?_
          refine JX.skip ?_
          refine JE.code ?_
          refine JX.seq ?_
          refine JX.region ?_
          refine JL.val (yl_move rfl) rfl ?_
          refine JL.val (yl_assign rfl) rfl ?_
          refine JL.nil ?_
          refine JE.code ?_
          refine JX.ret ?_
          obtain rfl := Option.some.inj hres
          refine JE.ret (rs := [.tmp 2]) (vs := [.slice a2 x1.1.length cp3]) rfl ⟨rfl, trivial⟩ ?_
          exact fun w' hb hs => ⟨_, _, _, ⟨rfl, a2, x1.1.length, cp3, rfl, rfl, rfl⟩, rfl, hb, hs.sel [1, 0] _ (by decide) rfl⟩

/- spec.DrawStrokeText -/
def sh78 (q0 : List Int) : Option (List SPoint) := Option.bind (sh90 q0) fun x1 => Option.bind (sh127 (Sl00Src.mk q0 x1.at_ x1.seed)) fun x4 => some x4.1
def T78 (r : List SPoint) (v : Value) (rs : List Own) : Prop := ∃ (a0 : Option Addr) (n0 c0 : Nat), r.length = n0 ∧ v = rets [.slice a0 n0 c0] ∧ rs = [rowT 42 eSPoint a0 n0 c0 r]
set_option maxRecDepth 100000 in
theorem c78 {w : World} {q0 : List Int} {a_0 : Option Addr} {n_0 c_0 : Nat} (g_0 : Rd w a_0 (eU8.fl q0)) (l_0 : q0.length = n_0) (k_0 : n_0 ≤ c_0) {r : List SPoint} (hres : sh78 q0 = some r) : Calls Go.Proofs.Try.prog 78 [.slice a_0 n_0 c_0].toArray w (Ret w (T78 r)) := by
  subst l_0
  unfold sh78 at hres
  refine calls_of (n := 6) (M := []) (es := []) Go.Proofs.Try.func78 rfl rfl rfl (Sep.nil _ _ _) ?_
  refine JX.seq ?_
  refine JX.region ?_
  refine JL.val (yl_assign rfl) rfl ?_
  refine JL.nil ?_
  refine JE.code ?_
  refine JX.seq ?_
  refine JX.region ?_
  refine JL.val (yl_move rfl) rfl ?_
  obtain ⟨x1, hx1, hres⟩ := bind_some hres
  refine JL.eff (ef_call (T := T90 a_0 q0.length c_0 x1) Go.Proofs.Try.func90 rfl (by kernel_rfl) rfl (fun w hC => c90 (rd_arg g_0 hC) rfl k_0 hx1)) rfl ?_
  rintro _ _ ⟨_, ⟨g2, rfl, rfl⟩, rfl⟩
  obtain ⟨x4, hx4, hres⟩ := bind_some hres
  refine JL.eff (ef_callms (caps := []) (vs := [ptrAt (some ⟨g2, 0, none⟩) 0]) (T := T127 g2 a_0 q0.length c_0 x4) [0] [] [boxO 163 g2 [.slice a_0 q0.length c_0, .int .i64 x1.at_, .int .u64 x1.seed]] [] rfl Go.Proofs.Try.func127 rfl (by kernel_rfl) rfl (by decide) rfl rfl (fun w N hF hS => c127 (q0 := Sl00Src.mk q0 x1.at_ x1.seed) (RdS.pass0 hF g_0) rfl k_0 hS hx4)) rfl ?_
  rintro _ _ ⟨_, _, ⟨rfl, a5, _, cp6, rfl, rfl, rfl⟩, rfl⟩
  refine JL.val (yl_assign rfl) rfl ?_
  refine JL.nil ?_
  refine JE.weak (env' := [(2, .slice a5 x4.1.length cp6)]) (es' := [rowT 42 eSPoint a5 x4.1.length cp6 x4.1]) [1] ?_ ⟨rfl, trivial⟩ (by decide) rfl
  refine JE.code ?_
  refine JX.ret ?_
  obtain rfl := Option.some.inj hres
  refine JE.ret (rs := [.tmp 2]) (vs := [.slice a5 x4.1.length cp6]) rfl ⟨rfl, trivial⟩ ?_
  exact fun w' hb hs => ⟨_, _, ⟨a5, x4.1.length, cp6, rfl, rfl, rfl⟩, rfl, hb, hs.sel [0] _ (by decide) rfl⟩

/- impl.inRange -/
def sh107 (q0 : Int) (q1 : Int) (q2 : Int) : Option (Bool) := some ((decide (q1 ≤ q0)) && (decide (q0 ≤ q2)))
def T107 (r : Bool) (v : Value) (rs : List Own) : Prop := v = rets [.bool r] ∧ rs = []
set_option maxRecDepth 100000 in
theorem c107 {w : World} {q0 : Int} {q1 : Int} {q2 : Int} {r : Bool} (hres : sh107 q0 q1 q2 = some r) : Calls Go.Proofs.Try.prog 107 [.int .i64 q0, .int .i64 q1, .int .i64 q2].toArray w (Ret w (T107 r)) := by
  unfold sh107 at hres
  refine calls_of (n := 15) (M := []) (es := []) Go.Proofs.Try.func107 rfl rfl rfl (Sep.nil _ _ _) ?_
  refine JX.seq ?_
  refine JX.region ?_
  refine JL.val (yl_assign rfl) rfl ?_
  refine JL.nil ?_
  refine JE.code ?_
  refine JX.seq ?_
  refine JX.region ?_
  refine JL.val (yl_move rfl) rfl ?_
  refine JL.val (yl_move rfl) rfl ?_
  refine JL.val (yl_geq rfl rfl) rfl ?_
  refine JL.val (yl_move rfl) rfl ?_
  refine JL.cut (K := fun J => J [(14, .bool ((decide (q1 ≤ q0)) && (decide (q0 ≤ q2))))] []) 4 ?_ ?_
  · refine JL.val (yl_assign rfl) rfl ?_
    refine JL.nil ?_
    refine JE.weak (env' := [(6, .bool ((decide (q1 ≤ q0)) && (decide (q0 ≤ q2))))]) (es' := []) [] ?_ ⟨rfl, trivial⟩ (by decide) rfl
    refine JE.code ?_
    refine JX.ret ?_
    obtain rfl := Option.some.inj hres
    refine JE.ret (rs := [.tmp 6]) (vs := [.bool ((decide (q1 ≤ q0)) && (decide (q0 ≤ q2)))]) rfl ⟨rfl, trivial⟩ ?_
    exact fun w' hb hs => ⟨_, _, ⟨rfl, rfl⟩, rfl, hb, hs.sel [] _ (by decide) rfl⟩
  · intro K
    rcases Bool.eq_false_or_eq_true (decide (q1 ≤ q0)) with hb | hb
    · refine JL.set (d := 10) (v := .bool true) (congrArg (fun b => some (Value.bool b)) hb) ?_
      refine JL.gval rfl rfl (yl_move rfl) rfl ?_
      refine JL.gval rfl rfl (yl_move rfl) rfl ?_
      refine JL.gval rfl rfl (yl_leq rfl rfl) rfl ?_
      refine JL.val (yl_pick_true rfl rfl) rfl ?_
      exact JL.weak [] K ⟨(by rw [hb]; rfl), trivial⟩ (by decide) rfl
    · refine JL.set (d := 10) (v := .bool false) (congrArg (fun b => some (Value.bool b)) hb) ?_
      refine JL.gskip rfl rfl rfl rfl ?_
      refine JL.gskip rfl rfl rfl rfl ?_
      refine JL.gskip rfl rfl rfl rfl ?_
      refine JL.val (yl_pick_false rfl rfl) rfl ?_
      exact JL.weak [] K ⟨(by rw [hb]; rfl), trivial⟩ (by decide) rfl

/- impl.isPlace -/
def sh138 (q0 : SPoint) : Option (Bool) := Option.bind (sh107 q0.X 0 2000) fun x3 => Option.bind (bif x3 then (Option.bind (sh107 q0.Y 0 2000) fun x5 => some x5) else (some false)) fun cb4 => (some cb4)
def T138 (r : Bool) (v : Value) (rs : List Own) : Prop := v = rets [.bool r] ∧ rs = []
set_option maxRecDepth 100000 in
theorem c138 {w : World} {q0 : SPoint} {r : Bool} (hres : sh138 q0 = some r) : Calls Go.Proofs.Try.prog 138 [.agg #[.int .i64 q0.X, .int .i64 q0.Y]].toArray w (Ret w (T138 r)) := by
  unfold sh138 at hres
  refine calls_of (n := 11) (M := []) (es := []) Go.Proofs.Try.func138 rfl rfl rfl (Sep.nil _ _ _) ?_
  refine JX.seq ?_
  refine JX.region ?_
  refine JL.eff (ef_box rfl rfl) rfl ?_
  rintro _ _ ⟨g1, rfl, rfl⟩
  refine JL.val (yl_assign rfl) rfl ?_
  refine JL.nil ?_
  refine JE.code ?_
  refine JX.seq ?_
  refine JX.region ?_
  refine JL.val (yl_fieldAt (a := some _) Go.Proofs.Try.underlying42 rfl i2 i2n rfl rfl) rfl ?_
  refine JL.val (yl_load1 Go.Proofs.Try.underlying2 rfl rfl (fun w hC => rd_box hC 0 rfl) rfl) rfl ?_
  obtain ⟨x3, hx3, hres⟩ := bind_some hres
  refine JL.eff (ef_call (T := T107 x3) Go.Proofs.Try.func107 rfl (by kernel_rfl) rfl (fun w hC => c107  hx3)) rfl ?_
  rintro _ _ ⟨_, ⟨rfl, rfl⟩, rfl⟩
  refine JL.val (yl_move rfl) rfl ?_
  obtain ⟨cb4, hcb4, hres⟩ := bind_some hres
  refine JL.cut (K := fun J => J [(10, .bool cb4)] []) 4 ?_ ?_
  · refine JL.val (yl_assign rfl) rfl ?_
    refine JL.nil ?_
    refine JE.weak (env' := [(2, .bool cb4)]) (es' := []) [] ?_ ⟨rfl, trivial⟩ (by decide) rfl
    refine JE.code ?_
    refine JX.ret ?_
    obtain rfl := Option.some.inj hres
    refine JE.ret (rs := [.tmp 2]) (vs := [.bool cb4]) rfl ⟨rfl, trivial⟩ ?_
    exact fun w' hb hs => ⟨_, _, ⟨rfl, rfl⟩, rfl, hb, hs.sel [] _ (by decide) rfl⟩
  · intro K
    rcases cond_some hcb4 with ⟨hb, hres⟩ | ⟨hb, hres⟩
    · refine JL.set (d := 6) (v := .bool true) (congrArg (fun b => some (Value.bool b)) hb) ?_
      refine JL.gval rfl rfl (yl_fieldAt (a := some _) Go.Proofs.Try.underlying42 rfl i2 i2n rfl rfl) rfl ?_
      refine JL.gval rfl rfl (yl_load1 Go.Proofs.Try.underlying2 rfl rfl (fun w hC => rd_box hC 0 rfl) rfl) rfl ?_
      obtain ⟨x5, hx5, hres⟩ := bind_some hres
      refine JL.geff rfl rfl (ef_call (T := T107 x5) Go.Proofs.Try.func107 rfl (by kernel_rfl) rfl (fun w hC => c107  hx5)) rfl ?_
      rintro _ _ ⟨_, ⟨rfl, rfl⟩, rfl⟩
      refine JL.val (yl_pick_true rfl rfl) rfl ?_
      have he := Option.some.inj hres
      exact JL.weak [] K ⟨(by rw [← he]; rfl), trivial⟩ (by decide) rfl
    · refine JL.set (d := 6) (v := .bool false) (congrArg (fun b => some (Value.bool b)) hb) ?_
      refine JL.gskip rfl rfl rfl rfl ?_
      refine JL.gskip rfl rfl rfl rfl ?_
      refine JL.gskip rfl rfl rfl rfl ?_
      refine JL.val (yl_pick_false rfl rfl) rfl ?_
      have he := Option.some.inj hres
      exact JL.weak [] K ⟨(by rw [← he]; rfl), trivial⟩ (by decide) rfl

/- impl.ValidStroke$1 -/
def sh137 (q0 : SPoint) : Option (Bool) := Option.bind (sh138 q0) fun x3 => some !x3
def T137 (r : Bool) (v : Value) (rs : List Own) : Prop := v = rets [.bool r] ∧ rs = []
set_option maxRecDepth 100000 in
theorem c137 {w : World} {q0 : SPoint} {r : Bool} (hres : sh137 q0 = some r) : Calls Go.Proofs.Try.prog 137 [.agg #[.int .i64 q0.X, .int .i64 q0.Y]].toArray w (Ret w (T137 r)) := by
  unfold sh137 at hres
  refine calls_of (n := 6) (M := []) (es := []) Go.Proofs.Try.func137 rfl rfl rfl (Sep.nil _ _ _) ?_
  refine JX.seq ?_
  refine JX.region ?_
  refine JL.eff (ef_box rfl rfl) rfl ?_
  rintro _ _ ⟨g1, rfl, rfl⟩
  refine JL.val (yl_assign rfl) rfl ?_
  refine JL.nil ?_
  refine JE.code ?_
  refine JX.seq ?_
  refine JX.region ?_
  refine JL.val (yl_loadn Go.Proofs.Try.underlying42 rfl i42 rfl (fun w hC => rd_box hC 0 rfl) rfl (i42s).symm i42p) rfl ?_
  obtain ⟨x3, hx3, hres⟩ := bind_some hres
  refine JL.eff (ef_call (vs := [.agg #[.int .i64 q0.X, .int .i64 q0.Y]]) (T := T138 x3) Go.Proofs.Try.func138 rfl (by kernel_rfl) rfl (fun w hC => c138 (q0 := q0) hx3)) rfl ?_
  rintro _ _ ⟨_, ⟨rfl, rfl⟩, rfl⟩
  refine JL.val (yl_not rfl) rfl ?_
  refine JL.val (yl_assign rfl) rfl ?_
  refine JL.nil ?_
  refine JE.weak (env' := [(2, .bool !x3)]) (es' := []) [] ?_ ⟨rfl, trivial⟩ (by decide) rfl
  refine JE.code ?_
  refine JX.ret ?_
  obtain rfl := Option.some.inj hres
  refine JE.ret (rs := [.tmp 2]) (vs := [.bool !x3]) rfl ⟨rfl, trivial⟩ ?_
  exact fun w' hb hs => ⟨_, _, ⟨rfl, rfl⟩, rfl, hb, hs.sel [] _ (by decide) rfl⟩

/- slices.IndexFunc[[]impl.Point,impl.Point] -/
def sh200f137_1 (q0 : List SPoint) : Int → Option (Int ⊕ (Unit ⊕ Int))
  | x1 => bif decide (x1 < (q0.length : Int)) then (Option.bind (getI q0 x1) fun x2 => Option.bind (sh137 x2) fun x3 => bif x3 then (some (.inr (.inr x1))) else (some (.inl (w64 (x1 + 1))))) else (some (.inr (.inl ())))
def sh200f137 (q0 : List SPoint) : Option (Int) := Option.bind (iter (sh200f137_1 q0) 0) fun y1 => elimS y1 (fun r => some r) fun b1 => (some (-1))
def T200f137 (r : Int) (v : Value) (rs : List Own) : Prop := v = rets [.int .i64 r] ∧ rs = []
set_option maxRecDepth 100000 in
theorem c200f137 {w : World} {q0 : List SPoint} {a_0 : Option Addr} {n_0 c_0 : Nat} (g_0 : Rd w a_0 (eSPoint.fl q0)) (l_0 : q0.length = n_0) (k_0 : n_0 ≤ c_0) {r : Int} (hres : sh200f137 q0 = some r) : Calls Go.Proofs.Try.prog 200 [.slice a_0 n_0 c_0, .func (.func 137) #[] #[]].toArray w (Ret w (T200f137 r)) := by
  subst l_0
  unfold sh200f137 at hres
  refine calls_of (n := 19) (M := []) (es := []) Go.Proofs.Try.func200 rfl rfl rfl (Sep.nil _ _ _) ?_
  refine JX.seq ?_
  refine JX.region ?_
  refine JL.val (yl_assign rfl) rfl ?_
  refine JL.nil ?_
  refine JE.code ?_
  refine JX.seq ?_
  refine JX.seq ?_
  refine JX.region ?_
  refine JL.val (yl_move rfl) rfl ?_
  refine JL.val (yl_len_slice Go.Proofs.Try.underlying34 rfl) rfl ?_
  refine JL.val (yl_move rfl) rfl ?_
  refine JL.nil ?_
  refine JE.code ?_
  refine JX.block ?_
  obtain ⟨y1, hy1, hresO1⟩ := bind_some hres
  refine JX.loop (I := fun (s1 : Int) aa ww => St w [] 19 [(0, .slice a_0 q0.length c_0), (1, .func (.func 137) #[] #[]), (7, .int .i64 (q0.length : Int)), (8, .int .i64 s1)] [] aa ww) (sh200f137_1 q0) hy1 (fun a w h => h.weak ⟨rfl, rfl, rfl, rfl, trivial⟩ [] (by decide) rfl) ?_
  rintro x1 o1 hres hox1 aa ww hS
  refine (?_ : JX Go.Proofs.Try.prog w [] 19 _ _ [(0, .slice a_0 q0.length c_0), (1, .func (.func 137) #[] #[]), (7, .int .i64 (q0.length : Int)), (8, .int .i64 x1)] [] _) aa ww hS
  clear hS
  unfold sh200f137_1 at hres
  refine JX.seq ?_
  refine JX.region ?_
  refine JL.val (yl_lss rfl rfl) rfl ?_
  refine JL.nil ?_
  refine JE.code ?_
  refine JX.seq ?_
  rcases cond_some hres with ⟨hb, hres⟩ | ⟨hb, hres⟩
  · refine JX.condT rfl hb ?_
    refine JX.skip ?_
    refine JE.code ?_
    refine JX.seq ?_
    refine JX.block ?_
    refine JX.seq ?_
    refine JX.region ?_
    refine JL.val (yl_move rfl) rfl ?_
    refine JL.val (yl_assign rfl) rfl ?_
    refine JL.nil ?_
    refine JE.code ?_
    refine JX.seq ?_
    refine JX.region ?_
    refine JL.val (yl_move rfl) rfl ?_
    refine JL.val (yl_move rfl) rfl ?_
    refine JL.val (yl_move rfl) rfl ?_
    obtain ⟨x2, hx2, hres⟩ := bind_some hres
    refine JL.val (yl_idxT Go.Proofs.Try.underlying34 i42 i42s rfl rfl hx2 rfl (fun w hC => rd_arg g_0 hC)) rfl ?_
    refine JL.val (yl_loadTn Go.Proofs.Try.underlying42 rfl i42 i42s rfl hx2 (fun w hC => rd_arg g_0 hC)) rfl ?_
    obtain ⟨x3, hx3, hres⟩ := bind_some hres
    refine JL.eff (ef_callv (vs := [.agg #[.int .i64 x2.X, .int .i64 x2.Y]]) (T := T137 x3) rfl Go.Proofs.Try.func137 rfl (by kernel_rfl) rfl (fun w hC => c137 (q0 := x2) hx3)) rfl ?_
    rintro _ _ ⟨_, ⟨rfl, rfl⟩, rfl⟩
    refine JL.nil ?_
    refine JE.weak (env' := [(0, .slice a_0 q0.length c_0), (1, .func (.func 137) #[] #[]), (5, .int .i64 x1), (7, .int .i64 (q0.length : Int)), (8, .int .i64 x1), (16, .bool x3)]) (es' := []) [] ?_ ⟨rfl, rfl, rfl, rfl, rfl, rfl, trivial⟩ (by decide) rfl
    refine JE.code ?_
    rcases cond_some hres with ⟨hb, hres⟩ | ⟨hb, hres⟩
    · refine JX.condT rfl hb ?_
      refine JX.seq ?_
      refine JX.region ?_
      refine JL.val (yl_move rfl) rfl ?_
      refine JL.val (yl_assign rfl) rfl ?_
      refine JL.nil ?_
      refine JE.code ?_
      refine JX.ret ?_
      refine JE.qbr ?_
      refine JE.qbr ?_
      have hres := elimS_inr hresO1 (hox1 _ (Option.some.inj hres).symm)
      obtain rfl := Option.some.inj hres
      refine JE.ret (rs := [.tmp 4]) (vs := [.int .i64 x1]) rfl ⟨rfl, trivial⟩ ?_
      exact fun w' hb hs => ⟨_, _, ⟨rfl, rfl⟩, rfl, hb, hs.sel [] _ (by decide) rfl⟩
    · refine JX.condF rfl hb ?_
      refine JX.skip ?_
      refine JE.code ?_
      refine JX.region ?_
      refine JL.val (yl_add rfl rfl) rfl ?_
      refine JL.val (yl_move rfl) rfl ?_
      refine JL.nil ?_
      refine JE.cont hres ?_
      exact fun a w h => h.weak ⟨rfl, rfl, rfl, rfl, trivial⟩ [] (by decide) rfl
  · refine JX.condF rfl hb ?_
    refine JX.exit ?_
    refine JE.qb rfl ?_
    obtain ⟨b1, hb1⟩ : ∃ b : Unit, b = () := ⟨_, rfl⟩
    have hy1 : Sum.inl b1 = y1 := by rw [hb1]; exact hox1 _ (Option.some.inj hres).symm
    have hres := elimS_inl hresO1 hy1
    refine JE.weak (env' := []) (es' := []) [] ?_ trivial (by decide) (by subst hb1; rfl)
    refine JE.code ?_
    refine JX.seq ?_
    refine JX.region ?_
    refine JL.val (yl_assign rfl) rfl ?_
    refine JL.nil ?_
    refine JE.code ?_
    refine JX.ret ?_
    obtain rfl := Option.some.inj hres
    refine JE.ret (rs := [.tmp 4]) (vs := [.int .i64 (-1)]) rfl ⟨rfl, trivial⟩ ?_
    exact fun w' hb hs => ⟨_, _, ⟨rfl, rfl⟩, rfl, hb, hs.sel [] _ (by decide) rfl⟩

/- slices.ContainsFunc[[]impl.Point,impl.Point] -/
def sh136f137 (q0 : List SPoint) : Option (Bool) := Option.bind (sh200f137 q0) fun x1 => some (decide (0 ≤ x1))
def T136f137 (r : Bool) (v : Value) (rs : List Own) : Prop := v = rets [.bool r] ∧ rs = []
set_option maxRecDepth 100000 in
theorem c136f137 {w : World} {q0 : List SPoint} {a_0 : Option Addr} {n_0 c_0 : Nat} (g_0 : Rd w a_0 (eSPoint.fl q0)) (l_0 : q0.length = n_0) (k_0 : n_0 ≤ c_0) {r : Bool} (hres : sh136f137 q0 = some r) : Calls Go.Proofs.Try.prog 136 [.slice a_0 n_0 c_0, .func (.func 137) #[] #[]].toArray w (Ret w (T136f137 r)) := by
  subst l_0
  unfold sh136f137 at hres
  refine calls_of (n := 9) (M := []) (es := []) Go.Proofs.Try.func136 rfl rfl rfl (Sep.nil _ _ _) ?_
  refine JX.seq ?_
  refine JX.region ?_
  refine JL.val (yl_assign rfl) rfl ?_
  refine JL.nil ?_
  refine JE.code ?_
  refine JX.seq ?_
  refine JX.region ?_
  refine JL.val (yl_move rfl) rfl ?_
  refine JL.val (yl_move rfl) rfl ?_
  obtain ⟨x1, hx1, hres⟩ := bind_some hres
  refine JL.eff (ef_call (T := T200f137 x1) Go.Proofs.Try.func200 rfl (by kernel_rfl) rfl (fun w hC => c200f137 (rd_arg g_0 hC) rfl k_0 hx1)) rfl ?_
  rintro _ _ ⟨_, ⟨rfl, rfl⟩, rfl⟩
  refine JL.val (yl_geq rfl rfl) rfl ?_
  refine JL.val (yl_assign rfl) rfl ?_
  refine JL.nil ?_
  refine JE.weak (env' := [(4, .bool (decide (0 ≤ x1)))]) (es' := []) [] ?_ ⟨rfl, trivial⟩ (by decide) rfl
  refine JE.code ?_
  refine JX.ret ?_
  obtain rfl := Option.some.inj hres
  refine JE.ret (rs := [.tmp 4]) (vs := [.bool (decide (0 ≤ x1))]) rfl ⟨rfl, trivial⟩ ?_
  exact fun w' hb hs => ⟨_, _, ⟨rfl, rfl⟩, rfl, hb, hs.sel [] _ (by decide) rfl⟩

/- impl.ValidStroke -/
def sh47 (q0 : List SPoint) : Option (Bool) := Option.bind (sh107 (q0.length : Int) 1 60) fun x1 => Option.bind (bif x1 then (Option.bind (sh136f137 q0) fun x3 => some !x3) else (some false)) fun cb2 => (some cb2)
def T47 (r : Bool) (v : Value) (rs : List Own) : Prop := v = rets [.bool r] ∧ rs = []
set_option maxRecDepth 100000 in
theorem c47 {w : World} {q0 : List SPoint} {a_0 : Option Addr} {n_0 c_0 : Nat} (g_0 : Rd w a_0 (eSPoint.fl q0)) (l_0 : q0.length = n_0) (k_0 : n_0 ≤ c_0) {r : Bool} (hres : sh47 q0 = some r) : Calls Go.Proofs.Try.prog 47 [.slice a_0 n_0 c_0].toArray w (Ret w (T47 r)) := by
  subst l_0
  unfold sh47 at hres
  refine calls_of (n := 11) (M := []) (es := []) Go.Proofs.Try.func47 rfl rfl rfl (Sep.nil _ _ _) ?_
  refine JX.seq ?_
  refine JX.region ?_
  refine JL.val (yl_assign rfl) rfl ?_
  refine JL.nil ?_
  refine JE.code ?_
  refine JX.seq ?_
  refine JX.region ?_
  refine JL.val (yl_move rfl) rfl ?_
  refine JL.val (yl_len_slice Go.Proofs.Try.underlying34 rfl) rfl ?_
  obtain ⟨x1, hx1, hres⟩ := bind_some hres
  refine JL.eff (ef_call (T := T107 x1) Go.Proofs.Try.func107 rfl (by kernel_rfl) rfl (fun w hC => c107  hx1)) rfl ?_
  rintro _ _ ⟨_, ⟨rfl, rfl⟩, rfl⟩
  refine JL.val (yl_move rfl) rfl ?_
  obtain ⟨cb2, hcb2, hres⟩ := bind_some hres
  refine JL.cut (K := fun J => J [(10, .bool cb2)] []) 4 ?_ ?_
  · refine JL.val (yl_assign rfl) rfl ?_
    refine JL.nil ?_
    refine JE.weak (env' := [(2, .bool cb2)]) (es' := []) [] ?_ ⟨rfl, trivial⟩ (by decide) rfl
    refine JE.code ?_
    refine JX.ret ?_
    obtain rfl := Option.some.inj hres
    refine JE.ret (rs := [.tmp 2]) (vs := [.bool cb2]) rfl ⟨rfl, trivial⟩ ?_
    exact fun w' hb hs => ⟨_, _, ⟨rfl, rfl⟩, rfl, hb, hs.sel [] _ (by decide) rfl⟩
  · intro K
    rcases cond_some hcb2 with ⟨hb, hres⟩ | ⟨hb, hres⟩
    · refine JL.set (d := 6) (v := .bool true) (congrArg (fun b => some (Value.bool b)) hb) ?_
      refine JL.gval rfl rfl (yl_move rfl) rfl ?_
      obtain ⟨x3, hx3, hres⟩ := bind_some hres
      refine JL.geff rfl rfl (ef_call (T := T136f137 x3) Go.Proofs.Try.func136 rfl (by kernel_rfl) rfl (fun w hC => c136f137 (rd_arg g_0 hC) rfl k_0 hx3)) rfl ?_
      rintro _ _ ⟨_, ⟨rfl, rfl⟩, rfl⟩
      refine JL.gval rfl rfl (yl_not rfl) rfl ?_
      refine JL.val (yl_pick_true rfl rfl) rfl ?_
      have he := Option.some.inj hres
      exact JL.weak [] K ⟨(by rw [← he]; rfl), trivial⟩ (by decide) rfl
    · refine JL.set (d := 6) (v := .bool false) (congrArg (fun b => some (Value.bool b)) hb) ?_
      refine JL.gskip rfl rfl rfl rfl ?_
      refine JL.gskip rfl rfl rfl rfl ?_
      refine JL.gskip rfl rfl rfl rfl ?_
      refine JL.val (yl_pick_false rfl rfl) rfl ?_
      have he := Option.some.inj hres
      exact JL.weak [] K ⟨(by rw [← he]; rfl), trivial⟩ (by decide) rfl

/- impl.Decimal -/
def sh165_1 : (Int × Int × List Int) → Option ((Int × Int × List Int) ⊕ (Int × List Int))
  | (x5, x6, x7) => bif decide (0 < x6) then (Option.bind (getI x7 (w64 (x5 - 1))) fun x9 => some (.inl (w64 (x5 - 1), IntKind.u64.wrap (x6.tdiv 10), x7.set (w64 (x5 - 1)).toNat (IntKind.u8.wrap (IntKind.u64.wrap (48 + (x6.tmod 10))))))) else (some (.inr (x5, x7)))
def sh165 (q0 : Int) : Option (ByteArray) := bif q0 == 0 then (some (ByteArray.mk #[48])) else (Option.bind (bif decide (q0 < 0) then (some (IntKind.u64.wrap (0 - (IntKind.u64.wrap (q0))))) else (some (IntKind.u64.wrap (q0)))) fun j3 => (Option.bind (iter (sh165_1) (20, j3, List.replicate 20 (0 : Int))) fun b1 => (Option.bind (bif decide (q0 < 0) then (Option.bind (getI b1.2 (w64 (b1.1 - 1))) fun x15 => some (w64 (b1.1 - 1), b1.2.set (w64 (b1.1 - 1)).toNat 45)) else (some (b1.1, b1.2))) fun j11 => (Option.bind (dropL j11.2 j11.1) fun x13 => some (bytesS x13)))))
def T165 (r : ByteArray) (v : Value) (rs : List Own) : Prop := v = rets [.string r] ∧ rs = []
set_option maxRecDepth 100000 in
theorem c165 {w : World} {q0 : Int} {r : ByteArray} (hres : sh165 q0 = some r) : Calls Go.Proofs.Try.prog 165 [.int .i64 q0].toArray w (Ret w (T165 r)) := by
  unfold sh165 at hres
  refine calls_of (n := 36) (M := []) (es := []) Go.Proofs.Try.func165 rfl rfl rfl (Sep.nil _ _ _) ?_
  refine JX.seq ?_
  refine JX.region ?_
  refine JL.val (yl_assign rfl) rfl ?_
  refine JL.nil ?_
  refine JE.code ?_
  refine JX.seq ?_
  refine JX.seq ?_
  refine JX.region ?_
  refine JL.val (yl_move rfl) rfl ?_
  refine JL.val (yl_eql rfl rfl) rfl ?_
  refine JL.nil ?_
  refine JE.code ?_
  rcases cond_some hres with ⟨hb, hres⟩ | ⟨hb, hres⟩
  · refine JX.condT rfl hb ?_
    refine JX.seq ?_
    refine JX.region ?_
    refine JL.val (yl_assign rfl) rfl ?_
    refine JL.nil ?_
    refine JE.code ?_
    refine JX.ret ?_
    obtain rfl := Option.some.inj hres
    refine JE.ret (rs := [.tmp 2]) (vs := [.string (ByteArray.mk #[48])]) rfl ⟨rfl, trivial⟩ ?_
    exact fun w' hb hs => ⟨_, _, ⟨rfl, rfl⟩, rfl, hb, hs.sel [] _ (by decide) rfl⟩
  · refine JX.condF rfl hb ?_
    refine JX.skip ?_
    refine JE.code ?_
    refine JX.seq ?_
    refine JX.region ?_
    refine JL.val (yl_build rfl (fun w => bld188_  w)) rfl ?_
    refine JL.eff (ef_alloc i188 i188z rfl) rfl ?_
    rintro _ _ ⟨g1, rfl, rfl⟩
    refine JL.boxrow eU8 0 (m := 20) (List.replicate 20 (0 : Int)) rfl rfl (Nat.le_of_ble_eq_true rfl) rfl ?_
    refine JL.eff (ef_storeArr (ix := 0) (ys := List.replicate 20 (0 : Int)) i188 rfl rfl rfl rfl (i188s.trans rfl) i188p rfl) rfl ?_
    rintro _ _ rfl
    refine JL.nil ?_
    refine JE.code ?_
    refine JX.seq ?_
    refine JX.region ?_
    refine JL.val (yl_assign rfl) rfl ?_
    refine JL.nil ?_
    refine JE.code ?_
    refine JX.seq ?_
    refine JX.region ?_
    refine JL.val (yl_move rfl) rfl ?_
    refine JL.val (yl_conv Go.Proofs.Try.underlying2 Go.Proofs.Try.underlying161 rfl) rfl ?_
    refine JL.val (yl_assign rfl) rfl ?_
    refine JL.nil ?_
    refine JE.code ?_
    refine JX.seq ?_
    refine JX.seq ?_
    refine JX.region ?_
    refine JL.val (yl_move rfl) rfl ?_
    refine JL.val (yl_lss rfl rfl) rfl ?_
    refine JL.nil ?_
    refine JE.code ?_
    obtain ⟨j3, hj3, hresj3⟩ := bind_some hres
    refine JX.cut (K := fun J => J [(0, .int .i64 q0), (3, ptrAt (some ⟨g1, 0, none⟩) 0), (4, .int .i64 20), (5, .int .u64 j3)] [rowT 188 eU8 (some ⟨g1, 0, none⟩) 20 20 (List.replicate 20 (0 : Int))]) ?_ ?_
    · have hres := hresj3
      refine JE.code ?_
      refine JX.seq ?_
      refine JX.block ?_
      obtain ⟨y1, hy1, hresO1⟩ := bind_some hres
      refine JX.loop (I := fun (s1 : Int × Int × List Int) aa ww => ∃ (l4 : s1.2.2.length = 20), St w [] 36 [(0, .int .i64 q0), (3, ptrAt (some ⟨g1, 0, none⟩) 0), (4, .int .i64 s1.1), (5, .int .u64 s1.2.1)] [rowT 188 eU8 (some ⟨g1, 0, none⟩) 20 20 s1.2.2] aa ww) (sh165_1) hy1 (fun a w h => ⟨(rfl : (List.replicate 20 (0 : Int)).length = 20), h.weak ⟨rfl, rfl, rfl, rfl, trivial⟩ [0] (by decide) rfl⟩) ?_
      rintro ⟨x5, x6, x7⟩ o1 hres hox1 aa ww ⟨l8, hS⟩
      refine (?_ : JX Go.Proofs.Try.prog w [] 36 _ _ [(0, .int .i64 q0), (3, ptrAt (some ⟨g1, 0, none⟩) 0), (4, .int .i64 x5), (5, .int .u64 x6)] [rowT 188 eU8 (some ⟨g1, 0, none⟩) 20 20 x7] _) aa ww hS
      clear hS
      simp only [sh165_1] at hres
      refine JX.seq ?_
      refine JX.seq ?_
      refine JX.region ?_
      refine JL.val (yl_move rfl) rfl ?_
      refine JL.val (yl_gtr rfl rfl) rfl ?_
      refine JL.nil ?_
      refine JE.code ?_
      rcases cond_some hres with ⟨hb, hres⟩ | ⟨hb, hres⟩
      · refine JX.condT rfl hb ?_
        refine JX.skip ?_
        refine JE.code ?_
        refine JX.block ?_
        refine JX.seq ?_
        refine JX.region ?_
        refine JL.val (yl_move rfl) rfl ?_
        refine JL.val (yl_sub rfl rfl) rfl ?_
        refine JL.val (yl_assign rfl) rfl ?_
        refine JL.nil ?_
        refine JE.code ?_
        refine JX.seq ?_
        refine JX.region ?_
        refine JL.val (yl_move rfl) rfl ?_
        refine JL.val (yl_move rfl) rfl ?_
        refine JL.val (yl_rem rfl rfl (by decide)) rfl ?_
        refine JL.val (yl_add rfl rfl) rfl ?_
        refine JL.val (yl_conv Go.Proofs.Try.underlying161 Go.Proofs.Try.underlying5 rfl) rfl ?_
        obtain ⟨x9, hx9, hres⟩ := bind_some hres
        refine JL.val (yl_idxArr (e := eU8) Go.Proofs.Try.underlying188 i5 i5s rfl rfl hx9 l8) rfl ?_
        refine JL.eff (ef_storeT (ix := 0) (u := IntKind.u8.wrap (IntKind.u64.wrap (48 + (x6.tmod 10)))) i5 i5s rfl rfl rfl hx9 rfl) rfl ?_
        rintro _ _ rfl
        refine JL.nil ?_
        refine JE.weak (env' := [(0, .int .i64 q0), (3, ptrAt (some ⟨g1, 0, none⟩) 0), (4, .int .i64 (w64 (x5 - 1))), (5, .int .u64 x6)]) (es' := [rowT 188 eU8 (some ⟨g1, 0, none⟩) 20 20 (x7.set (w64 (x5 - 1)).toNat (IntKind.u8.wrap (IntKind.u64.wrap (48 + (x6.tmod 10)))))]) [0] ?_ ⟨rfl, rfl, rfl, rfl, trivial⟩ (by decide) rfl
        refine JE.code ?_
        refine JX.region ?_
        refine JL.val (yl_move rfl) rfl ?_
        refine JL.val (yl_quo rfl rfl (by decide)) rfl ?_
        refine JL.val (yl_assign rfl) rfl ?_
        refine JL.nil ?_
        refine JE.cont hres ?_
        exact fun a w h => ⟨(List.length_set.trans l8), h.weak ⟨rfl, rfl, rfl, rfl, trivial⟩ [0] (by decide) rfl⟩
      · refine JX.condF rfl hb ?_
        refine JX.exit ?_
        refine JE.qb rfl ?_
        obtain ⟨b1, hb1⟩ : ∃ b : Int × List Int, b = (x5, x7) := ⟨_, rfl⟩
        have hy1 : b1 = y1 := by rw [hb1]; exact hox1 _ (Option.some.inj hres).symm
        have hres := hresO1
        rw [← hy1] at hres
        have l10 : b1.2.length = 20 := by subst hb1; exact l8
        refine JE.weak (env' := [(0, .int .i64 q0), (3, ptrAt (some ⟨g1, 0, none⟩) 0), (4, .int .i64 b1.1)]) (es' := [rowT 188 eU8 (some ⟨g1, 0, none⟩) 20 20 b1.2]) [0] ?_ ⟨(by subst hb1; rfl), (by subst hb1; rfl), (by subst hb1; rfl), trivial⟩ (by decide) (by subst hb1; rfl)
        refine JE.code ?_
        refine JX.seq ?_
        refine JX.seq ?_
        refine JX.region ?_
        refine JL.val (yl_move rfl) rfl ?_
        refine JL.val (yl_lss rfl rfl) rfl ?_
        refine JL.nil ?_
        refine JE.code ?_
        obtain ⟨j11, hj11, hresj11⟩ := bind_some hres
        refine JX.cut (K := fun J => ∀ (l12 : j11.2.length = 20), J [(3, ptrAt (some ⟨g1, 0, none⟩) 0), (4, .int .i64 j11.1)] [rowT 188 eU8 (some ⟨g1, 0, none⟩) 20 20 j11.2]) ?_ ?_
        · intro l12
          have hres := hresj11
          refine JE.code ?_
          refine JX.seq ?_
          refine JX.region ?_
          refine JL.val (yl_move rfl) rfl ?_
          obtain ⟨x13, hx13, hres⟩ := bind_some hres
          refine JL.val (yl_dropArr (e := eU8) Go.Proofs.Try.underlying188 i5 i5s rfl rfl hx13 l12) rfl ?_
          refine JL.val (yl_bytesT Go.Proofs.Try.underlying22 Go.Proofs.Try.underlying9 Go.Proofs.Try.underlying5 rfl (dropL_len hx13 l12) (fun w hC => Rd.dropT (rd_row hC 0 rfl) hx13 l12 (Nat.le_refl _))) rfl ?_
          refine JL.val (yl_assign rfl) rfl ?_
          refine JL.nil ?_
          refine JE.weak (env' := [(2, .string (bytesS x13))]) (es' := []) [] ?_ ⟨rfl, trivial⟩ (by decide) rfl
          refine JE.code ?_
          refine JX.ret ?_
          obtain rfl := Option.some.inj hres
          refine JE.ret (rs := [.tmp 2]) (vs := [.string (bytesS x13)]) rfl ⟨rfl, trivial⟩ ?_
          exact fun w' hb hs => ⟨_, _, ⟨rfl, rfl⟩, rfl, hb, hs.sel [] _ (by decide) rfl⟩
        · intro K
          rcases cond_some hj11 with ⟨hb, hres⟩ | ⟨hb, hres⟩
          · refine JX.condT rfl hb ?_
            refine JX.seq ?_
            refine JX.region ?_
            refine JL.val (yl_move rfl) rfl ?_
            refine JL.val (yl_sub rfl rfl) rfl ?_
            refine JL.val (yl_assign rfl) rfl ?_
            refine JL.nil ?_
            refine JE.code ?_
            refine JX.region ?_
            refine JL.val (yl_move rfl) rfl ?_
            obtain ⟨x15, hx15, hres⟩ := bind_some hres
            refine JL.val (yl_idxArr (e := eU8) Go.Proofs.Try.underlying188 i5 i5s rfl rfl hx15 l10) rfl ?_
            refine JL.eff (ef_storeT (ix := 0) (u := 45) i5 i5s rfl rfl rfl hx15 rfl) rfl ?_
            rintro _ _ rfl
            refine JL.nil ?_
            have hj := Option.some.inj hres
            exact JE.weak [0] (K (by subst hj; exact (List.length_set.trans l10))) ⟨(by subst hj; rfl), (by subst hj; rfl), trivial⟩ (by decide) (by subst hj; rfl)
          · refine JX.condF rfl hb ?_
            refine JX.skip ?_
            have hj := Option.some.inj hres
            exact JE.weak [0] (K (by subst hj; exact l10)) ⟨(by subst hj; rfl), (by subst hj; rfl), trivial⟩ (by decide) (by subst hj; rfl)
    · intro K
      rcases cond_some hj3 with ⟨hb, hres⟩ | ⟨hb, hres⟩
      · refine JX.condT rfl hb ?_
        refine JX.region ?_
        refine JL.val (yl_move rfl) rfl ?_
        refine JL.val (yl_neg rfl) rfl ?_
        refine JL.val (yl_assign rfl) rfl ?_
        refine JL.nil ?_
        have hj := Option.some.inj hres
        exact JE.weak [0] (K) ⟨(by subst hj; rfl), (by subst hj; rfl), (by subst hj; rfl), (by subst hj; rfl), trivial⟩ (by decide) (by subst hj; rfl)
      · refine JX.condF rfl hb ?_
        refine JX.skip ?_
        have hj := Option.some.inj hres
        exact JE.weak [0] (K) ⟨(by subst hj; rfl), (by subst hj; rfl), (by subst hj; rfl), (by subst hj; rfl), trivial⟩ (by decide) (by subst hj; rfl)

/- impl.joined -/
def sh166_1 (q0 : List ByteArray) (q1 : ByteArray) : (ByteArray × Int) → Option ((ByteArray × Int) ⊕ (ByteArray))
  | (x1, x2) => bif decide (x2 < (q0.length : Int)) then (Option.bind (getI q0 x2) fun x3 => Option.bind (bif decide (0 < x2) then (Option.bind (catS x1 q1) fun x6 => some x6) else (some x1)) fun j4 => (Option.bind (catS j4 x3) fun x5 => some (.inl (x5, w64 (x2 + 1))))) else (some (.inr x1))
def sh166 (q0 : List ByteArray) (q1 : ByteArray) : Option (ByteArray) := Option.bind (iter (sh166_1 q0 q1) (ByteArray.mk #[], 0)) fun b1 => (some b1)
def T166 (r : ByteArray) (v : Value) (rs : List Own) : Prop := v = rets [.string r] ∧ rs = []
set_option maxRecDepth 100000 in
theorem c166 {w : World} {q0 : List ByteArray} {a_0 : Option Addr} {n_0 c_0 : Nat} (g_0 : Rd w a_0 (eStr.fl q0)) (l_0 : q0.length = n_0) (k_0 : n_0 ≤ c_0) {q1 : ByteArray} {r : ByteArray} (hres : sh166 q0 q1 = some r) : Calls Go.Proofs.Try.prog 166 [.slice a_0 n_0 c_0, .string q1].toArray w (Ret w (T166 r)) := by
  subst l_0
  unfold sh166 at hres
  refine calls_of (n := 25) (M := []) (es := []) Go.Proofs.Try.func166 rfl rfl rfl (Sep.nil _ _ _) ?_
  refine JX.seq ?_
  refine JX.region ?_
  refine JL.val (yl_assign rfl) rfl ?_
  refine JL.nil ?_
  refine JE.code ?_
  refine JX.seq ?_
  refine JX.region ?_
  refine JL.val (yl_assign rfl) rfl ?_
  refine JL.nil ?_
  refine JE.code ?_
  refine JX.seq ?_
  refine JX.seq ?_
  refine JX.region ?_
  refine JL.val (yl_move rfl) rfl ?_
  refine JL.val (yl_len_slice Go.Proofs.Try.underlying150 rfl) rfl ?_
  refine JL.val (yl_move rfl) rfl ?_
  refine JL.nil ?_
  refine JE.code ?_
  refine JX.block ?_
  obtain ⟨y1, hy1, hresO1⟩ := bind_some hres
  refine JX.loop (I := fun (s1 : ByteArray × Int) aa ww => St w [] 25 [(1, .string q1), (5, .string s1.1), (8, .slice a_0 q0.length c_0), (9, .int .i64 (q0.length : Int)), (10, .int .i64 s1.2)] [] aa ww) (sh166_1 q0 q1) hy1 (fun a w h => h.weak ⟨rfl, rfl, rfl, rfl, rfl, trivial⟩ [] (by decide) rfl) ?_
  rintro ⟨x1, x2⟩ o1 hres hox1 aa ww hS
  refine (?_ : JX Go.Proofs.Try.prog w [] 25 _ _ [(1, .string q1), (5, .string x1), (8, .slice a_0 q0.length c_0), (9, .int .i64 (q0.length : Int)), (10, .int .i64 x2)] [] _) aa ww hS
  clear hS
  simp only [sh166_1] at hres
  refine JX.seq ?_
  refine JX.region ?_
  refine JL.val (yl_lss rfl rfl) rfl ?_
  refine JL.nil ?_
  refine JE.code ?_
  refine JX.seq ?_
  rcases cond_some hres with ⟨hb, hres⟩ | ⟨hb, hres⟩
  · refine JX.condT rfl hb ?_
    refine JX.skip ?_
    refine JE.code ?_
    refine JX.seq ?_
    refine JX.block ?_
    refine JX.seq ?_
    refine JX.region ?_
    refine JL.val (yl_move rfl) rfl ?_
    obtain ⟨x3, hx3, hres⟩ := bind_some hres
    refine JL.val (yl_idxT Go.Proofs.Try.underlying150 i9 i9s rfl rfl hx3 rfl (fun w hC => rd_arg g_0 hC)) rfl ?_
    refine JL.val (yl_loadT0 Go.Proofs.Try.underlying9 rfl rfl hx3 (fun w hC => rd_arg g_0 hC) rfl) rfl ?_
    refine JL.val (yl_assign rfl) rfl ?_
    refine JL.val (yl_assign rfl) rfl ?_
    refine JL.nil ?_
    refine JE.weak (env' := [(1, .string q1), (5, .string x1), (6, .int .i64 x2), (7, .string x3), (8, .slice a_0 q0.length c_0), (9, .int .i64 (q0.length : Int)), (10, .int .i64 x2)]) (es' := []) [] ?_ ⟨rfl, rfl, rfl, rfl, rfl, rfl, rfl, trivial⟩ (by decide) rfl
    refine JE.code ?_
    refine JX.seq ?_
    refine JX.seq ?_
    refine JX.region ?_
    refine JL.val (yl_move rfl) rfl ?_
    refine JL.val (yl_gtr rfl rfl) rfl ?_
    refine JL.nil ?_
    refine JE.code ?_
    obtain ⟨j4, hj4, hresj4⟩ := bind_some hres
    refine JX.cut (K := fun J => J [(1, .string q1), (5, .string j4), (7, .string x3), (8, .slice a_0 q0.length c_0), (9, .int .i64 (q0.length : Int)), (10, .int .i64 x2)] []) ?_ ?_
    · have hres := hresj4
      refine JE.code ?_
      refine JX.region ?_
      refine JL.val (yl_move rfl) rfl ?_
      refine JL.val (yl_move rfl) rfl ?_
      obtain ⟨x5, hx5, hres⟩ := bind_some hres
      refine JL.val (yl_catS rfl rfl hx5) rfl ?_
      refine JL.val (yl_assign rfl) rfl ?_
      refine JL.nil ?_
      refine JE.weak (env' := [(1, .string q1), (5, .string x5), (8, .slice a_0 q0.length c_0), (9, .int .i64 (q0.length : Int)), (10, .int .i64 x2)]) (es' := []) [] ?_ ⟨rfl, rfl, rfl, rfl, rfl, trivial⟩ (by decide) rfl
      refine JE.code ?_
      refine JX.region ?_
      refine JL.val (yl_add rfl rfl) rfl ?_
      refine JL.val (yl_move rfl) rfl ?_
      refine JL.nil ?_
      refine JE.cont hres ?_
      exact fun a w h => h.weak ⟨rfl, rfl, rfl, rfl, rfl, trivial⟩ [] (by decide) rfl
    · intro K
      rcases cond_some hj4 with ⟨hb, hres⟩ | ⟨hb, hres⟩
      · refine JX.condT rfl hb ?_
        refine JX.region ?_
        refine JL.val (yl_move rfl) rfl ?_
        refine JL.val (yl_move rfl) rfl ?_
        obtain ⟨x6, hx6, hres⟩ := bind_some hres
        refine JL.val (yl_catS rfl rfl hx6) rfl ?_
        refine JL.val (yl_assign rfl) rfl ?_
        refine JL.nil ?_
        refine JE.weak (env' := [(1, .string q1), (5, .string x6), (7, .string x3), (8, .slice a_0 q0.length c_0), (9, .int .i64 (q0.length : Int)), (10, .int .i64 x2)]) (es' := []) [] ?_ ⟨rfl, rfl, rfl, rfl, rfl, rfl, trivial⟩ (by decide) rfl
        have hj := Option.some.inj hres
        exact JE.weak [] (K) ⟨(by subst hj; rfl), (by subst hj; rfl), (by subst hj; rfl), (by subst hj; rfl), (by subst hj; rfl), (by subst hj; rfl), trivial⟩ (by decide) (by subst hj; rfl)
      · refine JX.condF rfl hb ?_
        refine JX.skip ?_
        have hj := Option.some.inj hres
        exact JE.weak [] (K) ⟨(by subst hj; rfl), (by subst hj; rfl), (by subst hj; rfl), (by subst hj; rfl), (by subst hj; rfl), (by subst hj; rfl), trivial⟩ (by decide) (by subst hj; rfl)
  · refine JX.condF rfl hb ?_
    refine JX.exit ?_
    refine JE.qb rfl ?_
    obtain ⟨b1, hb1⟩ : ∃ b : ByteArray, b = x1 := ⟨_, rfl⟩
    have hy1 : b1 = y1 := by rw [hb1]; exact hox1 _ (Option.some.inj hres).symm
    have hres := hresO1
    rw [← hy1] at hres
    refine JE.weak (env' := [(5, .string b1)]) (es' := []) [] ?_ ⟨(by subst hb1; rfl), trivial⟩ (by decide) (by subst hb1; rfl)
    refine JE.code ?_
    refine JX.seq ?_
    refine JX.region ?_
    refine JL.val (yl_move rfl) rfl ?_
    refine JL.val (yl_assign rfl) rfl ?_
    refine JL.nil ?_
    refine JE.code ?_
    refine JX.ret ?_
    obtain rfl := Option.some.inj hres
    refine JE.ret (rs := [.tmp 4]) (vs := [.string b1]) rfl ⟨rfl, trivial⟩ ?_
    exact fun w' hb hs => ⟨_, _, ⟨rfl, rfl⟩, rfl, hb, hs.sel [] _ (by decide) rfl⟩

/- impl.StrokeText -/
def sh79_1 (q0 : List SPoint) : (Int × List ByteArray) → Option ((Int × List ByteArray) ⊕ (List ByteArray))
  | (x6, x7) => bif decide (x6 < (q0.length : Int)) then (Option.bind (getI q0 x6) fun x10 => Option.bind (sh165 x10.X) fun x14 => Option.bind (catS x14 (ByteArray.mk #[44])) fun x15 => Option.bind (sh165 x10.Y) fun x16 => Option.bind (catS x15 x16) fun x17 => Option.bind (appL x7 [x17]) fun x20 => some (.inl (w64 (x6 + 1), x20))) else (some (.inr x7))
def sh79 (q0 : List SPoint) : Option (ByteArray) := Option.bind (sh47 q0) fun x1 => bif !x1 then (some (ByteArray.mk #[])) else (Option.bind (iter (sh79_1 q0) (0, ([] : List ByteArray))) fun b1 => (Option.bind (sh166 b1 (ByteArray.mk #[32])) fun x25 => some x25))
def T79 (r : ByteArray) (v : Value) (rs : List Own) : Prop := v = rets [.string r] ∧ rs = []
set_option maxRecDepth 100000 in
theorem c79 {w : World} {q0 : List SPoint} {a_0 : Option Addr} {n_0 c_0 : Nat} (g_0 : Rd w a_0 (eSPoint.fl q0)) (l_0 : q0.length = n_0) (k_0 : n_0 ≤ c_0) {r : ByteArray} (hres : sh79 q0 = some r) : Calls Go.Proofs.Try.prog 79 [.slice a_0 n_0 c_0].toArray w (Ret w (T79 r)) := by
  subst l_0
  unfold sh79 at hres
  refine calls_of (n := 30) (M := []) (es := []) Go.Proofs.Try.func79 rfl rfl rfl (Sep.nil _ _ _) ?_
  refine JX.seq ?_
  refine JX.region ?_
  refine JL.val (yl_assign rfl) rfl ?_
  refine JL.nil ?_
  refine JE.code ?_
  refine JX.seq ?_
  refine JX.seq ?_
  refine JX.region ?_
  refine JL.val (yl_move rfl) rfl ?_
  obtain ⟨x1, hx1, hres⟩ := bind_some hres
  refine JL.eff (ef_call (T := T47 x1) Go.Proofs.Try.func47 rfl (by kernel_rfl) rfl (fun w hC => c47 (rd_arg g_0 hC) rfl k_0 hx1)) rfl ?_
  rintro _ _ ⟨_, ⟨rfl, rfl⟩, rfl⟩
  refine JL.val (yl_not rfl) rfl ?_
  refine JL.nil ?_
  refine JE.code ?_
  rcases cond_some hres with ⟨hb, hres⟩ | ⟨hb, hres⟩
  · refine JX.condT rfl hb ?_
    refine JX.seq ?_
    refine JX.region ?_
    refine JL.val (yl_assign rfl) rfl ?_
    refine JL.nil ?_
    refine JE.code ?_
    refine JX.ret ?_
    obtain rfl := Option.some.inj hres
    refine JE.ret (rs := [.tmp 2]) (vs := [.string (ByteArray.mk #[])]) rfl ⟨rfl, trivial⟩ ?_
    exact fun w' hb hs => ⟨_, _, ⟨rfl, rfl⟩, rfl, hb, hs.sel [] _ (by decide) rfl⟩
  · refine JX.condF rfl hb ?_
    refine JX.skip ?_
    refine JE.code ?_
    refine JX.seq ?_
    refine JX.region ?_
    refine JL.eff (ef_buildSlice (E := 9) (k := eStr.k) (us := eStr.fl ([] : List ByteArray)) rfl (fun w => bsl150_0  w) rfl (by decide)) rfl ?_
    rintro _ _ ⟨a2, rfl, rfl⟩
    refine JL.val (yl_assign rfl) rfl ?_
    refine JL.nil ?_
    refine JE.code ?_
    refine JX.seq ?_
    refine JX.seq ?_
    refine JX.region ?_
    refine JL.val (yl_move rfl) rfl ?_
    refine JL.val (yl_len_slice Go.Proofs.Try.underlying34 rfl) rfl ?_
    refine JL.val (yl_move rfl) rfl ?_
    refine JL.nil ?_
    refine JE.code ?_
    refine JX.block ?_
    obtain ⟨y1, hy1, hresO1⟩ := bind_some hres
    refine JX.loop (I := fun (s1 : Int × List ByteArray) aa ww => ∃ (a4 : Option Addr) (cp5 : Nat), St w [] 30 [(3, .slice a4 s1.2.length cp5), (10, .slice a_0 q0.length c_0), (11, .int .i64 (q0.length : Int)), (12, .int .i64 s1.1)] [rowT 9 eStr a4 s1.2.length cp5 s1.2] aa ww) (sh79_1 q0) hy1 (fun a w h => ⟨a2, 0, h.weak ⟨rfl, rfl, rfl, rfl, trivial⟩ [0] (by decide) rfl⟩) ?_
    rintro ⟨x6, x7⟩ o1 hres hox1 aa ww ⟨a8, cp9, hS⟩
    refine (?_ : JX Go.Proofs.Try.prog w [] 30 _ _ [(3, .slice a8 x7.length cp9), (10, .slice a_0 q0.length c_0), (11, .int .i64 (q0.length : Int)), (12, .int .i64 x6)] [rowT 9 eStr a8 x7.length cp9 x7] _) aa ww hS
    clear hS
    simp only [sh79_1] at hres
    refine JX.seq ?_
    refine JX.region ?_
    refine JL.val (yl_lss rfl rfl) rfl ?_
    refine JL.nil ?_
    refine JE.code ?_
    refine JX.seq ?_
    rcases cond_some hres with ⟨hb, hres⟩ | ⟨hb, hres⟩
    · refine JX.condT rfl hb ?_
      refine JX.skip ?_
      refine JE.code ?_
      refine JX.seq ?_
      refine JX.block ?_
      refine JX.seq ?_
      refine JX.region ?_
      obtain ⟨x10, hx10, hres⟩ := bind_some hres
      refine JL.val (yl_idxT Go.Proofs.Try.underlying34 i42 i42s rfl rfl hx10 rfl (fun w hC => rd_arg g_0 hC)) rfl ?_
      refine JL.val (yl_loadTn Go.Proofs.Try.underlying42 rfl i42 i42s rfl hx10 (fun w hC => rd_arg g_0 hC)) rfl ?_
      refine JL.eff (ef_alloc i42 i42z rfl) rfl ?_
      rintro _ _ ⟨g11, rfl, rfl⟩
      refine JL.eff (ef_store_box (i := 1) (v := .agg #[.int .i64 x10.X, .int .i64 x10.Y]) i42 rfl rfl rfl (i42s).symm (Nat.le_of_ble_eq_true rfl) (by simp [Value.cells, Value.oneCell'])) rfl ?_
      rintro _ _ rfl
      refine JL.nil ?_
      refine JE.weak (env' := [(3, .slice a8 x7.length cp9), (5, ptrAt (some ⟨g11, 0, none⟩) 0), (10, .slice a_0 q0.length c_0), (11, .int .i64 (q0.length : Int)), (12, .int .i64 x6)]) (es' := [rowT 9 eStr a8 x7.length cp9 x7, boxO 42 g11 [.int .i64 x10.X, .int .i64 x10.Y]]) [0, 1] ?_ ⟨rfl, rfl, rfl, rfl, rfl, trivial⟩ (by decide) rfl
      refine JE.code ?_
      refine JX.drawH [(0, .pure), (1, .pure), (2, .read), (5, .pure), (6, .read), (3, .must), (4, .pure), (7, .must), (8, .pure), (9, .must), (10, .must), (11, .pure)] [10] [0] [1] [rowT 9 eStr a8 x7.length cp9 x7] [boxO 42 g11 [.int .i64 x10.X, .int .i64 x10.Y]] mixedP (by kernel_rfl) (by kernel_rfl) (by decide) rfl rfl ?_
      intro wrr13 Nr13 hFr13
      refine JH.pure rfl (yl_move rfl) rfl ?_
      refine JH.pure rfl (yl_fieldAt (a := some _) Go.Proofs.Try.underlying42 rfl i2 i2n rfl rfl) rfl ?_
      refine JH.read rfl (yl_load1 Go.Proofs.Try.underlying2 rfl rfl (fun w hw => hFr13.box 1 rfl rfl hw) rfl) rfl ?_
      refine JH.pure rfl (yl_fieldAt (a := some _) Go.Proofs.Try.underlying42 rfl i2 i2n rfl rfl) rfl ?_
      refine JH.read rfl (yl_load1 Go.Proofs.Try.underlying2 rfl rfl (fun w hw => hFr13.box 1 rfl rfl hw) rfl) rfl ?_
      obtain ⟨x14, hx14, hres⟩ := bind_some hres
      refine JH.must rfl (ef_call (T := T165 x14) Go.Proofs.Try.func165 rfl (by kernel_rfl) rfl (fun w hC => c165  hx14)) rfl rfl ?_
      rintro _ _ ⟨_, ⟨rfl, rfl⟩, rfl⟩
      obtain ⟨x15, hx15, hres⟩ := bind_some hres
      refine JH.pure rfl (yl_catS rfl rfl hx15) rfl ?_
      obtain ⟨x16, hx16, hres⟩ := bind_some hres
      refine JH.must rfl (ef_call (T := T165 x16) Go.Proofs.Try.func165 rfl (by kernel_rfl) rfl (fun w hC => c165  hx16)) rfl rfl ?_
      rintro _ _ ⟨_, ⟨rfl, rfl⟩, rfl⟩
      obtain ⟨x17, hx17, hres⟩ := bind_some hres
      refine JH.pure rfl (yl_catS rfl rfl hx17) rfl ?_
      refine JH.must rfl (ef_buildSlice (E := 9) (k := eStr.k) (us := eStr.fl [x17]) rfl (fun w => bsl150_1 x17 w) rfl (by decide)) rfl rfl ?_
      rintro _ _ ⟨a18, rfl, rfl⟩
      obtain ⟨x20, hx20, hres⟩ := bind_some hres
      refine JH.must rfl (ef_appendT (ix := 0) Go.Proofs.Try.underlying150 i9 i9z i9s rfl i9b0 i9b1 rfl rfl rfl rfl rfl (fun w hC => rd_row hC 1 rfl) hx20) rfl rfl ?_
      rintro _ _ ⟨a21, cp22, rfl, rfl⟩
      refine JH.pure rfl (yl_assign rfl) rfl ?_
      refine JH.nil ?_
      refine JE.weak (env' := [(3, .slice a21 x20.length cp22), (10, .slice a_0 q0.length c_0), (11, .int .i64 (q0.length : Int)), (12, .int .i64 x6)]) (es' := [rowT 9 eStr a21 x20.length cp22 x20]) [1] ?_ ⟨rfl, rfl, rfl, rfl, trivial⟩ (by decide) rfl
      refine JE.code ?_
      refine JX.region ?_
      refine JL.val (yl_add rfl rfl) rfl ?_
      refine JL.val (yl_move rfl) rfl ?_
      refine JL.nil ?_
      refine JE.cont hres ?_
      exact fun a w h => ⟨a21, cp22, h.weak ⟨rfl, rfl, rfl, rfl, trivial⟩ [0] (by decide) rfl⟩
    · refine JX.condF rfl hb ?_
      refine JX.exit ?_
      refine JE.qb rfl ?_
      obtain ⟨b1, hb1⟩ : ∃ b : List ByteArray, b = x7 := ⟨_, rfl⟩
      have hy1 : b1 = y1 := by rw [hb1]; exact hox1 _ (Option.some.inj hres).symm
      have hres := hresO1
      rw [← hy1] at hres
      refine JE.weak (env' := [(3, .slice a8 b1.length cp9)]) (es' := [rowT 9 eStr a8 b1.length cp9 b1]) [0] ?_ ⟨(by subst hb1; rfl), trivial⟩ (by decide) (by subst hb1; rfl)
      refine JE.code ?_
      refine JX.seq ?_
      refine JX.region ?_
      refine JL.val (yl_move rfl) rfl ?_
      obtain ⟨x25, hx25, hres⟩ := bind_some hres
      refine JL.eff (ef_call (T := T166 x25) Go.Proofs.Try.func166 rfl (by kernel_rfl) rfl (fun w hC => c166 (rd_row hC 0 rfl) rfl (ln_row hC 0 rfl) hx25)) rfl ?_
      rintro _ _ ⟨_, ⟨rfl, rfl⟩, rfl⟩
      refine JL.val (yl_assign rfl) rfl ?_
      refine JL.nil ?_
      refine JE.weak (env' := [(2, .string x25)]) (es' := []) [] ?_ ⟨rfl, trivial⟩ (by decide) rfl
      refine JE.code ?_
      refine JX.ret ?_
      obtain rfl := Option.some.inj hres
      refine JE.ret (rs := [.tmp 2]) (vs := [.string x25]) rfl ⟨rfl, trivial⟩ ?_
      exact fun w' hb hs => ⟨_, _, ⟨rfl, rfl⟩, rfl, hb, hs.sel [] _ (by decide) rfl⟩

/- impl.splitAt -/
def sh158_1 (q0 : ByteArray) (q1 : Int) : (Int × Int × List ByteArray) → Option ((Int × Int × List ByteArray) ⊕ (Int × List ByteArray))
  | (x5, x6, x7) => bif decide (x6 < (q0.size : Int)) then (Option.bind (getS q0 x6) fun x10 => Option.bind (bif x10 == q1 then (Option.bind (subS q0 x5 x6) fun x14 => Option.bind (appL x7 [x14]) fun x17 => some (w64 (x6 + 1), x17)) else (some (x5, x7))) fun j11 => (some (.inl (j11.1, w64 (x6 + 1), j11.2)))) else (some (.inr (x5, x7)))
def sh158 (q0 : ByteArray) (q1 : Int) : Option (List ByteArray) := Option.bind (iter (sh158_1 q0 q1) (0, 0, ([] : List ByteArray))) fun b1 => (Option.bind (subS q0 b1.1 (q0.size : Int)) fun x22 => Option.bind (appL b1.2 [x22]) fun x25 => some x25)
def T158 (r : List ByteArray) (v : Value) (rs : List Own) : Prop := ∃ (a0 : Option Addr) (n0 c0 : Nat), r.length = n0 ∧ v = rets [.slice a0 n0 c0] ∧ rs = [rowT 9 eStr a0 n0 c0 r]
set_option maxRecDepth 100000 in
theorem c158 {w : World} {q0 : ByteArray} {q1 : Int} {r : List ByteArray} (hres : sh158 q0 q1 = some r) : Calls Go.Proofs.Try.prog 158 [.string q0, .int .u8 q1].toArray w (Ret w (T158 r)) := by
  unfold sh158 at hres
  refine calls_of (n := 35) (M := []) (es := []) Go.Proofs.Try.func158 rfl rfl rfl (Sep.nil _ _ _) ?_
  refine JX.seq ?_
  refine JX.region ?_
  refine JL.val (yl_assign rfl) rfl ?_
  refine JL.nil ?_
  refine JE.code ?_
  refine JX.seq ?_
  refine JX.region ?_
  refine JL.eff (ef_buildSlice (E := 9) (k := eStr.k) (us := eStr.fl ([] : List ByteArray)) rfl (fun w => bsl150_0  w) rfl (by decide)) rfl ?_
  rintro _ _ ⟨a1, rfl, rfl⟩
  refine JL.val (yl_assign rfl) rfl ?_
  refine JL.nil ?_
  refine JE.code ?_
  refine JX.seq ?_
  refine JX.region ?_
  refine JL.val (yl_assign rfl) rfl ?_
  refine JL.nil ?_
  refine JE.code ?_
  refine JX.seq ?_
  refine JX.seq ?_
  refine JX.region ?_
  refine JL.val (yl_move rfl) rfl ?_
  refine JL.val (yl_len_string Go.Proofs.Try.underlying9 rfl) rfl ?_
  refine JL.val (yl_move rfl) rfl ?_
  refine JL.nil ?_
  refine JE.code ?_
  refine JX.block ?_
  obtain ⟨y1, hy1, hresO1⟩ := bind_some hres
  refine JX.loop (I := fun (s1 : Int × Int × List ByteArray) aa ww => ∃ (a3 : Option Addr) (cp4 : Nat), St w [] 35 [(0, .string q0), (1, .int .u8 q1), (5, .slice a3 s1.2.2.length cp4), (6, .int .i64 s1.1), (10, .int .i64 (q0.size : Int)), (11, .int .i64 s1.2.1)] [rowT 9 eStr a3 s1.2.2.length cp4 s1.2.2] aa ww) (sh158_1 q0 q1) hy1 (fun a w h => ⟨a1, 0, h.weak ⟨rfl, rfl, rfl, rfl, rfl, rfl, trivial⟩ [0] (by decide) rfl⟩) ?_
  rintro ⟨x5, x6, x7⟩ o1 hres hox1 aa ww ⟨a8, cp9, hS⟩
  refine (?_ : JX Go.Proofs.Try.prog w [] 35 _ _ [(0, .string q0), (1, .int .u8 q1), (5, .slice a8 x7.length cp9), (6, .int .i64 x5), (10, .int .i64 (q0.size : Int)), (11, .int .i64 x6)] [rowT 9 eStr a8 x7.length cp9 x7] _) aa ww hS
  clear hS
  simp only [sh158_1] at hres
  refine JX.seq ?_
  refine JX.region ?_
  refine JL.val (yl_lss rfl rfl) rfl ?_
  refine JL.nil ?_
  refine JE.code ?_
  refine JX.seq ?_
  rcases cond_some hres with ⟨hb, hres⟩ | ⟨hb, hres⟩
  · refine JX.condT rfl hb ?_
    refine JX.skip ?_
    refine JE.code ?_
    refine JX.seq ?_
    refine JX.block ?_
    refine JX.seq ?_
    refine JX.region ?_
    refine JL.val (yl_move rfl) rfl ?_
    refine JL.val (yl_assign rfl) rfl ?_
    refine JL.nil ?_
    refine JE.code ?_
    refine JX.seq ?_
    refine JX.region ?_
    refine JL.val (yl_move rfl) rfl ?_
    refine JL.val (yl_move rfl) rfl ?_
    obtain ⟨x10, hx10, hres⟩ := bind_some hres
    refine JL.val (yl_getS Go.Proofs.Try.underlying9 rfl rfl hx10) rfl ?_
    refine JL.val (yl_move rfl) rfl ?_
    refine JL.val (yl_eql rfl rfl) rfl ?_
    refine JL.nil ?_
    refine JE.weak (env' := [(0, .string q0), (1, .int .u8 q1), (5, .slice a8 x7.length cp9), (6, .int .i64 x5), (7, .int .i64 x6), (10, .int .i64 (q0.size : Int)), (11, .int .i64 x6), (18, .bool (x10 == q1))]) (es' := [rowT 9 eStr a8 x7.length cp9 x7]) [0] ?_ ⟨rfl, rfl, rfl, rfl, rfl, rfl, rfl, rfl, trivial⟩ (by decide) rfl
    refine JE.code ?_
    obtain ⟨j11, hj11, hresj11⟩ := bind_some hres
    refine JX.cut (K := fun J => ∀ (a12 : Option Addr) (cp13 : Nat), J [(0, .string q0), (1, .int .u8 q1), (5, .slice a12 j11.2.length cp13), (6, .int .i64 j11.1), (10, .int .i64 (q0.size : Int)), (11, .int .i64 x6)] [rowT 9 eStr a12 j11.2.length cp13 j11.2]) ?_ ?_
    · intro a12 cp13
      have hres := hresj11
      refine JE.code ?_
      refine JX.region ?_
      refine JL.val (yl_add rfl rfl) rfl ?_
      refine JL.val (yl_move rfl) rfl ?_
      refine JL.nil ?_
      refine JE.cont hres ?_
      exact fun a w h => ⟨a12, cp13, h.weak ⟨rfl, rfl, rfl, rfl, rfl, rfl, trivial⟩ [0] (by decide) rfl⟩
    · intro K
      rcases cond_some hj11 with ⟨hb, hres⟩ | ⟨hb, hres⟩
      · refine JX.condT rfl hb ?_
        refine JX.seq ?_
        refine JX.region ?_
        refine JL.val (yl_move rfl) rfl ?_
        refine JL.val (yl_move rfl) rfl ?_
        refine JL.val (yl_move rfl) rfl ?_
        refine JL.val (yl_move rfl) rfl ?_
        obtain ⟨x14, hx14, hres⟩ := bind_some hres
        refine JL.val (yl_subSlh Go.Proofs.Try.underlying9 rfl rfl rfl hx14) rfl ?_
        refine JL.eff (ef_buildSlice (E := 9) (k := eStr.k) (us := eStr.fl [x14]) rfl (fun w => bsl150_1 x14 w) rfl (by decide)) rfl ?_
        rintro _ _ ⟨a15, rfl, rfl⟩
        obtain ⟨x17, hx17, hres⟩ := bind_some hres
        refine JL.eff (ef_appendT (ix := 0) Go.Proofs.Try.underlying150 i9 i9z i9s rfl i9b0 i9b1 rfl rfl rfl rfl rfl (fun w hC => rd_row hC 1 rfl) hx17) rfl ?_
        rintro _ _ ⟨a18, cp19, rfl, rfl⟩
        refine JL.val (yl_assign rfl) rfl ?_
        refine JL.nil ?_
        refine JE.weak (env' := [(0, .string q0), (1, .int .u8 q1), (5, .slice a18 x17.length cp19), (7, .int .i64 x6), (10, .int .i64 (q0.size : Int)), (11, .int .i64 x6)]) (es' := [rowT 9 eStr a18 x17.length cp19 x17]) [0] ?_ ⟨rfl, rfl, rfl, rfl, rfl, rfl, trivial⟩ (by decide) rfl
        refine JE.code ?_
        refine JX.region ?_
        refine JL.val (yl_move rfl) rfl ?_
        refine JL.val (yl_add rfl rfl) rfl ?_
        refine JL.val (yl_assign rfl) rfl ?_
        refine JL.nil ?_
        have hj := Option.some.inj hres
        exact JE.weak [0] (K a18 cp19) ⟨(by subst hj; rfl), (by subst hj; rfl), (by subst hj; rfl), (by subst hj; rfl), (by subst hj; rfl), (by subst hj; rfl), trivial⟩ (by decide) (by subst hj; rfl)
      · refine JX.condF rfl hb ?_
        refine JX.skip ?_
        have hj := Option.some.inj hres
        exact JE.weak [0] (K a8 cp9) ⟨(by subst hj; rfl), (by subst hj; rfl), (by subst hj; rfl), (by subst hj; rfl), (by subst hj; rfl), (by subst hj; rfl), trivial⟩ (by decide) (by subst hj; rfl)
  · refine JX.condF rfl hb ?_
    refine JX.exit ?_
    refine JE.qb rfl ?_
    obtain ⟨b1, hb1⟩ : ∃ b : Int × List ByteArray, b = (x5, x7) := ⟨_, rfl⟩
    have hy1 : b1 = y1 := by rw [hb1]; exact hox1 _ (Option.some.inj hres).symm
    have hres := hresO1
    rw [← hy1] at hres
    refine JE.weak (env' := [(0, .string q0), (5, .slice a8 b1.2.length cp9), (6, .int .i64 b1.1)]) (es' := [rowT 9 eStr a8 b1.2.length cp9 b1.2]) [0] ?_ ⟨(by subst hb1; rfl), (by subst hb1; rfl), (by subst hb1; rfl), trivial⟩ (by decide) (by subst hb1; rfl)
    refine JE.code ?_
    refine JX.seq ?_
    refine JX.region ?_
    refine JL.val (yl_move rfl) rfl ?_
    refine JL.val (yl_move rfl) rfl ?_
    refine JL.val (yl_move rfl) rfl ?_
    obtain ⟨x22, hx22, hres⟩ := bind_some hres
    refine JL.val (yl_subSl Go.Proofs.Try.underlying9 rfl rfl hx22) rfl ?_
    refine JL.eff (ef_buildSlice (E := 9) (k := eStr.k) (us := eStr.fl [x22]) rfl (fun w => bsl150_1 x22 w) rfl (by decide)) rfl ?_
    rintro _ _ ⟨a23, rfl, rfl⟩
    obtain ⟨x25, hx25, hres⟩ := bind_some hres
    refine JL.eff (ef_appendT (ix := 0) Go.Proofs.Try.underlying150 i9 i9z i9s rfl i9b0 i9b1 rfl rfl rfl rfl rfl (fun w hC => rd_row hC 1 rfl) hx25) rfl ?_
    rintro _ _ ⟨a26, cp27, rfl, rfl⟩
    refine JL.val (yl_assign rfl) rfl ?_
    refine JL.nil ?_
    refine JE.weak (env' := [(4, .slice a26 x25.length cp27)]) (es' := [rowT 9 eStr a26 x25.length cp27 x25]) [0] ?_ ⟨rfl, trivial⟩ (by decide) rfl
    refine JE.code ?_
    refine JX.ret ?_
    obtain rfl := Option.some.inj hres
    refine JE.ret (rs := [.tmp 4]) (vs := [.slice a26 x25.length cp27]) rfl ⟨rfl, trivial⟩ ?_
    exact fun w' hb hs => ⟨_, _, ⟨a26, x25.length, cp27, rfl, rfl, rfl⟩, rfl, hb, hs.sel [0] _ (by decide) rfl⟩

/- impl.ReadDecimal -/
def sh159_1 (j3 : ByteArray) : (Int × Int) → Option ((Int × Int) ⊕ (Int ⊕ (Int × Bool)))
  | (x4, x5) => bif decide (x5 < (j3.size : Int)) then (Option.bind (getS j3 x5) fun x6 => Option.bind (bif decide (x6 < 48) then (some true) else (Option.bind (getS j3 x5) fun x8 => some (decide (57 < x8)))) fun cb7 => (bif cb7 then (some (.inr (.inr (0, false)))) else (Option.bind (getS j3 x5) fun x9 => some (.inl (w64 ((w64 (10 * x4)) + (w64 (IntKind.u8.wrap (x9 - 48)))), w64 (x5 + 1)))))) else (some (.inr (.inl x4)))
def sh159 (q0 : ByteArray) : Option (Int × Bool) := Option.bind (bif decide (0 < (q0.size : Int)) then (Option.bind (getS q0 0) fun x2 => some (x2 == 45)) else (some false)) fun cb1 => (Option.bind (bif cb1 then (Option.bind (subS q0 1 (q0.size : Int)) fun x12 => some x12) else (some q0)) fun j3 => (bif (decide ((j3.size : Int) < 1)) || (decide (18 < (j3.size : Int))) then (some (0, false)) else (Option.bind (iter (sh159_1 j3) (0, 0)) fun y1 => elimS y1 (fun r => some r) fun b1 => (Option.bind (bif decide ((j3.size : Int) < (q0.size : Int)) then (some (w64 (0 - b1))) else (some b1)) fun j10 => (Option.bind (sh165 j10) fun x11 => bif !(x11.toList == q0.toList) then (some (0, false)) else (some (j10, true)))))))
def T159 (r : Int × Bool) (v : Value) (rs : List Own) : Prop := v = rets [.int .i64 r.1, .bool r.2] ∧ rs = []
set_option maxRecDepth 100000 in
set_option maxHeartbeats 1000000 in
theorem c159 {w : World} {q0 : ByteArray} {r : Int × Bool} (hres : sh159 q0 = some r) : Calls Go.Proofs.Try.prog 159 [.string q0].toArray w (Ret w (T159 r)) := by
  unfold sh159 at hres
  refine calls_of (n := 62) (M := []) (es := []) Go.Proofs.Try.func159 rfl rfl rfl (Sep.nil _ _ _) ?_
  refine JX.seq ?_
  refine JX.region ?_
  refine JL.val (yl_assign rfl) rfl ?_
  refine JL.val (yl_assign rfl) rfl ?_
  refine JL.nil ?_
  refine JE.code ?_
  refine JX.seq ?_
  refine JX.region ?_
  refine JL.val (yl_move rfl) rfl ?_
  refine JL.val (yl_assign rfl) rfl ?_
  refine JL.nil ?_
  refine JE.code ?_
  refine JX.seq ?_
  refine JX.seq ?_
  refine JX.region ?_
  refine JL.val (yl_move rfl) rfl ?_
  refine JL.val (yl_len_string Go.Proofs.Try.underlying9 rfl) rfl ?_
  refine JL.val (yl_gtr rfl rfl) rfl ?_
  refine JL.val (yl_move rfl) rfl ?_
  obtain ⟨cb1, hcb1, hres⟩ := bind_some hres
  refine JL.cut (K := fun J => J [(0, .string q0), (4, .string q0), (15, .bool cb1)] []) 4 ?_ ?_
  · refine JL.nil ?_
    refine JE.weak (env' := [(0, .string q0), (4, .string q0), (15, .bool cb1)]) (es' := []) [] ?_ ⟨rfl, rfl, rfl, trivial⟩ (by decide) rfl
    refine JE.code ?_
    obtain ⟨j3, hj3, hresj3⟩ := bind_some hres
    refine JX.cut (K := fun J => J [(0, .string q0), (4, .string j3)] []) ?_ ?_
    · have hres := hresj3
      refine JE.code ?_
      refine JX.seq ?_
      refine JX.seq ?_
      refine JX.region ?_
      refine JL.val (yl_move rfl) rfl ?_
      refine JL.val (yl_len_string Go.Proofs.Try.underlying9 rfl) rfl ?_
      refine JL.val (yl_lss rfl rfl) rfl ?_
      refine JL.val (yl_move rfl) rfl ?_
      refine JL.cut (K := fun J => J [(0, .string q0), (4, .string j3), (25, .bool ((decide ((j3.size : Int) < 1)) || (decide (18 < (j3.size : Int)))))] []) 4 ?_ ?_
      · refine JL.nil ?_
        refine JE.weak (env' := [(0, .string q0), (4, .string j3), (25, .bool ((decide ((j3.size : Int) < 1)) || (decide (18 < (j3.size : Int)))))]) (es' := []) [] ?_ ⟨rfl, rfl, rfl, trivial⟩ (by decide) rfl
        refine JE.code ?_
        rcases cond_some hres with ⟨hb, hres⟩ | ⟨hb, hres⟩
        · refine JX.condT rfl hb ?_
          refine JX.seq ?_
          refine JX.region ?_
          refine JL.val (yl_assign rfl) rfl ?_
          refine JL.val (yl_assign rfl) rfl ?_
          refine JL.nil ?_
          refine JE.code ?_
          refine JX.ret ?_
          obtain rfl := Option.some.inj hres
          refine JE.ret (rs := [.tmp 2, .tmp 3]) (vs := [.int .i64 0, .bool false]) rfl ⟨rfl, rfl, trivial⟩ ?_
          exact fun w' hb hs => ⟨_, _, ⟨rfl, rfl⟩, rfl, hb, hs.sel [] _ (by decide) rfl⟩
        · refine JX.condF rfl hb ?_
          refine JX.skip ?_
          refine JE.code ?_
          refine JX.seq ?_
          refine JX.region ?_
          refine JL.val (yl_assign rfl) rfl ?_
          refine JL.nil ?_
          refine JE.code ?_
          refine JX.seq ?_
          refine JX.seq ?_
          refine JX.region ?_
          refine JL.val (yl_move rfl) rfl ?_
          refine JL.val (yl_len_string Go.Proofs.Try.underlying9 rfl) rfl ?_
          refine JL.val (yl_move rfl) rfl ?_
          refine JL.nil ?_
          refine JE.code ?_
          refine JX.block ?_
          obtain ⟨y1, hy1, hresO1⟩ := bind_some hres
          refine JX.loop (I := fun (s1 : Int × Int) aa ww => St w [] 62 [(0, .string q0), (4, .string j3), (5, .int .i64 s1.1), (27, .int .i64 (j3.size : Int)), (28, .int .i64 s1.2)] [] aa ww) (sh159_1 j3) hy1 (fun a w h => h.weak ⟨rfl, rfl, rfl, rfl, rfl, trivial⟩ [] (by decide) rfl) ?_
          rintro ⟨x4, x5⟩ o1 hres hox1 aa ww hS
          refine (?_ : JX Go.Proofs.Try.prog w [] 62 _ _ [(0, .string q0), (4, .string j3), (5, .int .i64 x4), (27, .int .i64 (j3.size : Int)), (28, .int .i64 x5)] [] _) aa ww hS
          clear hS
          simp only [sh159_1] at hres
          refine JX.seq ?_
          refine JX.region ?_
          refine JL.val (yl_lss rfl rfl) rfl ?_
          refine JL.nil ?_
          refine JE.code ?_
          refine JX.seq ?_
          rcases cond_some hres with ⟨hb, hres⟩ | ⟨hb, hres⟩
          · refine JX.condT rfl hb ?_
            refine JX.skip ?_
            refine JE.code ?_
            refine JX.seq ?_
            refine JX.block ?_
            refine JX.seq ?_
            refine JX.region ?_
            refine JL.val (yl_move rfl) rfl ?_
            refine JL.val (yl_assign rfl) rfl ?_
            refine JL.nil ?_
            refine JE.code ?_
            refine JX.seq ?_
            refine JX.seq ?_
            refine JX.region ?_
            refine JL.val (yl_move rfl) rfl ?_
            refine JL.val (yl_move rfl) rfl ?_
            obtain ⟨x6, hx6, hres⟩ := bind_some hres
            refine JL.val (yl_getS Go.Proofs.Try.underlying9 rfl rfl hx6) rfl ?_
            refine JL.val (yl_lss rfl rfl) rfl ?_
            refine JL.val (yl_move rfl) rfl ?_
            obtain ⟨cb7, hcb7, hres⟩ := bind_some hres
            refine JL.cut (K := fun J => J [(0, .string q0), (4, .string j3), (5, .int .i64 x4), (6, .int .i64 x5), (27, .int .i64 (j3.size : Int)), (28, .int .i64 x5), (40, .bool cb7)] []) 5 ?_ ?_
            · refine JL.nil ?_
              refine JE.weak (env' := [(0, .string q0), (4, .string j3), (5, .int .i64 x4), (6, .int .i64 x5), (27, .int .i64 (j3.size : Int)), (28, .int .i64 x5), (40, .bool cb7)]) (es' := []) [] ?_ ⟨rfl, rfl, rfl, rfl, rfl, rfl, rfl, trivial⟩ (by decide) rfl
              refine JE.code ?_
              rcases cond_some hres with ⟨hb, hres⟩ | ⟨hb, hres⟩
              · refine JX.condT rfl hb ?_
                refine JX.seq ?_
                refine JX.region ?_
                refine JL.val (yl_assign rfl) rfl ?_
                refine JL.val (yl_assign rfl) rfl ?_
                refine JL.nil ?_
                refine JE.code ?_
                refine JX.ret ?_
                refine JE.qbr ?_
                refine JE.qbr ?_
                have hres := elimS_inr hresO1 (hox1 _ (Option.some.inj hres).symm)
                obtain rfl := Option.some.inj hres
                refine JE.ret (rs := [.tmp 2, .tmp 3]) (vs := [.int .i64 0, .bool false]) rfl ⟨rfl, rfl, trivial⟩ ?_
                exact fun w' hb hs => ⟨_, _, ⟨rfl, rfl⟩, rfl, hb, hs.sel [] _ (by decide) rfl⟩
              · refine JX.condF rfl hb ?_
                refine JX.skip ?_
                refine JE.code ?_
                refine JX.region ?_
                refine JL.val (yl_move rfl) rfl ?_
                refine JL.val (yl_mul rfl rfl) rfl ?_
                refine JL.val (yl_move rfl) rfl ?_
                refine JL.val (yl_move rfl) rfl ?_
                obtain ⟨x9, hx9, hres⟩ := bind_some hres
                refine JL.val (yl_getS Go.Proofs.Try.underlying9 rfl rfl hx9) rfl ?_
                refine JL.val (yl_sub rfl rfl) rfl ?_
                refine JL.val (yl_conv Go.Proofs.Try.underlying5 Go.Proofs.Try.underlying2 rfl) rfl ?_
                refine JL.val (yl_add rfl rfl) rfl ?_
                refine JL.val (yl_assign rfl) rfl ?_
                refine JL.nil ?_
                refine JE.weak (env' := [(0, .string q0), (4, .string j3), (5, .int .i64 (w64 ((w64 (10 * x4)) + (w64 (IntKind.u8.wrap (x9 - 48)))))), (27, .int .i64 (j3.size : Int)), (28, .int .i64 x5)]) (es' := []) [] ?_ ⟨rfl, rfl, rfl, rfl, rfl, trivial⟩ (by decide) rfl
                refine JE.code ?_
                refine JX.region ?_
                refine JL.val (yl_add rfl rfl) rfl ?_
                refine JL.val (yl_move rfl) rfl ?_
                refine JL.nil ?_
                refine JE.cont hres ?_
                exact fun a w h => h.weak ⟨rfl, rfl, rfl, rfl, rfl, trivial⟩ [] (by decide) rfl
            · intro K
              rcases cond_some hcb7 with ⟨hb, hres⟩ | ⟨hb, hres⟩
              · refine JL.set (d := 35) (v := .bool true) (congrArg (fun b => some (Value.bool b)) hb) ?_
                refine JL.gskip rfl rfl rfl rfl ?_
                refine JL.gskip rfl rfl rfl rfl ?_
                refine JL.gskip rfl rfl rfl rfl ?_
                refine JL.gskip rfl rfl rfl rfl ?_
                refine JL.val (yl_pick_true rfl rfl) rfl ?_
                have he := Option.some.inj hres
                exact JL.weak [] K ⟨rfl, rfl, rfl, rfl, rfl, rfl, (by rw [← he]; rfl), trivial⟩ (by decide) rfl
              · refine JL.set (d := 35) (v := .bool false) (congrArg (fun b => some (Value.bool b)) hb) ?_
                refine JL.gval rfl rfl (yl_move rfl) rfl ?_
                refine JL.gval rfl rfl (yl_move rfl) rfl ?_
                obtain ⟨x8, hx8, hres⟩ := bind_some hres
                refine JL.gval rfl rfl (yl_getS Go.Proofs.Try.underlying9 rfl rfl hx8) rfl ?_
                refine JL.gval rfl rfl (yl_gtr rfl rfl) rfl ?_
                refine JL.val (yl_pick_false rfl rfl) rfl ?_
                have he := Option.some.inj hres
                exact JL.weak [] K ⟨rfl, rfl, rfl, rfl, rfl, rfl, (by rw [← he]; rfl), trivial⟩ (by decide) rfl
          · refine JX.condF rfl hb ?_
            refine JX.exit ?_
            refine JE.qb rfl ?_
            obtain ⟨b1, hb1⟩ : ∃ b : Int, b = x4 := ⟨_, rfl⟩
            have hy1 : Sum.inl b1 = y1 := by rw [hb1]; exact hox1 _ (Option.some.inj hres).symm
            have hres := elimS_inl hresO1 hy1
            refine JE.weak (env' := [(0, .string q0), (4, .string j3), (5, .int .i64 b1)]) (es' := []) [] ?_ ⟨(by subst hb1; rfl), (by subst hb1; rfl), (by subst hb1; rfl), trivial⟩ (by decide) (by subst hb1; rfl)
            refine JE.code ?_
            refine JX.seq ?_
            refine JX.seq ?_
            refine JX.region ?_
            refine JL.val (yl_move rfl) rfl ?_
            refine JL.val (yl_len_string Go.Proofs.Try.underlying9 rfl) rfl ?_
            refine JL.val (yl_move rfl) rfl ?_
            refine JL.val (yl_len_string Go.Proofs.Try.underlying9 rfl) rfl ?_
            refine JL.val (yl_lss rfl rfl) rfl ?_
            refine JL.nil ?_
            refine JE.weak (env' := [(0, .string q0), (5, .int .i64 b1), (54, .bool (decide ((j3.size : Int) < (q0.size : Int))))]) (es' := []) [] ?_ ⟨rfl, rfl, rfl, trivial⟩ (by decide) rfl
            refine JE.code ?_
            obtain ⟨j10, hj10, hresj10⟩ := bind_some hres
            refine JX.cut (K := fun J => J [(0, .string q0), (5, .int .i64 j10)] []) ?_ ?_
            · have hres := hresj10
              refine JE.code ?_
              refine JX.seq ?_
              refine JX.seq ?_
              refine JX.region ?_
              refine JL.val (yl_move rfl) rfl ?_
              obtain ⟨x11, hx11, hres⟩ := bind_some hres
              refine JL.eff (ef_call (T := T165 x11) Go.Proofs.Try.func165 rfl (by kernel_rfl) rfl (fun w hC => c165  hx11)) rfl ?_
              rintro _ _ ⟨_, ⟨rfl, rfl⟩, rfl⟩
              refine JL.val (yl_move rfl) rfl ?_
              refine JL.val (yl_sneq rfl rfl) rfl ?_
              refine JL.nil ?_
              refine JE.weak (env' := [(5, .int .i64 j10), (60, .bool (!(x11.toList == q0.toList)))]) (es' := []) [] ?_ ⟨rfl, rfl, trivial⟩ (by decide) rfl
              refine JE.code ?_
              rcases cond_some hres with ⟨hb, hres⟩ | ⟨hb, hres⟩
              · refine JX.condT rfl hb ?_
                refine JX.seq ?_
                refine JX.region ?_
                refine JL.val (yl_assign rfl) rfl ?_
                refine JL.val (yl_assign rfl) rfl ?_
                refine JL.nil ?_
                refine JE.code ?_
                refine JX.ret ?_
                obtain rfl := Option.some.inj hres
                refine JE.ret (rs := [.tmp 2, .tmp 3]) (vs := [.int .i64 0, .bool false]) rfl ⟨rfl, rfl, trivial⟩ ?_
                exact fun w' hb hs => ⟨_, _, ⟨rfl, rfl⟩, rfl, hb, hs.sel [] _ (by decide) rfl⟩
              · refine JX.condF rfl hb ?_
                refine JX.skip ?_
                refine JE.code ?_
                refine JX.seq ?_
                refine JX.region ?_
                refine JL.val (yl_move rfl) rfl ?_
                refine JL.val (yl_assign rfl) rfl ?_
                refine JL.val (yl_assign rfl) rfl ?_
                refine JL.nil ?_
                refine JE.code ?_
                refine JX.ret ?_
                obtain rfl := Option.some.inj hres
                refine JE.ret (rs := [.tmp 2, .tmp 3]) (vs := [.int .i64 j10, .bool true]) rfl ⟨rfl, rfl, trivial⟩ ?_
                exact fun w' hb hs => ⟨_, _, ⟨rfl, rfl⟩, rfl, hb, hs.sel [] _ (by decide) rfl⟩
            · intro K
              rcases cond_some hj10 with ⟨hb, hres⟩ | ⟨hb, hres⟩
              · refine JX.condT rfl hb ?_
                refine JX.region ?_
                refine JL.val (yl_move rfl) rfl ?_
                refine JL.val (yl_neg rfl) rfl ?_
                refine JL.val (yl_assign rfl) rfl ?_
                refine JL.nil ?_
                have hj := Option.some.inj hres
                exact JE.weak [] (K) ⟨(by subst hj; rfl), (by subst hj; rfl), trivial⟩ (by decide) (by subst hj; rfl)
              · refine JX.condF rfl hb ?_
                refine JX.skip ?_
                have hj := Option.some.inj hres
                exact JE.weak [] (K) ⟨(by subst hj; rfl), (by subst hj; rfl), trivial⟩ (by decide) (by subst hj; rfl)
      · intro K
        rcases Bool.eq_false_or_eq_true (decide ((j3.size : Int) < 1)) with hb | hb
        · refine JL.set (d := 21) (v := .bool true) (congrArg (fun b => some (Value.bool b)) hb) ?_
          refine JL.gskip rfl rfl rfl rfl ?_
          refine JL.gskip rfl rfl rfl rfl ?_
          refine JL.gskip rfl rfl rfl rfl ?_
          refine JL.val (yl_pick_true rfl rfl) rfl ?_
          exact JL.weak [] K ⟨rfl, rfl, (by rw [hb]; rfl), trivial⟩ (by decide) rfl
        · refine JL.set (d := 21) (v := .bool false) (congrArg (fun b => some (Value.bool b)) hb) ?_
          refine JL.gval rfl rfl (yl_move rfl) rfl ?_
          refine JL.gval rfl rfl (yl_len_string Go.Proofs.Try.underlying9 rfl) rfl ?_
          refine JL.gval rfl rfl (yl_gtr rfl rfl) rfl ?_
          refine JL.val (yl_pick_false rfl rfl) rfl ?_
          exact JL.weak [] K ⟨rfl, rfl, (by rw [hb]; rfl), trivial⟩ (by decide) rfl
    · intro K
      rcases cond_some hj3 with ⟨hb, hres⟩ | ⟨hb, hres⟩
      · refine JX.condT rfl hb ?_
        refine JX.region ?_
        refine JL.val (yl_move rfl) rfl ?_
        obtain ⟨x12, hx12, hres⟩ := bind_some hres
        refine JL.val (yl_subSl Go.Proofs.Try.underlying9 rfl rfl hx12) rfl ?_
        refine JL.val (yl_assign rfl) rfl ?_
        refine JL.nil ?_
        have hj := Option.some.inj hres
        exact JE.weak [] (K) ⟨(by subst hj; rfl), (by subst hj; rfl), trivial⟩ (by decide) (by subst hj; rfl)
      · refine JX.condF rfl hb ?_
        refine JX.skip ?_
        have hj := Option.some.inj hres
        exact JE.weak [] (K) ⟨(by subst hj; rfl), (by subst hj; rfl), trivial⟩ (by decide) (by subst hj; rfl)
  · intro K
    rcases cond_some hcb1 with ⟨hb, hres⟩ | ⟨hb, hres⟩
    · refine JL.set (d := 11) (v := .bool true) (congrArg (fun b => some (Value.bool b)) hb) ?_
      refine JL.gval rfl rfl (yl_move rfl) rfl ?_
      obtain ⟨x2, hx2, hres⟩ := bind_some hres
      refine JL.gval rfl rfl (yl_getS Go.Proofs.Try.underlying9 rfl rfl hx2) rfl ?_
      refine JL.gval rfl rfl (yl_eql rfl rfl) rfl ?_
      refine JL.val (yl_pick_true rfl rfl) rfl ?_
      have he := Option.some.inj hres
      exact JL.weak [] K ⟨rfl, rfl, (by rw [← he]; rfl), trivial⟩ (by decide) rfl
    · refine JL.set (d := 11) (v := .bool false) (congrArg (fun b => some (Value.bool b)) hb) ?_
      refine JL.gskip rfl rfl rfl rfl ?_
      refine JL.gskip rfl rfl rfl rfl ?_
      refine JL.gskip rfl rfl rfl rfl ?_
      refine JL.val (yl_pick_false rfl rfl) rfl ?_
      have he := Option.some.inj hres
      exact JL.weak [] K ⟨rfl, rfl, (by rw [← he]; rfl), trivial⟩ (by decide) rfl

/- impl.placeOf -/
def sh167_1 (q0 : ByteArray) (q1 : Int) : Int → Option (Int ⊕ (Unit ⊕ Int))
  | x1 => bif decide (x1 < (q0.size : Int)) then (Option.bind (getS q0 x1) fun x2 => bif x2 == q1 then (some (.inr (.inr x1))) else (some (.inl (w64 (x1 + 1))))) else (some (.inr (.inl ())))
def sh167 (q0 : ByteArray) (q1 : Int) (q2 : Int) : Option (Int) := Option.bind (iter (sh167_1 q0 q1) q2) fun y1 => elimS y1 (fun r => some r) fun b1 => (some (-1))
def T167 (r : Int) (v : Value) (rs : List Own) : Prop := v = rets [.int .i64 r] ∧ rs = []
set_option maxRecDepth 100000 in
theorem c167 {w : World} {q0 : ByteArray} {q1 : Int} {q2 : Int} {r : Int} (hres : sh167 q0 q1 q2 = some r) : Calls Go.Proofs.Try.prog 167 [.string q0, .int .u8 q1, .int .i64 q2].toArray w (Ret w (T167 r)) := by
  unfold sh167 at hres
  refine calls_of (n := 21) (M := []) (es := []) Go.Proofs.Try.func167 rfl rfl rfl (Sep.nil _ _ _) ?_
  refine JX.seq ?_
  refine JX.region ?_
  refine JL.val (yl_assign rfl) rfl ?_
  refine JL.nil ?_
  refine JE.code ?_
  refine JX.seq ?_
  refine JX.seq ?_
  refine JX.region ?_
  refine JL.val (yl_move rfl) rfl ?_
  refine JL.val (yl_assign rfl) rfl ?_
  refine JL.nil ?_
  refine JE.code ?_
  refine JX.block ?_
  obtain ⟨y1, hy1, hresO1⟩ := bind_some hres
  refine JX.loop (I := fun (s1 : Int) aa ww => St w [] 21 [(0, .string q0), (1, .int .u8 q1), (7, .int .i64 s1)] [] aa ww) (sh167_1 q0 q1) hy1 (fun a w h => h.weak ⟨rfl, rfl, rfl, trivial⟩ [] (by decide) rfl) ?_
  rintro x1 o1 hres hox1 aa ww hS
  refine (?_ : JX Go.Proofs.Try.prog w [] 21 _ _ [(0, .string q0), (1, .int .u8 q1), (7, .int .i64 x1)] [] _) aa ww hS
  clear hS
  unfold sh167_1 at hres
  refine JX.seq ?_
  refine JX.seq ?_
  refine JX.region ?_
  refine JL.val (yl_move rfl) rfl ?_
  refine JL.val (yl_move rfl) rfl ?_
  refine JL.val (yl_len_string Go.Proofs.Try.underlying9 rfl) rfl ?_
  refine JL.val (yl_lss rfl rfl) rfl ?_
  refine JL.nil ?_
  refine JE.weak (env' := [(0, .string q0), (1, .int .u8 q1), (7, .int .i64 x1), (12, .bool (decide (x1 < (q0.size : Int))))]) (es' := []) [] ?_ ⟨rfl, rfl, rfl, rfl, trivial⟩ (by decide) rfl
  refine JE.code ?_
  rcases cond_some hres with ⟨hb, hres⟩ | ⟨hb, hres⟩
  · refine JX.condT rfl hb ?_
    refine JX.skip ?_
    refine JE.code ?_
    refine JX.seq ?_
    refine JX.block ?_
    refine JX.seq ?_
    refine JX.region ?_
    refine JL.val (yl_move rfl) rfl ?_
    refine JL.val (yl_move rfl) rfl ?_
    obtain ⟨x2, hx2, hres⟩ := bind_some hres
    refine JL.val (yl_getS Go.Proofs.Try.underlying9 rfl rfl hx2) rfl ?_
    refine JL.val (yl_move rfl) rfl ?_
    refine JL.val (yl_eql rfl rfl) rfl ?_
    refine JL.nil ?_
    refine JE.weak (env' := [(0, .string q0), (1, .int .u8 q1), (7, .int .i64 x1), (19, .bool (x2 == q1))]) (es' := []) [] ?_ ⟨rfl, rfl, rfl, rfl, trivial⟩ (by decide) rfl
    refine JE.code ?_
    rcases cond_some hres with ⟨hb, hres⟩ | ⟨hb, hres⟩
    · refine JX.condT rfl hb ?_
      refine JX.seq ?_
      refine JX.region ?_
      refine JL.val (yl_move rfl) rfl ?_
      refine JL.val (yl_assign rfl) rfl ?_
      refine JL.nil ?_
      refine JE.code ?_
      refine JX.ret ?_
      refine JE.qbr ?_
      refine JE.qbr ?_
      have hres := elimS_inr hresO1 (hox1 _ (Option.some.inj hres).symm)
      obtain rfl := Option.some.inj hres
      refine JE.ret (rs := [.tmp 6]) (vs := [.int .i64 x1]) rfl ⟨rfl, trivial⟩ ?_
      exact fun w' hb hs => ⟨_, _, ⟨rfl, rfl⟩, rfl, hb, hs.sel [] _ (by decide) rfl⟩
    · refine JX.condF rfl hb ?_
      refine JX.skip ?_
      refine JE.code ?_
      refine JX.region ?_
      refine JL.val (yl_move rfl) rfl ?_
      refine JL.val (yl_add rfl rfl) rfl ?_
      refine JL.val (yl_assign rfl) rfl ?_
      refine JL.nil ?_
      refine JE.cont hres ?_
      exact fun a w h => h.weak ⟨rfl, rfl, rfl, trivial⟩ [] (by decide) rfl
  · refine JX.condF rfl hb ?_
    refine JX.exit ?_
    refine JE.qb rfl ?_
    obtain ⟨b1, hb1⟩ : ∃ b : Unit, b = () := ⟨_, rfl⟩
    have hy1 : Sum.inl b1 = y1 := by rw [hb1]; exact hox1 _ (Option.some.inj hres).symm
    have hres := elimS_inl hresO1 hy1
    refine JE.weak (env' := []) (es' := []) [] ?_ trivial (by decide) (by subst hb1; rfl)
    refine JE.code ?_
    refine JX.seq ?_
    refine JX.region ?_
    refine JL.val (yl_assign rfl) rfl ?_
    refine JL.nil ?_
    refine JE.code ?_
    refine JX.ret ?_
    obtain rfl := Option.some.inj hres
    refine JE.ret (rs := [.tmp 6]) (vs := [.int .i64 (-1)]) rfl ⟨rfl, trivial⟩ ?_
    exact fun w' hb hs => ⟨_, _, ⟨rfl, rfl⟩, rfl, hb, hs.sel [] _ (by decide) rfl⟩

/- impl.ReadStroke -/
def sh80_1 (x3 : List ByteArray) : (Int × List SPoint) → Option ((Int × List SPoint) ⊕ ((List SPoint) ⊕ (List SPoint × Bool)))
  | (x9, x10) => bif decide (x9 < (x3.length : Int)) then (Option.bind (getI x3 x9) fun x13 => Option.bind (sh167 x13 44 0) fun x14 => bif (decide (x14 < 0)) || ((x10.length : Int) == 60) then (some (.inr (.inr (([] : List SPoint), false)))) else (Option.bind (subS x13 0 x14) fun x16 => Option.bind (sh159 x16) fun x17 => Option.bind (subS x13 (w64 (x14 + 1)) (x13.size : Int)) fun x18 => Option.bind (sh159 x18) fun x19 => bif !x17.2 || !x19.2 then (some (.inr (.inr (([] : List SPoint), false)))) else (Option.bind (appL x10 [SPoint.mk x17.1 x19.1]) fun x23 => some (.inl (w64 (x9 + 1), x23))))) else (some (.inr (.inl x10)))
def sh80 (q0 : ByteArray) : Option (List SPoint × Bool) := Option.bind (sh158 q0 32) fun x3 => Option.bind (iter (sh80_1 x3) (0, ([] : List SPoint))) fun y1 => elimS y1 (fun r => some r) fun b1 => (Option.bind (sh47 b1) fun x28 => bif !x28 then (some (([] : List SPoint), false)) else (some (b1, true)))
def T80 (r : List SPoint × Bool) (v : Value) (rs : List Own) : Prop := ∃ (a0 : Option Addr) (n0 c0 : Nat), r.1.length = n0 ∧ v = rets [.slice a0 n0 c0, .bool r.2] ∧ rs = [rowT 42 eSPoint a0 n0 c0 r.1]
set_option maxRecDepth 100000 in
theorem c80 {w : World} {q0 : ByteArray} {r : List SPoint × Bool} (hres : sh80 q0 = some r) : Calls Go.Proofs.Try.prog 80 [.string q0].toArray w (Ret w (T80 r)) := by
  unfold sh80 at hres
  refine calls_of (n := 61) (M := []) (es := []) Go.Proofs.Try.func80 rfl rfl rfl (Sep.nil _ _ _) ?_
  refine JX.seq ?_
  refine JX.region ?_
  refine JL.val (yl_assign rfl) rfl ?_
  refine JL.val (yl_assign rfl) rfl ?_
  refine JL.nil ?_
  refine JE.code ?_
  refine JX.seq ?_
  refine JX.region ?_
  refine JL.eff (ef_buildSlice (E := 42) (k := eSPoint.k) (us := eSPoint.fl ([] : List SPoint)) rfl (fun w => bsl34_0  w) rfl (by decide)) rfl ?_
  rintro _ _ ⟨a1, rfl, rfl⟩
  refine JL.val (yl_assign rfl) rfl ?_
  refine JL.nil ?_
  refine JE.code ?_
  refine JX.seq ?_
  refine JX.seq ?_
  refine JX.region ?_
  refine JL.val (yl_move rfl) rfl ?_
  obtain ⟨x3, hx3, hres⟩ := bind_some hres
  refine JL.eff (ef_call (T := T158 x3) Go.Proofs.Try.func158 rfl (by kernel_rfl) rfl (fun w hC => c158  hx3)) rfl ?_
  rintro _ _ ⟨_, ⟨a4, _, cp5, rfl, rfl, rfl⟩, rfl⟩
  refine JL.val (yl_len_slice Go.Proofs.Try.underlying150 rfl) rfl ?_
  refine JL.val (yl_move rfl) rfl ?_
  refine JL.nil ?_
  refine JE.weak (env' := [(4, .slice a1 0 0), (14, .slice a4 x3.length cp5), (15, .int .i64 (x3.length : Int)), (16, .int .i64 0)]) (es' := [rowT 42 eSPoint a1 0 0 ([] : List SPoint), rowT 9 eStr a4 x3.length cp5 x3]) [0, 1] ?_ ⟨rfl, rfl, rfl, rfl, trivial⟩ (by decide) rfl
  refine JE.code ?_
  refine JX.block ?_
  obtain ⟨y1, hy1, hresO1⟩ := bind_some hres
  refine JX.loop (I := fun (s1 : Int × List SPoint) aa ww => ∃ (a7 : Option Addr) (cp8 : Nat), St w [] 61 [(4, .slice a7 s1.2.length cp8), (14, .slice a4 x3.length cp5), (15, .int .i64 (x3.length : Int)), (16, .int .i64 s1.1)] [rowT 42 eSPoint a7 s1.2.length cp8 s1.2, rowT 9 eStr a4 x3.length cp5 x3] aa ww) (sh80_1 x3) hy1 (fun a w h => ⟨a1, 0, h.weak ⟨rfl, rfl, rfl, rfl, trivial⟩ [0, 1] (by decide) rfl⟩) ?_
  rintro ⟨x9, x10⟩ o1 hres hox1 aa ww ⟨a11, cp12, hS⟩
  refine (?_ : JX Go.Proofs.Try.prog w [] 61 _ _ [(4, .slice a11 x10.length cp12), (14, .slice a4 x3.length cp5), (15, .int .i64 (x3.length : Int)), (16, .int .i64 x9)] [rowT 42 eSPoint a11 x10.length cp12 x10, rowT 9 eStr a4 x3.length cp5 x3] _) aa ww hS
  clear hS
  simp only [sh80_1] at hres
  refine JX.seq ?_
  refine JX.region ?_
  refine JL.val (yl_lss rfl rfl) rfl ?_
  refine JL.nil ?_
  refine JE.code ?_
  refine JX.seq ?_
  rcases cond_some hres with ⟨hb, hres⟩ | ⟨hb, hres⟩
  · refine JX.condT rfl hb ?_
    refine JX.skip ?_
    refine JE.code ?_
    refine JX.seq ?_
    refine JX.block ?_
    refine JX.seq ?_
    refine JX.region ?_
    obtain ⟨x13, hx13, hres⟩ := bind_some hres
    refine JL.val (yl_idxT Go.Proofs.Try.underlying150 i9 i9s rfl rfl hx13 rfl (fun w hC => rd_row hC 1 rfl)) rfl ?_
    refine JL.val (yl_loadT0 Go.Proofs.Try.underlying9 rfl rfl hx13 (fun w hC => rd_row hC 1 rfl) rfl) rfl ?_
    refine JL.val (yl_assign rfl) rfl ?_
    refine JL.nil ?_
    refine JE.code ?_
    refine JX.seq ?_
    refine JX.region ?_
    refine JL.val (yl_move rfl) rfl ?_
    obtain ⟨x14, hx14, hres⟩ := bind_some hres
    refine JL.eff (ef_call (T := T167 x14) Go.Proofs.Try.func167 rfl (by kernel_rfl) rfl (fun w hC => c167  hx14)) rfl ?_
    rintro _ _ ⟨_, ⟨rfl, rfl⟩, rfl⟩
    refine JL.val (yl_assign rfl) rfl ?_
    refine JL.nil ?_
    refine JE.code ?_
    refine JX.seq ?_
    refine JX.seq ?_
    refine JX.region ?_
    refine JL.val (yl_move rfl) rfl ?_
    refine JL.val (yl_lss rfl rfl) rfl ?_
    refine JL.val (yl_move rfl) rfl ?_
    refine JL.cut (K := fun J => J [(4, .slice a11 x10.length cp12), (6, .string x13), (7, .int .i64 x14), (14, .slice a4 x3.length cp5), (15, .int .i64 (x3.length : Int)), (16, .int .i64 x9), (28, .bool ((decide (x14 < 0)) || ((x10.length : Int) == 60)))] [rowT 42 eSPoint a11 x10.length cp12 x10, rowT 9 eStr a4 x3.length cp5 x3]) 4 ?_ ?_
    · refine JL.nil ?_
      refine JE.weak (env' := [(4, .slice a11 x10.length cp12), (6, .string x13), (7, .int .i64 x14), (14, .slice a4 x3.length cp5), (15, .int .i64 (x3.length : Int)), (16, .int .i64 x9), (28, .bool ((decide (x14 < 0)) || ((x10.length : Int) == 60)))]) (es' := [rowT 42 eSPoint a11 x10.length cp12 x10, rowT 9 eStr a4 x3.length cp5 x3]) [0, 1] ?_ ⟨rfl, rfl, rfl, rfl, rfl, rfl, rfl, trivial⟩ (by decide) rfl
      refine JE.code ?_
      rcases cond_some hres with ⟨hb, hres⟩ | ⟨hb, hres⟩
      · refine JX.condT rfl hb ?_
        refine JX.seq ?_
        refine JX.region ?_
        refine JL.val (yl_assign rfl) rfl ?_
        refine JL.val (yl_assign rfl) rfl ?_
        refine JL.nil ?_
        refine JE.weak (env' := [(2, .slice none 0 0), (3, .bool false)]) (es' := []) [] ?_ ⟨rfl, rfl, trivial⟩ (by decide) rfl
        refine JE.code ?_
        refine JX.ret ?_
        refine JE.qbr ?_
        refine JE.qbr ?_
        refine JE.nilrow 42 eSPoint ?_
        have hres := elimS_inr hresO1 (hox1 _ (Option.some.inj hres).symm)
        obtain rfl := Option.some.inj hres
        refine JE.ret (rs := [.tmp 2, .tmp 3]) (vs := [.slice none 0 0, .bool false]) rfl ⟨rfl, rfl, trivial⟩ ?_
        exact fun w' hb hs => ⟨_, _, ⟨none, 0, 0, rfl, rfl, rfl⟩, rfl, hb, hs.sel [0] _ (by decide) rfl⟩
      · refine JX.condF rfl hb ?_
        refine JX.skip ?_
        refine JE.code ?_
        refine JX.seq ?_
        refine JX.region ?_
        refine JL.val (yl_move rfl) rfl ?_
        refine JL.val (yl_move rfl) rfl ?_
        obtain ⟨x16, hx16, hres⟩ := bind_some hres
        refine JL.val (yl_subSh Go.Proofs.Try.underlying9 rfl rfl hx16) rfl ?_
        obtain ⟨x17, hx17, hres⟩ := bind_some hres
        refine JL.eff (ef_call (T := T159 x17) Go.Proofs.Try.func159 rfl (by kernel_rfl) rfl (fun w hC => c159  hx17)) rfl ?_
        rintro _ _ ⟨_, ⟨rfl, rfl⟩, rfl⟩
        refine JL.val (yl_move rfl) rfl ?_
        refine JL.val (yl_extract rfl rfl) rfl ?_
        refine JL.val (yl_extract rfl rfl) rfl ?_
        refine JL.val (yl_assign rfl) rfl ?_
        refine JL.val (yl_assign rfl) rfl ?_
        refine JL.nil ?_
        refine JE.weak (env' := [(4, .slice a11 x10.length cp12), (6, .string x13), (7, .int .i64 x14), (8, .int .i64 x17.1), (9, .bool x17.2), (14, .slice a4 x3.length cp5), (15, .int .i64 (x3.length : Int)), (16, .int .i64 x9)]) (es' := [rowT 42 eSPoint a11 x10.length cp12 x10, rowT 9 eStr a4 x3.length cp5 x3]) [0, 1] ?_ ⟨rfl, rfl, rfl, rfl, rfl, rfl, rfl, rfl, trivial⟩ (by decide) rfl
        refine JE.code ?_
        refine JX.seq ?_
        refine JX.region ?_
        refine JL.val (yl_move rfl) rfl ?_
        refine JL.val (yl_move rfl) rfl ?_
        refine JL.val (yl_add rfl rfl) rfl ?_
        obtain ⟨x18, hx18, hres⟩ := bind_some hres
        refine JL.val (yl_subSl Go.Proofs.Try.underlying9 rfl rfl hx18) rfl ?_
        obtain ⟨x19, hx19, hres⟩ := bind_some hres
        refine JL.eff (ef_call (T := T159 x19) Go.Proofs.Try.func159 rfl (by kernel_rfl) rfl (fun w hC => c159  hx19)) rfl ?_
        rintro _ _ ⟨_, ⟨rfl, rfl⟩, rfl⟩
        refine JL.val (yl_move rfl) rfl ?_
        refine JL.val (yl_extract rfl rfl) rfl ?_
        refine JL.val (yl_extract rfl rfl) rfl ?_
        refine JL.val (yl_assign rfl) rfl ?_
        refine JL.val (yl_assign rfl) rfl ?_
        refine JL.nil ?_
        refine JE.weak (env' := [(4, .slice a11 x10.length cp12), (8, .int .i64 x17.1), (9, .bool x17.2), (10, .int .i64 x19.1), (11, .bool x19.2), (14, .slice a4 x3.length cp5), (15, .int .i64 (x3.length : Int)), (16, .int .i64 x9)]) (es' := [rowT 42 eSPoint a11 x10.length cp12 x10, rowT 9 eStr a4 x3.length cp5 x3]) [0, 1] ?_ ⟨rfl, rfl, rfl, rfl, rfl, rfl, rfl, rfl, trivial⟩ (by decide) rfl
        refine JE.code ?_
        refine JX.seq ?_
        refine JX.seq ?_
        refine JX.region ?_
        refine JL.val (yl_move rfl) rfl ?_
        refine JL.val (yl_not rfl) rfl ?_
        refine JL.val (yl_move rfl) rfl ?_
        refine JL.cut (K := fun J => J [(4, .slice a11 x10.length cp12), (8, .int .i64 x17.1), (10, .int .i64 x19.1), (14, .slice a4 x3.length cp5), (15, .int .i64 (x3.length : Int)), (16, .int .i64 x9), (49, .bool (!x17.2 || !x19.2))] [rowT 42 eSPoint a11 x10.length cp12 x10, rowT 9 eStr a4 x3.length cp5 x3]) 3 ?_ ?_
        · refine JL.nil ?_
          refine JE.weak (env' := [(4, .slice a11 x10.length cp12), (8, .int .i64 x17.1), (10, .int .i64 x19.1), (14, .slice a4 x3.length cp5), (15, .int .i64 (x3.length : Int)), (16, .int .i64 x9), (49, .bool (!x17.2 || !x19.2))]) (es' := [rowT 42 eSPoint a11 x10.length cp12 x10, rowT 9 eStr a4 x3.length cp5 x3]) [0, 1] ?_ ⟨rfl, rfl, rfl, rfl, rfl, rfl, rfl, trivial⟩ (by decide) rfl
          refine JE.code ?_
          rcases cond_some hres with ⟨hb, hres⟩ | ⟨hb, hres⟩
          · refine JX.condT rfl hb ?_
            refine JX.seq ?_
            refine JX.region ?_
            refine JL.val (yl_assign rfl) rfl ?_
            refine JL.val (yl_assign rfl) rfl ?_
            refine JL.nil ?_
            refine JE.weak (env' := [(2, .slice none 0 0), (3, .bool false)]) (es' := []) [] ?_ ⟨rfl, rfl, trivial⟩ (by decide) rfl
            refine JE.code ?_
            refine JX.ret ?_
            refine JE.qbr ?_
            refine JE.qbr ?_
            refine JE.nilrow 42 eSPoint ?_
            have hres := elimS_inr hresO1 (hox1 _ (Option.some.inj hres).symm)
            obtain rfl := Option.some.inj hres
            refine JE.ret (rs := [.tmp 2, .tmp 3]) (vs := [.slice none 0 0, .bool false]) rfl ⟨rfl, rfl, trivial⟩ ?_
            exact fun w' hb hs => ⟨_, _, ⟨none, 0, 0, rfl, rfl, rfl⟩, rfl, hb, hs.sel [0] _ (by decide) rfl⟩
          · refine JX.condF rfl hb ?_
            refine JX.skip ?_
            refine JE.code ?_
            refine JX.region ?_
            refine JL.val (yl_move rfl) rfl ?_
            refine JL.val (yl_move rfl) rfl ?_
            refine JL.val (yl_move rfl) rfl ?_
            refine JL.val (yl_build rfl (fun w => bld42_0_1 x17.1 x19.1 w)) rfl ?_
            refine JL.eff (ef_buildSlice (E := 42) (k := eSPoint.k) (us := eSPoint.fl [SPoint.mk x17.1 x19.1]) rfl (fun w => bsl34_1 x17.1 x19.1 w) rfl (by decide)) rfl ?_
            rintro _ _ ⟨a21, rfl, rfl⟩
            obtain ⟨x23, hx23, hres⟩ := bind_some hres
            refine JL.eff (ef_appendT (ix := 0) Go.Proofs.Try.underlying34 i42 i42z i42s rfl i42b0 i42b1 rfl rfl rfl rfl rfl (fun w hC => rd_row hC 2 rfl) hx23) rfl ?_
            rintro _ _ ⟨a24, cp25, rfl, rfl⟩
            refine JL.val (yl_assign rfl) rfl ?_
            refine JL.nil ?_
            refine JE.weak (env' := [(4, .slice a24 x23.length cp25), (14, .slice a4 x3.length cp5), (15, .int .i64 (x3.length : Int)), (16, .int .i64 x9)]) (es' := [rowT 42 eSPoint a24 x23.length cp25 x23, rowT 9 eStr a4 x3.length cp5 x3]) [0, 1] ?_ ⟨rfl, rfl, rfl, rfl, trivial⟩ (by decide) rfl
            refine JE.code ?_
            refine JX.region ?_
            refine JL.val (yl_add rfl rfl) rfl ?_
            refine JL.val (yl_move rfl) rfl ?_
            refine JL.nil ?_
            refine JE.cont hres ?_
            exact fun a w h => ⟨a24, cp25, h.weak ⟨rfl, rfl, rfl, rfl, trivial⟩ [0, 1] (by decide) rfl⟩
        · intro K
          rcases Bool.eq_false_or_eq_true (!x17.2) with hb | hb
          · refine JL.set (d := 46) (v := .bool true) (congrArg (fun b => some (Value.bool b)) hb) ?_
            refine JL.gskip rfl rfl rfl rfl ?_
            refine JL.gskip rfl rfl rfl rfl ?_
            refine JL.val (yl_pick_true rfl rfl) rfl ?_
            exact JL.weak [0, 1] K ⟨rfl, rfl, rfl, rfl, rfl, rfl, (by rw [hb]; rfl), trivial⟩ (by decide) rfl
          · refine JL.set (d := 46) (v := .bool false) (congrArg (fun b => some (Value.bool b)) hb) ?_
            refine JL.gval rfl rfl (yl_move rfl) rfl ?_
            refine JL.gval rfl rfl (yl_not rfl) rfl ?_
            refine JL.val (yl_pick_false rfl rfl) rfl ?_
            exact JL.weak [0, 1] K ⟨rfl, rfl, rfl, rfl, rfl, rfl, (by rw [hb]; rfl), trivial⟩ (by decide) rfl
    · intro K
      rcases Bool.eq_false_or_eq_true (decide (x14 < 0)) with hb | hb
      · refine JL.set (d := 24) (v := .bool true) (congrArg (fun b => some (Value.bool b)) hb) ?_
        refine JL.gskip rfl rfl rfl rfl ?_
        refine JL.gskip rfl rfl rfl rfl ?_
        refine JL.gskip rfl rfl rfl rfl ?_
        refine JL.val (yl_pick_true rfl rfl) rfl ?_
        exact JL.weak [0, 1] K ⟨rfl, rfl, rfl, rfl, rfl, rfl, (by rw [hb]; rfl), trivial⟩ (by decide) rfl
      · refine JL.set (d := 24) (v := .bool false) (congrArg (fun b => some (Value.bool b)) hb) ?_
        refine JL.gval rfl rfl (yl_move rfl) rfl ?_
        refine JL.gval rfl rfl (yl_len_slice Go.Proofs.Try.underlying34 rfl) rfl ?_
        refine JL.gval rfl rfl (yl_eql rfl rfl) rfl ?_
        refine JL.val (yl_pick_false rfl rfl) rfl ?_
        exact JL.weak [0, 1] K ⟨rfl, rfl, rfl, rfl, rfl, rfl, (by rw [hb]; rfl), trivial⟩ (by decide) rfl
  · refine JX.condF rfl hb ?_
    refine JX.exit ?_
    refine JE.qb rfl ?_
    obtain ⟨b1, hb1⟩ : ∃ b : List SPoint, b = x10 := ⟨_, rfl⟩
    have hy1 : Sum.inl b1 = y1 := by rw [hb1]; exact hox1 _ (Option.some.inj hres).symm
    have hres := elimS_inl hresO1 hy1
    refine JE.weak (env' := [(4, .slice a11 b1.length cp12)]) (es' := [rowT 42 eSPoint a11 b1.length cp12 b1]) [0] ?_ ⟨(by subst hb1; rfl), trivial⟩ (by decide) (by subst hb1; rfl)
    refine JE.code ?_
    refine JX.seq ?_
    refine JX.seq ?_
    refine JX.region ?_
    refine JL.val (yl_move rfl) rfl ?_
    obtain ⟨x28, hx28, hres⟩ := bind_some hres
    refine JL.eff (ef_call (T := T47 x28) Go.Proofs.Try.func47 rfl (by kernel_rfl) rfl (fun w hC => c47 (rd_row hC 0 rfl) rfl (ln_row hC 0 rfl) hx28)) rfl ?_
    rintro _ _ ⟨_, ⟨rfl, rfl⟩, rfl⟩
    refine JL.val (yl_not rfl) rfl ?_
    refine JL.nil ?_
    refine JE.code ?_
    rcases cond_some hres with ⟨hb, hres⟩ | ⟨hb, hres⟩
    · refine JX.condT rfl hb ?_
      refine JX.seq ?_
      refine JX.region ?_
      refine JL.val (yl_assign rfl) rfl ?_
      refine JL.val (yl_assign rfl) rfl ?_
      refine JL.nil ?_
      refine JE.weak (env' := [(2, .slice none 0 0), (3, .bool false)]) (es' := []) [] ?_ ⟨rfl, rfl, trivial⟩ (by decide) rfl
      refine JE.code ?_
      refine JX.ret ?_
      refine JE.nilrow 42 eSPoint ?_
      obtain rfl := Option.some.inj hres
      refine JE.ret (rs := [.tmp 2, .tmp 3]) (vs := [.slice none 0 0, .bool false]) rfl ⟨rfl, rfl, trivial⟩ ?_
      exact fun w' hb hs => ⟨_, _, ⟨none, 0, 0, rfl, rfl, rfl⟩, rfl, hb, hs.sel [0] _ (by decide) rfl⟩
    · refine JX.condF rfl hb ?_
      refine JX.skip ?_
      refine JE.code ?_
      refine JX.seq ?_
      refine JX.region ?_
      refine JL.val (yl_move rfl) rfl ?_
      refine JL.val (yl_assign rfl) rfl ?_
      refine JL.val (yl_assign rfl) rfl ?_
      refine JL.nil ?_
      refine JE.code ?_
      refine JX.ret ?_
      obtain rfl := Option.some.inj hres
      refine JE.ret (rs := [.tmp 2, .tmp 3]) (vs := [.slice a11 b1.length cp12, .bool true]) rfl ⟨rfl, rfl, trivial⟩ ?_
      exact fun w' hb hs => ⟨_, _, ⟨a11, b1.length, cp12, rfl, rfl, rfl⟩, rfl, hb, hs.sel [0] _ (by decide) rfl⟩

/- (*spec.l00Src).one -/
def sh93 (q0 : Sl00Src) (q1 : Int) : Option (Bool × Int × Int) := Option.bind (sh92 q0 q1) fun x1 => some (x1.1 == 0, x1.2.1, x1.2.2)
def T93 (gb_0 : Nat) (a_0_0 : Option Addr) (n_0_0 c_0_0 : Nat) (r : Bool × Int × Int) (v : Value) (es' rs : List Own) : Prop := es' = [boxO 163 gb_0 [.slice a_0_0 n_0_0 c_0_0, .int .i64 r.2.1, .int .u64 r.2.2]] ∧ v = rets [.bool r.1] ∧ rs = []
set_option maxRecDepth 100000 in
theorem c93 {w : World} {M : List Nat} {q0 : Sl00Src} {gb_0 : Nat} {a_0_0 : Option Addr} {n_0_0 c_0_0 : Nat} (g_0_0 : RdS M w a_0_0 (eU8.fl q0.code)) (l_0_0 : q0.code.length = n_0_0) (k_0_0 : n_0_0 ≤ c_0_0) {q1 : Int} (gs : Sep w.heap.size M w [boxO 163 gb_0 [.slice a_0_0 n_0_0 c_0_0, .int .i64 q0.at_, .int .u64 q0.seed]]) {r : Bool × Int × Int} (hres : sh93 q0 q1 = some r) : Calls Go.Proofs.Try.prog 93 [ptrAt (some ⟨gb_0, 0, none⟩) 0, .int .i64 q1].toArray w (RetMs w M (T93 gb_0 a_0_0 n_0_0 c_0_0 r)) := by
  subst l_0_0
  unfold sh93 at hres
  refine calls_of (n := 9) (M := M) (es := [boxO 163 gb_0 [.slice a_0_0 q0.code.length c_0_0, .int .i64 q0.at_, .int .u64 q0.seed]]) Go.Proofs.Try.func93 rfl rfl rfl gs ?_
  refine JX.seq ?_
  refine JX.region ?_
  refine JL.val (yl_assign rfl) rfl ?_
  refine JL.nil ?_
  refine JE.code ?_
  refine JX.seq ?_
  refine JX.region ?_
  refine JL.val (yl_move rfl) rfl ?_
  refine JL.val (yl_move rfl) rfl ?_
  obtain ⟨x1, hx1, hres⟩ := bind_some hres
  refine JL.eff (ef_callms (caps := []) (vs := [ptrAt (some ⟨gb_0, 0, none⟩) 0, .int .i64 q1]) (T := T92 gb_0 a_0_0 q0.code.length c_0_0 x1) [0] [] [boxO 163 gb_0 [.slice a_0_0 q0.code.length c_0_0, .int .i64 q0.at_, .int .u64 q0.seed]] [] rfl Go.Proofs.Try.func92 rfl (by kernel_rfl) rfl (by decide) rfl rfl (fun w N hF hS => c92 (q0 := q0) (RdS.pass hF g_0_0) rfl k_0_0 hS hx1)) rfl ?_
  rintro _ _ ⟨_, _, ⟨rfl, rfl, rfl⟩, rfl⟩
  refine JL.val (yl_eql rfl rfl) rfl ?_
  refine JL.val (yl_assign rfl) rfl ?_
  refine JL.nil ?_
  refine JE.weak (env' := [(4, .bool (x1.1 == 0))]) (es' := [boxO 163 gb_0 [.slice a_0_0 q0.code.length c_0_0, .int .i64 x1.2.1, .int .u64 x1.2.2]]) [0] ?_ ⟨rfl, trivial⟩ (by decide) rfl
  refine JE.code ?_
  refine JX.ret ?_
  obtain rfl := Option.some.inj hres
  refine JE.ret (rs := [.tmp 4]) (vs := [.bool (x1.1 == 0)]) rfl ⟨rfl, trivial⟩ ?_
  exact fun w' hb hs => ⟨_, _, _, ⟨rfl, rfl, rfl⟩, rfl, hb, hs.sel [0] _ (by decide) rfl⟩

/- (*spec.l00Src).text -/
def sh209 (q0 : Sl00Src) (q1 : List ByteArray) : Option (ByteArray × Int × Int) := Option.bind (sh92 q0 (q1.length : Int)) fun x1 => Option.bind (getI q1 x1.1) fun x2 => some (x2, x1.2.1, x1.2.2)
def T209 (gb_0 : Nat) (a_0_0 : Option Addr) (n_0_0 c_0_0 : Nat) (r : ByteArray × Int × Int) (v : Value) (es' rs : List Own) : Prop := es' = [boxO 163 gb_0 [.slice a_0_0 n_0_0 c_0_0, .int .i64 r.2.1, .int .u64 r.2.2]] ∧ v = rets [.string r.1] ∧ rs = []
set_option maxRecDepth 100000 in
theorem c209 {w : World} {M : List Nat} {q0 : Sl00Src} {gb_0 : Nat} {a_0_0 : Option Addr} {n_0_0 c_0_0 : Nat} (g_0_0 : RdS M w a_0_0 (eU8.fl q0.code)) (l_0_0 : q0.code.length = n_0_0) (k_0_0 : n_0_0 ≤ c_0_0) {q1 : List ByteArray} {a_1 : Option Addr} {n_1 c_1 : Nat} (g_1 : RdS M w a_1 (eStr.fl q1)) (l_1 : q1.length = n_1) (k_1 : n_1 ≤ c_1) (gs : Sep w.heap.size M w [boxO 163 gb_0 [.slice a_0_0 n_0_0 c_0_0, .int .i64 q0.at_, .int .u64 q0.seed]]) {r : ByteArray × Int × Int} (hres : sh209 q0 q1 = some r) : Calls Go.Proofs.Try.prog 209 [ptrAt (some ⟨gb_0, 0, none⟩) 0, .slice a_1 n_1 c_1].toArray w (RetMs w M (T209 gb_0 a_0_0 n_0_0 c_0_0 r)) := by
  subst l_0_0
  subst l_1
  unfold sh209 at hres
  refine calls_of (n := 12) (M := M) (es := [boxO 163 gb_0 [.slice a_0_0 q0.code.length c_0_0, .int .i64 q0.at_, .int .u64 q0.seed]]) Go.Proofs.Try.func209 rfl rfl rfl gs ?_
  refine JX.seq ?_
  refine JX.region ?_
  refine JL.val (yl_assign rfl) rfl ?_
  refine JL.nil ?_
  refine JE.code ?_
  refine JX.seq ?_
  refine JX.region ?_
  refine JL.val (yl_move rfl) rfl ?_
  refine JL.val (yl_move rfl) rfl ?_
  refine JL.val (yl_move rfl) rfl ?_
  refine JL.val (yl_len_slice Go.Proofs.Try.underlying150 rfl) rfl ?_
  obtain ⟨x1, hx1, hres⟩ := bind_some hres
  refine JL.eff (ef_callms (caps := []) (vs := [ptrAt (some ⟨gb_0, 0, none⟩) 0, .int .i64 (q1.length : Int)]) (T := T92 gb_0 a_0_0 q0.code.length c_0_0 x1) [0] [] [boxO 163 gb_0 [.slice a_0_0 q0.code.length c_0_0, .int .i64 q0.at_, .int .u64 q0.seed]] [] rfl Go.Proofs.Try.func92 rfl (by kernel_rfl) rfl (by decide) rfl rfl (fun w N hF hS => c92 (q0 := q0) (RdS.pass hF g_0_0) rfl k_0_0 hS hx1)) rfl ?_
  rintro _ _ ⟨_, _, ⟨rfl, rfl, rfl⟩, rfl⟩
  obtain ⟨x2, hx2, hres⟩ := bind_some hres
  refine JL.val (yl_idxT Go.Proofs.Try.underlying150 i9 i9s rfl rfl hx2 rfl (fun w hC => rd_argS g_1 hC)) rfl ?_
  refine JL.val (yl_loadT0 Go.Proofs.Try.underlying9 rfl rfl hx2 (fun w hC => rd_argS g_1 hC) rfl) rfl ?_
  refine JL.val (yl_assign rfl) rfl ?_
  refine JL.nil ?_
  refine JE.weak (env' := [(4, .string x2)]) (es' := [boxO 163 gb_0 [.slice a_0_0 q0.code.length c_0_0, .int .i64 x1.2.1, .int .u64 x1.2.2]]) [0] ?_ ⟨rfl, trivial⟩ (by decide) rfl
  refine JE.code ?_
  refine JX.ret ?_
  obtain rfl := Option.some.inj hres
  refine JE.ret (rs := [.tmp 4]) (vs := [.string x2]) rfl ⟨rfl, trivial⟩ ?_
  exact fun w' hb hs => ⟨_, _, _, ⟨rfl, rfl, rfl⟩, rfl, hb, hs.sel [0] _ (by decide) rfl⟩

/- spec.l01Spoil -/
def sh162 (q0 : Sl00Src) (q1 : ByteArray) : Option (ByteArray × Int × Int) := Option.bind (sh92 q0 5) fun x1 => Option.bind (bif x1.1 == 0 then (Option.bind (sh92 (Sl00Src.mk q0.code x1.2.1 x1.2.2) (w64 ((q1.size : Int) + 1))) fun x3 => Option.bind (subS q1 0 x3.1) fun x5 => Option.bind (subS q1 x3.1 (q1.size : Int)) fun x6 => Option.bind (sh209 (Sl00Src.mk q0.code x3.2.1 x3.2.2) ([ByteArray.mk #[32], ByteArray.mk #[48], ByteArray.mk #[45], ByteArray.mk #[120], ByteArray.mk #[49], ByteArray.mk #[57], ByteArray.mk #[46]])) fun x9 => Option.bind (catS x5 x9.1) fun x10 => Option.bind (catS x10 x6) fun x11 => some (x11, (x9.2.1, x9.2.2))) else (Option.bind (bif x1.1 == 1 then (Option.bind (bif !(q1.toList == (ByteArray.mk #[]).toList) then (Option.bind (sh92 (Sl00Src.mk q0.code x1.2.1 x1.2.2) (q1.size : Int)) fun x14 => Option.bind (subS q1 0 x14.1) fun x16 => Option.bind (subS q1 (w64 (x14.1 + 1)) (q1.size : Int)) fun x17 => Option.bind (catS x16 x17) fun x18 => some (x18, (x14.2.1, x14.2.2))) else (some (q1, (x1.2.1, x1.2.2)))) fun j13 => (some (j13.1, (j13.2.1, j13.2.2)))) else (some (q1, (x1.2.1, x1.2.2)))) fun j12 => (some (j12.1, (j12.2.1, j12.2.2))))) fun j2 => (some (j2.1, j2.2.1, j2.2.2))
def T162 (gb_0 : Nat) (a_0_0 : Option Addr) (n_0_0 c_0_0 : Nat) (r : ByteArray × Int × Int) (v : Value) (es' rs : List Own) : Prop := es' = [boxO 163 gb_0 [.slice a_0_0 n_0_0 c_0_0, .int .i64 r.2.1, .int .u64 r.2.2]] ∧ v = rets [.string r.1] ∧ rs = []
set_option maxRecDepth 100000 in
theorem c162 {w : World} {M : List Nat} {q0 : Sl00Src} {gb_0 : Nat} {a_0_0 : Option Addr} {n_0_0 c_0_0 : Nat} (g_0_0 : RdS M w a_0_0 (eU8.fl q0.code)) (l_0_0 : q0.code.length = n_0_0) (k_0_0 : n_0_0 ≤ c_0_0) {q1 : ByteArray} (gs : Sep w.heap.size M w [boxO 163 gb_0 [.slice a_0_0 n_0_0 c_0_0, .int .i64 q0.at_, .int .u64 q0.seed]]) {r : ByteArray × Int × Int} (hres : sh162 q0 q1 = some r) : Calls Go.Proofs.Try.prog 162 [ptrAt (some ⟨gb_0, 0, none⟩) 0, .string q1].toArray w (RetMs w M (T162 gb_0 a_0_0 n_0_0 c_0_0 r)) := by
  subst l_0_0
  unfold sh162 at hres
  refine calls_of (n := 44) (M := M) (es := [boxO 163 gb_0 [.slice a_0_0 q0.code.length c_0_0, .int .i64 q0.at_, .int .u64 q0.seed]]) Go.Proofs.Try.func162 rfl rfl rfl gs ?_
  refine JX.seq ?_
  refine JX.region ?_
  refine JL.val (yl_assign rfl) rfl ?_
  refine JL.nil ?_
  refine JE.code ?_
  refine JX.seq ?_
  refine JX.seq ?_
  refine JX.region ?_
  refine JL.val (yl_move rfl) rfl ?_
  obtain ⟨x1, hx1, hres⟩ := bind_some hres
  refine JL.eff (ef_callms (caps := []) (vs := [ptrAt (some ⟨gb_0, 0, none⟩) 0, .int .i64 5]) (T := T92 gb_0 a_0_0 q0.code.length c_0_0 x1) [0] [] [boxO 163 gb_0 [.slice a_0_0 q0.code.length c_0_0, .int .i64 q0.at_, .int .u64 q0.seed]] [] rfl Go.Proofs.Try.func92 rfl (by kernel_rfl) rfl (by decide) rfl rfl (fun w N hF hS => c92 (q0 := q0) (RdS.pass hF g_0_0) rfl k_0_0 hS hx1)) rfl ?_
  rintro _ _ ⟨_, _, ⟨rfl, rfl, rfl⟩, rfl⟩
  refine JL.nil ?_
  refine JE.code ?_
  refine JX.block ?_
  refine JX.seq ?_
  refine JX.region ?_
  refine JL.val (yl_eql rfl rfl) rfl ?_
  refine JL.val (yl_assign rfl) rfl ?_
  refine JL.nil ?_
  refine JE.code ?_
  obtain ⟨j2, hj2, hresj2⟩ := bind_some hres
  refine JX.cut (K := fun J => J [(1, .string j2.1)] [boxO 163 gb_0 [.slice a_0_0 q0.code.length c_0_0, .int .i64 j2.2.1, .int .u64 j2.2.2]]) ?_ ?_
  · have hres := hresj2
    refine JE.code ?_
    refine JX.seq ?_
    refine JX.region ?_
    refine JL.val (yl_move rfl) rfl ?_
    refine JL.val (yl_assign rfl) rfl ?_
    refine JL.nil ?_
    refine JE.code ?_
    refine JX.ret ?_
    obtain rfl := Option.some.inj hres
    refine JE.ret (rs := [.tmp 4]) (vs := [.string j2.1]) rfl ⟨rfl, trivial⟩ ?_
    exact fun w' hb hs => ⟨_, _, _, ⟨rfl, rfl, rfl⟩, rfl, hb, hs.sel [0] _ (by decide) rfl⟩
  · intro K
    rcases cond_some hj2 with ⟨hb, hres⟩ | ⟨hb, hres⟩
    · refine JX.condT rfl hb ?_
      refine JX.seq ?_
      refine JX.region ?_
      refine JL.val (yl_move rfl) rfl ?_
      refine JL.val (yl_move rfl) rfl ?_
      refine JL.val (yl_len_string Go.Proofs.Try.underlying9 rfl) rfl ?_
      refine JL.val (yl_add rfl rfl) rfl ?_
      obtain ⟨x3, hx3, hres⟩ := bind_some hres
      refine JL.eff (ef_callms (caps := []) (vs := [ptrAt (some ⟨gb_0, 0, none⟩) 0, .int .i64 (w64 ((q1.size : Int) + 1))]) (T := T92 gb_0 a_0_0 q0.code.length c_0_0 x3) [0] [] [boxO 163 gb_0 [.slice a_0_0 q0.code.length c_0_0, .int .i64 x1.2.1, .int .u64 x1.2.2]] [] rfl Go.Proofs.Try.func92 rfl (by kernel_rfl) rfl (by decide) rfl rfl (fun w N hF hS => c92 (q0 := Sl00Src.mk q0.code x1.2.1 x1.2.2) (RdS.pass hF g_0_0) rfl k_0_0 hS hx3)) rfl ?_
      rintro _ _ ⟨_, _, ⟨rfl, rfl, rfl⟩, rfl⟩
      refine JL.val (yl_assign rfl) rfl ?_
      refine JL.nil ?_
      refine JE.weak (env' := [(0, ptrAt (some ⟨gb_0, 0, none⟩) 0), (1, .string q1), (5, .int .i64 x3.1)]) (es' := [boxO 163 gb_0 [.slice a_0_0 q0.code.length c_0_0, .int .i64 x3.2.1, .int .u64 x3.2.2]]) [0] ?_ ⟨rfl, rfl, rfl, trivial⟩ (by decide) rfl
      refine JE.code ?_
      refine JX.drawH [(0, .pure), (1, .pure), (2, .pure), (3, .pure), (7, .pure), (8, .pure), (9, .pure), (4, .must), (5, .must), (6, .pure), (10, .pure), (11, .pure)] [5] [0] [] [boxO 163 gb_0 [.slice a_0_0 q0.code.length c_0_0, .int .i64 x3.2.1, .int .u64 x3.2.2]] [] mixedP (by kernel_rfl) (by kernel_rfl) (by decide) rfl rfl ?_
      intro wrr4 Nr4 hFr4
      refine JH.pure rfl (yl_move rfl) rfl ?_
      refine JH.pure rfl (yl_move rfl) rfl ?_
      obtain ⟨x5, hx5, hres⟩ := bind_some hres
      refine JH.pure rfl (yl_subSh Go.Proofs.Try.underlying9 rfl rfl hx5) rfl ?_
      refine JH.pure rfl (yl_move rfl) rfl ?_
      refine JH.pure rfl (yl_move rfl) rfl ?_
      refine JH.pure rfl (yl_move rfl) rfl ?_
      obtain ⟨x6, hx6, hres⟩ := bind_some hres
      refine JH.pure rfl (yl_subSl Go.Proofs.Try.underlying9 rfl rfl hx6) rfl ?_
      refine JH.must rfl (ef_buildSlice (E := 9) (k := eStr.k) (us := eStr.fl [ByteArray.mk #[32], ByteArray.mk #[48], ByteArray.mk #[45], ByteArray.mk #[120], ByteArray.mk #[49], ByteArray.mk #[57], ByteArray.mk #[46]]) rfl (fun w => bsl150_7 (ByteArray.mk #[32]) (ByteArray.mk #[48]) (ByteArray.mk #[45]) (ByteArray.mk #[120]) (ByteArray.mk #[49]) (ByteArray.mk #[57]) (ByteArray.mk #[46]) w) rfl (by decide)) rfl rfl ?_
      rintro _ _ ⟨a7, rfl, rfl⟩
      obtain ⟨x9, hx9, hres⟩ := bind_some hres
      refine JH.must rfl (ef_callms (caps := []) (vs := [ptrAt (some ⟨gb_0, 0, none⟩) 0, .slice a7 7 7]) (T := T209 gb_0 a_0_0 q0.code.length c_0_0 x9) [0] [1] [boxO 163 gb_0 [.slice a_0_0 q0.code.length c_0_0, .int .i64 x3.2.1, .int .u64 x3.2.2]] [rowT 9 eStr a7 7 7 ([ByteArray.mk #[32], ByteArray.mk #[48], ByteArray.mk #[45], ByteArray.mk #[120], ByteArray.mk #[49], ByteArray.mk #[57], ByteArray.mk #[46]])] rfl Go.Proofs.Try.func209 rfl (by kernel_rfl) rfl (by decide) rfl rfl (fun w N hF hS => c209 (q0 := Sl00Src.mk q0.code x3.2.1 x3.2.2) (RdS.pass hF (RdS.pass hFr4 g_0_0)) rfl k_0_0 (RdS.row hF 1 rfl rfl) rfl (ln_row hF.cl 1 rfl) hS hx9)) rfl rfl ?_
      rintro _ _ ⟨_, _, ⟨rfl, rfl, rfl⟩, rfl⟩
      obtain ⟨x10, hx10, hres⟩ := bind_some hres
      refine JH.pure rfl (yl_catS rfl rfl hx10) rfl ?_
      obtain ⟨x11, hx11, hres⟩ := bind_some hres
      refine JH.pure rfl (yl_catS rfl rfl hx11) rfl ?_
      refine JH.pure rfl (yl_assign rfl) rfl ?_
      refine JH.nil ?_
      refine JE.weak (env' := [(1, .string x11)]) (es' := [boxO 163 gb_0 [.slice a_0_0 q0.code.length c_0_0, .int .i64 x9.2.1, .int .u64 x9.2.2]]) [1] ?_ ⟨rfl, trivial⟩ (by decide) rfl
      have hj := Option.some.inj hres
      exact JE.weak [0] (K) ⟨(by subst hj; rfl), trivial⟩ (by decide) (by subst hj; rfl)
    · refine JX.condF rfl hb ?_
      refine JX.seq ?_
      refine JX.region ?_
      refine JL.val (yl_eql rfl rfl) rfl ?_
      refine JL.val (yl_assign rfl) rfl ?_
      refine JL.nil ?_
      refine JE.code ?_
      obtain ⟨j12, hj12, hresj12⟩ := bind_some hres
      refine JX.cut (K := fun J => J [(1, .string j12.1)] [boxO 163 gb_0 [.slice a_0_0 q0.code.length c_0_0, .int .i64 j12.2.1, .int .u64 j12.2.2]]) ?_ ?_
      · have hres := hresj12
        have hj := Option.some.inj hres
        exact JE.weak [0] (K) ⟨(by subst hj; rfl), trivial⟩ (by decide) (by subst hj; rfl)
      · intro K
        rcases cond_some hj12 with ⟨hb, hres⟩ | ⟨hb, hres⟩
        · refine JX.condT rfl hb ?_
          refine JX.seq ?_
          refine JX.region ?_
          refine JL.val (yl_move rfl) rfl ?_
          refine JL.val (yl_sneq rfl rfl) rfl ?_
          refine JL.nil ?_
          refine JE.code ?_
          obtain ⟨j13, hj13, hresj13⟩ := bind_some hres
          refine JX.cut (K := fun J => J [(1, .string j13.1)] [boxO 163 gb_0 [.slice a_0_0 q0.code.length c_0_0, .int .i64 j13.2.1, .int .u64 j13.2.2]]) ?_ ?_
          · have hres := hresj13
            have hj := Option.some.inj hres
            exact JE.weak [0] (K) ⟨(by subst hj; rfl), trivial⟩ (by decide) (by subst hj; rfl)
          · intro K
            rcases cond_some hj13 with ⟨hb, hres⟩ | ⟨hb, hres⟩
            · refine JX.condT rfl hb ?_
              refine JX.seq ?_
              refine JX.region ?_
              refine JL.val (yl_move rfl) rfl ?_
              refine JL.val (yl_move rfl) rfl ?_
              refine JL.val (yl_len_string Go.Proofs.Try.underlying9 rfl) rfl ?_
              obtain ⟨x14, hx14, hres⟩ := bind_some hres
              refine JL.eff (ef_callms (caps := []) (vs := [ptrAt (some ⟨gb_0, 0, none⟩) 0, .int .i64 (q1.size : Int)]) (T := T92 gb_0 a_0_0 q0.code.length c_0_0 x14) [0] [] [boxO 163 gb_0 [.slice a_0_0 q0.code.length c_0_0, .int .i64 x1.2.1, .int .u64 x1.2.2]] [] rfl Go.Proofs.Try.func92 rfl (by kernel_rfl) rfl (by decide) rfl rfl (fun w N hF hS => c92 (q0 := Sl00Src.mk q0.code x1.2.1 x1.2.2) (RdS.pass hF g_0_0) rfl k_0_0 hS hx14)) rfl ?_
              rintro _ _ ⟨_, _, ⟨rfl, rfl, rfl⟩, rfl⟩
              refine JL.val (yl_assign rfl) rfl ?_
              refine JL.nil ?_
              refine JE.weak (env' := [(1, .string q1), (6, .int .i64 x14.1)]) (es' := [boxO 163 gb_0 [.slice a_0_0 q0.code.length c_0_0, .int .i64 x14.2.1, .int .u64 x14.2.2]]) [0] ?_ ⟨rfl, rfl, trivial⟩ (by decide) rfl
              refine JE.code ?_
              refine JX.drawH [(0, .pure), (1, .pure), (2, .pure), (3, .pure), (4, .pure), (5, .pure), (6, .pure), (7, .pure), (8, .pure)] [] [] [0] [] [boxO 163 gb_0 [.slice a_0_0 q0.code.length c_0_0, .int .i64 x14.2.1, .int .u64 x14.2.2]] mixedP (by kernel_rfl) (by kernel_rfl) (by decide) rfl rfl ?_
              intro wrr15 Nr15 hFr15
              refine JH.pure rfl (yl_move rfl) rfl ?_
              refine JH.pure rfl (yl_move rfl) rfl ?_
              obtain ⟨x16, hx16, hres⟩ := bind_some hres
              refine JH.pure rfl (yl_subSh Go.Proofs.Try.underlying9 rfl rfl hx16) rfl ?_
              refine JH.pure rfl (yl_move rfl) rfl ?_
              refine JH.pure rfl (yl_move rfl) rfl ?_
              refine JH.pure rfl (yl_add rfl rfl) rfl ?_
              obtain ⟨x17, hx17, hres⟩ := bind_some hres
              refine JH.pure rfl (yl_subSl Go.Proofs.Try.underlying9 rfl rfl hx17) rfl ?_
              obtain ⟨x18, hx18, hres⟩ := bind_some hres
              refine JH.pure rfl (yl_catS rfl rfl hx18) rfl ?_
              refine JH.pure rfl (yl_assign rfl) rfl ?_
              refine JH.nil ?_
              refine JE.weak (env' := [(1, .string x18)]) (es' := [boxO 163 gb_0 [.slice a_0_0 q0.code.length c_0_0, .int .i64 x14.2.1, .int .u64 x14.2.2]]) [0] ?_ ⟨rfl, trivial⟩ (by decide) rfl
              have hj := Option.some.inj hres
              exact JE.weak [0] (K) ⟨(by subst hj; rfl), trivial⟩ (by decide) (by subst hj; rfl)
            · refine JX.condF rfl hb ?_
              refine JX.skip ?_
              have hj := Option.some.inj hres
              exact JE.weak [0] (K) ⟨(by subst hj; rfl), trivial⟩ (by decide) (by subst hj; rfl)
        · refine JX.condF rfl hb ?_
          refine JX.skip ?_
          have hj := Option.some.inj hres
          exact JE.weak [0] (K) ⟨(by subst hj; rfl), trivial⟩ (by decide) (by subst hj; rfl)

/- spec.l01Dec -/
def sh208_1 : (Int × List Int) → Option ((Int × List Int) ⊕ (List Int))
  | (x5, x6) => bif x5 != 0 then (Option.bind (bif decide ((x5.tmod 10) < 0) then (some (w64 (0 - (x5.tmod 10)))) else (some (x5.tmod 10))) fun j9 => (Option.bind (appL [IntKind.u8.wrap (w64 (48 + j9))] x6) fun x12 => some (.inl (w64 (x5.tdiv 10), x12)))) else (some (.inr x6))
def sh208 (q0 : Int) : Option (ByteArray) := Option.bind (iter (sh208_1) (q0, ([] : List Int))) fun b1 => (bif (b1.length : Int) == 0 then (some (ByteArray.mk #[48])) else (bif decide (q0 < 0) then (Option.bind (catS (ByteArray.mk #[45]) (bytesS b1)) fun x17 => some x17) else (some (bytesS b1))))
def T208 (r : ByteArray) (v : Value) (rs : List Own) : Prop := v = rets [.string r] ∧ rs = []
set_option maxRecDepth 100000 in
theorem c208 {w : World} {q0 : Int} {r : ByteArray} (hres : sh208 q0 = some r) : Calls Go.Proofs.Try.prog 208 [.int .i64 q0].toArray w (Ret w (T208 r)) := by
  unfold sh208 at hres
  refine calls_of (n := 34) (M := []) (es := []) Go.Proofs.Try.func208 rfl rfl rfl (Sep.nil _ _ _) ?_
  refine JX.seq ?_
  refine JX.region ?_
  refine JL.val (yl_assign rfl) rfl ?_
  refine JL.nil ?_
  refine JE.code ?_
  refine JX.seq ?_
  refine JX.region ?_
  refine JL.eff (ef_buildSlice (E := 5) (k := eU8.k) (us := eU8.fl ([] : List Int)) rfl (fun w => bsl22_0  w) rfl (by decide)) rfl ?_
  rintro _ _ ⟨a1, rfl, rfl⟩
  refine JL.val (yl_assign rfl) rfl ?_
  refine JL.nil ?_
  refine JE.code ?_
  refine JX.seq ?_
  refine JX.seq ?_
  refine JX.region ?_
  refine JL.val (yl_move rfl) rfl ?_
  refine JL.val (yl_assign rfl) rfl ?_
  refine JL.nil ?_
  refine JE.code ?_
  refine JX.block ?_
  obtain ⟨y1, hy1, hresO1⟩ := bind_some hres
  refine JX.loop (I := fun (s1 : Int × List Int) aa ww => ∃ (a3 : Option Addr) (cp4 : Nat), St w [] 34 [(0, .int .i64 q0), (3, .slice a3 s1.2.length cp4), (4, .int .i64 s1.1)] [rowT 5 eU8 a3 s1.2.length cp4 s1.2] aa ww) (sh208_1) hy1 (fun a w h => ⟨a1, 0, h.weak ⟨rfl, rfl, rfl, trivial⟩ [0] (by decide) rfl⟩) ?_
  rintro ⟨x5, x6⟩ o1 hres hox1 aa ww ⟨a7, cp8, hS⟩
  refine (?_ : JX Go.Proofs.Try.prog w [] 34 _ _ [(0, .int .i64 q0), (3, .slice a7 x6.length cp8), (4, .int .i64 x5)] [rowT 5 eU8 a7 x6.length cp8 x6] _) aa ww hS
  clear hS
  simp only [sh208_1] at hres
  refine JX.seq ?_
  refine JX.seq ?_
  refine JX.region ?_
  refine JL.val (yl_move rfl) rfl ?_
  refine JL.val (yl_neq rfl rfl) rfl ?_
  refine JL.nil ?_
  refine JE.code ?_
  rcases cond_some hres with ⟨hb, hres⟩ | ⟨hb, hres⟩
  · refine JX.condT rfl hb ?_
    refine JX.skip ?_
    refine JE.code ?_
    refine JX.seq ?_
    refine JX.block ?_
    refine JX.seq ?_
    refine JX.region ?_
    refine JL.val (yl_move rfl) rfl ?_
    refine JL.val (yl_rem rfl rfl (by decide)) rfl ?_
    refine JL.val (yl_assign rfl) rfl ?_
    refine JL.nil ?_
    refine JE.code ?_
    refine JX.seq ?_
    refine JX.seq ?_
    refine JX.region ?_
    refine JL.val (yl_move rfl) rfl ?_
    refine JL.val (yl_lss rfl rfl) rfl ?_
    refine JL.nil ?_
    refine JE.code ?_
    obtain ⟨j9, hj9, hresj9⟩ := bind_some hres
    refine JX.cut (K := fun J => J [(0, .int .i64 q0), (3, .slice a7 x6.length cp8), (4, .int .i64 x5), (5, .int .i64 j9)] [rowT 5 eU8 a7 x6.length cp8 x6]) ?_ ?_
    · have hres := hresj9
      refine JE.code ?_
      refine JX.region ?_
      refine JL.val (yl_move rfl) rfl ?_
      refine JL.val (yl_add rfl rfl) rfl ?_
      refine JL.val (yl_conv Go.Proofs.Try.underlying2 Go.Proofs.Try.underlying5 rfl) rfl ?_
      refine JL.eff (ef_buildSlice (E := 5) (k := eU8.k) (us := eU8.fl [IntKind.u8.wrap (w64 (48 + j9))]) rfl (fun w => bsl22_1 (IntKind.u8.wrap (w64 (48 + j9))) w) rfl (by decide)) rfl ?_
      rintro _ _ ⟨a10, rfl, rfl⟩
      refine JL.val (yl_move rfl) rfl ?_
      obtain ⟨x12, hx12, hres⟩ := bind_some hres
      refine JL.eff (ef_appendT (ix := 1) Go.Proofs.Try.underlying22 i5 i5z i5s rfl i5b0 i5b1 rfl rfl rfl rfl rfl (fun w hC => rd_row hC 0 rfl) hx12) rfl ?_
      rintro _ _ ⟨a13, cp14, rfl, rfl⟩
      refine JL.val (yl_assign rfl) rfl ?_
      refine JL.nil ?_
      refine JE.weak (env' := [(0, .int .i64 q0), (3, .slice a13 x12.length cp14), (4, .int .i64 x5)]) (es' := [rowT 5 eU8 a13 x12.length cp14 x12]) [1] ?_ ⟨rfl, rfl, rfl, trivial⟩ (by decide) rfl
      refine JE.code ?_
      refine JX.region ?_
      refine JL.val (yl_move rfl) rfl ?_
      refine JL.val (yl_quo rfl rfl (by decide)) rfl ?_
      refine JL.val (yl_assign rfl) rfl ?_
      refine JL.nil ?_
      refine JE.cont hres ?_
      exact fun a w h => ⟨a13, cp14, h.weak ⟨rfl, rfl, rfl, trivial⟩ [0] (by decide) rfl⟩
    · intro K
      rcases cond_some hj9 with ⟨hb, hres⟩ | ⟨hb, hres⟩
      · refine JX.condT rfl hb ?_
        refine JX.region ?_
        refine JL.val (yl_move rfl) rfl ?_
        refine JL.val (yl_neg rfl) rfl ?_
        refine JL.val (yl_assign rfl) rfl ?_
        refine JL.nil ?_
        have hj := Option.some.inj hres
        exact JE.weak [0] (K) ⟨(by subst hj; rfl), (by subst hj; rfl), (by subst hj; rfl), (by subst hj; rfl), trivial⟩ (by decide) (by subst hj; rfl)
      · refine JX.condF rfl hb ?_
        refine JX.skip ?_
        have hj := Option.some.inj hres
        exact JE.weak [0] (K) ⟨(by subst hj; rfl), (by subst hj; rfl), (by subst hj; rfl), (by subst hj; rfl), trivial⟩ (by decide) (by subst hj; rfl)
  · refine JX.condF rfl hb ?_
    refine JX.exit ?_
    refine JE.qb rfl ?_
    obtain ⟨b1, hb1⟩ : ∃ b : List Int, b = x6 := ⟨_, rfl⟩
    have hy1 : b1 = y1 := by rw [hb1]; exact hox1 _ (Option.some.inj hres).symm
    have hres := hresO1
    rw [← hy1] at hres
    refine JE.weak (env' := [(0, .int .i64 q0), (3, .slice a7 b1.length cp8)]) (es' := [rowT 5 eU8 a7 b1.length cp8 b1]) [0] ?_ ⟨(by subst hb1; rfl), (by subst hb1; rfl), trivial⟩ (by decide) (by subst hb1; rfl)
    refine JE.code ?_
    refine JX.seq ?_
    refine JX.seq ?_
    refine JX.region ?_
    refine JL.val (yl_move rfl) rfl ?_
    refine JL.val (yl_len_slice Go.Proofs.Try.underlying22 rfl) rfl ?_
    refine JL.val (yl_eql rfl rfl) rfl ?_
    refine JL.nil ?_
    refine JE.code ?_
    rcases cond_some hres with ⟨hb, hres⟩ | ⟨hb, hres⟩
    · refine JX.condT rfl hb ?_
      refine JX.seq ?_
      refine JX.region ?_
      refine JL.val (yl_assign rfl) rfl ?_
      refine JL.nil ?_
      refine JE.weak (env' := [(2, .string (ByteArray.mk #[48]))]) (es' := []) [] ?_ ⟨rfl, trivial⟩ (by decide) rfl
      refine JE.code ?_
      refine JX.ret ?_
      obtain rfl := Option.some.inj hres
      refine JE.ret (rs := [.tmp 2]) (vs := [.string (ByteArray.mk #[48])]) rfl ⟨rfl, trivial⟩ ?_
      exact fun w' hb hs => ⟨_, _, ⟨rfl, rfl⟩, rfl, hb, hs.sel [] _ (by decide) rfl⟩
    · refine JX.condF rfl hb ?_
      refine JX.skip ?_
      refine JE.code ?_
      refine JX.seq ?_
      refine JX.seq ?_
      refine JX.region ?_
      refine JL.val (yl_move rfl) rfl ?_
      refine JL.val (yl_lss rfl rfl) rfl ?_
      refine JL.nil ?_
      refine JE.code ?_
      rcases cond_some hres with ⟨hb, hres⟩ | ⟨hb, hres⟩
      · refine JX.condT rfl hb ?_
        refine JX.seq ?_
        refine JX.region ?_
        refine JL.val (yl_move rfl) rfl ?_
        refine JL.val (yl_bytesT Go.Proofs.Try.underlying22 Go.Proofs.Try.underlying9 Go.Proofs.Try.underlying5 rfl rfl (fun w hC => rd_row hC 0 rfl)) rfl ?_
        obtain ⟨x17, hx17, hres⟩ := bind_some hres
        refine JL.val (yl_catS rfl rfl hx17) rfl ?_
        refine JL.val (yl_assign rfl) rfl ?_
        refine JL.nil ?_
        refine JE.weak (env' := [(2, .string x17)]) (es' := []) [] ?_ ⟨rfl, trivial⟩ (by decide) rfl
        refine JE.code ?_
        refine JX.ret ?_
        obtain rfl := Option.some.inj hres
        refine JE.ret (rs := [.tmp 2]) (vs := [.string x17]) rfl ⟨rfl, trivial⟩ ?_
        exact fun w' hb hs => ⟨_, _, ⟨rfl, rfl⟩, rfl, hb, hs.sel [] _ (by decide) rfl⟩
      · refine JX.condF rfl hb ?_
        refine JX.skip ?_
        refine JE.code ?_
        refine JX.seq ?_
        refine JX.region ?_
        refine JL.val (yl_move rfl) rfl ?_
        refine JL.val (yl_bytesT Go.Proofs.Try.underlying22 Go.Proofs.Try.underlying9 Go.Proofs.Try.underlying5 rfl rfl (fun w hC => rd_row hC 0 rfl)) rfl ?_
        refine JL.val (yl_assign rfl) rfl ?_
        refine JL.nil ?_
        refine JE.weak (env' := [(2, .string (bytesS b1))]) (es' := []) [] ?_ ⟨rfl, trivial⟩ (by decide) rfl
        refine JE.code ?_
        refine JX.ret ?_
        obtain rfl := Option.some.inj hres
        refine JE.ret (rs := [.tmp 2]) (vs := [.string (bytesS b1)]) rfl ⟨rfl, trivial⟩ ?_
        exact fun w' hb hs => ⟨_, _, ⟨rfl, rfl⟩, rfl, hb, hs.sel [] _ (by decide) rfl⟩

/- spec.l19Text -/
def sh168_1 (q0 : List SPoint) : (Int × List Int) → Option ((Int × List Int) ⊕ (List Int))
  | (x5, x6) => bif decide (x5 < (q0.length : Int)) then (Option.bind (bif decide (0 < x5) then (Option.bind (appL x6 [32]) fun x24 => some x24) else (some x6)) fun j9 => (Option.bind (getI q0 x5) fun x13 => Option.bind (getI q0 x5) fun x14 => Option.bind (sh208 x13.X) fun x15 => Option.bind (catS x15 (ByteArray.mk #[44])) fun x16 => Option.bind (sh208 x14.Y) fun x17 => Option.bind (catS x16 x17) fun x18 => Option.bind (appL j9 (strI x18)) fun x19 => some (.inl (w64 (x5 + 1), x19)))) else (some (.inr x6))
def sh168 (q0 : List SPoint) : Option (ByteArray) := Option.bind (iter (sh168_1 q0) (0, ([] : List Int))) fun b1 => (some (bytesS b1))
def T168 (r : ByteArray) (v : Value) (rs : List Own) : Prop := v = rets [.string r] ∧ rs = []
set_option maxRecDepth 100000 in
theorem c168 {w : World} {q0 : List SPoint} {a_0 : Option Addr} {n_0 c_0 : Nat} (g_0 : Rd w a_0 (eSPoint.fl q0)) (l_0 : q0.length = n_0) (k_0 : n_0 ≤ c_0) {r : ByteArray} (hres : sh168 q0 = some r) : Calls Go.Proofs.Try.prog 168 [.slice a_0 n_0 c_0].toArray w (Ret w (T168 r)) := by
  subst l_0
  unfold sh168 at hres
  refine calls_of (n := 35) (M := []) (es := []) Go.Proofs.Try.func168 rfl rfl rfl (Sep.nil _ _ _) ?_
  refine JX.seq ?_
  refine JX.region ?_
  refine JL.val (yl_assign rfl) rfl ?_
  refine JL.nil ?_
  refine JE.code ?_
  refine JX.seq ?_
  refine JX.region ?_
  refine JL.eff (ef_buildSlice (E := 5) (k := eU8.k) (us := eU8.fl ([] : List Int)) rfl (fun w => bsl22_0  w) rfl (by decide)) rfl ?_
  rintro _ _ ⟨a1, rfl, rfl⟩
  refine JL.val (yl_assign rfl) rfl ?_
  refine JL.nil ?_
  refine JE.code ?_
  refine JX.seq ?_
  refine JX.seq ?_
  refine JX.region ?_
  refine JL.val (yl_assign rfl) rfl ?_
  refine JL.nil ?_
  refine JE.code ?_
  refine JX.block ?_
  obtain ⟨y1, hy1, hresO1⟩ := bind_some hres
  refine JX.loop (I := fun (s1 : Int × List Int) aa ww => ∃ (a3 : Option Addr) (cp4 : Nat), St w [] 35 [(0, .slice a_0 q0.length c_0), (3, .slice a3 s1.2.length cp4), (4, .int .i64 s1.1)] [rowT 5 eU8 a3 s1.2.length cp4 s1.2] aa ww) (sh168_1 q0) hy1 (fun a w h => ⟨a1, 0, h.weak ⟨rfl, rfl, rfl, trivial⟩ [0] (by decide) rfl⟩) ?_
  rintro ⟨x5, x6⟩ o1 hres hox1 aa ww ⟨a7, cp8, hS⟩
  refine (?_ : JX Go.Proofs.Try.prog w [] 35 _ _ [(0, .slice a_0 q0.length c_0), (3, .slice a7 x6.length cp8), (4, .int .i64 x5)] [rowT 5 eU8 a7 x6.length cp8 x6] _) aa ww hS
  clear hS
  simp only [sh168_1] at hres
  refine JX.seq ?_
  refine JX.seq ?_
  refine JX.region ?_
  refine JL.val (yl_move rfl) rfl ?_
  refine JL.val (yl_move rfl) rfl ?_
  refine JL.val (yl_len_slice Go.Proofs.Try.underlying34 rfl) rfl ?_
  refine JL.val (yl_lss rfl rfl) rfl ?_
  refine JL.nil ?_
  refine JE.weak (env' := [(0, .slice a_0 q0.length c_0), (3, .slice a7 x6.length cp8), (4, .int .i64 x5), (9, .bool (decide (x5 < (q0.length : Int))))]) (es' := [rowT 5 eU8 a7 x6.length cp8 x6]) [0] ?_ ⟨rfl, rfl, rfl, rfl, trivial⟩ (by decide) rfl
  refine JE.code ?_
  rcases cond_some hres with ⟨hb, hres⟩ | ⟨hb, hres⟩
  · refine JX.condT rfl hb ?_
    refine JX.skip ?_
    refine JE.code ?_
    refine JX.seq ?_
    refine JX.block ?_
    refine JX.seq ?_
    refine JX.seq ?_
    refine JX.region ?_
    refine JL.val (yl_move rfl) rfl ?_
    refine JL.val (yl_gtr rfl rfl) rfl ?_
    refine JL.nil ?_
    refine JE.code ?_
    obtain ⟨j9, hj9, hresj9⟩ := bind_some hres
    refine JX.cut (K := fun J => ∀ (a10 : Option Addr) (cp11 : Nat), J [(0, .slice a_0 q0.length c_0), (3, .slice a10 j9.length cp11), (4, .int .i64 x5)] [rowT 5 eU8 a10 j9.length cp11 j9]) ?_ ?_
    · intro a10 cp11
      have hres := hresj9
      refine JE.code ?_
      refine JX.drawH [(0, .pure), (1, .pure), (2, .pure), (3, .pure), (4, .pure), (5, .read), (8, .pure), (9, .pure), (10, .pure), (11, .pure), (12, .read), (6, .must), (7, .pure), (13, .must), (14, .pure), (15, .must), (16, .pure)] [15] [0] [] [rowT 5 eU8 a10 j9.length cp11 j9] [] mixedP (by kernel_rfl) (by kernel_rfl) (by decide) rfl rfl ?_
      intro wrr12 Nr12 hFr12
      refine JH.pure rfl (yl_move rfl) rfl ?_
      refine JH.pure rfl (yl_move rfl) rfl ?_
      refine JH.pure rfl (yl_move rfl) rfl ?_
      obtain ⟨x13, hx13, hres⟩ := bind_some hres
      refine JH.pure rfl (yl_idxQ Go.Proofs.Try.underlying34 i42 i42s rfl rfl hx13 rfl (rd_arg g_0 hFr12.cl) rfl) rfl ?_
      refine JH.pure rfl (yl_fieldAt Go.Proofs.Try.underlying42 rfl i2 i2n rfl (RdT.someQ (rd_arg g_0 hFr12.cl) hx13 rfl rfl)) rfl ?_
      refine JH.read rfl (yl_loadT1 Go.Proofs.Try.underlying2 rfl rfl hx13 (fun w hw => hFr12.arg g_0 hw) rfl) rfl ?_
      refine JH.pure rfl (yl_move rfl) rfl ?_
      refine JH.pure rfl (yl_move rfl) rfl ?_
      obtain ⟨x14, hx14, hres⟩ := bind_some hres
      refine JH.pure rfl (yl_idxQ Go.Proofs.Try.underlying34 i42 i42s rfl rfl hx14 rfl (rd_arg g_0 hFr12.cl) rfl) rfl ?_
      refine JH.pure rfl (yl_fieldAt Go.Proofs.Try.underlying42 rfl i2 i2n rfl (RdT.someQ (rd_arg g_0 hFr12.cl) hx14 rfl rfl)) rfl ?_
      refine JH.read rfl (yl_loadT1 Go.Proofs.Try.underlying2 rfl rfl hx14 (fun w hw => hFr12.arg g_0 hw) rfl) rfl ?_
      obtain ⟨x15, hx15, hres⟩ := bind_some hres
      refine JH.must rfl (ef_call (T := T208 x15) Go.Proofs.Try.func208 rfl (by kernel_rfl) rfl (fun w hC => c208  hx15)) rfl rfl ?_
      rintro _ _ ⟨_, ⟨rfl, rfl⟩, rfl⟩
      obtain ⟨x16, hx16, hres⟩ := bind_some hres
      refine JH.pure rfl (yl_catS rfl rfl hx16) rfl ?_
      obtain ⟨x17, hx17, hres⟩ := bind_some hres
      refine JH.must rfl (ef_call (T := T208 x17) Go.Proofs.Try.func208 rfl (by kernel_rfl) rfl (fun w hC => c208  hx17)) rfl rfl ?_
      rintro _ _ ⟨_, ⟨rfl, rfl⟩, rfl⟩
      obtain ⟨x18, hx18, hres⟩ := bind_some hres
      refine JH.pure rfl (yl_catS rfl rfl hx18) rfl ?_
      obtain ⟨x19, hx19, hres⟩ := bind_some hres
      refine JH.must rfl (ef_appendS (ix := 0) Go.Proofs.Try.underlying22 Go.Proofs.Try.underlying9 i5 i5z i5s i5b rfl rfl rfl rfl hx19) rfl rfl ?_
      rintro _ _ ⟨a20, cp21, rfl, rfl⟩
      refine JH.pure rfl (yl_assign rfl) rfl ?_
      refine JH.nil ?_
      refine JE.weak (env' := [(0, .slice a_0 q0.length c_0), (3, .slice a20 x19.length cp21), (4, .int .i64 x5)]) (es' := [rowT 5 eU8 a20 x19.length cp21 x19]) [0] ?_ ⟨rfl, rfl, rfl, trivial⟩ (by decide) rfl
      refine JE.code ?_
      refine JX.region ?_
      refine JL.val (yl_move rfl) rfl ?_
      refine JL.val (yl_add rfl rfl) rfl ?_
      refine JL.val (yl_assign rfl) rfl ?_
      refine JL.nil ?_
      refine JE.cont hres ?_
      exact fun a w h => ⟨a20, cp21, h.weak ⟨rfl, rfl, rfl, trivial⟩ [0] (by decide) rfl⟩
    · intro K
      rcases cond_some hj9 with ⟨hb, hres⟩ | ⟨hb, hres⟩
      · refine JX.condT rfl hb ?_
        refine JX.region ?_
        refine JL.val (yl_move rfl) rfl ?_
        refine JL.eff (ef_buildSlice (E := 5) (k := eU8.k) (us := eU8.fl [32]) rfl (fun w => bsl22_1 32 w) rfl (by decide)) rfl ?_
        rintro _ _ ⟨a22, rfl, rfl⟩
        obtain ⟨x24, hx24, hres⟩ := bind_some hres
        refine JL.eff (ef_appendT (ix := 0) Go.Proofs.Try.underlying22 i5 i5z i5s rfl i5b0 i5b1 rfl rfl rfl rfl rfl (fun w hC => rd_row hC 1 rfl) hx24) rfl ?_
        rintro _ _ ⟨a25, cp26, rfl, rfl⟩
        refine JL.val (yl_assign rfl) rfl ?_
        refine JL.nil ?_
        refine JE.weak (env' := [(0, .slice a_0 q0.length c_0), (3, .slice a25 x24.length cp26), (4, .int .i64 x5)]) (es' := [rowT 5 eU8 a25 x24.length cp26 x24]) [0] ?_ ⟨rfl, rfl, rfl, trivial⟩ (by decide) rfl
        have hj := Option.some.inj hres
        exact JE.weak [0] (K a25 cp26) ⟨(by subst hj; rfl), (by subst hj; rfl), (by subst hj; rfl), trivial⟩ (by decide) (by subst hj; rfl)
      · refine JX.condF rfl hb ?_
        refine JX.skip ?_
        have hj := Option.some.inj hres
        exact JE.weak [0] (K a7 cp8) ⟨(by subst hj; rfl), (by subst hj; rfl), (by subst hj; rfl), trivial⟩ (by decide) (by subst hj; rfl)
  · refine JX.condF rfl hb ?_
    refine JX.exit ?_
    refine JE.qb rfl ?_
    obtain ⟨b1, hb1⟩ : ∃ b : List Int, b = x6 := ⟨_, rfl⟩
    have hy1 : b1 = y1 := by rw [hb1]; exact hox1 _ (Option.some.inj hres).symm
    have hres := hresO1
    rw [← hy1] at hres
    refine JE.weak (env' := [(3, .slice a7 b1.length cp8)]) (es' := [rowT 5 eU8 a7 b1.length cp8 b1]) [0] ?_ ⟨(by subst hb1; rfl), trivial⟩ (by decide) (by subst hb1; rfl)
    refine JE.code ?_
    refine JX.seq ?_
    refine JX.region ?_
    refine JL.val (yl_move rfl) rfl ?_
    refine JL.val (yl_bytesT Go.Proofs.Try.underlying22 Go.Proofs.Try.underlying9 Go.Proofs.Try.underlying5 rfl rfl (fun w hC => rd_row hC 0 rfl)) rfl ?_
    refine JL.val (yl_assign rfl) rfl ?_
    refine JL.nil ?_
    refine JE.weak (env' := [(2, .string (bytesS b1))]) (es' := []) [] ?_ ⟨rfl, trivial⟩ (by decide) rfl
    refine JE.code ?_
    refine JX.ret ?_
    obtain rfl := Option.some.inj hres
    refine JE.ret (rs := [.tmp 2]) (vs := [.string (bytesS b1)]) rfl ⟨rfl, trivial⟩ ?_
    exact fun w' hb hs => ⟨_, _, ⟨rfl, rfl⟩, rfl, hb, hs.sel [] _ (by decide) rfl⟩

/- spec.DrawReadStroke -/
def sh81 (q0 : List Int) : Option (ByteArray) := Option.bind (sh90 q0) fun x1 => Option.bind (sh169 (Sl00Src.mk q0 x1.at_ x1.seed)) fun x4 => Option.bind (sh168 x4.1) fun x8 => Option.bind (sh93 (Sl00Src.mk q0 x4.2.1 x4.2.2) 3) fun x9 => bif x9.1 then (Option.bind (sh162 (Sl00Src.mk q0 x9.2.1 x9.2.2) x8) fun x10 => some x10.1) else (some x8)
def T81 (r : ByteArray) (v : Value) (rs : List Own) : Prop := v = rets [.string r] ∧ rs = []
set_option maxRecDepth 100000 in
theorem c81 {w : World} {q0 : List Int} {a_0 : Option Addr} {n_0 c_0 : Nat} (g_0 : Rd w a_0 (eU8.fl q0)) (l_0 : q0.length = n_0) (k_0 : n_0 ≤ c_0) {r : ByteArray} (hres : sh81 q0 = some r) : Calls Go.Proofs.Try.prog 81 [.slice a_0 n_0 c_0].toArray w (Ret w (T81 r)) := by
  subst l_0
  unfold sh81 at hres
  refine calls_of (n := 16) (M := []) (es := []) Go.Proofs.Try.func81 rfl rfl rfl (Sep.nil _ _ _) ?_
  refine JX.seq ?_
  refine JX.region ?_
  refine JL.val (yl_assign rfl) rfl ?_
  refine JL.nil ?_
  refine JE.code ?_
  refine JX.seq ?_
  refine JX.region ?_
  refine JL.val (yl_move rfl) rfl ?_
  obtain ⟨x1, hx1, hres⟩ := bind_some hres
  refine JL.eff (ef_call (T := T90 a_0 q0.length c_0 x1) Go.Proofs.Try.func90 rfl (by kernel_rfl) rfl (fun w hC => c90 (rd_arg g_0 hC) rfl k_0 hx1)) rfl ?_
  rintro _ _ ⟨_, ⟨g2, rfl, rfl⟩, rfl⟩
  refine JL.val (yl_assign rfl) rfl ?_
  refine JL.nil ?_
  refine JE.code ?_
  refine JX.seq ?_
  refine JX.region ?_
  refine JL.val (yl_move rfl) rfl ?_
  obtain ⟨x4, hx4, hres⟩ := bind_some hres
  refine JL.eff (ef_callms (caps := []) (vs := [ptrAt (some ⟨g2, 0, none⟩) 0]) (T := T169 g2 a_0 q0.length c_0 x4) [0] [] [boxO 163 g2 [.slice a_0 q0.length c_0, .int .i64 x1.at_, .int .u64 x1.seed]] [] rfl Go.Proofs.Try.func169 rfl (by kernel_rfl) rfl (by decide) rfl rfl (fun w N hF hS => c169 (q0 := Sl00Src.mk q0 x1.at_ x1.seed) (RdS.pass0 hF g_0) rfl k_0 hS hx4)) rfl ?_
  rintro _ _ ⟨_, _, ⟨rfl, a5, _, cp6, rfl, rfl, rfl⟩, rfl⟩
  obtain ⟨x8, hx8, hres⟩ := bind_some hres
  refine JL.eff (ef_call (T := T168 x8) Go.Proofs.Try.func168 rfl (by kernel_rfl) rfl (fun w hC => c168 (rd_row hC 1 rfl) rfl (ln_row hC 1 rfl) hx8)) rfl ?_
  rintro _ _ ⟨_, ⟨rfl, rfl⟩, rfl⟩
  refine JL.val (yl_assign rfl) rfl ?_
  refine JL.nil ?_
  refine JE.weak (env' := [(3, ptrAt (some ⟨g2, 0, none⟩) 0), (4, .string x8)]) (es' := [boxO 163 g2 [.slice a_0 q0.length c_0, .int .i64 x4.2.1, .int .u64 x4.2.2]]) [0] ?_ ⟨rfl, rfl, trivial⟩ (by decide) rfl
  refine JE.code ?_
  refine JX.seq ?_
  refine JX.seq ?_
  refine JX.region ?_
  refine JL.val (yl_move rfl) rfl ?_
  obtain ⟨x9, hx9, hres⟩ := bind_some hres
  refine JL.eff (ef_callms (caps := []) (vs := [ptrAt (some ⟨g2, 0, none⟩) 0, .int .i64 3]) (T := T93 g2 a_0 q0.length c_0 x9) [0] [] [boxO 163 g2 [.slice a_0 q0.length c_0, .int .i64 x4.2.1, .int .u64 x4.2.2]] [] rfl Go.Proofs.Try.func93 rfl (by kernel_rfl) rfl (by decide) rfl rfl (fun w N hF hS => c93 (q0 := Sl00Src.mk q0 x4.2.1 x4.2.2) (RdS.pass0 hF g_0) rfl k_0 hS hx9)) rfl ?_
  rintro _ _ ⟨_, _, ⟨rfl, rfl, rfl⟩, rfl⟩
  refine JL.nil ?_
  refine JE.code ?_
  rcases cond_some hres with ⟨hb, hres⟩ | ⟨hb, hres⟩
  · refine JX.condT rfl hb ?_
    refine JX.seq ?_
    refine JX.region ?_
    refine JL.val (yl_move rfl) rfl ?_
    refine JL.val (yl_move rfl) rfl ?_
    obtain ⟨x10, hx10, hres⟩ := bind_some hres
    refine JL.eff (ef_callms (caps := []) (vs := [ptrAt (some ⟨g2, 0, none⟩) 0, .string x8]) (T := T162 g2 a_0 q0.length c_0 x10) [0] [] [boxO 163 g2 [.slice a_0 q0.length c_0, .int .i64 x9.2.1, .int .u64 x9.2.2]] [] rfl Go.Proofs.Try.func162 rfl (by kernel_rfl) rfl (by decide) rfl rfl (fun w N hF hS => c162 (q0 := Sl00Src.mk q0 x9.2.1 x9.2.2) (RdS.pass0 hF g_0) rfl k_0 hS hx10)) rfl ?_
    rintro _ _ ⟨_, _, ⟨rfl, rfl, rfl⟩, rfl⟩
    refine JL.val (yl_assign rfl) rfl ?_
    refine JL.nil ?_
    refine JE.weak (env' := [(2, .string x10.1)]) (es' := []) [] ?_ ⟨rfl, trivial⟩ (by decide) rfl
    refine JE.code ?_
    refine JX.ret ?_
    obtain rfl := Option.some.inj hres
    refine JE.ret (rs := [.tmp 2]) (vs := [.string x10.1]) rfl ⟨rfl, trivial⟩ ?_
    exact fun w' hb hs => ⟨_, _, ⟨rfl, rfl⟩, rfl, hb, hs.sel [] _ (by decide) rfl⟩
  · refine JX.condF rfl hb ?_
    refine JX.skip ?_
    refine JE.code ?_
    refine JX.seq ?_
    refine JX.region ?_
    refine JL.val (yl_move rfl) rfl ?_
    refine JL.val (yl_assign rfl) rfl ?_
    refine JL.nil ?_
    refine JE.weak (env' := [(2, .string x8)]) (es' := []) [] ?_ ⟨rfl, trivial⟩ (by decide) rfl
    refine JE.code ?_
    refine JX.ret ?_
    obtain rfl := Option.some.inj hres
    refine JE.ret (rs := [.tmp 2]) (vs := [.string x8]) rfl ⟨rfl, trivial⟩ ?_
    exact fun w' hb hs => ⟨_, _, ⟨rfl, rfl⟩, rfl, hb, hs.sel [] _ (by decide) rfl⟩

/- spec.l00In -/
def sh100 (q0 : Int) (q1 : Int) (q2 : Int) : Option (Bool) := some ((decide (q1 ≤ q0)) && (decide (q0 ≤ q2)))
def T100 (r : Bool) (v : Value) (rs : List Own) : Prop := v = rets [.bool r] ∧ rs = []
set_option maxRecDepth 100000 in
theorem c100 {w : World} {q0 : Int} {q1 : Int} {q2 : Int} {r : Bool} (hres : sh100 q0 q1 q2 = some r) : Calls Go.Proofs.Try.prog 100 [.int .i64 q0, .int .i64 q1, .int .i64 q2].toArray w (Ret w (T100 r)) := by
  unfold sh100 at hres
  refine calls_of (n := 15) (M := []) (es := []) Go.Proofs.Try.func100 rfl rfl rfl (Sep.nil _ _ _) ?_
  refine JX.seq ?_
  refine JX.region ?_
  refine JL.val (yl_assign rfl) rfl ?_
  refine JL.nil ?_
  refine JE.code ?_
  refine JX.seq ?_
  refine JX.region ?_
  refine JL.val (yl_move rfl) rfl ?_
  refine JL.val (yl_move rfl) rfl ?_
  refine JL.val (yl_geq rfl rfl) rfl ?_
  refine JL.val (yl_move rfl) rfl ?_
  refine JL.cut (K := fun J => J [(14, .bool ((decide (q1 ≤ q0)) && (decide (q0 ≤ q2))))] []) 4 ?_ ?_
  · refine JL.val (yl_assign rfl) rfl ?_
    refine JL.nil ?_
    refine JE.weak (env' := [(6, .bool ((decide (q1 ≤ q0)) && (decide (q0 ≤ q2))))]) (es' := []) [] ?_ ⟨rfl, trivial⟩ (by decide) rfl
    refine JE.code ?_
    refine JX.ret ?_
    obtain rfl := Option.some.inj hres
    refine JE.ret (rs := [.tmp 6]) (vs := [.bool ((decide (q1 ≤ q0)) && (decide (q0 ≤ q2)))]) rfl ⟨rfl, trivial⟩ ?_
    exact fun w' hb hs => ⟨_, _, ⟨rfl, rfl⟩, rfl, hb, hs.sel [] _ (by decide) rfl⟩
  · intro K
    rcases Bool.eq_false_or_eq_true (decide (q1 ≤ q0)) with hb | hb
    · refine JL.set (d := 10) (v := .bool true) (congrArg (fun b => some (Value.bool b)) hb) ?_
      refine JL.gval rfl rfl (yl_move rfl) rfl ?_
      refine JL.gval rfl rfl (yl_move rfl) rfl ?_
      refine JL.gval rfl rfl (yl_leq rfl rfl) rfl ?_
      refine JL.val (yl_pick_true rfl rfl) rfl ?_
      exact JL.weak [] K ⟨(by rw [hb]; rfl), trivial⟩ (by decide) rfl
    · refine JL.set (d := 10) (v := .bool false) (congrArg (fun b => some (Value.bool b)) hb) ?_
      refine JL.gskip rfl rfl rfl rfl ?_
      refine JL.gskip rfl rfl rfl rfl ?_
      refine JL.gskip rfl rfl rfl rfl ?_
      refine JL.val (yl_pick_false rfl rfl) rfl ?_
      exact JL.weak [] K ⟨(by rw [hb]; rfl), trivial⟩ (by decide) rfl

end Go.Sh
