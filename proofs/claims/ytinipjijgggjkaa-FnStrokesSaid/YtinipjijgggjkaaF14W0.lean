/- Walks through functions that the law reaches, printed by program. -/
import Derived.Test.YtinipjijgggjkaaF14T
set_option linter.unusedVariables false
set_option linter.unusedSimpArgs false
namespace Go.Sh
open Go Go.RowKit
/- laws.f6big -/
def sh45 (q0 : List Int) : Option (Bool) := some (decide (4096 < (q0.length : Int)))
def T45 (r : Bool) (v : Value) (rs : List Own) : Prop := v = rets [.bool r] ∧ rs = []
set_option maxRecDepth 100000 in
theorem c45 {w : World} {q0 : List Int} {a_0 : Option Addr} {n_0 c_0 : Nat} (g_0 : Rd w a_0 (eU8.fl q0)) (l_0 : q0.length = n_0) (k_0 : n_0 ≤ c_0) {r : Bool} (hres : sh45 q0 = some r) : Calls Go.Proofs.Try.prog 45 [.slice a_0 n_0 c_0].toArray w (Ret w (T45 r)) := by
  subst l_0
  unfold sh45 at hres
  refine calls_of (n := 6) (M := []) (es := []) Go.Proofs.Try.func45 rfl rfl rfl (Sep.nil _ _ _) ?_
  refine JX.seq ?_
  refine JX.region ?_
  refine JL.val (yl_assign rfl) rfl ?_
  refine JL.nil ?_
  refine JE.code ?_
  refine JX.seq ?_
  refine JX.region ?_
  refine JL.val (yl_move rfl) rfl ?_
  refine JL.val (yl_len_slice Go.Proofs.Try.underlying54 rfl) rfl ?_
  refine JL.val (yl_gtr rfl rfl) rfl ?_
  refine JL.val (yl_assign rfl) rfl ?_
  refine JL.nil ?_
  refine JE.weak (env' := [(2, .bool (decide (4096 < (q0.length : Int))))]) (es' := []) [] ?_ ⟨rfl, trivial⟩ (by decide) rfl
  refine JE.code ?_
  refine JX.ret ?_
  obtain rfl := Option.some.inj hres
  refine JE.ret (rs := [.tmp 2]) (vs := [.bool (decide (4096 < (q0.length : Int)))]) rfl ⟨rfl, trivial⟩ ?_
  exact fun w' hb hs => ⟨_, _, ⟨rfl, rfl⟩, rfl, hb, hs.sel [] _ (by decide) rfl⟩

/- spec.l00From -/
def sh109 (q0 : List Int) : Option (Sl00Src) := some (Sl00Src.mk q0 0 0)
def T109 (a_0 : Option Addr) (n_0 c_0 : Nat) (r : Sl00Src) (v : Value) (rs : List Own) : Prop := ∃ (gr0 : Nat), v = rets [ptrAt (some ⟨gr0, 0, none⟩) 0] ∧ rs = [boxO 162 gr0 [.slice a_0 n_0 c_0, .int .i64 r.at_, .int .u64 r.seed]]
set_option maxRecDepth 100000 in
theorem c109 {w : World} {q0 : List Int} {a_0 : Option Addr} {n_0 c_0 : Nat} (g_0 : Rd w a_0 (eU8.fl q0)) (l_0 : q0.length = n_0) (k_0 : n_0 ≤ c_0) {r : Sl00Src} (hres : sh109 q0 = some r) : Calls Go.Proofs.Try.prog 109 [.slice a_0 n_0 c_0].toArray w (Ret w (T109 a_0 n_0 c_0 r)) := by
  subst l_0
  unfold sh109 at hres
  refine calls_of (n := 6) (M := []) (es := []) Go.Proofs.Try.func109 rfl rfl rfl (Sep.nil _ _ _) ?_
  refine JX.seq ?_
  refine JX.region ?_
  refine JL.val (yl_assign rfl) rfl ?_
  refine JL.nil ?_
  refine JE.code ?_
  refine JX.seq ?_
  refine JX.region ?_
  refine JL.val (yl_move rfl) rfl ?_
  refine JL.val (yl_build rfl (fun w => bld162_0 a_0 q0.length c_0 w)) rfl ?_
  refine JL.eff (ef_box rfl rfl) rfl ?_
  rintro _ _ ⟨g1, rfl, rfl⟩
  refine JL.val (yl_assign rfl) rfl ?_
  refine JL.nil ?_
  refine JE.weak (env' := [(2, ptrAt (some ⟨g1, 0, none⟩) 0)]) (es' := [boxO 162 g1 [.slice a_0 q0.length c_0, .int .i64 0, .int .u64 0]]) [0] ?_ ⟨rfl, trivial⟩ (by decide) rfl
  refine JE.code ?_
  refine JX.ret ?_
  obtain rfl := Option.some.inj hres
  refine JE.ret (rs := [.tmp 2]) (vs := [ptrAt (some ⟨g1, 0, none⟩) 0]) rfl ⟨rfl, trivial⟩ ?_
  exact fun w' hb hs => ⟨_, _, ⟨g1, rfl, rfl⟩, rfl, hb, hs.sel [0] _ (by decide) rfl⟩

/- (*spec.l00Src).next -/
def sh165 (q0 : Sl00Src) : Option (Int × Int × Int) := Option.bind (bif decide (q0.at_ < (q0.code.length : Int)) then (Option.bind (getI q0.code q0.at_) fun x5 => some (w64 (x5))) else (some 0)) fun j2 => (bif decide ((w64 (q0.at_ + 1)) ≤ (q0.code.length : Int)) then (some (j2, w64 (q0.at_ + 1), IntKind.u64.wrap ((IntKind.u64.wrap ((IntKind.u64.wrap (q0.seed * 6364136223846793005)) + (IntKind.u64.wrap (j2)))) + 1442695040888963407))) else (some (w64 (andI .u64 ((IntKind.u64.wrap ((IntKind.u64.wrap ((IntKind.u64.wrap (q0.seed * 6364136223846793005)) + (IntKind.u64.wrap (j2)))) + 1442695040888963407)) / 2 ^ 40) 255), w64 (q0.at_ + 1), IntKind.u64.wrap ((IntKind.u64.wrap ((IntKind.u64.wrap (q0.seed * 6364136223846793005)) + (IntKind.u64.wrap (j2)))) + 1442695040888963407))))
def T165 (gb_0 : Nat) (a_0_0 : Option Addr) (n_0_0 c_0_0 : Nat) (r : Int × Int × Int) (v : Value) (es' rs : List Own) : Prop := es' = [boxO 162 gb_0 [.slice a_0_0 n_0_0 c_0_0, .int .i64 r.2.1, .int .u64 r.2.2]] ∧ v = rets [.int .i64 r.1] ∧ rs = []
set_option maxRecDepth 100000 in
theorem c165 {w : World} {M : List Nat} {q0 : Sl00Src} {gb_0 : Nat} {a_0_0 : Option Addr} {n_0_0 c_0_0 : Nat} (g_0_0 : RdS M w a_0_0 (eU8.fl q0.code)) (l_0_0 : q0.code.length = n_0_0) (k_0_0 : n_0_0 ≤ c_0_0) (gs : Sep w.heap.size M w [boxO 162 gb_0 [.slice a_0_0 n_0_0 c_0_0, .int .i64 q0.at_, .int .u64 q0.seed]]) {r : Int × Int × Int} (hres : sh165 q0 = some r) : Calls Go.Proofs.Try.prog 165 [ptrAt (some ⟨gb_0, 0, none⟩) 0].toArray w (RetMs w M (T165 gb_0 a_0_0 n_0_0 c_0_0 r)) := by
  subst l_0_0
  unfold sh165 at hres
  refine calls_of (n := 62) (M := M) (es := [boxO 162 gb_0 [.slice a_0_0 q0.code.length c_0_0, .int .i64 q0.at_, .int .u64 q0.seed]]) Go.Proofs.Try.func165 rfl rfl rfl gs ?_
  refine JX.seq ?_
  refine JX.region ?_
  refine JL.val (yl_assign rfl) rfl ?_
  refine JL.nil ?_
  refine JE.code ?_
  refine JX.seq ?_
  refine JX.region ?_
  refine JL.val (yl_assign rfl) rfl ?_
  refine JL.nil ?_
  refine JE.code ?_
  refine JX.seq ?_
  refine JX.seq ?_
  refine JX.drawH [(0, .pure), (1, .pure), (2, .pure), (3, .read), (4, .pure), (5, .pure), (6, .pure), (7, .read), (8, .pure), (9, .pure)] [] [] [0] [] [boxO 162 gb_0 [.slice a_0_0 q0.code.length c_0_0, .int .i64 q0.at_, .int .u64 q0.seed]] mixedP (by kernel_rfl) (by kernel_rfl) (by decide) rfl rfl ?_
  intro wrr1 Nr1 hFr1
  refine JH.pure rfl (yl_move rfl) rfl ?_
  refine JH.pure rfl (yl_nilCheckAt (a := some _) rfl rfl) rfl ?_
  refine JH.pure rfl (yl_fieldAt (a := some _) Go.Proofs.Try.underlying162 rfl i3 i3n rfl rfl) rfl ?_
  refine JH.read rfl (yl_load1 Go.Proofs.Try.underlying3 rfl rfl (fun w hw => hFr1.box 0 rfl rfl hw) rfl) rfl ?_
  refine JH.pure rfl (yl_move rfl) rfl ?_
  refine JH.pure rfl (yl_nilCheckAt (a := some _) rfl rfl) rfl ?_
  refine JH.pure rfl (yl_fieldAt (a := some _) Go.Proofs.Try.underlying162 rfl i54 i54n rfl rfl) rfl ?_
  refine JH.read rfl (yl_load1 Go.Proofs.Try.underlying54 rfl rfl (fun w hw => hFr1.box 0 rfl rfl hw) rfl) rfl ?_
  refine JH.pure rfl (yl_len_slice Go.Proofs.Try.underlying54 rfl) rfl ?_
  refine JH.pure rfl (yl_lss rfl rfl) rfl ?_
  refine JH.nil ?_
  refine JE.weak (env' := [(0, ptrAt (some ⟨gb_0, 0, none⟩) 0), (3, .int .i64 0), (13, .bool (decide (q0.at_ < (q0.code.length : Int))))]) (es' := [boxO 162 gb_0 [.slice a_0_0 q0.code.length c_0_0, .int .i64 q0.at_, .int .u64 q0.seed]]) [0] ?_ ⟨rfl, rfl, rfl, trivial⟩ (by decide) rfl
  refine JE.code ?_
  obtain ⟨j2, hj2, hresj2⟩ := bind_some hres
  refine JX.cut (K := fun J => J [(0, ptrAt (some ⟨gb_0, 0, none⟩) 0), (3, .int .i64 j2)] [boxO 162 gb_0 [.slice a_0_0 q0.code.length c_0_0, .int .i64 q0.at_, .int .u64 q0.seed]]) ?_ ?_
  · have hres := hresj2
    refine JE.code ?_
    refine JX.seq ?_
    refine JX.region ?_
    refine JL.val (yl_move rfl) rfl ?_
    refine JL.val (yl_nilCheckAt (a := some _) rfl rfl) rfl ?_
    refine JL.val (yl_fieldAt (a := some _) Go.Proofs.Try.underlying162 rfl i3 i3n rfl rfl) rfl ?_
    refine JL.val (yl_load1 Go.Proofs.Try.underlying3 rfl rfl (fun w hC => rd_box hC 0 rfl) rfl) rfl ?_
    refine JL.val (yl_add rfl rfl) rfl ?_
    refine JL.val (yl_nilCheckAt (a := some _) rfl rfl) rfl ?_
    refine JL.val (yl_fieldAt (a := some _) Go.Proofs.Try.underlying162 rfl i3 i3n rfl rfl) rfl ?_
    refine JL.eff (ef_store_box (i := 0) (v := .int .i64 (w64 (q0.at_ + 1))) i3 rfl rfl rfl (i3s).symm (Nat.le_of_ble_eq_true rfl) (by simp [Value.cells, Value.oneCell'])) rfl ?_
    rintro _ _ rfl
    refine JL.nil ?_
    refine JE.weak (env' := [(0, ptrAt (some ⟨gb_0, 0, none⟩) 0), (3, .int .i64 j2)]) (es' := [boxO 162 gb_0 [.slice a_0_0 q0.code.length c_0_0, .int .i64 (w64 (q0.at_ + 1)), .int .u64 q0.seed]]) [0] ?_ ⟨rfl, rfl, trivial⟩ (by decide) rfl
    refine JE.code ?_
    refine JX.seq ?_
    refine JX.region ?_
    refine JL.val (yl_move rfl) rfl ?_
    refine JL.val (yl_move rfl) rfl ?_
    refine JL.val (yl_nilCheckAt (a := some _) rfl rfl) rfl ?_
    refine JL.val (yl_fieldAt (a := some _) Go.Proofs.Try.underlying162 rfl i160 i160n rfl rfl) rfl ?_
    refine JL.val (yl_load1 Go.Proofs.Try.underlying160 rfl rfl (fun w hC => rd_box hC 0 rfl) rfl) rfl ?_
    refine JL.val (yl_mul rfl rfl) rfl ?_
    refine JL.val (yl_move rfl) rfl ?_
    refine JL.val (yl_conv Go.Proofs.Try.underlying3 Go.Proofs.Try.underlying160 rfl) rfl ?_
    refine JL.val (yl_add rfl rfl) rfl ?_
    refine JL.val (yl_add rfl rfl) rfl ?_
    refine JL.val (yl_nilCheckAt (a := some _) rfl rfl) rfl ?_
    refine JL.val (yl_fieldAt (a := some _) Go.Proofs.Try.underlying162 rfl i160 i160n rfl rfl) rfl ?_
    refine JL.eff (ef_store_box (i := 0) (v := .int .u64 (IntKind.u64.wrap ((IntKind.u64.wrap ((IntKind.u64.wrap (q0.seed * 6364136223846793005)) + (IntKind.u64.wrap (j2)))) + 1442695040888963407))) i160 rfl rfl rfl (i160s).symm (Nat.le_of_ble_eq_true rfl) (by simp [Value.cells, Value.oneCell'])) rfl ?_
    rintro _ _ rfl
    refine JL.nil ?_
    refine JE.weak (env' := [(0, ptrAt (some ⟨gb_0, 0, none⟩) 0), (3, .int .i64 j2)]) (es' := [boxO 162 gb_0 [.slice a_0_0 q0.code.length c_0_0, .int .i64 (w64 (q0.at_ + 1)), .int .u64 (IntKind.u64.wrap ((IntKind.u64.wrap ((IntKind.u64.wrap (q0.seed * 6364136223846793005)) + (IntKind.u64.wrap (j2)))) + 1442695040888963407))]]) [0] ?_ ⟨rfl, rfl, trivial⟩ (by decide) rfl
    refine JE.code ?_
    refine JX.seq ?_
    refine JX.seq ?_
    refine JX.drawH [(0, .pure), (1, .pure), (2, .pure), (3, .read), (4, .pure), (5, .pure), (6, .pure), (7, .read), (8, .pure), (9, .pure)] [] [] [0] [] [boxO 162 gb_0 [.slice a_0_0 q0.code.length c_0_0, .int .i64 (w64 (q0.at_ + 1)), .int .u64 (IntKind.u64.wrap ((IntKind.u64.wrap ((IntKind.u64.wrap (q0.seed * 6364136223846793005)) + (IntKind.u64.wrap (j2)))) + 1442695040888963407))]] mixedP (by kernel_rfl) (by kernel_rfl) (by decide) rfl rfl ?_
    intro wrr3 Nr3 hFr3
    refine JH.pure rfl (yl_move rfl) rfl ?_
    refine JH.pure rfl (yl_nilCheckAt (a := some _) rfl rfl) rfl ?_
    refine JH.pure rfl (yl_fieldAt (a := some _) Go.Proofs.Try.underlying162 rfl i3 i3n rfl rfl) rfl ?_
    refine JH.read rfl (yl_load1 Go.Proofs.Try.underlying3 rfl rfl (fun w hw => hFr3.box 0 rfl rfl hw) rfl) rfl ?_
    refine JH.pure rfl (yl_move rfl) rfl ?_
    refine JH.pure rfl (yl_nilCheckAt (a := some _) rfl rfl) rfl ?_
    refine JH.pure rfl (yl_fieldAt (a := some _) Go.Proofs.Try.underlying162 rfl i54 i54n rfl rfl) rfl ?_
    refine JH.read rfl (yl_load1 Go.Proofs.Try.underlying54 rfl rfl (fun w hw => hFr3.box 0 rfl rfl hw) rfl) rfl ?_
    refine JH.pure rfl (yl_len_slice Go.Proofs.Try.underlying54 rfl) rfl ?_
    refine JH.pure rfl (yl_leq rfl rfl) rfl ?_
    refine JH.nil ?_
    refine JE.weak (env' := [(0, ptrAt (some ⟨gb_0, 0, none⟩) 0), (3, .int .i64 j2), (53, .bool (decide ((w64 (q0.at_ + 1)) ≤ (q0.code.length : Int))))]) (es' := [boxO 162 gb_0 [.slice a_0_0 q0.code.length c_0_0, .int .i64 (w64 (q0.at_ + 1)), .int .u64 (IntKind.u64.wrap ((IntKind.u64.wrap ((IntKind.u64.wrap (q0.seed * 6364136223846793005)) + (IntKind.u64.wrap (j2)))) + 1442695040888963407))]]) [0] ?_ ⟨rfl, rfl, rfl, trivial⟩ (by decide) rfl
    refine JE.code ?_
    rcases cond_some hres with ⟨hb, hres⟩ | ⟨hb, hres⟩
    · refine JX.condT rfl hb ?_
      refine JX.seq ?_
      refine JX.region ?_
      refine JL.val (yl_move rfl) rfl ?_
      refine JL.val (yl_assign rfl) rfl ?_
      refine JL.nil ?_
      refine JE.code ?_
      refine JX.ret ?_
      obtain rfl := Option.some.inj hres
      refine JE.ret (rs := [.tmp 2]) (vs := [.int .i64 j2]) rfl ⟨rfl, trivial⟩ ?_
      exact fun w' hb hs => ⟨_, _, _, ⟨rfl, rfl, rfl⟩, rfl, hb, hs.sel [0] _ (by decide) rfl⟩
    · refine JX.condF rfl hb ?_
      refine JX.skip ?_
      refine JE.code ?_
      refine JX.seq ?_
      refine JX.region ?_
      refine JL.val (yl_move rfl) rfl ?_
      refine JL.val (yl_nilCheckAt (a := some _) rfl rfl) rfl ?_
      refine JL.val (yl_fieldAt (a := some _) Go.Proofs.Try.underlying162 rfl i160 i160n rfl rfl) rfl ?_
      refine JL.val (yl_load1 Go.Proofs.Try.underlying160 rfl rfl (fun w hC => rd_box hC 0 rfl) rfl) rfl ?_
      refine JL.val (yl_shr rfl rfl (by decide) (by decide)) rfl ?_
      refine JL.val (yl_and rfl rfl) rfl ?_
      refine JL.val (yl_conv Go.Proofs.Try.underlying160 Go.Proofs.Try.underlying2 rfl) rfl ?_
      refine JL.val (yl_assign rfl) rfl ?_
      refine JL.nil ?_
      refine JE.weak (env' := [(2, .int .i64 (w64 (andI .u64 ((IntKind.u64.wrap ((IntKind.u64.wrap ((IntKind.u64.wrap (q0.seed * 6364136223846793005)) + (IntKind.u64.wrap (j2)))) + 1442695040888963407)) / 2 ^ 40) 255)))]) (es' := [boxO 162 gb_0 [.slice a_0_0 q0.code.length c_0_0, .int .i64 (w64 (q0.at_ + 1)), .int .u64 (IntKind.u64.wrap ((IntKind.u64.wrap ((IntKind.u64.wrap (q0.seed * 6364136223846793005)) + (IntKind.u64.wrap (j2)))) + 1442695040888963407))]]) [0] ?_ ⟨rfl, trivial⟩ (by decide) rfl
      refine JE.code ?_
      refine JX.ret ?_
      obtain rfl := Option.some.inj hres
      refine JE.ret (rs := [.tmp 2]) (vs := [.int .i64 (w64 (andI .u64 ((IntKind.u64.wrap ((IntKind.u64.wrap ((IntKind.u64.wrap (q0.seed * 6364136223846793005)) + (IntKind.u64.wrap (j2)))) + 1442695040888963407)) / 2 ^ 40) 255))]) rfl ⟨rfl, trivial⟩ ?_
      exact fun w' hb hs => ⟨_, _, _, ⟨rfl, rfl, rfl⟩, rfl, hb, hs.sel [0] _ (by decide) rfl⟩
  · intro K
    rcases cond_some hj2 with ⟨hb, hres⟩ | ⟨hb, hres⟩
    · refine JX.condT rfl hb ?_
      refine JX.drawH [(0, .pure), (1, .pure), (2, .pure), (3, .read), (4, .pure), (5, .pure), (6, .pure), (7, .read), (8, .pure), (9, .read), (10, .pure), (11, .pure)] [] [] [0] [] [boxO 162 gb_0 [.slice a_0_0 q0.code.length c_0_0, .int .i64 q0.at_, .int .u64 q0.seed]] mixedP (by kernel_rfl) (by kernel_rfl) (by decide) rfl rfl ?_
      intro wrr4 Nr4 hFr4
      refine JH.pure rfl (yl_move rfl) rfl ?_
      refine JH.pure rfl (yl_nilCheckAt (a := some _) rfl rfl) rfl ?_
      refine JH.pure rfl (yl_fieldAt (a := some _) Go.Proofs.Try.underlying162 rfl i54 i54n rfl rfl) rfl ?_
      refine JH.read rfl (yl_load1 Go.Proofs.Try.underlying54 rfl rfl (fun w hw => hFr4.box 0 rfl rfl hw) rfl) rfl ?_
      refine JH.pure rfl (yl_move rfl) rfl ?_
      refine JH.pure rfl (yl_nilCheckAt (a := some _) rfl rfl) rfl ?_
      refine JH.pure rfl (yl_fieldAt (a := some _) Go.Proofs.Try.underlying162 rfl i3 i3n rfl rfl) rfl ?_
      refine JH.read rfl (yl_load1 Go.Proofs.Try.underlying3 rfl rfl (fun w hw => hFr4.box 0 rfl rfl hw) rfl) rfl ?_
      obtain ⟨x5, hx5, hres⟩ := bind_some hres
      refine JH.pure rfl (yl_idxQ Go.Proofs.Try.underlying54 i5 i5s rfl rfl hx5 rfl (rd_argS g_0_0 hFr4.cl) rfl) rfl ?_
      refine JH.read rfl (yl_loadT0 Go.Proofs.Try.underlying5 rfl rfl hx5 (fun w hw => hFr4.argS g_0_0 hw) rfl) rfl ?_
      refine JH.pure rfl (yl_conv Go.Proofs.Try.underlying5 Go.Proofs.Try.underlying3 rfl) rfl ?_
      refine JH.pure rfl (yl_assign rfl) rfl ?_
      refine JH.nil ?_
      refine JE.weak (env' := [(0, ptrAt (some ⟨gb_0, 0, none⟩) 0), (3, .int .i64 (w64 (x5)))]) (es' := [boxO 162 gb_0 [.slice a_0_0 q0.code.length c_0_0, .int .i64 q0.at_, .int .u64 q0.seed]]) [0] ?_ ⟨rfl, rfl, trivial⟩ (by decide) rfl
      have hj := Option.some.inj hres
      exact JE.weak [0] (K) ⟨(by subst hj; rfl), (by subst hj; rfl), trivial⟩ (by decide) (by subst hj; rfl)
    · refine JX.condF rfl hb ?_
      refine JX.skip ?_
      have hj := Option.some.inj hres
      exact JE.weak [0] (K) ⟨(by subst hj; rfl), (by subst hj; rfl), trivial⟩ (by decide) (by subst hj; rfl)

/- (*spec.l00Src).pick -/
def sh113 (q0 : Sl00Src) (q1 : Int) : Option (Int × Int × Int) := bif decide (q1 ≤ 1) then (some (0, q0.at_, q0.seed)) else (Option.bind (sh165 q0) fun x1 => Option.bind (bif decide (200 < q1) then (Option.bind (sh165 (Sl00Src.mk q0.code x1.2.1 x1.2.2)) fun x4 => some (w64 ((w64 (x1.1 * 256)) + x4.1), (x4.2.1, x4.2.2))) else (some (x1.1, (x1.2.1, x1.2.2)))) fun j2 => (Option.bind (nzI q1) fun x3 => some (j2.1.tmod q1, j2.2.1, j2.2.2)))
def T113 (gb_0 : Nat) (a_0_0 : Option Addr) (n_0_0 c_0_0 : Nat) (r : Int × Int × Int) (v : Value) (es' rs : List Own) : Prop := es' = [boxO 162 gb_0 [.slice a_0_0 n_0_0 c_0_0, .int .i64 r.2.1, .int .u64 r.2.2]] ∧ v = rets [.int .i64 r.1] ∧ rs = []
set_option maxRecDepth 100000 in
theorem c113 {w : World} {M : List Nat} {q0 : Sl00Src} {gb_0 : Nat} {a_0_0 : Option Addr} {n_0_0 c_0_0 : Nat} (g_0_0 : RdS M w a_0_0 (eU8.fl q0.code)) (l_0_0 : q0.code.length = n_0_0) (k_0_0 : n_0_0 ≤ c_0_0) {q1 : Int} (gs : Sep w.heap.size M w [boxO 162 gb_0 [.slice a_0_0 n_0_0 c_0_0, .int .i64 q0.at_, .int .u64 q0.seed]]) {r : Int × Int × Int} (hres : sh113 q0 q1 = some r) : Calls Go.Proofs.Try.prog 113 [ptrAt (some ⟨gb_0, 0, none⟩) 0, .int .i64 q1].toArray w (RetMs w M (T113 gb_0 a_0_0 n_0_0 c_0_0 r)) := by
  subst l_0_0
  unfold sh113 at hres
  refine calls_of (n := 20) (M := M) (es := [boxO 162 gb_0 [.slice a_0_0 q0.code.length c_0_0, .int .i64 q0.at_, .int .u64 q0.seed]]) Go.Proofs.Try.func113 rfl rfl rfl gs ?_
  refine JX.seq ?_
  refine JX.region ?_
  refine JL.val (yl_assign rfl) rfl ?_
  refine JL.nil ?_
  refine JE.code ?_
  refine JX.seq ?_
  refine JX.seq ?_
  refine JX.region ?_
  refine JL.val (yl_move rfl) rfl ?_
  refine JL.val (yl_leq rfl rfl) rfl ?_
  refine JL.nil ?_
  refine JE.code ?_
  rcases cond_some hres with ⟨hb, hres⟩ | ⟨hb, hres⟩
  · refine JX.condT rfl hb ?_
    refine JX.seq ?_
    refine JX.region ?_
    refine JL.val (yl_assign rfl) rfl ?_
    refine JL.nil ?_
    refine JE.code ?_
    refine JX.ret ?_
    obtain rfl := Option.some.inj hres
    refine JE.ret (rs := [.tmp 4]) (vs := [.int .i64 0]) rfl ⟨rfl, trivial⟩ ?_
    exact fun w' hb hs => ⟨_, _, _, ⟨rfl, rfl, rfl⟩, rfl, hb, hs.sel [0] _ (by decide) rfl⟩
  · refine JX.condF rfl hb ?_
    refine JX.skip ?_
    refine JE.code ?_
    refine JX.seq ?_
    refine JX.region ?_
    refine JL.val (yl_move rfl) rfl ?_
    obtain ⟨x1, hx1, hres⟩ := bind_some hres
    refine JL.eff (ef_callms (caps := []) (vs := [ptrAt (some ⟨gb_0, 0, none⟩) 0]) (T := T165 gb_0 a_0_0 q0.code.length c_0_0 x1) [0] [] [boxO 162 gb_0 [.slice a_0_0 q0.code.length c_0_0, .int .i64 q0.at_, .int .u64 q0.seed]] [] rfl Go.Proofs.Try.func165 rfl (by kernel_rfl) rfl (by decide) rfl rfl (fun w N hF hS => c165 (q0 := q0) (RdS.pass hF g_0_0) rfl k_0_0 hS hx1)) rfl ?_
    rintro _ _ ⟨_, _, ⟨rfl, rfl, rfl⟩, rfl⟩
    refine JL.val (yl_assign rfl) rfl ?_
    refine JL.nil ?_
    refine JE.code ?_
    refine JX.seq ?_
    refine JX.seq ?_
    refine JX.region ?_
    refine JL.val (yl_move rfl) rfl ?_
    refine JL.val (yl_gtr rfl rfl) rfl ?_
    refine JL.nil ?_
    refine JE.code ?_
    obtain ⟨j2, hj2, hresj2⟩ := bind_some hres
    refine JX.cut (K := fun J => J [(1, .int .i64 q1), (5, .int .i64 j2.1)] [boxO 162 gb_0 [.slice a_0_0 q0.code.length c_0_0, .int .i64 j2.2.1, .int .u64 j2.2.2]]) ?_ ?_
    · have hres := hresj2
      refine JE.code ?_
      refine JX.seq ?_
      refine JX.region ?_
      refine JL.val (yl_move rfl) rfl ?_
      refine JL.val (yl_move rfl) rfl ?_
      obtain ⟨x3, hx3, hres⟩ := bind_some hres
      refine JL.val (yl_rem rfl rfl (nzI_some hx3)) rfl ?_
      refine JL.val (yl_assign rfl) rfl ?_
      refine JL.nil ?_
      refine JE.weak (env' := [(4, .int .i64 (j2.1.tmod q1))]) (es' := [boxO 162 gb_0 [.slice a_0_0 q0.code.length c_0_0, .int .i64 j2.2.1, .int .u64 j2.2.2]]) [0] ?_ ⟨rfl, trivial⟩ (by decide) rfl
      refine JE.code ?_
      refine JX.ret ?_
      obtain rfl := Option.some.inj hres
      refine JE.ret (rs := [.tmp 4]) (vs := [.int .i64 (j2.1.tmod q1)]) rfl ⟨rfl, trivial⟩ ?_
      exact fun w' hb hs => ⟨_, _, _, ⟨rfl, rfl, rfl⟩, rfl, hb, hs.sel [0] _ (by decide) rfl⟩
    · intro K
      rcases cond_some hj2 with ⟨hb, hres⟩ | ⟨hb, hres⟩
      · refine JX.condT rfl hb ?_
        refine JX.region ?_
        refine JL.val (yl_move rfl) rfl ?_
        refine JL.val (yl_mul rfl rfl) rfl ?_
        refine JL.val (yl_move rfl) rfl ?_
        obtain ⟨x4, hx4, hres⟩ := bind_some hres
        refine JL.eff (ef_callms (caps := []) (vs := [ptrAt (some ⟨gb_0, 0, none⟩) 0]) (T := T165 gb_0 a_0_0 q0.code.length c_0_0 x4) [0] [] [boxO 162 gb_0 [.slice a_0_0 q0.code.length c_0_0, .int .i64 x1.2.1, .int .u64 x1.2.2]] [] rfl Go.Proofs.Try.func165 rfl (by kernel_rfl) rfl (by decide) rfl rfl (fun w N hF hS => c165 (q0 := Sl00Src.mk q0.code x1.2.1 x1.2.2) (RdS.pass hF g_0_0) rfl k_0_0 hS hx4)) rfl ?_
        rintro _ _ ⟨_, _, ⟨rfl, rfl, rfl⟩, rfl⟩
        refine JL.val (yl_add rfl rfl) rfl ?_
        refine JL.val (yl_assign rfl) rfl ?_
        refine JL.nil ?_
        refine JE.weak (env' := [(1, .int .i64 q1), (5, .int .i64 (w64 ((w64 (x1.1 * 256)) + x4.1)))]) (es' := [boxO 162 gb_0 [.slice a_0_0 q0.code.length c_0_0, .int .i64 x4.2.1, .int .u64 x4.2.2]]) [0] ?_ ⟨rfl, rfl, trivial⟩ (by decide) rfl
        have hj := Option.some.inj hres
        exact JE.weak [0] (K) ⟨(by subst hj; rfl), (by subst hj; rfl), trivial⟩ (by decide) (by subst hj; rfl)
      · refine JX.condF rfl hb ?_
        refine JX.skip ?_
        have hj := Option.some.inj hres
        exact JE.weak [0] (K) ⟨(by subst hj; rfl), (by subst hj; rfl), trivial⟩ (by decide) (by subst hj; rfl)

/- (*spec.l00Src).among -/
def sh124 (q0 : Sl00Src) (q1 : List Int) : Option (Int × Int × Int) := Option.bind (sh113 q0 (q1.length : Int)) fun x1 => Option.bind (getI q1 x1.1) fun x2 => some (x2, x1.2.1, x1.2.2)
def T124 (gb_0 : Nat) (a_0_0 : Option Addr) (n_0_0 c_0_0 : Nat) (r : Int × Int × Int) (v : Value) (es' rs : List Own) : Prop := es' = [boxO 162 gb_0 [.slice a_0_0 n_0_0 c_0_0, .int .i64 r.2.1, .int .u64 r.2.2]] ∧ v = rets [.int .i64 r.1] ∧ rs = []
set_option maxRecDepth 100000 in
theorem c124 {w : World} {M : List Nat} {q0 : Sl00Src} {gb_0 : Nat} {a_0_0 : Option Addr} {n_0_0 c_0_0 : Nat} (g_0_0 : RdS M w a_0_0 (eU8.fl q0.code)) (l_0_0 : q0.code.length = n_0_0) (k_0_0 : n_0_0 ≤ c_0_0) {q1 : List Int} {a_1 : Option Addr} {n_1 c_1 : Nat} (g_1 : RdS M w a_1 (eI64.fl q1)) (l_1 : q1.length = n_1) (k_1 : n_1 ≤ c_1) (gs : Sep w.heap.size M w [boxO 162 gb_0 [.slice a_0_0 n_0_0 c_0_0, .int .i64 q0.at_, .int .u64 q0.seed]]) {r : Int × Int × Int} (hres : sh124 q0 q1 = some r) : Calls Go.Proofs.Try.prog 124 [ptrAt (some ⟨gb_0, 0, none⟩) 0, .slice a_1 n_1 c_1].toArray w (RetMs w M (T124 gb_0 a_0_0 n_0_0 c_0_0 r)) := by
  subst l_0_0
  subst l_1
  unfold sh124 at hres
  refine calls_of (n := 12) (M := M) (es := [boxO 162 gb_0 [.slice a_0_0 q0.code.length c_0_0, .int .i64 q0.at_, .int .u64 q0.seed]]) Go.Proofs.Try.func124 rfl rfl rfl gs ?_
  refine JX.seq ?_
  refine JX.region ?_
  refine JL.val (yl_assign rfl) rfl ?_
  refine JL.nil ?_
  refine JE.code ?_
  refine JX.seq ?_
  refine JX.region ?_
  refine JL.val (yl_move rfl) rfl ?_
  refine JL.val (yl_move rfl) rfl ?_
  refine JL.val (yl_move rfl) rfl ?_
  refine JL.val (yl_len_slice Go.Proofs.Try.underlying22 rfl) rfl ?_
  obtain ⟨x1, hx1, hres⟩ := bind_some hres
  refine JL.eff (ef_callms (caps := []) (vs := [ptrAt (some ⟨gb_0, 0, none⟩) 0, .int .i64 (q1.length : Int)]) (T := T113 gb_0 a_0_0 q0.code.length c_0_0 x1) [0] [] [boxO 162 gb_0 [.slice a_0_0 q0.code.length c_0_0, .int .i64 q0.at_, .int .u64 q0.seed]] [] rfl Go.Proofs.Try.func113 rfl (by kernel_rfl) rfl (by decide) rfl rfl (fun w N hF hS => c113 (q0 := q0) (RdS.pass hF g_0_0) rfl k_0_0 hS hx1)) rfl ?_
  rintro _ _ ⟨_, _, ⟨rfl, rfl, rfl⟩, rfl⟩
  obtain ⟨x2, hx2, hres⟩ := bind_some hres
  refine JL.val (yl_idxT Go.Proofs.Try.underlying22 i2 i2s rfl rfl hx2 rfl (fun w hC => rd_argS g_1 hC)) rfl ?_
  refine JL.val (yl_loadT0 Go.Proofs.Try.underlying2 rfl rfl hx2 (fun w hC => rd_argS g_1 hC) rfl) rfl ?_
  refine JL.val (yl_assign rfl) rfl ?_
  refine JL.nil ?_
  refine JE.weak (env' := [(4, .int .i64 x2)]) (es' := [boxO 162 gb_0 [.slice a_0_0 q0.code.length c_0_0, .int .i64 x1.2.1, .int .u64 x1.2.2]]) [0] ?_ ⟨rfl, trivial⟩ (by decide) rfl
  refine JE.code ?_
  refine JX.ret ?_
  obtain rfl := Option.some.inj hres
  refine JE.ret (rs := [.tmp 4]) (vs := [.int .i64 x2]) rfl ⟨rfl, trivial⟩ ?_
  exact fun w' hb hs => ⟨_, _, _, ⟨rfl, rfl, rfl⟩, rfl, hb, hs.sel [0] _ (by decide) rfl⟩

/- spec.l00Max -/
def sh129 (q0 : Int) (q1 : Int) : Option (Int) := bif decide (q1 < q0) then (some q0) else (some q1)
def T129 (r : Int) (v : Value) (rs : List Own) : Prop := v = rets [.int .i64 r] ∧ rs = []
set_option maxRecDepth 100000 in
theorem c129 {w : World} {q0 : Int} {q1 : Int} {r : Int} (hres : sh129 q0 q1 = some r) : Calls Go.Proofs.Try.prog 129 [.int .i64 q0, .int .i64 q1].toArray w (Ret w (T129 r)) := by
  unfold sh129 at hres
  refine calls_of (n := 10) (M := []) (es := []) Go.Proofs.Try.func129 rfl rfl rfl (Sep.nil _ _ _) ?_
  refine JX.seq ?_
  refine JX.region ?_
  refine JL.val (yl_assign rfl) rfl ?_
  refine JL.nil ?_
  refine JE.code ?_
  refine JX.seq ?_
  refine JX.seq ?_
  refine JX.region ?_
  refine JL.val (yl_move rfl) rfl ?_
  refine JL.val (yl_move rfl) rfl ?_
  refine JL.val (yl_gtr rfl rfl) rfl ?_
  refine JL.nil ?_
  refine JE.code ?_
  rcases cond_some hres with ⟨hb, hres⟩ | ⟨hb, hres⟩
  · refine JX.condT rfl hb ?_
    refine JX.seq ?_
    refine JX.region ?_
    refine JL.val (yl_move rfl) rfl ?_
    refine JL.val (yl_assign rfl) rfl ?_
    refine JL.nil ?_
    refine JE.code ?_
    refine JX.ret ?_
    obtain rfl := Option.some.inj hres
    refine JE.ret (rs := [.tmp 4]) (vs := [.int .i64 q0]) rfl ⟨rfl, trivial⟩ ?_
    exact fun w' hb hs => ⟨_, _, ⟨rfl, rfl⟩, rfl, hb, hs.sel [] _ (by decide) rfl⟩
  · refine JX.condF rfl hb ?_
    refine JX.skip ?_
    refine JE.code ?_
    refine JX.seq ?_
    refine JX.region ?_
    refine JL.val (yl_move rfl) rfl ?_
    refine JL.val (yl_assign rfl) rfl ?_
    refine JL.nil ?_
    refine JE.code ?_
    refine JX.ret ?_
    obtain rfl := Option.some.inj hres
    refine JE.ret (rs := [.tmp 4]) (vs := [.int .i64 q1]) rfl ⟨rfl, trivial⟩ ?_
    exact fun w' hb hs => ⟨_, _, ⟨rfl, rfl⟩, rfl, hb, hs.sel [] _ (by decide) rfl⟩

/- spec.l19Draw -/
def sh173_1 (j6 : Int × Int × (Int × Int)) : (Int × Int × Int × List SPoint) → Option ((Int × Int × Int × List SPoint) ⊕ (List SPoint))
  | (x12, x13, x14, x15) => bif decide (0 < x14) then (Option.bind (sh129 0 x12) fun x18 => Option.bind (sh129 0 x13) fun x19 => Option.bind (appL x15 [SPoint.mk x18 x19]) fun x22 => some (.inl (w64 (x12 + j6.1), w64 (x13 + j6.2.1), w64 (x14 - 1), x22))) else (some (.inr x15))
def sh173 (q0 : Sl00Src) : Option (List SPoint × Int × Int) := Option.bind (sh113 q0 120) fun x1 => Option.bind (sh113 (Sl00Src.mk q0.code x1.2.1 x1.2.2) 120) fun x2 => Option.bind (sh113 (Sl00Src.mk q0.code x2.2.1 x2.2.2) 9) fun x3 => Option.bind (sh113 (Sl00Src.mk q0.code x3.2.1 x3.2.2) 9) fun x4 => Option.bind (sh113 (Sl00Src.mk q0.code x4.2.1 x4.2.2) 3) fun x5 => Option.bind (bif x5.1 == 0 then (Option.bind (sh113 (Sl00Src.mk q0.code x5.2.1 x5.2.2) 2) fun x27 => some (x27.1, w64 (x4.1 - 2), (x27.2.1, x27.2.2))) else (Option.bind (bif x5.1 == 1 then (Option.bind (sh113 (Sl00Src.mk q0.code x5.2.1 x5.2.2) 2) fun x29 => some (x29.1, (x29.2.1, x29.2.2))) else (some (w64 (x4.1 - 2), (x5.2.1, x5.2.2)))) fun j28 => (some (w64 (x3.1 - 2), j28.1, (j28.2.1, j28.2.2))))) fun j6 => (Option.bind (sh113 (Sl00Src.mk q0.code j6.2.2.1 j6.2.2.2) 8) fun x9 => Option.bind (iter (sh173_1 j6) (x1.1, x2.1, w64 (1 + x9.1), ([] : List SPoint))) fun b1 => (some (b1, x9.2.1, x9.2.2)))
def T173 (gb_0 : Nat) (a_0_0 : Option Addr) (n_0_0 c_0_0 : Nat) (r : List SPoint × Int × Int) (v : Value) (es' rs : List Own) : Prop := es' = [boxO 162 gb_0 [.slice a_0_0 n_0_0 c_0_0, .int .i64 r.2.1, .int .u64 r.2.2]] ∧ ∃ (a0 : Option Addr) (n0 c0 : Nat), r.1.length = n0 ∧ v = rets [.slice a0 n0 c0] ∧ rs = [rowT 35 eSPoint a0 n0 c0 r.1]
set_option maxRecDepth 100000 in
theorem c173 {w : World} {M : List Nat} {q0 : Sl00Src} {gb_0 : Nat} {a_0_0 : Option Addr} {n_0_0 c_0_0 : Nat} (g_0_0 : RdS M w a_0_0 (eU8.fl q0.code)) (l_0_0 : q0.code.length = n_0_0) (k_0_0 : n_0_0 ≤ c_0_0) (gs : Sep w.heap.size M w [boxO 162 gb_0 [.slice a_0_0 n_0_0 c_0_0, .int .i64 q0.at_, .int .u64 q0.seed]]) {r : List SPoint × Int × Int} (hres : sh173 q0 = some r) : Calls Go.Proofs.Try.prog 173 [ptrAt (some ⟨gb_0, 0, none⟩) 0].toArray w (RetMs w M (T173 gb_0 a_0_0 n_0_0 c_0_0 r)) := by
  subst l_0_0
  unfold sh173 at hres
  refine calls_of (n := 52) (M := M) (es := [boxO 162 gb_0 [.slice a_0_0 q0.code.length c_0_0, .int .i64 q0.at_, .int .u64 q0.seed]]) Go.Proofs.Try.func173 rfl rfl rfl gs ?_
  refine JX.seq ?_
  refine JX.region ?_
  refine JL.val (yl_assign rfl) rfl ?_
  refine JL.nil ?_
  refine JE.code ?_
  refine JX.seq ?_
  refine JX.region ?_
  refine JL.val (yl_move rfl) rfl ?_
  obtain ⟨x1, hx1, hres⟩ := bind_some hres
  refine JL.eff (ef_callms (caps := []) (vs := [ptrAt (some ⟨gb_0, 0, none⟩) 0, .int .i64 120]) (T := T113 gb_0 a_0_0 q0.code.length c_0_0 x1) [0] [] [boxO 162 gb_0 [.slice a_0_0 q0.code.length c_0_0, .int .i64 q0.at_, .int .u64 q0.seed]] [] rfl Go.Proofs.Try.func113 rfl (by kernel_rfl) rfl (by decide) rfl rfl (fun w N hF hS => c113 (q0 := q0) (RdS.pass hF g_0_0) rfl k_0_0 hS hx1)) rfl ?_
  rintro _ _ ⟨_, _, ⟨rfl, rfl, rfl⟩, rfl⟩
  refine JL.val (yl_assign rfl) rfl ?_
  refine JL.nil ?_
  refine JE.code ?_
  refine JX.seq ?_
  refine JX.region ?_
  refine JL.val (yl_move rfl) rfl ?_
  obtain ⟨x2, hx2, hres⟩ := bind_some hres
  refine JL.eff (ef_callms (caps := []) (vs := [ptrAt (some ⟨gb_0, 0, none⟩) 0, .int .i64 120]) (T := T113 gb_0 a_0_0 q0.code.length c_0_0 x2) [0] [] [boxO 162 gb_0 [.slice a_0_0 q0.code.length c_0_0, .int .i64 x1.2.1, .int .u64 x1.2.2]] [] rfl Go.Proofs.Try.func113 rfl (by kernel_rfl) rfl (by decide) rfl rfl (fun w N hF hS => c113 (q0 := Sl00Src.mk q0.code x1.2.1 x1.2.2) (RdS.pass hF g_0_0) rfl k_0_0 hS hx2)) rfl ?_
  rintro _ _ ⟨_, _, ⟨rfl, rfl, rfl⟩, rfl⟩
  refine JL.val (yl_assign rfl) rfl ?_
  refine JL.nil ?_
  refine JE.code ?_
  refine JX.seq ?_
  refine JX.region ?_
  refine JL.val (yl_move rfl) rfl ?_
  obtain ⟨x3, hx3, hres⟩ := bind_some hres
  refine JL.eff (ef_callms (caps := []) (vs := [ptrAt (some ⟨gb_0, 0, none⟩) 0, .int .i64 9]) (T := T113 gb_0 a_0_0 q0.code.length c_0_0 x3) [0] [] [boxO 162 gb_0 [.slice a_0_0 q0.code.length c_0_0, .int .i64 x2.2.1, .int .u64 x2.2.2]] [] rfl Go.Proofs.Try.func113 rfl (by kernel_rfl) rfl (by decide) rfl rfl (fun w N hF hS => c113 (q0 := Sl00Src.mk q0.code x2.2.1 x2.2.2) (RdS.pass hF g_0_0) rfl k_0_0 hS hx3)) rfl ?_
  rintro _ _ ⟨_, _, ⟨rfl, rfl, rfl⟩, rfl⟩
  refine JL.val (yl_sub rfl rfl) rfl ?_
  refine JL.val (yl_assign rfl) rfl ?_
  refine JL.nil ?_
  refine JE.weak (env' := [(0, ptrAt (some ⟨gb_0, 0, none⟩) 0), (3, .int .i64 x1.1), (4, .int .i64 x2.1), (5, .int .i64 (w64 (x3.1 - 2)))]) (es' := [boxO 162 gb_0 [.slice a_0_0 q0.code.length c_0_0, .int .i64 x3.2.1, .int .u64 x3.2.2]]) [0] ?_ ⟨rfl, rfl, rfl, rfl, trivial⟩ (by decide) rfl
  refine JE.code ?_
  refine JX.seq ?_
  refine JX.region ?_
  refine JL.val (yl_move rfl) rfl ?_
  obtain ⟨x4, hx4, hres⟩ := bind_some hres
  refine JL.eff (ef_callms (caps := []) (vs := [ptrAt (some ⟨gb_0, 0, none⟩) 0, .int .i64 9]) (T := T113 gb_0 a_0_0 q0.code.length c_0_0 x4) [0] [] [boxO 162 gb_0 [.slice a_0_0 q0.code.length c_0_0, .int .i64 x3.2.1, .int .u64 x3.2.2]] [] rfl Go.Proofs.Try.func113 rfl (by kernel_rfl) rfl (by decide) rfl rfl (fun w N hF hS => c113 (q0 := Sl00Src.mk q0.code x3.2.1 x3.2.2) (RdS.pass hF g_0_0) rfl k_0_0 hS hx4)) rfl ?_
  rintro _ _ ⟨_, _, ⟨rfl, rfl, rfl⟩, rfl⟩
  refine JL.val (yl_sub rfl rfl) rfl ?_
  refine JL.val (yl_assign rfl) rfl ?_
  refine JL.nil ?_
  refine JE.weak (env' := [(0, ptrAt (some ⟨gb_0, 0, none⟩) 0), (3, .int .i64 x1.1), (4, .int .i64 x2.1), (5, .int .i64 (w64 (x3.1 - 2))), (6, .int .i64 (w64 (x4.1 - 2)))]) (es' := [boxO 162 gb_0 [.slice a_0_0 q0.code.length c_0_0, .int .i64 x4.2.1, .int .u64 x4.2.2]]) [0] ?_ ⟨rfl, rfl, rfl, rfl, rfl, trivial⟩ (by decide) rfl
  refine JE.code ?_
  refine JX.seq ?_
  refine JX.seq ?_
  refine JX.region ?_
  refine JL.val (yl_move rfl) rfl ?_
  obtain ⟨x5, hx5, hres⟩ := bind_some hres
  refine JL.eff (ef_callms (caps := []) (vs := [ptrAt (some ⟨gb_0, 0, none⟩) 0, .int .i64 3]) (T := T113 gb_0 a_0_0 q0.code.length c_0_0 x5) [0] [] [boxO 162 gb_0 [.slice a_0_0 q0.code.length c_0_0, .int .i64 x4.2.1, .int .u64 x4.2.2]] [] rfl Go.Proofs.Try.func113 rfl (by kernel_rfl) rfl (by decide) rfl rfl (fun w N hF hS => c113 (q0 := Sl00Src.mk q0.code x4.2.1 x4.2.2) (RdS.pass hF g_0_0) rfl k_0_0 hS hx5)) rfl ?_
  rintro _ _ ⟨_, _, ⟨rfl, rfl, rfl⟩, rfl⟩
  refine JL.nil ?_
  refine JE.code ?_
  refine JX.block ?_
  refine JX.seq ?_
  refine JX.region ?_
  refine JL.val (yl_eql rfl rfl) rfl ?_
  refine JL.val (yl_assign rfl) rfl ?_
  refine JL.nil ?_
  refine JE.code ?_
  obtain ⟨j6, hj6, hresj6⟩ := bind_some hres
  refine JX.cut (K := fun J => J [(0, ptrAt (some ⟨gb_0, 0, none⟩) 0), (3, .int .i64 x1.1), (4, .int .i64 x2.1), (5, .int .i64 j6.1), (6, .int .i64 j6.2.1)] [boxO 162 gb_0 [.slice a_0_0 q0.code.length c_0_0, .int .i64 j6.2.2.1, .int .u64 j6.2.2.2]]) ?_ ?_
  · have hres := hresj6
    refine JE.code ?_
    refine JX.seq ?_
    refine JX.region ?_
    refine JL.eff (ef_buildSlice (E := 35) (k := eSPoint.k) (us := eSPoint.fl ([] : List SPoint)) rfl (fun w => bsl61_0  w) rfl (by decide)) rfl ?_
    rintro _ _ ⟨a7, rfl, rfl⟩
    refine JL.val (yl_assign rfl) rfl ?_
    refine JL.nil ?_
    refine JE.code ?_
    refine JX.seq ?_
    refine JX.seq ?_
    refine JX.region ?_
    refine JL.val (yl_move rfl) rfl ?_
    obtain ⟨x9, hx9, hres⟩ := bind_some hres
    refine JL.eff (ef_callms (caps := []) (vs := [ptrAt (some ⟨gb_0, 0, none⟩) 0, .int .i64 8]) (T := T113 gb_0 a_0_0 q0.code.length c_0_0 x9) [0] [1] [boxO 162 gb_0 [.slice a_0_0 q0.code.length c_0_0, .int .i64 j6.2.2.1, .int .u64 j6.2.2.2]] [rowT 35 eSPoint a7 0 0 ([] : List SPoint)] rfl Go.Proofs.Try.func113 rfl (by kernel_rfl) rfl (by decide) rfl rfl (fun w N hF hS => c113 (q0 := Sl00Src.mk q0.code j6.2.2.1 j6.2.2.2) (RdS.pass hF g_0_0) rfl k_0_0 hS hx9)) rfl ?_
    rintro _ _ ⟨_, _, ⟨rfl, rfl, rfl⟩, rfl⟩
    refine JL.val (yl_add rfl rfl) rfl ?_
    refine JL.val (yl_assign rfl) rfl ?_
    refine JL.nil ?_
    refine JE.weak (env' := [(3, .int .i64 x1.1), (4, .int .i64 x2.1), (5, .int .i64 j6.1), (6, .int .i64 j6.2.1), (7, .slice a7 0 0), (8, .int .i64 (w64 (1 + x9.1)))]) (es' := [boxO 162 gb_0 [.slice a_0_0 q0.code.length c_0_0, .int .i64 x9.2.1, .int .u64 x9.2.2], rowT 35 eSPoint a7 0 0 ([] : List SPoint)]) [1, 0] ?_ ⟨rfl, rfl, rfl, rfl, rfl, rfl, trivial⟩ (by decide) rfl
    refine JE.code ?_
    refine JX.block ?_
    obtain ⟨y1, hy1, hresO1⟩ := bind_some hres
    refine JX.loop (I := fun (s1 : Int × Int × Int × List SPoint) aa ww => ∃ (a10 : Option Addr) (cp11 : Nat), St w M 52 [(3, .int .i64 s1.1), (4, .int .i64 s1.2.1), (5, .int .i64 j6.1), (6, .int .i64 j6.2.1), (7, .slice a10 s1.2.2.2.length cp11), (8, .int .i64 s1.2.2.1)] [boxO 162 gb_0 [.slice a_0_0 q0.code.length c_0_0, .int .i64 x9.2.1, .int .u64 x9.2.2], rowT 35 eSPoint a10 s1.2.2.2.length cp11 s1.2.2.2] aa ww) (sh173_1 j6) hy1 (fun a w h => ⟨a7, 0, h.weak ⟨rfl, rfl, rfl, rfl, rfl, rfl, trivial⟩ [0, 1] (by decide) rfl⟩) ?_
    rintro ⟨x12, x13, x14, x15⟩ o1 hres hox1 aa ww ⟨a16, cp17, hS⟩
    refine (?_ : JX Go.Proofs.Try.prog w M 52 _ _ [(3, .int .i64 x12), (4, .int .i64 x13), (5, .int .i64 j6.1), (6, .int .i64 j6.2.1), (7, .slice a16 x15.length cp17), (8, .int .i64 x14)] [boxO 162 gb_0 [.slice a_0_0 q0.code.length c_0_0, .int .i64 x9.2.1, .int .u64 x9.2.2], rowT 35 eSPoint a16 x15.length cp17 x15] _) aa ww hS
    clear hS
    simp only [sh173_1] at hres
    refine JX.seq ?_
    refine JX.seq ?_
    refine JX.region ?_
    refine JL.val (yl_move rfl) rfl ?_
    refine JL.val (yl_gtr rfl rfl) rfl ?_
    refine JL.nil ?_
    refine JE.code ?_
    rcases cond_some hres with ⟨hb, hres⟩ | ⟨hb, hres⟩
    · refine JX.condT rfl hb ?_
      refine JX.skip ?_
      refine JE.code ?_
      refine JX.seq ?_
      refine JX.block ?_
      refine JX.seq ?_
      refine JX.region ?_
      refine JL.val (yl_move rfl) rfl ?_
      refine JL.val (yl_move rfl) rfl ?_
      obtain ⟨x18, hx18, hres⟩ := bind_some hres
      refine JL.eff (ef_call (T := T129 x18) Go.Proofs.Try.func129 rfl (by kernel_rfl) rfl (fun w hC => c129  hx18)) rfl ?_
      rintro _ _ ⟨_, ⟨rfl, rfl⟩, rfl⟩
      refine JL.val (yl_move rfl) rfl ?_
      obtain ⟨x19, hx19, hres⟩ := bind_some hres
      refine JL.eff (ef_call (T := T129 x19) Go.Proofs.Try.func129 rfl (by kernel_rfl) rfl (fun w hC => c129  hx19)) rfl ?_
      rintro _ _ ⟨_, ⟨rfl, rfl⟩, rfl⟩
      refine JL.val (yl_build rfl (fun w => bld35_0_1 x18 x19 w)) rfl ?_
      refine JL.eff (ef_buildSlice (E := 35) (k := eSPoint.k) (us := eSPoint.fl [SPoint.mk x18 x19]) rfl (fun w => bsl61_1 x18 x19 w) rfl (by decide)) rfl ?_
      rintro _ _ ⟨a20, rfl, rfl⟩
      obtain ⟨x22, hx22, hres⟩ := bind_some hres
      refine JL.eff (ef_appendT (ix := 1) Go.Proofs.Try.underlying61 i35 i35z i35s rfl i35b0 i35b1 rfl rfl rfl rfl rfl (fun w hC => rd_row hC 2 rfl) hx22) rfl ?_
      rintro _ _ ⟨a23, cp24, rfl, rfl⟩
      refine JL.val (yl_assign rfl) rfl ?_
      refine JL.nil ?_
      refine JE.weak (env' := [(3, .int .i64 x12), (4, .int .i64 x13), (5, .int .i64 j6.1), (6, .int .i64 j6.2.1), (7, .slice a23 x22.length cp24), (8, .int .i64 x14)]) (es' := [boxO 162 gb_0 [.slice a_0_0 q0.code.length c_0_0, .int .i64 x9.2.1, .int .u64 x9.2.2], rowT 35 eSPoint a23 x22.length cp24 x22]) [0, 1] ?_ ⟨rfl, rfl, rfl, rfl, rfl, rfl, trivial⟩ (by decide) rfl
      refine JE.code ?_
      refine JX.seq ?_
      refine JX.region ?_
      refine JL.val (yl_move rfl) rfl ?_
      refine JL.val (yl_move rfl) rfl ?_
      refine JL.val (yl_add rfl rfl) rfl ?_
      refine JL.val (yl_assign rfl) rfl ?_
      refine JL.nil ?_
      refine JE.weak (env' := [(3, .int .i64 (w64 (x12 + j6.1))), (4, .int .i64 x13), (5, .int .i64 j6.1), (6, .int .i64 j6.2.1), (7, .slice a23 x22.length cp24), (8, .int .i64 x14)]) (es' := [boxO 162 gb_0 [.slice a_0_0 q0.code.length c_0_0, .int .i64 x9.2.1, .int .u64 x9.2.2], rowT 35 eSPoint a23 x22.length cp24 x22]) [0, 1] ?_ ⟨rfl, rfl, rfl, rfl, rfl, rfl, trivial⟩ (by decide) rfl
      refine JE.code ?_
      refine JX.region ?_
      refine JL.val (yl_move rfl) rfl ?_
      refine JL.val (yl_move rfl) rfl ?_
      refine JL.val (yl_add rfl rfl) rfl ?_
      refine JL.val (yl_assign rfl) rfl ?_
      refine JL.nil ?_
      refine JE.weak (env' := [(3, .int .i64 (w64 (x12 + j6.1))), (4, .int .i64 (w64 (x13 + j6.2.1))), (5, .int .i64 j6.1), (6, .int .i64 j6.2.1), (7, .slice a23 x22.length cp24), (8, .int .i64 x14)]) (es' := [boxO 162 gb_0 [.slice a_0_0 q0.code.length c_0_0, .int .i64 x9.2.1, .int .u64 x9.2.2], rowT 35 eSPoint a23 x22.length cp24 x22]) [0, 1] ?_ ⟨rfl, rfl, rfl, rfl, rfl, rfl, trivial⟩ (by decide) rfl
      refine JE.code ?_
      refine JX.region ?_
      refine JL.val (yl_move rfl) rfl ?_
      refine JL.val (yl_sub rfl rfl) rfl ?_
      refine JL.val (yl_assign rfl) rfl ?_
      refine JL.nil ?_
      refine JE.cont hres ?_
      exact fun a w h => ⟨a23, cp24, h.weak ⟨rfl, rfl, rfl, rfl, rfl, rfl, trivial⟩ [0, 1] (by decide) rfl⟩
    · refine JX.condF rfl hb ?_
      refine JX.exit ?_
      refine JE.qb rfl ?_
      obtain ⟨b1, hb1⟩ : ∃ b : List SPoint, b = x15 := ⟨_, rfl⟩
      have hy1 : b1 = y1 := by rw [hb1]; exact hox1 _ (Option.some.inj hres).symm
      have hres := hresO1
      rw [← hy1] at hres
      refine JE.weak (env' := [(7, .slice a16 b1.length cp17)]) (es' := [boxO 162 gb_0 [.slice a_0_0 q0.code.length c_0_0, .int .i64 x9.2.1, .int .u64 x9.2.2], rowT 35 eSPoint a16 b1.length cp17 b1]) [0, 1] ?_ ⟨(by subst hb1; rfl), trivial⟩ (by decide) (by subst hb1; rfl)
      refine JE.code ?_
      refine JX.seq ?_
      refine JX.region ?_
      refine JL.val (yl_move rfl) rfl ?_
      refine JL.val (yl_assign rfl) rfl ?_
      refine JL.nil ?_
      refine JE.code ?_
      refine JX.ret ?_
      obtain rfl := Option.some.inj hres
      refine JE.ret (rs := [.tmp 2]) (vs := [.slice a16 b1.length cp17]) rfl ⟨rfl, trivial⟩ ?_
      exact fun w' hb hs => ⟨_, _, _, ⟨rfl, a16, b1.length, cp17, rfl, rfl, rfl⟩, rfl, hb, hs.sel [0, 1] _ (by decide) rfl⟩
  · intro K
    rcases cond_some hj6 with ⟨hb, hres⟩ | ⟨hb, hres⟩
    · refine JX.condT rfl hb ?_
      refine JX.region ?_
      refine JL.val (yl_move rfl) rfl ?_
      obtain ⟨x27, hx27, hres⟩ := bind_some hres
      refine JL.eff (ef_callms (caps := []) (vs := [ptrAt (some ⟨gb_0, 0, none⟩) 0, .int .i64 2]) (T := T113 gb_0 a_0_0 q0.code.length c_0_0 x27) [0] [] [boxO 162 gb_0 [.slice a_0_0 q0.code.length c_0_0, .int .i64 x5.2.1, .int .u64 x5.2.2]] [] rfl Go.Proofs.Try.func113 rfl (by kernel_rfl) rfl (by decide) rfl rfl (fun w N hF hS => c113 (q0 := Sl00Src.mk q0.code x5.2.1 x5.2.2) (RdS.pass hF g_0_0) rfl k_0_0 hS hx27)) rfl ?_
      rintro _ _ ⟨_, _, ⟨rfl, rfl, rfl⟩, rfl⟩
      refine JL.val (yl_assign rfl) rfl ?_
      refine JL.nil ?_
      have hj := Option.some.inj hres
      exact JE.weak [0] (K) ⟨(by subst hj; rfl), (by subst hj; rfl), (by subst hj; rfl), (by subst hj; rfl), (by subst hj; rfl), trivial⟩ (by decide) (by subst hj; rfl)
    · refine JX.condF rfl hb ?_
      refine JX.seq ?_
      refine JX.region ?_
      refine JL.val (yl_eql rfl rfl) rfl ?_
      refine JL.val (yl_assign rfl) rfl ?_
      refine JL.nil ?_
      refine JE.code ?_
      obtain ⟨j28, hj28, hresj28⟩ := bind_some hres
      refine JX.cut (K := fun J => J [(0, ptrAt (some ⟨gb_0, 0, none⟩) 0), (3, .int .i64 x1.1), (4, .int .i64 x2.1), (5, .int .i64 (w64 (x3.1 - 2))), (6, .int .i64 j28.1)] [boxO 162 gb_0 [.slice a_0_0 q0.code.length c_0_0, .int .i64 j28.2.1, .int .u64 j28.2.2]]) ?_ ?_
      · have hres := hresj28
        have hj := Option.some.inj hres
        exact JE.weak [0] (K) ⟨(by subst hj; rfl), (by subst hj; rfl), (by subst hj; rfl), (by subst hj; rfl), (by subst hj; rfl), trivial⟩ (by decide) (by subst hj; rfl)
      · intro K
        rcases cond_some hj28 with ⟨hb, hres⟩ | ⟨hb, hres⟩
        · refine JX.condT rfl hb ?_
          refine JX.region ?_
          refine JL.val (yl_move rfl) rfl ?_
          obtain ⟨x29, hx29, hres⟩ := bind_some hres
          refine JL.eff (ef_callms (caps := []) (vs := [ptrAt (some ⟨gb_0, 0, none⟩) 0, .int .i64 2]) (T := T113 gb_0 a_0_0 q0.code.length c_0_0 x29) [0] [] [boxO 162 gb_0 [.slice a_0_0 q0.code.length c_0_0, .int .i64 x5.2.1, .int .u64 x5.2.2]] [] rfl Go.Proofs.Try.func113 rfl (by kernel_rfl) rfl (by decide) rfl rfl (fun w N hF hS => c113 (q0 := Sl00Src.mk q0.code x5.2.1 x5.2.2) (RdS.pass hF g_0_0) rfl k_0_0 hS hx29)) rfl ?_
          rintro _ _ ⟨_, _, ⟨rfl, rfl, rfl⟩, rfl⟩
          refine JL.val (yl_assign rfl) rfl ?_
          refine JL.nil ?_
          have hj := Option.some.inj hres
          exact JE.weak [0] (K) ⟨(by subst hj; rfl), (by subst hj; rfl), (by subst hj; rfl), (by subst hj; rfl), (by subst hj; rfl), trivial⟩ (by decide) (by subst hj; rfl)
        · refine JX.condF rfl hb ?_
          refine JX.skip ?_
          have hj := Option.some.inj hres
          exact JE.weak [0] (K) ⟨(by subst hj; rfl), (by subst hj; rfl), (by subst hj; rfl), (by subst hj; rfl), (by subst hj; rfl), trivial⟩ (by decide) (by subst hj; rfl)

/- spec.l19Bent -/
def sh119 (q0 : Sl00Src) : Option (List SPoint × Int × Int) := Option.bind (sh173 q0) fun x1 => Option.bind (sh113 (Sl00Src.mk q0.code x1.2.1 x1.2.2) 24) fun x5 => bif x5.1 == 0 then (Option.bind (sh124 (Sl00Src.mk q0.code x5.2.1 x5.2.2) [(-1), 0, 2000, 2001]) fun x8 => Option.bind (getI x1.1 (0 : Int)) fun x9 => some (x1.1.set ((0 : Int)).toNat (SPoint.mk x8.1 x9.Y), x8.2.1, x8.2.2)) else (bif x5.1 == 1 then (Option.bind (sh124 (Sl00Src.mk q0.code x5.2.1 x5.2.2) [(-9223372036854775808), 9223372036854775807]) fun x12 => Option.bind (getI x1.1 (0 : Int)) fun x13 => some (x1.1.set ((0 : Int)).toNat (SPoint.mk x13.X x12.1), x12.2.1, x12.2.2)) else (bif x5.1 == 2 then (some (([] : List SPoint), x5.2.1, x5.2.2)) else (bif x5.1 == 3 then (Option.bind (sh113 (Sl00Src.mk q0.code x5.2.1 x5.2.2) 2) fun x16 => Option.bind (mkL (w64 (60 + x16.1)) (SPoint.mk 0 0)) fun x17 => some (x17, x16.2.1, x16.2.2)) else (some (x1.1, x5.2.1, x5.2.2)))))
def T119 (gb_0 : Nat) (a_0_0 : Option Addr) (n_0_0 c_0_0 : Nat) (r : List SPoint × Int × Int) (v : Value) (es' rs : List Own) : Prop := es' = [boxO 162 gb_0 [.slice a_0_0 n_0_0 c_0_0, .int .i64 r.2.1, .int .u64 r.2.2]] ∧ ∃ (a0 : Option Addr) (n0 c0 : Nat), r.1.length = n0 ∧ v = rets [.slice a0 n0 c0] ∧ rs = [rowT 35 eSPoint a0 n0 c0 r.1]
set_option maxRecDepth 100000 in
theorem c119 {w : World} {M : List Nat} {q0 : Sl00Src} {gb_0 : Nat} {a_0_0 : Option Addr} {n_0_0 c_0_0 : Nat} (g_0_0 : RdS M w a_0_0 (eU8.fl q0.code)) (l_0_0 : q0.code.length = n_0_0) (k_0_0 : n_0_0 ≤ c_0_0) (gs : Sep w.heap.size M w [boxO 162 gb_0 [.slice a_0_0 n_0_0 c_0_0, .int .i64 q0.at_, .int .u64 q0.seed]]) {r : List SPoint × Int × Int} (hres : sh119 q0 = some r) : Calls Go.Proofs.Try.prog 119 [ptrAt (some ⟨gb_0, 0, none⟩) 0].toArray w (RetMs w M (T119 gb_0 a_0_0 n_0_0 c_0_0 r)) := by
  subst l_0_0
  unfold sh119 at hres
  refine calls_of (n := 34) (M := M) (es := [boxO 162 gb_0 [.slice a_0_0 q0.code.length c_0_0, .int .i64 q0.at_, .int .u64 q0.seed]]) Go.Proofs.Try.func119 rfl rfl rfl gs ?_
  refine JX.seq ?_
  refine JX.region ?_
  refine JL.val (yl_assign rfl) rfl ?_
  refine JL.nil ?_
  refine JE.code ?_
  refine JX.seq ?_
  refine JX.region ?_
  refine JL.val (yl_move rfl) rfl ?_
  obtain ⟨x1, hx1, hres⟩ := bind_some hres
  refine JL.eff (ef_callms (caps := []) (vs := [ptrAt (some ⟨gb_0, 0, none⟩) 0]) (T := T173 gb_0 a_0_0 q0.code.length c_0_0 x1) [0] [] [boxO 162 gb_0 [.slice a_0_0 q0.code.length c_0_0, .int .i64 q0.at_, .int .u64 q0.seed]] [] rfl Go.Proofs.Try.func173 rfl (by kernel_rfl) rfl (by decide) rfl rfl (fun w N hF hS => c173 (q0 := q0) (RdS.pass hF g_0_0) rfl k_0_0 hS hx1)) rfl ?_
  rintro _ _ ⟨_, _, ⟨rfl, a2, _, cp3, rfl, rfl, rfl⟩, rfl⟩
  refine JL.val (yl_assign rfl) rfl ?_
  refine JL.nil ?_
  refine JE.code ?_
  refine JX.seq ?_
  refine JX.seq ?_
  refine JX.region ?_
  refine JL.val (yl_move rfl) rfl ?_
  obtain ⟨x5, hx5, hres⟩ := bind_some hres
  refine JL.eff (ef_callms (caps := []) (vs := [ptrAt (some ⟨gb_0, 0, none⟩) 0, .int .i64 24]) (T := T113 gb_0 a_0_0 q0.code.length c_0_0 x5) [0] [1] [boxO 162 gb_0 [.slice a_0_0 q0.code.length c_0_0, .int .i64 x1.2.1, .int .u64 x1.2.2]] [rowT 35 eSPoint a2 x1.1.length cp3 x1.1] rfl Go.Proofs.Try.func113 rfl (by kernel_rfl) rfl (by decide) rfl rfl (fun w N hF hS => c113 (q0 := Sl00Src.mk q0.code x1.2.1 x1.2.2) (RdS.pass hF g_0_0) rfl k_0_0 hS hx5)) rfl ?_
  rintro _ _ ⟨_, _, ⟨rfl, rfl, rfl⟩, rfl⟩
  refine JL.nil ?_
  refine JE.code ?_
  refine JX.block ?_
  refine JX.seq ?_
  refine JX.region ?_
  refine JL.val (yl_eql rfl rfl) rfl ?_
  refine JL.val (yl_assign rfl) rfl ?_
  refine JL.nil ?_
  refine JE.code ?_
  rcases cond_some hres with ⟨hb, hres⟩ | ⟨hb, hres⟩
  · refine JX.condT rfl hb ?_
    refine JX.region ?_
    refine JL.val (yl_move rfl) rfl ?_
    refine JL.val (yl_move rfl) rfl ?_
    refine JL.eff (ef_buildSlice (E := 2) (k := eI64.k) (us := eI64.fl [(-1), 0, 2000, 2001]) rfl (fun w => bsl22_4 (-1) 0 2000 2001 w) rfl (by decide)) rfl ?_
    rintro _ _ ⟨a6, rfl, rfl⟩
    obtain ⟨x8, hx8, hres⟩ := bind_some hres
    refine JL.eff (ef_callms (caps := []) (vs := [ptrAt (some ⟨gb_0, 0, none⟩) 0, .slice a6 4 4]) (T := T124 gb_0 a_0_0 q0.code.length c_0_0 x8) [1] [0, 2] [boxO 162 gb_0 [.slice a_0_0 q0.code.length c_0_0, .int .i64 x5.2.1, .int .u64 x5.2.2]] [rowT 35 eSPoint a2 x1.1.length cp3 x1.1, rowT 2 eI64 a6 4 4 [(-1), 0, 2000, 2001]] rfl Go.Proofs.Try.func124 rfl (by kernel_rfl) rfl (by decide) rfl rfl (fun w N hF hS => c124 (q0 := Sl00Src.mk q0.code x5.2.1 x5.2.2) (RdS.pass hF g_0_0) rfl k_0_0 (RdS.row hF 2 rfl rfl) rfl (ln_row hF.cl 2 rfl) hS hx8)) rfl ?_
    rintro _ _ ⟨_, _, ⟨rfl, rfl, rfl⟩, rfl⟩
    obtain ⟨x9, hx9, hres⟩ := bind_some hres
    refine JL.val (yl_idxT Go.Proofs.Try.underlying61 i35 i35s rfl rfl hx9 rfl (fun w hC => rd_row hC 0 rfl)) rfl ?_
    refine JL.val (yl_fieldAtT Go.Proofs.Try.underlying35 rfl i2 i2n rfl hx9 (fun w hC => rd_row hC 0 rfl)) rfl ?_
    refine JL.eff (ef_storeF (ix := 0) (u := SPoint.mk x8.1 x9.Y) i2 i2s rfl rfl rfl hx9 (by decide) rfl rfl rfl) rfl ?_
    rintro _ _ rfl
    refine JL.nil ?_
    refine JE.weak (env' := [(3, .slice a2 x1.1.length cp3)]) (es' := [boxO 162 gb_0 [.slice a_0_0 q0.code.length c_0_0, .int .i64 x8.2.1, .int .u64 x8.2.2], rowT 35 eSPoint a2 x1.1.length cp3 (x1.1.set ((0 : Int)).toNat (SPoint.mk x8.1 x9.Y))]) [2, 0] ?_ ⟨rfl, trivial⟩ (by decide) rfl
    refine JE.code ?_
    refine JX.seq ?_
    refine JX.region ?_
    refine JL.val (yl_move rfl) rfl ?_
    refine JL.val (yl_assign rfl) rfl ?_
    refine JL.nil ?_
    refine JE.code ?_
    refine JX.ret ?_
    obtain rfl := Option.some.inj hres
    refine JE.ret (rs := [.tmp 2]) (vs := [.slice a2 x1.1.length cp3]) rfl ⟨rfl, trivial⟩ ?_
    exact fun w' hb hs => ⟨_, _, _, ⟨rfl, a2, x1.1.length, cp3, List.length_set, rfl, rfl⟩, rfl, hb, hs.sel [0, 1] _ (by decide) rfl⟩
  · refine JX.condF rfl hb ?_
    refine JX.seq ?_
    refine JX.region ?_
    refine JL.val (yl_eql rfl rfl) rfl ?_
    refine JL.val (yl_assign rfl) rfl ?_
    refine JL.nil ?_
    refine JE.code ?_
    rcases cond_some hres with ⟨hb, hres⟩ | ⟨hb, hres⟩
    · refine JX.condT rfl hb ?_
      refine JX.region ?_
      refine JL.val (yl_move rfl) rfl ?_
      refine JL.val (yl_move rfl) rfl ?_
      refine JL.eff (ef_buildSlice (E := 2) (k := eI64.k) (us := eI64.fl [(-9223372036854775808), 9223372036854775807]) rfl (fun w => bsl22_2 (-9223372036854775808) 9223372036854775807 w) rfl (by decide)) rfl ?_
      rintro _ _ ⟨a10, rfl, rfl⟩
      obtain ⟨x12, hx12, hres⟩ := bind_some hres
      refine JL.eff (ef_callms (caps := []) (vs := [ptrAt (some ⟨gb_0, 0, none⟩) 0, .slice a10 2 2]) (T := T124 gb_0 a_0_0 q0.code.length c_0_0 x12) [1] [0, 2] [boxO 162 gb_0 [.slice a_0_0 q0.code.length c_0_0, .int .i64 x5.2.1, .int .u64 x5.2.2]] [rowT 35 eSPoint a2 x1.1.length cp3 x1.1, rowT 2 eI64 a10 2 2 [(-9223372036854775808), 9223372036854775807]] rfl Go.Proofs.Try.func124 rfl (by kernel_rfl) rfl (by decide) rfl rfl (fun w N hF hS => c124 (q0 := Sl00Src.mk q0.code x5.2.1 x5.2.2) (RdS.pass hF g_0_0) rfl k_0_0 (RdS.row hF 2 rfl rfl) rfl (ln_row hF.cl 2 rfl) hS hx12)) rfl ?_
      rintro _ _ ⟨_, _, ⟨rfl, rfl, rfl⟩, rfl⟩
      obtain ⟨x13, hx13, hres⟩ := bind_some hres
      refine JL.val (yl_idxT Go.Proofs.Try.underlying61 i35 i35s rfl rfl hx13 rfl (fun w hC => rd_row hC 0 rfl)) rfl ?_
      refine JL.val (yl_fieldAtT Go.Proofs.Try.underlying35 rfl i2 i2n rfl hx13 (fun w hC => rd_row hC 0 rfl)) rfl ?_
      refine JL.eff (ef_storeF (ix := 0) (u := SPoint.mk x13.X x12.1) i2 i2s rfl rfl rfl hx13 (by decide) rfl rfl rfl) rfl ?_
      rintro _ _ rfl
      refine JL.nil ?_
      refine JE.weak (env' := [(3, .slice a2 x1.1.length cp3)]) (es' := [boxO 162 gb_0 [.slice a_0_0 q0.code.length c_0_0, .int .i64 x12.2.1, .int .u64 x12.2.2], rowT 35 eSPoint a2 x1.1.length cp3 (x1.1.set ((0 : Int)).toNat (SPoint.mk x13.X x12.1))]) [2, 0] ?_ ⟨rfl, trivial⟩ (by decide) rfl
      refine JE.code ?_
      refine JX.seq ?_
      refine JX.region ?_
      refine JL.val (yl_move rfl) rfl ?_
      refine JL.val (yl_assign rfl) rfl ?_
      refine JL.nil ?_
      refine JE.code ?_
      refine JX.ret ?_
      obtain rfl := Option.some.inj hres
      refine JE.ret (rs := [.tmp 2]) (vs := [.slice a2 x1.1.length cp3]) rfl ⟨rfl, trivial⟩ ?_
      exact fun w' hb hs => ⟨_, _, _, ⟨rfl, a2, x1.1.length, cp3, List.length_set, rfl, rfl⟩, rfl, hb, hs.sel [0, 1] _ (by decide) rfl⟩
    · refine JX.condF rfl hb ?_
      refine JX.seq ?_
      refine JX.region ?_
      refine JL.val (yl_eql rfl rfl) rfl ?_
      refine JL.val (yl_assign rfl) rfl ?_
      refine JL.nil ?_
      refine JE.code ?_
      rcases cond_some hres with ⟨hb, hres⟩ | ⟨hb, hres⟩
      · refine JX.condT rfl hb ?_
        refine JX.seq ?_
        refine JX.region ?_
        refine JL.eff (ef_buildSlice (E := 35) (k := eSPoint.k) (us := eSPoint.fl ([] : List SPoint)) rfl (fun w => bsl61_0  w) rfl (by decide)) rfl ?_
        rintro _ _ ⟨a14, rfl, rfl⟩
        refine JL.val (yl_assign rfl) rfl ?_
        refine JL.nil ?_
        refine JE.weak (env' := [(2, .slice a14 0 0)]) (es' := [boxO 162 gb_0 [.slice a_0_0 q0.code.length c_0_0, .int .i64 x5.2.1, .int .u64 x5.2.2], rowT 35 eSPoint a14 0 0 ([] : List SPoint)]) [1, 2] ?_ ⟨rfl, trivial⟩ (by decide) rfl
        refine JE.code ?_
        refine JX.ret ?_
        refine JE.qbr ?_
        obtain rfl := Option.some.inj hres
        refine JE.ret (rs := [.tmp 2]) (vs := [.slice a14 0 0]) rfl ⟨rfl, trivial⟩ ?_
        exact fun w' hb hs => ⟨_, _, _, ⟨rfl, a14, 0, 0, rfl, rfl, rfl⟩, rfl, hb, hs.sel [0, 1] _ (by decide) rfl⟩
      · refine JX.condF rfl hb ?_
        refine JX.seq ?_
        refine JX.region ?_
        refine JL.val (yl_eql rfl rfl) rfl ?_
        refine JL.val (yl_assign rfl) rfl ?_
        refine JL.nil ?_
        refine JE.code ?_
        rcases cond_some hres with ⟨hb, hres⟩ | ⟨hb, hres⟩
        · refine JX.condT rfl hb ?_
          refine JX.seq ?_
          refine JX.region ?_
          refine JL.val (yl_move rfl) rfl ?_
          obtain ⟨x16, hx16, hres⟩ := bind_some hres
          refine JL.eff (ef_callms (caps := []) (vs := [ptrAt (some ⟨gb_0, 0, none⟩) 0, .int .i64 2]) (T := T113 gb_0 a_0_0 q0.code.length c_0_0 x16) [1] [0] [boxO 162 gb_0 [.slice a_0_0 q0.code.length c_0_0, .int .i64 x5.2.1, .int .u64 x5.2.2]] [rowT 35 eSPoint a2 x1.1.length cp3 x1.1] rfl Go.Proofs.Try.func113 rfl (by kernel_rfl) rfl (by decide) rfl rfl (fun w N hF hS => c113 (q0 := Sl00Src.mk q0.code x5.2.1 x5.2.2) (RdS.pass hF g_0_0) rfl k_0_0 hS hx16)) rfl ?_
          rintro _ _ ⟨_, _, ⟨rfl, rfl, rfl⟩, rfl⟩
          refine JL.val (yl_add rfl rfl) rfl ?_
          obtain ⟨x17, hx17, hres⟩ := bind_some hres
          refine JL.eff (ef_makeS (e := eSPoint) Go.Proofs.Try.underlying61 i35 i35s i35z rfl i35b1 rfl rfl hx17) rfl ?_
          rintro _ _ ⟨a18, rfl, rfl⟩
          refine JL.val (yl_assign rfl) rfl ?_
          refine JL.nil ?_
          refine JE.weak (env' := [(2, .slice a18 x17.length x17.length)]) (es' := [boxO 162 gb_0 [.slice a_0_0 q0.code.length c_0_0, .int .i64 x16.2.1, .int .u64 x16.2.2], rowT 35 eSPoint a18 x17.length x17.length x17]) [1, 2] ?_ ⟨rfl, trivial⟩ (by decide) rfl
          refine JE.code ?_
          refine JX.ret ?_
          refine JE.qbr ?_
          obtain rfl := Option.some.inj hres
          refine JE.ret (rs := [.tmp 2]) (vs := [.slice a18 x17.length x17.length]) rfl ⟨rfl, trivial⟩ ?_
          exact fun w' hb hs => ⟨_, _, _, ⟨rfl, a18, x17.length, x17.length, rfl, rfl, rfl⟩, rfl, hb, hs.sel [0, 1] _ (by decide) rfl⟩
        · refine JX.condF rfl hb ?_
          refine JX.skip ?_
          refine JE.code ?_
          refine JX.seq ?_
          refine JX.region ?_
          refine JL.val (yl_move rfl) rfl ?_
          refine JL.val (yl_assign rfl) rfl ?_
          refine JL.nil ?_
          refine JE.code ?_
          refine JX.ret ?_
          obtain rfl := Option.some.inj hres
          refine JE.ret (rs := [.tmp 2]) (vs := [.slice a2 x1.1.length cp3]) rfl ⟨rfl, trivial⟩ ?_
          exact fun w' hb hs => ⟨_, _, _, ⟨rfl, a2, x1.1.length, cp3, rfl, rfl, rfl⟩, rfl, hb, hs.sel [1, 0] _ (by decide) rfl⟩

/- spec.DrawStrokeBox -/
def sh61 (q0 : List Int) : Option (List SPoint) := Option.bind (sh109 q0) fun x1 => Option.bind (sh119 (Sl00Src.mk q0 x1.at_ x1.seed)) fun x4 => some x4.1
def T61 (r : List SPoint) (v : Value) (rs : List Own) : Prop := ∃ (a0 : Option Addr) (n0 c0 : Nat), r.length = n0 ∧ v = rets [.slice a0 n0 c0] ∧ rs = [rowT 35 eSPoint a0 n0 c0 r]
set_option maxRecDepth 100000 in
theorem c61 {w : World} {q0 : List Int} {a_0 : Option Addr} {n_0 c_0 : Nat} (g_0 : Rd w a_0 (eU8.fl q0)) (l_0 : q0.length = n_0) (k_0 : n_0 ≤ c_0) {r : List SPoint} (hres : sh61 q0 = some r) : Calls Go.Proofs.Try.prog 61 [.slice a_0 n_0 c_0].toArray w (Ret w (T61 r)) := by
  subst l_0
  unfold sh61 at hres
  refine calls_of (n := 6) (M := []) (es := []) Go.Proofs.Try.func61 rfl rfl rfl (Sep.nil _ _ _) ?_
  refine JX.seq ?_
  refine JX.region ?_
  refine JL.val (yl_assign rfl) rfl ?_
  refine JL.nil ?_
  refine JE.code ?_
  refine JX.seq ?_
  refine JX.region ?_
  refine JL.val (yl_move rfl) rfl ?_
  obtain ⟨x1, hx1, hres⟩ := bind_some hres
  refine JL.eff (ef_call (T := T109 a_0 q0.length c_0 x1) Go.Proofs.Try.func109 rfl (by kernel_rfl) rfl (fun w hC => c109 (rd_arg g_0 hC) rfl k_0 hx1)) rfl ?_
  rintro _ _ ⟨_, ⟨g2, rfl, rfl⟩, rfl⟩
  obtain ⟨x4, hx4, hres⟩ := bind_some hres
  refine JL.eff (ef_callms (caps := []) (vs := [ptrAt (some ⟨g2, 0, none⟩) 0]) (T := T119 g2 a_0 q0.length c_0 x4) [0] [] [boxO 162 g2 [.slice a_0 q0.length c_0, .int .i64 x1.at_, .int .u64 x1.seed]] [] rfl Go.Proofs.Try.func119 rfl (by kernel_rfl) rfl (by decide) rfl rfl (fun w N hF hS => c119 (q0 := Sl00Src.mk q0 x1.at_ x1.seed) (RdS.pass0 hF g_0) rfl k_0 hS hx4)) rfl ?_
  rintro _ _ ⟨_, _, ⟨rfl, a5, _, cp6, rfl, rfl, rfl⟩, rfl⟩
  refine JL.val (yl_assign rfl) rfl ?_
  refine JL.nil ?_
  refine JE.weak (env' := [(2, .slice a5 x4.1.length cp6)]) (es' := [rowT 35 eSPoint a5 x4.1.length cp6 x4.1]) [1] ?_ ⟨rfl, trivial⟩ (by decide) rfl
  refine JE.code ?_
  refine JX.ret ?_
  obtain rfl := Option.some.inj hres
  refine JE.ret (rs := [.tmp 2]) (vs := [.slice a5 x4.1.length cp6]) rfl ⟨rfl, trivial⟩ ?_
  exact fun w' hb hs => ⟨_, _, ⟨a5, x4.1.length, cp6, rfl, rfl, rfl⟩, rfl, hb, hs.sel [0] _ (by decide) rfl⟩

/- impl.inRange -/
def sh125 (q0 : Int) (q1 : Int) (q2 : Int) : Option (Bool) := some ((decide (q1 ≤ q0)) && (decide (q0 ≤ q2)))
def T125 (r : Bool) (v : Value) (rs : List Own) : Prop := v = rets [.bool r] ∧ rs = []
set_option maxRecDepth 100000 in
theorem c125 {w : World} {q0 : Int} {q1 : Int} {q2 : Int} {r : Bool} (hres : sh125 q0 q1 q2 = some r) : Calls Go.Proofs.Try.prog 125 [.int .i64 q0, .int .i64 q1, .int .i64 q2].toArray w (Ret w (T125 r)) := by
  unfold sh125 at hres
  refine calls_of (n := 15) (M := []) (es := []) Go.Proofs.Try.func125 rfl rfl rfl (Sep.nil _ _ _) ?_
  refine JX.seq ?_
  refine JX.region ?_
  refine JL.val (yl_assign rfl) rfl ?_
  refine JL.nil ?_
  refine JE.code ?_
  refine JX.seq ?_
  refine JX.region ?_
  refine JL.val (yl_move rfl) rfl ?_
  refine JL.val (yl_move rfl) rfl ?_
  refine JL.val (yl_geq rfl rfl) rfl ?_
  refine JL.val (yl_move rfl) rfl ?_
  refine JL.cut (K := fun J => J [(14, .bool ((decide (q1 ≤ q0)) && (decide (q0 ≤ q2))))] []) 4 ?_ ?_
  · refine JL.val (yl_assign rfl) rfl ?_
    refine JL.nil ?_
    refine JE.weak (env' := [(6, .bool ((decide (q1 ≤ q0)) && (decide (q0 ≤ q2))))]) (es' := []) [] ?_ ⟨rfl, trivial⟩ (by decide) rfl
    refine JE.code ?_
    refine JX.ret ?_
    obtain rfl := Option.some.inj hres
    refine JE.ret (rs := [.tmp 6]) (vs := [.bool ((decide (q1 ≤ q0)) && (decide (q0 ≤ q2)))]) rfl ⟨rfl, trivial⟩ ?_
    exact fun w' hb hs => ⟨_, _, ⟨rfl, rfl⟩, rfl, hb, hs.sel [] _ (by decide) rfl⟩
  · intro K
    rcases Bool.eq_false_or_eq_true (decide (q1 ≤ q0)) with hb | hb
    · refine JL.set (d := 10) (v := .bool true) (congrArg (fun b => some (Value.bool b)) hb) ?_
      refine JL.gval rfl rfl (yl_move rfl) rfl ?_
      refine JL.gval rfl rfl (yl_move rfl) rfl ?_
      refine JL.gval rfl rfl (yl_leq rfl rfl) rfl ?_
      refine JL.val (yl_pick_true rfl rfl) rfl ?_
      exact JL.weak [] K ⟨(by rw [hb]; rfl), trivial⟩ (by decide) rfl
    · refine JL.set (d := 10) (v := .bool false) (congrArg (fun b => some (Value.bool b)) hb) ?_
      refine JL.gskip rfl rfl rfl rfl ?_
      refine JL.gskip rfl rfl rfl rfl ?_
      refine JL.gskip rfl rfl rfl rfl ?_
      refine JL.val (yl_pick_false rfl rfl) rfl ?_
      exact JL.weak [] K ⟨(by rw [hb]; rfl), trivial⟩ (by decide) rfl

/- impl.isPlace -/
def sh132 (q0 : SPoint) : Option (Bool) := Option.bind (sh125 q0.X 0 2000) fun x3 => Option.bind (bif x3 then (Option.bind (sh125 q0.Y 0 2000) fun x5 => some x5) else (some false)) fun cb4 => (some cb4)
def T132 (r : Bool) (v : Value) (rs : List Own) : Prop := v = rets [.bool r] ∧ rs = []
set_option maxRecDepth 100000 in
theorem c132 {w : World} {q0 : SPoint} {r : Bool} (hres : sh132 q0 = some r) : Calls Go.Proofs.Try.prog 132 [.agg #[.int .i64 q0.X, .int .i64 q0.Y]].toArray w (Ret w (T132 r)) := by
  unfold sh132 at hres
  refine calls_of (n := 11) (M := []) (es := []) Go.Proofs.Try.func132 rfl rfl rfl (Sep.nil _ _ _) ?_
  refine JX.seq ?_
  refine JX.region ?_
  refine JL.eff (ef_box rfl rfl) rfl ?_
  rintro _ _ ⟨g1, rfl, rfl⟩
  refine JL.val (yl_assign rfl) rfl ?_
  refine JL.nil ?_
  refine JE.code ?_
  refine JX.seq ?_
  refine JX.region ?_
  refine JL.val (yl_fieldAt (a := some _) Go.Proofs.Try.underlying35 rfl i2 i2n rfl rfl) rfl ?_
  refine JL.val (yl_load1 Go.Proofs.Try.underlying2 rfl rfl (fun w hC => rd_box hC 0 rfl) rfl) rfl ?_
  obtain ⟨x3, hx3, hres⟩ := bind_some hres
  refine JL.eff (ef_call (T := T125 x3) Go.Proofs.Try.func125 rfl (by kernel_rfl) rfl (fun w hC => c125  hx3)) rfl ?_
  rintro _ _ ⟨_, ⟨rfl, rfl⟩, rfl⟩
  refine JL.val (yl_move rfl) rfl ?_
  obtain ⟨cb4, hcb4, hres⟩ := bind_some hres
  refine JL.cut (K := fun J => J [(10, .bool cb4)] []) 4 ?_ ?_
  · refine JL.val (yl_assign rfl) rfl ?_
    refine JL.nil ?_
    refine JE.weak (env' := [(2, .bool cb4)]) (es' := []) [] ?_ ⟨rfl, trivial⟩ (by decide) rfl
    refine JE.code ?_
    refine JX.ret ?_
    obtain rfl := Option.some.inj hres
    refine JE.ret (rs := [.tmp 2]) (vs := [.bool cb4]) rfl ⟨rfl, trivial⟩ ?_
    exact fun w' hb hs => ⟨_, _, ⟨rfl, rfl⟩, rfl, hb, hs.sel [] _ (by decide) rfl⟩
  · intro K
    rcases cond_some hcb4 with ⟨hb, hres⟩ | ⟨hb, hres⟩
    · refine JL.set (d := 6) (v := .bool true) (congrArg (fun b => some (Value.bool b)) hb) ?_
      refine JL.gval rfl rfl (yl_fieldAt (a := some _) Go.Proofs.Try.underlying35 rfl i2 i2n rfl rfl) rfl ?_
      refine JL.gval rfl rfl (yl_load1 Go.Proofs.Try.underlying2 rfl rfl (fun w hC => rd_box hC 0 rfl) rfl) rfl ?_
      obtain ⟨x5, hx5, hres⟩ := bind_some hres
      refine JL.geff rfl rfl (ef_call (T := T125 x5) Go.Proofs.Try.func125 rfl (by kernel_rfl) rfl (fun w hC => c125  hx5)) rfl ?_
      rintro _ _ ⟨_, ⟨rfl, rfl⟩, rfl⟩
      refine JL.val (yl_pick_true rfl rfl) rfl ?_
      have he := Option.some.inj hres
      exact JL.weak [] K ⟨(by rw [← he]; rfl), trivial⟩ (by decide) rfl
    · refine JL.set (d := 6) (v := .bool false) (congrArg (fun b => some (Value.bool b)) hb) ?_
      refine JL.gskip rfl rfl rfl rfl ?_
      refine JL.gskip rfl rfl rfl rfl ?_
      refine JL.gskip rfl rfl rfl rfl ?_
      refine JL.val (yl_pick_false rfl rfl) rfl ?_
      have he := Option.some.inj hres
      exact JL.weak [] K ⟨(by rw [← he]; rfl), trivial⟩ (by decide) rfl

/- impl.ValidStroke$1 -/
def sh141 (q0 : SPoint) : Option (Bool) := Option.bind (sh132 q0) fun x3 => some !x3
def T141 (r : Bool) (v : Value) (rs : List Own) : Prop := v = rets [.bool r] ∧ rs = []
set_option maxRecDepth 100000 in
theorem c141 {w : World} {q0 : SPoint} {r : Bool} (hres : sh141 q0 = some r) : Calls Go.Proofs.Try.prog 141 [.agg #[.int .i64 q0.X, .int .i64 q0.Y]].toArray w (Ret w (T141 r)) := by
  unfold sh141 at hres
  refine calls_of (n := 6) (M := []) (es := []) Go.Proofs.Try.func141 rfl rfl rfl (Sep.nil _ _ _) ?_
  refine JX.seq ?_
  refine JX.region ?_
  refine JL.eff (ef_box rfl rfl) rfl ?_
  rintro _ _ ⟨g1, rfl, rfl⟩
  refine JL.val (yl_assign rfl) rfl ?_
  refine JL.nil ?_
  refine JE.code ?_
  refine JX.seq ?_
  refine JX.region ?_
  refine JL.val (yl_loadn Go.Proofs.Try.underlying35 rfl i35 rfl (fun w hC => rd_box hC 0 rfl) rfl (i35s).symm i35p) rfl ?_
  obtain ⟨x3, hx3, hres⟩ := bind_some hres
  refine JL.eff (ef_call (vs := [.agg #[.int .i64 q0.X, .int .i64 q0.Y]]) (T := T132 x3) Go.Proofs.Try.func132 rfl (by kernel_rfl) rfl (fun w hC => c132 (q0 := q0) hx3)) rfl ?_
  rintro _ _ ⟨_, ⟨rfl, rfl⟩, rfl⟩
  refine JL.val (yl_not rfl) rfl ?_
  refine JL.val (yl_assign rfl) rfl ?_
  refine JL.nil ?_
  refine JE.weak (env' := [(2, .bool !x3)]) (es' := []) [] ?_ ⟨rfl, trivial⟩ (by decide) rfl
  refine JE.code ?_
  refine JX.ret ?_
  obtain rfl := Option.some.inj hres
  refine JE.ret (rs := [.tmp 2]) (vs := [.bool !x3]) rfl ⟨rfl, trivial⟩ ?_
  exact fun w' hb hs => ⟨_, _, ⟨rfl, rfl⟩, rfl, hb, hs.sel [] _ (by decide) rfl⟩

/- slices.IndexFunc[[]impl.Point,impl.Point] -/
def sh176f141_1 (q0 : List SPoint) : Int → Option (Int ⊕ (Unit ⊕ Int))
  | x1 => bif decide (x1 < (q0.length : Int)) then (Option.bind (getI q0 x1) fun x2 => Option.bind (sh141 x2) fun x3 => bif x3 then (some (.inr (.inr x1))) else (some (.inl (w64 (x1 + 1))))) else (some (.inr (.inl ())))
def sh176f141 (q0 : List SPoint) : Option (Int) := Option.bind (iter (sh176f141_1 q0) 0) fun y1 => elimS y1 (fun r => some r) fun b1 => (some (-1))
def T176f141 (r : Int) (v : Value) (rs : List Own) : Prop := v = rets [.int .i64 r] ∧ rs = []
set_option maxRecDepth 100000 in
theorem c176f141 {w : World} {q0 : List SPoint} {a_0 : Option Addr} {n_0 c_0 : Nat} (g_0 : Rd w a_0 (eSPoint.fl q0)) (l_0 : q0.length = n_0) (k_0 : n_0 ≤ c_0) {r : Int} (hres : sh176f141 q0 = some r) : Calls Go.Proofs.Try.prog 176 [.slice a_0 n_0 c_0, .func (.func 141) #[] #[]].toArray w (Ret w (T176f141 r)) := by
  subst l_0
  unfold sh176f141 at hres
  refine calls_of (n := 19) (M := []) (es := []) Go.Proofs.Try.func176 rfl rfl rfl (Sep.nil _ _ _) ?_
  refine JX.seq ?_
  refine JX.region ?_
  refine JL.val (yl_assign rfl) rfl ?_
  refine JL.nil ?_
  refine JE.code ?_
  refine JX.seq ?_
  refine JX.seq ?_
  refine JX.region ?_
  refine JL.val (yl_move rfl) rfl ?_
  refine JL.val (yl_len_slice Go.Proofs.Try.underlying61 rfl) rfl ?_
  refine JL.val (yl_move rfl) rfl ?_
  refine JL.nil ?_
  refine JE.code ?_
  refine JX.block ?_
  obtain ⟨y1, hy1, hresO1⟩ := bind_some hres
  refine JX.loop (I := fun (s1 : Int) aa ww => St w [] 19 [(0, .slice a_0 q0.length c_0), (1, .func (.func 141) #[] #[]), (7, .int .i64 (q0.length : Int)), (8, .int .i64 s1)] [] aa ww) (sh176f141_1 q0) hy1 (fun a w h => h.weak ⟨rfl, rfl, rfl, rfl, trivial⟩ [] (by decide) rfl) ?_
  rintro x1 o1 hres hox1 aa ww hS
  refine (?_ : JX Go.Proofs.Try.prog w [] 19 _ _ [(0, .slice a_0 q0.length c_0), (1, .func (.func 141) #[] #[]), (7, .int .i64 (q0.length : Int)), (8, .int .i64 x1)] [] _) aa ww hS
  clear hS
  unfold sh176f141_1 at hres
  refine JX.seq ?_
  refine JX.region ?_
  refine JL.val (yl_lss rfl rfl) rfl ?_
  refine JL.nil ?_
  refine JE.code ?_
  refine JX.seq ?_
  rcases cond_some hres with ⟨hb, hres⟩ | ⟨hb, hres⟩
  · refine JX.condT rfl hb ?_
    refine JX.skip ?_
    refine JE.code ?_
    refine JX.seq ?_
    refine JX.block ?_
    refine JX.seq ?_
    refine JX.region ?_
    refine JL.val (yl_move rfl) rfl ?_
    refine JL.val (yl_assign rfl) rfl ?_
    refine JL.nil ?_
    refine JE.code ?_
    refine JX.seq ?_
    refine JX.region ?_
    refine JL.val (yl_move rfl) rfl ?_
    refine JL.val (yl_move rfl) rfl ?_
    refine JL.val (yl_move rfl) rfl ?_
    obtain ⟨x2, hx2, hres⟩ := bind_some hres
    refine JL.val (yl_idxT Go.Proofs.Try.underlying61 i35 i35s rfl rfl hx2 rfl (fun w hC => rd_arg g_0 hC)) rfl ?_
    refine JL.val (yl_loadTn Go.Proofs.Try.underlying35 rfl i35 i35s rfl hx2 (fun w hC => rd_arg g_0 hC)) rfl ?_
    obtain ⟨x3, hx3, hres⟩ := bind_some hres
    refine JL.eff (ef_callv (vs := [.agg #[.int .i64 x2.X, .int .i64 x2.Y]]) (T := T141 x3) rfl Go.Proofs.Try.func141 rfl (by kernel_rfl) rfl (fun w hC => c141 (q0 := x2) hx3)) rfl ?_
    rintro _ _ ⟨_, ⟨rfl, rfl⟩, rfl⟩
    refine JL.nil ?_
    refine JE.weak (env' := [(0, .slice a_0 q0.length c_0), (1, .func (.func 141) #[] #[]), (5, .int .i64 x1), (7, .int .i64 (q0.length : Int)), (8, .int .i64 x1), (16, .bool x3)]) (es' := []) [] ?_ ⟨rfl, rfl, rfl, rfl, rfl, rfl, trivial⟩ (by decide) rfl
    refine JE.code ?_
    rcases cond_some hres with ⟨hb, hres⟩ | ⟨hb, hres⟩
    · refine JX.condT rfl hb ?_
      refine JX.seq ?_
      refine JX.region ?_
      refine JL.val (yl_move rfl) rfl ?_
      refine JL.val (yl_assign rfl) rfl ?_
      refine JL.nil ?_
      refine JE.code ?_
      refine JX.ret ?_
      refine JE.qbr ?_
      refine JE.qbr ?_
      have hres := elimS_inr hresO1 (hox1 _ (Option.some.inj hres).symm)
      obtain rfl := Option.some.inj hres
      refine JE.ret (rs := [.tmp 4]) (vs := [.int .i64 x1]) rfl ⟨rfl, trivial⟩ ?_
      exact fun w' hb hs => ⟨_, _, ⟨rfl, rfl⟩, rfl, hb, hs.sel [] _ (by decide) rfl⟩
    · refine JX.condF rfl hb ?_
      refine JX.skip ?_
      refine JE.code ?_
      refine JX.region ?_
      refine JL.val (yl_add rfl rfl) rfl ?_
      refine JL.val (yl_move rfl) rfl ?_
      refine JL.nil ?_
      refine JE.cont hres ?_
      exact fun a w h => h.weak ⟨rfl, rfl, rfl, rfl, trivial⟩ [] (by decide) rfl
  · refine JX.condF rfl hb ?_
    refine JX.exit ?_
    refine JE.qb rfl ?_
    obtain ⟨b1, hb1⟩ : ∃ b : Unit, b = () := ⟨_, rfl⟩
    have hy1 : Sum.inl b1 = y1 := by rw [hb1]; exact hox1 _ (Option.some.inj hres).symm
    have hres := elimS_inl hresO1 hy1
    refine JE.weak (env' := []) (es' := []) [] ?_ trivial (by decide) (by subst hb1; rfl)
    refine JE.code ?_
    refine JX.seq ?_
    refine JX.region ?_
    refine JL.val (yl_assign rfl) rfl ?_
    refine JL.nil ?_
    refine JE.code ?_
    refine JX.ret ?_
    obtain rfl := Option.some.inj hres
    refine JE.ret (rs := [.tmp 4]) (vs := [.int .i64 (-1)]) rfl ⟨rfl, trivial⟩ ?_
    exact fun w' hb hs => ⟨_, _, ⟨rfl, rfl⟩, rfl, hb, hs.sel [] _ (by decide) rfl⟩

/- slices.ContainsFunc[[]impl.Point,impl.Point] -/
def sh140f141 (q0 : List SPoint) : Option (Bool) := Option.bind (sh176f141 q0) fun x1 => some (decide (0 ≤ x1))
def T140f141 (r : Bool) (v : Value) (rs : List Own) : Prop := v = rets [.bool r] ∧ rs = []
set_option maxRecDepth 100000 in
theorem c140f141 {w : World} {q0 : List SPoint} {a_0 : Option Addr} {n_0 c_0 : Nat} (g_0 : Rd w a_0 (eSPoint.fl q0)) (l_0 : q0.length = n_0) (k_0 : n_0 ≤ c_0) {r : Bool} (hres : sh140f141 q0 = some r) : Calls Go.Proofs.Try.prog 140 [.slice a_0 n_0 c_0, .func (.func 141) #[] #[]].toArray w (Ret w (T140f141 r)) := by
  subst l_0
  unfold sh140f141 at hres
  refine calls_of (n := 9) (M := []) (es := []) Go.Proofs.Try.func140 rfl rfl rfl (Sep.nil _ _ _) ?_
  refine JX.seq ?_
  refine JX.region ?_
  refine JL.val (yl_assign rfl) rfl ?_
  refine JL.nil ?_
  refine JE.code ?_
  refine JX.seq ?_
  refine JX.region ?_
  refine JL.val (yl_move rfl) rfl ?_
  refine JL.val (yl_move rfl) rfl ?_
  obtain ⟨x1, hx1, hres⟩ := bind_some hres
  refine JL.eff (ef_call (T := T176f141 x1) Go.Proofs.Try.func176 rfl (by kernel_rfl) rfl (fun w hC => c176f141 (rd_arg g_0 hC) rfl k_0 hx1)) rfl ?_
  rintro _ _ ⟨_, ⟨rfl, rfl⟩, rfl⟩
  refine JL.val (yl_geq rfl rfl) rfl ?_
  refine JL.val (yl_assign rfl) rfl ?_
  refine JL.nil ?_
  refine JE.weak (env' := [(4, .bool (decide (0 ≤ x1)))]) (es' := []) [] ?_ ⟨rfl, trivial⟩ (by decide) rfl
  refine JE.code ?_
  refine JX.ret ?_
  obtain rfl := Option.some.inj hres
  refine JE.ret (rs := [.tmp 4]) (vs := [.bool (decide (0 ≤ x1))]) rfl ⟨rfl, trivial⟩ ?_
  exact fun w' hb hs => ⟨_, _, ⟨rfl, rfl⟩, rfl, hb, hs.sel [] _ (by decide) rfl⟩

/- impl.ValidStroke -/
def sh78 (q0 : List SPoint) : Option (Bool) := Option.bind (sh125 (q0.length : Int) 1 60) fun x1 => Option.bind (bif x1 then (Option.bind (sh140f141 q0) fun x3 => some !x3) else (some false)) fun cb2 => (some cb2)
def T78 (r : Bool) (v : Value) (rs : List Own) : Prop := v = rets [.bool r] ∧ rs = []
set_option maxRecDepth 100000 in
theorem c78 {w : World} {q0 : List SPoint} {a_0 : Option Addr} {n_0 c_0 : Nat} (g_0 : Rd w a_0 (eSPoint.fl q0)) (l_0 : q0.length = n_0) (k_0 : n_0 ≤ c_0) {r : Bool} (hres : sh78 q0 = some r) : Calls Go.Proofs.Try.prog 78 [.slice a_0 n_0 c_0].toArray w (Ret w (T78 r)) := by
  subst l_0
  unfold sh78 at hres
  refine calls_of (n := 11) (M := []) (es := []) Go.Proofs.Try.func78 rfl rfl rfl (Sep.nil _ _ _) ?_
  refine JX.seq ?_
  refine JX.region ?_
  refine JL.val (yl_assign rfl) rfl ?_
  refine JL.nil ?_
  refine JE.code ?_
  refine JX.seq ?_
  refine JX.region ?_
  refine JL.val (yl_move rfl) rfl ?_
  refine JL.val (yl_len_slice Go.Proofs.Try.underlying61 rfl) rfl ?_
  obtain ⟨x1, hx1, hres⟩ := bind_some hres
  refine JL.eff (ef_call (T := T125 x1) Go.Proofs.Try.func125 rfl (by kernel_rfl) rfl (fun w hC => c125  hx1)) rfl ?_
  rintro _ _ ⟨_, ⟨rfl, rfl⟩, rfl⟩
  refine JL.val (yl_move rfl) rfl ?_
  obtain ⟨cb2, hcb2, hres⟩ := bind_some hres
  refine JL.cut (K := fun J => J [(10, .bool cb2)] []) 4 ?_ ?_
  · refine JL.val (yl_assign rfl) rfl ?_
    refine JL.nil ?_
    refine JE.weak (env' := [(2, .bool cb2)]) (es' := []) [] ?_ ⟨rfl, trivial⟩ (by decide) rfl
    refine JE.code ?_
    refine JX.ret ?_
    obtain rfl := Option.some.inj hres
    refine JE.ret (rs := [.tmp 2]) (vs := [.bool cb2]) rfl ⟨rfl, trivial⟩ ?_
    exact fun w' hb hs => ⟨_, _, ⟨rfl, rfl⟩, rfl, hb, hs.sel [] _ (by decide) rfl⟩
  · intro K
    rcases cond_some hcb2 with ⟨hb, hres⟩ | ⟨hb, hres⟩
    · refine JL.set (d := 6) (v := .bool true) (congrArg (fun b => some (Value.bool b)) hb) ?_
      refine JL.gval rfl rfl (yl_move rfl) rfl ?_
      obtain ⟨x3, hx3, hres⟩ := bind_some hres
      refine JL.geff rfl rfl (ef_call (T := T140f141 x3) Go.Proofs.Try.func140 rfl (by kernel_rfl) rfl (fun w hC => c140f141 (rd_arg g_0 hC) rfl k_0 hx3)) rfl ?_
      rintro _ _ ⟨_, ⟨rfl, rfl⟩, rfl⟩
      refine JL.gval rfl rfl (yl_not rfl) rfl ?_
      refine JL.val (yl_pick_true rfl rfl) rfl ?_
      have he := Option.some.inj hres
      exact JL.weak [] K ⟨(by rw [← he]; rfl), trivial⟩ (by decide) rfl
    · refine JL.set (d := 6) (v := .bool false) (congrArg (fun b => some (Value.bool b)) hb) ?_
      refine JL.gskip rfl rfl rfl rfl ?_
      refine JL.gskip rfl rfl rfl rfl ?_
      refine JL.gskip rfl rfl rfl rfl ?_
      refine JL.val (yl_pick_false rfl rfl) rfl ?_
      have he := Option.some.inj hres
      exact JL.weak [] K ⟨(by rw [← he]; rfl), trivial⟩ (by decide) rfl

/- impl.boxOf -/
def sh120_1 (q0 : List SPoint) : (Int × SPoint × SPoint) → Option ((Int × SPoint × SPoint) ⊕ (SPoint × SPoint))
  | (x12, x13, x14) => bif decide (x12 < (q0.length : Int)) then (Option.bind (getI q0 x12) fun x15 => some (.inl (w64 (x12 + 1), SPoint.mk (if x15.X < x13.X then x15.X else x13.X) (if x15.Y < x13.Y then x15.Y else x13.Y), SPoint.mk (if x14.X < x15.X then x15.X else x14.X) (if x14.Y < x15.Y then x15.Y else x14.Y)))) else (some (.inr (x13, x14)))
def sh120 (q0 : List SPoint) : Option (SPoint × SPoint) := Option.bind (getI q0 (0 : Int)) fun x6 => Option.bind (getI q0 (0 : Int)) fun x7 => Option.bind (iter (sh120_1 q0) (0, x6, x7)) fun b1 => (some (b1.1, b1.2))
def T120 (r : SPoint × SPoint) (v : Value) (rs : List Own) : Prop := v = rets [.agg #[.int .i64 r.1.X, .int .i64 r.1.Y], .agg #[.int .i64 r.2.X, .int .i64 r.2.Y]] ∧ rs = []
set_option maxRecDepth 100000 in
theorem c120 {w : World} {q0 : List SPoint} {a_0 : Option Addr} {n_0 c_0 : Nat} (g_0 : Rd w a_0 (eSPoint.fl q0)) (l_0 : q0.length = n_0) (k_0 : n_0 ≤ c_0) {r : SPoint × SPoint} (hres : sh120 q0 = some r) : Calls Go.Proofs.Try.prog 120 [.slice a_0 n_0 c_0].toArray w (Ret w (T120 r)) := by
  subst l_0
  unfold sh120 at hres
  refine calls_of (n := 45) (M := []) (es := []) Go.Proofs.Try.func120 rfl rfl rfl (Sep.nil _ _ _) ?_
  refine JX.seq ?_
  refine JX.region ?_
  refine JL.eff (ef_alloc i35 i35z rfl) rfl ?_
  rintro _ _ ⟨g1, rfl, rfl⟩
  refine JL.eff (ef_alloc i35 i35z rfl) rfl ?_
  rintro _ _ ⟨g3, rfl, rfl⟩
  refine JL.nil ?_
  refine JE.code ?_
  refine JX.seq ?_
  refine JX.drawH [(0, .pure), (1, .pure), (2, .read), (3, .pure), (4, .pure), (5, .read), (6, .two 7), (8, .must), (9, .must)] [8, 9] [] [0, 1] [] [boxO 35 g1 [.int .i64 0, .int .i64 0], boxO 35 g3 [.int .i64 0, .int .i64 0]] mixedP (by kernel_rfl) (by kernel_rfl) (by decide) rfl rfl ?_
  intro wrr5 Nr5 hFr5
  refine JH.pure rfl (yl_move rfl) rfl ?_
  obtain ⟨x6, hx6, hres⟩ := bind_some hres
  refine JH.pure rfl (yl_idxQ Go.Proofs.Try.underlying61 i35 i35s rfl rfl hx6 rfl (rd_arg g_0 hFr5.cl) rfl) rfl ?_
  refine JH.read rfl (yl_loadTn Go.Proofs.Try.underlying35 rfl i35 i35s rfl hx6 (fun w hw => hFr5.arg g_0 hw)) rfl ?_
  refine JH.pure rfl (yl_move rfl) rfl ?_
  obtain ⟨x7, hx7, hres⟩ := bind_some hres
  refine JH.pure rfl (yl_idxQ Go.Proofs.Try.underlying61 i35 i35s rfl rfl hx7 rfl (rd_arg g_0 hFr5.cl) rfl) rfl ?_
  refine JH.read rfl (yl_loadTn Go.Proofs.Try.underlying35 rfl i35 i35s rfl hx7 (fun w hw => hFr5.arg g_0 hw)) rfl ?_
  refine JH.cut (K := fun J => ∀ (g8 : Nat) (g10 : Nat), J [(0, .slice a_0 q0.length c_0), (2, ptrAt (some ⟨g1, 0, none⟩) 0), (3, ptrAt (some ⟨g3, 0, none⟩) 0), (4, ptrAt (some ⟨g8, 0, none⟩) 0), (5, ptrAt (some ⟨g10, 0, none⟩) 0), (10, .agg #[.int .i64 x6.X, .int .i64 x6.Y]), (13, .agg #[.int .i64 x7.X, .int .i64 x7.Y])] [boxO 35 g8 [.int .i64 0, .int .i64 0], boxO 35 g10 [.int .i64 0, .int .i64 0]]) 1 ?_ ?_
  · intro g8 g10
    refine JH.must rfl (ef_store_box (i := 0) (v := .agg #[.int .i64 x6.X, .int .i64 x6.Y]) i35 rfl rfl rfl (i35s).symm (Nat.le_of_ble_eq_true rfl) (by simp [Value.cells, Value.oneCell'])) rfl rfl ?_
    rintro _ _ rfl
    refine JH.must rfl (ef_store_box (i := 1) (v := .agg #[.int .i64 x7.X, .int .i64 x7.Y]) i35 rfl rfl rfl (i35s).symm (Nat.le_of_ble_eq_true rfl) (by simp [Value.cells, Value.oneCell'])) rfl rfl ?_
    rintro _ _ rfl
    refine JH.nil ?_
    refine JE.weak (env' := [(0, .slice a_0 q0.length c_0), (2, ptrAt (some ⟨g1, 0, none⟩) 0), (3, ptrAt (some ⟨g3, 0, none⟩) 0), (4, ptrAt (some ⟨g8, 0, none⟩) 0), (5, ptrAt (some ⟨g10, 0, none⟩) 0)]) (es' := [boxO 35 g1 [.int .i64 0, .int .i64 0], boxO 35 g3 [.int .i64 0, .int .i64 0], boxO 35 g8 [.int .i64 x6.X, .int .i64 x6.Y], boxO 35 g10 [.int .i64 x7.X, .int .i64 x7.Y]]) [0, 1, 2, 3] ?_ ⟨rfl, rfl, rfl, rfl, rfl, trivial⟩ (by decide) rfl
    refine JE.code ?_
    refine JX.seq ?_
    refine JX.seq ?_
    refine JX.region ?_
    refine JL.val (yl_move rfl) rfl ?_
    refine JL.val (yl_len_slice Go.Proofs.Try.underlying61 rfl) rfl ?_
    refine JL.val (yl_move rfl) rfl ?_
    refine JL.nil ?_
    refine JE.code ?_
    refine JX.block ?_
    obtain ⟨y1, hy1, hresO1⟩ := bind_some hres
    refine JX.loop (I := fun (s1 : Int × SPoint × SPoint) aa ww => St w [] 45 [(2, ptrAt (some ⟨g1, 0, none⟩) 0), (3, ptrAt (some ⟨g3, 0, none⟩) 0), (4, ptrAt (some ⟨g8, 0, none⟩) 0), (5, ptrAt (some ⟨g10, 0, none⟩) 0), (14, .slice a_0 q0.length c_0), (15, .int .i64 (q0.length : Int)), (16, .int .i64 s1.1)] [boxO 35 g1 [.int .i64 0, .int .i64 0], boxO 35 g3 [.int .i64 0, .int .i64 0], boxO 35 g8 [.int .i64 s1.2.1.X, .int .i64 s1.2.1.Y], boxO 35 g10 [.int .i64 s1.2.2.X, .int .i64 s1.2.2.Y]] aa ww) (sh120_1 q0) hy1 (fun a w h => h.weak ⟨rfl, rfl, rfl, rfl, rfl, rfl, rfl, trivial⟩ [0, 1, 2, 3] (by decide) rfl) ?_
    rintro ⟨x12, x13, x14⟩ o1 hres hox1 aa ww hS
    refine (?_ : JX Go.Proofs.Try.prog w [] 45 _ _ [(2, ptrAt (some ⟨g1, 0, none⟩) 0), (3, ptrAt (some ⟨g3, 0, none⟩) 0), (4, ptrAt (some ⟨g8, 0, none⟩) 0), (5, ptrAt (some ⟨g10, 0, none⟩) 0), (14, .slice a_0 q0.length c_0), (15, .int .i64 (q0.length : Int)), (16, .int .i64 x12)] [boxO 35 g1 [.int .i64 0, .int .i64 0], boxO 35 g3 [.int .i64 0, .int .i64 0], boxO 35 g8 [.int .i64 x13.X, .int .i64 x13.Y], boxO 35 g10 [.int .i64 x14.X, .int .i64 x14.Y]] _) aa ww hS
    clear hS
    simp only [sh120_1] at hres
    refine JX.seq ?_
    refine JX.region ?_
    refine JL.val (yl_lss rfl rfl) rfl ?_
    refine JL.nil ?_
    refine JE.code ?_
    refine JX.seq ?_
    rcases cond_some hres with ⟨hb, hres⟩ | ⟨hb, hres⟩
    · refine JX.condT rfl hb ?_
      refine JX.skip ?_
      refine JE.code ?_
      refine JX.seq ?_
      refine JX.block ?_
      refine JX.seq ?_
      refine JX.region ?_
      obtain ⟨x15, hx15, hres⟩ := bind_some hres
      refine JL.val (yl_idxT Go.Proofs.Try.underlying61 i35 i35s rfl rfl hx15 rfl (fun w hC => rd_arg g_0 hC)) rfl ?_
      refine JL.val (yl_loadTn Go.Proofs.Try.underlying35 rfl i35 i35s rfl hx15 (fun w hC => rd_arg g_0 hC)) rfl ?_
      refine JL.eff (ef_alloc i35 i35z rfl) rfl ?_
      rintro _ _ ⟨g16, rfl, rfl⟩
      refine JL.eff (ef_store_box (i := 4) (v := .agg #[.int .i64 x15.X, .int .i64 x15.Y]) i35 rfl rfl rfl (i35s).symm (Nat.le_of_ble_eq_true rfl) (by simp [Value.cells, Value.oneCell'])) rfl ?_
      rintro _ _ rfl
      refine JL.nil ?_
      refine JE.weak (env' := [(2, ptrAt (some ⟨g1, 0, none⟩) 0), (3, ptrAt (some ⟨g3, 0, none⟩) 0), (4, ptrAt (some ⟨g8, 0, none⟩) 0), (5, ptrAt (some ⟨g10, 0, none⟩) 0), (7, ptrAt (some ⟨g16, 0, none⟩) 0), (14, .slice a_0 q0.length c_0), (15, .int .i64 (q0.length : Int)), (16, .int .i64 x12)]) (es' := [boxO 35 g1 [.int .i64 0, .int .i64 0], boxO 35 g3 [.int .i64 0, .int .i64 0], boxO 35 g8 [.int .i64 x13.X, .int .i64 x13.Y], boxO 35 g10 [.int .i64 x14.X, .int .i64 x14.Y], boxO 35 g16 [.int .i64 x15.X, .int .i64 x15.Y]]) [0, 1, 2, 3, 4] ?_ ⟨rfl, rfl, rfl, rfl, rfl, rfl, rfl, rfl, trivial⟩ (by decide) rfl
      refine JE.code ?_
      refine JX.seq ?_
      refine JX.region ?_
      refine JL.val (yl_fieldAt (a := some _) Go.Proofs.Try.underlying35 rfl i2 i2n rfl rfl) rfl ?_
      refine JL.val (yl_load1 Go.Proofs.Try.underlying2 rfl rfl (fun w hC => rd_box hC 2 rfl) rfl) rfl ?_
      refine JL.val (yl_fieldAt (a := some _) Go.Proofs.Try.underlying35 rfl i2 i2n rfl rfl) rfl ?_
      refine JL.val (yl_load1 Go.Proofs.Try.underlying2 rfl rfl (fun w hC => rd_box hC 4 rfl) rfl) rfl ?_
      refine JL.val (yl_min rfl rfl) rfl ?_
      refine JL.val (yl_fieldAt (a := some _) Go.Proofs.Try.underlying35 rfl i2 i2n rfl rfl) rfl ?_
      refine JL.val (yl_load1 Go.Proofs.Try.underlying2 rfl rfl (fun w hC => rd_box hC 2 rfl) rfl) rfl ?_
      refine JL.val (yl_fieldAt (a := some _) Go.Proofs.Try.underlying35 rfl i2 i2n rfl rfl) rfl ?_
      refine JL.val (yl_load1 Go.Proofs.Try.underlying2 rfl rfl (fun w hC => rd_box hC 4 rfl) rfl) rfl ?_
      refine JL.val (yl_min rfl rfl) rfl ?_
      refine JL.val (yl_build rfl (fun w => bld35_0_1 (if x15.X < x13.X then x15.X else x13.X) (if x15.Y < x13.Y then x15.Y else x13.Y) w)) rfl ?_
      refine JL.eff (ef_store_box (i := 2) (v := .agg #[.int .i64 (if x15.X < x13.X then x15.X else x13.X), .int .i64 (if x15.Y < x13.Y then x15.Y else x13.Y)]) i35 rfl rfl rfl (i35s).symm (Nat.le_of_ble_eq_true rfl) (by simp [Value.cells, Value.oneCell'])) rfl ?_
      rintro _ _ rfl
      refine JL.nil ?_
      refine JE.weak (env' := [(2, ptrAt (some ⟨g1, 0, none⟩) 0), (3, ptrAt (some ⟨g3, 0, none⟩) 0), (4, ptrAt (some ⟨g8, 0, none⟩) 0), (5, ptrAt (some ⟨g10, 0, none⟩) 0), (7, ptrAt (some ⟨g16, 0, none⟩) 0), (14, .slice a_0 q0.length c_0), (15, .int .i64 (q0.length : Int)), (16, .int .i64 x12)]) (es' := [boxO 35 g1 [.int .i64 0, .int .i64 0], boxO 35 g3 [.int .i64 0, .int .i64 0], boxO 35 g8 [.int .i64 (if x15.X < x13.X then x15.X else x13.X), .int .i64 (if x15.Y < x13.Y then x15.Y else x13.Y)], boxO 35 g10 [.int .i64 x14.X, .int .i64 x14.Y], boxO 35 g16 [.int .i64 x15.X, .int .i64 x15.Y]]) [0, 1, 2, 3, 4] ?_ ⟨rfl, rfl, rfl, rfl, rfl, rfl, rfl, rfl, trivial⟩ (by decide) rfl
      refine JE.code ?_
      refine JX.region ?_
      refine JL.val (yl_fieldAt (a := some _) Go.Proofs.Try.underlying35 rfl i2 i2n rfl rfl) rfl ?_
      refine JL.val (yl_load1 Go.Proofs.Try.underlying2 rfl rfl (fun w hC => rd_box hC 3 rfl) rfl) rfl ?_
      refine JL.val (yl_fieldAt (a := some _) Go.Proofs.Try.underlying35 rfl i2 i2n rfl rfl) rfl ?_
      refine JL.val (yl_load1 Go.Proofs.Try.underlying2 rfl rfl (fun w hC => rd_box hC 4 rfl) rfl) rfl ?_
      refine JL.val (yl_max rfl rfl) rfl ?_
      refine JL.val (yl_fieldAt (a := some _) Go.Proofs.Try.underlying35 rfl i2 i2n rfl rfl) rfl ?_
      refine JL.val (yl_load1 Go.Proofs.Try.underlying2 rfl rfl (fun w hC => rd_box hC 3 rfl) rfl) rfl ?_
      refine JL.val (yl_fieldAt (a := some _) Go.Proofs.Try.underlying35 rfl i2 i2n rfl rfl) rfl ?_
      refine JL.val (yl_load1 Go.Proofs.Try.underlying2 rfl rfl (fun w hC => rd_box hC 4 rfl) rfl) rfl ?_
      refine JL.val (yl_max rfl rfl) rfl ?_
      refine JL.val (yl_build rfl (fun w => bld35_0_1 (if x14.X < x15.X then x15.X else x14.X) (if x14.Y < x15.Y then x15.Y else x14.Y) w)) rfl ?_
      refine JL.eff (ef_store_box (i := 3) (v := .agg #[.int .i64 (if x14.X < x15.X then x15.X else x14.X), .int .i64 (if x14.Y < x15.Y then x15.Y else x14.Y)]) i35 rfl rfl rfl (i35s).symm (Nat.le_of_ble_eq_true rfl) (by simp [Value.cells, Value.oneCell'])) rfl ?_
      rintro _ _ rfl
      refine JL.nil ?_
      refine JE.weak (env' := [(2, ptrAt (some ⟨g1, 0, none⟩) 0), (3, ptrAt (some ⟨g3, 0, none⟩) 0), (4, ptrAt (some ⟨g8, 0, none⟩) 0), (5, ptrAt (some ⟨g10, 0, none⟩) 0), (14, .slice a_0 q0.length c_0), (15, .int .i64 (q0.length : Int)), (16, .int .i64 x12)]) (es' := [boxO 35 g1 [.int .i64 0, .int .i64 0], boxO 35 g3 [.int .i64 0, .int .i64 0], boxO 35 g8 [.int .i64 (if x15.X < x13.X then x15.X else x13.X), .int .i64 (if x15.Y < x13.Y then x15.Y else x13.Y)], boxO 35 g10 [.int .i64 (if x14.X < x15.X then x15.X else x14.X), .int .i64 (if x14.Y < x15.Y then x15.Y else x14.Y)]]) [0, 1, 2, 3] ?_ ⟨rfl, rfl, rfl, rfl, rfl, rfl, rfl, trivial⟩ (by decide) rfl
      refine JE.code ?_
      refine JX.region ?_
      refine JL.val (yl_add rfl rfl) rfl ?_
      refine JL.val (yl_move rfl) rfl ?_
      refine JL.nil ?_
      refine JE.cont hres ?_
      exact fun a w h => h.weak ⟨rfl, rfl, rfl, rfl, rfl, rfl, rfl, trivial⟩ [0, 1, 2, 3] (by decide) rfl
    · refine JX.condF rfl hb ?_
      refine JX.exit ?_
      refine JE.qb rfl ?_
      obtain ⟨b1, hb1⟩ : ∃ b : SPoint × SPoint, b = (x13, x14) := ⟨_, rfl⟩
      have hy1 : b1 = y1 := by rw [hb1]; exact hox1 _ (Option.some.inj hres).symm
      have hres := hresO1
      rw [← hy1] at hres
      refine JE.weak (env' := [(2, ptrAt (some ⟨g1, 0, none⟩) 0), (3, ptrAt (some ⟨g3, 0, none⟩) 0), (4, ptrAt (some ⟨g8, 0, none⟩) 0), (5, ptrAt (some ⟨g10, 0, none⟩) 0)]) (es' := [boxO 35 g1 [.int .i64 0, .int .i64 0], boxO 35 g3 [.int .i64 0, .int .i64 0], boxO 35 g8 [.int .i64 b1.1.X, .int .i64 b1.1.Y], boxO 35 g10 [.int .i64 b1.2.X, .int .i64 b1.2.Y]]) [0, 1, 2, 3] ?_ ⟨(by subst hb1; rfl), (by subst hb1; rfl), (by subst hb1; rfl), (by subst hb1; rfl), trivial⟩ (by decide) (by subst hb1; rfl)
      refine JE.code ?_
      refine JX.seq ?_
      refine JX.drawH [(0, .read), (1, .read), (2, .must), (3, .must)] [2, 3] [0, 1] [2, 3] [boxO 35 g1 [.int .i64 0, .int .i64 0], boxO 35 g3 [.int .i64 0, .int .i64 0]] [boxO 35 g8 [.int .i64 b1.1.X, .int .i64 b1.1.Y], boxO 35 g10 [.int .i64 b1.2.X, .int .i64 b1.2.Y]] mixedP (by kernel_rfl) (by kernel_rfl) (by decide) rfl rfl ?_
      intro wrr18 Nr18 hFr18
      refine JH.read rfl (yl_loadn Go.Proofs.Try.underlying35 rfl i35 rfl (fun w hw => hFr18.box 2 rfl rfl hw) rfl (i35s).symm i35p) rfl ?_
      refine JH.read rfl (yl_loadn Go.Proofs.Try.underlying35 rfl i35 rfl (fun w hw => hFr18.box 3 rfl rfl hw) rfl (i35s).symm i35p) rfl ?_
      refine JH.must rfl (ef_store_box (i := 0) (v := .agg #[.int .i64 b1.1.X, .int .i64 b1.1.Y]) i35 rfl rfl rfl (i35s).symm (Nat.le_of_ble_eq_true rfl) (by simp [Value.cells, Value.oneCell'])) rfl rfl ?_
      rintro _ _ rfl
      refine JH.must rfl (ef_store_box (i := 1) (v := .agg #[.int .i64 b1.2.X, .int .i64 b1.2.Y]) i35 rfl rfl rfl (i35s).symm (Nat.le_of_ble_eq_true rfl) (by simp [Value.cells, Value.oneCell'])) rfl rfl ?_
      rintro _ _ rfl
      refine JH.nil ?_
      refine JE.weak (env' := [(2, ptrAt (some ⟨g1, 0, none⟩) 0), (3, ptrAt (some ⟨g3, 0, none⟩) 0)]) (es' := [boxO 35 g1 [.int .i64 b1.1.X, .int .i64 b1.1.Y], boxO 35 g3 [.int .i64 b1.2.X, .int .i64 b1.2.Y]]) [2, 3] ?_ ⟨rfl, rfl, trivial⟩ (by decide) rfl
      refine JE.code ?_
      refine JX.ret ?_
      obtain rfl := Option.some.inj hres
      refine JE.ret (rs := [.cell 2 35, .cell 3 35]) (vs := [.agg #[.int .i64 b1.1.X, .int .i64 b1.1.Y], .agg #[.int .i64 b1.2.X, .int .i64 b1.2.Y]]) rfl ⟨rv_box 0 rfl rfl Go.Proofs.Try.underlying35 rfl i35 (i35s).symm, rv_box 1 rfl rfl Go.Proofs.Try.underlying35 rfl i35 (i35s).symm, trivial⟩ ?_
      exact fun w' hb hs => ⟨_, _, ⟨rfl, rfl⟩, rfl, hb, hs.sel [] _ (by decide) rfl⟩
  · intro K
    refine JH.two ?_ ?_
    · refine JH.must rfl (ef_alloc i35 i35z rfl) rfl rfl ?_
      rintro _ _ ⟨g8, rfl, rfl⟩
      refine JH.must rfl (ef_alloc i35 i35z rfl) rfl rfl ?_
      rintro _ _ ⟨g10, rfl, rfl⟩
      exact JH.weak [0, 1] (K g8 g10) ⟨rfl, rfl, rfl, rfl, rfl, rfl, rfl, trivial⟩ (by decide) rfl
    · refine JH.must rfl (ef_alloc i35 i35z rfl) rfl rfl ?_
      rintro _ _ ⟨g10, rfl, rfl⟩
      refine JH.must rfl (ef_alloc i35 i35z rfl) rfl rfl ?_
      rintro _ _ ⟨g8, rfl, rfl⟩
      exact JH.weak [1, 0] (K g8 g10) ⟨rfl, rfl, rfl, rfl, rfl, rfl, rfl, trivial⟩ (by decide) rfl

/- impl.StrokeBox -/
def sh62 (q0 : List SPoint) : Option (SPoint × SPoint × Int) := Option.bind (sh78 q0) fun x5 => bif !x5 then (some (SPoint.mk 0 0, SPoint.mk 0 0, 1)) else (Option.bind (sh120 q0) fun x6 => some (x6.1, x6.2, 0))
def T62 (r : SPoint × SPoint × Int) (v : Value) (rs : List Own) : Prop := v = rets [.agg #[.int .i64 r.1.X, .int .i64 r.1.Y], .agg #[.int .i64 r.2.1.X, .int .i64 r.2.1.Y], .int .i64 r.2.2] ∧ rs = []
set_option maxRecDepth 100000 in
theorem c62 {w : World} {q0 : List SPoint} {a_0 : Option Addr} {n_0 c_0 : Nat} (g_0 : Rd w a_0 (eSPoint.fl q0)) (l_0 : q0.length = n_0) (k_0 : n_0 ≤ c_0) {r : SPoint × SPoint × Int} (hres : sh62 q0 = some r) : Calls Go.Proofs.Try.prog 62 [.slice a_0 n_0 c_0].toArray w (Ret w (T62 r)) := by
  subst l_0
  unfold sh62 at hres
  refine calls_of (n := 19) (M := []) (es := []) Go.Proofs.Try.func62 rfl rfl rfl (Sep.nil _ _ _) ?_
  refine JX.seq ?_
  refine JX.region ?_
  refine JL.eff (ef_alloc i35 i35z rfl) rfl ?_
  rintro _ _ ⟨g1, rfl, rfl⟩
  refine JL.eff (ef_alloc i35 i35z rfl) rfl ?_
  rintro _ _ ⟨g3, rfl, rfl⟩
  refine JL.val (yl_assign rfl) rfl ?_
  refine JL.nil ?_
  refine JE.code ?_
  refine JX.seq ?_
  refine JX.seq ?_
  refine JX.region ?_
  refine JL.val (yl_move rfl) rfl ?_
  obtain ⟨x5, hx5, hres⟩ := bind_some hres
  refine JL.eff (ef_call (T := T78 x5) Go.Proofs.Try.func78 rfl (by kernel_rfl) rfl (fun w hC => c78 (rd_arg g_0 hC) rfl k_0 hx5)) rfl ?_
  rintro _ _ ⟨_, ⟨rfl, rfl⟩, rfl⟩
  refine JL.val (yl_not rfl) rfl ?_
  refine JL.nil ?_
  refine JE.code ?_
  rcases cond_some hres with ⟨hb, hres⟩ | ⟨hb, hres⟩
  · refine JX.condT rfl hb ?_
    refine JX.seq ?_
    refine JX.region ?_
    refine JL.val (yl_build rfl (fun w => bld35_  w)) rfl ?_
    refine JL.val (yl_build rfl (fun w => bld35_  w)) rfl ?_
    refine JL.eff (ef_store_box (i := 0) (v := .agg #[.int .i64 0, .int .i64 0]) i35 rfl rfl rfl (i35s).symm (Nat.le_of_ble_eq_true rfl) (by simp [Value.cells, Value.oneCell'])) rfl ?_
    rintro _ _ rfl
    refine JL.eff (ef_store_box (i := 1) (v := .agg #[.int .i64 0, .int .i64 0]) i35 rfl rfl rfl (i35s).symm (Nat.le_of_ble_eq_true rfl) (by simp [Value.cells, Value.oneCell'])) rfl ?_
    rintro _ _ rfl
    refine JL.val (yl_assign rfl) rfl ?_
    refine JL.nil ?_
    refine JE.weak (env' := [(2, ptrAt (some ⟨g1, 0, none⟩) 0), (3, ptrAt (some ⟨g3, 0, none⟩) 0), (4, .int .i64 1)]) (es' := [boxO 35 g1 [.int .i64 0, .int .i64 0], boxO 35 g3 [.int .i64 0, .int .i64 0]]) [0, 1] ?_ ⟨rfl, rfl, rfl, trivial⟩ (by decide) rfl
    refine JE.code ?_
    refine JX.ret ?_
    obtain rfl := Option.some.inj hres
    refine JE.ret (rs := [.cell 2 35, .cell 3 35, .tmp 4]) (vs := [.agg #[.int .i64 0, .int .i64 0], .agg #[.int .i64 0, .int .i64 0], .int .i64 1]) rfl ⟨rv_box 0 rfl rfl Go.Proofs.Try.underlying35 rfl i35 (i35s).symm, rv_box 1 rfl rfl Go.Proofs.Try.underlying35 rfl i35 (i35s).symm, rfl, trivial⟩ ?_
    exact fun w' hb hs => ⟨_, _, ⟨rfl, rfl⟩, rfl, hb, hs.sel [] _ (by decide) rfl⟩
  · refine JX.condF rfl hb ?_
    refine JX.skip ?_
    refine JE.code ?_
    refine JX.seq ?_
    refine JX.region ?_
    refine JL.val (yl_move rfl) rfl ?_
    obtain ⟨x6, hx6, hres⟩ := bind_some hres
    refine JL.eff (ef_call (T := T120 x6) Go.Proofs.Try.func120 rfl (by kernel_rfl) rfl (fun w hC => c120 (rd_arg g_0 hC) rfl k_0 hx6)) rfl ?_
    rintro _ _ ⟨_, ⟨rfl, rfl⟩, rfl⟩
    refine JL.val (yl_move rfl) rfl ?_
    refine JL.val (yl_extract rfl rfl) rfl ?_
    refine JL.val (yl_extract rfl rfl) rfl ?_
    refine JL.eff (ef_alloc i35 i35z rfl) rfl ?_
    rintro _ _ ⟨g7, rfl, rfl⟩
    refine JL.eff (ef_alloc i35 i35z rfl) rfl ?_
    rintro _ _ ⟨g9, rfl, rfl⟩
    refine JL.eff (ef_store_box (i := 2) (v := .agg #[.int .i64 x6.1.X, .int .i64 x6.1.Y]) i35 rfl rfl rfl (i35s).symm (Nat.le_of_ble_eq_true rfl) (by simp [Value.cells, Value.oneCell'])) rfl ?_
    rintro _ _ rfl
    refine JL.eff (ef_store_box (i := 3) (v := .agg #[.int .i64 x6.2.X, .int .i64 x6.2.Y]) i35 rfl rfl rfl (i35s).symm (Nat.le_of_ble_eq_true rfl) (by simp [Value.cells, Value.oneCell'])) rfl ?_
    rintro _ _ rfl
    refine JL.nil ?_
    refine JE.weak (env' := [(2, ptrAt (some ⟨g1, 0, none⟩) 0), (3, ptrAt (some ⟨g3, 0, none⟩) 0), (5, ptrAt (some ⟨g7, 0, none⟩) 0), (6, ptrAt (some ⟨g9, 0, none⟩) 0)]) (es' := [boxO 35 g1 [.int .i64 0, .int .i64 0], boxO 35 g3 [.int .i64 0, .int .i64 0], boxO 35 g7 [.int .i64 x6.1.X, .int .i64 x6.1.Y], boxO 35 g9 [.int .i64 x6.2.X, .int .i64 x6.2.Y]]) [0, 1, 2, 3] ?_ ⟨rfl, rfl, rfl, rfl, trivial⟩ (by decide) rfl
    refine JE.code ?_
    refine JX.seq ?_
    refine JX.drawH [(0, .read), (1, .read), (2, .must), (3, .must), (4, .pure)] [2, 3] [0, 1] [2, 3] [boxO 35 g1 [.int .i64 0, .int .i64 0], boxO 35 g3 [.int .i64 0, .int .i64 0]] [boxO 35 g7 [.int .i64 x6.1.X, .int .i64 x6.1.Y], boxO 35 g9 [.int .i64 x6.2.X, .int .i64 x6.2.Y]] mixedP (by kernel_rfl) (by kernel_rfl) (by decide) rfl rfl ?_
    intro wrr11 Nr11 hFr11
    refine JH.read rfl (yl_loadn Go.Proofs.Try.underlying35 rfl i35 rfl (fun w hw => hFr11.box 2 rfl rfl hw) rfl (i35s).symm i35p) rfl ?_
    refine JH.read rfl (yl_loadn Go.Proofs.Try.underlying35 rfl i35 rfl (fun w hw => hFr11.box 3 rfl rfl hw) rfl (i35s).symm i35p) rfl ?_
    refine JH.must rfl (ef_store_box (i := 0) (v := .agg #[.int .i64 x6.1.X, .int .i64 x6.1.Y]) i35 rfl rfl rfl (i35s).symm (Nat.le_of_ble_eq_true rfl) (by simp [Value.cells, Value.oneCell'])) rfl rfl ?_
    rintro _ _ rfl
    refine JH.must rfl (ef_store_box (i := 1) (v := .agg #[.int .i64 x6.2.X, .int .i64 x6.2.Y]) i35 rfl rfl rfl (i35s).symm (Nat.le_of_ble_eq_true rfl) (by simp [Value.cells, Value.oneCell'])) rfl rfl ?_
    rintro _ _ rfl
    refine JH.pure rfl (yl_assign rfl) rfl ?_
    refine JH.nil ?_
    refine JE.weak (env' := [(2, ptrAt (some ⟨g1, 0, none⟩) 0), (3, ptrAt (some ⟨g3, 0, none⟩) 0), (4, .int .i64 0)]) (es' := [boxO 35 g1 [.int .i64 x6.1.X, .int .i64 x6.1.Y], boxO 35 g3 [.int .i64 x6.2.X, .int .i64 x6.2.Y]]) [2, 3] ?_ ⟨rfl, rfl, rfl, trivial⟩ (by decide) rfl
    refine JE.code ?_
    refine JX.ret ?_
    obtain rfl := Option.some.inj hres
    refine JE.ret (rs := [.cell 2 35, .cell 3 35, .tmp 4]) (vs := [.agg #[.int .i64 x6.1.X, .int .i64 x6.1.Y], .agg #[.int .i64 x6.2.X, .int .i64 x6.2.Y], .int .i64 0]) rfl ⟨rv_box 0 rfl rfl Go.Proofs.Try.underlying35 rfl i35 (i35s).symm, rv_box 1 rfl rfl Go.Proofs.Try.underlying35 rfl i35 (i35s).symm, rfl, trivial⟩ ?_
    exact fun w' hb hs => ⟨_, _, ⟨rfl, rfl⟩, rfl, hb, hs.sel [] _ (by decide) rfl⟩

/- spec.l00In -/
def sh127 (q0 : Int) (q1 : Int) (q2 : Int) : Option (Bool) := some ((decide (q1 ≤ q0)) && (decide (q0 ≤ q2)))
def T127 (r : Bool) (v : Value) (rs : List Own) : Prop := v = rets [.bool r] ∧ rs = []
set_option maxRecDepth 100000 in
theorem c127 {w : World} {q0 : Int} {q1 : Int} {q2 : Int} {r : Bool} (hres : sh127 q0 q1 q2 = some r) : Calls Go.Proofs.Try.prog 127 [.int .i64 q0, .int .i64 q1, .int .i64 q2].toArray w (Ret w (T127 r)) := by
  unfold sh127 at hres
  refine calls_of (n := 15) (M := []) (es := []) Go.Proofs.Try.func127 rfl rfl rfl (Sep.nil _ _ _) ?_
  refine JX.seq ?_
  refine JX.region ?_
  refine JL.val (yl_assign rfl) rfl ?_
  refine JL.nil ?_
  refine JE.code ?_
  refine JX.seq ?_
  refine JX.region ?_
  refine JL.val (yl_move rfl) rfl ?_
  refine JL.val (yl_move rfl) rfl ?_
  refine JL.val (yl_geq rfl rfl) rfl ?_
  refine JL.val (yl_move rfl) rfl ?_
  refine JL.cut (K := fun J => J [(14, .bool ((decide (q1 ≤ q0)) && (decide (q0 ≤ q2))))] []) 4 ?_ ?_
  · refine JL.val (yl_assign rfl) rfl ?_
    refine JL.nil ?_
    refine JE.weak (env' := [(6, .bool ((decide (q1 ≤ q0)) && (decide (q0 ≤ q2))))]) (es' := []) [] ?_ ⟨rfl, trivial⟩ (by decide) rfl
    refine JE.code ?_
    refine JX.ret ?_
    obtain rfl := Option.some.inj hres
    refine JE.ret (rs := [.tmp 6]) (vs := [.bool ((decide (q1 ≤ q0)) && (decide (q0 ≤ q2)))]) rfl ⟨rfl, trivial⟩ ?_
    exact fun w' hb hs => ⟨_, _, ⟨rfl, rfl⟩, rfl, hb, hs.sel [] _ (by decide) rfl⟩
  · intro K
    rcases Bool.eq_false_or_eq_true (decide (q1 ≤ q0)) with hb | hb
    · refine JL.set (d := 10) (v := .bool true) (congrArg (fun b => some (Value.bool b)) hb) ?_
      refine JL.gval rfl rfl (yl_move rfl) rfl ?_
      refine JL.gval rfl rfl (yl_move rfl) rfl ?_
      refine JL.gval rfl rfl (yl_leq rfl rfl) rfl ?_
      refine JL.val (yl_pick_true rfl rfl) rfl ?_
      exact JL.weak [] K ⟨(by rw [hb]; rfl), trivial⟩ (by decide) rfl
    · refine JL.set (d := 10) (v := .bool false) (congrArg (fun b => some (Value.bool b)) hb) ?_
      refine JL.gskip rfl rfl rfl rfl ?_
      refine JL.gskip rfl rfl rfl rfl ?_
      refine JL.gskip rfl rfl rfl rfl ?_
      refine JL.val (yl_pick_false rfl rfl) rfl ?_
      exact JL.weak [] K ⟨(by rw [hb]; rfl), trivial⟩ (by decide) rfl

/- spec.l19Ok -/
def sh121_1 (q0 : List SPoint) : Int → Option (Int ⊕ (Unit ⊕ Bool))
  | x1 => bif decide (x1 < (q0.length : Int)) then (Option.bind (getI q0 x1) fun x2 => Option.bind (sh127 x2.X 0 2000) fun x3 => Option.bind (bif !x3 then (some true) else (Option.bind (getI q0 x1) fun x5 => Option.bind (sh127 x5.Y 0 2000) fun x6 => some !x6)) fun cb4 => (bif cb4 then (some (.inr (.inr false))) else (some (.inl (w64 (x1 + 1)))))) else (some (.inr (.inl ())))
def sh121 (q0 : List SPoint) : Option (Bool) := Option.bind (iter (sh121_1 q0) 0) fun y1 => elimS y1 (fun r => some r) fun b1 => (Option.bind (sh127 (q0.length : Int) 1 60) fun x7 => some x7)
def T121 (r : Bool) (v : Value) (rs : List Own) : Prop := v = rets [.bool r] ∧ rs = []
set_option maxRecDepth 100000 in
theorem c121 {w : World} {q0 : List SPoint} {a_0 : Option Addr} {n_0 c_0 : Nat} (g_0 : Rd w a_0 (eSPoint.fl q0)) (l_0 : q0.length = n_0) (k_0 : n_0 ≤ c_0) {r : Bool} (hres : sh121 q0 = some r) : Calls Go.Proofs.Try.prog 121 [.slice a_0 n_0 c_0].toArray w (Ret w (T121 r)) := by
  subst l_0
  unfold sh121 at hres
  refine calls_of (n := 29) (M := []) (es := []) Go.Proofs.Try.func121 rfl rfl rfl (Sep.nil _ _ _) ?_
  refine JX.seq ?_
  refine JX.region ?_
  refine JL.val (yl_assign rfl) rfl ?_
  refine JL.nil ?_
  refine JE.code ?_
  refine JX.seq ?_
  refine JX.seq ?_
  refine JX.region ?_
  refine JL.val (yl_assign rfl) rfl ?_
  refine JL.nil ?_
  refine JE.code ?_
  refine JX.block ?_
  obtain ⟨y1, hy1, hresO1⟩ := bind_some hres
  refine JX.loop (I := fun (s1 : Int) aa ww => St w [] 29 [(0, .slice a_0 q0.length c_0), (3, .int .i64 s1)] [] aa ww) (sh121_1 q0) hy1 (fun a w h => h.weak ⟨rfl, rfl, trivial⟩ [] (by decide) rfl) ?_
  rintro x1 o1 hres hox1 aa ww hS
  refine (?_ : JX Go.Proofs.Try.prog w [] 29 _ _ [(0, .slice a_0 q0.length c_0), (3, .int .i64 x1)] [] _) aa ww hS
  clear hS
  unfold sh121_1 at hres
  refine JX.seq ?_
  refine JX.seq ?_
  refine JX.region ?_
  refine JL.val (yl_move rfl) rfl ?_
  refine JL.val (yl_move rfl) rfl ?_
  refine JL.val (yl_len_slice Go.Proofs.Try.underlying61 rfl) rfl ?_
  refine JL.val (yl_lss rfl rfl) rfl ?_
  refine JL.nil ?_
  refine JE.weak (env' := [(0, .slice a_0 q0.length c_0), (3, .int .i64 x1), (7, .bool (decide (x1 < (q0.length : Int))))]) (es' := []) [] ?_ ⟨rfl, rfl, rfl, trivial⟩ (by decide) rfl
  refine JE.code ?_
  rcases cond_some hres with ⟨hb, hres⟩ | ⟨hb, hres⟩
  · refine JX.condT rfl hb ?_
    refine JX.skip ?_
    refine JE.code ?_
    refine JX.seq ?_
    refine JX.block ?_
    refine JX.seq ?_
    refine JX.region ?_
    refine JL.val (yl_move rfl) rfl ?_
    refine JL.val (yl_move rfl) rfl ?_
    obtain ⟨x2, hx2, hres⟩ := bind_some hres
    refine JL.val (yl_idxT Go.Proofs.Try.underlying61 i35 i35s rfl rfl hx2 rfl (fun w hC => rd_arg g_0 hC)) rfl ?_
    refine JL.val (yl_fieldAtT Go.Proofs.Try.underlying35 rfl i2 i2n rfl hx2 (fun w hC => rd_arg g_0 hC)) rfl ?_
    refine JL.val (yl_loadT1 Go.Proofs.Try.underlying2 rfl rfl hx2 (fun w hC => rd_arg g_0 hC) rfl) rfl ?_
    obtain ⟨x3, hx3, hres⟩ := bind_some hres
    refine JL.eff (ef_call (T := T127 x3) Go.Proofs.Try.func127 rfl (by kernel_rfl) rfl (fun w hC => c127  hx3)) rfl ?_
    rintro _ _ ⟨_, ⟨rfl, rfl⟩, rfl⟩
    refine JL.val (yl_not rfl) rfl ?_
    refine JL.val (yl_move rfl) rfl ?_
    obtain ⟨cb4, hcb4, hres⟩ := bind_some hres
    refine JL.cut (K := fun J => J [(0, .slice a_0 q0.length c_0), (3, .int .i64 x1), (25, .bool cb4)] []) 8 ?_ ?_
    · refine JL.nil ?_
      refine JE.weak (env' := [(0, .slice a_0 q0.length c_0), (3, .int .i64 x1), (25, .bool cb4)]) (es' := []) [] ?_ ⟨rfl, rfl, rfl, trivial⟩ (by decide) rfl
      refine JE.code ?_
      rcases cond_some hres with ⟨hb, hres⟩ | ⟨hb, hres⟩
      · refine JX.condT rfl hb ?_
        refine JX.seq ?_
        refine JX.region ?_
        refine JL.val (yl_assign rfl) rfl ?_
        refine JL.nil ?_
        refine JE.code ?_
        refine JX.ret ?_
        refine JE.qbr ?_
        refine JE.qbr ?_
        have hres := elimS_inr hresO1 (hox1 _ (Option.some.inj hres).symm)
        obtain rfl := Option.some.inj hres
        refine JE.ret (rs := [.tmp 2]) (vs := [.bool false]) rfl ⟨rfl, trivial⟩ ?_
        exact fun w' hb hs => ⟨_, _, ⟨rfl, rfl⟩, rfl, hb, hs.sel [] _ (by decide) rfl⟩
      · refine JX.condF rfl hb ?_
        refine JX.skip ?_
        refine JE.code ?_
        refine JX.region ?_
        refine JL.val (yl_move rfl) rfl ?_
        refine JL.val (yl_add rfl rfl) rfl ?_
        refine JL.val (yl_assign rfl) rfl ?_
        refine JL.nil ?_
        refine JE.cont hres ?_
        exact fun a w h => h.weak ⟨rfl, rfl, trivial⟩ [] (by decide) rfl
    · intro K
      rcases cond_some hcb4 with ⟨hb, hres⟩ | ⟨hb, hres⟩
      · refine JL.set (d := 17) (v := .bool true) (congrArg (fun b => some (Value.bool b)) hb) ?_
        refine JL.gskip rfl rfl rfl rfl ?_
        refine JL.gskip rfl rfl rfl rfl ?_
        refine JL.gskip rfl rfl rfl rfl ?_
        refine JL.gskip rfl rfl rfl rfl ?_
        refine JL.gskip rfl rfl rfl rfl ?_
        refine JL.gskip rfl rfl rfl rfl ?_
        refine JL.gskip rfl rfl rfl rfl ?_
        refine JL.val (yl_pick_true rfl rfl) rfl ?_
        have he := Option.some.inj hres
        exact JL.weak [] K ⟨rfl, rfl, (by rw [← he]; rfl), trivial⟩ (by decide) rfl
      · refine JL.set (d := 17) (v := .bool false) (congrArg (fun b => some (Value.bool b)) hb) ?_
        refine JL.gval rfl rfl (yl_move rfl) rfl ?_
        refine JL.gval rfl rfl (yl_move rfl) rfl ?_
        obtain ⟨x5, hx5, hres⟩ := bind_some hres
        refine JL.gval rfl rfl (yl_idxT Go.Proofs.Try.underlying61 i35 i35s rfl rfl hx5 rfl (fun w hC => rd_arg g_0 hC)) rfl ?_
        refine JL.gval rfl rfl (yl_fieldAtT Go.Proofs.Try.underlying35 rfl i2 i2n rfl hx5 (fun w hC => rd_arg g_0 hC)) rfl ?_
        refine JL.gval rfl rfl (yl_loadT1 Go.Proofs.Try.underlying2 rfl rfl hx5 (fun w hC => rd_arg g_0 hC) rfl) rfl ?_
        obtain ⟨x6, hx6, hres⟩ := bind_some hres
        refine JL.geff rfl rfl (ef_call (T := T127 x6) Go.Proofs.Try.func127 rfl (by kernel_rfl) rfl (fun w hC => c127  hx6)) rfl ?_
        rintro _ _ ⟨_, ⟨rfl, rfl⟩, rfl⟩
        refine JL.gval rfl rfl (yl_not rfl) rfl ?_
        refine JL.val (yl_pick_false rfl rfl) rfl ?_
        have he := Option.some.inj hres
        exact JL.weak [] K ⟨rfl, rfl, (by rw [← he]; rfl), trivial⟩ (by decide) rfl
  · refine JX.condF rfl hb ?_
    refine JX.exit ?_
    refine JE.qb rfl ?_
    obtain ⟨b1, hb1⟩ : ∃ b : Unit, b = () := ⟨_, rfl⟩
    have hy1 : Sum.inl b1 = y1 := by rw [hb1]; exact hox1 _ (Option.some.inj hres).symm
    have hres := elimS_inl hresO1 hy1
    refine JE.weak (env' := [(0, .slice a_0 q0.length c_0)]) (es' := []) [] ?_ ⟨(by subst hb1; rfl), trivial⟩ (by decide) (by subst hb1; rfl)
    refine JE.code ?_
    refine JX.seq ?_
    refine JX.region ?_
    refine JL.val (yl_move rfl) rfl ?_
    refine JL.val (yl_len_slice Go.Proofs.Try.underlying61 rfl) rfl ?_
    obtain ⟨x7, hx7, hres⟩ := bind_some hres
    refine JL.eff (ef_call (T := T127 x7) Go.Proofs.Try.func127 rfl (by kernel_rfl) rfl (fun w hC => c127  hx7)) rfl ?_
    rintro _ _ ⟨_, ⟨rfl, rfl⟩, rfl⟩
    refine JL.val (yl_assign rfl) rfl ?_
    refine JL.nil ?_
    refine JE.weak (env' := [(2, .bool x7)]) (es' := []) [] ?_ ⟨rfl, trivial⟩ (by decide) rfl
    refine JE.code ?_
    refine JX.ret ?_
    obtain rfl := Option.some.inj hres
    refine JE.ret (rs := [.tmp 2]) (vs := [.bool x7]) rfl ⟨rfl, trivial⟩ ?_
    exact fun w' hb hs => ⟨_, _, ⟨rfl, rfl⟩, rfl, hb, hs.sel [] _ (by decide) rfl⟩

/- spec.l00Min -/
def sh164 (q0 : Int) (q1 : Int) : Option (Int) := bif decide (q0 < q1) then (some q0) else (some q1)
def T164 (r : Int) (v : Value) (rs : List Own) : Prop := v = rets [.int .i64 r] ∧ rs = []
set_option maxRecDepth 100000 in
theorem c164 {w : World} {q0 : Int} {q1 : Int} {r : Int} (hres : sh164 q0 q1 = some r) : Calls Go.Proofs.Try.prog 164 [.int .i64 q0, .int .i64 q1].toArray w (Ret w (T164 r)) := by
  unfold sh164 at hres
  refine calls_of (n := 10) (M := []) (es := []) Go.Proofs.Try.func164 rfl rfl rfl (Sep.nil _ _ _) ?_
  refine JX.seq ?_
  refine JX.region ?_
  refine JL.val (yl_assign rfl) rfl ?_
  refine JL.nil ?_
  refine JE.code ?_
  refine JX.seq ?_
  refine JX.seq ?_
  refine JX.region ?_
  refine JL.val (yl_move rfl) rfl ?_
  refine JL.val (yl_move rfl) rfl ?_
  refine JL.val (yl_lss rfl rfl) rfl ?_
  refine JL.nil ?_
  refine JE.code ?_
  rcases cond_some hres with ⟨hb, hres⟩ | ⟨hb, hres⟩
  · refine JX.condT rfl hb ?_
    refine JX.seq ?_
    refine JX.region ?_
    refine JL.val (yl_move rfl) rfl ?_
    refine JL.val (yl_assign rfl) rfl ?_
    refine JL.nil ?_
    refine JE.code ?_
    refine JX.ret ?_
    obtain rfl := Option.some.inj hres
    refine JE.ret (rs := [.tmp 4]) (vs := [.int .i64 q0]) rfl ⟨rfl, trivial⟩ ?_
    exact fun w' hb hs => ⟨_, _, ⟨rfl, rfl⟩, rfl, hb, hs.sel [] _ (by decide) rfl⟩
  · refine JX.condF rfl hb ?_
    refine JX.skip ?_
    refine JE.code ?_
    refine JX.seq ?_
    refine JX.region ?_
    refine JL.val (yl_move rfl) rfl ?_
    refine JL.val (yl_assign rfl) rfl ?_
    refine JL.nil ?_
    refine JE.code ?_
    refine JX.ret ?_
    obtain rfl := Option.some.inj hres
    refine JE.ret (rs := [.tmp 4]) (vs := [.int .i64 q1]) rfl ⟨rfl, trivial⟩ ?_
    exact fun w' hb hs => ⟨_, _, ⟨rfl, rfl⟩, rfl, hb, hs.sel [] _ (by decide) rfl⟩

/- spec.l19Box -/
def sh122_1 (q0 : List SPoint) : (Int × SPoint × SPoint) → Option ((Int × SPoint × SPoint) ⊕ (SPoint × SPoint))
  | (x11, x12, x13) => bif decide (x11 < (q0.length : Int)) then (Option.bind (getI q0 x11) fun x15 => Option.bind (sh164 x12.X x15.X) fun x16 => Option.bind (getI q0 x11) fun x18 => Option.bind (sh164 x12.Y x18.Y) fun x19 => Option.bind (getI q0 x11) fun x21 => Option.bind (sh129 x13.X x21.X) fun x22 => Option.bind (getI q0 x11) fun x24 => Option.bind (sh129 x13.Y x24.Y) fun x25 => some (.inl (w64 (x11 + 1), SPoint.mk x16 x19, SPoint.mk x22 x25))) else (some (.inr (x12, x13)))
def sh122 (q0 : List SPoint) : Option (SPoint × SPoint) := Option.bind (getI q0 (0 : Int)) fun x5 => Option.bind (getI q0 (0 : Int)) fun x8 => Option.bind (iter (sh122_1 q0) (1, x5, x8)) fun b1 => (some (b1.1, b1.2))
def T122 (r : SPoint × SPoint) (v : Value) (rs : List Own) : Prop := v = rets [.agg #[.int .i64 r.1.X, .int .i64 r.1.Y], .agg #[.int .i64 r.2.X, .int .i64 r.2.Y]] ∧ rs = []
set_option maxRecDepth 100000 in
theorem c122 {w : World} {q0 : List SPoint} {a_0 : Option Addr} {n_0 c_0 : Nat} (g_0 : Rd w a_0 (eSPoint.fl q0)) (l_0 : q0.length = n_0) (k_0 : n_0 ≤ c_0) {r : SPoint × SPoint} (hres : sh122 q0 = some r) : Calls Go.Proofs.Try.prog 122 [.slice a_0 n_0 c_0].toArray w (Ret w (T122 r)) := by
  subst l_0
  unfold sh122 at hres
  refine calls_of (n := 57) (M := []) (es := []) Go.Proofs.Try.func122 rfl rfl rfl (Sep.nil _ _ _) ?_
  refine JX.seq ?_
  refine JX.region ?_
  refine JL.eff (ef_alloc i35 i35z rfl) rfl ?_
  rintro _ _ ⟨g1, rfl, rfl⟩
  refine JL.eff (ef_alloc i35 i35z rfl) rfl ?_
  rintro _ _ ⟨g3, rfl, rfl⟩
  refine JL.nil ?_
  refine JE.code ?_
  refine JX.seq ?_
  refine JX.region ?_
  refine JL.val (yl_move rfl) rfl ?_
  obtain ⟨x5, hx5, hres⟩ := bind_some hres
  refine JL.val (yl_idxT Go.Proofs.Try.underlying61 i35 i35s rfl rfl hx5 rfl (fun w hC => rd_arg g_0 hC)) rfl ?_
  refine JL.val (yl_loadTn Go.Proofs.Try.underlying35 rfl i35 i35s rfl hx5 (fun w hC => rd_arg g_0 hC)) rfl ?_
  refine JL.eff (ef_alloc i35 i35z rfl) rfl ?_
  rintro _ _ ⟨g6, rfl, rfl⟩
  refine JL.eff (ef_store_box (i := 2) (v := .agg #[.int .i64 x5.X, .int .i64 x5.Y]) i35 rfl rfl rfl (i35s).symm (Nat.le_of_ble_eq_true rfl) (by simp [Value.cells, Value.oneCell'])) rfl ?_
  rintro _ _ rfl
  refine JL.nil ?_
  refine JE.weak (env' := [(0, .slice a_0 q0.length c_0), (2, ptrAt (some ⟨g1, 0, none⟩) 0), (3, ptrAt (some ⟨g3, 0, none⟩) 0), (4, ptrAt (some ⟨g6, 0, none⟩) 0)]) (es' := [boxO 35 g1 [.int .i64 0, .int .i64 0], boxO 35 g3 [.int .i64 0, .int .i64 0], boxO 35 g6 [.int .i64 x5.X, .int .i64 x5.Y]]) [0, 1, 2] ?_ ⟨rfl, rfl, rfl, rfl, trivial⟩ (by decide) rfl
  refine JE.code ?_
  refine JX.seq ?_
  refine JX.region ?_
  refine JL.val (yl_move rfl) rfl ?_
  obtain ⟨x8, hx8, hres⟩ := bind_some hres
  refine JL.val (yl_idxT Go.Proofs.Try.underlying61 i35 i35s rfl rfl hx8 rfl (fun w hC => rd_arg g_0 hC)) rfl ?_
  refine JL.val (yl_loadTn Go.Proofs.Try.underlying35 rfl i35 i35s rfl hx8 (fun w hC => rd_arg g_0 hC)) rfl ?_
  refine JL.eff (ef_alloc i35 i35z rfl) rfl ?_
  rintro _ _ ⟨g9, rfl, rfl⟩
  refine JL.eff (ef_store_box (i := 3) (v := .agg #[.int .i64 x8.X, .int .i64 x8.Y]) i35 rfl rfl rfl (i35s).symm (Nat.le_of_ble_eq_true rfl) (by simp [Value.cells, Value.oneCell'])) rfl ?_
  rintro _ _ rfl
  refine JL.nil ?_
  refine JE.weak (env' := [(0, .slice a_0 q0.length c_0), (2, ptrAt (some ⟨g1, 0, none⟩) 0), (3, ptrAt (some ⟨g3, 0, none⟩) 0), (4, ptrAt (some ⟨g6, 0, none⟩) 0), (5, ptrAt (some ⟨g9, 0, none⟩) 0)]) (es' := [boxO 35 g1 [.int .i64 0, .int .i64 0], boxO 35 g3 [.int .i64 0, .int .i64 0], boxO 35 g6 [.int .i64 x5.X, .int .i64 x5.Y], boxO 35 g9 [.int .i64 x8.X, .int .i64 x8.Y]]) [0, 1, 2, 3] ?_ ⟨rfl, rfl, rfl, rfl, rfl, trivial⟩ (by decide) rfl
  refine JE.code ?_
  refine JX.seq ?_
  refine JX.seq ?_
  refine JX.region ?_
  refine JL.val (yl_assign rfl) rfl ?_
  refine JL.nil ?_
  refine JE.code ?_
  refine JX.block ?_
  obtain ⟨y1, hy1, hresO1⟩ := bind_some hres
  refine JX.loop (I := fun (s1 : Int × SPoint × SPoint) aa ww => St w [] 57 [(0, .slice a_0 q0.length c_0), (2, ptrAt (some ⟨g1, 0, none⟩) 0), (3, ptrAt (some ⟨g3, 0, none⟩) 0), (4, ptrAt (some ⟨g6, 0, none⟩) 0), (5, ptrAt (some ⟨g9, 0, none⟩) 0), (6, .int .i64 s1.1)] [boxO 35 g1 [.int .i64 0, .int .i64 0], boxO 35 g3 [.int .i64 0, .int .i64 0], boxO 35 g6 [.int .i64 s1.2.1.X, .int .i64 s1.2.1.Y], boxO 35 g9 [.int .i64 s1.2.2.X, .int .i64 s1.2.2.Y]] aa ww) (sh122_1 q0) hy1 (fun a w h => h.weak ⟨rfl, rfl, rfl, rfl, rfl, rfl, trivial⟩ [0, 1, 2, 3] (by decide) rfl) ?_
  rintro ⟨x11, x12, x13⟩ o1 hres hox1 aa ww hS
  refine (?_ : JX Go.Proofs.Try.prog w [] 57 _ _ [(0, .slice a_0 q0.length c_0), (2, ptrAt (some ⟨g1, 0, none⟩) 0), (3, ptrAt (some ⟨g3, 0, none⟩) 0), (4, ptrAt (some ⟨g6, 0, none⟩) 0), (5, ptrAt (some ⟨g9, 0, none⟩) 0), (6, .int .i64 x11)] [boxO 35 g1 [.int .i64 0, .int .i64 0], boxO 35 g3 [.int .i64 0, .int .i64 0], boxO 35 g6 [.int .i64 x12.X, .int .i64 x12.Y], boxO 35 g9 [.int .i64 x13.X, .int .i64 x13.Y]] _) aa ww hS
  clear hS
  simp only [sh122_1] at hres
  refine JX.seq ?_
  refine JX.seq ?_
  refine JX.region ?_
  refine JL.val (yl_move rfl) rfl ?_
  refine JL.val (yl_move rfl) rfl ?_
  refine JL.val (yl_len_slice Go.Proofs.Try.underlying61 rfl) rfl ?_
  refine JL.val (yl_lss rfl rfl) rfl ?_
  refine JL.nil ?_
  refine JE.weak (env' := [(0, .slice a_0 q0.length c_0), (2, ptrAt (some ⟨g1, 0, none⟩) 0), (3, ptrAt (some ⟨g3, 0, none⟩) 0), (4, ptrAt (some ⟨g6, 0, none⟩) 0), (5, ptrAt (some ⟨g9, 0, none⟩) 0), (6, .int .i64 x11), (16, .bool (decide (x11 < (q0.length : Int))))]) (es' := [boxO 35 g1 [.int .i64 0, .int .i64 0], boxO 35 g3 [.int .i64 0, .int .i64 0], boxO 35 g6 [.int .i64 x12.X, .int .i64 x12.Y], boxO 35 g9 [.int .i64 x13.X, .int .i64 x13.Y]]) [0, 1, 2, 3] ?_ ⟨rfl, rfl, rfl, rfl, rfl, rfl, rfl, trivial⟩ (by decide) rfl
  refine JE.code ?_
  rcases cond_some hres with ⟨hb, hres⟩ | ⟨hb, hres⟩
  · refine JX.condT rfl hb ?_
    refine JX.skip ?_
    refine JE.code ?_
    refine JX.seq ?_
    refine JX.block ?_
    refine JX.seq ?_
    refine JX.drawH [(0, .pure), (1, .read0), (2, .pure), (3, .pure), (4, .pure), (5, .pure), (6, .read), (7, .must), (8, .pure), (9, .must)] [9] [2] [0, 1, 3] [boxO 35 g6 [.int .i64 x12.X, .int .i64 x12.Y]] [boxO 35 g1 [.int .i64 0, .int .i64 0], boxO 35 g3 [.int .i64 0, .int .i64 0], boxO 35 g9 [.int .i64 x13.X, .int .i64 x13.Y]] mixedP (by kernel_rfl) (by kernel_rfl) (by decide) rfl rfl ?_
    intro wrr14 Nr14 hFr14
    refine JH.pure rfl (yl_fieldAt (a := some _) Go.Proofs.Try.underlying35 rfl i2 i2n rfl rfl) rfl ?_
    refine JH.read0 rfl (yl_load1 Go.Proofs.Try.underlying2 rfl rfl (fun w hw => (rd_box hFr14.cl 2 rfl).bw hw) rfl) rfl ?_
    refine JH.pure rfl (yl_move rfl) rfl ?_
    refine JH.pure rfl (yl_move rfl) rfl ?_
    obtain ⟨x15, hx15, hres⟩ := bind_some hres
    refine JH.pure rfl (yl_idxQ Go.Proofs.Try.underlying61 i35 i35s rfl rfl hx15 rfl (rd_arg g_0 hFr14.cl) rfl) rfl ?_
    refine JH.pure rfl (yl_fieldAt Go.Proofs.Try.underlying35 rfl i2 i2n rfl (RdT.someQ (rd_arg g_0 hFr14.cl) hx15 rfl rfl)) rfl ?_
    refine JH.read rfl (yl_loadT1 Go.Proofs.Try.underlying2 rfl rfl hx15 (fun w hw => hFr14.arg g_0 hw) rfl) rfl ?_
    obtain ⟨x16, hx16, hres⟩ := bind_some hres
    refine JH.must rfl (ef_call (T := T164 x16) Go.Proofs.Try.func164 rfl (by kernel_rfl) rfl (fun w hC => c164  hx16)) rfl rfl ?_
    rintro _ _ ⟨_, ⟨rfl, rfl⟩, rfl⟩
    refine JH.pure rfl (yl_fieldAt (a := some _) Go.Proofs.Try.underlying35 rfl i2 i2n rfl rfl) rfl ?_
    refine JH.must rfl (ef_store_box (i := 0) (v := .int .i64 x16) i2 rfl rfl rfl (i2s).symm (Nat.le_of_ble_eq_true rfl) (by simp [Value.cells, Value.oneCell'])) rfl rfl ?_
    rintro _ _ rfl
    refine JH.nil ?_
    refine JE.weak (env' := [(0, .slice a_0 q0.length c_0), (2, ptrAt (some ⟨g1, 0, none⟩) 0), (3, ptrAt (some ⟨g3, 0, none⟩) 0), (4, ptrAt (some ⟨g6, 0, none⟩) 0), (5, ptrAt (some ⟨g9, 0, none⟩) 0), (6, .int .i64 x11)]) (es' := [boxO 35 g1 [.int .i64 0, .int .i64 0], boxO 35 g3 [.int .i64 0, .int .i64 0], boxO 35 g6 [.int .i64 x16, .int .i64 x12.Y], boxO 35 g9 [.int .i64 x13.X, .int .i64 x13.Y]]) [0, 1, 3, 2] ?_ ⟨rfl, rfl, rfl, rfl, rfl, rfl, trivial⟩ (by decide) rfl
    refine JE.code ?_
    refine JX.seq ?_
    refine JX.drawH [(0, .pure), (1, .read0), (2, .pure), (3, .pure), (4, .pure), (5, .pure), (6, .read), (7, .must), (8, .pure), (9, .must)] [9] [2] [0, 1, 3] [boxO 35 g6 [.int .i64 x16, .int .i64 x12.Y]] [boxO 35 g1 [.int .i64 0, .int .i64 0], boxO 35 g3 [.int .i64 0, .int .i64 0], boxO 35 g9 [.int .i64 x13.X, .int .i64 x13.Y]] mixedP (by kernel_rfl) (by kernel_rfl) (by decide) rfl rfl ?_
    intro wrr17 Nr17 hFr17
    refine JH.pure rfl (yl_fieldAt (a := some _) Go.Proofs.Try.underlying35 rfl i2 i2n rfl rfl) rfl ?_
    refine JH.read0 rfl (yl_load1 Go.Proofs.Try.underlying2 rfl rfl (fun w hw => (rd_box hFr17.cl 2 rfl).bw hw) rfl) rfl ?_
    refine JH.pure rfl (yl_move rfl) rfl ?_
    refine JH.pure rfl (yl_move rfl) rfl ?_
    obtain ⟨x18, hx18, hres⟩ := bind_some hres
    refine JH.pure rfl (yl_idxQ Go.Proofs.Try.underlying61 i35 i35s rfl rfl hx18 rfl (rd_arg g_0 hFr17.cl) rfl) rfl ?_
    refine JH.pure rfl (yl_fieldAt Go.Proofs.Try.underlying35 rfl i2 i2n rfl (RdT.someQ (rd_arg g_0 hFr17.cl) hx18 rfl rfl)) rfl ?_
    refine JH.read rfl (yl_loadT1 Go.Proofs.Try.underlying2 rfl rfl hx18 (fun w hw => hFr17.arg g_0 hw) rfl) rfl ?_
    obtain ⟨x19, hx19, hres⟩ := bind_some hres
    refine JH.must rfl (ef_call (T := T164 x19) Go.Proofs.Try.func164 rfl (by kernel_rfl) rfl (fun w hC => c164  hx19)) rfl rfl ?_
    rintro _ _ ⟨_, ⟨rfl, rfl⟩, rfl⟩
    refine JH.pure rfl (yl_fieldAt (a := some _) Go.Proofs.Try.underlying35 rfl i2 i2n rfl rfl) rfl ?_
    refine JH.must rfl (ef_store_box (i := 0) (v := .int .i64 x19) i2 rfl rfl rfl (i2s).symm (Nat.le_of_ble_eq_true rfl) (by simp [Value.cells, Value.oneCell'])) rfl rfl ?_
    rintro _ _ rfl
    refine JH.nil ?_
    refine JE.weak (env' := [(0, .slice a_0 q0.length c_0), (2, ptrAt (some ⟨g1, 0, none⟩) 0), (3, ptrAt (some ⟨g3, 0, none⟩) 0), (4, ptrAt (some ⟨g6, 0, none⟩) 0), (5, ptrAt (some ⟨g9, 0, none⟩) 0), (6, .int .i64 x11)]) (es' := [boxO 35 g1 [.int .i64 0, .int .i64 0], boxO 35 g3 [.int .i64 0, .int .i64 0], boxO 35 g6 [.int .i64 x16, .int .i64 x19], boxO 35 g9 [.int .i64 x13.X, .int .i64 x13.Y]]) [0, 1, 3, 2] ?_ ⟨rfl, rfl, rfl, rfl, rfl, rfl, trivial⟩ (by decide) rfl
    refine JE.code ?_
    refine JX.seq ?_
    refine JX.drawH [(0, .pure), (1, .read0), (2, .pure), (3, .pure), (4, .pure), (5, .pure), (6, .read), (7, .must), (8, .pure), (9, .must)] [9] [3] [0, 1, 2] [boxO 35 g9 [.int .i64 x13.X, .int .i64 x13.Y]] [boxO 35 g1 [.int .i64 0, .int .i64 0], boxO 35 g3 [.int .i64 0, .int .i64 0], boxO 35 g6 [.int .i64 x16, .int .i64 x19]] mixedP (by kernel_rfl) (by kernel_rfl) (by decide) rfl rfl ?_
    intro wrr20 Nr20 hFr20
    refine JH.pure rfl (yl_fieldAt (a := some _) Go.Proofs.Try.underlying35 rfl i2 i2n rfl rfl) rfl ?_
    refine JH.read0 rfl (yl_load1 Go.Proofs.Try.underlying2 rfl rfl (fun w hw => (rd_box hFr20.cl 3 rfl).bw hw) rfl) rfl ?_
    refine JH.pure rfl (yl_move rfl) rfl ?_
    refine JH.pure rfl (yl_move rfl) rfl ?_
    obtain ⟨x21, hx21, hres⟩ := bind_some hres
    refine JH.pure rfl (yl_idxQ Go.Proofs.Try.underlying61 i35 i35s rfl rfl hx21 rfl (rd_arg g_0 hFr20.cl) rfl) rfl ?_
    refine JH.pure rfl (yl_fieldAt Go.Proofs.Try.underlying35 rfl i2 i2n rfl (RdT.someQ (rd_arg g_0 hFr20.cl) hx21 rfl rfl)) rfl ?_
    refine JH.read rfl (yl_loadT1 Go.Proofs.Try.underlying2 rfl rfl hx21 (fun w hw => hFr20.arg g_0 hw) rfl) rfl ?_
    obtain ⟨x22, hx22, hres⟩ := bind_some hres
    refine JH.must rfl (ef_call (T := T129 x22) Go.Proofs.Try.func129 rfl (by kernel_rfl) rfl (fun w hC => c129  hx22)) rfl rfl ?_
    rintro _ _ ⟨_, ⟨rfl, rfl⟩, rfl⟩
    refine JH.pure rfl (yl_fieldAt (a := some _) Go.Proofs.Try.underlying35 rfl i2 i2n rfl rfl) rfl ?_
    refine JH.must rfl (ef_store_box (i := 0) (v := .int .i64 x22) i2 rfl rfl rfl (i2s).symm (Nat.le_of_ble_eq_true rfl) (by simp [Value.cells, Value.oneCell'])) rfl rfl ?_
    rintro _ _ rfl
    refine JH.nil ?_
    refine JE.weak (env' := [(0, .slice a_0 q0.length c_0), (2, ptrAt (some ⟨g1, 0, none⟩) 0), (3, ptrAt (some ⟨g3, 0, none⟩) 0), (4, ptrAt (some ⟨g6, 0, none⟩) 0), (5, ptrAt (some ⟨g9, 0, none⟩) 0), (6, .int .i64 x11)]) (es' := [boxO 35 g1 [.int .i64 0, .int .i64 0], boxO 35 g3 [.int .i64 0, .int .i64 0], boxO 35 g6 [.int .i64 x16, .int .i64 x19], boxO 35 g9 [.int .i64 x22, .int .i64 x13.Y]]) [0, 1, 2, 3] ?_ ⟨rfl, rfl, rfl, rfl, rfl, rfl, trivial⟩ (by decide) rfl
    refine JE.code ?_
    refine JX.drawH [(0, .pure), (1, .read0), (2, .pure), (3, .pure), (4, .pure), (5, .pure), (6, .read), (7, .must), (8, .pure), (9, .must)] [9] [3] [0, 1, 2] [boxO 35 g9 [.int .i64 x22, .int .i64 x13.Y]] [boxO 35 g1 [.int .i64 0, .int .i64 0], boxO 35 g3 [.int .i64 0, .int .i64 0], boxO 35 g6 [.int .i64 x16, .int .i64 x19]] mixedP (by kernel_rfl) (by kernel_rfl) (by decide) rfl rfl ?_
    intro wrr23 Nr23 hFr23
    refine JH.pure rfl (yl_fieldAt (a := some _) Go.Proofs.Try.underlying35 rfl i2 i2n rfl rfl) rfl ?_
    refine JH.read0 rfl (yl_load1 Go.Proofs.Try.underlying2 rfl rfl (fun w hw => (rd_box hFr23.cl 3 rfl).bw hw) rfl) rfl ?_
    refine JH.pure rfl (yl_move rfl) rfl ?_
    refine JH.pure rfl (yl_move rfl) rfl ?_
    obtain ⟨x24, hx24, hres⟩ := bind_some hres
    refine JH.pure rfl (yl_idxQ Go.Proofs.Try.underlying61 i35 i35s rfl rfl hx24 rfl (rd_arg g_0 hFr23.cl) rfl) rfl ?_
    refine JH.pure rfl (yl_fieldAt Go.Proofs.Try.underlying35 rfl i2 i2n rfl (RdT.someQ (rd_arg g_0 hFr23.cl) hx24 rfl rfl)) rfl ?_
    refine JH.read rfl (yl_loadT1 Go.Proofs.Try.underlying2 rfl rfl hx24 (fun w hw => hFr23.arg g_0 hw) rfl) rfl ?_
    obtain ⟨x25, hx25, hres⟩ := bind_some hres
    refine JH.must rfl (ef_call (T := T129 x25) Go.Proofs.Try.func129 rfl (by kernel_rfl) rfl (fun w hC => c129  hx25)) rfl rfl ?_
    rintro _ _ ⟨_, ⟨rfl, rfl⟩, rfl⟩
    refine JH.pure rfl (yl_fieldAt (a := some _) Go.Proofs.Try.underlying35 rfl i2 i2n rfl rfl) rfl ?_
    refine JH.must rfl (ef_store_box (i := 0) (v := .int .i64 x25) i2 rfl rfl rfl (i2s).symm (Nat.le_of_ble_eq_true rfl) (by simp [Value.cells, Value.oneCell'])) rfl rfl ?_
    rintro _ _ rfl
    refine JH.nil ?_
    refine JE.weak (env' := [(0, .slice a_0 q0.length c_0), (2, ptrAt (some ⟨g1, 0, none⟩) 0), (3, ptrAt (some ⟨g3, 0, none⟩) 0), (4, ptrAt (some ⟨g6, 0, none⟩) 0), (5, ptrAt (some ⟨g9, 0, none⟩) 0), (6, .int .i64 x11)]) (es' := [boxO 35 g1 [.int .i64 0, .int .i64 0], boxO 35 g3 [.int .i64 0, .int .i64 0], boxO 35 g6 [.int .i64 x16, .int .i64 x19], boxO 35 g9 [.int .i64 x22, .int .i64 x25]]) [0, 1, 2, 3] ?_ ⟨rfl, rfl, rfl, rfl, rfl, rfl, trivial⟩ (by decide) rfl
    refine JE.code ?_
    refine JX.region ?_
    refine JL.val (yl_move rfl) rfl ?_
    refine JL.val (yl_add rfl rfl) rfl ?_
    refine JL.val (yl_assign rfl) rfl ?_
    refine JL.nil ?_
    refine JE.cont hres ?_
    exact fun a w h => h.weak ⟨rfl, rfl, rfl, rfl, rfl, rfl, trivial⟩ [0, 1, 2, 3] (by decide) rfl
  · refine JX.condF rfl hb ?_
    refine JX.exit ?_
    refine JE.qb rfl ?_
    obtain ⟨b1, hb1⟩ : ∃ b : SPoint × SPoint, b = (x12, x13) := ⟨_, rfl⟩
    have hy1 : b1 = y1 := by rw [hb1]; exact hox1 _ (Option.some.inj hres).symm
    have hres := hresO1
    rw [← hy1] at hres
    refine JE.weak (env' := [(2, ptrAt (some ⟨g1, 0, none⟩) 0), (3, ptrAt (some ⟨g3, 0, none⟩) 0), (4, ptrAt (some ⟨g6, 0, none⟩) 0), (5, ptrAt (some ⟨g9, 0, none⟩) 0)]) (es' := [boxO 35 g1 [.int .i64 0, .int .i64 0], boxO 35 g3 [.int .i64 0, .int .i64 0], boxO 35 g6 [.int .i64 b1.1.X, .int .i64 b1.1.Y], boxO 35 g9 [.int .i64 b1.2.X, .int .i64 b1.2.Y]]) [0, 1, 2, 3] ?_ ⟨(by subst hb1; rfl), (by subst hb1; rfl), (by subst hb1; rfl), (by subst hb1; rfl), trivial⟩ (by decide) (by subst hb1; rfl)
    refine JE.code ?_
    refine JX.seq ?_
    refine JX.drawH [(0, .read), (1, .read), (2, .must), (3, .must)] [2, 3] [0, 1] [2, 3] [boxO 35 g1 [.int .i64 0, .int .i64 0], boxO 35 g3 [.int .i64 0, .int .i64 0]] [boxO 35 g6 [.int .i64 b1.1.X, .int .i64 b1.1.Y], boxO 35 g9 [.int .i64 b1.2.X, .int .i64 b1.2.Y]] mixedP (by kernel_rfl) (by kernel_rfl) (by decide) rfl rfl ?_
    intro wrr26 Nr26 hFr26
    refine JH.read rfl (yl_loadn Go.Proofs.Try.underlying35 rfl i35 rfl (fun w hw => hFr26.box 2 rfl rfl hw) rfl (i35s).symm i35p) rfl ?_
    refine JH.read rfl (yl_loadn Go.Proofs.Try.underlying35 rfl i35 rfl (fun w hw => hFr26.box 3 rfl rfl hw) rfl (i35s).symm i35p) rfl ?_
    refine JH.must rfl (ef_store_box (i := 0) (v := .agg #[.int .i64 b1.1.X, .int .i64 b1.1.Y]) i35 rfl rfl rfl (i35s).symm (Nat.le_of_ble_eq_true rfl) (by simp [Value.cells, Value.oneCell'])) rfl rfl ?_
    rintro _ _ rfl
    refine JH.must rfl (ef_store_box (i := 1) (v := .agg #[.int .i64 b1.2.X, .int .i64 b1.2.Y]) i35 rfl rfl rfl (i35s).symm (Nat.le_of_ble_eq_true rfl) (by simp [Value.cells, Value.oneCell'])) rfl rfl ?_
    rintro _ _ rfl
    refine JH.nil ?_
    refine JE.weak (env' := [(2, ptrAt (some ⟨g1, 0, none⟩) 0), (3, ptrAt (some ⟨g3, 0, none⟩) 0)]) (es' := [boxO 35 g1 [.int .i64 b1.1.X, .int .i64 b1.1.Y], boxO 35 g3 [.int .i64 b1.2.X, .int .i64 b1.2.Y]]) [2, 3] ?_ ⟨rfl, rfl, trivial⟩ (by decide) rfl
    refine JE.code ?_
    refine JX.ret ?_
    obtain rfl := Option.some.inj hres
    refine JE.ret (rs := [.cell 2 35, .cell 3 35]) (vs := [.agg #[.int .i64 b1.1.X, .int .i64 b1.1.Y], .agg #[.int .i64 b1.2.X, .int .i64 b1.2.Y]]) rfl ⟨rv_box 0 rfl rfl Go.Proofs.Try.underlying35 rfl i35 (i35s).symm, rv_box 1 rfl rfl Go.Proofs.Try.underlying35 rfl i35 (i35s).symm, trivial⟩ ?_
    exact fun w' hb hs => ⟨_, _, ⟨rfl, rfl⟩, rfl, hb, hs.sel [] _ (by decide) rfl⟩

/- spec.StrokeBox -/
def sh63 (q0 : List SPoint) : Option (SPoint × SPoint × Int) := Option.bind (sh121 q0) fun x5 => bif !x5 then (some (SPoint.mk 0 0, SPoint.mk 0 0, 1)) else (Option.bind (sh122 q0) fun x6 => some (x6.1, x6.2, 0))
def T63 (r : SPoint × SPoint × Int) (v : Value) (rs : List Own) : Prop := v = rets [.agg #[.int .i64 r.1.X, .int .i64 r.1.Y], .agg #[.int .i64 r.2.1.X, .int .i64 r.2.1.Y], .int .i64 r.2.2] ∧ rs = []
set_option maxRecDepth 100000 in
theorem c63 {w : World} {q0 : List SPoint} {a_0 : Option Addr} {n_0 c_0 : Nat} (g_0 : Rd w a_0 (eSPoint.fl q0)) (l_0 : q0.length = n_0) (k_0 : n_0 ≤ c_0) {r : SPoint × SPoint × Int} (hres : sh63 q0 = some r) : Calls Go.Proofs.Try.prog 63 [.slice a_0 n_0 c_0].toArray w (Ret w (T63 r)) := by
  subst l_0
  unfold sh63 at hres
  refine calls_of (n := 19) (M := []) (es := []) Go.Proofs.Try.func63 rfl rfl rfl (Sep.nil _ _ _) ?_
  refine JX.seq ?_
  refine JX.region ?_
  refine JL.eff (ef_alloc i35 i35z rfl) rfl ?_
  rintro _ _ ⟨g1, rfl, rfl⟩
  refine JL.eff (ef_alloc i35 i35z rfl) rfl ?_
  rintro _ _ ⟨g3, rfl, rfl⟩
  refine JL.val (yl_assign rfl) rfl ?_
  refine JL.nil ?_
  refine JE.code ?_
  refine JX.seq ?_
  refine JX.seq ?_
  refine JX.region ?_
  refine JL.val (yl_move rfl) rfl ?_
  obtain ⟨x5, hx5, hres⟩ := bind_some hres
  refine JL.eff (ef_call (T := T121 x5) Go.Proofs.Try.func121 rfl (by kernel_rfl) rfl (fun w hC => c121 (rd_arg g_0 hC) rfl k_0 hx5)) rfl ?_
  rintro _ _ ⟨_, ⟨rfl, rfl⟩, rfl⟩
  refine JL.val (yl_not rfl) rfl ?_
  refine JL.nil ?_
  refine JE.code ?_
  rcases cond_some hres with ⟨hb, hres⟩ | ⟨hb, hres⟩
  · refine JX.condT rfl hb ?_
    refine JX.seq ?_
    refine JX.region ?_
    refine JL.val (yl_build rfl (fun w => bld35_  w)) rfl ?_
    refine JL.val (yl_build rfl (fun w => bld35_  w)) rfl ?_
    refine JL.eff (ef_store_box (i := 0) (v := .agg #[.int .i64 0, .int .i64 0]) i35 rfl rfl rfl (i35s).symm (Nat.le_of_ble_eq_true rfl) (by simp [Value.cells, Value.oneCell'])) rfl ?_
    rintro _ _ rfl
    refine JL.eff (ef_store_box (i := 1) (v := .agg #[.int .i64 0, .int .i64 0]) i35 rfl rfl rfl (i35s).symm (Nat.le_of_ble_eq_true rfl) (by simp [Value.cells, Value.oneCell'])) rfl ?_
    rintro _ _ rfl
    refine JL.val (yl_assign rfl) rfl ?_
    refine JL.nil ?_
    refine JE.weak (env' := [(2, ptrAt (some ⟨g1, 0, none⟩) 0), (3, ptrAt (some ⟨g3, 0, none⟩) 0), (4, .int .i64 1)]) (es' := [boxO 35 g1 [.int .i64 0, .int .i64 0], boxO 35 g3 [.int .i64 0, .int .i64 0]]) [0, 1] ?_ ⟨rfl, rfl, rfl, trivial⟩ (by decide) rfl
    refine JE.code ?_
    refine JX.ret ?_
    obtain rfl := Option.some.inj hres
    refine JE.ret (rs := [.cell 2 35, .cell 3 35, .tmp 4]) (vs := [.agg #[.int .i64 0, .int .i64 0], .agg #[.int .i64 0, .int .i64 0], .int .i64 1]) rfl ⟨rv_box 0 rfl rfl Go.Proofs.Try.underlying35 rfl i35 (i35s).symm, rv_box 1 rfl rfl Go.Proofs.Try.underlying35 rfl i35 (i35s).symm, rfl, trivial⟩ ?_
    exact fun w' hb hs => ⟨_, _, ⟨rfl, rfl⟩, rfl, hb, hs.sel [] _ (by decide) rfl⟩
  · refine JX.condF rfl hb ?_
    refine JX.skip ?_
    refine JE.code ?_
    refine JX.seq ?_
    refine JX.region ?_
    refine JL.val (yl_move rfl) rfl ?_
    obtain ⟨x6, hx6, hres⟩ := bind_some hres
    refine JL.eff (ef_call (T := T122 x6) Go.Proofs.Try.func122 rfl (by kernel_rfl) rfl (fun w hC => c122 (rd_arg g_0 hC) rfl k_0 hx6)) rfl ?_
    rintro _ _ ⟨_, ⟨rfl, rfl⟩, rfl⟩
    refine JL.val (yl_move rfl) rfl ?_
    refine JL.val (yl_extract rfl rfl) rfl ?_
    refine JL.val (yl_extract rfl rfl) rfl ?_
    refine JL.eff (ef_alloc i35 i35z rfl) rfl ?_
    rintro _ _ ⟨g7, rfl, rfl⟩
    refine JL.eff (ef_alloc i35 i35z rfl) rfl ?_
    rintro _ _ ⟨g9, rfl, rfl⟩
    refine JL.eff (ef_store_box (i := 2) (v := .agg #[.int .i64 x6.1.X, .int .i64 x6.1.Y]) i35 rfl rfl rfl (i35s).symm (Nat.le_of_ble_eq_true rfl) (by simp [Value.cells, Value.oneCell'])) rfl ?_
    rintro _ _ rfl
    refine JL.eff (ef_store_box (i := 3) (v := .agg #[.int .i64 x6.2.X, .int .i64 x6.2.Y]) i35 rfl rfl rfl (i35s).symm (Nat.le_of_ble_eq_true rfl) (by simp [Value.cells, Value.oneCell'])) rfl ?_
    rintro _ _ rfl
    refine JL.nil ?_
    refine JE.weak (env' := [(2, ptrAt (some ⟨g1, 0, none⟩) 0), (3, ptrAt (some ⟨g3, 0, none⟩) 0), (5, ptrAt (some ⟨g7, 0, none⟩) 0), (6, ptrAt (some ⟨g9, 0, none⟩) 0)]) (es' := [boxO 35 g1 [.int .i64 0, .int .i64 0], boxO 35 g3 [.int .i64 0, .int .i64 0], boxO 35 g7 [.int .i64 x6.1.X, .int .i64 x6.1.Y], boxO 35 g9 [.int .i64 x6.2.X, .int .i64 x6.2.Y]]) [0, 1, 2, 3] ?_ ⟨rfl, rfl, rfl, rfl, trivial⟩ (by decide) rfl
    refine JE.code ?_
    refine JX.seq ?_
    refine JX.drawH [(0, .read), (1, .read), (2, .must), (3, .must), (4, .pure)] [2, 3] [0, 1] [2, 3] [boxO 35 g1 [.int .i64 0, .int .i64 0], boxO 35 g3 [.int .i64 0, .int .i64 0]] [boxO 35 g7 [.int .i64 x6.1.X, .int .i64 x6.1.Y], boxO 35 g9 [.int .i64 x6.2.X, .int .i64 x6.2.Y]] mixedP (by kernel_rfl) (by kernel_rfl) (by decide) rfl rfl ?_
    intro wrr11 Nr11 hFr11
    refine JH.read rfl (yl_loadn Go.Proofs.Try.underlying35 rfl i35 rfl (fun w hw => hFr11.box 2 rfl rfl hw) rfl (i35s).symm i35p) rfl ?_
    refine JH.read rfl (yl_loadn Go.Proofs.Try.underlying35 rfl i35 rfl (fun w hw => hFr11.box 3 rfl rfl hw) rfl (i35s).symm i35p) rfl ?_
    refine JH.must rfl (ef_store_box (i := 0) (v := .agg #[.int .i64 x6.1.X, .int .i64 x6.1.Y]) i35 rfl rfl rfl (i35s).symm (Nat.le_of_ble_eq_true rfl) (by simp [Value.cells, Value.oneCell'])) rfl rfl ?_
    rintro _ _ rfl
    refine JH.must rfl (ef_store_box (i := 1) (v := .agg #[.int .i64 x6.2.X, .int .i64 x6.2.Y]) i35 rfl rfl rfl (i35s).symm (Nat.le_of_ble_eq_true rfl) (by simp [Value.cells, Value.oneCell'])) rfl rfl ?_
    rintro _ _ rfl
    refine JH.pure rfl (yl_assign rfl) rfl ?_
    refine JH.nil ?_
    refine JE.weak (env' := [(2, ptrAt (some ⟨g1, 0, none⟩) 0), (3, ptrAt (some ⟨g3, 0, none⟩) 0), (4, .int .i64 0)]) (es' := [boxO 35 g1 [.int .i64 x6.1.X, .int .i64 x6.1.Y], boxO 35 g3 [.int .i64 x6.2.X, .int .i64 x6.2.Y]]) [2, 3] ?_ ⟨rfl, rfl, rfl, trivial⟩ (by decide) rfl
    refine JE.code ?_
    refine JX.ret ?_
    obtain rfl := Option.some.inj hres
    refine JE.ret (rs := [.cell 2 35, .cell 3 35, .tmp 4]) (vs := [.agg #[.int .i64 x6.1.X, .int .i64 x6.1.Y], .agg #[.int .i64 x6.2.X, .int .i64 x6.2.Y], .int .i64 0]) rfl ⟨rv_box 0 rfl rfl Go.Proofs.Try.underlying35 rfl i35 (i35s).symm, rv_box 1 rfl rfl Go.Proofs.Try.underlying35 rfl i35 (i35s).symm, rfl, trivial⟩ ?_
    exact fun w' hb hs => ⟨_, _, ⟨rfl, rfl⟩, rfl, hb, hs.sel [] _ (by decide) rfl⟩

/- (*spec.l00Src).one -/
def sh123 (q0 : Sl00Src) (q1 : Int) : Option (Bool × Int × Int) := Option.bind (sh113 q0 q1) fun x1 => some (x1.1 == 0, x1.2.1, x1.2.2)
def T123 (gb_0 : Nat) (a_0_0 : Option Addr) (n_0_0 c_0_0 : Nat) (r : Bool × Int × Int) (v : Value) (es' rs : List Own) : Prop := es' = [boxO 162 gb_0 [.slice a_0_0 n_0_0 c_0_0, .int .i64 r.2.1, .int .u64 r.2.2]] ∧ v = rets [.bool r.1] ∧ rs = []
set_option maxRecDepth 100000 in
theorem c123 {w : World} {M : List Nat} {q0 : Sl00Src} {gb_0 : Nat} {a_0_0 : Option Addr} {n_0_0 c_0_0 : Nat} (g_0_0 : RdS M w a_0_0 (eU8.fl q0.code)) (l_0_0 : q0.code.length = n_0_0) (k_0_0 : n_0_0 ≤ c_0_0) {q1 : Int} (gs : Sep w.heap.size M w [boxO 162 gb_0 [.slice a_0_0 n_0_0 c_0_0, .int .i64 q0.at_, .int .u64 q0.seed]]) {r : Bool × Int × Int} (hres : sh123 q0 q1 = some r) : Calls Go.Proofs.Try.prog 123 [ptrAt (some ⟨gb_0, 0, none⟩) 0, .int .i64 q1].toArray w (RetMs w M (T123 gb_0 a_0_0 n_0_0 c_0_0 r)) := by
  subst l_0_0
  unfold sh123 at hres
  refine calls_of (n := 9) (M := M) (es := [boxO 162 gb_0 [.slice a_0_0 q0.code.length c_0_0, .int .i64 q0.at_, .int .u64 q0.seed]]) Go.Proofs.Try.func123 rfl rfl rfl gs ?_
  refine JX.seq ?_
  refine JX.region ?_
  refine JL.val (yl_assign rfl) rfl ?_
  refine JL.nil ?_
  refine JE.code ?_
  refine JX.seq ?_
  refine JX.region ?_
  refine JL.val (yl_move rfl) rfl ?_
  refine JL.val (yl_move rfl) rfl ?_
  obtain ⟨x1, hx1, hres⟩ := bind_some hres
  refine JL.eff (ef_callms (caps := []) (vs := [ptrAt (some ⟨gb_0, 0, none⟩) 0, .int .i64 q1]) (T := T113 gb_0 a_0_0 q0.code.length c_0_0 x1) [0] [] [boxO 162 gb_0 [.slice a_0_0 q0.code.length c_0_0, .int .i64 q0.at_, .int .u64 q0.seed]] [] rfl Go.Proofs.Try.func113 rfl (by kernel_rfl) rfl (by decide) rfl rfl (fun w N hF hS => c113 (q0 := q0) (RdS.pass hF g_0_0) rfl k_0_0 hS hx1)) rfl ?_
  rintro _ _ ⟨_, _, ⟨rfl, rfl, rfl⟩, rfl⟩
  refine JL.val (yl_eql rfl rfl) rfl ?_
  refine JL.val (yl_assign rfl) rfl ?_
  refine JL.nil ?_
  refine JE.weak (env' := [(4, .bool (x1.1 == 0))]) (es' := [boxO 162 gb_0 [.slice a_0_0 q0.code.length c_0_0, .int .i64 x1.2.1, .int .u64 x1.2.2]]) [0] ?_ ⟨rfl, trivial⟩ (by decide) rfl
  refine JE.code ?_
  refine JX.ret ?_
  obtain rfl := Option.some.inj hres
  refine JE.ret (rs := [.tmp 4]) (vs := [.bool (x1.1 == 0)]) rfl ⟨rfl, trivial⟩ ?_
  exact fun w' hb hs => ⟨_, _, _, ⟨rfl, rfl, rfl⟩, rfl, hb, hs.sel [0] _ (by decide) rfl⟩

/- spec.DrawThinStroke -/
def sh64 (q0 : List Int) : Option (List SPoint × Int) := Option.bind (sh109 q0) fun x1 => Option.bind (sh119 (Sl00Src.mk q0 x1.at_ x1.seed)) fun x4 => Option.bind (sh113 (Sl00Src.mk q0 x4.2.1 x4.2.2) 12) fun x8 => Option.bind (sh123 (Sl00Src.mk q0 x8.2.1 x8.2.2) 10) fun x9 => Option.bind (bif x9.1 then (Option.bind (sh124 (Sl00Src.mk q0 x9.2.1 x9.2.2) [(-1), 0, 2000, 2001]) fun x13 => some x13.1) else (some x8.1)) fun j10 => (some (x4.1, j10))
def T64 (r : List SPoint × Int) (v : Value) (rs : List Own) : Prop := ∃ (a0 : Option Addr) (n0 c0 : Nat), r.1.length = n0 ∧ v = rets [.slice a0 n0 c0, .int .i64 r.2] ∧ rs = [rowT 35 eSPoint a0 n0 c0 r.1]
set_option maxRecDepth 100000 in
theorem c64 {w : World} {q0 : List Int} {a_0 : Option Addr} {n_0 c_0 : Nat} (g_0 : Rd w a_0 (eU8.fl q0)) (l_0 : q0.length = n_0) (k_0 : n_0 ≤ c_0) {r : List SPoint × Int} (hres : sh64 q0 = some r) : Calls Go.Proofs.Try.prog 64 [.slice a_0 n_0 c_0].toArray w (Ret w (T64 r)) := by
  subst l_0
  unfold sh64 at hres
  refine calls_of (n := 20) (M := []) (es := []) Go.Proofs.Try.func64 rfl rfl rfl (Sep.nil _ _ _) ?_
  refine JX.seq ?_
  refine JX.region ?_
  refine JL.val (yl_assign rfl) rfl ?_
  refine JL.val (yl_assign rfl) rfl ?_
  refine JL.nil ?_
  refine JE.code ?_
  refine JX.seq ?_
  refine JX.region ?_
  refine JL.val (yl_move rfl) rfl ?_
  obtain ⟨x1, hx1, hres⟩ := bind_some hres
  refine JL.eff (ef_call (T := T109 a_0 q0.length c_0 x1) Go.Proofs.Try.func109 rfl (by kernel_rfl) rfl (fun w hC => c109 (rd_arg g_0 hC) rfl k_0 hx1)) rfl ?_
  rintro _ _ ⟨_, ⟨g2, rfl, rfl⟩, rfl⟩
  refine JL.val (yl_assign rfl) rfl ?_
  refine JL.nil ?_
  refine JE.code ?_
  refine JX.seq ?_
  refine JX.region ?_
  refine JL.val (yl_move rfl) rfl ?_
  obtain ⟨x4, hx4, hres⟩ := bind_some hres
  refine JL.eff (ef_callms (caps := []) (vs := [ptrAt (some ⟨g2, 0, none⟩) 0]) (T := T119 g2 a_0 q0.length c_0 x4) [0] [] [boxO 162 g2 [.slice a_0 q0.length c_0, .int .i64 x1.at_, .int .u64 x1.seed]] [] rfl Go.Proofs.Try.func119 rfl (by kernel_rfl) rfl (by decide) rfl rfl (fun w N hF hS => c119 (q0 := Sl00Src.mk q0 x1.at_ x1.seed) (RdS.pass0 hF g_0) rfl k_0 hS hx4)) rfl ?_
  rintro _ _ ⟨_, _, ⟨rfl, a5, _, cp6, rfl, rfl, rfl⟩, rfl⟩
  refine JL.val (yl_assign rfl) rfl ?_
  refine JL.nil ?_
  refine JE.code ?_
  refine JX.seq ?_
  refine JX.region ?_
  refine JL.val (yl_move rfl) rfl ?_
  obtain ⟨x8, hx8, hres⟩ := bind_some hres
  refine JL.eff (ef_callms (caps := []) (vs := [ptrAt (some ⟨g2, 0, none⟩) 0, .int .i64 12]) (T := T113 g2 a_0 q0.length c_0 x8) [0] [1] [boxO 162 g2 [.slice a_0 q0.length c_0, .int .i64 x4.2.1, .int .u64 x4.2.2]] [rowT 35 eSPoint a5 x4.1.length cp6 x4.1] rfl Go.Proofs.Try.func113 rfl (by kernel_rfl) rfl (by decide) rfl rfl (fun w N hF hS => c113 (q0 := Sl00Src.mk q0 x4.2.1 x4.2.2) (RdS.pass0 hF g_0) rfl k_0 hS hx8)) rfl ?_
  rintro _ _ ⟨_, _, ⟨rfl, rfl, rfl⟩, rfl⟩
  refine JL.val (yl_assign rfl) rfl ?_
  refine JL.nil ?_
  refine JE.code ?_
  refine JX.seq ?_
  refine JX.seq ?_
  refine JX.region ?_
  refine JL.val (yl_move rfl) rfl ?_
  obtain ⟨x9, hx9, hres⟩ := bind_some hres
  refine JL.eff (ef_callms (caps := []) (vs := [ptrAt (some ⟨g2, 0, none⟩) 0, .int .i64 10]) (T := T123 g2 a_0 q0.length c_0 x9) [1] [0] [boxO 162 g2 [.slice a_0 q0.length c_0, .int .i64 x8.2.1, .int .u64 x8.2.2]] [rowT 35 eSPoint a5 x4.1.length cp6 x4.1] rfl Go.Proofs.Try.func123 rfl (by kernel_rfl) rfl (by decide) rfl rfl (fun w N hF hS => c123 (q0 := Sl00Src.mk q0 x8.2.1 x8.2.2) (RdS.pass0 hF g_0) rfl k_0 hS hx9)) rfl ?_
  rintro _ _ ⟨_, _, ⟨rfl, rfl, rfl⟩, rfl⟩
  refine JL.nil ?_
  refine JE.code ?_
  obtain ⟨j10, hj10, hresj10⟩ := bind_some hres
  refine JX.cut (K := fun J => J [(5, .slice a5 x4.1.length cp6), (6, .int .i64 j10)] [rowT 35 eSPoint a5 x4.1.length cp6 x4.1]) ?_ ?_
  · have hres := hresj10
    refine JE.code ?_
    refine JX.seq ?_
    refine JX.region ?_
    refine JL.val (yl_move rfl) rfl ?_
    refine JL.val (yl_move rfl) rfl ?_
    refine JL.val (yl_assign rfl) rfl ?_
    refine JL.val (yl_assign rfl) rfl ?_
    refine JL.nil ?_
    refine JE.weak (env' := [(2, .slice a5 x4.1.length cp6), (3, .int .i64 j10)]) (es' := [rowT 35 eSPoint a5 x4.1.length cp6 x4.1]) [0] ?_ ⟨rfl, rfl, trivial⟩ (by decide) rfl
    refine JE.code ?_
    refine JX.ret ?_
    obtain rfl := Option.some.inj hres
    refine JE.ret (rs := [.tmp 2, .tmp 3]) (vs := [.slice a5 x4.1.length cp6, .int .i64 j10]) rfl ⟨rfl, rfl, trivial⟩ ?_
    exact fun w' hb hs => ⟨_, _, ⟨a5, x4.1.length, cp6, rfl, rfl, rfl⟩, rfl, hb, hs.sel [0] _ (by decide) rfl⟩
  · intro K
    rcases cond_some hj10 with ⟨hb, hres⟩ | ⟨hb, hres⟩
    · refine JX.condT rfl hb ?_
      refine JX.region ?_
      refine JL.val (yl_move rfl) rfl ?_
      refine JL.eff (ef_buildSlice (E := 2) (k := eI64.k) (us := eI64.fl [(-1), 0, 2000, 2001]) rfl (fun w => bsl22_4 (-1) 0 2000 2001 w) rfl (by decide)) rfl ?_
      rintro _ _ ⟨a11, rfl, rfl⟩
      obtain ⟨x13, hx13, hres⟩ := bind_some hres
      refine JL.eff (ef_callms (caps := []) (vs := [ptrAt (some ⟨g2, 0, none⟩) 0, .slice a11 4 4]) (T := T124 g2 a_0 q0.length c_0 x13) [1] [0, 2] [boxO 162 g2 [.slice a_0 q0.length c_0, .int .i64 x9.2.1, .int .u64 x9.2.2]] [rowT 35 eSPoint a5 x4.1.length cp6 x4.1, rowT 2 eI64 a11 4 4 [(-1), 0, 2000, 2001]] rfl Go.Proofs.Try.func124 rfl (by kernel_rfl) rfl (by decide) rfl rfl (fun w N hF hS => c124 (q0 := Sl00Src.mk q0 x9.2.1 x9.2.2) (RdS.pass0 hF g_0) rfl k_0 (RdS.row hF 2 rfl rfl) rfl (ln_row hF.cl 2 rfl) hS hx13)) rfl ?_
      rintro _ _ ⟨_, _, ⟨rfl, rfl, rfl⟩, rfl⟩
      refine JL.val (yl_assign rfl) rfl ?_
      refine JL.nil ?_
      refine JE.weak (env' := [(5, .slice a5 x4.1.length cp6), (6, .int .i64 x13.1)]) (es' := [rowT 35 eSPoint a5 x4.1.length cp6 x4.1]) [0] ?_ ⟨rfl, rfl, trivial⟩ (by decide) rfl
      have hj := Option.some.inj hres
      exact JE.weak [0] (K) ⟨(by subst hj; rfl), (by subst hj; rfl), trivial⟩ (by decide) (by subst hj; rfl)
    · refine JX.condF rfl hb ?_
      refine JX.skip ?_
      have hj := Option.some.inj hres
      exact JE.weak [0] (K) ⟨(by subst hj; rfl), (by subst hj; rfl), trivial⟩ (by decide) (by subst hj; rfl)

/- impl.distance -/
def sh126 (q0 : Int) (q1 : Int) : Option (Int) := some (if (w64 (q0 - q1)) < (w64 (q1 - q0)) then (w64 (q1 - q0)) else (w64 (q0 - q1)))
def T126 (r : Int) (v : Value) (rs : List Own) : Prop := v = rets [.int .i64 r] ∧ rs = []
set_option maxRecDepth 100000 in
theorem c126 {w : World} {q0 : Int} {q1 : Int} {r : Int} (hres : sh126 q0 q1 = some r) : Calls Go.Proofs.Try.prog 126 [.int .i64 q0, .int .i64 q1].toArray w (Ret w (T126 r)) := by
  unfold sh126 at hres
  refine calls_of (n := 12) (M := []) (es := []) Go.Proofs.Try.func126 rfl rfl rfl (Sep.nil _ _ _) ?_
  refine JX.seq ?_
  refine JX.region ?_
  refine JL.val (yl_assign rfl) rfl ?_
  refine JL.nil ?_
  refine JE.code ?_
  refine JX.seq ?_
  refine JX.region ?_
  refine JL.val (yl_move rfl) rfl ?_
  refine JL.val (yl_move rfl) rfl ?_
  refine JL.val (yl_sub rfl rfl) rfl ?_
  refine JL.val (yl_move rfl) rfl ?_
  refine JL.val (yl_move rfl) rfl ?_
  refine JL.val (yl_sub rfl rfl) rfl ?_
  refine JL.val (yl_max rfl rfl) rfl ?_
  refine JL.val (yl_assign rfl) rfl ?_
  refine JL.nil ?_
  refine JE.weak (env' := [(4, .int .i64 (if (w64 (q0 - q1)) < (w64 (q1 - q0)) then (w64 (q1 - q0)) else (w64 (q0 - q1))))]) (es' := []) [] ?_ ⟨rfl, trivial⟩ (by decide) rfl
  refine JE.code ?_
  refine JX.ret ?_
  obtain rfl := Option.some.inj hres
  refine JE.ret (rs := [.tmp 4]) (vs := [.int .i64 (if (w64 (q0 - q1)) < (w64 (q1 - q0)) then (w64 (q1 - q0)) else (w64 (q0 - q1)))]) rfl ⟨rfl, trivial⟩ ?_
  exact fun w' hb hs => ⟨_, _, ⟨rfl, rfl⟩, rfl, hb, hs.sel [] _ (by decide) rfl⟩

/- impl.ThinStroke -/
def sh65_1 (q0 : List SPoint) (q1 : Int) (x8 : List SPoint) : (Int × List SPoint) → Option ((Int × List SPoint) ⊕ (List SPoint))
  | (x12, x13) => bif decide (x12 < (((q0.length - ((1 : Int)).toNat) : Nat) : Int)) then (Option.bind (getI x8 x12) fun x16 => Option.bind (getI x13 (w64 ((x13.length : Int) - 1))) fun x19 => Option.bind (sh126 x16.X x19.X) fun x22 => Option.bind (bif decide (q1 ≤ x22) then (some true) else (Option.bind (sh126 x16.Y x19.Y) fun x24 => some (decide (q1 ≤ x24)))) fun cb23 => (Option.bind (bif cb23 then (Option.bind (appL x13 [x16]) fun x30 => some x30) else (some x13)) fun j25 => (some (.inl (w64 (x12 + 1), j25))))) else (some (.inr x13))
def sh65 (q0 : List SPoint) (q1 : Int) : Option (List SPoint × Int) := Option.bind (sh78 q0) fun x1 => bif !x1 then (some (([] : List SPoint), 1)) else (Option.bind (sh125 q1 0 2000) fun x3 => bif !x3 then (some (([] : List SPoint), 2)) else (Option.bind (getI q0 (0 : Int)) fun x5 => Option.bind (dropL q0 (1 : Int)) fun x8 => Option.bind (iter (sh65_1 q0 q1 x8) (0, [x5])) fun b1 => (some (b1, 0))))
def T65 (r : List SPoint × Int) (v : Value) (rs : List Own) : Prop := ∃ (a0 : Option Addr) (n0 c0 : Nat), r.1.length = n0 ∧ v = rets [.slice a0 n0 c0, .int .i64 r.2] ∧ rs = [rowT 35 eSPoint a0 n0 c0 r.1]
set_option maxRecDepth 100000 in
theorem c65 {w : World} {q0 : List SPoint} {a_0 : Option Addr} {n_0 c_0 : Nat} (g_0 : Rd w a_0 (eSPoint.fl q0)) (l_0 : q0.length = n_0) (k_0 : n_0 ≤ c_0) {q1 : Int} {r : List SPoint × Int} (hres : sh65 q0 q1 = some r) : Calls Go.Proofs.Try.prog 65 [.slice a_0 n_0 c_0, .int .i64 q1].toArray w (Ret w (T65 r)) := by
  subst l_0
  unfold sh65 at hres
  refine calls_of (n := 55) (M := []) (es := []) Go.Proofs.Try.func65 rfl rfl rfl (Sep.nil _ _ _) ?_
  refine JX.seq ?_
  refine JX.region ?_
  refine JL.val (yl_assign rfl) rfl ?_
  refine JL.val (yl_assign rfl) rfl ?_
  refine JL.nil ?_
  refine JE.code ?_
  refine JX.seq ?_
  refine JX.seq ?_
  refine JX.region ?_
  refine JL.val (yl_move rfl) rfl ?_
  obtain ⟨x1, hx1, hres⟩ := bind_some hres
  refine JL.eff (ef_call (T := T78 x1) Go.Proofs.Try.func78 rfl (by kernel_rfl) rfl (fun w hC => c78 (rd_arg g_0 hC) rfl k_0 hx1)) rfl ?_
  rintro _ _ ⟨_, ⟨rfl, rfl⟩, rfl⟩
  refine JL.val (yl_not rfl) rfl ?_
  refine JL.nil ?_
  refine JE.code ?_
  rcases cond_some hres with ⟨hb, hres⟩ | ⟨hb, hres⟩
  · refine JX.condT rfl hb ?_
    refine JX.seq ?_
    refine JX.region ?_
    refine JL.val (yl_assign rfl) rfl ?_
    refine JL.val (yl_assign rfl) rfl ?_
    refine JL.nil ?_
    refine JE.code ?_
    refine JX.ret ?_
    refine JE.nilrow 35 eSPoint ?_
    obtain rfl := Option.some.inj hres
    refine JE.ret (rs := [.tmp 4, .tmp 5]) (vs := [.slice none 0 0, .int .i64 1]) rfl ⟨rfl, rfl, trivial⟩ ?_
    exact fun w' hb hs => ⟨_, _, ⟨none, 0, 0, rfl, rfl, rfl⟩, rfl, hb, hs.sel [0] _ (by decide) rfl⟩
  · refine JX.condF rfl hb ?_
    refine JX.skip ?_
    refine JE.code ?_
    refine JX.seq ?_
    refine JX.seq ?_
    refine JX.region ?_
    refine JL.val (yl_move rfl) rfl ?_
    obtain ⟨x3, hx3, hres⟩ := bind_some hres
    refine JL.eff (ef_call (T := T125 x3) Go.Proofs.Try.func125 rfl (by kernel_rfl) rfl (fun w hC => c125  hx3)) rfl ?_
    rintro _ _ ⟨_, ⟨rfl, rfl⟩, rfl⟩
    refine JL.val (yl_not rfl) rfl ?_
    refine JL.nil ?_
    refine JE.code ?_
    rcases cond_some hres with ⟨hb, hres⟩ | ⟨hb, hres⟩
    · refine JX.condT rfl hb ?_
      refine JX.seq ?_
      refine JX.region ?_
      refine JL.val (yl_assign rfl) rfl ?_
      refine JL.val (yl_assign rfl) rfl ?_
      refine JL.nil ?_
      refine JE.code ?_
      refine JX.ret ?_
      refine JE.nilrow 35 eSPoint ?_
      obtain rfl := Option.some.inj hres
      refine JE.ret (rs := [.tmp 4, .tmp 5]) (vs := [.slice none 0 0, .int .i64 2]) rfl ⟨rfl, rfl, trivial⟩ ?_
      exact fun w' hb hs => ⟨_, _, ⟨none, 0, 0, rfl, rfl, rfl⟩, rfl, hb, hs.sel [0] _ (by decide) rfl⟩
    · refine JX.condF rfl hb ?_
      refine JX.skip ?_
      refine JE.code ?_
      refine JX.seq ?_
      refine JX.region ?_
      refine JL.val (yl_move rfl) rfl ?_
      obtain ⟨x5, hx5, hres⟩ := bind_some hres
      refine JL.val (yl_idxT Go.Proofs.Try.underlying61 i35 i35s rfl rfl hx5 rfl (fun w hC => rd_arg g_0 hC)) rfl ?_
      refine JL.val (yl_loadTn Go.Proofs.Try.underlying35 rfl i35 i35s rfl hx5 (fun w hC => rd_arg g_0 hC)) rfl ?_
      refine JL.eff (ef_buildSlice (E := 35) (k := eSPoint.k) (us := eSPoint.fl [x5]) rfl (fun w => bsl61_1 x5.X x5.Y w) rfl (by decide)) rfl ?_
      rintro _ _ ⟨a6, rfl, rfl⟩
      refine JL.val (yl_assign rfl) rfl ?_
      refine JL.nil ?_
      refine JE.weak (env' := [(0, .slice a_0 q0.length c_0), (1, .int .i64 q1), (6, .slice a6 1 1)]) (es' := [rowT 35 eSPoint a6 1 1 [x5]]) [0] ?_ ⟨rfl, rfl, rfl, trivial⟩ (by decide) rfl
      refine JE.code ?_
      refine JX.seq ?_
      refine JX.seq ?_
      refine JX.region ?_
      refine JL.val (yl_move rfl) rfl ?_
      obtain ⟨x8, hx8, hres⟩ := bind_some hres
      refine JL.val (yl_dropT (e := eSPoint) Go.Proofs.Try.underlying61 i35 i35s rfl rfl hx8 rfl) rfl ?_
      refine JL.val (yl_len_slice Go.Proofs.Try.underlying61 rfl) rfl ?_
      refine JL.val (yl_move rfl) rfl ?_
      refine JL.nil ?_
      refine JE.weak (env' := [(1, .int .i64 q1), (6, .slice a6 1 1), (21, .slice (adv a_0 c_0 ((1 : Int)).toNat eSPoint.k) (q0.length - ((1 : Int)).toNat) (c_0 - ((1 : Int)).toNat)), (22, .int .i64 (((q0.length - ((1 : Int)).toNat) : Nat) : Int)), (23, .int .i64 0)]) (es' := [rowT 35 eSPoint a6 1 1 [x5]]) [0] ?_ ⟨rfl, rfl, rfl, rfl, rfl, trivial⟩ (by decide) rfl
      refine JE.code ?_
      refine JX.block ?_
      obtain ⟨y1, hy1, hresO1⟩ := bind_some hres
      refine JX.loop (I := fun (s1 : Int × List SPoint) aa ww => ∃ (a10 : Option Addr) (cp11 : Nat), St w [] 55 [(1, .int .i64 q1), (6, .slice a10 s1.2.length cp11), (21, .slice (adv a_0 c_0 ((1 : Int)).toNat eSPoint.k) (q0.length - ((1 : Int)).toNat) (c_0 - ((1 : Int)).toNat)), (22, .int .i64 (((q0.length - ((1 : Int)).toNat) : Nat) : Int)), (23, .int .i64 s1.1)] [rowT 35 eSPoint a10 s1.2.length cp11 s1.2] aa ww) (sh65_1 q0 q1 x8) hy1 (fun a w h => ⟨a6, 1, h.weak ⟨rfl, rfl, rfl, rfl, rfl, trivial⟩ [0] (by decide) rfl⟩) ?_
      rintro ⟨x12, x13⟩ o1 hres hox1 aa ww ⟨a14, cp15, hS⟩
      refine (?_ : JX Go.Proofs.Try.prog w [] 55 _ _ [(1, .int .i64 q1), (6, .slice a14 x13.length cp15), (21, .slice (adv a_0 c_0 ((1 : Int)).toNat eSPoint.k) (q0.length - ((1 : Int)).toNat) (c_0 - ((1 : Int)).toNat)), (22, .int .i64 (((q0.length - ((1 : Int)).toNat) : Nat) : Int)), (23, .int .i64 x12)] [rowT 35 eSPoint a14 x13.length cp15 x13] _) aa ww hS
      clear hS
      simp only [sh65_1] at hres
      refine JX.seq ?_
      refine JX.region ?_
      refine JL.val (yl_lss rfl rfl) rfl ?_
      refine JL.nil ?_
      refine JE.code ?_
      refine JX.seq ?_
      rcases cond_some hres with ⟨hb, hres⟩ | ⟨hb, hres⟩
      · refine JX.condT rfl hb ?_
        refine JX.skip ?_
        refine JE.code ?_
        refine JX.seq ?_
        refine JX.block ?_
        refine JX.seq ?_
        refine JX.region ?_
        obtain ⟨x16, hx16, hres⟩ := bind_some hres
        refine JL.val (yl_idxT Go.Proofs.Try.underlying61 i35 i35s rfl rfl hx16 (dropL_len hx8 rfl) (fun w hC => Rd.dropT (rd_arg g_0 hC) hx8 rfl k_0)) rfl ?_
        refine JL.val (yl_loadTn Go.Proofs.Try.underlying35 rfl i35 i35s rfl hx16 (fun w hC => Rd.dropT (rd_arg g_0 hC) hx8 rfl k_0)) rfl ?_
        refine JL.eff (ef_alloc i35 i35z rfl) rfl ?_
        rintro _ _ ⟨g17, rfl, rfl⟩
        refine JL.eff (ef_store_box (i := 1) (v := .agg #[.int .i64 x16.X, .int .i64 x16.Y]) i35 rfl rfl rfl (i35s).symm (Nat.le_of_ble_eq_true rfl) (by simp [Value.cells, Value.oneCell'])) rfl ?_
        rintro _ _ rfl
        refine JL.nil ?_
        refine JE.weak (env' := [(1, .int .i64 q1), (6, .slice a14 x13.length cp15), (8, ptrAt (some ⟨g17, 0, none⟩) 0), (21, .slice (adv a_0 c_0 ((1 : Int)).toNat eSPoint.k) (q0.length - ((1 : Int)).toNat) (c_0 - ((1 : Int)).toNat)), (22, .int .i64 (((q0.length - ((1 : Int)).toNat) : Nat) : Int)), (23, .int .i64 x12)]) (es' := [rowT 35 eSPoint a14 x13.length cp15 x13, boxO 35 g17 [.int .i64 x16.X, .int .i64 x16.Y]]) [0, 1] ?_ ⟨rfl, rfl, rfl, rfl, rfl, rfl, trivial⟩ (by decide) rfl
        refine JE.code ?_
        refine JX.seq ?_
        refine JX.region ?_
        refine JL.val (yl_move rfl) rfl ?_
        refine JL.val (yl_move rfl) rfl ?_
        refine JL.val (yl_len_slice Go.Proofs.Try.underlying61 rfl) rfl ?_
        refine JL.val (yl_sub rfl rfl) rfl ?_
        obtain ⟨x19, hx19, hres⟩ := bind_some hres
        refine JL.val (yl_idxT Go.Proofs.Try.underlying61 i35 i35s rfl rfl hx19 rfl (fun w hC => rd_row hC 0 rfl)) rfl ?_
        refine JL.val (yl_loadTn Go.Proofs.Try.underlying35 rfl i35 i35s rfl hx19 (fun w hC => rd_row hC 0 rfl)) rfl ?_
        refine JL.eff (ef_alloc i35 i35z rfl) rfl ?_
        rintro _ _ ⟨g20, rfl, rfl⟩
        refine JL.eff (ef_store_box (i := 2) (v := .agg #[.int .i64 x19.X, .int .i64 x19.Y]) i35 rfl rfl rfl (i35s).symm (Nat.le_of_ble_eq_true rfl) (by simp [Value.cells, Value.oneCell'])) rfl ?_
        rintro _ _ rfl
        refine JL.nil ?_
        refine JE.weak (env' := [(1, .int .i64 q1), (6, .slice a14 x13.length cp15), (8, ptrAt (some ⟨g17, 0, none⟩) 0), (9, ptrAt (some ⟨g20, 0, none⟩) 0), (21, .slice (adv a_0 c_0 ((1 : Int)).toNat eSPoint.k) (q0.length - ((1 : Int)).toNat) (c_0 - ((1 : Int)).toNat)), (22, .int .i64 (((q0.length - ((1 : Int)).toNat) : Nat) : Int)), (23, .int .i64 x12)]) (es' := [rowT 35 eSPoint a14 x13.length cp15 x13, boxO 35 g17 [.int .i64 x16.X, .int .i64 x16.Y], boxO 35 g20 [.int .i64 x19.X, .int .i64 x19.Y]]) [0, 1, 2] ?_ ⟨rfl, rfl, rfl, rfl, rfl, rfl, rfl, trivial⟩ (by decide) rfl
        refine JE.code ?_
        refine JX.seq ?_
        refine JX.region ?_
        refine JL.val (yl_fieldAt (a := some _) Go.Proofs.Try.underlying35 rfl i2 i2n rfl rfl) rfl ?_
        refine JL.val (yl_load1 Go.Proofs.Try.underlying2 rfl rfl (fun w hC => rd_box hC 1 rfl) rfl) rfl ?_
        refine JL.val (yl_fieldAt (a := some _) Go.Proofs.Try.underlying35 rfl i2 i2n rfl rfl) rfl ?_
        refine JL.val (yl_load1 Go.Proofs.Try.underlying2 rfl rfl (fun w hC => rd_box hC 2 rfl) rfl) rfl ?_
        obtain ⟨x22, hx22, hres⟩ := bind_some hres
        refine JL.eff (ef_call (T := T126 x22) Go.Proofs.Try.func126 rfl (by kernel_rfl) rfl (fun w hC => c126  hx22)) rfl ?_
        rintro _ _ ⟨_, ⟨rfl, rfl⟩, rfl⟩
        refine JL.val (yl_move rfl) rfl ?_
        refine JL.val (yl_geq rfl rfl) rfl ?_
        refine JL.val (yl_move rfl) rfl ?_
        obtain ⟨cb23, hcb23, hres⟩ := bind_some hres
        refine JL.cut (K := fun J => J [(1, .int .i64 q1), (6, .slice a14 x13.length cp15), (8, ptrAt (some ⟨g17, 0, none⟩) 0), (21, .slice (adv a_0 c_0 ((1 : Int)).toNat eSPoint.k) (q0.length - ((1 : Int)).toNat) (c_0 - ((1 : Int)).toNat)), (22, .int .i64 (((q0.length - ((1 : Int)).toNat) : Nat) : Int)), (23, .int .i64 x12), (48, .bool cb23)] [rowT 35 eSPoint a14 x13.length cp15 x13, boxO 35 g17 [.int .i64 x16.X, .int .i64 x16.Y]]) 8 ?_ ?_
        · refine JL.nil ?_
          refine JE.weak (env' := [(1, .int .i64 q1), (6, .slice a14 x13.length cp15), (8, ptrAt (some ⟨g17, 0, none⟩) 0), (21, .slice (adv a_0 c_0 ((1 : Int)).toNat eSPoint.k) (q0.length - ((1 : Int)).toNat) (c_0 - ((1 : Int)).toNat)), (22, .int .i64 (((q0.length - ((1 : Int)).toNat) : Nat) : Int)), (23, .int .i64 x12), (48, .bool cb23)]) (es' := [rowT 35 eSPoint a14 x13.length cp15 x13, boxO 35 g17 [.int .i64 x16.X, .int .i64 x16.Y]]) [0, 1] ?_ ⟨rfl, rfl, rfl, rfl, rfl, rfl, rfl, trivial⟩ (by decide) rfl
          refine JE.code ?_
          obtain ⟨j25, hj25, hresj25⟩ := bind_some hres
          refine JX.cut (K := fun J => ∀ (a26 : Option Addr) (cp27 : Nat), J [(1, .int .i64 q1), (6, .slice a26 j25.length cp27), (21, .slice (adv a_0 c_0 ((1 : Int)).toNat eSPoint.k) (q0.length - ((1 : Int)).toNat) (c_0 - ((1 : Int)).toNat)), (22, .int .i64 (((q0.length - ((1 : Int)).toNat) : Nat) : Int)), (23, .int .i64 x12)] [rowT 35 eSPoint a26 j25.length cp27 j25]) ?_ ?_
          · intro a26 cp27
            have hres := hresj25
            refine JE.code ?_
            refine JX.region ?_
            refine JL.val (yl_add rfl rfl) rfl ?_
            refine JL.val (yl_move rfl) rfl ?_
            refine JL.nil ?_
            refine JE.cont hres ?_
            exact fun a w h => ⟨a26, cp27, h.weak ⟨rfl, rfl, rfl, rfl, rfl, trivial⟩ [0] (by decide) rfl⟩
          · intro K
            rcases cond_some hj25 with ⟨hb, hres⟩ | ⟨hb, hres⟩
            · refine JX.condT rfl hb ?_
              refine JX.region ?_
              refine JL.val (yl_move rfl) rfl ?_
              refine JL.val (yl_loadn Go.Proofs.Try.underlying35 rfl i35 rfl (fun w hC => rd_box hC 1 rfl) rfl (i35s).symm i35p) rfl ?_
              refine JL.eff (ef_buildSlice (E := 35) (k := eSPoint.k) (us := eSPoint.fl [x16]) rfl (fun w => bsl61_1 x16.X x16.Y w) rfl (by decide)) rfl ?_
              rintro _ _ ⟨a28, rfl, rfl⟩
              obtain ⟨x30, hx30, hres⟩ := bind_some hres
              refine JL.eff (ef_appendT (ix := 0) Go.Proofs.Try.underlying61 i35 i35z i35s rfl i35b0 i35b1 rfl rfl rfl rfl rfl (fun w hC => rd_row hC 2 rfl) hx30) rfl ?_
              rintro _ _ ⟨a31, cp32, rfl, rfl⟩
              refine JL.val (yl_assign rfl) rfl ?_
              refine JL.nil ?_
              refine JE.weak (env' := [(1, .int .i64 q1), (6, .slice a31 x30.length cp32), (21, .slice (adv a_0 c_0 ((1 : Int)).toNat eSPoint.k) (q0.length - ((1 : Int)).toNat) (c_0 - ((1 : Int)).toNat)), (22, .int .i64 (((q0.length - ((1 : Int)).toNat) : Nat) : Int)), (23, .int .i64 x12)]) (es' := [rowT 35 eSPoint a31 x30.length cp32 x30]) [0] ?_ ⟨rfl, rfl, rfl, rfl, rfl, trivial⟩ (by decide) rfl
              have hj := Option.some.inj hres
              exact JE.weak [0] (K a31 cp32) ⟨(by subst hj; rfl), (by subst hj; rfl), (by subst hj; rfl), (by subst hj; rfl), (by subst hj; rfl), trivial⟩ (by decide) (by subst hj; rfl)
            · refine JX.condF rfl hb ?_
              refine JX.skip ?_
              have hj := Option.some.inj hres
              exact JE.weak [0] (K a14 cp15) ⟨(by subst hj; rfl), (by subst hj; rfl), (by subst hj; rfl), (by subst hj; rfl), (by subst hj; rfl), trivial⟩ (by decide) (by subst hj; rfl)
        · intro K
          rcases cond_some hcb23 with ⟨hb, hres⟩ | ⟨hb, hres⟩
          · refine JL.set (d := 40) (v := .bool true) (congrArg (fun b => some (Value.bool b)) hb) ?_
            refine JL.gskip rfl rfl rfl rfl ?_
            refine JL.gskip rfl rfl rfl rfl ?_
            refine JL.gskip rfl rfl rfl rfl ?_
            refine JL.gskip rfl rfl rfl rfl ?_
            refine JL.gskip rfl rfl rfl rfl ?_
            refine JL.gskip rfl rfl rfl rfl ?_
            refine JL.gskip rfl rfl rfl rfl ?_
            refine JL.val (yl_pick_true rfl rfl) rfl ?_
            have he := Option.some.inj hres
            exact JL.weak [0, 1] K ⟨rfl, rfl, rfl, rfl, rfl, rfl, (by rw [← he]; rfl), trivial⟩ (by decide) rfl
          · refine JL.set (d := 40) (v := .bool false) (congrArg (fun b => some (Value.bool b)) hb) ?_
            refine JL.gval rfl rfl (yl_fieldAt (a := some _) Go.Proofs.Try.underlying35 rfl i2 i2n rfl rfl) rfl ?_
            refine JL.gval rfl rfl (yl_load1 Go.Proofs.Try.underlying2 rfl rfl (fun w hC => rd_box hC 1 rfl) rfl) rfl ?_
            refine JL.gval rfl rfl (yl_fieldAt (a := some _) Go.Proofs.Try.underlying35 rfl i2 i2n rfl rfl) rfl ?_
            refine JL.gval rfl rfl (yl_load1 Go.Proofs.Try.underlying2 rfl rfl (fun w hC => rd_box hC 2 rfl) rfl) rfl ?_
            obtain ⟨x24, hx24, hres⟩ := bind_some hres
            refine JL.geff rfl rfl (ef_call (T := T126 x24) Go.Proofs.Try.func126 rfl (by kernel_rfl) rfl (fun w hC => c126  hx24)) rfl ?_
            rintro _ _ ⟨_, ⟨rfl, rfl⟩, rfl⟩
            refine JL.gval rfl rfl (yl_move rfl) rfl ?_
            refine JL.gval rfl rfl (yl_geq rfl rfl) rfl ?_
            refine JL.val (yl_pick_false rfl rfl) rfl ?_
            have he := Option.some.inj hres
            exact JL.weak [0, 1] K ⟨rfl, rfl, rfl, rfl, rfl, rfl, (by rw [← he]; rfl), trivial⟩ (by decide) rfl
      · refine JX.condF rfl hb ?_
        refine JX.exit ?_
        refine JE.qb rfl ?_
        obtain ⟨b1, hb1⟩ : ∃ b : List SPoint, b = x13 := ⟨_, rfl⟩
        have hy1 : b1 = y1 := by rw [hb1]; exact hox1 _ (Option.some.inj hres).symm
        have hres := hresO1
        rw [← hy1] at hres
        refine JE.weak (env' := [(6, .slice a14 b1.length cp15)]) (es' := [rowT 35 eSPoint a14 b1.length cp15 b1]) [0] ?_ ⟨(by subst hb1; rfl), trivial⟩ (by decide) (by subst hb1; rfl)
        refine JE.code ?_
        refine JX.seq ?_
        refine JX.region ?_
        refine JL.val (yl_move rfl) rfl ?_
        refine JL.val (yl_assign rfl) rfl ?_
        refine JL.val (yl_assign rfl) rfl ?_
        refine JL.nil ?_
        refine JE.code ?_
        refine JX.ret ?_
        obtain rfl := Option.some.inj hres
        refine JE.ret (rs := [.tmp 4, .tmp 5]) (vs := [.slice a14 b1.length cp15, .int .i64 0]) rfl ⟨rfl, rfl, trivial⟩ ?_
        exact fun w' hb hs => ⟨_, _, ⟨a14, b1.length, cp15, rfl, rfl, rfl⟩, rfl, hb, hs.sel [0] _ (by decide) rfl⟩

/- spec.l10Away -/
def sh128 (q0 : Int) (q1 : Int) : Option (Int) := Option.bind (sh129 (w64 (q0 - q1)) (w64 (q1 - q0))) fun x1 => some x1
def T128 (r : Int) (v : Value) (rs : List Own) : Prop := v = rets [.int .i64 r] ∧ rs = []
set_option maxRecDepth 100000 in
theorem c128 {w : World} {q0 : Int} {q1 : Int} {r : Int} (hres : sh128 q0 q1 = some r) : Calls Go.Proofs.Try.prog 128 [.int .i64 q0, .int .i64 q1].toArray w (Ret w (T128 r)) := by
  unfold sh128 at hres
  refine calls_of (n := 12) (M := []) (es := []) Go.Proofs.Try.func128 rfl rfl rfl (Sep.nil _ _ _) ?_
  refine JX.seq ?_
  refine JX.region ?_
  refine JL.val (yl_assign rfl) rfl ?_
  refine JL.nil ?_
  refine JE.code ?_
  refine JX.seq ?_
  refine JX.region ?_
  refine JL.val (yl_move rfl) rfl ?_
  refine JL.val (yl_move rfl) rfl ?_
  refine JL.val (yl_sub rfl rfl) rfl ?_
  refine JL.val (yl_move rfl) rfl ?_
  refine JL.val (yl_move rfl) rfl ?_
  refine JL.val (yl_sub rfl rfl) rfl ?_
  obtain ⟨x1, hx1, hres⟩ := bind_some hres
  refine JL.eff (ef_call (T := T129 x1) Go.Proofs.Try.func129 rfl (by kernel_rfl) rfl (fun w hC => c129  hx1)) rfl ?_
  rintro _ _ ⟨_, ⟨rfl, rfl⟩, rfl⟩
  refine JL.val (yl_assign rfl) rfl ?_
  refine JL.nil ?_
  refine JE.weak (env' := [(4, .int .i64 x1)]) (es' := []) [] ?_ ⟨rfl, trivial⟩ (by decide) rfl
  refine JE.code ?_
  refine JX.ret ?_
  obtain rfl := Option.some.inj hres
  refine JE.ret (rs := [.tmp 4]) (vs := [.int .i64 x1]) rfl ⟨rfl, trivial⟩ ?_
  exact fun w' hb hs => ⟨_, _, ⟨rfl, rfl⟩, rfl, hb, hs.sel [] _ (by decide) rfl⟩

/- spec.ThinStroke -/
def sh66_1 (q0 : List SPoint) (q1 : Int) : (Int × List SPoint) → Option ((Int × List SPoint) ⊕ (List SPoint))
  | (x10, x11) => bif decide (x10 < (q0.length : Int)) then (Option.bind (getI x11 (w64 ((x11.length : Int) - 1))) fun x14 => Option.bind (getI q0 x10) fun x18 => Option.bind (sh128 x14.X x18.X) fun x19 => Option.bind (getI q0 x10) fun x21 => Option.bind (sh128 x14.Y x21.Y) fun x22 => Option.bind (sh129 x19 x22) fun x23 => Option.bind (bif decide (q1 ≤ x23) then (Option.bind (getI q0 x10) fun x27 => Option.bind (appL x11 [x27]) fun x30 => some x30) else (some x11)) fun j24 => (some (.inl (w64 (x10 + 1), j24)))) else (some (.inr x11))
def sh66 (q0 : List SPoint) (q1 : Int) : Option (List SPoint × Int) := Option.bind (sh121 q0) fun x1 => bif !x1 then (some (([] : List SPoint), 1)) else (Option.bind (sh127 q1 0 2000) fun x3 => bif !x3 then (some (([] : List SPoint), 2)) else (Option.bind (getI q0 (0 : Int)) fun x5 => Option.bind (iter (sh66_1 q0 q1) (1, [x5])) fun b1 => (some (b1, 0))))
def T66 (r : List SPoint × Int) (v : Value) (rs : List Own) : Prop := ∃ (a0 : Option Addr) (n0 c0 : Nat), r.1.length = n0 ∧ v = rets [.slice a0 n0 c0, .int .i64 r.2] ∧ rs = [rowT 35 eSPoint a0 n0 c0 r.1]
set_option maxRecDepth 100000 in
theorem c66 {w : World} {q0 : List SPoint} {a_0 : Option Addr} {n_0 c_0 : Nat} (g_0 : Rd w a_0 (eSPoint.fl q0)) (l_0 : q0.length = n_0) (k_0 : n_0 ≤ c_0) {q1 : Int} {r : List SPoint × Int} (hres : sh66 q0 q1 = some r) : Calls Go.Proofs.Try.prog 66 [.slice a_0 n_0 c_0, .int .i64 q1].toArray w (Ret w (T66 r)) := by
  subst l_0
  unfold sh66 at hres
  refine calls_of (n := 62) (M := []) (es := []) Go.Proofs.Try.func66 rfl rfl rfl (Sep.nil _ _ _) ?_
  refine JX.seq ?_
  refine JX.region ?_
  refine JL.val (yl_assign rfl) rfl ?_
  refine JL.val (yl_assign rfl) rfl ?_
  refine JL.nil ?_
  refine JE.code ?_
  refine JX.seq ?_
  refine JX.seq ?_
  refine JX.region ?_
  refine JL.val (yl_move rfl) rfl ?_
  obtain ⟨x1, hx1, hres⟩ := bind_some hres
  refine JL.eff (ef_call (T := T121 x1) Go.Proofs.Try.func121 rfl (by kernel_rfl) rfl (fun w hC => c121 (rd_arg g_0 hC) rfl k_0 hx1)) rfl ?_
  rintro _ _ ⟨_, ⟨rfl, rfl⟩, rfl⟩
  refine JL.val (yl_not rfl) rfl ?_
  refine JL.nil ?_
  refine JE.code ?_
  rcases cond_some hres with ⟨hb, hres⟩ | ⟨hb, hres⟩
  · refine JX.condT rfl hb ?_
    refine JX.seq ?_
    refine JX.region ?_
    refine JL.val (yl_assign rfl) rfl ?_
    refine JL.val (yl_assign rfl) rfl ?_
    refine JL.nil ?_
    refine JE.code ?_
    refine JX.ret ?_
    refine JE.nilrow 35 eSPoint ?_
    obtain rfl := Option.some.inj hres
    refine JE.ret (rs := [.tmp 4, .tmp 5]) (vs := [.slice none 0 0, .int .i64 1]) rfl ⟨rfl, rfl, trivial⟩ ?_
    exact fun w' hb hs => ⟨_, _, ⟨none, 0, 0, rfl, rfl, rfl⟩, rfl, hb, hs.sel [0] _ (by decide) rfl⟩
  · refine JX.condF rfl hb ?_
    refine JX.skip ?_
    refine JE.code ?_
    refine JX.seq ?_
    refine JX.seq ?_
    refine JX.region ?_
    refine JL.val (yl_move rfl) rfl ?_
    obtain ⟨x3, hx3, hres⟩ := bind_some hres
    refine JL.eff (ef_call (T := T127 x3) Go.Proofs.Try.func127 rfl (by kernel_rfl) rfl (fun w hC => c127  hx3)) rfl ?_
    rintro _ _ ⟨_, ⟨rfl, rfl⟩, rfl⟩
    refine JL.val (yl_not rfl) rfl ?_
    refine JL.nil ?_
    refine JE.code ?_
    rcases cond_some hres with ⟨hb, hres⟩ | ⟨hb, hres⟩
    · refine JX.condT rfl hb ?_
      refine JX.seq ?_
      refine JX.region ?_
      refine JL.val (yl_assign rfl) rfl ?_
      refine JL.val (yl_assign rfl) rfl ?_
      refine JL.nil ?_
      refine JE.code ?_
      refine JX.ret ?_
      refine JE.nilrow 35 eSPoint ?_
      obtain rfl := Option.some.inj hres
      refine JE.ret (rs := [.tmp 4, .tmp 5]) (vs := [.slice none 0 0, .int .i64 2]) rfl ⟨rfl, rfl, trivial⟩ ?_
      exact fun w' hb hs => ⟨_, _, ⟨none, 0, 0, rfl, rfl, rfl⟩, rfl, hb, hs.sel [0] _ (by decide) rfl⟩
    · refine JX.condF rfl hb ?_
      refine JX.skip ?_
      refine JE.code ?_
      refine JX.seq ?_
      refine JX.region ?_
      refine JL.val (yl_move rfl) rfl ?_
      obtain ⟨x5, hx5, hres⟩ := bind_some hres
      refine JL.val (yl_idxT Go.Proofs.Try.underlying61 i35 i35s rfl rfl hx5 rfl (fun w hC => rd_arg g_0 hC)) rfl ?_
      refine JL.val (yl_loadTn Go.Proofs.Try.underlying35 rfl i35 i35s rfl hx5 (fun w hC => rd_arg g_0 hC)) rfl ?_
      refine JL.eff (ef_buildSlice (E := 35) (k := eSPoint.k) (us := eSPoint.fl [x5]) rfl (fun w => bsl61_1 x5.X x5.Y w) rfl (by decide)) rfl ?_
      rintro _ _ ⟨a6, rfl, rfl⟩
      refine JL.val (yl_assign rfl) rfl ?_
      refine JL.nil ?_
      refine JE.weak (env' := [(0, .slice a_0 q0.length c_0), (1, .int .i64 q1), (6, .slice a6 1 1)]) (es' := [rowT 35 eSPoint a6 1 1 [x5]]) [0] ?_ ⟨rfl, rfl, rfl, trivial⟩ (by decide) rfl
      refine JE.code ?_
      refine JX.seq ?_
      refine JX.seq ?_
      refine JX.region ?_
      refine JL.val (yl_assign rfl) rfl ?_
      refine JL.nil ?_
      refine JE.code ?_
      refine JX.block ?_
      obtain ⟨y1, hy1, hresO1⟩ := bind_some hres
      refine JX.loop (I := fun (s1 : Int × List SPoint) aa ww => ∃ (a8 : Option Addr) (cp9 : Nat), St w [] 62 [(0, .slice a_0 q0.length c_0), (1, .int .i64 q1), (6, .slice a8 s1.2.length cp9), (7, .int .i64 s1.1)] [rowT 35 eSPoint a8 s1.2.length cp9 s1.2] aa ww) (sh66_1 q0 q1) hy1 (fun a w h => ⟨a6, 1, h.weak ⟨rfl, rfl, rfl, rfl, trivial⟩ [0] (by decide) rfl⟩) ?_
      rintro ⟨x10, x11⟩ o1 hres hox1 aa ww ⟨a12, cp13, hS⟩
      refine (?_ : JX Go.Proofs.Try.prog w [] 62 _ _ [(0, .slice a_0 q0.length c_0), (1, .int .i64 q1), (6, .slice a12 x11.length cp13), (7, .int .i64 x10)] [rowT 35 eSPoint a12 x11.length cp13 x11] _) aa ww hS
      clear hS
      simp only [sh66_1] at hres
      refine JX.seq ?_
      refine JX.seq ?_
      refine JX.region ?_
      refine JL.val (yl_move rfl) rfl ?_
      refine JL.val (yl_move rfl) rfl ?_
      refine JL.val (yl_len_slice Go.Proofs.Try.underlying61 rfl) rfl ?_
      refine JL.val (yl_lss rfl rfl) rfl ?_
      refine JL.nil ?_
      refine JE.weak (env' := [(0, .slice a_0 q0.length c_0), (1, .int .i64 q1), (6, .slice a12 x11.length cp13), (7, .int .i64 x10), (24, .bool (decide (x10 < (q0.length : Int))))]) (es' := [rowT 35 eSPoint a12 x11.length cp13 x11]) [0] ?_ ⟨rfl, rfl, rfl, rfl, rfl, trivial⟩ (by decide) rfl
      refine JE.code ?_
      rcases cond_some hres with ⟨hb, hres⟩ | ⟨hb, hres⟩
      · refine JX.condT rfl hb ?_
        refine JX.skip ?_
        refine JE.code ?_
        refine JX.seq ?_
        refine JX.block ?_
        refine JX.seq ?_
        refine JX.region ?_
        refine JL.val (yl_move rfl) rfl ?_
        refine JL.val (yl_move rfl) rfl ?_
        refine JL.val (yl_len_slice Go.Proofs.Try.underlying61 rfl) rfl ?_
        refine JL.val (yl_sub rfl rfl) rfl ?_
        obtain ⟨x14, hx14, hres⟩ := bind_some hres
        refine JL.val (yl_idxT Go.Proofs.Try.underlying61 i35 i35s rfl rfl hx14 rfl (fun w hC => rd_row hC 0 rfl)) rfl ?_
        refine JL.val (yl_loadTn Go.Proofs.Try.underlying35 rfl i35 i35s rfl hx14 (fun w hC => rd_row hC 0 rfl)) rfl ?_
        refine JL.eff (ef_alloc i35 i35z rfl) rfl ?_
        rintro _ _ ⟨g15, rfl, rfl⟩
        refine JL.eff (ef_store_box (i := 1) (v := .agg #[.int .i64 x14.X, .int .i64 x14.Y]) i35 rfl rfl rfl (i35s).symm (Nat.le_of_ble_eq_true rfl) (by simp [Value.cells, Value.oneCell'])) rfl ?_
        rintro _ _ rfl
        refine JL.nil ?_
        refine JE.weak (env' := [(0, .slice a_0 q0.length c_0), (1, .int .i64 q1), (6, .slice a12 x11.length cp13), (7, .int .i64 x10), (8, ptrAt (some ⟨g15, 0, none⟩) 0)]) (es' := [rowT 35 eSPoint a12 x11.length cp13 x11, boxO 35 g15 [.int .i64 x14.X, .int .i64 x14.Y]]) [0, 1] ?_ ⟨rfl, rfl, rfl, rfl, rfl, trivial⟩ (by decide) rfl
        refine JE.code ?_
        refine JX.seq ?_
        refine JX.drawH [(0, .pure), (1, .read), (2, .pure), (3, .pure), (4, .pure), (5, .pure), (6, .read), (7, .must), (8, .pure)] [] [] [0, 1] [] [rowT 35 eSPoint a12 x11.length cp13 x11, boxO 35 g15 [.int .i64 x14.X, .int .i64 x14.Y]] mixedP (by kernel_rfl) (by kernel_rfl) (by decide) rfl rfl ?_
        intro wrr17 Nr17 hFr17
        refine JH.pure rfl (yl_fieldAt (a := some _) Go.Proofs.Try.underlying35 rfl i2 i2n rfl rfl) rfl ?_
        refine JH.read rfl (yl_load1 Go.Proofs.Try.underlying2 rfl rfl (fun w hw => hFr17.box 1 rfl rfl hw) rfl) rfl ?_
        refine JH.pure rfl (yl_move rfl) rfl ?_
        refine JH.pure rfl (yl_move rfl) rfl ?_
        obtain ⟨x18, hx18, hres⟩ := bind_some hres
        refine JH.pure rfl (yl_idxQ Go.Proofs.Try.underlying61 i35 i35s rfl rfl hx18 rfl (rd_arg g_0 hFr17.cl) rfl) rfl ?_
        refine JH.pure rfl (yl_fieldAt Go.Proofs.Try.underlying35 rfl i2 i2n rfl (RdT.someQ (rd_arg g_0 hFr17.cl) hx18 rfl rfl)) rfl ?_
        refine JH.read rfl (yl_loadT1 Go.Proofs.Try.underlying2 rfl rfl hx18 (fun w hw => hFr17.arg g_0 hw) rfl) rfl ?_
        obtain ⟨x19, hx19, hres⟩ := bind_some hres
        refine JH.must rfl (ef_call (T := T128 x19) Go.Proofs.Try.func128 rfl (by kernel_rfl) rfl (fun w hC => c128  hx19)) rfl rfl ?_
        rintro _ _ ⟨_, ⟨rfl, rfl⟩, rfl⟩
        refine JH.pure rfl (yl_assign rfl) rfl ?_
        refine JH.nil ?_
        refine JE.weak (env' := [(0, .slice a_0 q0.length c_0), (1, .int .i64 q1), (6, .slice a12 x11.length cp13), (7, .int .i64 x10), (8, ptrAt (some ⟨g15, 0, none⟩) 0), (9, .int .i64 x19)]) (es' := [rowT 35 eSPoint a12 x11.length cp13 x11, boxO 35 g15 [.int .i64 x14.X, .int .i64 x14.Y]]) [0, 1] ?_ ⟨rfl, rfl, rfl, rfl, rfl, rfl, trivial⟩ (by decide) rfl
        refine JE.code ?_
        refine JX.seq ?_
        refine JX.drawH [(0, .pure), (1, .read), (2, .pure), (3, .pure), (4, .pure), (5, .pure), (6, .read), (7, .must), (8, .pure)] [] [] [0, 1] [] [rowT 35 eSPoint a12 x11.length cp13 x11, boxO 35 g15 [.int .i64 x14.X, .int .i64 x14.Y]] mixedP (by kernel_rfl) (by kernel_rfl) (by decide) rfl rfl ?_
        intro wrr20 Nr20 hFr20
        refine JH.pure rfl (yl_fieldAt (a := some _) Go.Proofs.Try.underlying35 rfl i2 i2n rfl rfl) rfl ?_
        refine JH.read rfl (yl_load1 Go.Proofs.Try.underlying2 rfl rfl (fun w hw => hFr20.box 1 rfl rfl hw) rfl) rfl ?_
        refine JH.pure rfl (yl_move rfl) rfl ?_
        refine JH.pure rfl (yl_move rfl) rfl ?_
        obtain ⟨x21, hx21, hres⟩ := bind_some hres
        refine JH.pure rfl (yl_idxQ Go.Proofs.Try.underlying61 i35 i35s rfl rfl hx21 rfl (rd_arg g_0 hFr20.cl) rfl) rfl ?_
        refine JH.pure rfl (yl_fieldAt Go.Proofs.Try.underlying35 rfl i2 i2n rfl (RdT.someQ (rd_arg g_0 hFr20.cl) hx21 rfl rfl)) rfl ?_
        refine JH.read rfl (yl_loadT1 Go.Proofs.Try.underlying2 rfl rfl hx21 (fun w hw => hFr20.arg g_0 hw) rfl) rfl ?_
        obtain ⟨x22, hx22, hres⟩ := bind_some hres
        refine JH.must rfl (ef_call (T := T128 x22) Go.Proofs.Try.func128 rfl (by kernel_rfl) rfl (fun w hC => c128  hx22)) rfl rfl ?_
        rintro _ _ ⟨_, ⟨rfl, rfl⟩, rfl⟩
        refine JH.pure rfl (yl_assign rfl) rfl ?_
        refine JH.nil ?_
        refine JE.weak (env' := [(0, .slice a_0 q0.length c_0), (1, .int .i64 q1), (6, .slice a12 x11.length cp13), (7, .int .i64 x10), (9, .int .i64 x19), (10, .int .i64 x22)]) (es' := [rowT 35 eSPoint a12 x11.length cp13 x11]) [0] ?_ ⟨rfl, rfl, rfl, rfl, rfl, rfl, trivial⟩ (by decide) rfl
        refine JE.code ?_
        refine JX.seq ?_
        refine JX.region ?_
        refine JL.val (yl_move rfl) rfl ?_
        refine JL.val (yl_move rfl) rfl ?_
        obtain ⟨x23, hx23, hres⟩ := bind_some hres
        refine JL.eff (ef_call (T := T129 x23) Go.Proofs.Try.func129 rfl (by kernel_rfl) rfl (fun w hC => c129  hx23)) rfl ?_
        rintro _ _ ⟨_, ⟨rfl, rfl⟩, rfl⟩
        refine JL.val (yl_move rfl) rfl ?_
        refine JL.val (yl_geq rfl rfl) rfl ?_
        refine JL.nil ?_
        refine JE.weak (env' := [(0, .slice a_0 q0.length c_0), (1, .int .i64 q1), (6, .slice a12 x11.length cp13), (7, .int .i64 x10), (53, .bool (decide (q1 ≤ x23)))]) (es' := [rowT 35 eSPoint a12 x11.length cp13 x11]) [0] ?_ ⟨rfl, rfl, rfl, rfl, rfl, trivial⟩ (by decide) rfl
        refine JE.code ?_
        obtain ⟨j24, hj24, hresj24⟩ := bind_some hres
        refine JX.cut (K := fun J => ∀ (a25 : Option Addr) (cp26 : Nat), J [(0, .slice a_0 q0.length c_0), (1, .int .i64 q1), (6, .slice a25 j24.length cp26), (7, .int .i64 x10)] [rowT 35 eSPoint a25 j24.length cp26 j24]) ?_ ?_
        · intro a25 cp26
          have hres := hresj24
          refine JE.code ?_
          refine JX.region ?_
          refine JL.val (yl_move rfl) rfl ?_
          refine JL.val (yl_add rfl rfl) rfl ?_
          refine JL.val (yl_assign rfl) rfl ?_
          refine JL.nil ?_
          refine JE.cont hres ?_
          exact fun a w h => ⟨a25, cp26, h.weak ⟨rfl, rfl, rfl, rfl, trivial⟩ [0] (by decide) rfl⟩
        · intro K
          rcases cond_some hj24 with ⟨hb, hres⟩ | ⟨hb, hres⟩
          · refine JX.condT rfl hb ?_
            refine JX.region ?_
            refine JL.val (yl_move rfl) rfl ?_
            refine JL.val (yl_move rfl) rfl ?_
            refine JL.val (yl_move rfl) rfl ?_
            obtain ⟨x27, hx27, hres⟩ := bind_some hres
            refine JL.val (yl_idxT Go.Proofs.Try.underlying61 i35 i35s rfl rfl hx27 rfl (fun w hC => rd_arg g_0 hC)) rfl ?_
            refine JL.val (yl_loadTn Go.Proofs.Try.underlying35 rfl i35 i35s rfl hx27 (fun w hC => rd_arg g_0 hC)) rfl ?_
            refine JL.eff (ef_buildSlice (E := 35) (k := eSPoint.k) (us := eSPoint.fl [x27]) rfl (fun w => bsl61_1 x27.X x27.Y w) rfl (by decide)) rfl ?_
            rintro _ _ ⟨a28, rfl, rfl⟩
            obtain ⟨x30, hx30, hres⟩ := bind_some hres
            refine JL.eff (ef_appendT (ix := 0) Go.Proofs.Try.underlying61 i35 i35z i35s rfl i35b0 i35b1 rfl rfl rfl rfl rfl (fun w hC => rd_row hC 1 rfl) hx30) rfl ?_
            rintro _ _ ⟨a31, cp32, rfl, rfl⟩
            refine JL.val (yl_assign rfl) rfl ?_
            refine JL.nil ?_
            refine JE.weak (env' := [(0, .slice a_0 q0.length c_0), (1, .int .i64 q1), (6, .slice a31 x30.length cp32), (7, .int .i64 x10)]) (es' := [rowT 35 eSPoint a31 x30.length cp32 x30]) [0] ?_ ⟨rfl, rfl, rfl, rfl, trivial⟩ (by decide) rfl
            have hj := Option.some.inj hres
            exact JE.weak [0] (K a31 cp32) ⟨(by subst hj; rfl), (by subst hj; rfl), (by subst hj; rfl), (by subst hj; rfl), trivial⟩ (by decide) (by subst hj; rfl)
          · refine JX.condF rfl hb ?_
            refine JX.skip ?_
            have hj := Option.some.inj hres
            exact JE.weak [0] (K a12 cp13) ⟨(by subst hj; rfl), (by subst hj; rfl), (by subst hj; rfl), (by subst hj; rfl), trivial⟩ (by decide) (by subst hj; rfl)
      · refine JX.condF rfl hb ?_
        refine JX.exit ?_
        refine JE.qb rfl ?_
        obtain ⟨b1, hb1⟩ : ∃ b : List SPoint, b = x11 := ⟨_, rfl⟩
        have hy1 : b1 = y1 := by rw [hb1]; exact hox1 _ (Option.some.inj hres).symm
        have hres := hresO1
        rw [← hy1] at hres
        refine JE.weak (env' := [(6, .slice a12 b1.length cp13)]) (es' := [rowT 35 eSPoint a12 b1.length cp13 b1]) [0] ?_ ⟨(by subst hb1; rfl), trivial⟩ (by decide) (by subst hb1; rfl)
        refine JE.code ?_
        refine JX.seq ?_
        refine JX.region ?_
        refine JL.val (yl_move rfl) rfl ?_
        refine JL.val (yl_assign rfl) rfl ?_
        refine JL.val (yl_assign rfl) rfl ?_
        refine JL.nil ?_
        refine JE.code ?_
        refine JX.ret ?_
        obtain rfl := Option.some.inj hres
        refine JE.ret (rs := [.tmp 4, .tmp 5]) (vs := [.slice a12 b1.length cp13, .int .i64 0]) rfl ⟨rfl, rfl, trivial⟩ ?_
        exact fun w' hb hs => ⟨_, _, ⟨a12, b1.length, cp13, rfl, rfl, rfl⟩, rfl, hb, hs.sel [0] _ (by decide) rfl⟩

/- spec.DrawSmoothStroke -/
def sh67 (q0 : List Int) : Option (List SPoint) := Option.bind (sh109 q0) fun x1 => Option.bind (sh119 (Sl00Src.mk q0 x1.at_ x1.seed)) fun x4 => some x4.1
def T67 (r : List SPoint) (v : Value) (rs : List Own) : Prop := ∃ (a0 : Option Addr) (n0 c0 : Nat), r.length = n0 ∧ v = rets [.slice a0 n0 c0] ∧ rs = [rowT 35 eSPoint a0 n0 c0 r]
set_option maxRecDepth 100000 in
theorem c67 {w : World} {q0 : List Int} {a_0 : Option Addr} {n_0 c_0 : Nat} (g_0 : Rd w a_0 (eU8.fl q0)) (l_0 : q0.length = n_0) (k_0 : n_0 ≤ c_0) {r : List SPoint} (hres : sh67 q0 = some r) : Calls Go.Proofs.Try.prog 67 [.slice a_0 n_0 c_0].toArray w (Ret w (T67 r)) := by
  subst l_0
  unfold sh67 at hres
  refine calls_of (n := 6) (M := []) (es := []) Go.Proofs.Try.func67 rfl rfl rfl (Sep.nil _ _ _) ?_
  refine JX.seq ?_
  refine JX.region ?_
  refine JL.val (yl_assign rfl) rfl ?_
  refine JL.nil ?_
  refine JE.code ?_
  refine JX.seq ?_
  refine JX.region ?_
  refine JL.val (yl_move rfl) rfl ?_
  obtain ⟨x1, hx1, hres⟩ := bind_some hres
  refine JL.eff (ef_call (T := T109 a_0 q0.length c_0 x1) Go.Proofs.Try.func109 rfl (by kernel_rfl) rfl (fun w hC => c109 (rd_arg g_0 hC) rfl k_0 hx1)) rfl ?_
  rintro _ _ ⟨_, ⟨g2, rfl, rfl⟩, rfl⟩
  obtain ⟨x4, hx4, hres⟩ := bind_some hres
  refine JL.eff (ef_callms (caps := []) (vs := [ptrAt (some ⟨g2, 0, none⟩) 0]) (T := T119 g2 a_0 q0.length c_0 x4) [0] [] [boxO 162 g2 [.slice a_0 q0.length c_0, .int .i64 x1.at_, .int .u64 x1.seed]] [] rfl Go.Proofs.Try.func119 rfl (by kernel_rfl) rfl (by decide) rfl rfl (fun w N hF hS => c119 (q0 := Sl00Src.mk q0 x1.at_ x1.seed) (RdS.pass0 hF g_0) rfl k_0 hS hx4)) rfl ?_
  rintro _ _ ⟨_, _, ⟨rfl, a5, _, cp6, rfl, rfl, rfl⟩, rfl⟩
  refine JL.val (yl_assign rfl) rfl ?_
  refine JL.nil ?_
  refine JE.weak (env' := [(2, .slice a5 x4.1.length cp6)]) (es' := [rowT 35 eSPoint a5 x4.1.length cp6 x4.1]) [1] ?_ ⟨rfl, trivial⟩ (by decide) rfl
  refine JE.code ?_
  refine JX.ret ?_
  obtain rfl := Option.some.inj hres
  refine JE.ret (rs := [.tmp 2]) (vs := [.slice a5 x4.1.length cp6]) rfl ⟨rfl, trivial⟩ ?_
  exact fun w' hb hs => ⟨_, _, ⟨a5, x4.1.length, cp6, rfl, rfl, rfl⟩, rfl, hb, hs.sel [0] _ (by decide) rfl⟩

/- slices.Clone[[]impl.Point,impl.Point] -/
def sh130 (q0 : List SPoint) : Option (List SPoint) := Option.bind (appL ([] : List SPoint) q0) fun x4 => some x4
def T130 (r : List SPoint) (v : Value) (rs : List Own) : Prop := ∃ (a0 : Option Addr) (n0 c0 : Nat), r.length = n0 ∧ v = rets [.slice a0 n0 c0] ∧ rs = [rowT 35 eSPoint a0 n0 c0 r]
set_option maxRecDepth 100000 in
theorem c130 {w : World} {q0 : List SPoint} {a_0 : Option Addr} {n_0 c_0 : Nat} (g_0 : Rd w a_0 (eSPoint.fl q0)) (l_0 : q0.length = n_0) (k_0 : n_0 ≤ c_0) {r : List SPoint} (hres : sh130 q0 = some r) : Calls Go.Proofs.Try.prog 130 [.slice a_0 n_0 c_0].toArray w (Ret w (T130 r)) := by
  subst l_0
  unfold sh130 at hres
  refine calls_of (n := 8) (M := []) (es := []) Go.Proofs.Try.func130 rfl rfl rfl (Sep.nil _ _ _) ?_
  refine JX.seq ?_
  refine JX.region ?_
  refine JL.val (yl_assign rfl) rfl ?_
  refine JL.nil ?_
  refine JE.code ?_
  refine JX.seq ?_
  refine JX.seq ?_
  refine JX.region ?_
  refine JL.val (yl_move rfl) rfl ?_
  refine JL.val (yl_nilQ Go.Proofs.Try.underlying61 rfl rfl) rfl ?_
  refine JL.nil ?_
  refine JE.code ?_
  rcases nilQ g_0 with ⟨hb, hx⟩ | hb
  · replace hres : some ([] : List SPoint) = some r := by rw [hx] at hres; simpa [appL] using hres
    refine JX.condT rfl hb ?_
    refine JX.seq ?_
    refine JX.region ?_
    refine JL.val (yl_assign rfl) rfl ?_
    refine JL.nil ?_
    refine JE.code ?_
    refine JX.ret ?_
    refine JE.nilrow 35 eSPoint ?_
    obtain rfl := Option.some.inj hres
    refine JE.ret (rs := [.tmp 2]) (vs := [.slice none 0 0]) rfl ⟨rfl, trivial⟩ ?_
    exact fun w' hb hs => ⟨_, _, ⟨none, 0, 0, rfl, rfl, rfl⟩, rfl, hb, hs.sel [0] _ (by decide) rfl⟩
  · refine JX.condF rfl hb ?_
    refine JX.skip ?_
    refine JE.code ?_
    refine JX.seq ?_
    refine JX.region ?_
    refine JL.eff (ef_buildSlice (E := 35) (k := eSPoint.k) (us := eSPoint.fl ([] : List SPoint)) rfl (fun w => bsl61_0  w) rfl (by decide)) rfl ?_
    rintro _ _ ⟨a2, rfl, rfl⟩
    refine JL.val (yl_move rfl) rfl ?_
    obtain ⟨x4, hx4, hres⟩ := bind_some hres
    refine JL.eff (ef_appendT (ix := 0) Go.Proofs.Try.underlying61 i35 i35z i35s rfl i35b0 i35b1 rfl rfl rfl rfl rfl (fun w hC => rd_arg g_0 hC) hx4) rfl ?_
    rintro _ _ ⟨a5, cp6, rfl, rfl⟩
    refine JL.val (yl_assign rfl) rfl ?_
    refine JL.nil ?_
    refine JE.weak (env' := [(2, .slice a5 x4.length cp6)]) (es' := [rowT 35 eSPoint a5 x4.length cp6 x4]) [0] ?_ ⟨rfl, trivial⟩ (by decide) rfl
    refine JE.code ?_
    refine JX.ret ?_
    obtain rfl := Option.some.inj hres
    refine JE.ret (rs := [.tmp 2]) (vs := [.slice a5 x4.length cp6]) rfl ⟨rfl, trivial⟩ ?_
    exact fun w' hb hs => ⟨_, _, ⟨a5, x4.length, cp6, rfl, rfl, rfl⟩, rfl, hb, hs.sel [0] _ (by decide) rfl⟩

/- impl.SmoothStroke -/
def sh68_1 (q0 : List SPoint) : (Int × List SPoint) → Option ((Int × List SPoint) ⊕ (List SPoint))
  | (x8, x9) => bif decide ((w64 (x8 + 1)) < (q0.length : Int)) then (Option.bind (getI q0 (w64 (x8 - 1))) fun x12 => Option.bind (getI q0 x8) fun x13 => Option.bind (getI q0 (w64 (x8 + 1))) fun x14 => Option.bind (getI x9 x8) fun x21 => some (.inl (w64 (x8 + 1), x9.set (x8).toNat (SPoint.mk (w64 ((w64 ((w64 (x12.X + (w64 (2 * x13.X)))) + x14.X)).tdiv 4)) (w64 ((w64 ((w64 (x12.Y + (w64 (2 * x13.Y)))) + x14.Y)).tdiv 4)))))) else (some (.inr x9))
def sh68 (q0 : List SPoint) : Option (List SPoint × Int) := Option.bind (sh78 q0) fun x1 => bif !x1 then (some (([] : List SPoint), 1)) else (Option.bind (sh130 q0) fun x3 => Option.bind (iter (sh68_1 q0) (1, x3)) fun b1 => (some (b1, 0)))
def T68 (r : List SPoint × Int) (v : Value) (rs : List Own) : Prop := ∃ (a0 : Option Addr) (n0 c0 : Nat), r.1.length = n0 ∧ v = rets [.slice a0 n0 c0, .int .i64 r.2] ∧ rs = [rowT 35 eSPoint a0 n0 c0 r.1]
set_option maxRecDepth 100000 in
theorem c68 {w : World} {q0 : List SPoint} {a_0 : Option Addr} {n_0 c_0 : Nat} (g_0 : Rd w a_0 (eSPoint.fl q0)) (l_0 : q0.length = n_0) (k_0 : n_0 ≤ c_0) {r : List SPoint × Int} (hres : sh68 q0 = some r) : Calls Go.Proofs.Try.prog 68 [.slice a_0 n_0 c_0].toArray w (Ret w (T68 r)) := by
  subst l_0
  unfold sh68 at hres
  refine calls_of (n := 60) (M := []) (es := []) Go.Proofs.Try.func68 rfl rfl rfl (Sep.nil _ _ _) ?_
  refine JX.seq ?_
  refine JX.region ?_
  refine JL.val (yl_assign rfl) rfl ?_
  refine JL.val (yl_assign rfl) rfl ?_
  refine JL.nil ?_
  refine JE.code ?_
  refine JX.seq ?_
  refine JX.seq ?_
  refine JX.region ?_
  refine JL.val (yl_move rfl) rfl ?_
  obtain ⟨x1, hx1, hres⟩ := bind_some hres
  refine JL.eff (ef_call (T := T78 x1) Go.Proofs.Try.func78 rfl (by kernel_rfl) rfl (fun w hC => c78 (rd_arg g_0 hC) rfl k_0 hx1)) rfl ?_
  rintro _ _ ⟨_, ⟨rfl, rfl⟩, rfl⟩
  refine JL.val (yl_not rfl) rfl ?_
  refine JL.nil ?_
  refine JE.code ?_
  rcases cond_some hres with ⟨hb, hres⟩ | ⟨hb, hres⟩
  · refine JX.condT rfl hb ?_
    refine JX.seq ?_
    refine JX.region ?_
    refine JL.val (yl_assign rfl) rfl ?_
    refine JL.val (yl_assign rfl) rfl ?_
    refine JL.nil ?_
    refine JE.code ?_
    refine JX.ret ?_
    refine JE.nilrow 35 eSPoint ?_
    obtain rfl := Option.some.inj hres
    refine JE.ret (rs := [.tmp 2, .tmp 3]) (vs := [.slice none 0 0, .int .i64 1]) rfl ⟨rfl, rfl, trivial⟩ ?_
    exact fun w' hb hs => ⟨_, _, ⟨none, 0, 0, rfl, rfl, rfl⟩, rfl, hb, hs.sel [0] _ (by decide) rfl⟩
  · refine JX.condF rfl hb ?_
    refine JX.skip ?_
    refine JE.code ?_
    refine JX.seq ?_
    refine JX.region ?_
    refine JL.val (yl_move rfl) rfl ?_
    obtain ⟨x3, hx3, hres⟩ := bind_some hres
    refine JL.eff (ef_call (T := T130 x3) Go.Proofs.Try.func130 rfl (by kernel_rfl) rfl (fun w hC => c130 (rd_arg g_0 hC) rfl k_0 hx3)) rfl ?_
    rintro _ _ ⟨_, ⟨a4, _, cp5, rfl, rfl, rfl⟩, rfl⟩
    refine JL.val (yl_assign rfl) rfl ?_
    refine JL.nil ?_
    refine JE.code ?_
    refine JX.seq ?_
    refine JX.seq ?_
    refine JX.region ?_
    refine JL.val (yl_assign rfl) rfl ?_
    refine JL.nil ?_
    refine JE.code ?_
    refine JX.block ?_
    obtain ⟨y1, hy1, hresO1⟩ := bind_some hres
    refine JX.loop (I := fun (s1 : Int × List SPoint) aa ww => ∃ (l7 : s1.2.length = x3.length), St w [] 60 [(0, .slice a_0 q0.length c_0), (4, .slice a4 x3.length cp5), (5, .int .i64 s1.1)] [rowT 35 eSPoint a4 x3.length cp5 s1.2] aa ww) (sh68_1 q0) hy1 (fun a w h => ⟨rfl, h.weak ⟨rfl, rfl, rfl, trivial⟩ [0] (by decide) rfl⟩) ?_
    rintro ⟨x8, x9⟩ o1 hres hox1 aa ww ⟨l10, hS⟩
    refine (?_ : JX Go.Proofs.Try.prog w [] 60 _ _ [(0, .slice a_0 q0.length c_0), (4, .slice a4 x3.length cp5), (5, .int .i64 x8)] [rowT 35 eSPoint a4 x3.length cp5 x9] _) aa ww hS
    clear hS
    simp only [sh68_1] at hres
    refine JX.seq ?_
    refine JX.seq ?_
    refine JX.region ?_
    refine JL.val (yl_move rfl) rfl ?_
    refine JL.val (yl_add rfl rfl) rfl ?_
    refine JL.val (yl_move rfl) rfl ?_
    refine JL.val (yl_len_slice Go.Proofs.Try.underlying61 rfl) rfl ?_
    refine JL.val (yl_lss rfl rfl) rfl ?_
    refine JL.nil ?_
    refine JE.weak (env' := [(0, .slice a_0 q0.length c_0), (4, .slice a4 x3.length cp5), (5, .int .i64 x8), (18, .bool (decide ((w64 (x8 + 1)) < (q0.length : Int))))]) (es' := [rowT 35 eSPoint a4 x3.length cp5 x9]) [0] ?_ ⟨rfl, rfl, rfl, rfl, trivial⟩ (by decide) rfl
    refine JE.code ?_
    rcases cond_some hres with ⟨hb, hres⟩ | ⟨hb, hres⟩
    · refine JX.condT rfl hb ?_
      refine JX.skip ?_
      refine JE.code ?_
      refine JX.seq ?_
      refine JX.block ?_
      refine JX.seq ?_
      refine JX.drawH [(0, .pure), (1, .pure), (2, .pure), (3, .pure), (4, .read), (5, .pure), (6, .pure), (7, .pure), (8, .read), (9, .pure), (10, .pure), (11, .pure), (12, .pure), (13, .read), (14, .three 15 16), (17, .must), (18, .must), (19, .must)] [17, 18, 19] [] [0] [] [rowT 35 eSPoint a4 x3.length cp5 x9] mixedP (by kernel_rfl) (by kernel_rfl) (by decide) rfl rfl ?_
      intro wrr11 Nr11 hFr11
      refine JH.pure rfl (yl_move rfl) rfl ?_
      refine JH.pure rfl (yl_move rfl) rfl ?_
      refine JH.pure rfl (yl_sub rfl rfl) rfl ?_
      obtain ⟨x12, hx12, hres⟩ := bind_some hres
      refine JH.pure rfl (yl_idxQ Go.Proofs.Try.underlying61 i35 i35s rfl rfl hx12 rfl (rd_arg g_0 hFr11.cl) rfl) rfl ?_
      refine JH.read rfl (yl_loadTn Go.Proofs.Try.underlying35 rfl i35 i35s rfl hx12 (fun w hw => hFr11.arg g_0 hw)) rfl ?_
      refine JH.pure rfl (yl_move rfl) rfl ?_
      refine JH.pure rfl (yl_move rfl) rfl ?_
      obtain ⟨x13, hx13, hres⟩ := bind_some hres
      refine JH.pure rfl (yl_idxQ Go.Proofs.Try.underlying61 i35 i35s rfl rfl hx13 rfl (rd_arg g_0 hFr11.cl) rfl) rfl ?_
      refine JH.read rfl (yl_loadTn Go.Proofs.Try.underlying35 rfl i35 i35s rfl hx13 (fun w hw => hFr11.arg g_0 hw)) rfl ?_
      refine JH.pure rfl (yl_move rfl) rfl ?_
      refine JH.pure rfl (yl_move rfl) rfl ?_
      refine JH.pure rfl (yl_add rfl rfl) rfl ?_
      obtain ⟨x14, hx14, hres⟩ := bind_some hres
      refine JH.pure rfl (yl_idxQ Go.Proofs.Try.underlying61 i35 i35s rfl rfl hx14 rfl (rd_arg g_0 hFr11.cl) rfl) rfl ?_
      refine JH.read rfl (yl_loadTn Go.Proofs.Try.underlying35 rfl i35 i35s rfl hx14 (fun w hw => hFr11.arg g_0 hw)) rfl ?_
      refine JH.cut (K := fun J => ∀ (g15 : Nat) (g17 : Nat) (g19 : Nat), J [(0, .slice a_0 q0.length c_0), (4, .slice a4 x3.length cp5), (5, .int .i64 x8), (6, ptrAt (some ⟨g15, 0, none⟩) 0), (7, ptrAt (some ⟨g17, 0, none⟩) 0), (8, ptrAt (some ⟨g19, 0, none⟩) 0), (25, .agg #[.int .i64 x12.X, .int .i64 x12.Y]), (29, .agg #[.int .i64 x13.X, .int .i64 x13.Y]), (34, .agg #[.int .i64 x14.X, .int .i64 x14.Y])] [boxO 35 g15 [.int .i64 0, .int .i64 0], boxO 35 g17 [.int .i64 0, .int .i64 0], boxO 35 g19 [.int .i64 0, .int .i64 0]]) 1 ?_ ?_
      · intro g15 g17 g19
        refine JH.must rfl (ef_store_box (i := 0) (v := .agg #[.int .i64 x12.X, .int .i64 x12.Y]) i35 rfl rfl rfl (i35s).symm (Nat.le_of_ble_eq_true rfl) (by simp [Value.cells, Value.oneCell'])) rfl rfl ?_
        rintro _ _ rfl
        refine JH.must rfl (ef_store_box (i := 1) (v := .agg #[.int .i64 x13.X, .int .i64 x13.Y]) i35 rfl rfl rfl (i35s).symm (Nat.le_of_ble_eq_true rfl) (by simp [Value.cells, Value.oneCell'])) rfl rfl ?_
        rintro _ _ rfl
        refine JH.must rfl (ef_store_box (i := 2) (v := .agg #[.int .i64 x14.X, .int .i64 x14.Y]) i35 rfl rfl rfl (i35s).symm (Nat.le_of_ble_eq_true rfl) (by simp [Value.cells, Value.oneCell'])) rfl rfl ?_
        rintro _ _ rfl
        refine JH.nil ?_
        refine JE.weak (env' := [(0, .slice a_0 q0.length c_0), (4, .slice a4 x3.length cp5), (5, .int .i64 x8), (6, ptrAt (some ⟨g15, 0, none⟩) 0), (7, ptrAt (some ⟨g17, 0, none⟩) 0), (8, ptrAt (some ⟨g19, 0, none⟩) 0)]) (es' := [rowT 35 eSPoint a4 x3.length cp5 x9, boxO 35 g15 [.int .i64 x12.X, .int .i64 x12.Y], boxO 35 g17 [.int .i64 x13.X, .int .i64 x13.Y], boxO 35 g19 [.int .i64 x14.X, .int .i64 x14.Y]]) [0, 1, 2, 3] ?_ ⟨rfl, rfl, rfl, rfl, rfl, rfl, trivial⟩ (by decide) rfl
        refine JE.code ?_
        refine JX.region ?_
        refine JL.val (yl_move rfl) rfl ?_
        refine JL.val (yl_move rfl) rfl ?_
        refine JL.val (yl_fieldAt (a := some _) Go.Proofs.Try.underlying35 rfl i2 i2n rfl rfl) rfl ?_
        refine JL.val (yl_load1 Go.Proofs.Try.underlying2 rfl rfl (fun w hC => rd_box hC 1 rfl) rfl) rfl ?_
        refine JL.val (yl_fieldAt (a := some _) Go.Proofs.Try.underlying35 rfl i2 i2n rfl rfl) rfl ?_
        refine JL.val (yl_load1 Go.Proofs.Try.underlying2 rfl rfl (fun w hC => rd_box hC 2 rfl) rfl) rfl ?_
        refine JL.val (yl_mul rfl rfl) rfl ?_
        refine JL.val (yl_add rfl rfl) rfl ?_
        refine JL.val (yl_fieldAt (a := some _) Go.Proofs.Try.underlying35 rfl i2 i2n rfl rfl) rfl ?_
        refine JL.val (yl_load1 Go.Proofs.Try.underlying2 rfl rfl (fun w hC => rd_box hC 3 rfl) rfl) rfl ?_
        refine JL.val (yl_add rfl rfl) rfl ?_
        refine JL.val (yl_quo rfl rfl (by decide)) rfl ?_
        refine JL.val (yl_fieldAt (a := some _) Go.Proofs.Try.underlying35 rfl i2 i2n rfl rfl) rfl ?_
        refine JL.val (yl_load1 Go.Proofs.Try.underlying2 rfl rfl (fun w hC => rd_box hC 1 rfl) rfl) rfl ?_
        refine JL.val (yl_fieldAt (a := some _) Go.Proofs.Try.underlying35 rfl i2 i2n rfl rfl) rfl ?_
        refine JL.val (yl_load1 Go.Proofs.Try.underlying2 rfl rfl (fun w hC => rd_box hC 2 rfl) rfl) rfl ?_
        refine JL.val (yl_mul rfl rfl) rfl ?_
        refine JL.val (yl_add rfl rfl) rfl ?_
        refine JL.val (yl_fieldAt (a := some _) Go.Proofs.Try.underlying35 rfl i2 i2n rfl rfl) rfl ?_
        refine JL.val (yl_load1 Go.Proofs.Try.underlying2 rfl rfl (fun w hC => rd_box hC 3 rfl) rfl) rfl ?_
        refine JL.val (yl_add rfl rfl) rfl ?_
        refine JL.val (yl_quo rfl rfl (by decide)) rfl ?_
        refine JL.val (yl_build rfl (fun w => bld35_0_1 (w64 ((w64 ((w64 (x12.X + (w64 (2 * x13.X)))) + x14.X)).tdiv 4)) (w64 ((w64 ((w64 (x12.Y + (w64 (2 * x13.Y)))) + x14.Y)).tdiv 4)) w)) rfl ?_
        obtain ⟨x21, hx21, hres⟩ := bind_some hres
        refine JL.val (yl_idxT Go.Proofs.Try.underlying61 i35 i35s rfl rfl hx21 l10 (fun w hC => rd_row hC 0 rfl)) rfl ?_
        refine JL.eff (ef_storeT (ix := 0) (u := SPoint.mk (w64 ((w64 ((w64 (x12.X + (w64 (2 * x13.X)))) + x14.X)).tdiv 4)) (w64 ((w64 ((w64 (x12.Y + (w64 (2 * x13.Y)))) + x14.Y)).tdiv 4))) i35 i35s rfl rfl rfl hx21 rfl) rfl ?_
        rintro _ _ rfl
        refine JL.nil ?_
        refine JE.weak (env' := [(0, .slice a_0 q0.length c_0), (4, .slice a4 x3.length cp5), (5, .int .i64 x8)]) (es' := [rowT 35 eSPoint a4 x3.length cp5 (x9.set (x8).toNat (SPoint.mk (w64 ((w64 ((w64 (x12.X + (w64 (2 * x13.X)))) + x14.X)).tdiv 4)) (w64 ((w64 ((w64 (x12.Y + (w64 (2 * x13.Y)))) + x14.Y)).tdiv 4))))]) [0] ?_ ⟨rfl, rfl, rfl, trivial⟩ (by decide) rfl
        refine JE.code ?_
        refine JX.region ?_
        refine JL.val (yl_move rfl) rfl ?_
        refine JL.val (yl_add rfl rfl) rfl ?_
        refine JL.val (yl_assign rfl) rfl ?_
        refine JL.nil ?_
        refine JE.cont hres ?_
        exact fun a w h => ⟨(List.length_set.trans l10), h.weak ⟨rfl, rfl, rfl, trivial⟩ [0] (by decide) rfl⟩
      · intro K
        refine JH.three ?_ ?_ ?_
        · refine JH.must rfl (ef_alloc i35 i35z rfl) rfl rfl ?_
          rintro _ _ ⟨g15, rfl, rfl⟩
          refine JH.two ?_ ?_
          · refine JH.must rfl (ef_alloc i35 i35z rfl) rfl rfl ?_
            rintro _ _ ⟨g17, rfl, rfl⟩
            refine JH.must rfl (ef_alloc i35 i35z rfl) rfl rfl ?_
            rintro _ _ ⟨g19, rfl, rfl⟩
            exact JH.weak [0, 1, 2] (K g15 g17 g19) ⟨rfl, rfl, rfl, rfl, rfl, rfl, rfl, rfl, rfl, trivial⟩ (by decide) rfl
          · refine JH.must rfl (ef_alloc i35 i35z rfl) rfl rfl ?_
            rintro _ _ ⟨g19, rfl, rfl⟩
            refine JH.must rfl (ef_alloc i35 i35z rfl) rfl rfl ?_
            rintro _ _ ⟨g17, rfl, rfl⟩
            exact JH.weak [0, 2, 1] (K g15 g17 g19) ⟨rfl, rfl, rfl, rfl, rfl, rfl, rfl, rfl, rfl, trivial⟩ (by decide) rfl
        · refine JH.must rfl (ef_alloc i35 i35z rfl) rfl rfl ?_
          rintro _ _ ⟨g17, rfl, rfl⟩
          refine JH.two ?_ ?_
          · refine JH.must rfl (ef_alloc i35 i35z rfl) rfl rfl ?_
            rintro _ _ ⟨g15, rfl, rfl⟩
            refine JH.must rfl (ef_alloc i35 i35z rfl) rfl rfl ?_
            rintro _ _ ⟨g19, rfl, rfl⟩
            exact JH.weak [1, 0, 2] (K g15 g17 g19) ⟨rfl, rfl, rfl, rfl, rfl, rfl, rfl, rfl, rfl, trivial⟩ (by decide) rfl
          · refine JH.must rfl (ef_alloc i35 i35z rfl) rfl rfl ?_
            rintro _ _ ⟨g19, rfl, rfl⟩
            refine JH.must rfl (ef_alloc i35 i35z rfl) rfl rfl ?_
            rintro _ _ ⟨g15, rfl, rfl⟩
            exact JH.weak [2, 0, 1] (K g15 g17 g19) ⟨rfl, rfl, rfl, rfl, rfl, rfl, rfl, rfl, rfl, trivial⟩ (by decide) rfl
        · refine JH.must rfl (ef_alloc i35 i35z rfl) rfl rfl ?_
          rintro _ _ ⟨g19, rfl, rfl⟩
          refine JH.two ?_ ?_
          · refine JH.must rfl (ef_alloc i35 i35z rfl) rfl rfl ?_
            rintro _ _ ⟨g15, rfl, rfl⟩
            refine JH.must rfl (ef_alloc i35 i35z rfl) rfl rfl ?_
            rintro _ _ ⟨g17, rfl, rfl⟩
            exact JH.weak [1, 2, 0] (K g15 g17 g19) ⟨rfl, rfl, rfl, rfl, rfl, rfl, rfl, rfl, rfl, trivial⟩ (by decide) rfl
          · refine JH.must rfl (ef_alloc i35 i35z rfl) rfl rfl ?_
            rintro _ _ ⟨g17, rfl, rfl⟩
            refine JH.must rfl (ef_alloc i35 i35z rfl) rfl rfl ?_
            rintro _ _ ⟨g15, rfl, rfl⟩
            exact JH.weak [2, 1, 0] (K g15 g17 g19) ⟨rfl, rfl, rfl, rfl, rfl, rfl, rfl, rfl, rfl, trivial⟩ (by decide) rfl
    · refine JX.condF rfl hb ?_
      refine JX.exit ?_
      refine JE.qb rfl ?_
      obtain ⟨b1, hb1⟩ : ∃ b : List SPoint, b = x9 := ⟨_, rfl⟩
      have hy1 : b1 = y1 := by rw [hb1]; exact hox1 _ (Option.some.inj hres).symm
      have hres := hresO1
      rw [← hy1] at hres
      have l22 : b1.length = x3.length := by subst hb1; exact l10
      refine JE.weak (env' := [(4, .slice a4 x3.length cp5)]) (es' := [rowT 35 eSPoint a4 x3.length cp5 b1]) [0] ?_ ⟨(by subst hb1; rfl), trivial⟩ (by decide) (by subst hb1; rfl)
      refine JE.code ?_
      refine JX.seq ?_
      refine JX.region ?_
      refine JL.val (yl_move rfl) rfl ?_
      refine JL.val (yl_assign rfl) rfl ?_
      refine JL.val (yl_assign rfl) rfl ?_
      refine JL.nil ?_
      refine JE.code ?_
      refine JX.ret ?_
      obtain rfl := Option.some.inj hres
      refine JE.ret (rs := [.tmp 2, .tmp 3]) (vs := [.slice a4 x3.length cp5, .int .i64 0]) rfl ⟨rfl, rfl, trivial⟩ ?_
      exact fun w' hb hs => ⟨_, _, ⟨a4, x3.length, cp5, l22, rfl, rfl⟩, rfl, hb, hs.sel [0] _ (by decide) rfl⟩

end Go.Sh
