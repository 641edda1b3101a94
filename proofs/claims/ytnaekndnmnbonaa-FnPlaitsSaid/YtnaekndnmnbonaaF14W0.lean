/- Walks through functions that the law reaches, printed by program. -/
import Derived.Test.YtnaekndnmnbonaaF14T
set_option linter.unusedVariables false
set_option linter.unusedSimpArgs false
namespace Go.Sh
open Go Go.RowKit
/- laws.f6big -/
def sh62 (q0 : List Int) : Option (Bool) := some (decide (4096 < (q0.length : Int)))
def T62 (r : Bool) (v : Value) (rs : List Own) : Prop := v = rets [.bool r] ∧ rs = []
set_option maxRecDepth 100000 in
theorem c62 {w : World} {q0 : List Int} {a_0 : Option Addr} {n_0 c_0 : Nat} (g_0 : Rd w a_0 (eU8.fl q0)) (l_0 : q0.length = n_0) (k_0 : n_0 ≤ c_0) {r : Bool} (hres : sh62 q0 = some r) : Calls Go.Proofs.Try.prog 62 [.slice a_0 n_0 c_0].toArray w (Ret w (T62 r)) := by
  subst l_0
  unfold sh62 at hres
  refine calls_of (n := 6) (M := []) (es := []) Go.Proofs.Try.func62 rfl rfl rfl (Sep.nil _ _ _) ?_
  refine JX.seq ?_
  refine JX.region ?_
  refine JL.val (yl_assign rfl) rfl ?_
  refine JL.nil ?_
  refine JE.code ?_
  refine JX.seq ?_
  refine JX.region ?_
  refine JL.val (yl_move rfl) rfl ?_
  refine JL.val (yl_len_slice Go.Proofs.Try.underlying78 rfl) rfl ?_
  refine JL.val (yl_gtr rfl rfl) rfl ?_
  refine JL.val (yl_assign rfl) rfl ?_
  refine JL.nil ?_
  refine JE.weak (env' := [(2, .bool (decide (4096 < (q0.length : Int))))]) (es' := []) [] ?_ ⟨rfl, trivial⟩ (by decide) rfl
  refine JE.code ?_
  refine JX.ret ?_
  obtain rfl := Option.some.inj hres
  refine JE.ret (rs := [.tmp 2]) (vs := [.bool (decide (4096 < (q0.length : Int)))]) rfl ⟨rfl, trivial⟩ ?_
  exact fun w' hb hs => ⟨_, _, ⟨rfl, rfl⟩, rfl, hb, hs.sel [] _ (by decide) rfl⟩

/- spec.l00From -/
def sh133 (q0 : List Int) : Option (Sl00Src) := some (Sl00Src.mk q0 0 0)
def T133 (a_0 : Option Addr) (n_0 c_0 : Nat) (r : Sl00Src) (v : Value) (rs : List Own) : Prop := ∃ (gr0 : Nat), v = rets [ptrAt (some ⟨gr0, 0, none⟩) 0] ∧ rs = [boxO 176 gr0 [.slice a_0 n_0 c_0, .int .i64 r.at_, .int .u64 r.seed]]
set_option maxRecDepth 100000 in
theorem c133 {w : World} {q0 : List Int} {a_0 : Option Addr} {n_0 c_0 : Nat} (g_0 : Rd w a_0 (eU8.fl q0)) (l_0 : q0.length = n_0) (k_0 : n_0 ≤ c_0) {r : Sl00Src} (hres : sh133 q0 = some r) : Calls Go.Proofs.Try.prog 133 [.slice a_0 n_0 c_0].toArray w (Ret w (T133 a_0 n_0 c_0 r)) := by
  subst l_0
  unfold sh133 at hres
  refine calls_of (n := 6) (M := []) (es := []) Go.Proofs.Try.func133 rfl rfl rfl (Sep.nil _ _ _) ?_
  refine JX.seq ?_
  refine JX.region ?_
  refine JL.val (yl_assign rfl) rfl ?_
  refine JL.nil ?_
  refine JE.code ?_
  refine JX.seq ?_
  refine JX.region ?_
  refine JL.val (yl_move rfl) rfl ?_
  refine JL.val (yl_build rfl (fun w => bld176_0 a_0 q0.length c_0 w)) rfl ?_
  refine JL.eff (ef_box rfl rfl) rfl ?_
  rintro _ _ ⟨g1, rfl, rfl⟩
  refine JL.val (yl_assign rfl) rfl ?_
  refine JL.nil ?_
  refine JE.weak (env' := [(2, ptrAt (some ⟨g1, 0, none⟩) 0)]) (es' := [boxO 176 g1 [.slice a_0 q0.length c_0, .int .i64 0, .int .u64 0]]) [0] ?_ ⟨rfl, trivial⟩ (by decide) rfl
  refine JE.code ?_
  refine JX.ret ?_
  obtain rfl := Option.some.inj hres
  refine JE.ret (rs := [.tmp 2]) (vs := [ptrAt (some ⟨g1, 0, none⟩) 0]) rfl ⟨rfl, trivial⟩ ?_
  exact fun w' hb hs => ⟨_, _, ⟨g1, rfl, rfl⟩, rfl, hb, hs.sel [0] _ (by decide) rfl⟩

/- (*spec.l00Src).next -/
def sh180 (q0 : Sl00Src) : Option (Int × Int × Int) := Option.bind (bif decide (q0.at_ < (q0.code.length : Int)) then (Option.bind (getI q0.code q0.at_) fun x5 => some (w64 (x5))) else (some 0)) fun j2 => (bif decide ((w64 (q0.at_ + 1)) ≤ (q0.code.length : Int)) then (some (j2, w64 (q0.at_ + 1), IntKind.u64.wrap ((IntKind.u64.wrap ((IntKind.u64.wrap (q0.seed * 6364136223846793005)) + (IntKind.u64.wrap (j2)))) + 1442695040888963407))) else (some (w64 (andI .u64 ((IntKind.u64.wrap ((IntKind.u64.wrap ((IntKind.u64.wrap (q0.seed * 6364136223846793005)) + (IntKind.u64.wrap (j2)))) + 1442695040888963407)) / 2 ^ 40) 255), w64 (q0.at_ + 1), IntKind.u64.wrap ((IntKind.u64.wrap ((IntKind.u64.wrap (q0.seed * 6364136223846793005)) + (IntKind.u64.wrap (j2)))) + 1442695040888963407))))
def T180 (gb_0 : Nat) (a_0_0 : Option Addr) (n_0_0 c_0_0 : Nat) (r : Int × Int × Int) (v : Value) (es' rs : List Own) : Prop := es' = [boxO 176 gb_0 [.slice a_0_0 n_0_0 c_0_0, .int .i64 r.2.1, .int .u64 r.2.2]] ∧ v = rets [.int .i64 r.1] ∧ rs = []
set_option maxRecDepth 100000 in
theorem c180 {w : World} {M : List Nat} {q0 : Sl00Src} {gb_0 : Nat} {a_0_0 : Option Addr} {n_0_0 c_0_0 : Nat} (g_0_0 : RdS M w a_0_0 (eU8.fl q0.code)) (l_0_0 : q0.code.length = n_0_0) (k_0_0 : n_0_0 ≤ c_0_0) (gs : Sep w.heap.size M w [boxO 176 gb_0 [.slice a_0_0 n_0_0 c_0_0, .int .i64 q0.at_, .int .u64 q0.seed]]) {r : Int × Int × Int} (hres : sh180 q0 = some r) : Calls Go.Proofs.Try.prog 180 [ptrAt (some ⟨gb_0, 0, none⟩) 0].toArray w (RetMs w M (T180 gb_0 a_0_0 q0.code.length c_0_0 r)) := by
  subst l_0_0
  unfold sh180 at hres
  refine calls_of (n := 62) (M := M) (es := [boxO 176 gb_0 [.slice a_0_0 q0.code.length c_0_0, .int .i64 q0.at_, .int .u64 q0.seed]]) Go.Proofs.Try.func180 rfl rfl rfl gs ?_
  refine JX.seq ?_
  refine JX.region ?_
  refine JL.val (yl_assign rfl) rfl ?_
  refine JL.nil ?_
  refine JE.code ?_
  refine JX.seq ?_
  refine JX.region ?_
  refine JL.val (yl_assign rfl) rfl ?_
  refine JL.nil ?_
  refine JE.code ?_
  refine JX.seq ?_
  refine JX.seq ?_
  refine JX.drawH [(0, .pure), (1, .pure), (2, .pure), (3, .read), (4, .pure), (5, .pure), (6, .pure), (7, .read), (8, .pure), (9, .pure)] [] [] [0] [] [boxO 176 gb_0 [.slice a_0_0 q0.code.length c_0_0, .int .i64 q0.at_, .int .u64 q0.seed]] mixedP (by kernel_rfl) (by kernel_rfl) (by decide) rfl rfl ?_
  intro wrr1 Nr1 hFr1
  refine JH.pure rfl (yl_move rfl) rfl ?_
  refine JH.pure rfl (yl_nilCheckAt (a := some _) rfl rfl) rfl ?_
  refine JH.pure rfl (yl_fieldAt (a := some _) Go.Proofs.Try.underlying176 rfl i3 i3n rfl rfl) rfl ?_
  refine JH.read rfl (yl_load1 Go.Proofs.Try.underlying3 rfl rfl (fun w hw => hFr1.box 0 rfl rfl hw) rfl) rfl ?_
  refine JH.pure rfl (yl_move rfl) rfl ?_
  refine JH.pure rfl (yl_nilCheckAt (a := some _) rfl rfl) rfl ?_
  refine JH.pure rfl (yl_fieldAt (a := some _) Go.Proofs.Try.underlying176 rfl i78 i78n rfl rfl) rfl ?_
  refine JH.read rfl (yl_load1 Go.Proofs.Try.underlying78 rfl rfl (fun w hw => hFr1.box 0 rfl rfl hw) rfl) rfl ?_
  refine JH.pure rfl (yl_len_slice Go.Proofs.Try.underlying78 rfl) rfl ?_
  refine JH.pure rfl (yl_lss rfl rfl) rfl ?_
  refine JH.nil ?_
  refine JE.weak (env' := [(0, ptrAt (some ⟨gb_0, 0, none⟩) 0), (3, .int .i64 0), (13, .bool (decide (q0.at_ < (q0.code.length : Int))))]) (es' := [boxO 176 gb_0 [.slice a_0_0 q0.code.length c_0_0, .int .i64 q0.at_, .int .u64 q0.seed]]) [0] ?_ ⟨rfl, rfl, rfl, trivial⟩ (by decide) rfl
  refine JE.code ?_
  obtain ⟨j2, hj2, hresj2⟩ := bind_some hres
  refine JX.cut (K := fun J => J [(0, ptrAt (some ⟨gb_0, 0, none⟩) 0), (3, .int .i64 j2)] [boxO 176 gb_0 [.slice a_0_0 q0.code.length c_0_0, .int .i64 q0.at_, .int .u64 q0.seed]]) ?_ ?_
  · have hres := hresj2
    refine JE.code ?_
    refine JX.seq ?_
    refine JX.region ?_
    refine JL.val (yl_move rfl) rfl ?_
    refine JL.val (yl_nilCheckAt (a := some _) rfl rfl) rfl ?_
    refine JL.val (yl_fieldAt (a := some _) Go.Proofs.Try.underlying176 rfl i3 i3n rfl rfl) rfl ?_
    refine JL.val (yl_load1 Go.Proofs.Try.underlying3 rfl rfl (fun w hC => rd_box hC 0 rfl) rfl) rfl ?_
    refine JL.val (yl_add rfl rfl) rfl ?_
    refine JL.val (yl_nilCheckAt (a := some _) rfl rfl) rfl ?_
    refine JL.val (yl_fieldAt (a := some _) Go.Proofs.Try.underlying176 rfl i3 i3n rfl rfl) rfl ?_
    refine JL.eff (ef_store_box (i := 0) (v := .int .i64 (w64 (q0.at_ + 1))) i3 rfl rfl rfl (i3s).symm (Nat.le_of_ble_eq_true rfl) (by simp [Value.cells, Value.oneCell'])) rfl ?_
    rintro _ _ rfl
    refine JL.nil ?_
    refine JE.weak (env' := [(0, ptrAt (some ⟨gb_0, 0, none⟩) 0), (3, .int .i64 j2)]) (es' := [boxO 176 gb_0 [.slice a_0_0 q0.code.length c_0_0, .int .i64 (w64 (q0.at_ + 1)), .int .u64 q0.seed]]) [0] ?_ ⟨rfl, rfl, trivial⟩ (by decide) rfl
    refine JE.code ?_
    refine JX.seq ?_
    refine JX.region ?_
    refine JL.val (yl_move rfl) rfl ?_
    refine JL.val (yl_move rfl) rfl ?_
    refine JL.val (yl_nilCheckAt (a := some _) rfl rfl) rfl ?_
    refine JL.val (yl_fieldAt (a := some _) Go.Proofs.Try.underlying176 rfl i164 i164n rfl rfl) rfl ?_
    refine JL.val (yl_load1 Go.Proofs.Try.underlying164 rfl rfl (fun w hC => rd_box hC 0 rfl) rfl) rfl ?_
    refine JL.val (yl_mul rfl rfl) rfl ?_
    refine JL.val (yl_move rfl) rfl ?_
    refine JL.val (yl_conv Go.Proofs.Try.underlying3 Go.Proofs.Try.underlying164 rfl) rfl ?_
    refine JL.val (yl_add rfl rfl) rfl ?_
    refine JL.val (yl_add rfl rfl) rfl ?_
    refine JL.val (yl_nilCheckAt (a := some _) rfl rfl) rfl ?_
    refine JL.val (yl_fieldAt (a := some _) Go.Proofs.Try.underlying176 rfl i164 i164n rfl rfl) rfl ?_
    refine JL.eff (ef_store_box (i := 0) (v := .int .u64 (IntKind.u64.wrap ((IntKind.u64.wrap ((IntKind.u64.wrap (q0.seed * 6364136223846793005)) + (IntKind.u64.wrap (j2)))) + 1442695040888963407))) i164 rfl rfl rfl (i164s).symm (Nat.le_of_ble_eq_true rfl) (by simp [Value.cells, Value.oneCell'])) rfl ?_
    rintro _ _ rfl
    refine JL.nil ?_
    refine JE.weak (env' := [(0, ptrAt (some ⟨gb_0, 0, none⟩) 0), (3, .int .i64 j2)]) (es' := [boxO 176 gb_0 [.slice a_0_0 q0.code.length c_0_0, .int .i64 (w64 (q0.at_ + 1)), .int .u64 (IntKind.u64.wrap ((IntKind.u64.wrap ((IntKind.u64.wrap (q0.seed * 6364136223846793005)) + (IntKind.u64.wrap (j2)))) + 1442695040888963407))]]) [0] ?_ ⟨rfl, rfl, trivial⟩ (by decide) rfl
    refine JE.code ?_
    refine JX.seq ?_
    refine JX.seq ?_
    refine JX.drawH [(0, .pure), (1, .pure), (2, .pure), (3, .read), (4, .pure), (5, .pure), (6, .pure), (7, .read), (8, .pure), (9, .pure)] [] [] [0] [] [boxO 176 gb_0 [.slice a_0_0 q0.code.length c_0_0, .int .i64 (w64 (q0.at_ + 1)), .int .u64 (IntKind.u64.wrap ((IntKind.u64.wrap ((IntKind.u64.wrap (q0.seed * 6364136223846793005)) + (IntKind.u64.wrap (j2)))) + 1442695040888963407))]] mixedP (by kernel_rfl) (by kernel_rfl) (by decide) rfl rfl ?_
    intro wrr3 Nr3 hFr3
    refine JH.pure rfl (yl_move rfl) rfl ?_
    refine JH.pure rfl (yl_nilCheckAt (a := some _) rfl rfl) rfl ?_
    refine JH.pure rfl (yl_fieldAt (a := some _) Go.Proofs.Try.underlying176 rfl i3 i3n rfl rfl) rfl ?_
    refine JH.read rfl (yl_load1 Go.Proofs.Try.underlying3 rfl rfl (fun w hw => hFr3.box 0 rfl rfl hw) rfl) rfl ?_
    refine JH.pure rfl (yl_move rfl) rfl ?_
    refine JH.pure rfl (yl_nilCheckAt (a := some _) rfl rfl) rfl ?_
    refine JH.pure rfl (yl_fieldAt (a := some _) Go.Proofs.Try.underlying176 rfl i78 i78n rfl rfl) rfl ?_
    refine JH.read rfl (yl_load1 Go.Proofs.Try.underlying78 rfl rfl (fun w hw => hFr3.box 0 rfl rfl hw) rfl) rfl ?_
    refine JH.pure rfl (yl_len_slice Go.Proofs.Try.underlying78 rfl) rfl ?_
    refine JH.pure rfl (yl_leq rfl rfl) rfl ?_
    refine JH.nil ?_
    refine JE.weak (env' := [(0, ptrAt (some ⟨gb_0, 0, none⟩) 0), (3, .int .i64 j2), (53, .bool (decide ((w64 (q0.at_ + 1)) ≤ (q0.code.length : Int))))]) (es' := [boxO 176 gb_0 [.slice a_0_0 q0.code.length c_0_0, .int .i64 (w64 (q0.at_ + 1)), .int .u64 (IntKind.u64.wrap ((IntKind.u64.wrap ((IntKind.u64.wrap (q0.seed * 6364136223846793005)) + (IntKind.u64.wrap (j2)))) + 1442695040888963407))]]) [0] ?_ ⟨rfl, rfl, rfl, trivial⟩ (by decide) rfl
    refine JE.code ?_
    rcases cond_some hres with ⟨hb, hres⟩ | ⟨hb, hres⟩
    · refine JX.condT rfl hb ?_
      refine JX.seq ?_
      refine JX.region ?_
      refine JL.val (yl_move rfl) rfl ?_
      refine JL.val (yl_assign rfl) rfl ?_
      refine JL.nil ?_
      refine JE.code ?_
      refine JX.ret ?_
      obtain rfl := Option.some.inj hres
      refine JE.ret (rs := [.tmp 2]) (vs := [.int .i64 j2]) rfl ⟨rfl, trivial⟩ ?_
      exact fun w' hb hs => ⟨_, _, _, ⟨rfl, rfl, rfl⟩, rfl, hb, hs.sel [0] _ (by decide) rfl⟩
    · refine JX.condF rfl hb ?_
      refine JX.skip ?_
      refine JE.code ?_
      refine JX.seq ?_
      refine JX.region ?_
      refine JL.val (yl_move rfl) rfl ?_
      refine JL.val (yl_nilCheckAt (a := some _) rfl rfl) rfl ?_
      refine JL.val (yl_fieldAt (a := some _) Go.Proofs.Try.underlying176 rfl i164 i164n rfl rfl) rfl ?_
      refine JL.val (yl_load1 Go.Proofs.Try.underlying164 rfl rfl (fun w hC => rd_box hC 0 rfl) rfl) rfl ?_
      refine JL.val (yl_shr rfl rfl (by decide) (by decide)) rfl ?_
      refine JL.val (yl_and rfl rfl) rfl ?_
      refine JL.val (yl_conv Go.Proofs.Try.underlying164 Go.Proofs.Try.underlying2 rfl) rfl ?_
      refine JL.val (yl_assign rfl) rfl ?_
      refine JL.nil ?_
      refine JE.weak (env' := [(2, .int .i64 (w64 (andI .u64 ((IntKind.u64.wrap ((IntKind.u64.wrap ((IntKind.u64.wrap (q0.seed * 6364136223846793005)) + (IntKind.u64.wrap (j2)))) + 1442695040888963407)) / 2 ^ 40) 255)))]) (es' := [boxO 176 gb_0 [.slice a_0_0 q0.code.length c_0_0, .int .i64 (w64 (q0.at_ + 1)), .int .u64 (IntKind.u64.wrap ((IntKind.u64.wrap ((IntKind.u64.wrap (q0.seed * 6364136223846793005)) + (IntKind.u64.wrap (j2)))) + 1442695040888963407))]]) [0] ?_ ⟨rfl, trivial⟩ (by decide) rfl
      refine JE.code ?_
      refine JX.ret ?_
      obtain rfl := Option.some.inj hres
      refine JE.ret (rs := [.tmp 2]) (vs := [.int .i64 (w64 (andI .u64 ((IntKind.u64.wrap ((IntKind.u64.wrap ((IntKind.u64.wrap (q0.seed * 6364136223846793005)) + (IntKind.u64.wrap (j2)))) + 1442695040888963407)) / 2 ^ 40) 255))]) rfl ⟨rfl, trivial⟩ ?_
      exact fun w' hb hs => ⟨_, _, _, ⟨rfl, rfl, rfl⟩, rfl, hb, hs.sel [0] _ (by decide) rfl⟩
  · intro K
    rcases cond_some hj2 with ⟨hb, hres⟩ | ⟨hb, hres⟩
    · refine JX.condT rfl hb ?_
      refine JX.drawH [(0, .pure), (1, .pure), (2, .pure), (3, .read), (4, .pure), (5, .pure), (6, .pure), (7, .read), (8, .pure), (9, .read), (10, .pure), (11, .pure)] [] [] [0] [] [boxO 176 gb_0 [.slice a_0_0 q0.code.length c_0_0, .int .i64 q0.at_, .int .u64 q0.seed]] mixedP (by kernel_rfl) (by kernel_rfl) (by decide) rfl rfl ?_
      intro wrr4 Nr4 hFr4
      refine JH.pure rfl (yl_move rfl) rfl ?_
      refine JH.pure rfl (yl_nilCheckAt (a := some _) rfl rfl) rfl ?_
      refine JH.pure rfl (yl_fieldAt (a := some _) Go.Proofs.Try.underlying176 rfl i78 i78n rfl rfl) rfl ?_
      refine JH.read rfl (yl_load1 Go.Proofs.Try.underlying78 rfl rfl (fun w hw => hFr4.box 0 rfl rfl hw) rfl) rfl ?_
      refine JH.pure rfl (yl_move rfl) rfl ?_
      refine JH.pure rfl (yl_nilCheckAt (a := some _) rfl rfl) rfl ?_
      refine JH.pure rfl (yl_fieldAt (a := some _) Go.Proofs.Try.underlying176 rfl i3 i3n rfl rfl) rfl ?_
      refine JH.read rfl (yl_load1 Go.Proofs.Try.underlying3 rfl rfl (fun w hw => hFr4.box 0 rfl rfl hw) rfl) rfl ?_
      obtain ⟨x5, hx5, hres⟩ := bind_some hres
      refine JH.pure rfl (yl_idxQ Go.Proofs.Try.underlying78 i5 i5s rfl rfl hx5 rfl (rd_argS g_0_0 hFr4.cl) rfl) rfl ?_
      refine JH.read rfl (yl_loadT0 Go.Proofs.Try.underlying5 rfl rfl hx5 (fun w hw => hFr4.argS g_0_0 hw) rfl) rfl ?_
      refine JH.pure rfl (yl_conv Go.Proofs.Try.underlying5 Go.Proofs.Try.underlying3 rfl) rfl ?_
      refine JH.pure rfl (yl_assign rfl) rfl ?_
      refine JH.nil ?_
      refine JE.weak (env' := [(0, ptrAt (some ⟨gb_0, 0, none⟩) 0), (3, .int .i64 (w64 (x5)))]) (es' := [boxO 176 gb_0 [.slice a_0_0 q0.code.length c_0_0, .int .i64 q0.at_, .int .u64 q0.seed]]) [0] ?_ ⟨rfl, rfl, trivial⟩ (by decide) rfl
      have hj := Option.some.inj hres
      exact JE.weak [0] (K) ⟨(by subst hj; rfl), (by subst hj; rfl), trivial⟩ (by decide) (by subst hj; rfl)
    · refine JX.condF rfl hb ?_
      refine JX.skip ?_
      have hj := Option.some.inj hres
      exact JE.weak [0] (K) ⟨(by subst hj; rfl), (by subst hj; rfl), trivial⟩ (by decide) (by subst hj; rfl)

/- (*spec.l00Src).pick -/
def sh135 (q0 : Sl00Src) (q1 : Int) : Option (Int × Int × Int) := bif decide (q1 ≤ 1) then (some (0, q0.at_, q0.seed)) else (Option.bind (sh180 q0) fun x1 => Option.bind (bif decide (200 < q1) then (Option.bind (sh180 (Sl00Src.mk q0.code x1.2.1 x1.2.2)) fun x4 => some (w64 ((w64 (x1.1 * 256)) + x4.1), (x4.2.1, x4.2.2))) else (some (x1.1, (x1.2.1, x1.2.2)))) fun j2 => (Option.bind (nzI q1) fun x3 => some (j2.1.tmod q1, j2.2.1, j2.2.2)))
def T135 (gb_0 : Nat) (a_0_0 : Option Addr) (n_0_0 c_0_0 : Nat) (r : Int × Int × Int) (v : Value) (es' rs : List Own) : Prop := es' = [boxO 176 gb_0 [.slice a_0_0 n_0_0 c_0_0, .int .i64 r.2.1, .int .u64 r.2.2]] ∧ v = rets [.int .i64 r.1] ∧ rs = []
set_option maxRecDepth 100000 in
theorem c135 {w : World} {M : List Nat} {q0 : Sl00Src} {gb_0 : Nat} {a_0_0 : Option Addr} {n_0_0 c_0_0 : Nat} (g_0_0 : RdS M w a_0_0 (eU8.fl q0.code)) (l_0_0 : q0.code.length = n_0_0) (k_0_0 : n_0_0 ≤ c_0_0) {q1 : Int} (gs : Sep w.heap.size M w [boxO 176 gb_0 [.slice a_0_0 n_0_0 c_0_0, .int .i64 q0.at_, .int .u64 q0.seed]]) {r : Int × Int × Int} (hres : sh135 q0 q1 = some r) : Calls Go.Proofs.Try.prog 135 [ptrAt (some ⟨gb_0, 0, none⟩) 0, .int .i64 q1].toArray w (RetMs w M (T135 gb_0 a_0_0 q0.code.length c_0_0 r)) := by
  subst l_0_0
  unfold sh135 at hres
  refine calls_of (n := 20) (M := M) (es := [boxO 176 gb_0 [.slice a_0_0 q0.code.length c_0_0, .int .i64 q0.at_, .int .u64 q0.seed]]) Go.Proofs.Try.func135 rfl rfl rfl gs ?_
  refine JX.seq ?_
  refine JX.region ?_
  refine JL.val (yl_assign rfl) rfl ?_
  refine JL.nil ?_
  refine JE.code ?_
  refine JX.seq ?_
  refine JX.seq ?_
  refine JX.region ?_
  refine JL.val (yl_move rfl) rfl ?_
  refine JL.val (yl_leq rfl rfl) rfl ?_
  refine JL.nil ?_
  refine JE.code ?_
  rcases cond_some hres with ⟨hb, hres⟩ | ⟨hb, hres⟩
  · refine JX.condT rfl hb ?_
    refine JX.seq ?_
    refine JX.region ?_
    refine JL.val (yl_assign rfl) rfl ?_
    refine JL.nil ?_
    refine JE.code ?_
    refine JX.ret ?_
    obtain rfl := Option.some.inj hres
    refine JE.ret (rs := [.tmp 4]) (vs := [.int .i64 0]) rfl ⟨rfl, trivial⟩ ?_
    exact fun w' hb hs => ⟨_, _, _, ⟨rfl, rfl, rfl⟩, rfl, hb, hs.sel [0] _ (by decide) rfl⟩
  · refine JX.condF rfl hb ?_
    refine JX.skip ?_
    refine JE.code ?_
    refine JX.seq ?_
    refine JX.region ?_
    refine JL.val (yl_move rfl) rfl ?_
    obtain ⟨x1, hx1, hres⟩ := bind_some hres
    refine JL.eff (ef_callms (caps := []) (vs := [ptrAt (some ⟨gb_0, 0, none⟩) 0]) (T := T180 gb_0 a_0_0 q0.code.length c_0_0 x1) [0] [] [boxO 176 gb_0 [.slice a_0_0 q0.code.length c_0_0, .int .i64 q0.at_, .int .u64 q0.seed]] [] rfl Go.Proofs.Try.func180 rfl (by kernel_rfl) rfl (by decide) rfl rfl (fun w N hF hS => c180 (q0 := q0) (RdS.pass hF g_0_0) rfl k_0_0 hS hx1)) rfl ?_
    rintro _ _ ⟨_, _, ⟨rfl, rfl, rfl⟩, rfl⟩
    refine JL.val (yl_assign rfl) rfl ?_
    refine JL.nil ?_
    refine JE.code ?_
    refine JX.seq ?_
    refine JX.seq ?_
    refine JX.region ?_
    refine JL.val (yl_move rfl) rfl ?_
    refine JL.val (yl_gtr rfl rfl) rfl ?_
    refine JL.nil ?_
    refine JE.code ?_
    obtain ⟨j2, hj2, hresj2⟩ := bind_some hres
    refine JX.cut (K := fun J => J [(1, .int .i64 q1), (5, .int .i64 j2.1)] [boxO 176 gb_0 [.slice a_0_0 q0.code.length c_0_0, .int .i64 j2.2.1, .int .u64 j2.2.2]]) ?_ ?_
    · have hres := hresj2
      refine JE.code ?_
      refine JX.seq ?_
      refine JX.region ?_
      refine JL.val (yl_move rfl) rfl ?_
      refine JL.val (yl_move rfl) rfl ?_
      obtain ⟨x3, hx3, hres⟩ := bind_some hres
      refine JL.val (yl_rem rfl rfl (nzI_some hx3)) rfl ?_
      refine JL.val (yl_assign rfl) rfl ?_
      refine JL.nil ?_
      refine JE.weak (env' := [(4, .int .i64 (j2.1.tmod q1))]) (es' := [boxO 176 gb_0 [.slice a_0_0 q0.code.length c_0_0, .int .i64 j2.2.1, .int .u64 j2.2.2]]) [0] ?_ ⟨rfl, trivial⟩ (by decide) rfl
      refine JE.code ?_
      refine JX.ret ?_
      obtain rfl := Option.some.inj hres
      refine JE.ret (rs := [.tmp 4]) (vs := [.int .i64 (j2.1.tmod q1)]) rfl ⟨rfl, trivial⟩ ?_
      exact fun w' hb hs => ⟨_, _, _, ⟨rfl, rfl, rfl⟩, rfl, hb, hs.sel [0] _ (by decide) rfl⟩
    · intro K
      rcases cond_some hj2 with ⟨hb, hres⟩ | ⟨hb, hres⟩
      · refine JX.condT rfl hb ?_
        refine JX.region ?_
        refine JL.val (yl_move rfl) rfl ?_
        refine JL.val (yl_mul rfl rfl) rfl ?_
        refine JL.val (yl_move rfl) rfl ?_
        obtain ⟨x4, hx4, hres⟩ := bind_some hres
        refine JL.eff (ef_callms (caps := []) (vs := [ptrAt (some ⟨gb_0, 0, none⟩) 0]) (T := T180 gb_0 a_0_0 q0.code.length c_0_0 x4) [0] [] [boxO 176 gb_0 [.slice a_0_0 q0.code.length c_0_0, .int .i64 x1.2.1, .int .u64 x1.2.2]] [] rfl Go.Proofs.Try.func180 rfl (by kernel_rfl) rfl (by decide) rfl rfl (fun w N hF hS => c180 (q0 := Sl00Src.mk q0.code x1.2.1 x1.2.2) (RdS.pass hF g_0_0) rfl k_0_0 hS hx4)) rfl ?_
        rintro _ _ ⟨_, _, ⟨rfl, rfl, rfl⟩, rfl⟩
        refine JL.val (yl_add rfl rfl) rfl ?_
        refine JL.val (yl_assign rfl) rfl ?_
        refine JL.nil ?_
        refine JE.weak (env' := [(1, .int .i64 q1), (5, .int .i64 (w64 ((w64 (x1.1 * 256)) + x4.1)))]) (es' := [boxO 176 gb_0 [.slice a_0_0 q0.code.length c_0_0, .int .i64 x4.2.1, .int .u64 x4.2.2]]) [0] ?_ ⟨rfl, rfl, trivial⟩ (by decide) rfl
        have hj := Option.some.inj hres
        exact JE.weak [0] (K) ⟨(by subst hj; rfl), (by subst hj; rfl), trivial⟩ (by decide) (by subst hj; rfl)
      · refine JX.condF rfl hb ?_
        refine JX.skip ?_
        have hj := Option.some.inj hres
        exact JE.weak [0] (K) ⟨(by subst hj; rfl), (by subst hj; rfl), trivial⟩ (by decide) (by subst hj; rfl)

/- (*spec.l00Src).one -/
def sh178 (q0 : Sl00Src) (q1 : Int) : Option (Bool × Int × Int) := Option.bind (sh135 q0 q1) fun x1 => some (x1.1 == 0, x1.2.1, x1.2.2)
def T178 (gb_0 : Nat) (a_0_0 : Option Addr) (n_0_0 c_0_0 : Nat) (r : Bool × Int × Int) (v : Value) (es' rs : List Own) : Prop := es' = [boxO 176 gb_0 [.slice a_0_0 n_0_0 c_0_0, .int .i64 r.2.1, .int .u64 r.2.2]] ∧ v = rets [.bool r.1] ∧ rs = []
set_option maxRecDepth 100000 in
theorem c178 {w : World} {M : List Nat} {q0 : Sl00Src} {gb_0 : Nat} {a_0_0 : Option Addr} {n_0_0 c_0_0 : Nat} (g_0_0 : RdS M w a_0_0 (eU8.fl q0.code)) (l_0_0 : q0.code.length = n_0_0) (k_0_0 : n_0_0 ≤ c_0_0) {q1 : Int} (gs : Sep w.heap.size M w [boxO 176 gb_0 [.slice a_0_0 n_0_0 c_0_0, .int .i64 q0.at_, .int .u64 q0.seed]]) {r : Bool × Int × Int} (hres : sh178 q0 q1 = some r) : Calls Go.Proofs.Try.prog 178 [ptrAt (some ⟨gb_0, 0, none⟩) 0, .int .i64 q1].toArray w (RetMs w M (T178 gb_0 a_0_0 q0.code.length c_0_0 r)) := by
  subst l_0_0
  unfold sh178 at hres
  refine calls_of (n := 9) (M := M) (es := [boxO 176 gb_0 [.slice a_0_0 q0.code.length c_0_0, .int .i64 q0.at_, .int .u64 q0.seed]]) Go.Proofs.Try.func178 rfl rfl rfl gs ?_
  refine JX.seq ?_
  refine JX.region ?_
  refine JL.val (yl_assign rfl) rfl ?_
  refine JL.nil ?_
  refine JE.code ?_
  refine JX.seq ?_
  refine JX.region ?_
  refine JL.val (yl_move rfl) rfl ?_
  refine JL.val (yl_move rfl) rfl ?_
  obtain ⟨x1, hx1, hres⟩ := bind_some hres
  refine JL.eff (ef_callms (caps := []) (vs := [ptrAt (some ⟨gb_0, 0, none⟩) 0, .int .i64 q1]) (T := T135 gb_0 a_0_0 q0.code.length c_0_0 x1) [0] [] [boxO 176 gb_0 [.slice a_0_0 q0.code.length c_0_0, .int .i64 q0.at_, .int .u64 q0.seed]] [] rfl Go.Proofs.Try.func135 rfl (by kernel_rfl) rfl (by decide) rfl rfl (fun w N hF hS => c135 (q0 := q0) (RdS.pass hF g_0_0) rfl k_0_0 hS hx1)) rfl ?_
  rintro _ _ ⟨_, _, ⟨rfl, rfl, rfl⟩, rfl⟩
  refine JL.val (yl_eql rfl rfl) rfl ?_
  refine JL.val (yl_assign rfl) rfl ?_
  refine JL.nil ?_
  refine JE.weak (env' := [(4, .bool (x1.1 == 0))]) (es' := [boxO 176 gb_0 [.slice a_0_0 q0.code.length c_0_0, .int .i64 x1.2.1, .int .u64 x1.2.2]]) [0] ?_ ⟨rfl, trivial⟩ (by decide) rfl
  refine JE.code ?_
  refine JX.ret ?_
  obtain rfl := Option.some.inj hres
  refine JE.ret (rs := [.tmp 4]) (vs := [.bool (x1.1 == 0)]) rfl ⟨rfl, trivial⟩ ?_
  exact fun w' hb hs => ⟨_, _, _, ⟨rfl, rfl, rfl⟩, rfl, hb, hs.sel [0] _ (by decide) rfl⟩

/- (*spec.l00Src).among -/
def sh179 (q0 : Sl00Src) (q1 : List Int) : Option (Int × Int × Int) := Option.bind (sh135 q0 (q1.length : Int)) fun x1 => Option.bind (getI q1 x1.1) fun x2 => some (x2, x1.2.1, x1.2.2)
def T179 (gb_0 : Nat) (a_0_0 : Option Addr) (n_0_0 c_0_0 : Nat) (r : Int × Int × Int) (v : Value) (es' rs : List Own) : Prop := es' = [boxO 176 gb_0 [.slice a_0_0 n_0_0 c_0_0, .int .i64 r.2.1, .int .u64 r.2.2]] ∧ v = rets [.int .i64 r.1] ∧ rs = []
set_option maxRecDepth 100000 in
theorem c179 {w : World} {M : List Nat} {q0 : Sl00Src} {gb_0 : Nat} {a_0_0 : Option Addr} {n_0_0 c_0_0 : Nat} (g_0_0 : RdS M w a_0_0 (eU8.fl q0.code)) (l_0_0 : q0.code.length = n_0_0) (k_0_0 : n_0_0 ≤ c_0_0) {q1 : List Int} {a_1 : Option Addr} {n_1 c_1 : Nat} (g_1 : RdS M w a_1 (eI64.fl q1)) (l_1 : q1.length = n_1) (k_1 : n_1 ≤ c_1) (gs : Sep w.heap.size M w [boxO 176 gb_0 [.slice a_0_0 n_0_0 c_0_0, .int .i64 q0.at_, .int .u64 q0.seed]]) {r : Int × Int × Int} (hres : sh179 q0 q1 = some r) : Calls Go.Proofs.Try.prog 179 [ptrAt (some ⟨gb_0, 0, none⟩) 0, .slice a_1 n_1 c_1].toArray w (RetMs w M (T179 gb_0 a_0_0 q0.code.length c_0_0 r)) := by
  subst l_0_0
  subst l_1
  unfold sh179 at hres
  refine calls_of (n := 12) (M := M) (es := [boxO 176 gb_0 [.slice a_0_0 q0.code.length c_0_0, .int .i64 q0.at_, .int .u64 q0.seed]]) Go.Proofs.Try.func179 rfl rfl rfl gs ?_
  refine JX.seq ?_
  refine JX.region ?_
  refine JL.val (yl_assign rfl) rfl ?_
  refine JL.nil ?_
  refine JE.code ?_
  refine JX.seq ?_
  refine JX.region ?_
  refine JL.val (yl_move rfl) rfl ?_
  refine JL.val (yl_move rfl) rfl ?_
  refine JL.val (yl_move rfl) rfl ?_
  refine JL.val (yl_len_slice Go.Proofs.Try.underlying33 rfl) rfl ?_
  obtain ⟨x1, hx1, hres⟩ := bind_some hres
  refine JL.eff (ef_callms (caps := []) (vs := [ptrAt (some ⟨gb_0, 0, none⟩) 0, .int .i64 (q1.length : Int)]) (T := T135 gb_0 a_0_0 q0.code.length c_0_0 x1) [0] [] [boxO 176 gb_0 [.slice a_0_0 q0.code.length c_0_0, .int .i64 q0.at_, .int .u64 q0.seed]] [] rfl Go.Proofs.Try.func135 rfl (by kernel_rfl) rfl (by decide) rfl rfl (fun w N hF hS => c135 (q0 := q0) (RdS.pass hF g_0_0) rfl k_0_0 hS hx1)) rfl ?_
  rintro _ _ ⟨_, _, ⟨rfl, rfl, rfl⟩, rfl⟩
  obtain ⟨x2, hx2, hres⟩ := bind_some hres
  refine JL.val (yl_idxT Go.Proofs.Try.underlying33 i2 i2s rfl rfl hx2 rfl (fun w hC => rd_argS g_1 hC)) rfl ?_
  refine JL.val (yl_loadT0 Go.Proofs.Try.underlying2 rfl rfl hx2 (fun w hC => rd_argS g_1 hC) rfl) rfl ?_
  refine JL.val (yl_assign rfl) rfl ?_
  refine JL.nil ?_
  refine JE.weak (env' := [(4, .int .i64 x2)]) (es' := [boxO 176 gb_0 [.slice a_0_0 q0.code.length c_0_0, .int .i64 x1.2.1, .int .u64 x1.2.2]]) [0] ?_ ⟨rfl, trivial⟩ (by decide) rfl
  refine JE.code ?_
  refine JX.ret ?_
  obtain rfl := Option.some.inj hres
  refine JE.ret (rs := [.tmp 4]) (vs := [.int .i64 x2]) rfl ⟨rfl, trivial⟩ ?_
  exact fun w' hb hs => ⟨_, _, _, ⟨rfl, rfl, rfl⟩, rfl, hb, hs.sel [0] _ (by decide) rfl⟩

/- spec.l23Draw -/
def sh134_2 : (Int × List Int) → Option ((Int × List Int) ⊕ (List Int))
  | (x41, x42) => bif decide (0 < x41) then (Option.bind (appL x42 [1]) fun x47 => some (.inl (w64 (x41 - 1), x47))) else (some (.inr x42))
def sh134_1 (q0 : Sl00Src) (x1 : Int × Int × Int) : (Int × (Int × Int) × List Int) → Option ((Int × (Int × Int) × List Int) ⊕ ((Int × Int) × List Int))
  | (x7, x8, x9) => bif decide (0 < x7) then (Option.bind (sh135 (Sl00Src.mk q0.code x8.1 x8.2) (w64 ((w64 (2 + x1.1)) - 1))) fun x12 => Option.bind (sh178 (Sl00Src.mk q0.code x12.2.1 x12.2.2) 2) fun x13 => Option.bind (bif x13.1 then (some (w64 (0 - (w64 (1 + x12.1))))) else (some (w64 (1 + x12.1)))) fun j14 => (Option.bind (bif decide (0 < (x9.length : Int)) then (Option.bind (sh178 (Sl00Src.mk q0.code x13.2.1 x13.2.2) 4) fun x23 => some (x23.1, (x23.2.1, x23.2.2))) else (some (false, (x13.2.1, x13.2.2)))) fun j15 => (Option.bind (bif j15.1 then (Option.bind (getI x9 (w64 ((x9.length : Int) - 1))) fun x22 => some (w64 (0 - x22))) else (some j14)) fun j16 => (Option.bind (appL x9 [j16]) fun x19 => some (.inl (w64 (x7 - 1), (j15.2.1, j15.2.2), x19)))))) else (some (.inr ((x8.1, x8.2), x9)))
def sh134 (q0 : Sl00Src) : Option (Int × List Int × Int × Int) := Option.bind (sh135 q0 5) fun x1 => Option.bind (sh135 (Sl00Src.mk q0.code x1.2.1 x1.2.2) 14) fun x4 => Option.bind (iter (sh134_1 q0 x1) (x4.1, (x4.2.1, x4.2.2), ([] : List Int))) fun b1 => (Option.bind (sh135 (Sl00Src.mk q0.code b1.1.1 b1.1.2) 20) fun x26 => bif x26.1 == 0 then (Option.bind (sh179 (Sl00Src.mk q0.code x26.2.1 x26.2.2) [0, 1, 12, 13]) fun x29 => some (x29.1, b1.2, x29.2.1, x29.2.2)) else (bif x26.1 == 1 then (Option.bind (bif decide (0 < (b1.2.length : Int)) then (Option.bind (sh179 (Sl00Src.mk q0.code x26.2.1 x26.2.2) [0, w64 (2 + x1.1), w64 (0 - (w64 (2 + x1.1))), (-9223372036854775808)]) fun x34 => Option.bind (getI b1.2 (0 : Int)) fun x35 => some ((x34.2.1, x34.2.2), b1.2.set ((0 : Int)).toNat x34.1)) else (some ((x26.2.1, x26.2.2), b1.2))) fun j30 => (some (w64 (2 + x1.1), j30.2, j30.1.1, j30.1.2))) else (bif x26.1 == 2 then (Option.bind (sh135 (Sl00Src.mk q0.code x26.2.1 x26.2.2) 2) fun x38 => Option.bind (iter (sh134_2) (w64 (200 + x38.1), ([] : List Int))) fun b2 => (some (w64 (2 + x1.1), b2, x38.2.1, x38.2.2))) else (some (w64 (2 + x1.1), b1.2, x26.2.1, x26.2.2)))))
def T134 (gb_0 : Nat) (a_0_0 : Option Addr) (n_0_0 c_0_0 : Nat) (r : Int × List Int × Int × Int) (v : Value) (es' rs : List Own) : Prop := es' = [boxO 176 gb_0 [.slice a_0_0 n_0_0 c_0_0, .int .i64 r.2.2.1, .int .u64 r.2.2.2]] ∧ ∃ (a1 : Option Addr) (n1 c1 : Nat), r.2.1.length = n1 ∧ v = rets [.int .i64 r.1, .slice a1 n1 c1] ∧ rs = [rowT 2 eI64 a1 n1 c1 r.2.1]
set_option maxRecDepth 100000 in
set_option maxHeartbeats 1000000 in
theorem c134 {w : World} {M : List Nat} {q0 : Sl00Src} {gb_0 : Nat} {a_0_0 : Option Addr} {n_0_0 c_0_0 : Nat} (g_0_0 : RdS M w a_0_0 (eU8.fl q0.code)) (l_0_0 : q0.code.length = n_0_0) (k_0_0 : n_0_0 ≤ c_0_0) (gs : Sep w.heap.size M w [boxO 176 gb_0 [.slice a_0_0 n_0_0 c_0_0, .int .i64 q0.at_, .int .u64 q0.seed]]) {r : Int × List Int × Int × Int} (hres : sh134 q0 = some r) : Calls Go.Proofs.Try.prog 134 [ptrAt (some ⟨gb_0, 0, none⟩) 0].toArray w (RetMs w M (T134 gb_0 a_0_0 q0.code.length c_0_0 r)) := by
  subst l_0_0
  unfold sh134 at hres
  refine calls_of (n := 81) (M := M) (es := [boxO 176 gb_0 [.slice a_0_0 q0.code.length c_0_0, .int .i64 q0.at_, .int .u64 q0.seed]]) Go.Proofs.Try.func134 rfl rfl rfl gs ?_
  refine JX.seq ?_
  refine JX.region ?_
  refine JL.val (yl_assign rfl) rfl ?_
  refine JL.val (yl_assign rfl) rfl ?_
  refine JL.nil ?_
  refine JE.code ?_
  refine JX.seq ?_
  refine JX.region ?_
  refine JL.val (yl_move rfl) rfl ?_
  obtain ⟨x1, hx1, hres⟩ := bind_some hres
  refine JL.eff (ef_callms (caps := []) (vs := [ptrAt (some ⟨gb_0, 0, none⟩) 0, .int .i64 5]) (T := T135 gb_0 a_0_0 q0.code.length c_0_0 x1) [0] [] [boxO 176 gb_0 [.slice a_0_0 q0.code.length c_0_0, .int .i64 q0.at_, .int .u64 q0.seed]] [] rfl Go.Proofs.Try.func135 rfl (by kernel_rfl) rfl (by decide) rfl rfl (fun w N hF hS => c135 (q0 := q0) (RdS.pass hF g_0_0) rfl k_0_0 hS hx1)) rfl ?_
  rintro _ _ ⟨_, _, ⟨rfl, rfl, rfl⟩, rfl⟩
  refine JL.val (yl_add rfl rfl) rfl ?_
  refine JL.val (yl_assign rfl) rfl ?_
  refine JL.nil ?_
  refine JE.weak (env' := [(0, ptrAt (some ⟨gb_0, 0, none⟩) 0), (4, .int .i64 (w64 (2 + x1.1)))]) (es' := [boxO 176 gb_0 [.slice a_0_0 q0.code.length c_0_0, .int .i64 x1.2.1, .int .u64 x1.2.2]]) [0] ?_ ⟨rfl, rfl, trivial⟩ (by decide) rfl
  refine JE.code ?_
  refine JX.seq ?_
  refine JX.region ?_
  refine JL.eff (ef_buildSlice (E := 2) (k := eI64.k) (us := eI64.fl ([] : List Int)) rfl (fun w => bsl33_0  w) rfl (by decide)) rfl ?_
  rintro _ _ ⟨a2, rfl, rfl⟩
  refine JL.val (yl_assign rfl) rfl ?_
  refine JL.nil ?_
  refine JE.code ?_
  refine JX.seq ?_
  refine JX.seq ?_
  refine JX.region ?_
  refine JL.val (yl_move rfl) rfl ?_
  obtain ⟨x4, hx4, hres⟩ := bind_some hres
  refine JL.eff (ef_callms (caps := []) (vs := [ptrAt (some ⟨gb_0, 0, none⟩) 0, .int .i64 14]) (T := T135 gb_0 a_0_0 q0.code.length c_0_0 x4) [0] [1] [boxO 176 gb_0 [.slice a_0_0 q0.code.length c_0_0, .int .i64 x1.2.1, .int .u64 x1.2.2]] [rowT 2 eI64 a2 0 0 ([] : List Int)] rfl Go.Proofs.Try.func135 rfl (by kernel_rfl) rfl (by decide) rfl rfl (fun w N hF hS => c135 (q0 := Sl00Src.mk q0.code x1.2.1 x1.2.2) (RdS.pass hF g_0_0) rfl k_0_0 hS hx4)) rfl ?_
  rintro _ _ ⟨_, _, ⟨rfl, rfl, rfl⟩, rfl⟩
  refine JL.val (yl_assign rfl) rfl ?_
  refine JL.nil ?_
  refine JE.code ?_
  refine JX.block ?_
  obtain ⟨y1, hy1, hresO1⟩ := bind_some hres
  refine JX.loop (I := fun (s1 : Int × (Int × Int) × List Int) aa ww => ∃ (a5 : Option Addr) (cp6 : Nat), St w M 81 [(0, ptrAt (some ⟨gb_0, 0, none⟩) 0), (4, .int .i64 (w64 (2 + x1.1))), (5, .slice a5 s1.2.2.length cp6), (6, .int .i64 s1.1)] [boxO 176 gb_0 [.slice a_0_0 q0.code.length c_0_0, .int .i64 s1.2.1.1, .int .u64 s1.2.1.2], rowT 2 eI64 a5 s1.2.2.length cp6 s1.2.2] aa ww) (sh134_1 q0 x1) hy1 (fun a w h => ⟨a2, 0, h.weak ⟨rfl, rfl, rfl, rfl, trivial⟩ [1, 0] (by decide) rfl⟩) ?_
  rintro ⟨x7, x8, x9⟩ o1 hres hox1 aa ww ⟨a10, cp11, hS⟩
  refine (?_ : JX Go.Proofs.Try.prog w M 81 _ _ [(0, ptrAt (some ⟨gb_0, 0, none⟩) 0), (4, .int .i64 (w64 (2 + x1.1))), (5, .slice a10 x9.length cp11), (6, .int .i64 x7)] [boxO 176 gb_0 [.slice a_0_0 q0.code.length c_0_0, .int .i64 x8.1, .int .u64 x8.2], rowT 2 eI64 a10 x9.length cp11 x9] _) aa ww hS
  clear hS
  simp only [sh134_1] at hres
  refine JX.seq ?_
  refine JX.seq ?_
  refine JX.region ?_
  refine JL.val (yl_move rfl) rfl ?_
  refine JL.val (yl_gtr rfl rfl) rfl ?_
  refine JL.nil ?_
  refine JE.code ?_
  rcases cond_some hres with ⟨hb, hres⟩ | ⟨hb, hres⟩
  · refine JX.condT rfl hb ?_
    refine JX.skip ?_
    refine JE.code ?_
    refine JX.seq ?_
    refine JX.block ?_
    refine JX.seq ?_
    refine JX.region ?_
    refine JL.val (yl_move rfl) rfl ?_
    refine JL.val (yl_move rfl) rfl ?_
    refine JL.val (yl_sub rfl rfl) rfl ?_
    obtain ⟨x12, hx12, hres⟩ := bind_some hres
    refine JL.eff (ef_callms (caps := []) (vs := [ptrAt (some ⟨gb_0, 0, none⟩) 0, .int .i64 (w64 ((w64 (2 + x1.1)) - 1))]) (T := T135 gb_0 a_0_0 q0.code.length c_0_0 x12) [0] [1] [boxO 176 gb_0 [.slice a_0_0 q0.code.length c_0_0, .int .i64 x8.1, .int .u64 x8.2]] [rowT 2 eI64 a10 x9.length cp11 x9] rfl Go.Proofs.Try.func135 rfl (by kernel_rfl) rfl (by decide) rfl rfl (fun w N hF hS => c135 (q0 := Sl00Src.mk q0.code x8.1 x8.2) (RdS.pass hF g_0_0) rfl k_0_0 hS hx12)) rfl ?_
    rintro _ _ ⟨_, _, ⟨rfl, rfl, rfl⟩, rfl⟩
    refine JL.val (yl_add rfl rfl) rfl ?_
    refine JL.val (yl_assign rfl) rfl ?_
    refine JL.nil ?_
    refine JE.weak (env' := [(0, ptrAt (some ⟨gb_0, 0, none⟩) 0), (4, .int .i64 (w64 (2 + x1.1))), (5, .slice a10 x9.length cp11), (6, .int .i64 x7), (7, .int .i64 (w64 (1 + x12.1)))]) (es' := [boxO 176 gb_0 [.slice a_0_0 q0.code.length c_0_0, .int .i64 x12.2.1, .int .u64 x12.2.2], rowT 2 eI64 a10 x9.length cp11 x9]) [1, 0] ?_ ⟨rfl, rfl, rfl, rfl, rfl, trivial⟩ (by decide) rfl
    refine JE.code ?_
    refine JX.seq ?_
    refine JX.seq ?_
    refine JX.region ?_
    refine JL.val (yl_move rfl) rfl ?_
    obtain ⟨x13, hx13, hres⟩ := bind_some hres
    refine JL.eff (ef_callms (caps := []) (vs := [ptrAt (some ⟨gb_0, 0, none⟩) 0, .int .i64 2]) (T := T178 gb_0 a_0_0 q0.code.length c_0_0 x13) [0] [1] [boxO 176 gb_0 [.slice a_0_0 q0.code.length c_0_0, .int .i64 x12.2.1, .int .u64 x12.2.2]] [rowT 2 eI64 a10 x9.length cp11 x9] rfl Go.Proofs.Try.func178 rfl (by kernel_rfl) rfl (by decide) rfl rfl (fun w N hF hS => c178 (q0 := Sl00Src.mk q0.code x12.2.1 x12.2.2) (RdS.pass hF g_0_0) rfl k_0_0 hS hx13)) rfl ?_
    rintro _ _ ⟨_, _, ⟨rfl, rfl, rfl⟩, rfl⟩
    refine JL.nil ?_
    refine JE.code ?_
    obtain ⟨j14, hj14, hresj14⟩ := bind_some hres
    refine JX.cut (K := fun J => J [(0, ptrAt (some ⟨gb_0, 0, none⟩) 0), (4, .int .i64 (w64 (2 + x1.1))), (5, .slice a10 x9.length cp11), (6, .int .i64 x7), (7, .int .i64 j14)] [boxO 176 gb_0 [.slice a_0_0 q0.code.length c_0_0, .int .i64 x13.2.1, .int .u64 x13.2.2], rowT 2 eI64 a10 x9.length cp11 x9]) ?_ ?_
    · have hres := hresj14
      refine JE.code ?_
      refine JX.seq ?_
      refine JX.seq ?_
      refine JX.region ?_
      refine JL.val (yl_move rfl) rfl ?_
      refine JL.val (yl_len_slice Go.Proofs.Try.underlying33 rfl) rfl ?_
      refine JL.val (yl_gtr rfl rfl) rfl ?_
      refine JL.val (yl_move rfl) rfl ?_
      obtain ⟨j15, hj15, hresj15⟩ := bind_some hres
      refine JL.cut (K := fun J => J [(0, ptrAt (some ⟨gb_0, 0, none⟩) 0), (4, .int .i64 (w64 (2 + x1.1))), (5, .slice a10 x9.length cp11), (6, .int .i64 x7), (7, .int .i64 j14), (34, .bool j15.1)] [boxO 176 gb_0 [.slice a_0_0 q0.code.length c_0_0, .int .i64 j15.2.1, .int .u64 j15.2.2], rowT 2 eI64 a10 x9.length cp11 x9]) 3 ?_ ?_
      · have hres := hresj15
        refine JL.nil ?_
        refine JE.weak (env' := [(0, ptrAt (some ⟨gb_0, 0, none⟩) 0), (4, .int .i64 (w64 (2 + x1.1))), (5, .slice a10 x9.length cp11), (6, .int .i64 x7), (7, .int .i64 j14), (34, .bool j15.1)]) (es' := [boxO 176 gb_0 [.slice a_0_0 q0.code.length c_0_0, .int .i64 j15.2.1, .int .u64 j15.2.2], rowT 2 eI64 a10 x9.length cp11 x9]) [0, 1] ?_ ⟨rfl, rfl, rfl, rfl, rfl, rfl, trivial⟩ (by decide) rfl
        refine JE.code ?_
        obtain ⟨j16, hj16, hresj16⟩ := bind_some hres
        refine JX.cut (K := fun J => J [(0, ptrAt (some ⟨gb_0, 0, none⟩) 0), (4, .int .i64 (w64 (2 + x1.1))), (5, .slice a10 x9.length cp11), (6, .int .i64 x7), (7, .int .i64 j16)] [boxO 176 gb_0 [.slice a_0_0 q0.code.length c_0_0, .int .i64 j15.2.1, .int .u64 j15.2.2], rowT 2 eI64 a10 x9.length cp11 x9]) ?_ ?_
        · have hres := hresj16
          refine JE.code ?_
          refine JX.region ?_
          refine JL.val (yl_move rfl) rfl ?_
          refine JL.val (yl_move rfl) rfl ?_
          refine JL.eff (ef_buildSlice (E := 2) (k := eI64.k) (us := eI64.fl [j16]) rfl (fun w => bsl33_1 j16 w) rfl (by decide)) rfl ?_
          rintro _ _ ⟨a17, rfl, rfl⟩
          obtain ⟨x19, hx19, hres⟩ := bind_some hres
          refine JL.eff (ef_appendT (ix := 1) Go.Proofs.Try.underlying33 i2 i2z i2s rfl i2b0 i2b1 rfl rfl rfl rfl rfl (fun w hC => rd_row hC 2 rfl) hx19) rfl ?_
          rintro _ _ ⟨a20, cp21, rfl, rfl⟩
          refine JL.val (yl_assign rfl) rfl ?_
          refine JL.nil ?_
          refine JE.weak (env' := [(0, ptrAt (some ⟨gb_0, 0, none⟩) 0), (4, .int .i64 (w64 (2 + x1.1))), (5, .slice a20 x19.length cp21), (6, .int .i64 x7)]) (es' := [boxO 176 gb_0 [.slice a_0_0 q0.code.length c_0_0, .int .i64 j15.2.1, .int .u64 j15.2.2], rowT 2 eI64 a20 x19.length cp21 x19]) [0, 1] ?_ ⟨rfl, rfl, rfl, rfl, trivial⟩ (by decide) rfl
          refine JE.code ?_
          refine JX.region ?_
          refine JL.val (yl_move rfl) rfl ?_
          refine JL.val (yl_sub rfl rfl) rfl ?_
          refine JL.val (yl_assign rfl) rfl ?_
          refine JL.nil ?_
          refine JE.cont hres ?_
          exact fun a w h => ⟨a20, cp21, h.weak ⟨rfl, rfl, rfl, rfl, trivial⟩ [0, 1] (by decide) rfl⟩
        · intro K
          rcases cond_some hj16 with ⟨hb, hres⟩ | ⟨hb, hres⟩
          · refine JX.condT rfl hb ?_
            refine JX.region ?_
            refine JL.val (yl_move rfl) rfl ?_
            refine JL.val (yl_move rfl) rfl ?_
            refine JL.val (yl_len_slice Go.Proofs.Try.underlying33 rfl) rfl ?_
            refine JL.val (yl_sub rfl rfl) rfl ?_
            obtain ⟨x22, hx22, hres⟩ := bind_some hres
            refine JL.val (yl_idxT Go.Proofs.Try.underlying33 i2 i2s rfl rfl hx22 rfl (fun w hC => rd_row hC 1 rfl)) rfl ?_
            refine JL.val (yl_loadT0 Go.Proofs.Try.underlying2 rfl rfl hx22 (fun w hC => rd_row hC 1 rfl) rfl) rfl ?_
            refine JL.val (yl_neg rfl) rfl ?_
            refine JL.val (yl_assign rfl) rfl ?_
            refine JL.nil ?_
            refine JE.weak (env' := [(0, ptrAt (some ⟨gb_0, 0, none⟩) 0), (4, .int .i64 (w64 (2 + x1.1))), (5, .slice a10 x9.length cp11), (6, .int .i64 x7), (7, .int .i64 (w64 (0 - x22)))]) (es' := [boxO 176 gb_0 [.slice a_0_0 q0.code.length c_0_0, .int .i64 j15.2.1, .int .u64 j15.2.2], rowT 2 eI64 a10 x9.length cp11 x9]) [0, 1] ?_ ⟨rfl, rfl, rfl, rfl, rfl, trivial⟩ (by decide) rfl
            have hj := Option.some.inj hres
            exact JE.weak [0, 1] (K) ⟨(by subst hj; rfl), (by subst hj; rfl), (by subst hj; rfl), (by subst hj; rfl), (by subst hj; rfl), trivial⟩ (by decide) (by subst hj; rfl)
          · refine JX.condF rfl hb ?_
            refine JX.skip ?_
            have hj := Option.some.inj hres
            exact JE.weak [0, 1] (K) ⟨(by subst hj; rfl), (by subst hj; rfl), (by subst hj; rfl), (by subst hj; rfl), (by subst hj; rfl), trivial⟩ (by decide) (by subst hj; rfl)
      · intro K
        rcases cond_some hj15 with ⟨hb, hres⟩ | ⟨hb, hres⟩
        · refine JL.set (d := 31) (v := .bool true) (congrArg (fun b => some (Value.bool b)) hb) ?_
          refine JL.gval rfl rfl (yl_move rfl) rfl ?_
          obtain ⟨x23, hx23, hres⟩ := bind_some hres
          refine JL.geff rfl rfl (ef_callms (caps := []) (vs := [ptrAt (some ⟨gb_0, 0, none⟩) 0, .int .i64 4]) (T := T178 gb_0 a_0_0 q0.code.length c_0_0 x23) [0] [1] [boxO 176 gb_0 [.slice a_0_0 q0.code.length c_0_0, .int .i64 x13.2.1, .int .u64 x13.2.2]] [rowT 2 eI64 a10 x9.length cp11 x9] rfl Go.Proofs.Try.func178 rfl (by kernel_rfl) rfl (by decide) rfl rfl (fun w N hF hS => c178 (q0 := Sl00Src.mk q0.code x13.2.1 x13.2.2) (RdS.pass hF g_0_0) rfl k_0_0 hS hx23)) rfl ?_
          rintro _ _ ⟨_, _, ⟨rfl, rfl, rfl⟩, rfl⟩
          refine JL.val (yl_pick_true rfl rfl) rfl ?_
          have hj := Option.some.inj hres
          exact JL.weak [1, 0] (K) ⟨(by subst hj; rfl), (by subst hj; rfl), (by subst hj; rfl), (by subst hj; rfl), (by subst hj; rfl), (by subst hj; rfl), trivial⟩ (by decide) (by subst hj; rfl)
        · refine JL.set (d := 31) (v := .bool false) (congrArg (fun b => some (Value.bool b)) hb) ?_
          refine JL.gskip rfl rfl rfl rfl ?_
          refine JL.gskip rfl rfl rfl rfl ?_
          refine JL.val (yl_pick_false rfl rfl) rfl ?_
          have hj := Option.some.inj hres
          exact JL.weak [0, 1] (K) ⟨(by subst hj; rfl), (by subst hj; rfl), (by subst hj; rfl), (by subst hj; rfl), (by subst hj; rfl), (by subst hj; rfl), trivial⟩ (by decide) (by subst hj; rfl)
    · intro K
      rcases cond_some hj14 with ⟨hb, hres⟩ | ⟨hb, hres⟩
      · refine JX.condT rfl hb ?_
        refine JX.region ?_
        refine JL.val (yl_move rfl) rfl ?_
        refine JL.val (yl_neg rfl) rfl ?_
        refine JL.val (yl_assign rfl) rfl ?_
        refine JL.nil ?_
        have hj := Option.some.inj hres
        exact JE.weak [1, 0] (K) ⟨(by subst hj; rfl), (by subst hj; rfl), (by subst hj; rfl), (by subst hj; rfl), (by subst hj; rfl), trivial⟩ (by decide) (by subst hj; rfl)
      · refine JX.condF rfl hb ?_
        refine JX.skip ?_
        have hj := Option.some.inj hres
        exact JE.weak [1, 0] (K) ⟨(by subst hj; rfl), (by subst hj; rfl), (by subst hj; rfl), (by subst hj; rfl), (by subst hj; rfl), trivial⟩ (by decide) (by subst hj; rfl)
  · refine JX.condF rfl hb ?_
    refine JX.exit ?_
    refine JE.qb rfl ?_
    obtain ⟨b1, hb1⟩ : ∃ b : (Int × Int) × List Int, b = ((x8.1, x8.2), x9) := ⟨_, rfl⟩
    have hy1 : b1 = y1 := by rw [hb1]; exact hox1 _ (Option.some.inj hres).symm
    have hres := hresO1
    rw [← hy1] at hres
    refine JE.weak (env' := [(0, ptrAt (some ⟨gb_0, 0, none⟩) 0), (4, .int .i64 (w64 (2 + x1.1))), (5, .slice a10 b1.2.length cp11)]) (es' := [boxO 176 gb_0 [.slice a_0_0 q0.code.length c_0_0, .int .i64 b1.1.1, .int .u64 b1.1.2], rowT 2 eI64 a10 b1.2.length cp11 b1.2]) [0, 1] ?_ ⟨(by subst hb1; rfl), (by subst hb1; rfl), (by subst hb1; rfl), trivial⟩ (by decide) (by subst hb1; rfl)
    refine JE.code ?_
    refine JX.seq ?_
    refine JX.seq ?_
    refine JX.region ?_
    refine JL.val (yl_move rfl) rfl ?_
    obtain ⟨x26, hx26, hres⟩ := bind_some hres
    refine JL.eff (ef_callms (caps := []) (vs := [ptrAt (some ⟨gb_0, 0, none⟩) 0, .int .i64 20]) (T := T135 gb_0 a_0_0 q0.code.length c_0_0 x26) [0] [1] [boxO 176 gb_0 [.slice a_0_0 q0.code.length c_0_0, .int .i64 b1.1.1, .int .u64 b1.1.2]] [rowT 2 eI64 a10 b1.2.length cp11 b1.2] rfl Go.Proofs.Try.func135 rfl (by kernel_rfl) rfl (by decide) rfl rfl (fun w N hF hS => c135 (q0 := Sl00Src.mk q0.code b1.1.1 b1.1.2) (RdS.pass hF g_0_0) rfl k_0_0 hS hx26)) rfl ?_
    rintro _ _ ⟨_, _, ⟨rfl, rfl, rfl⟩, rfl⟩
    refine JL.nil ?_
    refine JE.code ?_
    refine JX.block ?_
    refine JX.seq ?_
    refine JX.region ?_
    refine JL.val (yl_eql rfl rfl) rfl ?_
    refine JL.val (yl_assign rfl) rfl ?_
    refine JL.nil ?_
    refine JE.code ?_
    rcases cond_some hres with ⟨hb, hres⟩ | ⟨hb, hres⟩
    · refine JX.condT rfl hb ?_
      refine JX.region ?_
      refine JL.val (yl_move rfl) rfl ?_
      refine JL.eff (ef_buildSlice (E := 2) (k := eI64.k) (us := eI64.fl [0, 1, 12, 13]) rfl (fun w => bsl33_4 0 1 12 13 w) rfl (by decide)) rfl ?_
      rintro _ _ ⟨a27, rfl, rfl⟩
      obtain ⟨x29, hx29, hres⟩ := bind_some hres
      refine JL.eff (ef_callms (caps := []) (vs := [ptrAt (some ⟨gb_0, 0, none⟩) 0, .slice a27 4 4]) (T := T179 gb_0 a_0_0 q0.code.length c_0_0 x29) [1] [0, 2] [boxO 176 gb_0 [.slice a_0_0 q0.code.length c_0_0, .int .i64 x26.2.1, .int .u64 x26.2.2]] [rowT 2 eI64 a10 b1.2.length cp11 b1.2, rowT 2 eI64 a27 4 4 [0, 1, 12, 13]] rfl Go.Proofs.Try.func179 rfl (by kernel_rfl) rfl (by decide) rfl rfl (fun w N hF hS => c179 (q0 := Sl00Src.mk q0.code x26.2.1 x26.2.2) (RdS.pass hF g_0_0) rfl k_0_0 (RdS.row hF 2 rfl rfl) rfl (ln_row hF.cl 2 rfl) hS hx29)) rfl ?_
      rintro _ _ ⟨_, _, ⟨rfl, rfl, rfl⟩, rfl⟩
      refine JL.val (yl_assign rfl) rfl ?_
      refine JL.nil ?_
      refine JE.weak (env' := [(4, .int .i64 x29.1), (5, .slice a10 b1.2.length cp11)]) (es' := [boxO 176 gb_0 [.slice a_0_0 q0.code.length c_0_0, .int .i64 x29.2.1, .int .u64 x29.2.2], rowT 2 eI64 a10 b1.2.length cp11 b1.2]) [2, 0] ?_ ⟨rfl, rfl, trivial⟩ (by decide) rfl
      refine JE.code ?_
      refine JX.seq ?_
      refine JX.region ?_
      refine JL.val (yl_move rfl) rfl ?_
      refine JL.val (yl_move rfl) rfl ?_
      refine JL.val (yl_assign rfl) rfl ?_
      refine JL.val (yl_assign rfl) rfl ?_
      refine JL.nil ?_
      refine JE.weak (env' := [(2, .int .i64 x29.1), (3, .slice a10 b1.2.length cp11)]) (es' := [boxO 176 gb_0 [.slice a_0_0 q0.code.length c_0_0, .int .i64 x29.2.1, .int .u64 x29.2.2], rowT 2 eI64 a10 b1.2.length cp11 b1.2]) [0, 1] ?_ ⟨rfl, rfl, trivial⟩ (by decide) rfl
      refine JE.code ?_
      refine JX.ret ?_
      obtain rfl := Option.some.inj hres
      refine JE.ret (rs := [.tmp 2, .tmp 3]) (vs := [.int .i64 x29.1, .slice a10 b1.2.length cp11]) rfl ⟨rfl, rfl, trivial⟩ ?_
      exact fun w' hb hs => ⟨_, _, _, ⟨rfl, a10, b1.2.length, cp11, rfl, rfl, rfl⟩, rfl, hb, hs.sel [0, 1] _ (by decide) rfl⟩
    · refine JX.condF rfl hb ?_
      refine JX.seq ?_
      refine JX.region ?_
      refine JL.val (yl_eql rfl rfl) rfl ?_
      refine JL.val (yl_assign rfl) rfl ?_
      refine JL.nil ?_
      refine JE.code ?_
      rcases cond_some hres with ⟨hb, hres⟩ | ⟨hb, hres⟩
      · refine JX.condT rfl hb ?_
        refine JX.seq ?_
        refine JX.region ?_
        refine JL.val (yl_move rfl) rfl ?_
        refine JL.val (yl_len_slice Go.Proofs.Try.underlying33 rfl) rfl ?_
        refine JL.val (yl_gtr rfl rfl) rfl ?_
        refine JL.nil ?_
        refine JE.code ?_
        obtain ⟨j30, hj30, hresj30⟩ := bind_some hres
        refine JX.cut (K := fun J => ∀ (l31 : j30.2.length = b1.2.length), J [(4, .int .i64 (w64 (2 + x1.1))), (5, .slice a10 b1.2.length cp11)] [boxO 176 gb_0 [.slice a_0_0 q0.code.length c_0_0, .int .i64 j30.1.1, .int .u64 j30.1.2], rowT 2 eI64 a10 b1.2.length cp11 j30.2]) ?_ ?_
        · intro l31
          have hres := hresj30
          refine JE.code ?_
          refine JX.seq ?_
          refine JX.region ?_
          refine JL.val (yl_move rfl) rfl ?_
          refine JL.val (yl_move rfl) rfl ?_
          refine JL.val (yl_assign rfl) rfl ?_
          refine JL.val (yl_assign rfl) rfl ?_
          refine JL.nil ?_
          refine JE.weak (env' := [(2, .int .i64 (w64 (2 + x1.1))), (3, .slice a10 b1.2.length cp11)]) (es' := [boxO 176 gb_0 [.slice a_0_0 q0.code.length c_0_0, .int .i64 j30.1.1, .int .u64 j30.1.2], rowT 2 eI64 a10 b1.2.length cp11 j30.2]) [0, 1] ?_ ⟨rfl, rfl, trivial⟩ (by decide) rfl
          refine JE.code ?_
          refine JX.ret ?_
          obtain rfl := Option.some.inj hres
          refine JE.ret (rs := [.tmp 2, .tmp 3]) (vs := [.int .i64 (w64 (2 + x1.1)), .slice a10 b1.2.length cp11]) rfl ⟨rfl, rfl, trivial⟩ ?_
          exact fun w' hb hs => ⟨_, _, _, ⟨rfl, a10, b1.2.length, cp11, l31, rfl, rfl⟩, rfl, hb, hs.sel [0, 1] _ (by decide) rfl⟩
        · intro K
          rcases cond_some hj30 with ⟨hb, hres⟩ | ⟨hb, hres⟩
          · refine JX.condT rfl hb ?_
            refine JX.region ?_
            refine JL.val (yl_move rfl) rfl ?_
            refine JL.val (yl_move rfl) rfl ?_
            refine JL.val (yl_move rfl) rfl ?_
            refine JL.val (yl_move rfl) rfl ?_
            refine JL.val (yl_neg rfl) rfl ?_
            refine JL.eff (ef_buildSlice (E := 2) (k := eI64.k) (us := eI64.fl [0, w64 (2 + x1.1), w64 (0 - (w64 (2 + x1.1))), (-9223372036854775808)]) rfl (fun w => bsl33_4 0 (w64 (2 + x1.1)) (w64 (0 - (w64 (2 + x1.1)))) (-9223372036854775808) w) rfl (by decide)) rfl ?_
            rintro _ _ ⟨a32, rfl, rfl⟩
            obtain ⟨x34, hx34, hres⟩ := bind_some hres
            refine JL.eff (ef_callms (caps := []) (vs := [ptrAt (some ⟨gb_0, 0, none⟩) 0, .slice a32 4 4]) (T := T179 gb_0 a_0_0 q0.code.length c_0_0 x34) [1] [0, 2] [boxO 176 gb_0 [.slice a_0_0 q0.code.length c_0_0, .int .i64 x26.2.1, .int .u64 x26.2.2]] [rowT 2 eI64 a10 b1.2.length cp11 b1.2, rowT 2 eI64 a32 4 4 [0, w64 (2 + x1.1), w64 (0 - (w64 (2 + x1.1))), (-9223372036854775808)]] rfl Go.Proofs.Try.func179 rfl (by kernel_rfl) rfl (by decide) rfl rfl (fun w N hF hS => c179 (q0 := Sl00Src.mk q0.code x26.2.1 x26.2.2) (RdS.pass hF g_0_0) rfl k_0_0 (RdS.row hF 2 rfl rfl) rfl (ln_row hF.cl 2 rfl) hS hx34)) rfl ?_
            rintro _ _ ⟨_, _, ⟨rfl, rfl, rfl⟩, rfl⟩
            obtain ⟨x35, hx35, hres⟩ := bind_some hres
            refine JL.val (yl_idxT Go.Proofs.Try.underlying33 i2 i2s rfl rfl hx35 rfl (fun w hC => rd_row hC 0 rfl)) rfl ?_
            refine JL.eff (ef_storeT (ix := 0) (u := x34.1) i2 i2s rfl rfl rfl hx35 rfl) rfl ?_
            rintro _ _ rfl
            refine JL.nil ?_
            refine JE.weak (env' := [(4, .int .i64 (w64 (2 + x1.1))), (5, .slice a10 b1.2.length cp11)]) (es' := [boxO 176 gb_0 [.slice a_0_0 q0.code.length c_0_0, .int .i64 x34.2.1, .int .u64 x34.2.2], rowT 2 eI64 a10 b1.2.length cp11 (b1.2.set ((0 : Int)).toNat x34.1)]) [2, 0] ?_ ⟨rfl, rfl, trivial⟩ (by decide) rfl
            have hj := Option.some.inj hres
            exact JE.weak [0, 1] (K (by subst hj; exact List.length_set)) ⟨(by subst hj; rfl), (by subst hj; rfl), trivial⟩ (by decide) (by subst hj; rfl)
          · refine JX.condF rfl hb ?_
            refine JX.skip ?_
            have hj := Option.some.inj hres
            exact JE.weak [1, 0] (K (by subst hj; exact rfl)) ⟨(by subst hj; rfl), (by subst hj; rfl), trivial⟩ (by decide) (by subst hj; rfl)
      · refine JX.condF rfl hb ?_
        refine JX.seq ?_
        refine JX.region ?_
        refine JL.val (yl_eql rfl rfl) rfl ?_
        refine JL.val (yl_assign rfl) rfl ?_
        refine JL.nil ?_
        refine JE.code ?_
        rcases cond_some hres with ⟨hb, hres⟩ | ⟨hb, hres⟩
        · refine JX.condT rfl hb ?_
          refine JX.seq ?_
          refine JX.region ?_
          refine JL.eff (ef_buildSlice (E := 2) (k := eI64.k) (us := eI64.fl ([] : List Int)) rfl (fun w => bsl33_0  w) rfl (by decide)) rfl ?_
          rintro _ _ ⟨a36, rfl, rfl⟩
          refine JL.val (yl_assign rfl) rfl ?_
          refine JL.nil ?_
          refine JE.weak (env' := [(0, ptrAt (some ⟨gb_0, 0, none⟩) 0), (4, .int .i64 (w64 (2 + x1.1))), (5, .slice a36 0 0)]) (es' := [boxO 176 gb_0 [.slice a_0_0 q0.code.length c_0_0, .int .i64 x26.2.1, .int .u64 x26.2.2], rowT 2 eI64 a36 0 0 ([] : List Int)]) [1, 2] ?_ ⟨rfl, rfl, rfl, trivial⟩ (by decide) rfl
          refine JE.code ?_
          refine JX.seq ?_
          refine JX.region ?_
          refine JL.val (yl_move rfl) rfl ?_
          obtain ⟨x38, hx38, hres⟩ := bind_some hres
          refine JL.eff (ef_callms (caps := []) (vs := [ptrAt (some ⟨gb_0, 0, none⟩) 0, .int .i64 2]) (T := T135 gb_0 a_0_0 q0.code.length c_0_0 x38) [0] [1] [boxO 176 gb_0 [.slice a_0_0 q0.code.length c_0_0, .int .i64 x26.2.1, .int .u64 x26.2.2]] [rowT 2 eI64 a36 0 0 ([] : List Int)] rfl Go.Proofs.Try.func135 rfl (by kernel_rfl) rfl (by decide) rfl rfl (fun w N hF hS => c135 (q0 := Sl00Src.mk q0.code x26.2.1 x26.2.2) (RdS.pass hF g_0_0) rfl k_0_0 hS hx38)) rfl ?_
          rintro _ _ ⟨_, _, ⟨rfl, rfl, rfl⟩, rfl⟩
          refine JL.val (yl_add rfl rfl) rfl ?_
          refine JL.val (yl_assign rfl) rfl ?_
          refine JL.nil ?_
          refine JE.weak (env' := [(4, .int .i64 (w64 (2 + x1.1))), (5, .slice a36 0 0), (8, .int .i64 (w64 (200 + x38.1)))]) (es' := [boxO 176 gb_0 [.slice a_0_0 q0.code.length c_0_0, .int .i64 x38.2.1, .int .u64 x38.2.2], rowT 2 eI64 a36 0 0 ([] : List Int)]) [1, 0] ?_ ⟨rfl, rfl, rfl, trivial⟩ (by decide) rfl
          refine JE.code ?_
          refine JX.block ?_
          obtain ⟨y2, hy2, hresO2⟩ := bind_some hres
          refine JX.loop (I := fun (s2 : Int × List Int) aa ww => ∃ (a39 : Option Addr) (cp40 : Nat), St w M 81 [(4, .int .i64 (w64 (2 + x1.1))), (5, .slice a39 s2.2.length cp40), (8, .int .i64 s2.1)] [boxO 176 gb_0 [.slice a_0_0 q0.code.length c_0_0, .int .i64 x38.2.1, .int .u64 x38.2.2], rowT 2 eI64 a39 s2.2.length cp40 s2.2] aa ww) (sh134_2) hy2 (fun a w h => ⟨a36, 0, h.weak ⟨rfl, rfl, rfl, trivial⟩ [0, 1] (by decide) rfl⟩) ?_
          rintro ⟨x41, x42⟩ o2 hres hox2 aa ww ⟨a43, cp44, hS⟩
          refine (?_ : JX Go.Proofs.Try.prog w M 81 _ _ [(4, .int .i64 (w64 (2 + x1.1))), (5, .slice a43 x42.length cp44), (8, .int .i64 x41)] [boxO 176 gb_0 [.slice a_0_0 q0.code.length c_0_0, .int .i64 x38.2.1, .int .u64 x38.2.2], rowT 2 eI64 a43 x42.length cp44 x42] _) aa ww hS
          clear hS
          simp only [sh134_2] at hres
          refine JX.seq ?_
          refine JX.seq ?_
          refine JX.region ?_
          refine JL.val (yl_move rfl) rfl ?_
          refine JL.val (yl_gtr rfl rfl) rfl ?_
          refine JL.nil ?_
          refine JE.code ?_
          rcases cond_some hres with ⟨hb, hres⟩ | ⟨hb, hres⟩
          · refine JX.condT rfl hb ?_
            refine JX.skip ?_
            refine JE.code ?_
            refine JX.seq ?_
            refine JX.block ?_
            refine JX.region ?_
            refine JL.val (yl_move rfl) rfl ?_
            refine JL.eff (ef_buildSlice (E := 2) (k := eI64.k) (us := eI64.fl [1]) rfl (fun w => bsl33_1 1 w) rfl (by decide)) rfl ?_
            rintro _ _ ⟨a45, rfl, rfl⟩
            obtain ⟨x47, hx47, hres⟩ := bind_some hres
            refine JL.eff (ef_appendT (ix := 1) Go.Proofs.Try.underlying33 i2 i2z i2s rfl i2b0 i2b1 rfl rfl rfl rfl rfl (fun w hC => rd_row hC 2 rfl) hx47) rfl ?_
            rintro _ _ ⟨a48, cp49, rfl, rfl⟩
            refine JL.val (yl_assign rfl) rfl ?_
            refine JL.nil ?_
            refine JE.weak (env' := [(4, .int .i64 (w64 (2 + x1.1))), (5, .slice a48 x47.length cp49), (8, .int .i64 x41)]) (es' := [boxO 176 gb_0 [.slice a_0_0 q0.code.length c_0_0, .int .i64 x38.2.1, .int .u64 x38.2.2], rowT 2 eI64 a48 x47.length cp49 x47]) [0, 1] ?_ ⟨rfl, rfl, rfl, trivial⟩ (by decide) rfl
            refine JE.code ?_
            refine JX.region ?_
            refine JL.val (yl_move rfl) rfl ?_
            refine JL.val (yl_sub rfl rfl) rfl ?_
            refine JL.val (yl_assign rfl) rfl ?_
            refine JL.nil ?_
            refine JE.cont hres ?_
            exact fun a w h => ⟨a48, cp49, h.weak ⟨rfl, rfl, rfl, trivial⟩ [0, 1] (by decide) rfl⟩
          · refine JX.condF rfl hb ?_
            refine JX.exit ?_
            refine JE.qb rfl ?_
            obtain ⟨b2, hb2⟩ : ∃ b : List Int, b = x42 := ⟨_, rfl⟩
            have hy2 : b2 = y2 := by rw [hb2]; exact hox2 _ (Option.some.inj hres).symm
            have hres := hresO2
            rw [← hy2] at hres
            refine JE.weak (env' := [(4, .int .i64 (w64 (2 + x1.1))), (5, .slice a43 b2.length cp44)]) (es' := [boxO 176 gb_0 [.slice a_0_0 q0.code.length c_0_0, .int .i64 x38.2.1, .int .u64 x38.2.2], rowT 2 eI64 a43 b2.length cp44 b2]) [0, 1] ?_ ⟨(by subst hb2; rfl), (by subst hb2; rfl), trivial⟩ (by decide) (by subst hb2; rfl)
            refine JE.code ?_
            refine JX.seq ?_
            refine JX.region ?_
            refine JL.val (yl_move rfl) rfl ?_
            refine JL.val (yl_move rfl) rfl ?_
            refine JL.val (yl_assign rfl) rfl ?_
            refine JL.val (yl_assign rfl) rfl ?_
            refine JL.nil ?_
            refine JE.weak (env' := [(2, .int .i64 (w64 (2 + x1.1))), (3, .slice a43 b2.length cp44)]) (es' := [boxO 176 gb_0 [.slice a_0_0 q0.code.length c_0_0, .int .i64 x38.2.1, .int .u64 x38.2.2], rowT 2 eI64 a43 b2.length cp44 b2]) [0, 1] ?_ ⟨rfl, rfl, trivial⟩ (by decide) rfl
            refine JE.code ?_
            refine JX.ret ?_
            obtain rfl := Option.some.inj hres
            refine JE.ret (rs := [.tmp 2, .tmp 3]) (vs := [.int .i64 (w64 (2 + x1.1)), .slice a43 b2.length cp44]) rfl ⟨rfl, rfl, trivial⟩ ?_
            exact fun w' hb hs => ⟨_, _, _, ⟨rfl, a43, b2.length, cp44, rfl, rfl, rfl⟩, rfl, hb, hs.sel [0, 1] _ (by decide) rfl⟩
        · refine JX.condF rfl hb ?_
          refine JX.skip ?_
          refine JE.code ?_
          refine JX.seq ?_
          refine JX.region ?_
          refine JL.val (yl_move rfl) rfl ?_
          refine JL.val (yl_move rfl) rfl ?_
          refine JL.val (yl_assign rfl) rfl ?_
          refine JL.val (yl_assign rfl) rfl ?_
          refine JL.nil ?_
          refine JE.weak (env' := [(2, .int .i64 (w64 (2 + x1.1))), (3, .slice a10 b1.2.length cp11)]) (es' := [boxO 176 gb_0 [.slice a_0_0 q0.code.length c_0_0, .int .i64 x26.2.1, .int .u64 x26.2.2], rowT 2 eI64 a10 b1.2.length cp11 b1.2]) [1, 0] ?_ ⟨rfl, rfl, trivial⟩ (by decide) rfl
          refine JE.code ?_
          refine JX.ret ?_
          obtain rfl := Option.some.inj hres
          refine JE.ret (rs := [.tmp 2, .tmp 3]) (vs := [.int .i64 (w64 (2 + x1.1)), .slice a10 b1.2.length cp11]) rfl ⟨rfl, rfl, trivial⟩ ?_
          exact fun w' hb hs => ⟨_, _, _, ⟨rfl, a10, b1.2.length, cp11, rfl, rfl, rfl⟩, rfl, hb, hs.sel [0, 1] _ (by decide) rfl⟩

/- spec.l23Ask -/
def sh124 (q0 : List Int) : Option (Int × List Int) := Option.bind (sh133 q0) fun x1 => Option.bind (sh134 (Sl00Src.mk q0 x1.at_ x1.seed)) fun x4 => some (x4.1, x4.2.1)
def T124 (r : Int × List Int) (v : Value) (rs : List Own) : Prop := ∃ (a1 : Option Addr) (n1 c1 : Nat), r.2.length = n1 ∧ v = rets [.int .i64 r.1, .slice a1 n1 c1] ∧ rs = [rowT 2 eI64 a1 n1 c1 r.2]
set_option maxRecDepth 100000 in
theorem c124 {w : World} {q0 : List Int} {a_0 : Option Addr} {n_0 c_0 : Nat} (g_0 : Rd w a_0 (eU8.fl q0)) (l_0 : q0.length = n_0) (k_0 : n_0 ≤ c_0) {r : Int × List Int} (hres : sh124 q0 = some r) : Calls Go.Proofs.Try.prog 124 [.slice a_0 n_0 c_0].toArray w (Ret w (T124 r)) := by
  subst l_0
  unfold sh124 at hres
  refine calls_of (n := 9) (M := []) (es := []) Go.Proofs.Try.func124 rfl rfl rfl (Sep.nil _ _ _) ?_
  refine JX.seq ?_
  refine JX.region ?_
  refine JL.val (yl_assign rfl) rfl ?_
  refine JL.val (yl_assign rfl) rfl ?_
  refine JL.nil ?_
  refine JE.code ?_
  refine JX.seq ?_
  refine JX.region ?_
  refine JL.val (yl_move rfl) rfl ?_
  obtain ⟨x1, hx1, hres⟩ := bind_some hres
  refine JL.eff (ef_call (T := T133 a_0 q0.length c_0 x1) Go.Proofs.Try.func133 rfl (by kernel_rfl) rfl (fun w hC => c133 (rd_arg g_0 hC) rfl k_0 hx1)) rfl ?_
  rintro _ _ ⟨_, ⟨g2, rfl, rfl⟩, rfl⟩
  obtain ⟨x4, hx4, hres⟩ := bind_some hres
  refine JL.eff (ef_callms (caps := []) (vs := [ptrAt (some ⟨g2, 0, none⟩) 0]) (T := T134 g2 a_0 q0.length c_0 x4) [0] [] [boxO 176 g2 [.slice a_0 q0.length c_0, .int .i64 x1.at_, .int .u64 x1.seed]] [] rfl Go.Proofs.Try.func134 rfl (by kernel_rfl) rfl (by decide) rfl rfl (fun w N hF hS => c134 (q0 := Sl00Src.mk q0 x1.at_ x1.seed) (RdS.pass0 hF g_0) rfl k_0 hS hx4)) rfl ?_
  rintro _ _ ⟨_, _, ⟨rfl, a5, _, cp6, rfl, rfl, rfl⟩, rfl⟩
  refine JL.val (yl_extract rfl rfl) rfl ?_
  refine JL.val (yl_extract rfl rfl) rfl ?_
  refine JL.val (yl_assign rfl) rfl ?_
  refine JL.val (yl_assign rfl) rfl ?_
  refine JL.nil ?_
  refine JE.weak (env' := [(2, .int .i64 x4.1), (3, .slice a5 x4.2.1.length cp6)]) (es' := [rowT 2 eI64 a5 x4.2.1.length cp6 x4.2.1]) [1] ?_ ⟨rfl, rfl, trivial⟩ (by decide) rfl
  refine JE.code ?_
  refine JX.ret ?_
  obtain rfl := Option.some.inj hres
  refine JE.ret (rs := [.tmp 2, .tmp 3]) (vs := [.int .i64 x4.1, .slice a5 x4.2.1.length cp6]) rfl ⟨rfl, rfl, trivial⟩ ?_
  exact fun w' hb hs => ⟨_, _, ⟨a5, x4.2.1.length, cp6, rfl, rfl, rfl⟩, rfl, hb, hs.sel [0] _ (by decide) rfl⟩

/- spec.DrawOrderAfter -/
def sh63 (q0 : List Int) : Option (Int × List Int) := Option.bind (sh124 q0) fun x1 => some (x1.1, x1.2)
def T63 (r : Int × List Int) (v : Value) (rs : List Own) : Prop := ∃ (a1 : Option Addr) (n1 c1 : Nat), r.2.length = n1 ∧ v = rets [.int .i64 r.1, .slice a1 n1 c1] ∧ rs = [rowT 2 eI64 a1 n1 c1 r.2]
set_option maxRecDepth 100000 in
theorem c63 {w : World} {q0 : List Int} {a_0 : Option Addr} {n_0 c_0 : Nat} (g_0 : Rd w a_0 (eU8.fl q0)) (l_0 : q0.length = n_0) (k_0 : n_0 ≤ c_0) {r : Int × List Int} (hres : sh63 q0 = some r) : Calls Go.Proofs.Try.prog 63 [.slice a_0 n_0 c_0].toArray w (Ret w (T63 r)) := by
  subst l_0
  unfold sh63 at hres
  refine calls_of (n := 8) (M := []) (es := []) Go.Proofs.Try.func63 rfl rfl rfl (Sep.nil _ _ _) ?_
  refine JX.seq ?_
  refine JX.region ?_
  refine JL.val (yl_assign rfl) rfl ?_
  refine JL.val (yl_assign rfl) rfl ?_
  refine JL.nil ?_
  refine JE.code ?_
  refine JX.seq ?_
  refine JX.region ?_
  refine JL.val (yl_move rfl) rfl ?_
  obtain ⟨x1, hx1, hres⟩ := bind_some hres
  refine JL.eff (ef_call (T := T124 x1) Go.Proofs.Try.func124 rfl (by kernel_rfl) rfl (fun w hC => c124 (rd_arg g_0 hC) rfl k_0 hx1)) rfl ?_
  rintro _ _ ⟨_, ⟨a2, _, cp3, rfl, rfl, rfl⟩, rfl⟩
  refine JL.val (yl_extract rfl rfl) rfl ?_
  refine JL.val (yl_extract rfl rfl) rfl ?_
  refine JL.val (yl_assign rfl) rfl ?_
  refine JL.val (yl_assign rfl) rfl ?_
  refine JL.nil ?_
  refine JE.weak (env' := [(2, .int .i64 x1.1), (3, .slice a2 x1.2.length cp3)]) (es' := [rowT 2 eI64 a2 x1.2.length cp3 x1.2]) [0] ?_ ⟨rfl, rfl, trivial⟩ (by decide) rfl
  refine JE.code ?_
  refine JX.ret ?_
  obtain rfl := Option.some.inj hres
  refine JE.ret (rs := [.tmp 2, .tmp 3]) (vs := [.int .i64 x1.1, .slice a2 x1.2.length cp3]) rfl ⟨rfl, rfl, trivial⟩ ?_
  exact fun w' hb hs => ⟨_, _, ⟨a2, x1.2.length, cp3, rfl, rfl, rfl⟩, rfl, hb, hs.sel [0] _ (by decide) rfl⟩

/- impl.inRange -/
def sh136 (q0 : Int) (q1 : Int) (q2 : Int) : Option (Bool) := some ((decide (q1 ≤ q0)) && (decide (q0 ≤ q2)))
def T136 (r : Bool) (v : Value) (rs : List Own) : Prop := v = rets [.bool r] ∧ rs = []
set_option maxRecDepth 100000 in
theorem c136 {w : World} {q0 : Int} {q1 : Int} {q2 : Int} {r : Bool} (hres : sh136 q0 q1 q2 = some r) : Calls Go.Proofs.Try.prog 136 [.int .i64 q0, .int .i64 q1, .int .i64 q2].toArray w (Ret w (T136 r)) := by
  unfold sh136 at hres
  refine calls_of (n := 15) (M := []) (es := []) Go.Proofs.Try.func136 rfl rfl rfl (Sep.nil _ _ _) ?_
  refine JX.seq ?_
  refine JX.region ?_
  refine JL.val (yl_assign rfl) rfl ?_
  refine JL.nil ?_
  refine JE.code ?_
  refine JX.seq ?_
  refine JX.region ?_
  refine JL.val (yl_move rfl) rfl ?_
  refine JL.val (yl_move rfl) rfl ?_
  refine JL.val (yl_geq rfl rfl) rfl ?_
  refine JL.val (yl_move rfl) rfl ?_
  refine JL.cut (K := fun J => J [(14, .bool ((decide (q1 ≤ q0)) && (decide (q0 ≤ q2))))] []) 4 ?_ ?_
  · refine JL.val (yl_assign rfl) rfl ?_
    refine JL.nil ?_
    refine JE.weak (env' := [(6, .bool ((decide (q1 ≤ q0)) && (decide (q0 ≤ q2))))]) (es' := []) [] ?_ ⟨rfl, trivial⟩ (by decide) rfl
    refine JE.code ?_
    refine JX.ret ?_
    obtain rfl := Option.some.inj hres
    refine JE.ret (rs := [.tmp 6]) (vs := [.bool ((decide (q1 ≤ q0)) && (decide (q0 ≤ q2)))]) rfl ⟨rfl, trivial⟩ ?_
    exact fun w' hb hs => ⟨_, _, ⟨rfl, rfl⟩, rfl, hb, hs.sel [] _ (by decide) rfl⟩
  · intro K
    rcases Bool.eq_false_or_eq_true (decide (q1 ≤ q0)) with hb | hb
    · refine JL.set (d := 10) (v := .bool true) (congrArg (fun b => some (Value.bool b)) hb) ?_
      refine JL.gval rfl rfl (yl_move rfl) rfl ?_
      refine JL.gval rfl rfl (yl_move rfl) rfl ?_
      refine JL.gval rfl rfl (yl_leq rfl rfl) rfl ?_
      refine JL.val (yl_pick_true rfl rfl) rfl ?_
      exact JL.weak [] K ⟨(by rw [hb]; rfl), trivial⟩ (by decide) rfl
    · refine JL.set (d := 10) (v := .bool false) (congrArg (fun b => some (Value.bool b)) hb) ?_
      refine JL.gskip rfl rfl rfl rfl ?_
      refine JL.gskip rfl rfl rfl rfl ?_
      refine JL.gskip rfl rfl rfl rfl ?_
      refine JL.val (yl_pick_false rfl rfl) rfl ?_
      exact JL.weak [] K ⟨(by rw [hb]; rfl), trivial⟩ (by decide) rfl

/- impl.ValidWord -/
def sh76_1 (q0 : Int) (q1 : List Int) : Int → Option (Int ⊕ (Unit ⊕ Bool))
  | x1 => bif decide (x1 < (q1.length : Int)) then (Option.bind (getI q1 x1) fun x2 => Option.bind (bif x2 == 0 then (some true) else (Option.bind (sh136 x2 (w64 (1 - q0)) (w64 (q0 - 1))) fun x4 => some !x4)) fun cb3 => (bif cb3 then (some (.inr (.inr false))) else (some (.inl (w64 (x1 + 1)))))) else (some (.inr (.inl ())))
def sh76 (q0 : Int) (q1 : List Int) : Option (Bool) := Option.bind (iter (sh76_1 q0 q1) 0) fun y1 => elimS y1 (fun r => some r) fun b1 => (Option.bind (sh136 q0 2 12) fun x5 => some (x5 && (decide ((q1.length : Int) ≤ 200))))
def T76 (r : Bool) (v : Value) (rs : List Own) : Prop := v = rets [.bool r] ∧ rs = []
set_option maxRecDepth 100000 in
theorem c76 {w : World} {q0 : Int} {q1 : List Int} {a_1 : Option Addr} {n_1 c_1 : Nat} (g_1 : Rd w a_1 (eI64.fl q1)) (l_1 : q1.length = n_1) (k_1 : n_1 ≤ c_1) {r : Bool} (hres : sh76 q0 q1 = some r) : Calls Go.Proofs.Try.prog 76 [.int .i64 q0, .slice a_1 n_1 c_1].toArray w (Ret w (T76 r)) := by
  subst l_1
  unfold sh76 at hres
  refine calls_of (n := 32) (M := []) (es := []) Go.Proofs.Try.func76 rfl rfl rfl (Sep.nil _ _ _) ?_
  refine JX.seq ?_
  refine JX.region ?_
  refine JL.val (yl_assign rfl) rfl ?_
  refine JL.nil ?_
  refine JE.code ?_
  refine JX.seq ?_
  refine JX.seq ?_
  refine JX.region ?_
  refine JL.val (yl_move rfl) rfl ?_
  refine JL.val (yl_len_slice Go.Proofs.Try.underlying33 rfl) rfl ?_
  refine JL.val (yl_move rfl) rfl ?_
  refine JL.nil ?_
  refine JE.code ?_
  refine JX.block ?_
  obtain ⟨y1, hy1, hresO1⟩ := bind_some hres
  refine JX.loop (I := fun (s1 : Int) aa ww => St w [] 32 [(0, .int .i64 q0), (1, .slice a_1 q1.length c_1), (7, .slice a_1 q1.length c_1), (8, .int .i64 (q1.length : Int)), (9, .int .i64 s1)] [] aa ww) (sh76_1 q0 q1) hy1 (fun a w h => h.weak ⟨rfl, rfl, rfl, rfl, rfl, trivial⟩ [] (by decide) rfl) ?_
  rintro x1 o1 hres hox1 aa ww hS
  refine (?_ : JX Go.Proofs.Try.prog w [] 32 _ _ [(0, .int .i64 q0), (1, .slice a_1 q1.length c_1), (7, .slice a_1 q1.length c_1), (8, .int .i64 (q1.length : Int)), (9, .int .i64 x1)] [] _) aa ww hS
  clear hS
  unfold sh76_1 at hres
  refine JX.seq ?_
  refine JX.region ?_
  refine JL.val (yl_lss rfl rfl) rfl ?_
  refine JL.nil ?_
  refine JE.code ?_
  refine JX.seq ?_
  rcases cond_some hres with ⟨hb, hres⟩ | ⟨hb, hres⟩
  · refine JX.condT rfl hb ?_
    refine JX.skip ?_
    refine JE.code ?_
    refine JX.seq ?_
    refine JX.block ?_
    refine JX.seq ?_
    refine JX.region ?_
    obtain ⟨x2, hx2, hres⟩ := bind_some hres
    refine JL.val (yl_idxT Go.Proofs.Try.underlying33 i2 i2s rfl rfl hx2 rfl (fun w hC => rd_arg g_1 hC)) rfl ?_
    refine JL.val (yl_loadT0 Go.Proofs.Try.underlying2 rfl rfl hx2 (fun w hC => rd_arg g_1 hC) rfl) rfl ?_
    refine JL.val (yl_assign rfl) rfl ?_
    refine JL.nil ?_
    refine JE.code ?_
    refine JX.seq ?_
    refine JX.region ?_
    refine JL.val (yl_move rfl) rfl ?_
    refine JL.val (yl_eql rfl rfl) rfl ?_
    refine JL.val (yl_move rfl) rfl ?_
    obtain ⟨cb3, hcb3, hres⟩ := bind_some hres
    refine JL.cut (K := fun J => J [(0, .int .i64 q0), (1, .slice a_1 q1.length c_1), (7, .slice a_1 q1.length c_1), (8, .int .i64 (q1.length : Int)), (9, .int .i64 x1), (23, .bool cb3)] []) 8 ?_ ?_
    · refine JL.nil ?_
      refine JE.weak (env' := [(0, .int .i64 q0), (1, .slice a_1 q1.length c_1), (7, .slice a_1 q1.length c_1), (8, .int .i64 (q1.length : Int)), (9, .int .i64 x1), (23, .bool cb3)]) (es' := []) [] ?_ ⟨rfl, rfl, rfl, rfl, rfl, rfl, trivial⟩ (by decide) rfl
      refine JE.code ?_
      rcases cond_some hres with ⟨hb, hres⟩ | ⟨hb, hres⟩
      · refine JX.condT rfl hb ?_
        refine JX.seq ?_
        refine JX.region ?_
        refine JL.val (yl_assign rfl) rfl ?_
        refine JL.nil ?_
        refine JE.code ?_
        refine JX.ret ?_
        refine JE.qbr ?_
        refine JE.qbr ?_
        have hres := elimS_inr hresO1 (hox1 _ (Option.some.inj hres).symm)
        obtain rfl := Option.some.inj hres
        refine JE.ret (rs := [.tmp 4]) (vs := [.bool false]) rfl ⟨rfl, trivial⟩ ?_
        exact fun w' hb hs => ⟨_, _, ⟨rfl, rfl⟩, rfl, hb, hs.sel [] _ (by decide) rfl⟩
      · refine JX.condF rfl hb ?_
        refine JX.skip ?_
        refine JE.code ?_
        refine JX.region ?_
        refine JL.val (yl_add rfl rfl) rfl ?_
        refine JL.val (yl_move rfl) rfl ?_
        refine JL.nil ?_
        refine JE.cont hres ?_
        exact fun a w h => h.weak ⟨rfl, rfl, rfl, rfl, rfl, trivial⟩ [] (by decide) rfl
    · intro K
      rcases cond_some hcb3 with ⟨hb, hres⟩ | ⟨hb, hres⟩
      · refine JL.set (d := 15) (v := .bool true) (congrArg (fun b => some (Value.bool b)) hb) ?_
        refine JL.gskip rfl rfl rfl rfl ?_
        refine JL.gskip rfl rfl rfl rfl ?_
        refine JL.gskip rfl rfl rfl rfl ?_
        refine JL.gskip rfl rfl rfl rfl ?_
        refine JL.gskip rfl rfl rfl rfl ?_
        refine JL.gskip rfl rfl rfl rfl ?_
        refine JL.gskip rfl rfl rfl rfl ?_
        refine JL.val (yl_pick_true rfl rfl) rfl ?_
        have he := Option.some.inj hres
        exact JL.weak [] K ⟨rfl, rfl, rfl, rfl, rfl, (by rw [← he]; rfl), trivial⟩ (by decide) rfl
      · refine JL.set (d := 15) (v := .bool false) (congrArg (fun b => some (Value.bool b)) hb) ?_
        refine JL.gval rfl rfl (yl_move rfl) rfl ?_
        refine JL.gval rfl rfl (yl_move rfl) rfl ?_
        refine JL.gval rfl rfl (yl_sub rfl rfl) rfl ?_
        refine JL.gval rfl rfl (yl_move rfl) rfl ?_
        refine JL.gval rfl rfl (yl_sub rfl rfl) rfl ?_
        obtain ⟨x4, hx4, hres⟩ := bind_some hres
        refine JL.geff rfl rfl (ef_call (T := T136 x4) Go.Proofs.Try.func136 rfl (by kernel_rfl) rfl (fun w hC => c136  hx4)) rfl ?_
        rintro _ _ ⟨_, ⟨rfl, rfl⟩, rfl⟩
        refine JL.gval rfl rfl (yl_not rfl) rfl ?_
        refine JL.val (yl_pick_false rfl rfl) rfl ?_
        have he := Option.some.inj hres
        exact JL.weak [] K ⟨rfl, rfl, rfl, rfl, rfl, (by rw [← he]; rfl), trivial⟩ (by decide) rfl
  · refine JX.condF rfl hb ?_
    refine JX.exit ?_
    refine JE.qb rfl ?_
    obtain ⟨b1, hb1⟩ : ∃ b : Unit, b = () := ⟨_, rfl⟩
    have hy1 : Sum.inl b1 = y1 := by rw [hb1]; exact hox1 _ (Option.some.inj hres).symm
    have hres := elimS_inl hresO1 hy1
    refine JE.weak (env' := [(0, .int .i64 q0), (1, .slice a_1 q1.length c_1)]) (es' := []) [] ?_ ⟨(by subst hb1; rfl), (by subst hb1; rfl), trivial⟩ (by decide) (by subst hb1; rfl)
    refine JE.code ?_
    refine JX.seq ?_
    refine JX.region ?_
    refine JL.val (yl_move rfl) rfl ?_
    obtain ⟨x5, hx5, hres⟩ := bind_some hres
    refine JL.eff (ef_call (T := T136 x5) Go.Proofs.Try.func136 rfl (by kernel_rfl) rfl (fun w hC => c136  hx5)) rfl ?_
    rintro _ _ ⟨_, ⟨rfl, rfl⟩, rfl⟩
    refine JL.val (yl_move rfl) rfl ?_
    refine JL.cut (K := fun J => J [(31, .bool (x5 && (decide ((q1.length : Int) ≤ 200))))] []) 4 ?_ ?_
    · refine JL.val (yl_assign rfl) rfl ?_
      refine JL.nil ?_
      refine JE.weak (env' := [(4, .bool (x5 && (decide ((q1.length : Int) ≤ 200))))]) (es' := []) [] ?_ ⟨rfl, trivial⟩ (by decide) rfl
      refine JE.code ?_
      refine JX.ret ?_
      obtain rfl := Option.some.inj hres
      refine JE.ret (rs := [.tmp 4]) (vs := [.bool (x5 && (decide ((q1.length : Int) ≤ 200)))]) rfl ⟨rfl, trivial⟩ ?_
      exact fun w' hb hs => ⟨_, _, ⟨rfl, rfl⟩, rfl, hb, hs.sel [] _ (by decide) rfl⟩
    · intro K
      rcases Bool.eq_false_or_eq_true (x5) with hb | hb
      · refine JL.set (d := 27) (v := .bool true) (congrArg (fun b => some (Value.bool b)) hb) ?_
        refine JL.gval rfl rfl (yl_move rfl) rfl ?_
        refine JL.gval rfl rfl (yl_len_slice Go.Proofs.Try.underlying33 rfl) rfl ?_
        refine JL.gval rfl rfl (yl_leq rfl rfl) rfl ?_
        refine JL.val (yl_pick_true rfl rfl) rfl ?_
        exact JL.weak [] K ⟨(by rw [hb]; rfl), trivial⟩ (by decide) rfl
      · refine JL.set (d := 27) (v := .bool false) (congrArg (fun b => some (Value.bool b)) hb) ?_
        refine JL.gskip rfl rfl rfl rfl ?_
        refine JL.gskip rfl rfl rfl rfl ?_
        refine JL.gskip rfl rfl rfl rfl ?_
        refine JL.val (yl_pick_false rfl rfl) rfl ?_
        exact JL.weak [] K ⟨(by rw [hb]; rfl), trivial⟩ (by decide) rfl

/- impl.rightOf -/
def sh176 (q0 : Int) : Option (Int) := some (if q0 < (w64 (0 - q0)) then (w64 (0 - q0)) else q0)
def T176 (r : Int) (v : Value) (rs : List Own) : Prop := v = rets [.int .i64 r] ∧ rs = []
set_option maxRecDepth 100000 in
theorem c176 {w : World} {q0 : Int} {r : Int} (hres : sh176 q0 = some r) : Calls Go.Proofs.Try.prog 176 [.int .i64 q0].toArray w (Ret w (T176 r)) := by
  unfold sh176 at hres
  refine calls_of (n := 7) (M := []) (es := []) Go.Proofs.Try.func176 rfl rfl rfl (Sep.nil _ _ _) ?_
  refine JX.seq ?_
  refine JX.region ?_
  refine JL.val (yl_assign rfl) rfl ?_
  refine JL.nil ?_
  refine JE.code ?_
  refine JX.seq ?_
  refine JX.region ?_
  refine JL.val (yl_move rfl) rfl ?_
  refine JL.val (yl_move rfl) rfl ?_
  refine JL.val (yl_neg rfl) rfl ?_
  refine JL.val (yl_max rfl rfl) rfl ?_
  refine JL.val (yl_assign rfl) rfl ?_
  refine JL.nil ?_
  refine JE.weak (env' := [(2, .int .i64 (if q0 < (w64 (0 - q0)) then (w64 (0 - q0)) else q0))]) (es' := []) [] ?_ ⟨rfl, trivial⟩ (by decide) rfl
  refine JE.code ?_
  refine JX.ret ?_
  obtain rfl := Option.some.inj hres
  refine JE.ret (rs := [.tmp 2]) (vs := [.int .i64 (if q0 < (w64 (0 - q0)) then (w64 (0 - q0)) else q0)]) rfl ⟨rfl, trivial⟩ ?_
  exact fun w' hb hs => ⟨_, _, ⟨rfl, rfl⟩, rfl, hb, hs.sel [] _ (by decide) rfl⟩

/- impl.OrderAfter$1 -/
def sh126 (q0 : List Int) (q1 : Int) : Option (Unit) := some ()
def T126 (r : Unit) (v : Value) (rs : List Own) : Prop := v = rets [] ∧ rs = []
set_option maxRecDepth 100000 in
theorem c126 {w : World} {q0 : List Int} {a_0 : Option Addr} {n_0 c_0 : Nat} (g_0 : Rd w a_0 (eI64.fl q0)) (l_0 : q0.length = n_0) (k_0 : n_0 ≤ c_0) {q1 : Int} {r : Unit} (hres : sh126 q0 q1 = some r) : Calls Go.Proofs.Try.prog 126 [.slice a_0 n_0 c_0, .int .i64 q1].toArray w (Ret w (T126 r)) := by
  subst l_0
  unfold sh126 at hres
  refine calls_of (n := 4) (M := []) (es := []) Go.Proofs.Try.func126 rfl rfl rfl (Sep.nil _ _ _) ?_
  refine JX.skip ?_
  show JE _ _ _ (bodyPost _ _ _ .ret) _ _
  obtain rfl := Option.some.inj hres
  refine JE.ret (rs := []) (vs := []) rfl trivial ?_
  exact fun w' hb hs => ⟨_, _, ⟨rfl, rfl⟩, rfl, hb, hs.sel [] _ (by decide) rfl⟩

/- impl.plait -/
def sh125f126_2 (q1 : List Int) : (Int × List Int) → Option ((Int × List Int) ⊕ (List Int))
  | (x17, x18) => bif decide (x17 < (q1.length : Int)) then (Option.bind (getI q1 x17) fun x20 => Option.bind (sh176 x20) fun x21 => Option.bind (getI x18 (w64 (x21 - 1))) fun x22 => Option.bind (bif decide (x20 < 0) then (Option.bind (getI x18 x21) fun x30 => some x30) else (some x22)) fun j23 => (Option.bind (getI x18 x21) fun x25 => Option.bind (getI x18 (w64 (x21 - 1))) fun x26 => Option.bind (getI x18 (w64 (x21 - 1))) fun x27 => Option.bind (getI (x18.set (w64 (x21 - 1)).toNat x25) x21) fun x28 => Option.bind (sh126 ((x18.set (w64 (x21 - 1)).toNat x25).set (x21).toNat x26) j23) fun x29 => some (.inl (w64 (x17 + 1), (x18.set (w64 (x21 - 1)).toNat x25).set (x21).toNat x26)))) else (some (.inr x18))
def sh125f126_1 (q0 : Int) : (Int × List Int) → Option ((Int × List Int) ⊕ (List Int))
  | (x5, x6) => bif decide (x5 < q0) then (Option.bind (appL x6 [x5]) fun x11 => some (.inl (w64 (x5 + 1), x11))) else (some (.inr x6))
def sh125f126 (q0 : Int) (q1 : List Int) : Option (List Int) := Option.bind (iter (sh125f126_1 q0) (0, ([] : List Int))) fun b1 => (Option.bind (iter (sh125f126_2 q1) (0, b1)) fun b2 => (some b2))
def T125f126 (r : List Int) (v : Value) (rs : List Own) : Prop := ∃ (a0 : Option Addr) (n0 c0 : Nat), r.length = n0 ∧ v = rets [.slice a0 n0 c0] ∧ rs = [rowT 2 eI64 a0 n0 c0 r]
set_option maxRecDepth 100000 in
theorem c125f126 {w : World} {q0 : Int} {q1 : List Int} {a_1 : Option Addr} {n_1 c_1 : Nat} (g_1 : Rd w a_1 (eI64.fl q1)) (l_1 : q1.length = n_1) (k_1 : n_1 ≤ c_1) {r : List Int} (hres : sh125f126 q0 q1 = some r) : Calls Go.Proofs.Try.prog 125 [.int .i64 q0, .slice a_1 n_1 c_1, .func (.func 126) #[] #[]].toArray w (Ret w (T125f126 r)) := by
  subst l_1
  unfold sh125f126 at hres
  refine calls_of (n := 64) (M := []) (es := []) Go.Proofs.Try.func125 rfl rfl rfl (Sep.nil _ _ _) ?_
  refine JX.seq ?_
  refine JX.region ?_
  refine JL.val (yl_assign rfl) rfl ?_
  refine JL.nil ?_
  refine JE.code ?_
  refine JX.seq ?_
  refine JX.region ?_
  refine JL.eff (ef_buildSlice (E := 2) (k := eI64.k) (us := eI64.fl ([] : List Int)) rfl (fun w => bsl33_0  w) rfl (by decide)) rfl ?_
  rintro _ _ ⟨a1, rfl, rfl⟩
  refine JL.val (yl_assign rfl) rfl ?_
  refine JL.nil ?_
  refine JE.code ?_
  refine JX.seq ?_
  refine JX.seq ?_
  refine JX.region ?_
  refine JL.val (yl_move rfl) rfl ?_
  refine JL.val (yl_move rfl) rfl ?_
  refine JL.nil ?_
  refine JE.code ?_
  refine JX.block ?_
  obtain ⟨y1, hy1, hresO1⟩ := bind_some hres
  refine JX.loop (I := fun (s1 : Int × List Int) aa ww => ∃ (a3 : Option Addr) (cp4 : Nat), St w [] 64 [(1, .slice a_1 q1.length c_1), (2, .func (.func 126) #[] #[]), (7, .slice a3 s1.2.length cp4), (14, .int .i64 q0), (15, .int .i64 s1.1)] [rowT 2 eI64 a3 s1.2.length cp4 s1.2] aa ww) (sh125f126_1 q0) hy1 (fun a w h => ⟨a1, 0, h.weak ⟨rfl, rfl, rfl, rfl, rfl, trivial⟩ [0] (by decide) rfl⟩) ?_
  rintro ⟨x5, x6⟩ o1 hres hox1 aa ww ⟨a7, cp8, hS⟩
  refine (?_ : JX Go.Proofs.Try.prog w [] 64 _ _ [(1, .slice a_1 q1.length c_1), (2, .func (.func 126) #[] #[]), (7, .slice a7 x6.length cp8), (14, .int .i64 q0), (15, .int .i64 x5)] [rowT 2 eI64 a7 x6.length cp8 x6] _) aa ww hS
  clear hS
  simp only [sh125f126_1] at hres
  refine JX.seq ?_
  refine JX.region ?_
  refine JL.val (yl_lss rfl rfl) rfl ?_
  refine JL.nil ?_
  refine JE.code ?_
  refine JX.seq ?_
  rcases cond_some hres with ⟨hb, hres⟩ | ⟨hb, hres⟩
  · refine JX.condT rfl hb ?_
    refine JX.skip ?_
    refine JE.code ?_
    refine JX.seq ?_
    refine JX.block ?_
    refine JX.seq ?_
    refine JX.region ?_
    refine JL.val (yl_move rfl) rfl ?_
    refine JL.val (yl_assign rfl) rfl ?_
    refine JL.nil ?_
    refine JE.code ?_
    refine JX.region ?_
    refine JL.val (yl_move rfl) rfl ?_
    refine JL.val (yl_move rfl) rfl ?_
    refine JL.eff (ef_buildSlice (E := 2) (k := eI64.k) (us := eI64.fl [x5]) rfl (fun w => bsl33_1 x5 w) rfl (by decide)) rfl ?_
    rintro _ _ ⟨a9, rfl, rfl⟩
    obtain ⟨x11, hx11, hres⟩ := bind_some hres
    refine JL.eff (ef_appendT (ix := 0) Go.Proofs.Try.underlying33 i2 i2z i2s rfl i2b0 i2b1 rfl rfl rfl rfl rfl (fun w hC => rd_row hC 1 rfl) hx11) rfl ?_
    rintro _ _ ⟨a12, cp13, rfl, rfl⟩
    refine JL.val (yl_assign rfl) rfl ?_
    refine JL.nil ?_
    refine JE.weak (env' := [(1, .slice a_1 q1.length c_1), (2, .func (.func 126) #[] #[]), (7, .slice a12 x11.length cp13), (14, .int .i64 q0), (15, .int .i64 x5)]) (es' := [rowT 2 eI64 a12 x11.length cp13 x11]) [0] ?_ ⟨rfl, rfl, rfl, rfl, rfl, trivial⟩ (by decide) rfl
    refine JE.code ?_
    refine JX.region ?_
    refine JL.val (yl_add rfl rfl) rfl ?_
    refine JL.val (yl_move rfl) rfl ?_
    refine JL.nil ?_
    refine JE.cont hres ?_
    exact fun a w h => ⟨a12, cp13, h.weak ⟨rfl, rfl, rfl, rfl, rfl, trivial⟩ [0] (by decide) rfl⟩
  · refine JX.condF rfl hb ?_
    refine JX.exit ?_
    refine JE.qb rfl ?_
    obtain ⟨b1, hb1⟩ : ∃ b : List Int, b = x6 := ⟨_, rfl⟩
    have hy1 : b1 = y1 := by rw [hb1]; exact hox1 _ (Option.some.inj hres).symm
    have hres := hresO1
    rw [← hy1] at hres
    refine JE.weak (env' := [(1, .slice a_1 q1.length c_1), (2, .func (.func 126) #[] #[]), (7, .slice a7 b1.length cp8)]) (es' := [rowT 2 eI64 a7 b1.length cp8 b1]) [0] ?_ ⟨(by subst hb1; rfl), (by subst hb1; rfl), (by subst hb1; rfl), trivial⟩ (by decide) (by subst hb1; rfl)
    refine JE.code ?_
    refine JX.seq ?_
    refine JX.seq ?_
    refine JX.region ?_
    refine JL.val (yl_move rfl) rfl ?_
    refine JL.val (yl_len_slice Go.Proofs.Try.underlying33 rfl) rfl ?_
    refine JL.val (yl_move rfl) rfl ?_
    refine JL.nil ?_
    refine JE.code ?_
    refine JX.block ?_
    obtain ⟨y2, hy2, hresO2⟩ := bind_some hres
    refine JX.loop (I := fun (s2 : Int × List Int) aa ww => ∃ (l16 : s2.2.length = b1.length), St w [] 64 [(2, .func (.func 126) #[] #[]), (7, .slice a7 b1.length cp8), (23, .slice a_1 q1.length c_1), (24, .int .i64 (q1.length : Int)), (25, .int .i64 s2.1)] [rowT 2 eI64 a7 b1.length cp8 s2.2] aa ww) (sh125f126_2 q1) hy2 (fun a w h => ⟨rfl, h.weak ⟨rfl, rfl, rfl, rfl, rfl, trivial⟩ [0] (by decide) rfl⟩) ?_
    rintro ⟨x17, x18⟩ o2 hres hox2 aa ww ⟨l19, hS⟩
    refine (?_ : JX Go.Proofs.Try.prog w [] 64 _ _ [(2, .func (.func 126) #[] #[]), (7, .slice a7 b1.length cp8), (23, .slice a_1 q1.length c_1), (24, .int .i64 (q1.length : Int)), (25, .int .i64 x17)] [rowT 2 eI64 a7 b1.length cp8 x18] _) aa ww hS
    clear hS
    simp only [sh125f126_2] at hres
    refine JX.seq ?_
    refine JX.region ?_
    refine JL.val (yl_lss rfl rfl) rfl ?_
    refine JL.nil ?_
    refine JE.code ?_
    refine JX.seq ?_
    rcases cond_some hres with ⟨hb, hres⟩ | ⟨hb, hres⟩
    · refine JX.condT rfl hb ?_
      refine JX.skip ?_
      refine JE.code ?_
      refine JX.seq ?_
      refine JX.block ?_
      refine JX.seq ?_
      refine JX.region ?_
      obtain ⟨x20, hx20, hres⟩ := bind_some hres
      refine JL.val (yl_idxT Go.Proofs.Try.underlying33 i2 i2s rfl rfl hx20 rfl (fun w hC => rd_arg g_1 hC)) rfl ?_
      refine JL.val (yl_loadT0 Go.Proofs.Try.underlying2 rfl rfl hx20 (fun w hC => rd_arg g_1 hC) rfl) rfl ?_
      refine JL.val (yl_assign rfl) rfl ?_
      refine JL.nil ?_
      refine JE.code ?_
      refine JX.seq ?_
      refine JX.region ?_
      refine JL.val (yl_move rfl) rfl ?_
      obtain ⟨x21, hx21, hres⟩ := bind_some hres
      refine JL.eff (ef_call (T := T176 x21) Go.Proofs.Try.func176 rfl (by kernel_rfl) rfl (fun w hC => c176  hx21)) rfl ?_
      rintro _ _ ⟨_, ⟨rfl, rfl⟩, rfl⟩
      refine JL.val (yl_assign rfl) rfl ?_
      refine JL.nil ?_
      refine JE.code ?_
      refine JX.seq ?_
      refine JX.region ?_
      refine JL.val (yl_move rfl) rfl ?_
      refine JL.val (yl_move rfl) rfl ?_
      refine JL.val (yl_sub rfl rfl) rfl ?_
      obtain ⟨x22, hx22, hres⟩ := bind_some hres
      refine JL.val (yl_idxT Go.Proofs.Try.underlying33 i2 i2s rfl rfl hx22 l19 (fun w hC => rd_row hC 0 rfl)) rfl ?_
      refine JL.val (yl_loadT0 Go.Proofs.Try.underlying2 rfl rfl hx22 (fun w hC => rd_row hC 0 rfl) rfl) rfl ?_
      refine JL.val (yl_assign rfl) rfl ?_
      refine JL.nil ?_
      refine JE.weak (env' := [(2, .func (.func 126) #[] #[]), (7, .slice a7 b1.length cp8), (10, .int .i64 x20), (11, .int .i64 x21), (12, .int .i64 x22), (23, .slice a_1 q1.length c_1), (24, .int .i64 (q1.length : Int)), (25, .int .i64 x17)]) (es' := [rowT 2 eI64 a7 b1.length cp8 x18]) [0] ?_ ⟨rfl, rfl, rfl, rfl, rfl, rfl, rfl, rfl, trivial⟩ (by decide) rfl
      refine JE.code ?_
      refine JX.seq ?_
      refine JX.seq ?_
      refine JX.region ?_
      refine JL.val (yl_move rfl) rfl ?_
      refine JL.val (yl_lss rfl rfl) rfl ?_
      refine JL.nil ?_
      refine JE.code ?_
      obtain ⟨j23, hj23, hresj23⟩ := bind_some hres
      refine JX.cut (K := fun J => J [(2, .func (.func 126) #[] #[]), (7, .slice a7 b1.length cp8), (11, .int .i64 x21), (12, .int .i64 j23), (23, .slice a_1 q1.length c_1), (24, .int .i64 (q1.length : Int)), (25, .int .i64 x17)] [rowT 2 eI64 a7 b1.length cp8 x18]) ?_ ?_
      · have hres := hresj23
        refine JE.code ?_
        refine JX.seq ?_
        refine JX.drawH [(0, .pure), (1, .pure), (2, .pure), (3, .pure), (4, .pure), (5, .pure), (6, .pure), (7, .pure), (8, .read0), (9, .pure), (10, .pure), (11, .pure), (12, .pure), (13, .read0), (14, .pure), (15, .must), (16, .pure), (17, .must)] [15, 17] [0] [] [rowT 2 eI64 a7 b1.length cp8 x18] [] mixedP (by kernel_rfl) (by kernel_rfl) (by decide) rfl rfl ?_
        intro wrr24 Nr24 hFr24
        refine JH.pure rfl (yl_move rfl) rfl ?_
        refine JH.pure rfl (yl_move rfl) rfl ?_
        refine JH.pure rfl (yl_sub rfl rfl) rfl ?_
        refine JH.pure rfl (yl_move rfl) rfl ?_
        refine JH.pure rfl (yl_move rfl) rfl ?_
        refine JH.pure rfl (yl_move rfl) rfl ?_
        refine JH.pure rfl (yl_move rfl) rfl ?_
        obtain ⟨x25, hx25, hres⟩ := bind_some hres
        refine JH.pure rfl (yl_idxQ Go.Proofs.Try.underlying33 i2 i2s rfl rfl hx25 l19 (rd_row hFr24.cl 0 rfl) l19) rfl ?_
        refine JH.read0 rfl (yl_loadT0 Go.Proofs.Try.underlying2 rfl rfl hx25 (fun w hw => (rd_row hFr24.cl 0 rfl).bw hw) rfl) rfl ?_
        refine JH.pure rfl (yl_move rfl) rfl ?_
        refine JH.pure rfl (yl_move rfl) rfl ?_
        refine JH.pure rfl (yl_sub rfl rfl) rfl ?_
        obtain ⟨x26, hx26, hres⟩ := bind_some hres
        refine JH.pure rfl (yl_idxQ Go.Proofs.Try.underlying33 i2 i2s rfl rfl hx26 l19 (rd_row hFr24.cl 0 rfl) l19) rfl ?_
        refine JH.read0 rfl (yl_loadT0 Go.Proofs.Try.underlying2 rfl rfl hx26 (fun w hw => (rd_row hFr24.cl 0 rfl).bw hw) rfl) rfl ?_
        obtain ⟨x27, hx27, hres⟩ := bind_some hres
        refine JH.pure rfl (yl_idxQ Go.Proofs.Try.underlying33 i2 i2s rfl rfl hx27 l19 (rd_row hFr24.cl 0 rfl) l19) rfl ?_
        refine JH.must rfl (ef_storeT (ix := 0) (u := x25) i2 i2s rfl rfl rfl hx27 rfl) rfl rfl ?_
        rintro _ _ rfl
        obtain ⟨x28, hx28, hres⟩ := bind_some hres
        refine JH.pure rfl (yl_idxQ Go.Proofs.Try.underlying33 i2 i2s rfl rfl hx28 (List.length_set.trans l19) (rd_row hFr24.cl 0 rfl) l19) rfl ?_
        refine JH.must rfl (ef_storeT (ix := 0) (u := x26) i2 i2s rfl rfl rfl hx28 rfl) rfl rfl ?_
        rintro _ _ rfl
        refine JH.nil ?_
        refine JE.weak (env' := [(2, .func (.func 126) #[] #[]), (7, .slice a7 b1.length cp8), (12, .int .i64 j23), (23, .slice a_1 q1.length c_1), (24, .int .i64 (q1.length : Int)), (25, .int .i64 x17)]) (es' := [rowT 2 eI64 a7 b1.length cp8 ((x18.set (w64 (x21 - 1)).toNat x25).set (x21).toNat x26)]) [0] ?_ ⟨rfl, rfl, rfl, rfl, rfl, rfl, trivial⟩ (by decide) rfl
        refine JE.code ?_
        refine JX.region ?_
        refine JL.val (yl_move rfl) rfl ?_
        refine JL.val (yl_move rfl) rfl ?_
        refine JL.val (yl_move rfl) rfl ?_
        obtain ⟨x29, hx29, hres⟩ := bind_some hres
        refine JL.eff (ef_callv (T := T126 x29) rfl Go.Proofs.Try.func126 rfl (by kernel_rfl) rfl (fun w hC => c126 (rd_row hC 0 rfl) (List.length_set.trans (List.length_set.trans l19)) (ln_row hC 0 rfl) hx29)) rfl ?_
        rintro _ _ ⟨_, ⟨rfl, rfl⟩, rfl⟩
        refine JL.nil ?_
        refine JE.weak (env' := [(2, .func (.func 126) #[] #[]), (7, .slice a7 b1.length cp8), (23, .slice a_1 q1.length c_1), (24, .int .i64 (q1.length : Int)), (25, .int .i64 x17)]) (es' := [rowT 2 eI64 a7 b1.length cp8 ((x18.set (w64 (x21 - 1)).toNat x25).set (x21).toNat x26)]) [0] ?_ ⟨rfl, rfl, rfl, rfl, rfl, trivial⟩ (by decide) rfl
        refine JE.code ?_
        refine JX.region ?_
        refine JL.val (yl_add rfl rfl) rfl ?_
        refine JL.val (yl_move rfl) rfl ?_
        refine JL.nil ?_
        refine JE.cont hres ?_
        exact fun a w h => ⟨(List.length_set.trans (List.length_set.trans l19)), h.weak ⟨rfl, rfl, rfl, rfl, rfl, trivial⟩ [0] (by decide) rfl⟩
      · intro K
        rcases cond_some hj23 with ⟨hb, hres⟩ | ⟨hb, hres⟩
        · refine JX.condT rfl hb ?_
          refine JX.region ?_
          refine JL.val (yl_move rfl) rfl ?_
          refine JL.val (yl_move rfl) rfl ?_
          obtain ⟨x30, hx30, hres⟩ := bind_some hres
          refine JL.val (yl_idxT Go.Proofs.Try.underlying33 i2 i2s rfl rfl hx30 l19 (fun w hC => rd_row hC 0 rfl)) rfl ?_
          refine JL.val (yl_loadT0 Go.Proofs.Try.underlying2 rfl rfl hx30 (fun w hC => rd_row hC 0 rfl) rfl) rfl ?_
          refine JL.val (yl_assign rfl) rfl ?_
          refine JL.nil ?_
          refine JE.weak (env' := [(2, .func (.func 126) #[] #[]), (7, .slice a7 b1.length cp8), (11, .int .i64 x21), (12, .int .i64 x30), (23, .slice a_1 q1.length c_1), (24, .int .i64 (q1.length : Int)), (25, .int .i64 x17)]) (es' := [rowT 2 eI64 a7 b1.length cp8 x18]) [0] ?_ ⟨rfl, rfl, rfl, rfl, rfl, rfl, rfl, trivial⟩ (by decide) rfl
          have hj := Option.some.inj hres
          exact JE.weak [0] (K) ⟨(by subst hj; rfl), (by subst hj; rfl), (by subst hj; rfl), (by subst hj; rfl), (by subst hj; rfl), (by subst hj; rfl), (by subst hj; rfl), trivial⟩ (by decide) (by subst hj; rfl)
        · refine JX.condF rfl hb ?_
          refine JX.skip ?_
          have hj := Option.some.inj hres
          exact JE.weak [0] (K) ⟨(by subst hj; rfl), (by subst hj; rfl), (by subst hj; rfl), (by subst hj; rfl), (by subst hj; rfl), (by subst hj; rfl), (by subst hj; rfl), trivial⟩ (by decide) (by subst hj; rfl)
    · refine JX.condF rfl hb ?_
      refine JX.exit ?_
      refine JE.qb rfl ?_
      obtain ⟨b2, hb2⟩ : ∃ b : List Int, b = x18 := ⟨_, rfl⟩
      have hy2 : b2 = y2 := by rw [hb2]; exact hox2 _ (Option.some.inj hres).symm
      have hres := hresO2
      rw [← hy2] at hres
      have l31 : b2.length = b1.length := by subst hb2; exact l19
      refine JE.weak (env' := [(7, .slice a7 b1.length cp8)]) (es' := [rowT 2 eI64 a7 b1.length cp8 b2]) [0] ?_ ⟨(by subst hb2; rfl), trivial⟩ (by decide) (by subst hb2; rfl)
      refine JE.code ?_
      refine JX.seq ?_
      refine JX.region ?_
      refine JL.val (yl_move rfl) rfl ?_
      refine JL.val (yl_assign rfl) rfl ?_
      refine JL.nil ?_
      refine JE.code ?_
      refine JX.ret ?_
      obtain rfl := Option.some.inj hres
      refine JE.ret (rs := [.tmp 6]) (vs := [.slice a7 b1.length cp8]) rfl ⟨rfl, trivial⟩ ?_
      exact fun w' hb hs => ⟨_, _, ⟨a7, b1.length, cp8, l31, rfl, rfl⟩, rfl, hb, hs.sel [0] _ (by decide) rfl⟩

/- impl.OrderAfter -/
def sh64 (q0 : Int) (q1 : List Int) : Option (List Int × Int) := Option.bind (sh76 q0 q1) fun x1 => bif !x1 then (some (([] : List Int), 1)) else (Option.bind (sh125f126 q0 q1) fun x3 => some (x3, 0))
def T64 (r : List Int × Int) (v : Value) (rs : List Own) : Prop := ∃ (a0 : Option Addr) (n0 c0 : Nat), r.1.length = n0 ∧ v = rets [.slice a0 n0 c0, .int .i64 r.2] ∧ rs = [rowT 2 eI64 a0 n0 c0 r.1]
set_option maxRecDepth 100000 in
theorem c64 {w : World} {q0 : Int} {q1 : List Int} {a_1 : Option Addr} {n_1 c_1 : Nat} (g_1 : Rd w a_1 (eI64.fl q1)) (l_1 : q1.length = n_1) (k_1 : n_1 ≤ c_1) {r : List Int × Int} (hres : sh64 q0 q1 = some r) : Calls Go.Proofs.Try.prog 64 [.int .i64 q0, .slice a_1 n_1 c_1].toArray w (Ret w (T64 r)) := by
  subst l_1
  unfold sh64 at hres
  refine calls_of (n := 13) (M := []) (es := []) Go.Proofs.Try.func64 rfl rfl rfl (Sep.nil _ _ _) ?_
  refine JX.seq ?_
  refine JX.region ?_
  refine JL.val (yl_assign rfl) rfl ?_
  refine JL.val (yl_assign rfl) rfl ?_
  refine JL.nil ?_
  refine JE.code ?_
  refine JX.seq ?_
  refine JX.seq ?_
  refine JX.region ?_
  refine JL.val (yl_move rfl) rfl ?_
  refine JL.val (yl_move rfl) rfl ?_
  obtain ⟨x1, hx1, hres⟩ := bind_some hres
  refine JL.eff (ef_call (T := T76 x1) Go.Proofs.Try.func76 rfl (by kernel_rfl) rfl (fun w hC => c76 (rd_arg g_1 hC) rfl k_1 hx1)) rfl ?_
  rintro _ _ ⟨_, ⟨rfl, rfl⟩, rfl⟩
  refine JL.val (yl_not rfl) rfl ?_
  refine JL.nil ?_
  refine JE.weak (env' := [(0, .int .i64 q0), (1, .slice a_1 q1.length c_1), (9, .bool !x1)]) (es' := []) [] ?_ ⟨rfl, rfl, rfl, trivial⟩ (by decide) rfl
  refine JE.code ?_
  rcases cond_some hres with ⟨hb, hres⟩ | ⟨hb, hres⟩
  · refine JX.condT rfl hb ?_
    refine JX.seq ?_
    refine JX.region ?_
    refine JL.val (yl_assign rfl) rfl ?_
    refine JL.val (yl_assign rfl) rfl ?_
    refine JL.nil ?_
    refine JE.code ?_
    refine JX.ret ?_
    refine JE.nilrow 2 eI64 ?_
    obtain rfl := Option.some.inj hres
    refine JE.ret (rs := [.tmp 4, .tmp 5]) (vs := [.slice none 0 0, .int .i64 1]) rfl ⟨rfl, rfl, trivial⟩ ?_
    exact fun w' hb hs => ⟨_, _, ⟨none, 0, 0, rfl, rfl, rfl⟩, rfl, hb, hs.sel [0] _ (by decide) rfl⟩
  · refine JX.condF rfl hb ?_
    refine JX.skip ?_
    refine JE.code ?_
    refine JX.seq ?_
    refine JX.region ?_
    refine JL.val (yl_move rfl) rfl ?_
    refine JL.val (yl_move rfl) rfl ?_
    obtain ⟨x3, hx3, hres⟩ := bind_some hres
    refine JL.eff (ef_call (T := T125f126 x3) Go.Proofs.Try.func125 rfl (by kernel_rfl) rfl (fun w hC => c125f126 (rd_arg g_1 hC) rfl k_1 hx3)) rfl ?_
    rintro _ _ ⟨_, ⟨a4, _, cp5, rfl, rfl, rfl⟩, rfl⟩
    refine JL.val (yl_assign rfl) rfl ?_
    refine JL.val (yl_assign rfl) rfl ?_
    refine JL.nil ?_
    refine JE.weak (env' := [(4, .slice a4 x3.length cp5), (5, .int .i64 0)]) (es' := [rowT 2 eI64 a4 x3.length cp5 x3]) [0] ?_ ⟨rfl, rfl, trivial⟩ (by decide) rfl
    refine JE.code ?_
    refine JX.ret ?_
    obtain rfl := Option.some.inj hres
    refine JE.ret (rs := [.tmp 4, .tmp 5]) (vs := [.slice a4 x3.length cp5, .int .i64 0]) rfl ⟨rfl, rfl, trivial⟩ ?_
    exact fun w' hb hs => ⟨_, _, ⟨a4, x3.length, cp5, rfl, rfl, rfl⟩, rfl, hb, hs.sel [0] _ (by decide) rfl⟩

/- spec.l00In -/
def sh115 (q0 : Int) (q1 : Int) (q2 : Int) : Option (Bool) := some ((decide (q1 ≤ q0)) && (decide (q0 ≤ q2)))
def T115 (r : Bool) (v : Value) (rs : List Own) : Prop := v = rets [.bool r] ∧ rs = []
set_option maxRecDepth 100000 in
theorem c115 {w : World} {q0 : Int} {q1 : Int} {q2 : Int} {r : Bool} (hres : sh115 q0 q1 q2 = some r) : Calls Go.Proofs.Try.prog 115 [.int .i64 q0, .int .i64 q1, .int .i64 q2].toArray w (Ret w (T115 r)) := by
  unfold sh115 at hres
  refine calls_of (n := 15) (M := []) (es := []) Go.Proofs.Try.func115 rfl rfl rfl (Sep.nil _ _ _) ?_
  refine JX.seq ?_
  refine JX.region ?_
  refine JL.val (yl_assign rfl) rfl ?_
  refine JL.nil ?_
  refine JE.code ?_
  refine JX.seq ?_
  refine JX.region ?_
  refine JL.val (yl_move rfl) rfl ?_
  refine JL.val (yl_move rfl) rfl ?_
  refine JL.val (yl_geq rfl rfl) rfl ?_
  refine JL.val (yl_move rfl) rfl ?_
  refine JL.cut (K := fun J => J [(14, .bool ((decide (q1 ≤ q0)) && (decide (q0 ≤ q2))))] []) 4 ?_ ?_
  · refine JL.val (yl_assign rfl) rfl ?_
    refine JL.nil ?_
    refine JE.weak (env' := [(6, .bool ((decide (q1 ≤ q0)) && (decide (q0 ≤ q2))))]) (es' := []) [] ?_ ⟨rfl, trivial⟩ (by decide) rfl
    refine JE.code ?_
    refine JX.ret ?_
    obtain rfl := Option.some.inj hres
    refine JE.ret (rs := [.tmp 6]) (vs := [.bool ((decide (q1 ≤ q0)) && (decide (q0 ≤ q2)))]) rfl ⟨rfl, trivial⟩ ?_
    exact fun w' hb hs => ⟨_, _, ⟨rfl, rfl⟩, rfl, hb, hs.sel [] _ (by decide) rfl⟩
  · intro K
    rcases Bool.eq_false_or_eq_true (decide (q1 ≤ q0)) with hb | hb
    · refine JL.set (d := 10) (v := .bool true) (congrArg (fun b => some (Value.bool b)) hb) ?_
      refine JL.gval rfl rfl (yl_move rfl) rfl ?_
      refine JL.gval rfl rfl (yl_move rfl) rfl ?_
      refine JL.gval rfl rfl (yl_leq rfl rfl) rfl ?_
      refine JL.val (yl_pick_true rfl rfl) rfl ?_
      exact JL.weak [] K ⟨(by rw [hb]; rfl), trivial⟩ (by decide) rfl
    · refine JL.set (d := 10) (v := .bool false) (congrArg (fun b => some (Value.bool b)) hb) ?_
      refine JL.gskip rfl rfl rfl rfl ?_
      refine JL.gskip rfl rfl rfl rfl ?_
      refine JL.gskip rfl rfl rfl rfl ?_
      refine JL.val (yl_pick_false rfl rfl) rfl ?_
      exact JL.weak [] K ⟨(by rw [hb]; rfl), trivial⟩ (by decide) rfl

/- spec.l23Ok -/
def sh127_1 (q0 : Int) (q1 : List Int) : Int → Option (Int ⊕ (Unit ⊕ Bool))
  | x2 => bif decide (x2 < (q1.length : Int)) then (Option.bind (getI q1 x2) fun x3 => Option.bind (bif x3 == 0 then (some true) else (Option.bind (getI q1 x2) fun x5 => Option.bind (sh115 x5 (w64 (1 - q0)) (w64 (q0 - 1))) fun x6 => some !x6)) fun cb4 => (bif cb4 then (some (.inr (.inr false))) else (some (.inl (w64 (x2 + 1)))))) else (some (.inr (.inl ())))
def sh127 (q0 : Int) (q1 : List Int) : Option (Bool) := Option.bind (sh115 q0 2 12) fun x1 => bif !x1 || (decide (200 < (q1.length : Int))) then (some false) else (Option.bind (iter (sh127_1 q0 q1) 0) fun y1 => elimS y1 (fun r => some r) fun b1 => (some true))
def T127 (r : Bool) (v : Value) (rs : List Own) : Prop := v = rets [.bool r] ∧ rs = []
set_option maxRecDepth 100000 in
theorem c127 {w : World} {q0 : Int} {q1 : List Int} {a_1 : Option Addr} {n_1 c_1 : Nat} (g_1 : Rd w a_1 (eI64.fl q1)) (l_1 : q1.length = n_1) (k_1 : n_1 ≤ c_1) {r : Bool} (hres : sh127 q0 q1 = some r) : Calls Go.Proofs.Try.prog 127 [.int .i64 q0, .slice a_1 n_1 c_1].toArray w (Ret w (T127 r)) := by
  subst l_1
  unfold sh127 at hres
  refine calls_of (n := 37) (M := []) (es := []) Go.Proofs.Try.func127 rfl rfl rfl (Sep.nil _ _ _) ?_
  refine JX.seq ?_
  refine JX.region ?_
  refine JL.val (yl_assign rfl) rfl ?_
  refine JL.nil ?_
  refine JE.code ?_
  refine JX.seq ?_
  refine JX.seq ?_
  refine JX.region ?_
  refine JL.val (yl_move rfl) rfl ?_
  obtain ⟨x1, hx1, hres⟩ := bind_some hres
  refine JL.eff (ef_call (T := T115 x1) Go.Proofs.Try.func115 rfl (by kernel_rfl) rfl (fun w hC => c115  hx1)) rfl ?_
  rintro _ _ ⟨_, ⟨rfl, rfl⟩, rfl⟩
  refine JL.val (yl_not rfl) rfl ?_
  refine JL.val (yl_move rfl) rfl ?_
  refine JL.cut (K := fun J => J [(0, .int .i64 q0), (1, .slice a_1 q1.length c_1), (13, .bool (!x1 || (decide (200 < (q1.length : Int)))))] []) 4 ?_ ?_
  · refine JL.nil ?_
    refine JE.weak (env' := [(0, .int .i64 q0), (1, .slice a_1 q1.length c_1), (13, .bool (!x1 || (decide (200 < (q1.length : Int)))))]) (es' := []) [] ?_ ⟨rfl, rfl, rfl, trivial⟩ (by decide) rfl
    refine JE.code ?_
    rcases cond_some hres with ⟨hb, hres⟩ | ⟨hb, hres⟩
    · refine JX.condT rfl hb ?_
      refine JX.seq ?_
      refine JX.region ?_
      refine JL.val (yl_assign rfl) rfl ?_
      refine JL.nil ?_
      refine JE.code ?_
      refine JX.ret ?_
      obtain rfl := Option.some.inj hres
      refine JE.ret (rs := [.tmp 4]) (vs := [.bool false]) rfl ⟨rfl, trivial⟩ ?_
      exact fun w' hb hs => ⟨_, _, ⟨rfl, rfl⟩, rfl, hb, hs.sel [] _ (by decide) rfl⟩
    · refine JX.condF rfl hb ?_
      refine JX.skip ?_
      refine JE.code ?_
      refine JX.seq ?_
      refine JX.seq ?_
      refine JX.region ?_
      refine JL.val (yl_assign rfl) rfl ?_
      refine JL.nil ?_
      refine JE.code ?_
      refine JX.block ?_
      obtain ⟨y1, hy1, hresO1⟩ := bind_some hres
      refine JX.loop (I := fun (s1 : Int) aa ww => St w [] 37 [(0, .int .i64 q0), (1, .slice a_1 q1.length c_1), (5, .int .i64 s1)] [] aa ww) (sh127_1 q0 q1) hy1 (fun a w h => h.weak ⟨rfl, rfl, rfl, trivial⟩ [] (by decide) rfl) ?_
      rintro x2 o1 hres hox1 aa ww hS
      refine (?_ : JX Go.Proofs.Try.prog w [] 37 _ _ [(0, .int .i64 q0), (1, .slice a_1 q1.length c_1), (5, .int .i64 x2)] [] _) aa ww hS
      clear hS
      unfold sh127_1 at hres
      refine JX.seq ?_
      refine JX.seq ?_
      refine JX.region ?_
      refine JL.val (yl_move rfl) rfl ?_
      refine JL.val (yl_move rfl) rfl ?_
      refine JL.val (yl_len_slice Go.Proofs.Try.underlying33 rfl) rfl ?_
      refine JL.val (yl_lss rfl rfl) rfl ?_
      refine JL.nil ?_
      refine JE.weak (env' := [(0, .int .i64 q0), (1, .slice a_1 q1.length c_1), (5, .int .i64 x2), (17, .bool (decide (x2 < (q1.length : Int))))]) (es' := []) [] ?_ ⟨rfl, rfl, rfl, rfl, trivial⟩ (by decide) rfl
      refine JE.code ?_
      rcases cond_some hres with ⟨hb, hres⟩ | ⟨hb, hres⟩
      · refine JX.condT rfl hb ?_
        refine JX.skip ?_
        refine JE.code ?_
        refine JX.seq ?_
        refine JX.block ?_
        refine JX.seq ?_
        refine JX.region ?_
        refine JL.val (yl_move rfl) rfl ?_
        refine JL.val (yl_move rfl) rfl ?_
        obtain ⟨x3, hx3, hres⟩ := bind_some hres
        refine JL.val (yl_idxT Go.Proofs.Try.underlying33 i2 i2s rfl rfl hx3 rfl (fun w hC => rd_arg g_1 hC)) rfl ?_
        refine JL.val (yl_loadT0 Go.Proofs.Try.underlying2 rfl rfl hx3 (fun w hC => rd_arg g_1 hC) rfl) rfl ?_
        refine JL.val (yl_eql rfl rfl) rfl ?_
        refine JL.val (yl_move rfl) rfl ?_
        obtain ⟨cb4, hcb4, hres⟩ := bind_some hres
        refine JL.cut (K := fun J => J [(0, .int .i64 q0), (1, .slice a_1 q1.length c_1), (5, .int .i64 x2), (36, .bool cb4)] []) 11 ?_ ?_
        · refine JL.nil ?_
          refine JE.weak (env' := [(0, .int .i64 q0), (1, .slice a_1 q1.length c_1), (5, .int .i64 x2), (36, .bool cb4)]) (es' := []) [] ?_ ⟨rfl, rfl, rfl, rfl, trivial⟩ (by decide) rfl
          refine JE.code ?_
          rcases cond_some hres with ⟨hb, hres⟩ | ⟨hb, hres⟩
          · refine JX.condT rfl hb ?_
            refine JX.seq ?_
            refine JX.region ?_
            refine JL.val (yl_assign rfl) rfl ?_
            refine JL.nil ?_
            refine JE.code ?_
            refine JX.ret ?_
            refine JE.qbr ?_
            refine JE.qbr ?_
            have hres := elimS_inr hresO1 (hox1 _ (Option.some.inj hres).symm)
            obtain rfl := Option.some.inj hres
            refine JE.ret (rs := [.tmp 4]) (vs := [.bool false]) rfl ⟨rfl, trivial⟩ ?_
            exact fun w' hb hs => ⟨_, _, ⟨rfl, rfl⟩, rfl, hb, hs.sel [] _ (by decide) rfl⟩
          · refine JX.condF rfl hb ?_
            refine JX.skip ?_
            refine JE.code ?_
            refine JX.region ?_
            refine JL.val (yl_move rfl) rfl ?_
            refine JL.val (yl_add rfl rfl) rfl ?_
            refine JL.val (yl_assign rfl) rfl ?_
            refine JL.nil ?_
            refine JE.cont hres ?_
            exact fun a w h => h.weak ⟨rfl, rfl, rfl, trivial⟩ [] (by decide) rfl
        · intro K
          rcases cond_some hcb4 with ⟨hb, hres⟩ | ⟨hb, hres⟩
          · refine JL.set (d := 25) (v := .bool true) (congrArg (fun b => some (Value.bool b)) hb) ?_
            refine JL.gskip rfl rfl rfl rfl ?_
            refine JL.gskip rfl rfl rfl rfl ?_
            refine JL.gskip rfl rfl rfl rfl ?_
            refine JL.gskip rfl rfl rfl rfl ?_
            refine JL.gskip rfl rfl rfl rfl ?_
            refine JL.gskip rfl rfl rfl rfl ?_
            refine JL.gskip rfl rfl rfl rfl ?_
            refine JL.gskip rfl rfl rfl rfl ?_
            refine JL.gskip rfl rfl rfl rfl ?_
            refine JL.gskip rfl rfl rfl rfl ?_
            refine JL.val (yl_pick_true rfl rfl) rfl ?_
            have he := Option.some.inj hres
            exact JL.weak [] K ⟨rfl, rfl, rfl, (by rw [← he]; rfl), trivial⟩ (by decide) rfl
          · refine JL.set (d := 25) (v := .bool false) (congrArg (fun b => some (Value.bool b)) hb) ?_
            refine JL.gval rfl rfl (yl_move rfl) rfl ?_
            refine JL.gval rfl rfl (yl_move rfl) rfl ?_
            obtain ⟨x5, hx5, hres⟩ := bind_some hres
            refine JL.gval rfl rfl (yl_idxT Go.Proofs.Try.underlying33 i2 i2s rfl rfl hx5 rfl (fun w hC => rd_arg g_1 hC)) rfl ?_
            refine JL.gval rfl rfl (yl_loadT0 Go.Proofs.Try.underlying2 rfl rfl hx5 (fun w hC => rd_arg g_1 hC) rfl) rfl ?_
            refine JL.gval rfl rfl (yl_move rfl) rfl ?_
            refine JL.gval rfl rfl (yl_sub rfl rfl) rfl ?_
            refine JL.gval rfl rfl (yl_move rfl) rfl ?_
            refine JL.gval rfl rfl (yl_sub rfl rfl) rfl ?_
            obtain ⟨x6, hx6, hres⟩ := bind_some hres
            refine JL.geff rfl rfl (ef_call (T := T115 x6) Go.Proofs.Try.func115 rfl (by kernel_rfl) rfl (fun w hC => c115  hx6)) rfl ?_
            rintro _ _ ⟨_, ⟨rfl, rfl⟩, rfl⟩
            refine JL.gval rfl rfl (yl_not rfl) rfl ?_
            refine JL.val (yl_pick_false rfl rfl) rfl ?_
            have he := Option.some.inj hres
            exact JL.weak [] K ⟨rfl, rfl, rfl, (by rw [← he]; rfl), trivial⟩ (by decide) rfl
      · refine JX.condF rfl hb ?_
        refine JX.exit ?_
        refine JE.qb rfl ?_
        obtain ⟨b1, hb1⟩ : ∃ b : Unit, b = () := ⟨_, rfl⟩
        have hy1 : Sum.inl b1 = y1 := by rw [hb1]; exact hox1 _ (Option.some.inj hres).symm
        have hres := elimS_inl hresO1 hy1
        refine JE.weak (env' := []) (es' := []) [] ?_ trivial (by decide) (by subst hb1; rfl)
        refine JE.code ?_
        refine JX.seq ?_
        refine JX.region ?_
        refine JL.val (yl_assign rfl) rfl ?_
        refine JL.nil ?_
        refine JE.code ?_
        refine JX.ret ?_
        obtain rfl := Option.some.inj hres
        refine JE.ret (rs := [.tmp 4]) (vs := [.bool true]) rfl ⟨rfl, trivial⟩ ?_
        exact fun w' hb hs => ⟨_, _, ⟨rfl, rfl⟩, rfl, hb, hs.sel [] _ (by decide) rfl⟩
  · intro K
    rcases Bool.eq_false_or_eq_true (!x1) with hb | hb
    · refine JL.set (d := 9) (v := .bool true) (congrArg (fun b => some (Value.bool b)) hb) ?_
      refine JL.gskip rfl rfl rfl rfl ?_
      refine JL.gskip rfl rfl rfl rfl ?_
      refine JL.gskip rfl rfl rfl rfl ?_
      refine JL.val (yl_pick_true rfl rfl) rfl ?_
      exact JL.weak [] K ⟨rfl, rfl, (by rw [hb]; rfl), trivial⟩ (by decide) rfl
    · refine JL.set (d := 9) (v := .bool false) (congrArg (fun b => some (Value.bool b)) hb) ?_
      refine JL.gval rfl rfl (yl_move rfl) rfl ?_
      refine JL.gval rfl rfl (yl_len_slice Go.Proofs.Try.underlying33 rfl) rfl ?_
      refine JL.gval rfl rfl (yl_gtr rfl rfl) rfl ?_
      refine JL.val (yl_pick_false rfl rfl) rfl ?_
      exact JL.weak [] K ⟨rfl, rfl, (by rw [hb]; rfl), trivial⟩ (by decide) rfl

/- spec.l23First -/
def sh130_1 (q0 : Int) : (Int × List Int) → Option ((Int × List Int) ⊕ (List Int))
  | (x5, x6) => bif decide (x5 < q0) then (Option.bind (appL x6 [x5]) fun x11 => some (.inl (w64 (x5 + 1), x11))) else (some (.inr x6))
def sh130 (q0 : Int) : Option (List Int) := Option.bind (iter (sh130_1 q0) (0, ([] : List Int))) fun b1 => (some b1)
def T130 (r : List Int) (v : Value) (rs : List Own) : Prop := ∃ (a0 : Option Addr) (n0 c0 : Nat), r.length = n0 ∧ v = rets [.slice a0 n0 c0] ∧ rs = [rowT 2 eI64 a0 n0 c0 r]
set_option maxRecDepth 100000 in
theorem c130 {w : World} {q0 : Int} {r : List Int} (hres : sh130 q0 = some r) : Calls Go.Proofs.Try.prog 130 [.int .i64 q0].toArray w (Ret w (T130 r)) := by
  unfold sh130 at hres
  refine calls_of (n := 16) (M := []) (es := []) Go.Proofs.Try.func130 rfl rfl rfl (Sep.nil _ _ _) ?_
  refine JX.seq ?_
  refine JX.region ?_
  refine JL.val (yl_assign rfl) rfl ?_
  refine JL.nil ?_
  refine JE.code ?_
  refine JX.seq ?_
  refine JX.region ?_
  refine JL.eff (ef_buildSlice (E := 2) (k := eI64.k) (us := eI64.fl ([] : List Int)) rfl (fun w => bsl33_0  w) rfl (by decide)) rfl ?_
  rintro _ _ ⟨a1, rfl, rfl⟩
  refine JL.val (yl_assign rfl) rfl ?_
  refine JL.nil ?_
  refine JE.code ?_
  refine JX.seq ?_
  refine JX.seq ?_
  refine JX.region ?_
  refine JL.val (yl_assign rfl) rfl ?_
  refine JL.nil ?_
  refine JE.code ?_
  refine JX.block ?_
  obtain ⟨y1, hy1, hresO1⟩ := bind_some hres
  refine JX.loop (I := fun (s1 : Int × List Int) aa ww => ∃ (a3 : Option Addr) (cp4 : Nat), St w [] 16 [(0, .int .i64 q0), (3, .slice a3 s1.2.length cp4), (4, .int .i64 s1.1)] [rowT 2 eI64 a3 s1.2.length cp4 s1.2] aa ww) (sh130_1 q0) hy1 (fun a w h => ⟨a1, 0, h.weak ⟨rfl, rfl, rfl, trivial⟩ [0] (by decide) rfl⟩) ?_
  rintro ⟨x5, x6⟩ o1 hres hox1 aa ww ⟨a7, cp8, hS⟩
  refine (?_ : JX Go.Proofs.Try.prog w [] 16 _ _ [(0, .int .i64 q0), (3, .slice a7 x6.length cp8), (4, .int .i64 x5)] [rowT 2 eI64 a7 x6.length cp8 x6] _) aa ww hS
  clear hS
  simp only [sh130_1] at hres
  refine JX.seq ?_
  refine JX.seq ?_
  refine JX.region ?_
  refine JL.val (yl_move rfl) rfl ?_
  refine JL.val (yl_move rfl) rfl ?_
  refine JL.val (yl_lss rfl rfl) rfl ?_
  refine JL.nil ?_
  refine JE.code ?_
  rcases cond_some hres with ⟨hb, hres⟩ | ⟨hb, hres⟩
  · refine JX.condT rfl hb ?_
    refine JX.skip ?_
    refine JE.code ?_
    refine JX.seq ?_
    refine JX.block ?_
    refine JX.region ?_
    refine JL.val (yl_move rfl) rfl ?_
    refine JL.val (yl_move rfl) rfl ?_
    refine JL.eff (ef_buildSlice (E := 2) (k := eI64.k) (us := eI64.fl [x5]) rfl (fun w => bsl33_1 x5 w) rfl (by decide)) rfl ?_
    rintro _ _ ⟨a9, rfl, rfl⟩
    obtain ⟨x11, hx11, hres⟩ := bind_some hres
    refine JL.eff (ef_appendT (ix := 0) Go.Proofs.Try.underlying33 i2 i2z i2s rfl i2b0 i2b1 rfl rfl rfl rfl rfl (fun w hC => rd_row hC 1 rfl) hx11) rfl ?_
    rintro _ _ ⟨a12, cp13, rfl, rfl⟩
    refine JL.val (yl_assign rfl) rfl ?_
    refine JL.nil ?_
    refine JE.weak (env' := [(0, .int .i64 q0), (3, .slice a12 x11.length cp13), (4, .int .i64 x5)]) (es' := [rowT 2 eI64 a12 x11.length cp13 x11]) [0] ?_ ⟨rfl, rfl, rfl, trivial⟩ (by decide) rfl
    refine JE.code ?_
    refine JX.region ?_
    refine JL.val (yl_move rfl) rfl ?_
    refine JL.val (yl_add rfl rfl) rfl ?_
    refine JL.val (yl_assign rfl) rfl ?_
    refine JL.nil ?_
    refine JE.cont hres ?_
    exact fun a w h => ⟨a12, cp13, h.weak ⟨rfl, rfl, rfl, trivial⟩ [0] (by decide) rfl⟩
  · refine JX.condF rfl hb ?_
    refine JX.exit ?_
    refine JE.qb rfl ?_
    obtain ⟨b1, hb1⟩ : ∃ b : List Int, b = x6 := ⟨_, rfl⟩
    have hy1 : b1 = y1 := by rw [hb1]; exact hox1 _ (Option.some.inj hres).symm
    have hres := hresO1
    rw [← hy1] at hres
    refine JE.weak (env' := [(3, .slice a7 b1.length cp8)]) (es' := [rowT 2 eI64 a7 b1.length cp8 b1]) [0] ?_ ⟨(by subst hb1; rfl), trivial⟩ (by decide) (by subst hb1; rfl)
    refine JE.code ?_
    refine JX.seq ?_
    refine JX.region ?_
    refine JL.val (yl_move rfl) rfl ?_
    refine JL.val (yl_assign rfl) rfl ?_
    refine JL.nil ?_
    refine JE.code ?_
    refine JX.ret ?_
    obtain rfl := Option.some.inj hres
    refine JE.ret (rs := [.tmp 2]) (vs := [.slice a7 b1.length cp8]) rfl ⟨rfl, trivial⟩ ?_
    exact fun w' hb hs => ⟨_, _, ⟨a7, b1.length, cp8, rfl, rfl, rfl⟩, rfl, hb, hs.sel [0] _ (by decide) rfl⟩

/- spec.l00Max -/
def sh177 (q0 : Int) (q1 : Int) : Option (Int) := bif decide (q1 < q0) then (some q0) else (some q1)
def T177 (r : Int) (v : Value) (rs : List Own) : Prop := v = rets [.int .i64 r] ∧ rs = []
set_option maxRecDepth 100000 in
theorem c177 {w : World} {q0 : Int} {q1 : Int} {r : Int} (hres : sh177 q0 q1 = some r) : Calls Go.Proofs.Try.prog 177 [.int .i64 q0, .int .i64 q1].toArray w (Ret w (T177 r)) := by
  unfold sh177 at hres
  refine calls_of (n := 10) (M := []) (es := []) Go.Proofs.Try.func177 rfl rfl rfl (Sep.nil _ _ _) ?_
  refine JX.seq ?_
  refine JX.region ?_
  refine JL.val (yl_assign rfl) rfl ?_
  refine JL.nil ?_
  refine JE.code ?_
  refine JX.seq ?_
  refine JX.seq ?_
  refine JX.region ?_
  refine JL.val (yl_move rfl) rfl ?_
  refine JL.val (yl_move rfl) rfl ?_
  refine JL.val (yl_gtr rfl rfl) rfl ?_
  refine JL.nil ?_
  refine JE.code ?_
  rcases cond_some hres with ⟨hb, hres⟩ | ⟨hb, hres⟩
  · refine JX.condT rfl hb ?_
    refine JX.seq ?_
    refine JX.region ?_
    refine JL.val (yl_move rfl) rfl ?_
    refine JL.val (yl_assign rfl) rfl ?_
    refine JL.nil ?_
    refine JE.code ?_
    refine JX.ret ?_
    obtain rfl := Option.some.inj hres
    refine JE.ret (rs := [.tmp 4]) (vs := [.int .i64 q0]) rfl ⟨rfl, trivial⟩ ?_
    exact fun w' hb hs => ⟨_, _, ⟨rfl, rfl⟩, rfl, hb, hs.sel [] _ (by decide) rfl⟩
  · refine JX.condF rfl hb ?_
    refine JX.skip ?_
    refine JE.code ?_
    refine JX.seq ?_
    refine JX.region ?_
    refine JL.val (yl_move rfl) rfl ?_
    refine JL.val (yl_assign rfl) rfl ?_
    refine JL.nil ?_
    refine JE.code ?_
    refine JX.ret ?_
    obtain rfl := Option.some.inj hres
    refine JE.ret (rs := [.tmp 4]) (vs := [.int .i64 q1]) rfl ⟨rfl, trivial⟩ ?_
    exact fun w' hb hs => ⟨_, _, ⟨rfl, rfl⟩, rfl, hb, hs.sel [] _ (by decide) rfl⟩

/- spec.l15Size -/
def sh131 (q0 : Int) : Option (Int) := Option.bind (sh177 q0 (w64 (0 - q0))) fun x1 => some x1
def T131 (r : Int) (v : Value) (rs : List Own) : Prop := v = rets [.int .i64 r] ∧ rs = []
set_option maxRecDepth 100000 in
theorem c131 {w : World} {q0 : Int} {r : Int} (hres : sh131 q0 = some r) : Calls Go.Proofs.Try.prog 131 [.int .i64 q0].toArray w (Ret w (T131 r)) := by
  unfold sh131 at hres
  refine calls_of (n := 7) (M := []) (es := []) Go.Proofs.Try.func131 rfl rfl rfl (Sep.nil _ _ _) ?_
  refine JX.seq ?_
  refine JX.region ?_
  refine JL.val (yl_assign rfl) rfl ?_
  refine JL.nil ?_
  refine JE.code ?_
  refine JX.seq ?_
  refine JX.region ?_
  refine JL.val (yl_move rfl) rfl ?_
  refine JL.val (yl_move rfl) rfl ?_
  refine JL.val (yl_neg rfl) rfl ?_
  obtain ⟨x1, hx1, hres⟩ := bind_some hres
  refine JL.eff (ef_call (T := T177 x1) Go.Proofs.Try.func177 rfl (by kernel_rfl) rfl (fun w hC => c177  hx1)) rfl ?_
  rintro _ _ ⟨_, ⟨rfl, rfl⟩, rfl⟩
  refine JL.val (yl_assign rfl) rfl ?_
  refine JL.nil ?_
  refine JE.weak (env' := [(2, .int .i64 x1)]) (es' := []) [] ?_ ⟨rfl, trivial⟩ (by decide) rfl
  refine JE.code ?_
  refine JX.ret ?_
  obtain rfl := Option.some.inj hres
  refine JE.ret (rs := [.tmp 2]) (vs := [.int .i64 x1]) rfl ⟨rfl, trivial⟩ ?_
  exact fun w' hb hs => ⟨_, _, ⟨rfl, rfl⟩, rfl, hb, hs.sel [] _ (by decide) rfl⟩

/- spec.l23Swap -/
def sh132 (q0 : List Int) (q1 : Int) : Option (List Int) := Option.bind (sh131 q1) fun x1 => Option.bind (getI q0 (w64 (x1 - 1))) fun x2 => Option.bind (getI q0 x1) fun x3 => Option.bind (getI q0 (w64 (x1 - 1))) fun x4 => Option.bind (getI (q0.set (w64 (x1 - 1)).toNat x3) x1) fun x5 => some ((q0.set (w64 (x1 - 1)).toNat x3).set (x1).toNat x2)
def T132 (a_ : Option Addr) (n_ c_ : Nat) (r : List Int) (v : Value) (e' : Own) (rs : List Own) : Prop := r.length = n_ ∧ e' = rowT 2 eI64 a_ n_ c_ r ∧ v = rets [] ∧ rs = []
set_option maxRecDepth 100000 in
theorem c132 {w : World} {q0 : List Int} {a_0 : Option Addr} {n_0 c_0 : Nat} {M : List Nat} (g_0 : Sep w.heap.size M w [rowT 2 eI64 a_0 n_0 c_0 q0]) (l_0 : q0.length = n_0) {q1 : Int} {r : List Int} (hres : sh132 q0 q1 = some r) : Calls Go.Proofs.Try.prog 132 [.slice a_0 n_0 c_0, .int .i64 q1].toArray w (RetM w M (T132 a_0 n_0 c_0 r)) := by
  subst l_0
  unfold sh132 at hres
  refine calls_of (n := 25) (M := M) (es := [rowT 2 eI64 a_0 q0.length c_0 q0]) Go.Proofs.Try.func132 rfl rfl rfl g_0 ?_
  refine JX.seq ?_
  refine JX.region ?_
  refine JL.val (yl_move rfl) rfl ?_
  obtain ⟨x1, hx1, hres⟩ := bind_some hres
  refine JL.eff (ef_call (T := T131 x1) Go.Proofs.Try.func131 rfl (by kernel_rfl) rfl (fun w hC => c131  hx1)) rfl ?_
  rintro _ _ ⟨_, ⟨rfl, rfl⟩, rfl⟩
  refine JL.val (yl_assign rfl) rfl ?_
  refine JL.nil ?_
  refine JE.code ?_
  refine JX.seq ?_
  refine JX.region ?_
  refine JL.val (yl_move rfl) rfl ?_
  refine JL.val (yl_move rfl) rfl ?_
  refine JL.val (yl_sub rfl rfl) rfl ?_
  obtain ⟨x2, hx2, hres⟩ := bind_some hres
  refine JL.val (yl_idxT Go.Proofs.Try.underlying33 i2 i2s rfl rfl hx2 rfl (fun w hC => rd_row hC 0 rfl)) rfl ?_
  refine JL.val (yl_loadT0 Go.Proofs.Try.underlying2 rfl rfl hx2 (fun w hC => rd_row hC 0 rfl) rfl) rfl ?_
  refine JL.val (yl_assign rfl) rfl ?_
  refine JL.nil ?_
  refine JE.weak (env' := [(0, .slice a_0 q0.length c_0), (4, .int .i64 x1), (5, .int .i64 x2)]) (es' := [rowT 2 eI64 a_0 q0.length c_0 q0]) [0] ?_ ⟨rfl, rfl, rfl, trivial⟩ (by decide) rfl
  refine JE.code ?_
  refine JX.seq ?_
  refine JX.region ?_
  refine JL.val (yl_move rfl) rfl ?_
  refine JL.val (yl_move rfl) rfl ?_
  refine JL.val (yl_sub rfl rfl) rfl ?_
  refine JL.val (yl_move rfl) rfl ?_
  refine JL.val (yl_move rfl) rfl ?_
  obtain ⟨x3, hx3, hres⟩ := bind_some hres
  refine JL.val (yl_idxT Go.Proofs.Try.underlying33 i2 i2s rfl rfl hx3 rfl (fun w hC => rd_row hC 0 rfl)) rfl ?_
  refine JL.val (yl_loadT0 Go.Proofs.Try.underlying2 rfl rfl hx3 (fun w hC => rd_row hC 0 rfl) rfl) rfl ?_
  obtain ⟨x4, hx4, hres⟩ := bind_some hres
  refine JL.val (yl_idxT Go.Proofs.Try.underlying33 i2 i2s rfl rfl hx4 rfl (fun w hC => rd_row hC 0 rfl)) rfl ?_
  refine JL.eff (ef_storeT (ix := 0) (u := x3) i2 i2s rfl rfl rfl hx4 rfl) rfl ?_
  rintro _ _ rfl
  refine JL.nil ?_
  refine JE.weak (env' := [(0, .slice a_0 q0.length c_0), (4, .int .i64 x1), (5, .int .i64 x2)]) (es' := [rowT 2 eI64 a_0 q0.length c_0 (q0.set (w64 (x1 - 1)).toNat x3)]) [0] ?_ ⟨rfl, rfl, rfl, trivial⟩ (by decide) rfl
  refine JE.code ?_
  refine JX.region ?_
  refine JL.val (yl_move rfl) rfl ?_
  refine JL.val (yl_move rfl) rfl ?_
  refine JL.val (yl_move rfl) rfl ?_
  obtain ⟨x5, hx5, hres⟩ := bind_some hres
  refine JL.val (yl_idxT Go.Proofs.Try.underlying33 i2 i2s rfl rfl hx5 List.length_set (fun w hC => rd_row hC 0 rfl)) rfl ?_
  refine JL.eff (ef_storeT (ix := 0) (u := x2) i2 i2s rfl rfl rfl hx5 rfl) rfl ?_
  rintro _ _ rfl
  refine JL.nil ?_
  refine JE.weak (env' := []) (es' := [rowT 2 eI64 a_0 q0.length c_0 ((q0.set (w64 (x1 - 1)).toNat x3).set (x1).toNat x2)]) [0] ?_ trivial (by decide) rfl
  show JE _ _ _ (bodyPost _ _ _ .ret) _ _
  obtain rfl := Option.some.inj hres
  refine JE.ret (rs := []) (vs := []) rfl trivial ?_
  exact fun w' hb hs => ⟨_, _, _, ⟨(List.length_set.trans List.length_set), rfl, rfl, rfl⟩, rfl, hb, hs.sel [0] _ (by decide) rfl⟩

/- spec.l23Order -/
def sh128_1 (q1 : List Int) : (Int × List Int) → Option ((Int × List Int) ⊕ (List Int))
  | (x6, x7) => bif decide (x6 < (q1.length : Int)) then (Option.bind (getI q1 x6) fun x9 => Option.bind (sh132 x7 x9) fun x10 => some (.inl (w64 (x6 + 1), x10))) else (some (.inr x7))
def sh128 (q0 : Int) (q1 : List Int) : Option (List Int) := Option.bind (sh130 q0) fun x1 => Option.bind (iter (sh128_1 q1) (0, x1)) fun b1 => (some b1)
def T128 (r : List Int) (v : Value) (rs : List Own) : Prop := ∃ (a0 : Option Addr) (n0 c0 : Nat), r.length = n0 ∧ v = rets [.slice a0 n0 c0] ∧ rs = [rowT 2 eI64 a0 n0 c0 r]
set_option maxRecDepth 100000 in
theorem c128 {w : World} {q0 : Int} {q1 : List Int} {a_1 : Option Addr} {n_1 c_1 : Nat} (g_1 : Rd w a_1 (eI64.fl q1)) (l_1 : q1.length = n_1) (k_1 : n_1 ≤ c_1) {r : List Int} (hres : sh128 q0 q1 = some r) : Calls Go.Proofs.Try.prog 128 [.int .i64 q0, .slice a_1 n_1 c_1].toArray w (Ret w (T128 r)) := by
  subst l_1
  unfold sh128 at hres
  refine calls_of (n := 22) (M := []) (es := []) Go.Proofs.Try.func128 rfl rfl rfl (Sep.nil _ _ _) ?_
  refine JX.seq ?_
  refine JX.region ?_
  refine JL.val (yl_assign rfl) rfl ?_
  refine JL.nil ?_
  refine JE.code ?_
  refine JX.seq ?_
  refine JX.region ?_
  refine JL.val (yl_move rfl) rfl ?_
  obtain ⟨x1, hx1, hres⟩ := bind_some hres
  refine JL.eff (ef_call (T := T130 x1) Go.Proofs.Try.func130 rfl (by kernel_rfl) rfl (fun w hC => c130  hx1)) rfl ?_
  rintro _ _ ⟨_, ⟨a2, _, cp3, rfl, rfl, rfl⟩, rfl⟩
  refine JL.val (yl_assign rfl) rfl ?_
  refine JL.nil ?_
  refine JE.code ?_
  refine JX.seq ?_
  refine JX.seq ?_
  refine JX.region ?_
  refine JL.val (yl_assign rfl) rfl ?_
  refine JL.nil ?_
  refine JE.code ?_
  refine JX.block ?_
  obtain ⟨y1, hy1, hresO1⟩ := bind_some hres
  refine JX.loop (I := fun (s1 : Int × List Int) aa ww => ∃ (l5 : s1.2.length = x1.length), St w [] 22 [(1, .slice a_1 q1.length c_1), (5, .slice a2 x1.length cp3), (6, .int .i64 s1.1)] [rowT 2 eI64 a2 x1.length cp3 s1.2] aa ww) (sh128_1 q1) hy1 (fun a w h => ⟨rfl, h.weak ⟨rfl, rfl, rfl, trivial⟩ [0] (by decide) rfl⟩) ?_
  rintro ⟨x6, x7⟩ o1 hres hox1 aa ww ⟨l8, hS⟩
  refine (?_ : JX Go.Proofs.Try.prog w [] 22 _ _ [(1, .slice a_1 q1.length c_1), (5, .slice a2 x1.length cp3), (6, .int .i64 x6)] [rowT 2 eI64 a2 x1.length cp3 x7] _) aa ww hS
  clear hS
  simp only [sh128_1] at hres
  refine JX.seq ?_
  refine JX.seq ?_
  refine JX.region ?_
  refine JL.val (yl_move rfl) rfl ?_
  refine JL.val (yl_move rfl) rfl ?_
  refine JL.val (yl_len_slice Go.Proofs.Try.underlying33 rfl) rfl ?_
  refine JL.val (yl_lss rfl rfl) rfl ?_
  refine JL.nil ?_
  refine JE.weak (env' := [(1, .slice a_1 q1.length c_1), (5, .slice a2 x1.length cp3), (6, .int .i64 x6), (12, .bool (decide (x6 < (q1.length : Int))))]) (es' := [rowT 2 eI64 a2 x1.length cp3 x7]) [0] ?_ ⟨rfl, rfl, rfl, rfl, trivial⟩ (by decide) rfl
  refine JE.code ?_
  rcases cond_some hres with ⟨hb, hres⟩ | ⟨hb, hres⟩
  · refine JX.condT rfl hb ?_
    refine JX.skip ?_
    refine JE.code ?_
    refine JX.seq ?_
    refine JX.block ?_
    refine JX.region ?_
    refine JL.val (yl_move rfl) rfl ?_
    refine JL.val (yl_move rfl) rfl ?_
    refine JL.val (yl_move rfl) rfl ?_
    obtain ⟨x9, hx9, hres⟩ := bind_some hres
    refine JL.val (yl_idxT Go.Proofs.Try.underlying33 i2 i2s rfl rfl hx9 rfl (fun w hC => rd_arg g_1 hC)) rfl ?_
    refine JL.val (yl_loadT0 Go.Proofs.Try.underlying2 rfl rfl hx9 (fun w hC => rd_arg g_1 hC) rfl) rfl ?_
    obtain ⟨x10, hx10, hres⟩ := bind_some hres
    refine JL.eff (ef_callm (T := T132 a2 x1.length cp3 x10) 0 Go.Proofs.Try.func132 rfl (by kernel_rfl) rfl rfl (fun w fp hs => c132 hs l8 hx10)) rfl ?_
    rintro _ _ ⟨_, _, ⟨l11, rfl, rfl, rfl⟩, rfl⟩
    refine JL.nil ?_
    refine JE.weak (env' := [(1, .slice a_1 q1.length c_1), (5, .slice a2 x1.length cp3), (6, .int .i64 x6)]) (es' := [rowT 2 eI64 a2 x1.length cp3 x10]) [0] ?_ ⟨rfl, rfl, rfl, trivial⟩ (by decide) rfl
    refine JE.code ?_
    refine JX.region ?_
    refine JL.val (yl_move rfl) rfl ?_
    refine JL.val (yl_add rfl rfl) rfl ?_
    refine JL.val (yl_assign rfl) rfl ?_
    refine JL.nil ?_
    refine JE.cont hres ?_
    exact fun a w h => ⟨l11, h.weak ⟨rfl, rfl, rfl, trivial⟩ [0] (by decide) rfl⟩
  · refine JX.condF rfl hb ?_
    refine JX.exit ?_
    refine JE.qb rfl ?_
    obtain ⟨b1, hb1⟩ : ∃ b : List Int, b = x7 := ⟨_, rfl⟩
    have hy1 : b1 = y1 := by rw [hb1]; exact hox1 _ (Option.some.inj hres).symm
    have hres := hresO1
    rw [← hy1] at hres
    have l12 : b1.length = x1.length := by subst hb1; exact l8
    refine JE.weak (env' := [(5, .slice a2 x1.length cp3)]) (es' := [rowT 2 eI64 a2 x1.length cp3 b1]) [0] ?_ ⟨(by subst hb1; rfl), trivial⟩ (by decide) (by subst hb1; rfl)
    refine JE.code ?_
    refine JX.seq ?_
    refine JX.region ?_
    refine JL.val (yl_move rfl) rfl ?_
    refine JL.val (yl_assign rfl) rfl ?_
    refine JL.nil ?_
    refine JE.code ?_
    refine JX.ret ?_
    obtain rfl := Option.some.inj hres
    refine JE.ret (rs := [.tmp 4]) (vs := [.slice a2 x1.length cp3]) rfl ⟨rfl, trivial⟩ ?_
    exact fun w' hb hs => ⟨_, _, ⟨a2, x1.length, cp3, l12, rfl, rfl⟩, rfl, hb, hs.sel [0] _ (by decide) rfl⟩

/- spec.OrderAfter -/
def sh65 (q0 : Int) (q1 : List Int) : Option (List Int × Int) := Option.bind (sh127 q0 q1) fun x1 => bif !x1 then (some (([] : List Int), 1)) else (Option.bind (sh128 q0 q1) fun x3 => some (x3, 0))
def T65 (r : List Int × Int) (v : Value) (rs : List Own) : Prop := ∃ (a0 : Option Addr) (n0 c0 : Nat), r.1.length = n0 ∧ v = rets [.slice a0 n0 c0, .int .i64 r.2] ∧ rs = [rowT 2 eI64 a0 n0 c0 r.1]
set_option maxRecDepth 100000 in
theorem c65 {w : World} {q0 : Int} {q1 : List Int} {a_1 : Option Addr} {n_1 c_1 : Nat} (g_1 : Rd w a_1 (eI64.fl q1)) (l_1 : q1.length = n_1) (k_1 : n_1 ≤ c_1) {r : List Int × Int} (hres : sh65 q0 q1 = some r) : Calls Go.Proofs.Try.prog 65 [.int .i64 q0, .slice a_1 n_1 c_1].toArray w (Ret w (T65 r)) := by
  subst l_1
  unfold sh65 at hres
  refine calls_of (n := 13) (M := []) (es := []) Go.Proofs.Try.func65 rfl rfl rfl (Sep.nil _ _ _) ?_
  refine JX.seq ?_
  refine JX.region ?_
  refine JL.val (yl_assign rfl) rfl ?_
  refine JL.val (yl_assign rfl) rfl ?_
  refine JL.nil ?_
  refine JE.code ?_
  refine JX.seq ?_
  refine JX.seq ?_
  refine JX.region ?_
  refine JL.val (yl_move rfl) rfl ?_
  refine JL.val (yl_move rfl) rfl ?_
  obtain ⟨x1, hx1, hres⟩ := bind_some hres
  refine JL.eff (ef_call (T := T127 x1) Go.Proofs.Try.func127 rfl (by kernel_rfl) rfl (fun w hC => c127 (rd_arg g_1 hC) rfl k_1 hx1)) rfl ?_
  rintro _ _ ⟨_, ⟨rfl, rfl⟩, rfl⟩
  refine JL.val (yl_not rfl) rfl ?_
  refine JL.nil ?_
  refine JE.weak (env' := [(0, .int .i64 q0), (1, .slice a_1 q1.length c_1), (9, .bool !x1)]) (es' := []) [] ?_ ⟨rfl, rfl, rfl, trivial⟩ (by decide) rfl
  refine JE.code ?_
  rcases cond_some hres with ⟨hb, hres⟩ | ⟨hb, hres⟩
  · refine JX.condT rfl hb ?_
    refine JX.seq ?_
    refine JX.region ?_
    refine JL.val (yl_assign rfl) rfl ?_
    refine JL.val (yl_assign rfl) rfl ?_
    refine JL.nil ?_
    refine JE.code ?_
    refine JX.ret ?_
    refine JE.nilrow 2 eI64 ?_
    obtain rfl := Option.some.inj hres
    refine JE.ret (rs := [.tmp 4, .tmp 5]) (vs := [.slice none 0 0, .int .i64 1]) rfl ⟨rfl, rfl, trivial⟩ ?_
    exact fun w' hb hs => ⟨_, _, ⟨none, 0, 0, rfl, rfl, rfl⟩, rfl, hb, hs.sel [0] _ (by decide) rfl⟩
  · refine JX.condF rfl hb ?_
    refine JX.skip ?_
    refine JE.code ?_
    refine JX.seq ?_
    refine JX.region ?_
    refine JL.val (yl_move rfl) rfl ?_
    refine JL.val (yl_move rfl) rfl ?_
    obtain ⟨x3, hx3, hres⟩ := bind_some hres
    refine JL.eff (ef_call (T := T128 x3) Go.Proofs.Try.func128 rfl (by kernel_rfl) rfl (fun w hC => c128 (rd_arg g_1 hC) rfl k_1 hx3)) rfl ?_
    rintro _ _ ⟨_, ⟨a4, _, cp5, rfl, rfl, rfl⟩, rfl⟩
    refine JL.val (yl_assign rfl) rfl ?_
    refine JL.val (yl_assign rfl) rfl ?_
    refine JL.nil ?_
    refine JE.weak (env' := [(4, .slice a4 x3.length cp5), (5, .int .i64 0)]) (es' := [rowT 2 eI64 a4 x3.length cp5 x3]) [0] ?_ ⟨rfl, rfl, trivial⟩ (by decide) rfl
    refine JE.code ?_
    refine JX.ret ?_
    obtain rfl := Option.some.inj hres
    refine JE.ret (rs := [.tmp 4, .tmp 5]) (vs := [.slice a4 x3.length cp5, .int .i64 0]) rfl ⟨rfl, rfl, trivial⟩ ?_
    exact fun w' hb hs => ⟨_, _, ⟨a4, x3.length, cp5, rfl, rfl, rfl⟩, rfl, hb, hs.sel [0] _ (by decide) rfl⟩

/- impl.OversOf$1 -/
def sh129 (q0 : List Int) (q1 : Int) (u0 : List Int) : Option (List Int) := Option.bind (getI u0 q1) fun x1 => Option.bind (getI u0 q1) fun x2 => some (u0.set (q1).toNat (w64 (x1 + 1)))
def T129 (g_u0_0 : Nat) (r : List Int) (v : Value) (es' rs : List Own) : Prop := ∃ (ax1 : Option Addr) (nx1 cx1 : Nat), r.length = nx1 ∧ es' = [boxO 33 g_u0_0 [.slice ax1 nx1 cx1], rowT 2 eI64 ax1 nx1 cx1 r] ∧ v = rets [] ∧ rs = []
set_option maxRecDepth 100000 in
theorem c129 {w : World} {M : List Nat} {q0 : List Int} {a_0 : Option Addr} {n_0 c_0 : Nat} (g_0 : RdS M w a_0 (eI64.fl q0)) (l_0 : q0.length = n_0) (k_0 : n_0 ≤ c_0) {q1 : Int} {g_u0_0 : Nat} {u0 : List Int} {a_u0 : Option Addr} {n_u0 c_u0 : Nat} (l_u0 : u0.length = n_u0) (gs : Sep w.heap.size M w [boxO 33 g_u0_0 [.slice a_u0 n_u0 c_u0], rowT 2 eI64 a_u0 n_u0 c_u0 u0]) {r : List Int} (hres : sh129 q0 q1 u0 = some r) : Calls Go.Proofs.Try.prog 129 [.slice a_0 n_0 c_0, .int .i64 q1, ptrAt (some ⟨g_u0_0, 0, none⟩) 0].toArray w (RetMs w M (T129 g_u0_0 r)) := by
  subst l_0
  subst l_u0
  unfold sh129 at hres
  refine calls_of (n := 11) (M := M) (es := [boxO 33 g_u0_0 [.slice a_u0 u0.length c_u0], rowT 2 eI64 a_u0 u0.length c_u0 u0]) Go.Proofs.Try.func129 rfl rfl rfl gs ?_
  refine JX.region ?_
  refine JL.val (yl_load1 Go.Proofs.Try.underlying33 rfl rfl (fun w hC => rd_box hC 0 rfl) rfl) rfl ?_
  refine JL.val (yl_move rfl) rfl ?_
  obtain ⟨x1, hx1, hres⟩ := bind_some hres
  refine JL.val (yl_idxT Go.Proofs.Try.underlying33 i2 i2s rfl rfl hx1 rfl (fun w hC => rd_row hC 1 rfl)) rfl ?_
  refine JL.val (yl_loadT0 Go.Proofs.Try.underlying2 rfl rfl hx1 (fun w hC => rd_row hC 1 rfl) rfl) rfl ?_
  refine JL.val (yl_add rfl rfl) rfl ?_
  obtain ⟨x2, hx2, hres⟩ := bind_some hres
  refine JL.val (yl_idxT Go.Proofs.Try.underlying33 i2 i2s rfl rfl hx2 rfl (fun w hC => rd_row hC 1 rfl)) rfl ?_
  refine JL.eff (ef_storeT (ix := 1) (u := w64 (x1 + 1)) i2 i2s rfl rfl rfl hx2 rfl) rfl ?_
  rintro _ _ rfl
  refine JL.nil ?_
  refine JE.weak (env' := []) (es' := [boxO 33 g_u0_0 [.slice a_u0 u0.length c_u0], rowT 2 eI64 a_u0 u0.length c_u0 (u0.set (q1).toNat (w64 (x1 + 1)))]) [0, 1] ?_ trivial (by decide) rfl
  show JE _ _ _ (bodyPost _ _ _ .ret) _ _
  obtain rfl := Option.some.inj hres
  refine JE.ret (rs := []) (vs := []) rfl trivial ?_
  exact fun w' hb hs => ⟨_, _, _, ⟨a_u0, u0.length, c_u0, List.length_set, rfl, rfl, rfl⟩, rfl, hb, hs.sel [0, 1] _ (by decide) rfl⟩

/- impl.plait -/
def sh125f129_2 (q1 : List Int) : (Int × List Int × List Int) → Option ((Int × List Int × List Int) ⊕ (List Int × List Int))
  | (x19, x20, x21) => bif decide (x19 < (q1.length : Int)) then (Option.bind (getI q1 x19) fun x25 => Option.bind (sh176 x25) fun x26 => Option.bind (getI x21 (w64 (x26 - 1))) fun x27 => Option.bind (bif decide (x25 < 0) then (Option.bind (getI x21 x26) fun x37 => some x37) else (some x27)) fun j28 => (Option.bind (getI x21 x26) fun x30 => Option.bind (getI x21 (w64 (x26 - 1))) fun x31 => Option.bind (getI x21 (w64 (x26 - 1))) fun x32 => Option.bind (getI (x21.set (w64 (x26 - 1)).toNat x30) x26) fun x33 => Option.bind (sh129 ((x21.set (w64 (x26 - 1)).toNat x30).set (x26).toNat x31) j28 x20) fun x34 => some (.inl (w64 (x19 + 1), x34, (x21.set (w64 (x26 - 1)).toNat x30).set (x26).toNat x31)))) else (some (.inr (x20, x21)))
def sh125f129_1 (q0 : Int) : (Int × List Int) → Option ((Int × List Int) ⊕ (List Int))
  | (x5, x6) => bif decide (x5 < q0) then (Option.bind (appL x6 [x5]) fun x11 => some (.inl (w64 (x5 + 1), x11))) else (some (.inr x6))
def sh125f129 (q0 : Int) (q1 : List Int) (u0 : List Int) : Option (List Int × List Int) := Option.bind (iter (sh125f129_1 q0) (0, ([] : List Int))) fun b1 => (Option.bind (iter (sh125f129_2 q1) (0, u0, b1)) fun b2 => (some (b2.2, b2.1)))
def T125f129 (g_u0_0 : Nat) (r : List Int × List Int) (v : Value) (es' rs : List Own) : Prop := ∃ (ax1 : Option Addr) (nx1 cx1 : Nat), r.2.length = nx1 ∧ es' = [boxO 33 g_u0_0 [.slice ax1 nx1 cx1], rowT 2 eI64 ax1 nx1 cx1 r.2] ∧ ∃ (a0 : Option Addr) (n0 c0 : Nat), r.1.length = n0 ∧ v = rets [.slice a0 n0 c0] ∧ rs = [rowT 2 eI64 a0 n0 c0 r.1]
set_option maxRecDepth 100000 in
theorem c125f129 {w : World} {M : List Nat} {q0 : Int} {q1 : List Int} {a_1 : Option Addr} {n_1 c_1 : Nat} (g_1 : RdS M w a_1 (eI64.fl q1)) (l_1 : q1.length = n_1) (k_1 : n_1 ≤ c_1) {g_u0_0 : Nat} {u0 : List Int} {a_u0 : Option Addr} {n_u0 c_u0 : Nat} (l_u0 : u0.length = n_u0) (gs : Sep w.heap.size M w [boxO 33 g_u0_0 [.slice a_u0 n_u0 c_u0], rowT 2 eI64 a_u0 n_u0 c_u0 u0]) {r : List Int × List Int} (hres : sh125f129 q0 q1 u0 = some r) : Calls Go.Proofs.Try.prog 125 [.int .i64 q0, .slice a_1 n_1 c_1, .func (.func 129) #[] #[ptrAt (some ⟨g_u0_0, 0, none⟩) 0]].toArray w (RetMs w M (T125f129 g_u0_0 r)) := by
  subst l_1
  subst l_u0
  unfold sh125f129 at hres
  refine calls_of (n := 64) (M := M) (es := [boxO 33 g_u0_0 [.slice a_u0 u0.length c_u0], rowT 2 eI64 a_u0 u0.length c_u0 u0]) Go.Proofs.Try.func125 rfl rfl rfl gs ?_
  refine JX.seq ?_
  refine JX.region ?_
  refine JL.val (yl_assign rfl) rfl ?_
  refine JL.nil ?_
  refine JE.code ?_
  refine JX.seq ?_
  refine JX.region ?_
  refine JL.eff (ef_buildSlice (E := 2) (k := eI64.k) (us := eI64.fl ([] : List Int)) rfl (fun w => bsl33_0  w) rfl (by decide)) rfl ?_
  rintro _ _ ⟨a1, rfl, rfl⟩
  refine JL.val (yl_assign rfl) rfl ?_
  refine JL.nil ?_
  refine JE.code ?_
  refine JX.seq ?_
  refine JX.seq ?_
  refine JX.region ?_
  refine JL.val (yl_move rfl) rfl ?_
  refine JL.val (yl_move rfl) rfl ?_
  refine JL.nil ?_
  refine JE.code ?_
  refine JX.block ?_
  obtain ⟨y1, hy1, hresO1⟩ := bind_some hres
  refine JX.loop (I := fun (s1 : Int × List Int) aa ww => ∃ (a3 : Option Addr) (cp4 : Nat), St w M 64 [(1, .slice a_1 q1.length c_1), (2, .func (.func 129) #[] #[ptrAt (some ⟨g_u0_0, 0, none⟩) 0]), (7, .slice a3 s1.2.length cp4), (14, .int .i64 q0), (15, .int .i64 s1.1)] [boxO 33 g_u0_0 [.slice a_u0 u0.length c_u0], rowT 2 eI64 a_u0 u0.length c_u0 u0, rowT 2 eI64 a3 s1.2.length cp4 s1.2] aa ww) (sh125f129_1 q0) hy1 (fun a w h => ⟨a1, 0, h.weak ⟨rfl, rfl, rfl, rfl, rfl, trivial⟩ [0, 1, 2] (by decide) rfl⟩) ?_
  rintro ⟨x5, x6⟩ o1 hres hox1 aa ww ⟨a7, cp8, hS⟩
  refine (?_ : JX Go.Proofs.Try.prog w M 64 _ _ [(1, .slice a_1 q1.length c_1), (2, .func (.func 129) #[] #[ptrAt (some ⟨g_u0_0, 0, none⟩) 0]), (7, .slice a7 x6.length cp8), (14, .int .i64 q0), (15, .int .i64 x5)] [boxO 33 g_u0_0 [.slice a_u0 u0.length c_u0], rowT 2 eI64 a_u0 u0.length c_u0 u0, rowT 2 eI64 a7 x6.length cp8 x6] _) aa ww hS
  clear hS
  simp only [sh125f129_1] at hres
  refine JX.seq ?_
  refine JX.region ?_
  refine JL.val (yl_lss rfl rfl) rfl ?_
  refine JL.nil ?_
  refine JE.code ?_
  refine JX.seq ?_
  rcases cond_some hres with ⟨hb, hres⟩ | ⟨hb, hres⟩
  · refine JX.condT rfl hb ?_
    refine JX.skip ?_
    refine JE.code ?_
    refine JX.seq ?_
    refine JX.block ?_
    refine JX.seq ?_
    refine JX.region ?_
    refine JL.val (yl_move rfl) rfl ?_
    refine JL.val (yl_assign rfl) rfl ?_
    refine JL.nil ?_
    refine JE.code ?_
    refine JX.region ?_
    refine JL.val (yl_move rfl) rfl ?_
    refine JL.val (yl_move rfl) rfl ?_
    refine JL.eff (ef_buildSlice (E := 2) (k := eI64.k) (us := eI64.fl [x5]) rfl (fun w => bsl33_1 x5 w) rfl (by decide)) rfl ?_
    rintro _ _ ⟨a9, rfl, rfl⟩
    obtain ⟨x11, hx11, hres⟩ := bind_some hres
    refine JL.eff (ef_appendT (ix := 2) Go.Proofs.Try.underlying33 i2 i2z i2s rfl i2b0 i2b1 rfl rfl rfl rfl rfl (fun w hC => rd_row hC 3 rfl) hx11) rfl ?_
    rintro _ _ ⟨a12, cp13, rfl, rfl⟩
    refine JL.val (yl_assign rfl) rfl ?_
    refine JL.nil ?_
    refine JE.weak (env' := [(1, .slice a_1 q1.length c_1), (2, .func (.func 129) #[] #[ptrAt (some ⟨g_u0_0, 0, none⟩) 0]), (7, .slice a12 x11.length cp13), (14, .int .i64 q0), (15, .int .i64 x5)]) (es' := [boxO 33 g_u0_0 [.slice a_u0 u0.length c_u0], rowT 2 eI64 a_u0 u0.length c_u0 u0, rowT 2 eI64 a12 x11.length cp13 x11]) [0, 1, 2] ?_ ⟨rfl, rfl, rfl, rfl, rfl, trivial⟩ (by decide) rfl
    refine JE.code ?_
    refine JX.region ?_
    refine JL.val (yl_add rfl rfl) rfl ?_
    refine JL.val (yl_move rfl) rfl ?_
    refine JL.nil ?_
    refine JE.cont hres ?_
    exact fun a w h => ⟨a12, cp13, h.weak ⟨rfl, rfl, rfl, rfl, rfl, trivial⟩ [0, 1, 2] (by decide) rfl⟩
  · refine JX.condF rfl hb ?_
    refine JX.exit ?_
    refine JE.qb rfl ?_
    obtain ⟨b1, hb1⟩ : ∃ b : List Int, b = x6 := ⟨_, rfl⟩
    have hy1 : b1 = y1 := by rw [hb1]; exact hox1 _ (Option.some.inj hres).symm
    have hres := hresO1
    rw [← hy1] at hres
    refine JE.weak (env' := [(1, .slice a_1 q1.length c_1), (2, .func (.func 129) #[] #[ptrAt (some ⟨g_u0_0, 0, none⟩) 0]), (7, .slice a7 b1.length cp8)]) (es' := [boxO 33 g_u0_0 [.slice a_u0 u0.length c_u0], rowT 2 eI64 a_u0 u0.length c_u0 u0, rowT 2 eI64 a7 b1.length cp8 b1]) [0, 1, 2] ?_ ⟨(by subst hb1; rfl), (by subst hb1; rfl), (by subst hb1; rfl), trivial⟩ (by decide) (by subst hb1; rfl)
    refine JE.code ?_
    refine JX.seq ?_
    refine JX.seq ?_
    refine JX.region ?_
    refine JL.val (yl_move rfl) rfl ?_
    refine JL.val (yl_len_slice Go.Proofs.Try.underlying33 rfl) rfl ?_
    refine JL.val (yl_move rfl) rfl ?_
    refine JL.nil ?_
    refine JE.code ?_
    refine JX.block ?_
    obtain ⟨y2, hy2, hresO2⟩ := bind_some hres
    refine JX.loop (I := fun (s2 : Int × List Int × List Int) aa ww => ∃ (a16 : Option Addr) (cp17 : Nat) (l18 : s2.2.2.length = b1.length), St w M 64 [(2, .func (.func 129) #[] #[ptrAt (some ⟨g_u0_0, 0, none⟩) 0]), (7, .slice a7 b1.length cp8), (23, .slice a_1 q1.length c_1), (24, .int .i64 (q1.length : Int)), (25, .int .i64 s2.1)] [boxO 33 g_u0_0 [.slice a16 s2.2.1.length cp17], rowT 2 eI64 a16 s2.2.1.length cp17 s2.2.1, rowT 2 eI64 a7 b1.length cp8 s2.2.2] aa ww) (sh125f129_2 q1) hy2 (fun a w h => ⟨a_u0, c_u0, rfl, h.weak ⟨rfl, rfl, rfl, rfl, rfl, trivial⟩ [0, 1, 2] (by decide) rfl⟩) ?_
    rintro ⟨x19, x20, x21⟩ o2 hres hox2 aa ww ⟨a22, cp23, l24, hS⟩
    refine (?_ : JX Go.Proofs.Try.prog w M 64 _ _ [(2, .func (.func 129) #[] #[ptrAt (some ⟨g_u0_0, 0, none⟩) 0]), (7, .slice a7 b1.length cp8), (23, .slice a_1 q1.length c_1), (24, .int .i64 (q1.length : Int)), (25, .int .i64 x19)] [boxO 33 g_u0_0 [.slice a22 x20.length cp23], rowT 2 eI64 a22 x20.length cp23 x20, rowT 2 eI64 a7 b1.length cp8 x21] _) aa ww hS
    clear hS
    simp only [sh125f129_2] at hres
    refine JX.seq ?_
    refine JX.region ?_
    refine JL.val (yl_lss rfl rfl) rfl ?_
    refine JL.nil ?_
    refine JE.code ?_
    refine JX.seq ?_
    rcases cond_some hres with ⟨hb, hres⟩ | ⟨hb, hres⟩
    · refine JX.condT rfl hb ?_
      refine JX.skip ?_
      refine JE.code ?_
      refine JX.seq ?_
      refine JX.block ?_
      refine JX.seq ?_
      refine JX.region ?_
      obtain ⟨x25, hx25, hres⟩ := bind_some hres
      refine JL.val (yl_idxT Go.Proofs.Try.underlying33 i2 i2s rfl rfl hx25 rfl (fun w hC => rd_argS g_1 hC)) rfl ?_
      refine JL.val (yl_loadT0 Go.Proofs.Try.underlying2 rfl rfl hx25 (fun w hC => rd_argS g_1 hC) rfl) rfl ?_
      refine JL.val (yl_assign rfl) rfl ?_
      refine JL.nil ?_
      refine JE.code ?_
      refine JX.seq ?_
      refine JX.region ?_
      refine JL.val (yl_move rfl) rfl ?_
      obtain ⟨x26, hx26, hres⟩ := bind_some hres
      refine JL.eff (ef_call (T := T176 x26) Go.Proofs.Try.func176 rfl (by kernel_rfl) rfl (fun w hC => c176  hx26)) rfl ?_
      rintro _ _ ⟨_, ⟨rfl, rfl⟩, rfl⟩
      refine JL.val (yl_assign rfl) rfl ?_
      refine JL.nil ?_
      refine JE.code ?_
      refine JX.seq ?_
      refine JX.region ?_
      refine JL.val (yl_move rfl) rfl ?_
      refine JL.val (yl_move rfl) rfl ?_
      refine JL.val (yl_sub rfl rfl) rfl ?_
      obtain ⟨x27, hx27, hres⟩ := bind_some hres
      refine JL.val (yl_idxT Go.Proofs.Try.underlying33 i2 i2s rfl rfl hx27 l24 (fun w hC => rd_row hC 2 rfl)) rfl ?_
      refine JL.val (yl_loadT0 Go.Proofs.Try.underlying2 rfl rfl hx27 (fun w hC => rd_row hC 2 rfl) rfl) rfl ?_
      refine JL.val (yl_assign rfl) rfl ?_
      refine JL.nil ?_
      refine JE.weak (env' := [(2, .func (.func 129) #[] #[ptrAt (some ⟨g_u0_0, 0, none⟩) 0]), (7, .slice a7 b1.length cp8), (10, .int .i64 x25), (11, .int .i64 x26), (12, .int .i64 x27), (23, .slice a_1 q1.length c_1), (24, .int .i64 (q1.length : Int)), (25, .int .i64 x19)]) (es' := [boxO 33 g_u0_0 [.slice a22 x20.length cp23], rowT 2 eI64 a22 x20.length cp23 x20, rowT 2 eI64 a7 b1.length cp8 x21]) [0, 1, 2] ?_ ⟨rfl, rfl, rfl, rfl, rfl, rfl, rfl, rfl, trivial⟩ (by decide) rfl
      refine JE.code ?_
      refine JX.seq ?_
      refine JX.seq ?_
      refine JX.region ?_
      refine JL.val (yl_move rfl) rfl ?_
      refine JL.val (yl_lss rfl rfl) rfl ?_
      refine JL.nil ?_
      refine JE.code ?_
      obtain ⟨j28, hj28, hresj28⟩ := bind_some hres
      refine JX.cut (K := fun J => J [(2, .func (.func 129) #[] #[ptrAt (some ⟨g_u0_0, 0, none⟩) 0]), (7, .slice a7 b1.length cp8), (11, .int .i64 x26), (12, .int .i64 j28), (23, .slice a_1 q1.length c_1), (24, .int .i64 (q1.length : Int)), (25, .int .i64 x19)] [boxO 33 g_u0_0 [.slice a22 x20.length cp23], rowT 2 eI64 a22 x20.length cp23 x20, rowT 2 eI64 a7 b1.length cp8 x21]) ?_ ?_
      · have hres := hresj28
        refine JE.code ?_
        refine JX.seq ?_
        refine JX.drawH [(0, .pure), (1, .pure), (2, .pure), (3, .pure), (4, .pure), (5, .pure), (6, .pure), (7, .pure), (8, .read0), (9, .pure), (10, .pure), (11, .pure), (12, .pure), (13, .read0), (14, .pure), (15, .must), (16, .pure), (17, .must)] [15, 17] [2] [0, 1] [rowT 2 eI64 a7 b1.length cp8 x21] [boxO 33 g_u0_0 [.slice a22 x20.length cp23], rowT 2 eI64 a22 x20.length cp23 x20] mixedP (by kernel_rfl) (by kernel_rfl) (by decide) rfl rfl ?_
        intro wrr29 Nr29 hFr29
        refine JH.pure rfl (yl_move rfl) rfl ?_
        refine JH.pure rfl (yl_move rfl) rfl ?_
        refine JH.pure rfl (yl_sub rfl rfl) rfl ?_
        refine JH.pure rfl (yl_move rfl) rfl ?_
        refine JH.pure rfl (yl_move rfl) rfl ?_
        refine JH.pure rfl (yl_move rfl) rfl ?_
        refine JH.pure rfl (yl_move rfl) rfl ?_
        obtain ⟨x30, hx30, hres⟩ := bind_some hres
        refine JH.pure rfl (yl_idxQ Go.Proofs.Try.underlying33 i2 i2s rfl rfl hx30 l24 (rd_row hFr29.cl 2 rfl) l24) rfl ?_
        refine JH.read0 rfl (yl_loadT0 Go.Proofs.Try.underlying2 rfl rfl hx30 (fun w hw => (rd_row hFr29.cl 2 rfl).bw hw) rfl) rfl ?_
        refine JH.pure rfl (yl_move rfl) rfl ?_
        refine JH.pure rfl (yl_move rfl) rfl ?_
        refine JH.pure rfl (yl_sub rfl rfl) rfl ?_
        obtain ⟨x31, hx31, hres⟩ := bind_some hres
        refine JH.pure rfl (yl_idxQ Go.Proofs.Try.underlying33 i2 i2s rfl rfl hx31 l24 (rd_row hFr29.cl 2 rfl) l24) rfl ?_
        refine JH.read0 rfl (yl_loadT0 Go.Proofs.Try.underlying2 rfl rfl hx31 (fun w hw => (rd_row hFr29.cl 2 rfl).bw hw) rfl) rfl ?_
        obtain ⟨x32, hx32, hres⟩ := bind_some hres
        refine JH.pure rfl (yl_idxQ Go.Proofs.Try.underlying33 i2 i2s rfl rfl hx32 l24 (rd_row hFr29.cl 2 rfl) l24) rfl ?_
        refine JH.must rfl (ef_storeT (ix := 0) (u := x30) i2 i2s rfl rfl rfl hx32 rfl) rfl rfl ?_
        rintro _ _ rfl
        obtain ⟨x33, hx33, hres⟩ := bind_some hres
        refine JH.pure rfl (yl_idxQ Go.Proofs.Try.underlying33 i2 i2s rfl rfl hx33 (List.length_set.trans l24) (rd_row hFr29.cl 2 rfl) l24) rfl ?_
        refine JH.must rfl (ef_storeT (ix := 0) (u := x31) i2 i2s rfl rfl rfl hx33 rfl) rfl rfl ?_
        rintro _ _ rfl
        refine JH.nil ?_
        refine JE.weak (env' := [(2, .func (.func 129) #[] #[ptrAt (some ⟨g_u0_0, 0, none⟩) 0]), (7, .slice a7 b1.length cp8), (12, .int .i64 j28), (23, .slice a_1 q1.length c_1), (24, .int .i64 (q1.length : Int)), (25, .int .i64 x19)]) (es' := [boxO 33 g_u0_0 [.slice a22 x20.length cp23], rowT 2 eI64 a22 x20.length cp23 x20, rowT 2 eI64 a7 b1.length cp8 ((x21.set (w64 (x26 - 1)).toNat x30).set (x26).toNat x31)]) [0, 1, 2] ?_ ⟨rfl, rfl, rfl, rfl, rfl, rfl, trivial⟩ (by decide) rfl
        refine JE.code ?_
        refine JX.region ?_
        refine JL.val (yl_move rfl) rfl ?_
        refine JL.val (yl_move rfl) rfl ?_
        refine JL.val (yl_move rfl) rfl ?_
        obtain ⟨x34, hx34, hres⟩ := bind_some hres
        refine JL.eff (ef_callms (caps := [ptrAt (some ⟨g_u0_0, 0, none⟩) 0]) (vs := [.slice a7 b1.length cp8, .int .i64 j28]) (T := T129 g_u0_0 x34) [0, 1] [2] [boxO 33 g_u0_0 [.slice a22 x20.length cp23], rowT 2 eI64 a22 x20.length cp23 x20] [rowT 2 eI64 a7 b1.length cp8 ((x21.set (w64 (x26 - 1)).toNat x30).set (x26).toNat x31)] rfl Go.Proofs.Try.func129 rfl (by kernel_rfl) rfl (by decide) rfl rfl (fun w N hF hS => c129  (RdS.row hF 2 rfl rfl) (List.length_set.trans (List.length_set.trans l24)) (ln_row hF.cl 2 rfl) rfl hS hx34)) rfl ?_
        rintro _ _ ⟨_, _, ⟨a35, _, cp36, rfl, rfl, rfl, rfl⟩, rfl⟩
        refine JL.nil ?_
        refine JE.weak (env' := [(2, .func (.func 129) #[] #[ptrAt (some ⟨g_u0_0, 0, none⟩) 0]), (7, .slice a7 b1.length cp8), (23, .slice a_1 q1.length c_1), (24, .int .i64 (q1.length : Int)), (25, .int .i64 x19)]) (es' := [boxO 33 g_u0_0 [.slice a35 x34.length cp36], rowT 2 eI64 a35 x34.length cp36 x34, rowT 2 eI64 a7 b1.length cp8 ((x21.set (w64 (x26 - 1)).toNat x30).set (x26).toNat x31)]) [1, 2, 0] ?_ ⟨rfl, rfl, rfl, rfl, rfl, trivial⟩ (by decide) rfl
        refine JE.code ?_
        refine JX.region ?_
        refine JL.val (yl_add rfl rfl) rfl ?_
        refine JL.val (yl_move rfl) rfl ?_
        refine JL.nil ?_
        refine JE.cont hres ?_
        exact fun a w h => ⟨a35, cp36, (List.length_set.trans (List.length_set.trans l24)), h.weak ⟨rfl, rfl, rfl, rfl, rfl, trivial⟩ [0, 1, 2] (by decide) rfl⟩
      · intro K
        rcases cond_some hj28 with ⟨hb, hres⟩ | ⟨hb, hres⟩
        · refine JX.condT rfl hb ?_
          refine JX.region ?_
          refine JL.val (yl_move rfl) rfl ?_
          refine JL.val (yl_move rfl) rfl ?_
          obtain ⟨x37, hx37, hres⟩ := bind_some hres
          refine JL.val (yl_idxT Go.Proofs.Try.underlying33 i2 i2s rfl rfl hx37 l24 (fun w hC => rd_row hC 2 rfl)) rfl ?_
          refine JL.val (yl_loadT0 Go.Proofs.Try.underlying2 rfl rfl hx37 (fun w hC => rd_row hC 2 rfl) rfl) rfl ?_
          refine JL.val (yl_assign rfl) rfl ?_
          refine JL.nil ?_
          refine JE.weak (env' := [(2, .func (.func 129) #[] #[ptrAt (some ⟨g_u0_0, 0, none⟩) 0]), (7, .slice a7 b1.length cp8), (11, .int .i64 x26), (12, .int .i64 x37), (23, .slice a_1 q1.length c_1), (24, .int .i64 (q1.length : Int)), (25, .int .i64 x19)]) (es' := [boxO 33 g_u0_0 [.slice a22 x20.length cp23], rowT 2 eI64 a22 x20.length cp23 x20, rowT 2 eI64 a7 b1.length cp8 x21]) [0, 1, 2] ?_ ⟨rfl, rfl, rfl, rfl, rfl, rfl, rfl, trivial⟩ (by decide) rfl
          have hj := Option.some.inj hres
          exact JE.weak [0, 1, 2] (K) ⟨(by subst hj; rfl), (by subst hj; rfl), (by subst hj; rfl), (by subst hj; rfl), (by subst hj; rfl), (by subst hj; rfl), (by subst hj; rfl), trivial⟩ (by decide) (by subst hj; rfl)
        · refine JX.condF rfl hb ?_
          refine JX.skip ?_
          have hj := Option.some.inj hres
          exact JE.weak [0, 1, 2] (K) ⟨(by subst hj; rfl), (by subst hj; rfl), (by subst hj; rfl), (by subst hj; rfl), (by subst hj; rfl), (by subst hj; rfl), (by subst hj; rfl), trivial⟩ (by decide) (by subst hj; rfl)
    · refine JX.condF rfl hb ?_
      refine JX.exit ?_
      refine JE.qb rfl ?_
      obtain ⟨b2, hb2⟩ : ∃ b : List Int × List Int, b = (x20, x21) := ⟨_, rfl⟩
      have hy2 : b2 = y2 := by rw [hb2]; exact hox2 _ (Option.some.inj hres).symm
      have hres := hresO2
      rw [← hy2] at hres
      have l40 : b2.2.length = b1.length := by subst hb2; exact l24
      refine JE.weak (env' := [(7, .slice a7 b1.length cp8)]) (es' := [boxO 33 g_u0_0 [.slice a22 b2.1.length cp23], rowT 2 eI64 a22 b2.1.length cp23 b2.1, rowT 2 eI64 a7 b1.length cp8 b2.2]) [0, 1, 2] ?_ ⟨(by subst hb2; rfl), trivial⟩ (by decide) (by subst hb2; rfl)
      refine JE.code ?_
      refine JX.seq ?_
      refine JX.region ?_
      refine JL.val (yl_move rfl) rfl ?_
      refine JL.val (yl_assign rfl) rfl ?_
      refine JL.nil ?_
      refine JE.code ?_
      refine JX.ret ?_
      obtain rfl := Option.some.inj hres
      refine JE.ret (rs := [.tmp 6]) (vs := [.slice a7 b1.length cp8]) rfl ⟨rfl, trivial⟩ ?_
      exact fun w' hb hs => ⟨_, _, _, ⟨a22, b2.1.length, cp23, rfl, rfl, a7, b1.length, cp8, l40, rfl, rfl⟩, rfl, hb, hs.sel [0, 1, 2] _ (by decide) rfl⟩

/- impl.OversOf -/
def sh66 (q0 : Int) (q1 : List Int) : Option (List Int × Int) := Option.bind (sh76 q0 q1) fun x1 => bif !x1 then (some (([] : List Int), 1)) else (Option.bind (mkL q0 0) fun x3 => Option.bind (sh125f129 q0 q1 x3) fun x8 => some (x8.2, 0))
def T66 (r : List Int × Int) (v : Value) (rs : List Own) : Prop := ∃ (a0 : Option Addr) (n0 c0 : Nat), r.1.length = n0 ∧ v = rets [.slice a0 n0 c0, .int .i64 r.2] ∧ rs = [rowT 2 eI64 a0 n0 c0 r.1]
set_option maxRecDepth 100000 in
theorem c66 {w : World} {q0 : Int} {q1 : List Int} {a_1 : Option Addr} {n_1 c_1 : Nat} (g_1 : Rd w a_1 (eI64.fl q1)) (l_1 : q1.length = n_1) (k_1 : n_1 ≤ c_1) {r : List Int × Int} (hres : sh66 q0 q1 = some r) : Calls Go.Proofs.Try.prog 66 [.int .i64 q0, .slice a_1 n_1 c_1].toArray w (Ret w (T66 r)) := by
  subst l_1
  unfold sh66 at hres
  refine calls_of (n := 18) (M := []) (es := []) Go.Proofs.Try.func66 rfl rfl rfl (Sep.nil _ _ _) ?_
  refine JX.seq ?_
  refine JX.region ?_
  refine JL.val (yl_assign rfl) rfl ?_
  refine JL.val (yl_assign rfl) rfl ?_
  refine JL.nil ?_
  refine JE.code ?_
  refine JX.seq ?_
  refine JX.seq ?_
  refine JX.region ?_
  refine JL.val (yl_move rfl) rfl ?_
  refine JL.val (yl_move rfl) rfl ?_
  obtain ⟨x1, hx1, hres⟩ := bind_some hres
  refine JL.eff (ef_call (T := T76 x1) Go.Proofs.Try.func76 rfl (by kernel_rfl) rfl (fun w hC => c76 (rd_arg g_1 hC) rfl k_1 hx1)) rfl ?_
  rintro _ _ ⟨_, ⟨rfl, rfl⟩, rfl⟩
  refine JL.val (yl_not rfl) rfl ?_
  refine JL.nil ?_
  refine JE.weak (env' := [(0, .int .i64 q0), (1, .slice a_1 q1.length c_1), (10, .bool !x1)]) (es' := []) [] ?_ ⟨rfl, rfl, rfl, trivial⟩ (by decide) rfl
  refine JE.code ?_
  rcases cond_some hres with ⟨hb, hres⟩ | ⟨hb, hres⟩
  · refine JX.condT rfl hb ?_
    refine JX.seq ?_
    refine JX.region ?_
    refine JL.val (yl_assign rfl) rfl ?_
    refine JL.val (yl_assign rfl) rfl ?_
    refine JL.nil ?_
    refine JE.code ?_
    refine JX.ret ?_
    refine JE.nilrow 2 eI64 ?_
    obtain rfl := Option.some.inj hres
    refine JE.ret (rs := [.tmp 4, .tmp 5]) (vs := [.slice none 0 0, .int .i64 1]) rfl ⟨rfl, rfl, trivial⟩ ?_
    exact fun w' hb hs => ⟨_, _, ⟨none, 0, 0, rfl, rfl, rfl⟩, rfl, hb, hs.sel [0] _ (by decide) rfl⟩
  · refine JX.condF rfl hb ?_
    refine JX.skip ?_
    refine JE.code ?_
    refine JX.seq ?_
    refine JX.region ?_
    refine JL.val (yl_move rfl) rfl ?_
    obtain ⟨x3, hx3, hres⟩ := bind_some hres
    refine JL.eff (ef_makeS (e := eI64) Go.Proofs.Try.underlying33 i2 i2s i2z rfl i2b1 rfl rfl hx3) rfl ?_
    rintro _ _ ⟨a4, rfl, rfl⟩
    refine JL.eff (ef_alloc i33 i33z rfl) rfl ?_
    rintro _ _ ⟨g6, rfl, rfl⟩
    refine JL.eff (ef_store_box (i := 1) (v := .slice a4 x3.length x3.length) i33 rfl rfl rfl (i33s).symm (Nat.le_of_ble_eq_true rfl) (by simp [Value.cells, Value.oneCell'])) rfl ?_
    rintro _ _ rfl
    refine JL.nil ?_
    refine JE.weak (env' := [(0, .int .i64 q0), (1, .slice a_1 q1.length c_1), (6, ptrAt (some ⟨g6, 0, none⟩) 0)]) (es' := [boxO 33 g6 [.slice a4 x3.length x3.length], rowT 2 eI64 a4 x3.length x3.length x3]) [1, 0] ?_ ⟨rfl, rfl, rfl, trivial⟩ (by decide) rfl
    refine JE.code ?_
    refine JX.seq ?_
    refine JX.region ?_
    refine JL.val (yl_move rfl) rfl ?_
    refine JL.val (yl_move rfl) rfl ?_
    refine JL.val (yl_func rfl) rfl ?_
    obtain ⟨x8, hx8, hres⟩ := bind_some hres
    refine JL.eff (ef_callms (caps := []) (vs := [.int .i64 q0, .slice a_1 q1.length c_1, .func (.func 129) #[] #[ptrAt (some ⟨g6, 0, none⟩) 0]]) (T := T125f129 g6 x8) [0, 1] [] [boxO 33 g6 [.slice a4 x3.length x3.length], rowT 2 eI64 a4 x3.length x3.length x3] [] rfl Go.Proofs.Try.func125 rfl (by kernel_rfl) rfl (by decide) rfl rfl (fun w N hF hS => c125f129  (RdS.pass0 hF g_1) rfl k_1 rfl hS hx8)) rfl ?_
    rintro _ _ ⟨_, _, ⟨a9, _, cp10, rfl, rfl, a11, _, cp12, rfl, rfl, rfl⟩, rfl⟩
    refine JL.nil ?_
    refine JE.weak (env' := [(6, ptrAt (some ⟨g6, 0, none⟩) 0)]) (es' := [boxO 33 g6 [.slice a9 x8.2.length cp10], rowT 2 eI64 a9 x8.2.length cp10 x8.2]) [0, 1] ?_ ⟨rfl, trivial⟩ (by decide) rfl
    refine JE.code ?_
    refine JX.seq ?_
    refine JX.region ?_
    refine JL.val (yl_load1 Go.Proofs.Try.underlying33 rfl rfl (fun w hC => rd_box hC 0 rfl) rfl) rfl ?_
    refine JL.val (yl_assign rfl) rfl ?_
    refine JL.val (yl_assign rfl) rfl ?_
    refine JL.nil ?_
    refine JE.weak (env' := [(4, .slice a9 x8.2.length cp10), (5, .int .i64 0)]) (es' := [rowT 2 eI64 a9 x8.2.length cp10 x8.2]) [1] ?_ ⟨rfl, rfl, trivial⟩ (by decide) rfl
    refine JE.code ?_
    refine JX.ret ?_
    obtain rfl := Option.some.inj hres
    refine JE.ret (rs := [.tmp 4, .tmp 5]) (vs := [.slice a9 x8.2.length cp10, .int .i64 0]) rfl ⟨rfl, rfl, trivial⟩ ?_
    exact fun w' hb hs => ⟨_, _, ⟨a9, x8.2.length, cp10, rfl, rfl, rfl⟩, rfl, hb, hs.sel [0] _ (by decide) rfl⟩

/- spec.OversOf -/
def sh67_1 (q1 : List Int) : (Int × List Int × List Int) → Option ((Int × List Int × List Int) ⊕ (List Int))
  | (x12, x13, x14) => bif decide (x12 < (q1.length : Int)) then (Option.bind (getI q1 x12) fun x17 => Option.bind (sh131 x17) fun x18 => Option.bind (getI x13 (w64 (x18 - 1))) fun x19 => Option.bind (getI q1 x12) fun x20 => Option.bind (bif decide (x20 < 0) then (Option.bind (getI x13 x18) fun x27 => some x27) else (some x19)) fun j21 => (Option.bind (getI x14 j21) fun x22 => Option.bind (getI x14 j21) fun x23 => Option.bind (getI q1 x12) fun x24 => Option.bind (sh132 x13 x24) fun x25 => some (.inl (w64 (x12 + 1), x25, x14.set (j21).toNat (w64 (x22 + 1)))))) else (some (.inr x14))
def sh67 (q0 : Int) (q1 : List Int) : Option (List Int × Int) := Option.bind (sh127 q0 q1) fun x1 => bif !x1 then (some (([] : List Int), 1)) else (Option.bind (sh130 q0) fun x3 => Option.bind (mkL q0 0) fun x7 => Option.bind (iter (sh67_1 q1) (0, x3, x7)) fun b1 => (some (b1, 0)))
def T67 (r : List Int × Int) (v : Value) (rs : List Own) : Prop := ∃ (a0 : Option Addr) (n0 c0 : Nat), r.1.length = n0 ∧ v = rets [.slice a0 n0 c0, .int .i64 r.2] ∧ rs = [rowT 2 eI64 a0 n0 c0 r.1]
set_option maxRecDepth 100000 in
theorem c67 {w : World} {q0 : Int} {q1 : List Int} {a_1 : Option Addr} {n_1 c_1 : Nat} (g_1 : Rd w a_1 (eI64.fl q1)) (l_1 : q1.length = n_1) (k_1 : n_1 ≤ c_1) {r : List Int × Int} (hres : sh67 q0 q1 = some r) : Calls Go.Proofs.Try.prog 67 [.int .i64 q0, .slice a_1 n_1 c_1].toArray w (Ret w (T67 r)) := by
  subst l_1
  unfold sh67 at hres
  refine calls_of (n := 57) (M := []) (es := []) Go.Proofs.Try.func67 rfl rfl rfl (Sep.nil _ _ _) ?_
  refine JX.seq ?_
  refine JX.region ?_
  refine JL.val (yl_assign rfl) rfl ?_
  refine JL.val (yl_assign rfl) rfl ?_
  refine JL.nil ?_
  refine JE.code ?_
  refine JX.seq ?_
  refine JX.seq ?_
  refine JX.region ?_
  refine JL.val (yl_move rfl) rfl ?_
  refine JL.val (yl_move rfl) rfl ?_
  obtain ⟨x1, hx1, hres⟩ := bind_some hres
  refine JL.eff (ef_call (T := T127 x1) Go.Proofs.Try.func127 rfl (by kernel_rfl) rfl (fun w hC => c127 (rd_arg g_1 hC) rfl k_1 hx1)) rfl ?_
  rintro _ _ ⟨_, ⟨rfl, rfl⟩, rfl⟩
  refine JL.val (yl_not rfl) rfl ?_
  refine JL.nil ?_
  refine JE.weak (env' := [(0, .int .i64 q0), (1, .slice a_1 q1.length c_1), (14, .bool !x1)]) (es' := []) [] ?_ ⟨rfl, rfl, rfl, trivial⟩ (by decide) rfl
  refine JE.code ?_
  rcases cond_some hres with ⟨hb, hres⟩ | ⟨hb, hres⟩
  · refine JX.condT rfl hb ?_
    refine JX.seq ?_
    refine JX.region ?_
    refine JL.val (yl_assign rfl) rfl ?_
    refine JL.val (yl_assign rfl) rfl ?_
    refine JL.nil ?_
    refine JE.code ?_
    refine JX.ret ?_
    refine JE.nilrow 2 eI64 ?_
    obtain rfl := Option.some.inj hres
    refine JE.ret (rs := [.tmp 4, .tmp 5]) (vs := [.slice none 0 0, .int .i64 1]) rfl ⟨rfl, rfl, trivial⟩ ?_
    exact fun w' hb hs => ⟨_, _, ⟨none, 0, 0, rfl, rfl, rfl⟩, rfl, hb, hs.sel [0] _ (by decide) rfl⟩
  · refine JX.condF rfl hb ?_
    refine JX.skip ?_
    refine JE.code ?_
    refine JX.seq ?_
    refine JX.region ?_
    refine JL.val (yl_move rfl) rfl ?_
    obtain ⟨x3, hx3, hres⟩ := bind_some hres
    refine JL.eff (ef_call (T := T130 x3) Go.Proofs.Try.func130 rfl (by kernel_rfl) rfl (fun w hC => c130  hx3)) rfl ?_
    rintro _ _ ⟨_, ⟨a4, _, cp5, rfl, rfl, rfl⟩, rfl⟩
    refine JL.val (yl_assign rfl) rfl ?_
    refine JL.nil ?_
    refine JE.code ?_
    refine JX.seq ?_
    refine JX.region ?_
    refine JL.val (yl_move rfl) rfl ?_
    obtain ⟨x7, hx7, hres⟩ := bind_some hres
    refine JL.eff (ef_makeS (e := eI64) Go.Proofs.Try.underlying33 i2 i2s i2z rfl i2b1 rfl rfl hx7) rfl ?_
    rintro _ _ ⟨a8, rfl, rfl⟩
    refine JL.val (yl_assign rfl) rfl ?_
    refine JL.nil ?_
    refine JE.code ?_
    refine JX.seq ?_
    refine JX.seq ?_
    refine JX.region ?_
    refine JL.val (yl_assign rfl) rfl ?_
    refine JL.nil ?_
    refine JE.code ?_
    refine JX.block ?_
    obtain ⟨y1, hy1, hresO1⟩ := bind_some hres
    refine JX.loop (I := fun (s1 : Int × List Int × List Int) aa ww => ∃ (l10 : s1.2.1.length = x3.length) (l11 : s1.2.2.length = x7.length), St w [] 57 [(1, .slice a_1 q1.length c_1), (6, .slice a4 x3.length cp5), (7, .slice a8 x7.length x7.length), (8, .int .i64 s1.1)] [rowT 2 eI64 a4 x3.length cp5 s1.2.1, rowT 2 eI64 a8 x7.length x7.length s1.2.2] aa ww) (sh67_1 q1) hy1 (fun a w h => ⟨rfl, rfl, h.weak ⟨rfl, rfl, rfl, rfl, trivial⟩ [0, 1] (by decide) rfl⟩) ?_
    rintro ⟨x12, x13, x14⟩ o1 hres hox1 aa ww ⟨l15, l16, hS⟩
    refine (?_ : JX Go.Proofs.Try.prog w [] 57 _ _ [(1, .slice a_1 q1.length c_1), (6, .slice a4 x3.length cp5), (7, .slice a8 x7.length x7.length), (8, .int .i64 x12)] [rowT 2 eI64 a4 x3.length cp5 x13, rowT 2 eI64 a8 x7.length x7.length x14] _) aa ww hS
    clear hS
    simp only [sh67_1] at hres
    refine JX.seq ?_
    refine JX.seq ?_
    refine JX.region ?_
    refine JL.val (yl_move rfl) rfl ?_
    refine JL.val (yl_move rfl) rfl ?_
    refine JL.val (yl_len_slice Go.Proofs.Try.underlying33 rfl) rfl ?_
    refine JL.val (yl_lss rfl rfl) rfl ?_
    refine JL.nil ?_
    refine JE.weak (env' := [(1, .slice a_1 q1.length c_1), (6, .slice a4 x3.length cp5), (7, .slice a8 x7.length x7.length), (8, .int .i64 x12), (22, .bool (decide (x12 < (q1.length : Int))))]) (es' := [rowT 2 eI64 a4 x3.length cp5 x13, rowT 2 eI64 a8 x7.length x7.length x14]) [0, 1] ?_ ⟨rfl, rfl, rfl, rfl, rfl, trivial⟩ (by decide) rfl
    refine JE.code ?_
    rcases cond_some hres with ⟨hb, hres⟩ | ⟨hb, hres⟩
    · refine JX.condT rfl hb ?_
      refine JX.skip ?_
      refine JE.code ?_
      refine JX.seq ?_
      refine JX.block ?_
      refine JX.seq ?_
      refine JX.region ?_
      refine JL.val (yl_move rfl) rfl ?_
      refine JL.val (yl_move rfl) rfl ?_
      obtain ⟨x17, hx17, hres⟩ := bind_some hres
      refine JL.val (yl_idxT Go.Proofs.Try.underlying33 i2 i2s rfl rfl hx17 rfl (fun w hC => rd_arg g_1 hC)) rfl ?_
      refine JL.val (yl_loadT0 Go.Proofs.Try.underlying2 rfl rfl hx17 (fun w hC => rd_arg g_1 hC) rfl) rfl ?_
      obtain ⟨x18, hx18, hres⟩ := bind_some hres
      refine JL.eff (ef_call (T := T131 x18) Go.Proofs.Try.func131 rfl (by kernel_rfl) rfl (fun w hC => c131  hx18)) rfl ?_
      rintro _ _ ⟨_, ⟨rfl, rfl⟩, rfl⟩
      refine JL.val (yl_assign rfl) rfl ?_
      refine JL.nil ?_
      refine JE.weak (env' := [(1, .slice a_1 q1.length c_1), (6, .slice a4 x3.length cp5), (7, .slice a8 x7.length x7.length), (8, .int .i64 x12), (9, .int .i64 x18)]) (es' := [rowT 2 eI64 a4 x3.length cp5 x13, rowT 2 eI64 a8 x7.length x7.length x14]) [0, 1] ?_ ⟨rfl, rfl, rfl, rfl, rfl, trivial⟩ (by decide) rfl
      refine JE.code ?_
      refine JX.seq ?_
      refine JX.region ?_
      refine JL.val (yl_move rfl) rfl ?_
      refine JL.val (yl_move rfl) rfl ?_
      refine JL.val (yl_sub rfl rfl) rfl ?_
      obtain ⟨x19, hx19, hres⟩ := bind_some hres
      refine JL.val (yl_idxT Go.Proofs.Try.underlying33 i2 i2s rfl rfl hx19 l15 (fun w hC => rd_row hC 0 rfl)) rfl ?_
      refine JL.val (yl_loadT0 Go.Proofs.Try.underlying2 rfl rfl hx19 (fun w hC => rd_row hC 0 rfl) rfl) rfl ?_
      refine JL.val (yl_assign rfl) rfl ?_
      refine JL.nil ?_
      refine JE.weak (env' := [(1, .slice a_1 q1.length c_1), (6, .slice a4 x3.length cp5), (7, .slice a8 x7.length x7.length), (8, .int .i64 x12), (9, .int .i64 x18), (10, .int .i64 x19)]) (es' := [rowT 2 eI64 a4 x3.length cp5 x13, rowT 2 eI64 a8 x7.length x7.length x14]) [0, 1] ?_ ⟨rfl, rfl, rfl, rfl, rfl, rfl, trivial⟩ (by decide) rfl
      refine JE.code ?_
      refine JX.seq ?_
      refine JX.seq ?_
      refine JX.region ?_
      refine JL.val (yl_move rfl) rfl ?_
      refine JL.val (yl_move rfl) rfl ?_
      obtain ⟨x20, hx20, hres⟩ := bind_some hres
      refine JL.val (yl_idxT Go.Proofs.Try.underlying33 i2 i2s rfl rfl hx20 rfl (fun w hC => rd_arg g_1 hC)) rfl ?_
      refine JL.val (yl_loadT0 Go.Proofs.Try.underlying2 rfl rfl hx20 (fun w hC => rd_arg g_1 hC) rfl) rfl ?_
      refine JL.val (yl_lss rfl rfl) rfl ?_
      refine JL.nil ?_
      refine JE.weak (env' := [(1, .slice a_1 q1.length c_1), (6, .slice a4 x3.length cp5), (7, .slice a8 x7.length x7.length), (8, .int .i64 x12), (9, .int .i64 x18), (10, .int .i64 x19), (39, .bool (decide (x20 < 0)))]) (es' := [rowT 2 eI64 a4 x3.length cp5 x13, rowT 2 eI64 a8 x7.length x7.length x14]) [0, 1] ?_ ⟨rfl, rfl, rfl, rfl, rfl, rfl, rfl, trivial⟩ (by decide) rfl
      refine JE.code ?_
      obtain ⟨j21, hj21, hresj21⟩ := bind_some hres
      refine JX.cut (K := fun J => J [(1, .slice a_1 q1.length c_1), (6, .slice a4 x3.length cp5), (7, .slice a8 x7.length x7.length), (8, .int .i64 x12), (10, .int .i64 j21)] [rowT 2 eI64 a4 x3.length cp5 x13, rowT 2 eI64 a8 x7.length x7.length x14]) ?_ ?_
      · have hres := hresj21
        refine JE.code ?_
        refine JX.seq ?_
        refine JX.region ?_
        refine JL.val (yl_move rfl) rfl ?_
        refine JL.val (yl_move rfl) rfl ?_
        obtain ⟨x22, hx22, hres⟩ := bind_some hres
        refine JL.val (yl_idxT Go.Proofs.Try.underlying33 i2 i2s rfl rfl hx22 l16 (fun w hC => rd_row hC 1 rfl)) rfl ?_
        refine JL.val (yl_loadT0 Go.Proofs.Try.underlying2 rfl rfl hx22 (fun w hC => rd_row hC 1 rfl) rfl) rfl ?_
        refine JL.val (yl_add rfl rfl) rfl ?_
        obtain ⟨x23, hx23, hres⟩ := bind_some hres
        refine JL.val (yl_idxT Go.Proofs.Try.underlying33 i2 i2s rfl rfl hx23 l16 (fun w hC => rd_row hC 1 rfl)) rfl ?_
        refine JL.eff (ef_storeT (ix := 1) (u := w64 (x22 + 1)) i2 i2s rfl rfl rfl hx23 rfl) rfl ?_
        rintro _ _ rfl
        refine JL.nil ?_
        refine JE.weak (env' := [(1, .slice a_1 q1.length c_1), (6, .slice a4 x3.length cp5), (7, .slice a8 x7.length x7.length), (8, .int .i64 x12)]) (es' := [rowT 2 eI64 a4 x3.length cp5 x13, rowT 2 eI64 a8 x7.length x7.length (x14.set (j21).toNat (w64 (x22 + 1)))]) [0, 1] ?_ ⟨rfl, rfl, rfl, rfl, trivial⟩ (by decide) rfl
        refine JE.code ?_
        refine JX.region ?_
        refine JL.val (yl_move rfl) rfl ?_
        refine JL.val (yl_move rfl) rfl ?_
        refine JL.val (yl_move rfl) rfl ?_
        obtain ⟨x24, hx24, hres⟩ := bind_some hres
        refine JL.val (yl_idxT Go.Proofs.Try.underlying33 i2 i2s rfl rfl hx24 rfl (fun w hC => rd_arg g_1 hC)) rfl ?_
        refine JL.val (yl_loadT0 Go.Proofs.Try.underlying2 rfl rfl hx24 (fun w hC => rd_arg g_1 hC) rfl) rfl ?_
        obtain ⟨x25, hx25, hres⟩ := bind_some hres
        refine JL.eff (ef_callm (T := T132 a4 x3.length cp5 x25) 0 Go.Proofs.Try.func132 rfl (by kernel_rfl) rfl rfl (fun w fp hs => c132 hs l15 hx25)) rfl ?_
        rintro _ _ ⟨_, _, ⟨l26, rfl, rfl, rfl⟩, rfl⟩
        refine JL.nil ?_
        refine JE.weak (env' := [(1, .slice a_1 q1.length c_1), (6, .slice a4 x3.length cp5), (7, .slice a8 x7.length x7.length), (8, .int .i64 x12)]) (es' := [rowT 2 eI64 a4 x3.length cp5 x25, rowT 2 eI64 a8 x7.length x7.length (x14.set (j21).toNat (w64 (x22 + 1)))]) [0, 1] ?_ ⟨rfl, rfl, rfl, rfl, trivial⟩ (by decide) rfl
        refine JE.code ?_
        refine JX.region ?_
        refine JL.val (yl_move rfl) rfl ?_
        refine JL.val (yl_add rfl rfl) rfl ?_
        refine JL.val (yl_assign rfl) rfl ?_
        refine JL.nil ?_
        refine JE.cont hres ?_
        exact fun a w h => ⟨l26, (List.length_set.trans l16), h.weak ⟨rfl, rfl, rfl, rfl, trivial⟩ [0, 1] (by decide) rfl⟩
      · intro K
        rcases cond_some hj21 with ⟨hb, hres⟩ | ⟨hb, hres⟩
        · refine JX.condT rfl hb ?_
          refine JX.region ?_
          refine JL.val (yl_move rfl) rfl ?_
          refine JL.val (yl_move rfl) rfl ?_
          obtain ⟨x27, hx27, hres⟩ := bind_some hres
          refine JL.val (yl_idxT Go.Proofs.Try.underlying33 i2 i2s rfl rfl hx27 l15 (fun w hC => rd_row hC 0 rfl)) rfl ?_
          refine JL.val (yl_loadT0 Go.Proofs.Try.underlying2 rfl rfl hx27 (fun w hC => rd_row hC 0 rfl) rfl) rfl ?_
          refine JL.val (yl_assign rfl) rfl ?_
          refine JL.nil ?_
          refine JE.weak (env' := [(1, .slice a_1 q1.length c_1), (6, .slice a4 x3.length cp5), (7, .slice a8 x7.length x7.length), (8, .int .i64 x12), (10, .int .i64 x27)]) (es' := [rowT 2 eI64 a4 x3.length cp5 x13, rowT 2 eI64 a8 x7.length x7.length x14]) [0, 1] ?_ ⟨rfl, rfl, rfl, rfl, rfl, trivial⟩ (by decide) rfl
          have hj := Option.some.inj hres
          exact JE.weak [0, 1] (K) ⟨(by subst hj; rfl), (by subst hj; rfl), (by subst hj; rfl), (by subst hj; rfl), (by subst hj; rfl), trivial⟩ (by decide) (by subst hj; rfl)
        · refine JX.condF rfl hb ?_
          refine JX.skip ?_
          have hj := Option.some.inj hres
          exact JE.weak [0, 1] (K) ⟨(by subst hj; rfl), (by subst hj; rfl), (by subst hj; rfl), (by subst hj; rfl), (by subst hj; rfl), trivial⟩ (by decide) (by subst hj; rfl)
    · refine JX.condF rfl hb ?_
      refine JX.exit ?_
      refine JE.qb rfl ?_
      obtain ⟨b1, hb1⟩ : ∃ b : List Int, b = x14 := ⟨_, rfl⟩
      have hy1 : b1 = y1 := by rw [hb1]; exact hox1 _ (Option.some.inj hres).symm
      have hres := hresO1
      rw [← hy1] at hres
      have l28 : b1.length = x7.length := by subst hb1; exact l16
      refine JE.weak (env' := [(7, .slice a8 x7.length x7.length)]) (es' := [rowT 2 eI64 a8 x7.length x7.length b1]) [1] ?_ ⟨(by subst hb1; rfl), trivial⟩ (by decide) (by subst hb1; rfl)
      refine JE.code ?_
      refine JX.seq ?_
      refine JX.region ?_
      refine JL.val (yl_move rfl) rfl ?_
      refine JL.val (yl_assign rfl) rfl ?_
      refine JL.val (yl_assign rfl) rfl ?_
      refine JL.nil ?_
      refine JE.code ?_
      refine JX.ret ?_
      obtain rfl := Option.some.inj hres
      refine JE.ret (rs := [.tmp 4, .tmp 5]) (vs := [.slice a8 x7.length x7.length, .int .i64 0]) rfl ⟨rfl, rfl, trivial⟩ ?_
      exact fun w' hb hs => ⟨_, _, ⟨a8, x7.length, x7.length, l28, rfl, rfl⟩, rfl, hb, hs.sel [0] _ (by decide) rfl⟩

/- impl.InverseWord -/
def sh68_1 (q1 : List Int) : (Int × List Int) → Option ((Int × List Int) ⊕ (List Int))
  | (x7, x8) => bif decide (0 ≤ x7) then (Option.bind (getI q1 x7) fun x11 => Option.bind (appL x8 [w64 (0 - x11)]) fun x14 => some (.inl (w64 (x7 - 1), x14))) else (some (.inr x8))
def sh68 (q0 : Int) (q1 : List Int) : Option (List Int × Int) := Option.bind (sh76 q0 q1) fun x1 => bif !x1 then (some (([] : List Int), 1)) else (Option.bind (iter (sh68_1 q1) (w64 ((q1.length : Int) - 1), ([] : List Int))) fun b1 => (some (b1, 0)))
def T68 (r : List Int × Int) (v : Value) (rs : List Own) : Prop := ∃ (a0 : Option Addr) (n0 c0 : Nat), r.1.length = n0 ∧ v = rets [.slice a0 n0 c0, .int .i64 r.2] ∧ rs = [rowT 2 eI64 a0 n0 c0 r.1]
set_option maxRecDepth 100000 in
theorem c68 {w : World} {q0 : Int} {q1 : List Int} {a_1 : Option Addr} {n_1 c_1 : Nat} (g_1 : Rd w a_1 (eI64.fl q1)) (l_1 : q1.length = n_1) (k_1 : n_1 ≤ c_1) {r : List Int × Int} (hres : sh68 q0 q1 = some r) : Calls Go.Proofs.Try.prog 68 [.int .i64 q0, .slice a_1 n_1 c_1].toArray w (Ret w (T68 r)) := by
  subst l_1
  unfold sh68 at hres
  refine calls_of (n := 29) (M := []) (es := []) Go.Proofs.Try.func68 rfl rfl rfl (Sep.nil _ _ _) ?_
  refine JX.seq ?_
  refine JX.region ?_
  refine JL.val (yl_assign rfl) rfl ?_
  refine JL.val (yl_assign rfl) rfl ?_
  refine JL.nil ?_
  refine JE.code ?_
  refine JX.seq ?_
  refine JX.seq ?_
  refine JX.region ?_
  refine JL.val (yl_move rfl) rfl ?_
  refine JL.val (yl_move rfl) rfl ?_
  obtain ⟨x1, hx1, hres⟩ := bind_some hres
  refine JL.eff (ef_call (T := T76 x1) Go.Proofs.Try.func76 rfl (by kernel_rfl) rfl (fun w hC => c76 (rd_arg g_1 hC) rfl k_1 hx1)) rfl ?_
  rintro _ _ ⟨_, ⟨rfl, rfl⟩, rfl⟩
  refine JL.val (yl_not rfl) rfl ?_
  refine JL.nil ?_
  refine JE.weak (env' := [(1, .slice a_1 q1.length c_1), (11, .bool !x1)]) (es' := []) [] ?_ ⟨rfl, rfl, trivial⟩ (by decide) rfl
  refine JE.code ?_
  rcases cond_some hres with ⟨hb, hres⟩ | ⟨hb, hres⟩
  · refine JX.condT rfl hb ?_
    refine JX.seq ?_
    refine JX.region ?_
    refine JL.val (yl_assign rfl) rfl ?_
    refine JL.val (yl_assign rfl) rfl ?_
    refine JL.nil ?_
    refine JE.code ?_
    refine JX.ret ?_
    refine JE.nilrow 2 eI64 ?_
    obtain rfl := Option.some.inj hres
    refine JE.ret (rs := [.tmp 4, .tmp 5]) (vs := [.slice none 0 0, .int .i64 1]) rfl ⟨rfl, rfl, trivial⟩ ?_
    exact fun w' hb hs => ⟨_, _, ⟨none, 0, 0, rfl, rfl, rfl⟩, rfl, hb, hs.sel [0] _ (by decide) rfl⟩
  · refine JX.condF rfl hb ?_
    refine JX.skip ?_
    refine JE.code ?_
    refine JX.seq ?_
    refine JX.region ?_
    refine JL.eff (ef_buildSlice (E := 2) (k := eI64.k) (us := eI64.fl ([] : List Int)) rfl (fun w => bsl33_0  w) rfl (by decide)) rfl ?_
    rintro _ _ ⟨a3, rfl, rfl⟩
    refine JL.val (yl_assign rfl) rfl ?_
    refine JL.nil ?_
    refine JE.code ?_
    refine JX.seq ?_
    refine JX.seq ?_
    refine JX.region ?_
    refine JL.val (yl_move rfl) rfl ?_
    refine JL.val (yl_len_slice Go.Proofs.Try.underlying33 rfl) rfl ?_
    refine JL.val (yl_sub rfl rfl) rfl ?_
    refine JL.val (yl_assign rfl) rfl ?_
    refine JL.nil ?_
    refine JE.weak (env' := [(1, .slice a_1 q1.length c_1), (6, .slice a3 0 0), (7, .int .i64 (w64 ((q1.length : Int) - 1)))]) (es' := [rowT 2 eI64 a3 0 0 ([] : List Int)]) [0] ?_ ⟨rfl, rfl, rfl, trivial⟩ (by decide) rfl
    refine JE.code ?_
    refine JX.block ?_
    obtain ⟨y1, hy1, hresO1⟩ := bind_some hres
    refine JX.loop (I := fun (s1 : Int × List Int) aa ww => ∃ (a5 : Option Addr) (cp6 : Nat), St w [] 29 [(1, .slice a_1 q1.length c_1), (6, .slice a5 s1.2.length cp6), (7, .int .i64 s1.1)] [rowT 2 eI64 a5 s1.2.length cp6 s1.2] aa ww) (sh68_1 q1) hy1 (fun a w h => ⟨a3, 0, h.weak ⟨rfl, rfl, rfl, trivial⟩ [0] (by decide) rfl⟩) ?_
    rintro ⟨x7, x8⟩ o1 hres hox1 aa ww ⟨a9, cp10, hS⟩
    refine (?_ : JX Go.Proofs.Try.prog w [] 29 _ _ [(1, .slice a_1 q1.length c_1), (6, .slice a9 x8.length cp10), (7, .int .i64 x7)] [rowT 2 eI64 a9 x8.length cp10 x8] _) aa ww hS
    clear hS
    simp only [sh68_1] at hres
    refine JX.seq ?_
    refine JX.seq ?_
    refine JX.region ?_
    refine JL.val (yl_move rfl) rfl ?_
    refine JL.val (yl_geq rfl rfl) rfl ?_
    refine JL.nil ?_
    refine JE.code ?_
    rcases cond_some hres with ⟨hb, hres⟩ | ⟨hb, hres⟩
    · refine JX.condT rfl hb ?_
      refine JX.skip ?_
      refine JE.code ?_
      refine JX.seq ?_
      refine JX.block ?_
      refine JX.region ?_
      refine JL.val (yl_move rfl) rfl ?_
      refine JL.val (yl_move rfl) rfl ?_
      refine JL.val (yl_move rfl) rfl ?_
      obtain ⟨x11, hx11, hres⟩ := bind_some hres
      refine JL.val (yl_idxT Go.Proofs.Try.underlying33 i2 i2s rfl rfl hx11 rfl (fun w hC => rd_arg g_1 hC)) rfl ?_
      refine JL.val (yl_loadT0 Go.Proofs.Try.underlying2 rfl rfl hx11 (fun w hC => rd_arg g_1 hC) rfl) rfl ?_
      refine JL.val (yl_neg rfl) rfl ?_
      refine JL.eff (ef_buildSlice (E := 2) (k := eI64.k) (us := eI64.fl [w64 (0 - x11)]) rfl (fun w => bsl33_1 (w64 (0 - x11)) w) rfl (by decide)) rfl ?_
      rintro _ _ ⟨a12, rfl, rfl⟩
      obtain ⟨x14, hx14, hres⟩ := bind_some hres
      refine JL.eff (ef_appendT (ix := 0) Go.Proofs.Try.underlying33 i2 i2z i2s rfl i2b0 i2b1 rfl rfl rfl rfl rfl (fun w hC => rd_row hC 1 rfl) hx14) rfl ?_
      rintro _ _ ⟨a15, cp16, rfl, rfl⟩
      refine JL.val (yl_assign rfl) rfl ?_
      refine JL.nil ?_
      refine JE.weak (env' := [(1, .slice a_1 q1.length c_1), (6, .slice a15 x14.length cp16), (7, .int .i64 x7)]) (es' := [rowT 2 eI64 a15 x14.length cp16 x14]) [0] ?_ ⟨rfl, rfl, rfl, trivial⟩ (by decide) rfl
      refine JE.code ?_
      refine JX.region ?_
      refine JL.val (yl_move rfl) rfl ?_
      refine JL.val (yl_sub rfl rfl) rfl ?_
      refine JL.val (yl_assign rfl) rfl ?_
      refine JL.nil ?_
      refine JE.cont hres ?_
      exact fun a w h => ⟨a15, cp16, h.weak ⟨rfl, rfl, rfl, trivial⟩ [0] (by decide) rfl⟩
    · refine JX.condF rfl hb ?_
      refine JX.exit ?_
      refine JE.qb rfl ?_
      obtain ⟨b1, hb1⟩ : ∃ b : List Int, b = x8 := ⟨_, rfl⟩
      have hy1 : b1 = y1 := by rw [hb1]; exact hox1 _ (Option.some.inj hres).symm
      have hres := hresO1
      rw [← hy1] at hres
      refine JE.weak (env' := [(6, .slice a9 b1.length cp10)]) (es' := [rowT 2 eI64 a9 b1.length cp10 b1]) [0] ?_ ⟨(by subst hb1; rfl), trivial⟩ (by decide) (by subst hb1; rfl)
      refine JE.code ?_
      refine JX.seq ?_
      refine JX.region ?_
      refine JL.val (yl_move rfl) rfl ?_
      refine JL.val (yl_assign rfl) rfl ?_
      refine JL.val (yl_assign rfl) rfl ?_
      refine JL.nil ?_
      refine JE.code ?_
      refine JX.ret ?_
      obtain rfl := Option.some.inj hres
      refine JE.ret (rs := [.tmp 4, .tmp 5]) (vs := [.slice a9 b1.length cp10, .int .i64 0]) rfl ⟨rfl, rfl, trivial⟩ ?_
      exact fun w' hb hs => ⟨_, _, ⟨a9, b1.length, cp10, rfl, rfl, rfl⟩, rfl, hb, hs.sel [0] _ (by decide) rfl⟩

/- spec.InverseWord -/
def sh69_1 (q1 : List Int) : (Int × List Int) → Option ((Int × List Int) ⊕ (List Int))
  | (x7, x8) => bif decide (0 ≤ x7) then (Option.bind (getI q1 x7) fun x11 => Option.bind (appL x8 [w64 (0 - x11)]) fun x14 => some (.inl (w64 (x7 - 1), x14))) else (some (.inr x8))
def sh69 (q0 : Int) (q1 : List Int) : Option (List Int × Int) := Option.bind (sh127 q0 q1) fun x1 => bif !x1 then (some (([] : List Int), 1)) else (Option.bind (iter (sh69_1 q1) (w64 ((q1.length : Int) - 1), ([] : List Int))) fun b1 => (some (b1, 0)))
def T69 (r : List Int × Int) (v : Value) (rs : List Own) : Prop := ∃ (a0 : Option Addr) (n0 c0 : Nat), r.1.length = n0 ∧ v = rets [.slice a0 n0 c0, .int .i64 r.2] ∧ rs = [rowT 2 eI64 a0 n0 c0 r.1]
set_option maxRecDepth 100000 in
theorem c69 {w : World} {q0 : Int} {q1 : List Int} {a_1 : Option Addr} {n_1 c_1 : Nat} (g_1 : Rd w a_1 (eI64.fl q1)) (l_1 : q1.length = n_1) (k_1 : n_1 ≤ c_1) {r : List Int × Int} (hres : sh69 q0 q1 = some r) : Calls Go.Proofs.Try.prog 69 [.int .i64 q0, .slice a_1 n_1 c_1].toArray w (Ret w (T69 r)) := by
  subst l_1
  unfold sh69 at hres
  refine calls_of (n := 29) (M := []) (es := []) Go.Proofs.Try.func69 rfl rfl rfl (Sep.nil _ _ _) ?_
  refine JX.seq ?_
  refine JX.region ?_
  refine JL.val (yl_assign rfl) rfl ?_
  refine JL.val (yl_assign rfl) rfl ?_
  refine JL.nil ?_
  refine JE.code ?_
  refine JX.seq ?_
  refine JX.seq ?_
  refine JX.region ?_
  refine JL.val (yl_move rfl) rfl ?_
  refine JL.val (yl_move rfl) rfl ?_
  obtain ⟨x1, hx1, hres⟩ := bind_some hres
  refine JL.eff (ef_call (T := T127 x1) Go.Proofs.Try.func127 rfl (by kernel_rfl) rfl (fun w hC => c127 (rd_arg g_1 hC) rfl k_1 hx1)) rfl ?_
  rintro _ _ ⟨_, ⟨rfl, rfl⟩, rfl⟩
  refine JL.val (yl_not rfl) rfl ?_
  refine JL.nil ?_
  refine JE.weak (env' := [(1, .slice a_1 q1.length c_1), (11, .bool !x1)]) (es' := []) [] ?_ ⟨rfl, rfl, trivial⟩ (by decide) rfl
  refine JE.code ?_
  rcases cond_some hres with ⟨hb, hres⟩ | ⟨hb, hres⟩
  · refine JX.condT rfl hb ?_
    refine JX.seq ?_
    refine JX.region ?_
    refine JL.val (yl_assign rfl) rfl ?_
    refine JL.val (yl_assign rfl) rfl ?_
    refine JL.nil ?_
    refine JE.code ?_
    refine JX.ret ?_
    refine JE.nilrow 2 eI64 ?_
    obtain rfl := Option.some.inj hres
    refine JE.ret (rs := [.tmp 4, .tmp 5]) (vs := [.slice none 0 0, .int .i64 1]) rfl ⟨rfl, rfl, trivial⟩ ?_
    exact fun w' hb hs => ⟨_, _, ⟨none, 0, 0, rfl, rfl, rfl⟩, rfl, hb, hs.sel [0] _ (by decide) rfl⟩
  · refine JX.condF rfl hb ?_
    refine JX.skip ?_
    refine JE.code ?_
    refine JX.seq ?_
    refine JX.region ?_
    refine JL.eff (ef_buildSlice (E := 2) (k := eI64.k) (us := eI64.fl ([] : List Int)) rfl (fun w => bsl33_0  w) rfl (by decide)) rfl ?_
    rintro _ _ ⟨a3, rfl, rfl⟩
    refine JL.val (yl_assign rfl) rfl ?_
    refine JL.nil ?_
    refine JE.code ?_
    refine JX.seq ?_
    refine JX.seq ?_
    refine JX.region ?_
    refine JL.val (yl_move rfl) rfl ?_
    refine JL.val (yl_len_slice Go.Proofs.Try.underlying33 rfl) rfl ?_
    refine JL.val (yl_sub rfl rfl) rfl ?_
    refine JL.val (yl_assign rfl) rfl ?_
    refine JL.nil ?_
    refine JE.weak (env' := [(1, .slice a_1 q1.length c_1), (6, .slice a3 0 0), (7, .int .i64 (w64 ((q1.length : Int) - 1)))]) (es' := [rowT 2 eI64 a3 0 0 ([] : List Int)]) [0] ?_ ⟨rfl, rfl, rfl, trivial⟩ (by decide) rfl
    refine JE.code ?_
    refine JX.block ?_
    obtain ⟨y1, hy1, hresO1⟩ := bind_some hres
    refine JX.loop (I := fun (s1 : Int × List Int) aa ww => ∃ (a5 : Option Addr) (cp6 : Nat), St w [] 29 [(1, .slice a_1 q1.length c_1), (6, .slice a5 s1.2.length cp6), (7, .int .i64 s1.1)] [rowT 2 eI64 a5 s1.2.length cp6 s1.2] aa ww) (sh69_1 q1) hy1 (fun a w h => ⟨a3, 0, h.weak ⟨rfl, rfl, rfl, trivial⟩ [0] (by decide) rfl⟩) ?_
    rintro ⟨x7, x8⟩ o1 hres hox1 aa ww ⟨a9, cp10, hS⟩
    refine (?_ : JX Go.Proofs.Try.prog w [] 29 _ _ [(1, .slice a_1 q1.length c_1), (6, .slice a9 x8.length cp10), (7, .int .i64 x7)] [rowT 2 eI64 a9 x8.length cp10 x8] _) aa ww hS
    clear hS
    simp only [sh69_1] at hres
    refine JX.seq ?_
    refine JX.seq ?_
    refine JX.region ?_
    refine JL.val (yl_move rfl) rfl ?_
    refine JL.val (yl_geq rfl rfl) rfl ?_
    refine JL.nil ?_
    refine JE.code ?_
    rcases cond_some hres with ⟨hb, hres⟩ | ⟨hb, hres⟩
    · refine JX.condT rfl hb ?_
      refine JX.skip ?_
      refine JE.code ?_
      refine JX.seq ?_
      refine JX.block ?_
      refine JX.region ?_
      refine JL.val (yl_move rfl) rfl ?_
      refine JL.val (yl_move rfl) rfl ?_
      refine JL.val (yl_move rfl) rfl ?_
      obtain ⟨x11, hx11, hres⟩ := bind_some hres
      refine JL.val (yl_idxT Go.Proofs.Try.underlying33 i2 i2s rfl rfl hx11 rfl (fun w hC => rd_arg g_1 hC)) rfl ?_
      refine JL.val (yl_loadT0 Go.Proofs.Try.underlying2 rfl rfl hx11 (fun w hC => rd_arg g_1 hC) rfl) rfl ?_
      refine JL.val (yl_neg rfl) rfl ?_
      refine JL.eff (ef_buildSlice (E := 2) (k := eI64.k) (us := eI64.fl [w64 (0 - x11)]) rfl (fun w => bsl33_1 (w64 (0 - x11)) w) rfl (by decide)) rfl ?_
      rintro _ _ ⟨a12, rfl, rfl⟩
      obtain ⟨x14, hx14, hres⟩ := bind_some hres
      refine JL.eff (ef_appendT (ix := 0) Go.Proofs.Try.underlying33 i2 i2z i2s rfl i2b0 i2b1 rfl rfl rfl rfl rfl (fun w hC => rd_row hC 1 rfl) hx14) rfl ?_
      rintro _ _ ⟨a15, cp16, rfl, rfl⟩
      refine JL.val (yl_assign rfl) rfl ?_
      refine JL.nil ?_
      refine JE.weak (env' := [(1, .slice a_1 q1.length c_1), (6, .slice a15 x14.length cp16), (7, .int .i64 x7)]) (es' := [rowT 2 eI64 a15 x14.length cp16 x14]) [0] ?_ ⟨rfl, rfl, rfl, trivial⟩ (by decide) rfl
      refine JE.code ?_
      refine JX.region ?_
      refine JL.val (yl_move rfl) rfl ?_
      refine JL.val (yl_sub rfl rfl) rfl ?_
      refine JL.val (yl_assign rfl) rfl ?_
      refine JL.nil ?_
      refine JE.cont hres ?_
      exact fun a w h => ⟨a15, cp16, h.weak ⟨rfl, rfl, rfl, trivial⟩ [0] (by decide) rfl⟩
    · refine JX.condF rfl hb ?_
      refine JX.exit ?_
      refine JE.qb rfl ?_
      obtain ⟨b1, hb1⟩ : ∃ b : List Int, b = x8 := ⟨_, rfl⟩
      have hy1 : b1 = y1 := by rw [hb1]; exact hox1 _ (Option.some.inj hres).symm
      have hres := hresO1
      rw [← hy1] at hres
      refine JE.weak (env' := [(6, .slice a9 b1.length cp10)]) (es' := [rowT 2 eI64 a9 b1.length cp10 b1]) [0] ?_ ⟨(by subst hb1; rfl), trivial⟩ (by decide) (by subst hb1; rfl)
      refine JE.code ?_
      refine JX.seq ?_
      refine JX.region ?_
      refine JL.val (yl_move rfl) rfl ?_
      refine JL.val (yl_assign rfl) rfl ?_
      refine JL.val (yl_assign rfl) rfl ?_
      refine JL.nil ?_
      refine JE.code ?_
      refine JX.ret ?_
      obtain rfl := Option.some.inj hres
      refine JE.ret (rs := [.tmp 4, .tmp 5]) (vs := [.slice a9 b1.length cp10, .int .i64 0]) rfl ⟨rfl, rfl, trivial⟩ ?_
      exact fun w' hb hs => ⟨_, _, ⟨a9, b1.length, cp10, rfl, rfl, rfl⟩, rfl, hb, hs.sel [0] _ (by decide) rfl⟩

/- impl.ReduceWord -/
def sh70_1 (q1 : List Int) : (Int × List Int) → Option ((Int × List Int) ⊕ (List Int))
  | (x7, x8) => bif decide (x7 < (q1.length : Int)) then (Option.bind (getI q1 x7) fun x11 => Option.bind (bif decide (0 < (x8.length : Int)) then (Option.bind (getI x8 (w64 ((x8.length : Int) - 1))) fun x13 => some (x13 == (w64 (0 - x11)))) else (some false)) fun cb12 => (Option.bind (bif cb12 then (Option.bind (takeL x8 (w64 ((x8.length : Int) - 1))) fun x17 => some x17) else (Option.bind (appL x8 [x11]) fun x20 => some x20)) fun j14 => (some (.inl (w64 (x7 + 1), j14))))) else (some (.inr x8))
def sh70 (q0 : Int) (q1 : List Int) : Option (List Int × Int) := Option.bind (sh76 q0 q1) fun x1 => bif !x1 then (some (([] : List Int), 1)) else (Option.bind (iter (sh70_1 q1) (0, ([] : List Int))) fun b1 => (some (b1, 0)))
def T70 (r : List Int × Int) (v : Value) (rs : List Own) : Prop := ∃ (a0 : Option Addr) (n0 c0 : Nat), r.1.length = n0 ∧ v = rets [.slice a0 n0 c0, .int .i64 r.2] ∧ rs = [rowT 2 eI64 a0 n0 c0 r.1]
set_option maxRecDepth 100000 in
theorem c70 {w : World} {q0 : Int} {q1 : List Int} {a_1 : Option Addr} {n_1 c_1 : Nat} (g_1 : Rd w a_1 (eI64.fl q1)) (l_1 : q1.length = n_1) (k_1 : n_1 ≤ c_1) {r : List Int × Int} (hres : sh70 q0 q1 = some r) : Calls Go.Proofs.Try.prog 70 [.int .i64 q0, .slice a_1 n_1 c_1].toArray w (Ret w (T70 r)) := by
  subst l_1
  unfold sh70 at hres
  refine calls_of (n := 45) (M := []) (es := []) Go.Proofs.Try.func70 rfl rfl rfl (Sep.nil _ _ _) ?_
  refine JX.seq ?_
  refine JX.region ?_
  refine JL.val (yl_assign rfl) rfl ?_
  refine JL.val (yl_assign rfl) rfl ?_
  refine JL.nil ?_
  refine JE.code ?_
  refine JX.seq ?_
  refine JX.seq ?_
  refine JX.region ?_
  refine JL.val (yl_move rfl) rfl ?_
  refine JL.val (yl_move rfl) rfl ?_
  obtain ⟨x1, hx1, hres⟩ := bind_some hres
  refine JL.eff (ef_call (T := T76 x1) Go.Proofs.Try.func76 rfl (by kernel_rfl) rfl (fun w hC => c76 (rd_arg g_1 hC) rfl k_1 hx1)) rfl ?_
  rintro _ _ ⟨_, ⟨rfl, rfl⟩, rfl⟩
  refine JL.val (yl_not rfl) rfl ?_
  refine JL.nil ?_
  refine JE.weak (env' := [(1, .slice a_1 q1.length c_1), (13, .bool !x1)]) (es' := []) [] ?_ ⟨rfl, rfl, trivial⟩ (by decide) rfl
  refine JE.code ?_
  rcases cond_some hres with ⟨hb, hres⟩ | ⟨hb, hres⟩
  · refine JX.condT rfl hb ?_
    refine JX.seq ?_
    refine JX.region ?_
    refine JL.val (yl_assign rfl) rfl ?_
    refine JL.val (yl_assign rfl) rfl ?_
    refine JL.nil ?_
    refine JE.code ?_
    refine JX.ret ?_
    refine JE.nilrow 2 eI64 ?_
    obtain rfl := Option.some.inj hres
    refine JE.ret (rs := [.tmp 4, .tmp 5]) (vs := [.slice none 0 0, .int .i64 1]) rfl ⟨rfl, rfl, trivial⟩ ?_
    exact fun w' hb hs => ⟨_, _, ⟨none, 0, 0, rfl, rfl, rfl⟩, rfl, hb, hs.sel [0] _ (by decide) rfl⟩
  · refine JX.condF rfl hb ?_
    refine JX.skip ?_
    refine JE.code ?_
    refine JX.seq ?_
    refine JX.region ?_
    refine JL.eff (ef_buildSlice (E := 2) (k := eI64.k) (us := eI64.fl ([] : List Int)) rfl (fun w => bsl33_0  w) rfl (by decide)) rfl ?_
    rintro _ _ ⟨a3, rfl, rfl⟩
    refine JL.val (yl_assign rfl) rfl ?_
    refine JL.nil ?_
    refine JE.code ?_
    refine JX.seq ?_
    refine JX.seq ?_
    refine JX.region ?_
    refine JL.val (yl_move rfl) rfl ?_
    refine JL.val (yl_len_slice Go.Proofs.Try.underlying33 rfl) rfl ?_
    refine JL.val (yl_move rfl) rfl ?_
    refine JL.nil ?_
    refine JE.code ?_
    refine JX.block ?_
    obtain ⟨y1, hy1, hresO1⟩ := bind_some hres
    refine JX.loop (I := fun (s1 : Int × List Int) aa ww => ∃ (a5 : Option Addr) (cp6 : Nat), St w [] 45 [(6, .slice a5 s1.2.length cp6), (15, .slice a_1 q1.length c_1), (16, .int .i64 (q1.length : Int)), (17, .int .i64 s1.1)] [rowT 2 eI64 a5 s1.2.length cp6 s1.2] aa ww) (sh70_1 q1) hy1 (fun a w h => ⟨a3, 0, h.weak ⟨rfl, rfl, rfl, rfl, trivial⟩ [0] (by decide) rfl⟩) ?_
    rintro ⟨x7, x8⟩ o1 hres hox1 aa ww ⟨a9, cp10, hS⟩
    refine (?_ : JX Go.Proofs.Try.prog w [] 45 _ _ [(6, .slice a9 x8.length cp10), (15, .slice a_1 q1.length c_1), (16, .int .i64 (q1.length : Int)), (17, .int .i64 x7)] [rowT 2 eI64 a9 x8.length cp10 x8] _) aa ww hS
    clear hS
    simp only [sh70_1] at hres
    refine JX.seq ?_
    refine JX.region ?_
    refine JL.val (yl_lss rfl rfl) rfl ?_
    refine JL.nil ?_
    refine JE.code ?_
    refine JX.seq ?_
    rcases cond_some hres with ⟨hb, hres⟩ | ⟨hb, hres⟩
    · refine JX.condT rfl hb ?_
      refine JX.skip ?_
      refine JE.code ?_
      refine JX.seq ?_
      refine JX.block ?_
      refine JX.seq ?_
      refine JX.region ?_
      obtain ⟨x11, hx11, hres⟩ := bind_some hres
      refine JL.val (yl_idxT Go.Proofs.Try.underlying33 i2 i2s rfl rfl hx11 rfl (fun w hC => rd_arg g_1 hC)) rfl ?_
      refine JL.val (yl_loadT0 Go.Proofs.Try.underlying2 rfl rfl hx11 (fun w hC => rd_arg g_1 hC) rfl) rfl ?_
      refine JL.val (yl_assign rfl) rfl ?_
      refine JL.nil ?_
      refine JE.code ?_
      refine JX.seq ?_
      refine JX.region ?_
      refine JL.val (yl_move rfl) rfl ?_
      refine JL.val (yl_len_slice Go.Proofs.Try.underlying33 rfl) rfl ?_
      refine JL.val (yl_assign rfl) rfl ?_
      refine JL.nil ?_
      refine JE.code ?_
      refine JX.seq ?_
      refine JX.region ?_
      refine JL.val (yl_move rfl) rfl ?_
      refine JL.val (yl_gtr rfl rfl) rfl ?_
      refine JL.val (yl_move rfl) rfl ?_
      obtain ⟨cb12, hcb12, hres⟩ := bind_some hres
      refine JL.cut (K := fun J => J [(6, .slice a9 x8.length cp10), (8, .int .i64 x11), (9, .int .i64 (x8.length : Int)), (15, .slice a_1 q1.length c_1), (16, .int .i64 (q1.length : Int)), (17, .int .i64 x7), (34, .bool cb12)] [rowT 2 eI64 a9 x8.length cp10 x8]) 9 ?_ ?_
      · refine JL.nil ?_
        refine JE.weak (env' := [(6, .slice a9 x8.length cp10), (8, .int .i64 x11), (9, .int .i64 (x8.length : Int)), (15, .slice a_1 q1.length c_1), (16, .int .i64 (q1.length : Int)), (17, .int .i64 x7), (34, .bool cb12)]) (es' := [rowT 2 eI64 a9 x8.length cp10 x8]) [0] ?_ ⟨rfl, rfl, rfl, rfl, rfl, rfl, rfl, trivial⟩ (by decide) rfl
        refine JE.code ?_
        obtain ⟨j14, hj14, hresj14⟩ := bind_some hres
        refine JX.cut (K := fun J => ∀ (a15 : Option Addr) (cp16 : Nat), J [(6, .slice a15 j14.length cp16), (15, .slice a_1 q1.length c_1), (16, .int .i64 (q1.length : Int)), (17, .int .i64 x7)] [rowT 2 eI64 a15 j14.length cp16 j14]) ?_ ?_
        · intro a15 cp16
          have hres := hresj14
          refine JE.code ?_
          refine JX.region ?_
          refine JL.val (yl_add rfl rfl) rfl ?_
          refine JL.val (yl_move rfl) rfl ?_
          refine JL.nil ?_
          refine JE.cont hres ?_
          exact fun a w h => ⟨a15, cp16, h.weak ⟨rfl, rfl, rfl, rfl, trivial⟩ [0] (by decide) rfl⟩
        · intro K
          rcases cond_some hj14 with ⟨hb, hres⟩ | ⟨hb, hres⟩
          · refine JX.condT rfl hb ?_
            refine JX.region ?_
            refine JL.val (yl_move rfl) rfl ?_
            refine JL.val (yl_move rfl) rfl ?_
            refine JL.val (yl_sub rfl rfl) rfl ?_
            obtain ⟨x17, hx17, hres⟩ := bind_some hres
            refine JL.val (yl_takeT Go.Proofs.Try.underlying33 i2 rfl rfl hx17 rfl (fun w hC => ln_row hC 0 rfl)) rfl ?_
            refine JL.takeT 0 hx17 rfl ?_
            refine JL.val (yl_assign rfl) rfl ?_
            refine JL.nil ?_
            refine JE.weak (env' := [(6, .slice a9 x17.length cp10), (15, .slice a_1 q1.length c_1), (16, .int .i64 (q1.length : Int)), (17, .int .i64 x7)]) (es' := [rowT 2 eI64 a9 x17.length cp10 x17]) [0] ?_ ⟨rfl, rfl, rfl, rfl, trivial⟩ (by decide) rfl
            have hj := Option.some.inj hres
            exact JE.weak [0] (K a9 cp10) ⟨(by subst hj; rfl), (by subst hj; rfl), (by subst hj; rfl), (by subst hj; rfl), trivial⟩ (by decide) (by subst hj; rfl)
          · refine JX.condF rfl hb ?_
            refine JX.region ?_
            refine JL.val (yl_move rfl) rfl ?_
            refine JL.val (yl_move rfl) rfl ?_
            refine JL.eff (ef_buildSlice (E := 2) (k := eI64.k) (us := eI64.fl [x11]) rfl (fun w => bsl33_1 x11 w) rfl (by decide)) rfl ?_
            rintro _ _ ⟨a18, rfl, rfl⟩
            obtain ⟨x20, hx20, hres⟩ := bind_some hres
            refine JL.eff (ef_appendT (ix := 0) Go.Proofs.Try.underlying33 i2 i2z i2s rfl i2b0 i2b1 rfl rfl rfl rfl rfl (fun w hC => rd_row hC 1 rfl) hx20) rfl ?_
            rintro _ _ ⟨a21, cp22, rfl, rfl⟩
            refine JL.val (yl_assign rfl) rfl ?_
            refine JL.nil ?_
            refine JE.weak (env' := [(6, .slice a21 x20.length cp22), (15, .slice a_1 q1.length c_1), (16, .int .i64 (q1.length : Int)), (17, .int .i64 x7)]) (es' := [rowT 2 eI64 a21 x20.length cp22 x20]) [0] ?_ ⟨rfl, rfl, rfl, rfl, trivial⟩ (by decide) rfl
            have hj := Option.some.inj hres
            exact JE.weak [0] (K a21 cp22) ⟨(by subst hj; rfl), (by subst hj; rfl), (by subst hj; rfl), (by subst hj; rfl), trivial⟩ (by decide) (by subst hj; rfl)
      · intro K
        rcases cond_some hcb12 with ⟨hb, hres⟩ | ⟨hb, hres⟩
        · refine JL.set (d := 25) (v := .bool true) (congrArg (fun b => some (Value.bool b)) hb) ?_
          refine JL.gval rfl rfl (yl_move rfl) rfl ?_
          refine JL.gval rfl rfl (yl_move rfl) rfl ?_
          refine JL.gval rfl rfl (yl_sub rfl rfl) rfl ?_
          obtain ⟨x13, hx13, hres⟩ := bind_some hres
          refine JL.gval rfl rfl (yl_idxT Go.Proofs.Try.underlying33 i2 i2s rfl rfl hx13 rfl (fun w hC => rd_row hC 0 rfl)) rfl ?_
          refine JL.gval rfl rfl (yl_loadT0 Go.Proofs.Try.underlying2 rfl rfl hx13 (fun w hC => rd_row hC 0 rfl) rfl) rfl ?_
          refine JL.gval rfl rfl (yl_move rfl) rfl ?_
          refine JL.gval rfl rfl (yl_neg rfl) rfl ?_
          refine JL.gval rfl rfl (yl_eql rfl rfl) rfl ?_
          refine JL.val (yl_pick_true rfl rfl) rfl ?_
          have he := Option.some.inj hres
          exact JL.weak [0] K ⟨rfl, rfl, rfl, rfl, rfl, rfl, (by rw [← he]; rfl), trivial⟩ (by decide) rfl
        · refine JL.set (d := 25) (v := .bool false) (congrArg (fun b => some (Value.bool b)) hb) ?_
          refine JL.gskip rfl rfl rfl rfl ?_
          refine JL.gskip rfl rfl rfl rfl ?_
          refine JL.gskip rfl rfl rfl rfl ?_
          refine JL.gskip rfl rfl rfl rfl ?_
          refine JL.gskip rfl rfl rfl rfl ?_
          refine JL.gskip rfl rfl rfl rfl ?_
          refine JL.gskip rfl rfl rfl rfl ?_
          refine JL.gskip rfl rfl rfl rfl ?_
          refine JL.val (yl_pick_false rfl rfl) rfl ?_
          have he := Option.some.inj hres
          exact JL.weak [0] K ⟨rfl, rfl, rfl, rfl, rfl, rfl, (by rw [← he]; rfl), trivial⟩ (by decide) rfl
    · refine JX.condF rfl hb ?_
      refine JX.exit ?_
      refine JE.qb rfl ?_
      obtain ⟨b1, hb1⟩ : ∃ b : List Int, b = x8 := ⟨_, rfl⟩
      have hy1 : b1 = y1 := by rw [hb1]; exact hox1 _ (Option.some.inj hres).symm
      have hres := hresO1
      rw [← hy1] at hres
      refine JE.weak (env' := [(6, .slice a9 b1.length cp10)]) (es' := [rowT 2 eI64 a9 b1.length cp10 b1]) [0] ?_ ⟨(by subst hb1; rfl), trivial⟩ (by decide) (by subst hb1; rfl)
      refine JE.code ?_
      refine JX.seq ?_
      refine JX.region ?_
      refine JL.val (yl_move rfl) rfl ?_
      refine JL.val (yl_assign rfl) rfl ?_
      refine JL.val (yl_assign rfl) rfl ?_
      refine JL.nil ?_
      refine JE.code ?_
      refine JX.ret ?_
      obtain rfl := Option.some.inj hres
      refine JE.ret (rs := [.tmp 4, .tmp 5]) (vs := [.slice a9 b1.length cp10, .int .i64 0]) rfl ⟨rfl, rfl, trivial⟩ ?_
      exact fun w' hb hs => ⟨_, _, ⟨a9, b1.length, cp10, rfl, rfl, rfl⟩, rfl, hb, hs.sel [0] _ (by decide) rfl⟩

end Go.Sh
