/- Walks through functions that the law reaches, printed by program. -/
import Derived.Test.YtnifcedmpilldaaF8W2
set_option linter.unusedVariables false
set_option linter.unusedSimpArgs false
namespace Go.Sh
open Go Go.RowKit
/- laws.FnStrokeTexts -/
def sh8 (q0 : List Int) : Option (Bool) := Option.bind (sh9 q0) fun x1 => bif x1 then (some true) else (Option.bind (sh78 q0) fun x2 => Option.bind (sh79 x2) fun x6 => Option.bind (sh80 x6) fun x7 => Option.bind (sh81 q0) fun x11 => Option.bind (sh80 x11) fun x12 => Option.bind (sh82 x11) fun x16 => Option.bind (sh83 q0) fun x20 => Option.bind (sh84 x20) fun x24 => Option.bind (sh85 x24) fun x25 => Option.bind (sh86 q0) fun x29 => Option.bind (sh85 x29) fun x30 => Option.bind (sh87 x29) fun x34 => Option.bind (sh88 x2) fun x38 => Option.bind (bif (x6.toList == x38.toList) && (x7.2 == (!(x6.toList == (ByteArray.mk #[]).toList))) then (Option.bind (bif !x7.2 then (some true) else (Option.bind (sh17 x7.1 x2) fun x41 => some x41)) fun cb40 => (some cb40)) else (some false)) fun cb39 => (Option.bind (bif cb39 && (x12.2 == x16.2) then (Option.bind (sh17 x12.1 x16.1) fun x43 => some x43) else (some false)) fun cb42 => (Option.bind (bif cb42 then (Option.bind (sh89 x20) fun x45 => some (x24.toList == x45.toList)) else (some false)) fun cb44 => (Option.bind (bif cb44 && (x25.2 == (!(x24.toList == (ByteArray.mk #[]).toList))) then (Option.bind (bif !x25.2 then (some true) else (Option.bind (sh17 x25.1 x20) fun x48 => some x48)) fun cb47 => (some cb47)) else (some false)) fun cb46 => (Option.bind (bif cb46 && (x30.2 == x34.2) then (Option.bind (sh17 x30.1 x34.1) fun x50 => some x50) else (some false)) fun cb49 => (some cb49))))))
def T8 (r : Bool) (v : Value) (rs : List Own) : Prop := v = rets [.bool r] ∧ rs = []
set_option maxRecDepth 100000 in
set_option maxHeartbeats 1000000 in
theorem c8 {w : World} {q0 : List Int} {a_0 : Option Addr} {n_0 c_0 : Nat} (g_0 : Rd w a_0 (eU8.fl q0)) (l_0 : q0.length = n_0) (k_0 : n_0 ≤ c_0) {r : Bool} (hres : sh8 q0 = some r) : Calls Go.Proofs.Try.prog 8 [.slice a_0 n_0 c_0].toArray w (Ret w (T8 r)) := by
  subst l_0
  unfold sh8 at hres
  refine calls_of (n := 125) (M := []) (es := []) Go.Proofs.Try.func8 rfl rfl rfl (Sep.nil _ _ _) ?_
  refine JX.seq ?_
  refine JX.region ?_
  refine JL.val (yl_assign rfl) rfl ?_
  refine JL.nil ?_
  refine JE.code ?_
  refine JX.seq ?_
  refine JX.seq ?_
  refine JX.region ?_
  refine JL.val (yl_move rfl) rfl ?_
  obtain ⟨x1, hx1, hres⟩ := bind_some hres
  refine JL.eff (ef_call (T := T9 x1) Go.Proofs.Try.func9 rfl (by kernel_rfl) rfl (fun w hC => c9 (rd_arg g_0 hC) rfl k_0 hx1)) rfl ?_
  rintro _ _ ⟨_, ⟨rfl, rfl⟩, rfl⟩
  refine JL.nil ?_
  refine JE.code ?_
  rcases cond_some hres with ⟨hb, hres⟩ | ⟨hb, hres⟩
  · refine JX.condT rfl hb ?_
    refine JX.seq ?_
    refine JX.region ?_
    refine JL.val (yl_assign rfl) rfl ?_
    refine JL.nil ?_
    refine JE.code ?_
    refine JX.ret ?_
    obtain rfl := Option.some.inj hres
    refine JE.ret (rs := [.tmp 2]) (vs := [.bool true]) rfl ⟨rfl, trivial⟩ ?_
    exact fun w' hb hs => ⟨_, _, ⟨rfl, rfl⟩, rfl, hb, hs.sel [] _ (by decide) rfl⟩
  · refine JX.condF rfl hb ?_
    refine JX.skip ?_
    refine JE.code ?_
    refine JX.seq ?_
    refine JX.region ?_
    refine JL.val (yl_move rfl) rfl ?_
    obtain ⟨x2, hx2, hres⟩ := bind_some hres
    refine JL.eff (ef_call (T := T78 x2) Go.Proofs.Try.func78 rfl (by kernel_rfl) rfl (fun w hC => c78 (rd_arg g_0 hC) rfl k_0 hx2)) rfl ?_
    rintro _ _ ⟨_, ⟨a3, _, cp4, rfl, rfl, rfl⟩, rfl⟩
    refine JL.val (yl_assign rfl) rfl ?_
    refine JL.nil ?_
    refine JE.code ?_
    refine JX.seq ?_
    refine JX.region ?_
    refine JL.val (yl_move rfl) rfl ?_
    obtain ⟨x6, hx6, hres⟩ := bind_some hres
    refine JL.eff (ef_call (T := T79 x6) Go.Proofs.Try.func79 rfl (by kernel_rfl) rfl (fun w hC => c79 (rd_row hC 0 rfl) rfl (ln_row hC 0 rfl) hx6)) rfl ?_
    rintro _ _ ⟨_, ⟨rfl, rfl⟩, rfl⟩
    refine JL.val (yl_assign rfl) rfl ?_
    refine JL.nil ?_
    refine JE.code ?_
    refine JX.seq ?_
    refine JX.region ?_
    refine JL.val (yl_move rfl) rfl ?_
    obtain ⟨x7, hx7, hres⟩ := bind_some hres
    refine JL.eff (ef_call (T := T80 x7) Go.Proofs.Try.func80 rfl (by kernel_rfl) rfl (fun w hC => c80  hx7)) rfl ?_
    rintro _ _ ⟨_, ⟨a8, _, cp9, rfl, rfl, rfl⟩, rfl⟩
    refine JL.val (yl_move rfl) rfl ?_
    refine JL.val (yl_extract rfl rfl) rfl ?_
    refine JL.val (yl_extract rfl rfl) rfl ?_
    refine JL.val (yl_assign rfl) rfl ?_
    refine JL.val (yl_assign rfl) rfl ?_
    refine JL.nil ?_
    refine JE.weak (env' := [(0, .slice a_0 q0.length c_0), (3, .slice a3 x2.length cp4), (4, .string x6), (5, .slice a8 x7.1.length cp9), (6, .bool x7.2)]) (es' := [rowT 42 eSPoint a3 x2.length cp4 x2, rowT 42 eSPoint a8 x7.1.length cp9 x7.1]) [0, 1] ?_ ⟨rfl, rfl, rfl, rfl, rfl, trivial⟩ (by decide) rfl
    refine JE.code ?_
    refine JX.seq ?_
    refine JX.region ?_
    refine JL.val (yl_move rfl) rfl ?_
    obtain ⟨x11, hx11, hres⟩ := bind_some hres
    refine JL.eff (ef_call (T := T81 x11) Go.Proofs.Try.func81 rfl (by kernel_rfl) rfl (fun w hC => c81 (rd_arg g_0 hC) rfl k_0 hx11)) rfl ?_
    rintro _ _ ⟨_, ⟨rfl, rfl⟩, rfl⟩
    refine JL.val (yl_assign rfl) rfl ?_
    refine JL.nil ?_
    refine JE.code ?_
    refine JX.seq ?_
    refine JX.region ?_
    refine JL.val (yl_move rfl) rfl ?_
    obtain ⟨x12, hx12, hres⟩ := bind_some hres
    refine JL.eff (ef_call (T := T80 x12) Go.Proofs.Try.func80 rfl (by kernel_rfl) rfl (fun w hC => c80  hx12)) rfl ?_
    rintro _ _ ⟨_, ⟨a13, _, cp14, rfl, rfl, rfl⟩, rfl⟩
    refine JL.val (yl_move rfl) rfl ?_
    refine JL.val (yl_extract rfl rfl) rfl ?_
    refine JL.val (yl_extract rfl rfl) rfl ?_
    refine JL.val (yl_assign rfl) rfl ?_
    refine JL.val (yl_assign rfl) rfl ?_
    refine JL.nil ?_
    refine JE.weak (env' := [(0, .slice a_0 q0.length c_0), (3, .slice a3 x2.length cp4), (4, .string x6), (5, .slice a8 x7.1.length cp9), (6, .bool x7.2), (7, .string x11), (8, .slice a13 x12.1.length cp14), (9, .bool x12.2)]) (es' := [rowT 42 eSPoint a3 x2.length cp4 x2, rowT 42 eSPoint a8 x7.1.length cp9 x7.1, rowT 42 eSPoint a13 x12.1.length cp14 x12.1]) [0, 1, 2] ?_ ⟨rfl, rfl, rfl, rfl, rfl, rfl, rfl, rfl, trivial⟩ (by decide) rfl
    refine JE.code ?_
    refine JX.seq ?_
    refine JX.region ?_
    refine JL.val (yl_move rfl) rfl ?_
    obtain ⟨x16, hx16, hres⟩ := bind_some hres
    refine JL.eff (ef_call (T := T82 x16) Go.Proofs.Try.func82 rfl (by kernel_rfl) rfl (fun w hC => c82  hx16)) rfl ?_
    rintro _ _ ⟨_, ⟨a17, _, cp18, rfl, rfl, rfl⟩, rfl⟩
    refine JL.val (yl_move rfl) rfl ?_
    refine JL.val (yl_extract rfl rfl) rfl ?_
    refine JL.val (yl_extract rfl rfl) rfl ?_
    refine JL.val (yl_assign rfl) rfl ?_
    refine JL.val (yl_assign rfl) rfl ?_
    refine JL.nil ?_
    refine JE.weak (env' := [(0, .slice a_0 q0.length c_0), (3, .slice a3 x2.length cp4), (4, .string x6), (5, .slice a8 x7.1.length cp9), (6, .bool x7.2), (8, .slice a13 x12.1.length cp14), (9, .bool x12.2), (10, .slice a17 x16.1.length cp18), (11, .bool x16.2)]) (es' := [rowT 42 eSPoint a3 x2.length cp4 x2, rowT 42 eSPoint a8 x7.1.length cp9 x7.1, rowT 42 eSPoint a13 x12.1.length cp14 x12.1, rowT 42 eSPoint a17 x16.1.length cp18 x16.1]) [0, 1, 2, 3] ?_ ⟨rfl, rfl, rfl, rfl, rfl, rfl, rfl, rfl, rfl, trivial⟩ (by decide) rfl
    refine JE.code ?_
    refine JX.seq ?_
    refine JX.region ?_
    refine JL.val (yl_move rfl) rfl ?_
    obtain ⟨x20, hx20, hres⟩ := bind_some hres
    refine JL.eff (ef_call (T := T83 x20) Go.Proofs.Try.func83 rfl (by kernel_rfl) rfl (fun w hC => c83 (rd_arg g_0 hC) rfl k_0 hx20)) rfl ?_
    rintro _ _ ⟨_, ⟨a21, _, cp22, rfl, rfl, rfl⟩, rfl⟩
    refine JL.val (yl_assign rfl) rfl ?_
    refine JL.nil ?_
    refine JE.code ?_
    refine JX.seq ?_
    refine JX.region ?_
    refine JL.val (yl_move rfl) rfl ?_
    obtain ⟨x24, hx24, hres⟩ := bind_some hres
    refine JL.eff (ef_call (T := T84 x24) Go.Proofs.Try.func84 rfl (by kernel_rfl) rfl (fun w hC => c84 (rd_row hC 4 rfl) rfl (ln_row hC 4 rfl) hx24)) rfl ?_
    rintro _ _ ⟨_, ⟨rfl, rfl⟩, rfl⟩
    refine JL.val (yl_assign rfl) rfl ?_
    refine JL.nil ?_
    refine JE.code ?_
    refine JX.seq ?_
    refine JX.region ?_
    refine JL.val (yl_move rfl) rfl ?_
    obtain ⟨x25, hx25, hres⟩ := bind_some hres
    refine JL.eff (ef_call (T := T85 x25) Go.Proofs.Try.func85 rfl (by kernel_rfl) rfl (fun w hC => c85  hx25)) rfl ?_
    rintro _ _ ⟨_, ⟨a26, _, cp27, rfl, rfl, rfl⟩, rfl⟩
    refine JL.val (yl_move rfl) rfl ?_
    refine JL.val (yl_extract rfl rfl) rfl ?_
    refine JL.val (yl_extract rfl rfl) rfl ?_
    refine JL.val (yl_assign rfl) rfl ?_
    refine JL.val (yl_assign rfl) rfl ?_
    refine JL.nil ?_
    refine JE.weak (env' := [(0, .slice a_0 q0.length c_0), (3, .slice a3 x2.length cp4), (4, .string x6), (5, .slice a8 x7.1.length cp9), (6, .bool x7.2), (8, .slice a13 x12.1.length cp14), (9, .bool x12.2), (10, .slice a17 x16.1.length cp18), (11, .bool x16.2), (12, .slice a21 x20.length cp22), (13, .string x24), (14, .slice a26 x25.1.length cp27), (15, .bool x25.2)]) (es' := [rowT 42 eSPoint a3 x2.length cp4 x2, rowT 42 eSPoint a8 x7.1.length cp9 x7.1, rowT 42 eSPoint a13 x12.1.length cp14 x12.1, rowT 42 eSPoint a17 x16.1.length cp18 x16.1, rowT 42 eSPoint a21 x20.length cp22 x20, rowT 42 eSPoint a26 x25.1.length cp27 x25.1]) [0, 1, 2, 3, 4, 5] ?_ ⟨rfl, rfl, rfl, rfl, rfl, rfl, rfl, rfl, rfl, rfl, rfl, rfl, rfl, trivial⟩ (by decide) rfl
    refine JE.code ?_
    refine JX.seq ?_
    refine JX.region ?_
    refine JL.val (yl_move rfl) rfl ?_
    obtain ⟨x29, hx29, hres⟩ := bind_some hres
    refine JL.eff (ef_call (T := T86 x29) Go.Proofs.Try.func86 rfl (by kernel_rfl) rfl (fun w hC => c86 (rd_arg g_0 hC) rfl k_0 hx29)) rfl ?_
    rintro _ _ ⟨_, ⟨rfl, rfl⟩, rfl⟩
    refine JL.val (yl_assign rfl) rfl ?_
    refine JL.nil ?_
    refine JE.code ?_
    refine JX.seq ?_
    refine JX.region ?_
    refine JL.val (yl_move rfl) rfl ?_
    obtain ⟨x30, hx30, hres⟩ := bind_some hres
    refine JL.eff (ef_call (T := T85 x30) Go.Proofs.Try.func85 rfl (by kernel_rfl) rfl (fun w hC => c85  hx30)) rfl ?_
    rintro _ _ ⟨_, ⟨a31, _, cp32, rfl, rfl, rfl⟩, rfl⟩
    refine JL.val (yl_move rfl) rfl ?_
    refine JL.val (yl_extract rfl rfl) rfl ?_
    refine JL.val (yl_extract rfl rfl) rfl ?_
    refine JL.val (yl_assign rfl) rfl ?_
    refine JL.val (yl_assign rfl) rfl ?_
    refine JL.nil ?_
    refine JE.weak (env' := [(3, .slice a3 x2.length cp4), (4, .string x6), (5, .slice a8 x7.1.length cp9), (6, .bool x7.2), (8, .slice a13 x12.1.length cp14), (9, .bool x12.2), (10, .slice a17 x16.1.length cp18), (11, .bool x16.2), (12, .slice a21 x20.length cp22), (13, .string x24), (14, .slice a26 x25.1.length cp27), (15, .bool x25.2), (16, .string x29), (17, .slice a31 x30.1.length cp32), (18, .bool x30.2)]) (es' := [rowT 42 eSPoint a3 x2.length cp4 x2, rowT 42 eSPoint a8 x7.1.length cp9 x7.1, rowT 42 eSPoint a13 x12.1.length cp14 x12.1, rowT 42 eSPoint a17 x16.1.length cp18 x16.1, rowT 42 eSPoint a21 x20.length cp22 x20, rowT 42 eSPoint a26 x25.1.length cp27 x25.1, rowT 42 eSPoint a31 x30.1.length cp32 x30.1]) [0, 1, 2, 3, 4, 5, 6] ?_ ⟨rfl, rfl, rfl, rfl, rfl, rfl, rfl, rfl, rfl, rfl, rfl, rfl, rfl, rfl, rfl, trivial⟩ (by decide) rfl
    refine JE.code ?_
    refine JX.seq ?_
    refine JX.region ?_
    refine JL.val (yl_move rfl) rfl ?_
    obtain ⟨x34, hx34, hres⟩ := bind_some hres
    refine JL.eff (ef_call (T := T87 x34) Go.Proofs.Try.func87 rfl (by kernel_rfl) rfl (fun w hC => c87  hx34)) rfl ?_
    rintro _ _ ⟨_, ⟨a35, _, cp36, rfl, rfl, rfl⟩, rfl⟩
    refine JL.val (yl_move rfl) rfl ?_
    refine JL.val (yl_extract rfl rfl) rfl ?_
    refine JL.val (yl_extract rfl rfl) rfl ?_
    refine JL.val (yl_assign rfl) rfl ?_
    refine JL.val (yl_assign rfl) rfl ?_
    refine JL.nil ?_
    refine JE.weak (env' := [(3, .slice a3 x2.length cp4), (4, .string x6), (5, .slice a8 x7.1.length cp9), (6, .bool x7.2), (8, .slice a13 x12.1.length cp14), (9, .bool x12.2), (10, .slice a17 x16.1.length cp18), (11, .bool x16.2), (12, .slice a21 x20.length cp22), (13, .string x24), (14, .slice a26 x25.1.length cp27), (15, .bool x25.2), (17, .slice a31 x30.1.length cp32), (18, .bool x30.2), (19, .slice a35 x34.1.length cp36), (20, .bool x34.2)]) (es' := [rowT 42 eSPoint a3 x2.length cp4 x2, rowT 42 eSPoint a8 x7.1.length cp9 x7.1, rowT 42 eSPoint a13 x12.1.length cp14 x12.1, rowT 42 eSPoint a17 x16.1.length cp18 x16.1, rowT 42 eSPoint a21 x20.length cp22 x20, rowT 42 eSPoint a26 x25.1.length cp27 x25.1, rowT 42 eSPoint a31 x30.1.length cp32 x30.1, rowT 42 eSPoint a35 x34.1.length cp36 x34.1]) [0, 1, 2, 3, 4, 5, 6, 7] ?_ ⟨rfl, rfl, rfl, rfl, rfl, rfl, rfl, rfl, rfl, rfl, rfl, rfl, rfl, rfl, rfl, rfl, trivial⟩ (by decide) rfl
    refine JE.code ?_
    refine JX.seq ?_
    refine JX.region ?_
    refine JL.val (yl_move rfl) rfl ?_
    refine JL.val (yl_move rfl) rfl ?_
    obtain ⟨x38, hx38, hres⟩ := bind_some hres
    refine JL.eff (ef_call (T := T88 x38) Go.Proofs.Try.func88 rfl (by kernel_rfl) rfl (fun w hC => c88 (rd_row hC 0 rfl) rfl (ln_row hC 0 rfl) hx38)) rfl ?_
    rintro _ _ ⟨_, ⟨rfl, rfl⟩, rfl⟩
    refine JL.val (yl_seql rfl rfl) rfl ?_
    refine JL.val (yl_move rfl) rfl ?_
    refine JL.cut (K := fun J => J [(3, .slice a3 x2.length cp4), (5, .slice a8 x7.1.length cp9), (6, .bool x7.2), (8, .slice a13 x12.1.length cp14), (9, .bool x12.2), (10, .slice a17 x16.1.length cp18), (11, .bool x16.2), (12, .slice a21 x20.length cp22), (13, .string x24), (14, .slice a26 x25.1.length cp27), (15, .bool x25.2), (17, .slice a31 x30.1.length cp32), (18, .bool x30.2), (19, .slice a35 x34.1.length cp36), (20, .bool x34.2), (74, .bool ((x6.toList == x38.toList) && (x7.2 == (!(x6.toList == (ByteArray.mk #[]).toList)))))] [rowT 42 eSPoint a3 x2.length cp4 x2, rowT 42 eSPoint a8 x7.1.length cp9 x7.1, rowT 42 eSPoint a13 x12.1.length cp14 x12.1, rowT 42 eSPoint a17 x16.1.length cp18 x16.1, rowT 42 eSPoint a21 x20.length cp22 x20, rowT 42 eSPoint a26 x25.1.length cp27 x25.1, rowT 42 eSPoint a31 x30.1.length cp32 x30.1, rowT 42 eSPoint a35 x34.1.length cp36 x34.1]) 5 ?_ ?_
    · refine JL.val (yl_move rfl) rfl ?_
      obtain ⟨cb39, hcb39, hres⟩ := bind_some hres
      refine JL.cut (K := fun J => J [(8, .slice a13 x12.1.length cp14), (9, .bool x12.2), (10, .slice a17 x16.1.length cp18), (11, .bool x16.2), (12, .slice a21 x20.length cp22), (13, .string x24), (14, .slice a26 x25.1.length cp27), (15, .bool x25.2), (17, .slice a31 x30.1.length cp32), (18, .bool x30.2), (19, .slice a35 x34.1.length cp36), (20, .bool x34.2), (83, .bool cb39)] [rowT 42 eSPoint a13 x12.1.length cp14 x12.1, rowT 42 eSPoint a17 x16.1.length cp18 x16.1, rowT 42 eSPoint a21 x20.length cp22 x20, rowT 42 eSPoint a26 x25.1.length cp27 x25.1, rowT 42 eSPoint a31 x30.1.length cp32 x30.1, rowT 42 eSPoint a35 x34.1.length cp36 x34.1]) 8 ?_ ?_
      · refine JL.val (yl_move rfl) rfl ?_
        refine JL.cut (K := fun J => J [(8, .slice a13 x12.1.length cp14), (10, .slice a17 x16.1.length cp18), (12, .slice a21 x20.length cp22), (13, .string x24), (14, .slice a26 x25.1.length cp27), (15, .bool x25.2), (17, .slice a31 x30.1.length cp32), (18, .bool x30.2), (19, .slice a35 x34.1.length cp36), (20, .bool x34.2), (88, .bool (cb39 && (x12.2 == x16.2)))] [rowT 42 eSPoint a13 x12.1.length cp14 x12.1, rowT 42 eSPoint a17 x16.1.length cp18 x16.1, rowT 42 eSPoint a21 x20.length cp22 x20, rowT 42 eSPoint a26 x25.1.length cp27 x25.1, rowT 42 eSPoint a31 x30.1.length cp32 x30.1, rowT 42 eSPoint a35 x34.1.length cp36 x34.1]) 4 ?_ ?_
        · refine JL.val (yl_move rfl) rfl ?_
          obtain ⟨cb42, hcb42, hres⟩ := bind_some hres
          refine JL.cut (K := fun J => J [(12, .slice a21 x20.length cp22), (13, .string x24), (14, .slice a26 x25.1.length cp27), (15, .bool x25.2), (17, .slice a31 x30.1.length cp32), (18, .bool x30.2), (19, .slice a35 x34.1.length cp36), (20, .bool x34.2), (93, .bool cb42)] [rowT 42 eSPoint a21 x20.length cp22 x20, rowT 42 eSPoint a26 x25.1.length cp27 x25.1, rowT 42 eSPoint a31 x30.1.length cp32 x30.1, rowT 42 eSPoint a35 x34.1.length cp36 x34.1]) 4 ?_ ?_
          · refine JL.val (yl_move rfl) rfl ?_
            obtain ⟨cb44, hcb44, hres⟩ := bind_some hres
            refine JL.cut (K := fun J => J [(12, .slice a21 x20.length cp22), (13, .string x24), (14, .slice a26 x25.1.length cp27), (15, .bool x25.2), (17, .slice a31 x30.1.length cp32), (18, .bool x30.2), (19, .slice a35 x34.1.length cp36), (20, .bool x34.2), (99, .bool cb44)] [rowT 42 eSPoint a21 x20.length cp22 x20, rowT 42 eSPoint a26 x25.1.length cp27 x25.1, rowT 42 eSPoint a31 x30.1.length cp32 x30.1, rowT 42 eSPoint a35 x34.1.length cp36 x34.1]) 5 ?_ ?_
            · refine JL.val (yl_move rfl) rfl ?_
              refine JL.cut (K := fun J => J [(12, .slice a21 x20.length cp22), (14, .slice a26 x25.1.length cp27), (15, .bool x25.2), (17, .slice a31 x30.1.length cp32), (18, .bool x30.2), (19, .slice a35 x34.1.length cp36), (20, .bool x34.2), (105, .bool (cb44 && (x25.2 == (!(x24.toList == (ByteArray.mk #[]).toList)))))] [rowT 42 eSPoint a21 x20.length cp22 x20, rowT 42 eSPoint a26 x25.1.length cp27 x25.1, rowT 42 eSPoint a31 x30.1.length cp32 x30.1, rowT 42 eSPoint a35 x34.1.length cp36 x34.1]) 5 ?_ ?_
              · refine JL.val (yl_move rfl) rfl ?_
                obtain ⟨cb46, hcb46, hres⟩ := bind_some hres
                refine JL.cut (K := fun J => J [(17, .slice a31 x30.1.length cp32), (18, .bool x30.2), (19, .slice a35 x34.1.length cp36), (20, .bool x34.2), (114, .bool cb46)] [rowT 42 eSPoint a31 x30.1.length cp32 x30.1, rowT 42 eSPoint a35 x34.1.length cp36 x34.1]) 8 ?_ ?_
                · refine JL.val (yl_move rfl) rfl ?_
                  refine JL.cut (K := fun J => J [(17, .slice a31 x30.1.length cp32), (19, .slice a35 x34.1.length cp36), (119, .bool (cb46 && (x30.2 == x34.2)))] [rowT 42 eSPoint a31 x30.1.length cp32 x30.1, rowT 42 eSPoint a35 x34.1.length cp36 x34.1]) 4 ?_ ?_
                  · refine JL.val (yl_move rfl) rfl ?_
                    obtain ⟨cb49, hcb49, hres⟩ := bind_some hres
                    refine JL.cut (K := fun J => J [(124, .bool cb49)] []) 4 ?_ ?_
                    · refine JL.val (yl_assign rfl) rfl ?_
                      refine JL.nil ?_
                      refine JE.weak (env' := [(2, .bool cb49)]) (es' := []) [] ?_ ⟨rfl, trivial⟩ (by decide) rfl
                      refine JE.code ?_
                      refine JX.ret ?_
                      obtain rfl := Option.some.inj hres
                      refine JE.ret (rs := [.tmp 2]) (vs := [.bool cb49]) rfl ⟨rfl, trivial⟩ ?_
                      exact fun w' hb hs => ⟨_, _, ⟨rfl, rfl⟩, rfl, hb, hs.sel [] _ (by decide) rfl⟩
                    · intro K
                      rcases cond_some hcb49 with ⟨hb, hres⟩ | ⟨hb, hres⟩
                      · refine JL.set (d := 120) (v := .bool true) (congrArg (fun b => some (Value.bool b)) hb) ?_
                        refine JL.gval rfl rfl (yl_move rfl) rfl ?_
                        refine JL.gval rfl rfl (yl_move rfl) rfl ?_
                        obtain ⟨x50, hx50, hres⟩ := bind_some hres
                        refine JL.geff rfl rfl (ef_call (T := T17 x50) Go.Proofs.Try.func17 rfl (by kernel_rfl) rfl (fun w hC => c17 (rd_row hC 0 rfl) rfl (ln_row hC 0 rfl) (rd_row hC 1 rfl) rfl (ln_row hC 1 rfl) hx50)) rfl ?_
                        rintro _ _ ⟨_, ⟨rfl, rfl⟩, rfl⟩
                        refine JL.val (yl_pick_true rfl rfl) rfl ?_
                        have he := Option.some.inj hres
                        exact JL.weak [] K ⟨(by rw [← he]; rfl), trivial⟩ (by decide) rfl
                      · refine JL.set (d := 120) (v := .bool false) (congrArg (fun b => some (Value.bool b)) hb) ?_
                        refine JL.gskip rfl rfl rfl rfl ?_
                        refine JL.gskip rfl rfl rfl rfl ?_
                        refine JL.gskip rfl rfl rfl rfl ?_
                        refine JL.val (yl_pick_false rfl rfl) rfl ?_
                        have he := Option.some.inj hres
                        exact JL.weak [] K ⟨(by rw [← he]; rfl), trivial⟩ (by decide) rfl
                  · intro K
                    rcases Bool.eq_false_or_eq_true (cb46) with hb | hb
                    · refine JL.set (d := 115) (v := .bool true) (congrArg (fun b => some (Value.bool b)) hb) ?_
                      refine JL.gval rfl rfl (yl_move rfl) rfl ?_
                      refine JL.gval rfl rfl (yl_move rfl) rfl ?_
                      refine JL.gval rfl rfl (yl_beql Go.Proofs.Try.underlying4 rfl rfl) rfl ?_
                      refine JL.val (yl_pick_true rfl rfl) rfl ?_
                      exact JL.weak [0, 1] K ⟨rfl, rfl, (by rw [hb]; rfl), trivial⟩ (by decide) rfl
                    · refine JL.set (d := 115) (v := .bool false) (congrArg (fun b => some (Value.bool b)) hb) ?_
                      refine JL.gskip rfl rfl rfl rfl ?_
                      refine JL.gskip rfl rfl rfl rfl ?_
                      refine JL.gskip rfl rfl rfl rfl ?_
                      refine JL.val (yl_pick_false rfl rfl) rfl ?_
                      exact JL.weak [0, 1] K ⟨rfl, rfl, (by rw [hb]; rfl), trivial⟩ (by decide) rfl
                · intro K
                  rcases cond_some hcb46 with ⟨hb, hres⟩ | ⟨hb, hres⟩
                  · refine JL.set (d := 106) (v := .bool true) (congrArg (fun b => some (Value.bool b)) hb) ?_
                    refine JL.gval rfl rfl (yl_move rfl) rfl ?_
                    refine JL.gval rfl rfl (yl_not rfl) rfl ?_
                    refine JL.gval rfl rfl (yl_move rfl) rfl ?_
                    obtain ⟨cb47, hcb47, hres⟩ := bind_some hres
                    refine JL.cut (K := fun J => J [(17, .slice a31 x30.1.length cp32), (18, .bool x30.2), (19, .slice a35 x34.1.length cp36), (20, .bool x34.2), (106, .bool true), (113, .bool cb47)] [rowT 42 eSPoint a31 x30.1.length cp32 x30.1, rowT 42 eSPoint a35 x34.1.length cp36 x34.1]) 4 ?_ ?_
                    · refine JL.val (yl_pick_true rfl rfl) rfl ?_
                      have he := Option.some.inj hres
                      exact JL.weak [0, 1] K ⟨rfl, rfl, rfl, rfl, (by rw [← he]; rfl), trivial⟩ (by decide) rfl
                    · intro K
                      rcases cond_some hcb47 with ⟨hb, hres⟩ | ⟨hb, hres⟩
                      · refine JL.set (d := 109) (v := .bool true) (congrArg (fun b => some (Value.bool b)) hb) ?_
                        refine JL.gskip rfl rfl rfl rfl ?_
                        refine JL.gskip rfl rfl rfl rfl ?_
                        refine JL.gskip rfl rfl rfl rfl ?_
                        refine JL.gval rfl rfl (yl_pick_true rfl rfl) rfl ?_
                        have he := Option.some.inj hres
                        exact JL.weak [2, 3] K ⟨rfl, rfl, rfl, rfl, rfl, (by rw [← he]; rfl), trivial⟩ (by decide) rfl
                      · refine JL.set (d := 109) (v := .bool false) (congrArg (fun b => some (Value.bool b)) hb) ?_
                        refine JL.gval rfl rfl (yl_move rfl) rfl ?_
                        refine JL.gval rfl rfl (yl_move rfl) rfl ?_
                        obtain ⟨x48, hx48, hres⟩ := bind_some hres
                        refine JL.geff rfl rfl (ef_call (T := T17 x48) Go.Proofs.Try.func17 rfl (by kernel_rfl) rfl (fun w hC => c17 (rd_row hC 1 rfl) rfl (ln_row hC 1 rfl) (rd_row hC 0 rfl) rfl (ln_row hC 0 rfl) hx48)) rfl ?_
                        rintro _ _ ⟨_, ⟨rfl, rfl⟩, rfl⟩
                        refine JL.gval rfl rfl (yl_pick_false rfl rfl) rfl ?_
                        have he := Option.some.inj hres
                        exact JL.weak [2, 3] K ⟨rfl, rfl, rfl, rfl, rfl, (by rw [← he]; rfl), trivial⟩ (by decide) rfl
                  · refine JL.set (d := 106) (v := .bool false) (congrArg (fun b => some (Value.bool b)) hb) ?_
                    refine JL.gskip rfl rfl rfl rfl ?_
                    refine JL.gskip rfl rfl rfl rfl ?_
                    refine JL.gskip rfl rfl rfl rfl ?_
                    refine JL.gnone rfl rfl rfl ?_
                    refine JL.gnone rfl rfl rfl ?_
                    refine JL.gnone rfl rfl rfl ?_
                    refine JL.gskip rfl rfl rfl rfl ?_
                    refine JL.val (yl_pick_false rfl rfl) rfl ?_
                    have he := Option.some.inj hres
                    exact JL.weak [2, 3] K ⟨rfl, rfl, rfl, rfl, (by rw [← he]; rfl), trivial⟩ (by decide) rfl
              · intro K
                rcases Bool.eq_false_or_eq_true (cb44) with hb | hb
                · refine JL.set (d := 100) (v := .bool true) (congrArg (fun b => some (Value.bool b)) hb) ?_
                  refine JL.gval rfl rfl (yl_move rfl) rfl ?_
                  refine JL.gval rfl rfl (yl_move rfl) rfl ?_
                  refine JL.gval rfl rfl (yl_sneq rfl rfl) rfl ?_
                  refine JL.gval rfl rfl (yl_beql Go.Proofs.Try.underlying4 rfl rfl) rfl ?_
                  refine JL.val (yl_pick_true rfl rfl) rfl ?_
                  exact JL.weak [0, 1, 2, 3] K ⟨rfl, rfl, rfl, rfl, rfl, rfl, rfl, (by rw [hb]; rfl), trivial⟩ (by decide) rfl
                · refine JL.set (d := 100) (v := .bool false) (congrArg (fun b => some (Value.bool b)) hb) ?_
                  refine JL.gskip rfl rfl rfl rfl ?_
                  refine JL.gskip rfl rfl rfl rfl ?_
                  refine JL.gskip rfl rfl rfl rfl ?_
                  refine JL.gskip rfl rfl rfl rfl ?_
                  refine JL.val (yl_pick_false rfl rfl) rfl ?_
                  exact JL.weak [0, 1, 2, 3] K ⟨rfl, rfl, rfl, rfl, rfl, rfl, rfl, (by rw [hb]; rfl), trivial⟩ (by decide) rfl
            · intro K
              rcases cond_some hcb44 with ⟨hb, hres⟩ | ⟨hb, hres⟩
              · refine JL.set (d := 94) (v := .bool true) (congrArg (fun b => some (Value.bool b)) hb) ?_
                refine JL.gval rfl rfl (yl_move rfl) rfl ?_
                refine JL.gval rfl rfl (yl_move rfl) rfl ?_
                obtain ⟨x45, hx45, hres⟩ := bind_some hres
                refine JL.geff rfl rfl (ef_call (T := T89 x45) Go.Proofs.Try.func89 rfl (by kernel_rfl) rfl (fun w hC => c89 (rd_row hC 0 rfl) rfl (ln_row hC 0 rfl) hx45)) rfl ?_
                rintro _ _ ⟨_, ⟨rfl, rfl⟩, rfl⟩
                refine JL.gval rfl rfl (yl_seql rfl rfl) rfl ?_
                refine JL.val (yl_pick_true rfl rfl) rfl ?_
                have he := Option.some.inj hres
                exact JL.weak [0, 1, 2, 3] K ⟨rfl, rfl, rfl, rfl, rfl, rfl, rfl, rfl, (by rw [← he]; rfl), trivial⟩ (by decide) rfl
              · refine JL.set (d := 94) (v := .bool false) (congrArg (fun b => some (Value.bool b)) hb) ?_
                refine JL.gskip rfl rfl rfl rfl ?_
                refine JL.gskip rfl rfl rfl rfl ?_
                refine JL.gskip rfl rfl rfl rfl ?_
                refine JL.gskip rfl rfl rfl rfl ?_
                refine JL.val (yl_pick_false rfl rfl) rfl ?_
                have he := Option.some.inj hres
                exact JL.weak [0, 1, 2, 3] K ⟨rfl, rfl, rfl, rfl, rfl, rfl, rfl, rfl, (by rw [← he]; rfl), trivial⟩ (by decide) rfl
          · intro K
            rcases cond_some hcb42 with ⟨hb, hres⟩ | ⟨hb, hres⟩
            · refine JL.set (d := 89) (v := .bool true) (congrArg (fun b => some (Value.bool b)) hb) ?_
              refine JL.gval rfl rfl (yl_move rfl) rfl ?_
              refine JL.gval rfl rfl (yl_move rfl) rfl ?_
              obtain ⟨x43, hx43, hres⟩ := bind_some hres
              refine JL.geff rfl rfl (ef_call (T := T17 x43) Go.Proofs.Try.func17 rfl (by kernel_rfl) rfl (fun w hC => c17 (rd_row hC 0 rfl) rfl (ln_row hC 0 rfl) (rd_row hC 1 rfl) rfl (ln_row hC 1 rfl) hx43)) rfl ?_
              rintro _ _ ⟨_, ⟨rfl, rfl⟩, rfl⟩
              refine JL.val (yl_pick_true rfl rfl) rfl ?_
              have he := Option.some.inj hres
              exact JL.weak [2, 3, 4, 5] K ⟨rfl, rfl, rfl, rfl, rfl, rfl, rfl, rfl, (by rw [← he]; rfl), trivial⟩ (by decide) rfl
            · refine JL.set (d := 89) (v := .bool false) (congrArg (fun b => some (Value.bool b)) hb) ?_
              refine JL.gskip rfl rfl rfl rfl ?_
              refine JL.gskip rfl rfl rfl rfl ?_
              refine JL.gskip rfl rfl rfl rfl ?_
              refine JL.val (yl_pick_false rfl rfl) rfl ?_
              have he := Option.some.inj hres
              exact JL.weak [2, 3, 4, 5] K ⟨rfl, rfl, rfl, rfl, rfl, rfl, rfl, rfl, (by rw [← he]; rfl), trivial⟩ (by decide) rfl
        · intro K
          rcases Bool.eq_false_or_eq_true (cb39) with hb | hb
          · refine JL.set (d := 84) (v := .bool true) (congrArg (fun b => some (Value.bool b)) hb) ?_
            refine JL.gval rfl rfl (yl_move rfl) rfl ?_
            refine JL.gval rfl rfl (yl_move rfl) rfl ?_
            refine JL.gval rfl rfl (yl_beql Go.Proofs.Try.underlying4 rfl rfl) rfl ?_
            refine JL.val (yl_pick_true rfl rfl) rfl ?_
            exact JL.weak [0, 1, 2, 3, 4, 5] K ⟨rfl, rfl, rfl, rfl, rfl, rfl, rfl, rfl, rfl, rfl, (by rw [hb]; rfl), trivial⟩ (by decide) rfl
          · refine JL.set (d := 84) (v := .bool false) (congrArg (fun b => some (Value.bool b)) hb) ?_
            refine JL.gskip rfl rfl rfl rfl ?_
            refine JL.gskip rfl rfl rfl rfl ?_
            refine JL.gskip rfl rfl rfl rfl ?_
            refine JL.val (yl_pick_false rfl rfl) rfl ?_
            exact JL.weak [0, 1, 2, 3, 4, 5] K ⟨rfl, rfl, rfl, rfl, rfl, rfl, rfl, rfl, rfl, rfl, (by rw [hb]; rfl), trivial⟩ (by decide) rfl
      · intro K
        rcases cond_some hcb39 with ⟨hb, hres⟩ | ⟨hb, hres⟩
        · refine JL.set (d := 75) (v := .bool true) (congrArg (fun b => some (Value.bool b)) hb) ?_
          refine JL.gval rfl rfl (yl_move rfl) rfl ?_
          refine JL.gval rfl rfl (yl_not rfl) rfl ?_
          refine JL.gval rfl rfl (yl_move rfl) rfl ?_
          obtain ⟨cb40, hcb40, hres⟩ := bind_some hres
          refine JL.cut (K := fun J => J [(8, .slice a13 x12.1.length cp14), (9, .bool x12.2), (10, .slice a17 x16.1.length cp18), (11, .bool x16.2), (12, .slice a21 x20.length cp22), (13, .string x24), (14, .slice a26 x25.1.length cp27), (15, .bool x25.2), (17, .slice a31 x30.1.length cp32), (18, .bool x30.2), (19, .slice a35 x34.1.length cp36), (20, .bool x34.2), (75, .bool true), (82, .bool cb40)] [rowT 42 eSPoint a13 x12.1.length cp14 x12.1, rowT 42 eSPoint a17 x16.1.length cp18 x16.1, rowT 42 eSPoint a21 x20.length cp22 x20, rowT 42 eSPoint a26 x25.1.length cp27 x25.1, rowT 42 eSPoint a31 x30.1.length cp32 x30.1, rowT 42 eSPoint a35 x34.1.length cp36 x34.1]) 4 ?_ ?_
          · refine JL.val (yl_pick_true rfl rfl) rfl ?_
            have he := Option.some.inj hres
            exact JL.weak [0, 1, 2, 3, 4, 5] K ⟨rfl, rfl, rfl, rfl, rfl, rfl, rfl, rfl, rfl, rfl, rfl, rfl, (by rw [← he]; rfl), trivial⟩ (by decide) rfl
          · intro K
            rcases cond_some hcb40 with ⟨hb, hres⟩ | ⟨hb, hres⟩
            · refine JL.set (d := 78) (v := .bool true) (congrArg (fun b => some (Value.bool b)) hb) ?_
              refine JL.gskip rfl rfl rfl rfl ?_
              refine JL.gskip rfl rfl rfl rfl ?_
              refine JL.gskip rfl rfl rfl rfl ?_
              refine JL.gval rfl rfl (yl_pick_true rfl rfl) rfl ?_
              have he := Option.some.inj hres
              exact JL.weak [2, 3, 4, 5, 6, 7] K ⟨rfl, rfl, rfl, rfl, rfl, rfl, rfl, rfl, rfl, rfl, rfl, rfl, rfl, (by rw [← he]; rfl), trivial⟩ (by decide) rfl
            · refine JL.set (d := 78) (v := .bool false) (congrArg (fun b => some (Value.bool b)) hb) ?_
              refine JL.gval rfl rfl (yl_move rfl) rfl ?_
              refine JL.gval rfl rfl (yl_move rfl) rfl ?_
              obtain ⟨x41, hx41, hres⟩ := bind_some hres
              refine JL.geff rfl rfl (ef_call (T := T17 x41) Go.Proofs.Try.func17 rfl (by kernel_rfl) rfl (fun w hC => c17 (rd_row hC 1 rfl) rfl (ln_row hC 1 rfl) (rd_row hC 0 rfl) rfl (ln_row hC 0 rfl) hx41)) rfl ?_
              rintro _ _ ⟨_, ⟨rfl, rfl⟩, rfl⟩
              refine JL.gval rfl rfl (yl_pick_false rfl rfl) rfl ?_
              have he := Option.some.inj hres
              exact JL.weak [2, 3, 4, 5, 6, 7] K ⟨rfl, rfl, rfl, rfl, rfl, rfl, rfl, rfl, rfl, rfl, rfl, rfl, rfl, (by rw [← he]; rfl), trivial⟩ (by decide) rfl
        · refine JL.set (d := 75) (v := .bool false) (congrArg (fun b => some (Value.bool b)) hb) ?_
          refine JL.gskip rfl rfl rfl rfl ?_
          refine JL.gskip rfl rfl rfl rfl ?_
          refine JL.gskip rfl rfl rfl rfl ?_
          refine JL.gnone rfl rfl rfl ?_
          refine JL.gnone rfl rfl rfl ?_
          refine JL.gnone rfl rfl rfl ?_
          refine JL.gskip rfl rfl rfl rfl ?_
          refine JL.val (yl_pick_false rfl rfl) rfl ?_
          have he := Option.some.inj hres
          exact JL.weak [2, 3, 4, 5, 6, 7] K ⟨rfl, rfl, rfl, rfl, rfl, rfl, rfl, rfl, rfl, rfl, rfl, rfl, (by rw [← he]; rfl), trivial⟩ (by decide) rfl
    · intro K
      rcases Bool.eq_false_or_eq_true (x6.toList == x38.toList) with hb | hb
      · refine JL.set (d := 69) (v := .bool true) (congrArg (fun b => some (Value.bool b)) hb) ?_
        refine JL.gval rfl rfl (yl_move rfl) rfl ?_
        refine JL.gval rfl rfl (yl_move rfl) rfl ?_
        refine JL.gval rfl rfl (yl_sneq rfl rfl) rfl ?_
        refine JL.gval rfl rfl (yl_beql Go.Proofs.Try.underlying4 rfl rfl) rfl ?_
        refine JL.val (yl_pick_true rfl rfl) rfl ?_
        exact JL.weak [0, 1, 2, 3, 4, 5, 6, 7] K ⟨rfl, rfl, rfl, rfl, rfl, rfl, rfl, rfl, rfl, rfl, rfl, rfl, rfl, rfl, rfl, (by rw [hb]; rfl), trivial⟩ (by decide) rfl
      · refine JL.set (d := 69) (v := .bool false) (congrArg (fun b => some (Value.bool b)) hb) ?_
        refine JL.gskip rfl rfl rfl rfl ?_
        refine JL.gskip rfl rfl rfl rfl ?_
        refine JL.gskip rfl rfl rfl rfl ?_
        refine JL.gskip rfl rfl rfl rfl ?_
        refine JL.val (yl_pick_false rfl rfl) rfl ?_
        exact JL.weak [0, 1, 2, 3, 4, 5, 6, 7] K ⟨rfl, rfl, rfl, rfl, rfl, rfl, rfl, rfl, rfl, rfl, rfl, rfl, rfl, rfl, rfl, (by rw [hb]; rfl), trivial⟩ (by decide) rfl

end Go.Sh
