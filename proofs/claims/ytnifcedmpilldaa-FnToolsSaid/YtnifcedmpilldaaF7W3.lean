/- Walks through functions that the law reaches, printed by program. -/
import Derived.Test.YtnifcedmpilldaaF7W2
set_option linter.unusedVariables false
set_option linter.unusedSimpArgs false
namespace Go.Sh
open Go Go.RowKit
/- laws.FnTools -/
def sh7_1 (x2 : List SToolMove × Int) (x6 : List SToolMove × Int) : Int → Option (Int ⊕ (Unit ⊕ Bool))
  | x54 => bif decide (x54 < (x2.1.length : Int)) then (Option.bind (getI x6.1 (w64 ((w64 ((x6.1.length : Int) - (x2.1.length : Int))) + x54))) fun x56 => Option.bind (getI x2.1 x54) fun x57 => bif !(((x56.X == x57.X) && ((x56.Y == x57.Y) && ((x56.Z == x57.Z) && true)))) then (some (.inr (.inr false))) else (some (.inl (w64 (x54 + 1))))) else (some (.inr (.inl ())))
def sh7 (q0 : List Int) : Option (Bool) := Option.bind (sh9 q0) fun x1 => bif x1 then (some true) else (Option.bind (sh64 q0) fun x2 => Option.bind (sh65 x2.1 x2.2) fun x6 => Option.bind (sh66 x2.1 x2.2) fun x10 => Option.bind (sh67 q0) fun x14 => Option.bind (sh63 x14) fun x18 => Option.bind (sh68 x14) fun x19 => Option.bind (sh69 q0) fun x20 => Option.bind (sh70 x20) fun x24 => Option.bind (sh71 x20) fun x25 => Option.bind (sh72 q0) fun x26 => Option.bind (sh73 x26) fun x30 => Option.bind (sh74 x30) fun x31 => Option.bind (sh75 q0) fun x35 => Option.bind (sh74 x35) fun x36 => Option.bind (sh76 x35) fun x40 => Option.bind (bif x6.2 != x10.2 then (some true) else (Option.bind (sh61 x6.1 x10.1) fun x45 => some !x45)) fun cb44 => (Option.bind (bif (((cb44 || (x18.2 != x19.2)) || (x18.1 != x19.1)) || (x24.2 != x25.2)) || (x24.1 != x25.1) then (some true) else (Option.bind (sh77 x26) fun x47 => some (!(x30.toList == x47.toList)))) fun cb46 => (Option.bind (bif cb46 then (some true) else (Option.bind (bif !(x30.toList == (ByteArray.mk #[]).toList) then (Option.bind (bif !x31.2 then (some true) else (Option.bind (sh61 x31.1 x26) fun x51 => some !x51)) fun cb50 => (some cb50)) else (some false)) fun cb49 => (some cb49))) fun cb48 => (Option.bind (bif cb48 || (x36.2 != x40.2) then (some true) else (Option.bind (sh61 x36.1 x40.1) fun x53 => some !x53)) fun cb52 => (bif cb52 then (some false) else (bif x6.2 != 0 then (some true) else (bif (x6.1.length : Int) != (w64 (x2.2 * (x2.1.length : Int))) then (some false) else (Option.bind (iter (sh7_1 x2 x6) 0) fun y1 => elimS y1 (fun r => some r) fun b1 => (some true)))))))))
def T7 (r : Bool) (v : Value) (rs : List Own) : Prop := v = rets [.bool r] ∧ rs = []
set_option maxRecDepth 100000 in
set_option maxHeartbeats 1000000 in
theorem c7 {w : World} {q0 : List Int} {a_0 : Option Addr} {n_0 c_0 : Nat} (g_0 : Rd w a_0 (eU8.fl q0)) (l_0 : q0.length = n_0) (k_0 : n_0 ≤ c_0) {r : Bool} (hres : sh7 q0 = some r) : Calls Go.Proofs.Try.prog 7 [.slice a_0 n_0 c_0].toArray w (Ret w (T7 r)) := by
  subst l_0
  unfold sh7 at hres
  refine calls_of (n := 183) (M := []) (es := []) Go.Proofs.Try.func7 rfl rfl rfl (Sep.nil _ _ _) ?_
  refine JX.seq ?_
  refine JX.region ?_
  refine JL.val (yl_assign rfl) rfl ?_
  refine JL.nil ?_
  refine JE.code ?_
  refine JX.seq ?_
  refine JX.seq ?_
  refine JX.region ?_
  refine JL.val (yl_move rfl) rfl ?_
  obtain ⟨x1, hx1, hres⟩ := bind_some hres
  refine JL.eff (ef_call (T := T9 x1) Go.Proofs.Try.func9 rfl (by kernel_rfl) rfl (fun w hC => c9 (rd_arg g_0 hC) rfl k_0 hx1)) rfl ?_
  rintro _ _ ⟨_, ⟨rfl, rfl⟩, rfl⟩
  refine JL.nil ?_
  refine JE.code ?_
  rcases cond_some hres with ⟨hb, hres⟩ | ⟨hb, hres⟩
  · refine JX.condT rfl hb ?_
    refine JX.seq ?_
    refine JX.region ?_
    refine JL.val (yl_assign rfl) rfl ?_
    refine JL.nil ?_
    refine JE.code ?_
    refine JX.ret ?_
    obtain rfl := Option.some.inj hres
    refine JE.ret (rs := [.tmp 2]) (vs := [.bool true]) rfl ⟨rfl, trivial⟩ ?_
    exact fun w' hb hs => ⟨_, _, ⟨rfl, rfl⟩, rfl, hb, hs.sel [] _ (by decide) rfl⟩
  · refine JX.condF rfl hb ?_
    refine JX.skip ?_
    refine JE.code ?_
    refine JX.seq ?_
    refine JX.region ?_
    refine JL.val (yl_move rfl) rfl ?_
    obtain ⟨x2, hx2, hres⟩ := bind_some hres
    refine JL.eff (ef_call (T := T64 x2) Go.Proofs.Try.func64 rfl (by kernel_rfl) rfl (fun w hC => c64 (rd_arg g_0 hC) rfl k_0 hx2)) rfl ?_
    rintro _ _ ⟨_, ⟨a3, _, cp4, rfl, rfl, rfl⟩, rfl⟩
    refine JL.val (yl_move rfl) rfl ?_
    refine JL.val (yl_extract rfl rfl) rfl ?_
    refine JL.val (yl_extract rfl rfl) rfl ?_
    refine JL.val (yl_assign rfl) rfl ?_
    refine JL.val (yl_assign rfl) rfl ?_
    refine JL.nil ?_
    refine JE.weak (env' := [(0, .slice a_0 q0.length c_0), (3, .slice a3 x2.1.length cp4), (4, .int .i64 x2.2)]) (es' := [rowT 88 eSToolMove a3 x2.1.length cp4 x2.1]) [0] ?_ ⟨rfl, rfl, rfl, trivial⟩ (by decide) rfl
    refine JE.code ?_
    refine JX.seq ?_
    refine JX.region ?_
    refine JL.val (yl_move rfl) rfl ?_
    refine JL.val (yl_move rfl) rfl ?_
    obtain ⟨x6, hx6, hres⟩ := bind_some hres
    refine JL.eff (ef_call (T := T65 x6) Go.Proofs.Try.func65 rfl (by kernel_rfl) rfl (fun w hC => c65 (rd_row hC 0 rfl) rfl (ln_row hC 0 rfl) hx6)) rfl ?_
    rintro _ _ ⟨_, ⟨a7, _, cp8, rfl, rfl, rfl⟩, rfl⟩
    refine JL.val (yl_move rfl) rfl ?_
    refine JL.val (yl_extract rfl rfl) rfl ?_
    refine JL.val (yl_extract rfl rfl) rfl ?_
    refine JL.val (yl_assign rfl) rfl ?_
    refine JL.val (yl_assign rfl) rfl ?_
    refine JL.nil ?_
    refine JE.weak (env' := [(0, .slice a_0 q0.length c_0), (3, .slice a3 x2.1.length cp4), (4, .int .i64 x2.2), (5, .slice a7 x6.1.length cp8), (6, .int .i64 x6.2)]) (es' := [rowT 88 eSToolMove a3 x2.1.length cp4 x2.1, rowT 88 eSToolMove a7 x6.1.length cp8 x6.1]) [0, 1] ?_ ⟨rfl, rfl, rfl, rfl, rfl, trivial⟩ (by decide) rfl
    refine JE.code ?_
    refine JX.seq ?_
    refine JX.region ?_
    refine JL.val (yl_move rfl) rfl ?_
    refine JL.val (yl_move rfl) rfl ?_
    obtain ⟨x10, hx10, hres⟩ := bind_some hres
    refine JL.eff (ef_call (T := T66 x10) Go.Proofs.Try.func66 rfl (by kernel_rfl) rfl (fun w hC => c66 (rd_row hC 0 rfl) rfl (ln_row hC 0 rfl) hx10)) rfl ?_
    rintro _ _ ⟨_, ⟨a11, _, cp12, rfl, rfl, rfl⟩, rfl⟩
    refine JL.val (yl_move rfl) rfl ?_
    refine JL.val (yl_extract rfl rfl) rfl ?_
    refine JL.val (yl_extract rfl rfl) rfl ?_
    refine JL.val (yl_assign rfl) rfl ?_
    refine JL.val (yl_assign rfl) rfl ?_
    refine JL.nil ?_
    refine JE.weak (env' := [(0, .slice a_0 q0.length c_0), (3, .slice a3 x2.1.length cp4), (4, .int .i64 x2.2), (5, .slice a7 x6.1.length cp8), (6, .int .i64 x6.2), (7, .slice a11 x10.1.length cp12), (8, .int .i64 x10.2)]) (es' := [rowT 88 eSToolMove a3 x2.1.length cp4 x2.1, rowT 88 eSToolMove a7 x6.1.length cp8 x6.1, rowT 88 eSToolMove a11 x10.1.length cp12 x10.1]) [0, 1, 2] ?_ ⟨rfl, rfl, rfl, rfl, rfl, rfl, rfl, trivial⟩ (by decide) rfl
    refine JE.code ?_
    refine JX.seq ?_
    refine JX.region ?_
    refine JL.val (yl_move rfl) rfl ?_
    obtain ⟨x14, hx14, hres⟩ := bind_some hres
    refine JL.eff (ef_call (T := T67 x14) Go.Proofs.Try.func67 rfl (by kernel_rfl) rfl (fun w hC => c67 (rd_arg g_0 hC) rfl k_0 hx14)) rfl ?_
    rintro _ _ ⟨_, ⟨a15, _, cp16, rfl, rfl, rfl⟩, rfl⟩
    refine JL.val (yl_assign rfl) rfl ?_
    refine JL.nil ?_
    refine JE.code ?_
    refine JX.seq ?_
    refine JX.region ?_
    refine JL.val (yl_move rfl) rfl ?_
    obtain ⟨x18, hx18, hres⟩ := bind_some hres
    refine JL.eff (ef_call (T := T63 x18) Go.Proofs.Try.func63 rfl (by kernel_rfl) rfl (fun w hC => c63 (rd_row hC 3 rfl) rfl (ln_row hC 3 rfl) hx18)) rfl ?_
    rintro _ _ ⟨_, ⟨rfl, rfl⟩, rfl⟩
    refine JL.val (yl_move rfl) rfl ?_
    refine JL.val (yl_extract rfl rfl) rfl ?_
    refine JL.val (yl_extract rfl rfl) rfl ?_
    refine JL.val (yl_assign rfl) rfl ?_
    refine JL.val (yl_assign rfl) rfl ?_
    refine JL.nil ?_
    refine JE.weak (env' := [(0, .slice a_0 q0.length c_0), (3, .slice a3 x2.1.length cp4), (4, .int .i64 x2.2), (5, .slice a7 x6.1.length cp8), (6, .int .i64 x6.2), (7, .slice a11 x10.1.length cp12), (8, .int .i64 x10.2), (9, .slice a15 x14.length cp16), (10, .int .i64 x18.1), (11, .int .i64 x18.2)]) (es' := [rowT 88 eSToolMove a3 x2.1.length cp4 x2.1, rowT 88 eSToolMove a7 x6.1.length cp8 x6.1, rowT 88 eSToolMove a11 x10.1.length cp12 x10.1, rowT 88 eSToolMove a15 x14.length cp16 x14]) [0, 1, 2, 3] ?_ ⟨rfl, rfl, rfl, rfl, rfl, rfl, rfl, rfl, rfl, rfl, trivial⟩ (by decide) rfl
    refine JE.code ?_
    refine JX.seq ?_
    refine JX.region ?_
    refine JL.val (yl_move rfl) rfl ?_
    obtain ⟨x19, hx19, hres⟩ := bind_some hres
    refine JL.eff (ef_call (T := T68 x19) Go.Proofs.Try.func68 rfl (by kernel_rfl) rfl (fun w hC => c68 (rd_row hC 3 rfl) rfl (ln_row hC 3 rfl) hx19)) rfl ?_
    rintro _ _ ⟨_, ⟨rfl, rfl⟩, rfl⟩
    refine JL.val (yl_move rfl) rfl ?_
    refine JL.val (yl_extract rfl rfl) rfl ?_
    refine JL.val (yl_extract rfl rfl) rfl ?_
    refine JL.val (yl_assign rfl) rfl ?_
    refine JL.val (yl_assign rfl) rfl ?_
    refine JL.nil ?_
    refine JE.weak (env' := [(0, .slice a_0 q0.length c_0), (3, .slice a3 x2.1.length cp4), (4, .int .i64 x2.2), (5, .slice a7 x6.1.length cp8), (6, .int .i64 x6.2), (7, .slice a11 x10.1.length cp12), (8, .int .i64 x10.2), (10, .int .i64 x18.1), (11, .int .i64 x18.2), (12, .int .i64 x19.1), (13, .int .i64 x19.2)]) (es' := [rowT 88 eSToolMove a3 x2.1.length cp4 x2.1, rowT 88 eSToolMove a7 x6.1.length cp8 x6.1, rowT 88 eSToolMove a11 x10.1.length cp12 x10.1]) [0, 1, 2] ?_ ⟨rfl, rfl, rfl, rfl, rfl, rfl, rfl, rfl, rfl, rfl, rfl, trivial⟩ (by decide) rfl
    refine JE.code ?_
    refine JX.seq ?_
    refine JX.region ?_
    refine JL.val (yl_move rfl) rfl ?_
    obtain ⟨x20, hx20, hres⟩ := bind_some hres
    refine JL.eff (ef_call (T := T69 x20) Go.Proofs.Try.func69 rfl (by kernel_rfl) rfl (fun w hC => c69 (rd_arg g_0 hC) rfl k_0 hx20)) rfl ?_
    rintro _ _ ⟨_, ⟨a21, _, cp22, rfl, rfl, rfl⟩, rfl⟩
    refine JL.val (yl_assign rfl) rfl ?_
    refine JL.nil ?_
    refine JE.code ?_
    refine JX.seq ?_
    refine JX.region ?_
    refine JL.val (yl_move rfl) rfl ?_
    obtain ⟨x24, hx24, hres⟩ := bind_some hres
    refine JL.eff (ef_call (T := T70 x24) Go.Proofs.Try.func70 rfl (by kernel_rfl) rfl (fun w hC => c70 (rd_row hC 3 rfl) rfl (ln_row hC 3 rfl) hx24)) rfl ?_
    rintro _ _ ⟨_, ⟨rfl, rfl⟩, rfl⟩
    refine JL.val (yl_move rfl) rfl ?_
    refine JL.val (yl_extract rfl rfl) rfl ?_
    refine JL.val (yl_extract rfl rfl) rfl ?_
    refine JL.val (yl_assign rfl) rfl ?_
    refine JL.val (yl_assign rfl) rfl ?_
    refine JL.nil ?_
    refine JE.weak (env' := [(0, .slice a_0 q0.length c_0), (3, .slice a3 x2.1.length cp4), (4, .int .i64 x2.2), (5, .slice a7 x6.1.length cp8), (6, .int .i64 x6.2), (7, .slice a11 x10.1.length cp12), (8, .int .i64 x10.2), (10, .int .i64 x18.1), (11, .int .i64 x18.2), (12, .int .i64 x19.1), (13, .int .i64 x19.2), (14, .slice a21 x20.length cp22), (15, .int .i64 x24.1), (16, .int .i64 x24.2)]) (es' := [rowT 88 eSToolMove a3 x2.1.length cp4 x2.1, rowT 88 eSToolMove a7 x6.1.length cp8 x6.1, rowT 88 eSToolMove a11 x10.1.length cp12 x10.1, rowT 88 eSToolMove a21 x20.length cp22 x20]) [0, 1, 2, 3] ?_ ⟨rfl, rfl, rfl, rfl, rfl, rfl, rfl, rfl, rfl, rfl, rfl, rfl, rfl, rfl, trivial⟩ (by decide) rfl
    refine JE.code ?_
    refine JX.seq ?_
    refine JX.region ?_
    refine JL.val (yl_move rfl) rfl ?_
    obtain ⟨x25, hx25, hres⟩ := bind_some hres
    refine JL.eff (ef_call (T := T71 x25) Go.Proofs.Try.func71 rfl (by kernel_rfl) rfl (fun w hC => c71 (rd_row hC 3 rfl) rfl (ln_row hC 3 rfl) hx25)) rfl ?_
    rintro _ _ ⟨_, ⟨rfl, rfl⟩, rfl⟩
    refine JL.val (yl_move rfl) rfl ?_
    refine JL.val (yl_extract rfl rfl) rfl ?_
    refine JL.val (yl_extract rfl rfl) rfl ?_
    refine JL.val (yl_assign rfl) rfl ?_
    refine JL.val (yl_assign rfl) rfl ?_
    refine JL.nil ?_
    refine JE.weak (env' := [(0, .slice a_0 q0.length c_0), (3, .slice a3 x2.1.length cp4), (4, .int .i64 x2.2), (5, .slice a7 x6.1.length cp8), (6, .int .i64 x6.2), (7, .slice a11 x10.1.length cp12), (8, .int .i64 x10.2), (10, .int .i64 x18.1), (11, .int .i64 x18.2), (12, .int .i64 x19.1), (13, .int .i64 x19.2), (15, .int .i64 x24.1), (16, .int .i64 x24.2), (17, .int .i64 x25.1), (18, .int .i64 x25.2)]) (es' := [rowT 88 eSToolMove a3 x2.1.length cp4 x2.1, rowT 88 eSToolMove a7 x6.1.length cp8 x6.1, rowT 88 eSToolMove a11 x10.1.length cp12 x10.1]) [0, 1, 2] ?_ ⟨rfl, rfl, rfl, rfl, rfl, rfl, rfl, rfl, rfl, rfl, rfl, rfl, rfl, rfl, rfl, trivial⟩ (by decide) rfl
    refine JE.code ?_
    refine JX.seq ?_
    refine JX.region ?_
    refine JL.val (yl_move rfl) rfl ?_
    obtain ⟨x26, hx26, hres⟩ := bind_some hres
    refine JL.eff (ef_call (T := T72 x26) Go.Proofs.Try.func72 rfl (by kernel_rfl) rfl (fun w hC => c72 (rd_arg g_0 hC) rfl k_0 hx26)) rfl ?_
    rintro _ _ ⟨_, ⟨a27, _, cp28, rfl, rfl, rfl⟩, rfl⟩
    refine JL.val (yl_assign rfl) rfl ?_
    refine JL.nil ?_
    refine JE.code ?_
    refine JX.seq ?_
    refine JX.region ?_
    refine JL.val (yl_move rfl) rfl ?_
    obtain ⟨x30, hx30, hres⟩ := bind_some hres
    refine JL.eff (ef_call (T := T73 x30) Go.Proofs.Try.func73 rfl (by kernel_rfl) rfl (fun w hC => c73 (rd_row hC 3 rfl) rfl (ln_row hC 3 rfl) hx30)) rfl ?_
    rintro _ _ ⟨_, ⟨rfl, rfl⟩, rfl⟩
    refine JL.val (yl_assign rfl) rfl ?_
    refine JL.nil ?_
    refine JE.code ?_
    refine JX.seq ?_
    refine JX.region ?_
    refine JL.val (yl_move rfl) rfl ?_
    obtain ⟨x31, hx31, hres⟩ := bind_some hres
    refine JL.eff (ef_call (T := T74 x31) Go.Proofs.Try.func74 rfl (by kernel_rfl) rfl (fun w hC => c74  hx31)) rfl ?_
    rintro _ _ ⟨_, ⟨a32, _, cp33, rfl, rfl, rfl⟩, rfl⟩
    refine JL.val (yl_move rfl) rfl ?_
    refine JL.val (yl_extract rfl rfl) rfl ?_
    refine JL.val (yl_extract rfl rfl) rfl ?_
    refine JL.val (yl_assign rfl) rfl ?_
    refine JL.val (yl_assign rfl) rfl ?_
    refine JL.nil ?_
    refine JE.weak (env' := [(0, .slice a_0 q0.length c_0), (3, .slice a3 x2.1.length cp4), (4, .int .i64 x2.2), (5, .slice a7 x6.1.length cp8), (6, .int .i64 x6.2), (7, .slice a11 x10.1.length cp12), (8, .int .i64 x10.2), (10, .int .i64 x18.1), (11, .int .i64 x18.2), (12, .int .i64 x19.1), (13, .int .i64 x19.2), (15, .int .i64 x24.1), (16, .int .i64 x24.2), (17, .int .i64 x25.1), (18, .int .i64 x25.2), (19, .slice a27 x26.length cp28), (20, .string x30), (21, .slice a32 x31.1.length cp33), (22, .bool x31.2)]) (es' := [rowT 88 eSToolMove a3 x2.1.length cp4 x2.1, rowT 88 eSToolMove a7 x6.1.length cp8 x6.1, rowT 88 eSToolMove a11 x10.1.length cp12 x10.1, rowT 88 eSToolMove a27 x26.length cp28 x26, rowT 88 eSToolMove a32 x31.1.length cp33 x31.1]) [0, 1, 2, 3, 4] ?_ ⟨rfl, rfl, rfl, rfl, rfl, rfl, rfl, rfl, rfl, rfl, rfl, rfl, rfl, rfl, rfl, rfl, rfl, rfl, rfl, trivial⟩ (by decide) rfl
    refine JE.code ?_
    refine JX.seq ?_
    refine JX.region ?_
    refine JL.val (yl_move rfl) rfl ?_
    obtain ⟨x35, hx35, hres⟩ := bind_some hres
    refine JL.eff (ef_call (T := T75 x35) Go.Proofs.Try.func75 rfl (by kernel_rfl) rfl (fun w hC => c75 (rd_arg g_0 hC) rfl k_0 hx35)) rfl ?_
    rintro _ _ ⟨_, ⟨rfl, rfl⟩, rfl⟩
    refine JL.val (yl_assign rfl) rfl ?_
    refine JL.nil ?_
    refine JE.code ?_
    refine JX.seq ?_
    refine JX.region ?_
    refine JL.val (yl_move rfl) rfl ?_
    obtain ⟨x36, hx36, hres⟩ := bind_some hres
    refine JL.eff (ef_call (T := T74 x36) Go.Proofs.Try.func74 rfl (by kernel_rfl) rfl (fun w hC => c74  hx36)) rfl ?_
    rintro _ _ ⟨_, ⟨a37, _, cp38, rfl, rfl, rfl⟩, rfl⟩
    refine JL.val (yl_move rfl) rfl ?_
    refine JL.val (yl_extract rfl rfl) rfl ?_
    refine JL.val (yl_extract rfl rfl) rfl ?_
    refine JL.val (yl_assign rfl) rfl ?_
    refine JL.val (yl_assign rfl) rfl ?_
    refine JL.nil ?_
    refine JE.weak (env' := [(3, .slice a3 x2.1.length cp4), (4, .int .i64 x2.2), (5, .slice a7 x6.1.length cp8), (6, .int .i64 x6.2), (7, .slice a11 x10.1.length cp12), (8, .int .i64 x10.2), (10, .int .i64 x18.1), (11, .int .i64 x18.2), (12, .int .i64 x19.1), (13, .int .i64 x19.2), (15, .int .i64 x24.1), (16, .int .i64 x24.2), (17, .int .i64 x25.1), (18, .int .i64 x25.2), (19, .slice a27 x26.length cp28), (20, .string x30), (21, .slice a32 x31.1.length cp33), (22, .bool x31.2), (23, .string x35), (24, .slice a37 x36.1.length cp38), (25, .bool x36.2)]) (es' := [rowT 88 eSToolMove a3 x2.1.length cp4 x2.1, rowT 88 eSToolMove a7 x6.1.length cp8 x6.1, rowT 88 eSToolMove a11 x10.1.length cp12 x10.1, rowT 88 eSToolMove a27 x26.length cp28 x26, rowT 88 eSToolMove a32 x31.1.length cp33 x31.1, rowT 88 eSToolMove a37 x36.1.length cp38 x36.1]) [0, 1, 2, 3, 4, 5] ?_ ⟨rfl, rfl, rfl, rfl, rfl, rfl, rfl, rfl, rfl, rfl, rfl, rfl, rfl, rfl, rfl, rfl, rfl, rfl, rfl, rfl, rfl, trivial⟩ (by decide) rfl
    refine JE.code ?_
    refine JX.seq ?_
    refine JX.region ?_
    refine JL.val (yl_move rfl) rfl ?_
    obtain ⟨x40, hx40, hres⟩ := bind_some hres
    refine JL.eff (ef_call (T := T76 x40) Go.Proofs.Try.func76 rfl (by kernel_rfl) rfl (fun w hC => c76  hx40)) rfl ?_
    rintro _ _ ⟨_, ⟨a41, _, cp42, rfl, rfl, rfl⟩, rfl⟩
    refine JL.val (yl_move rfl) rfl ?_
    refine JL.val (yl_extract rfl rfl) rfl ?_
    refine JL.val (yl_extract rfl rfl) rfl ?_
    refine JL.val (yl_assign rfl) rfl ?_
    refine JL.val (yl_assign rfl) rfl ?_
    refine JL.nil ?_
    refine JE.weak (env' := [(3, .slice a3 x2.1.length cp4), (4, .int .i64 x2.2), (5, .slice a7 x6.1.length cp8), (6, .int .i64 x6.2), (7, .slice a11 x10.1.length cp12), (8, .int .i64 x10.2), (10, .int .i64 x18.1), (11, .int .i64 x18.2), (12, .int .i64 x19.1), (13, .int .i64 x19.2), (15, .int .i64 x24.1), (16, .int .i64 x24.2), (17, .int .i64 x25.1), (18, .int .i64 x25.2), (19, .slice a27 x26.length cp28), (20, .string x30), (21, .slice a32 x31.1.length cp33), (22, .bool x31.2), (24, .slice a37 x36.1.length cp38), (25, .bool x36.2), (26, .slice a41 x40.1.length cp42), (27, .bool x40.2)]) (es' := [rowT 88 eSToolMove a3 x2.1.length cp4 x2.1, rowT 88 eSToolMove a7 x6.1.length cp8 x6.1, rowT 88 eSToolMove a11 x10.1.length cp12 x10.1, rowT 88 eSToolMove a27 x26.length cp28 x26, rowT 88 eSToolMove a32 x31.1.length cp33 x31.1, rowT 88 eSToolMove a37 x36.1.length cp38 x36.1, rowT 88 eSToolMove a41 x40.1.length cp42 x40.1]) [0, 1, 2, 3, 4, 5, 6] ?_ ⟨rfl, rfl, rfl, rfl, rfl, rfl, rfl, rfl, rfl, rfl, rfl, rfl, rfl, rfl, rfl, rfl, rfl, rfl, rfl, rfl, rfl, rfl, trivial⟩ (by decide) rfl
    refine JE.code ?_
    refine JX.seq ?_
    refine JX.seq ?_
    refine JX.region ?_
    refine JL.val (yl_move rfl) rfl ?_
    refine JL.val (yl_move rfl) rfl ?_
    refine JL.val (yl_neq rfl rfl) rfl ?_
    refine JL.val (yl_move rfl) rfl ?_
    obtain ⟨cb44, hcb44, hres⟩ := bind_some hres
    refine JL.cut (K := fun J => J [(3, .slice a3 x2.1.length cp4), (4, .int .i64 x2.2), (5, .slice a7 x6.1.length cp8), (6, .int .i64 x6.2), (10, .int .i64 x18.1), (11, .int .i64 x18.2), (12, .int .i64 x19.1), (13, .int .i64 x19.2), (15, .int .i64 x24.1), (16, .int .i64 x24.2), (17, .int .i64 x25.1), (18, .int .i64 x25.2), (19, .slice a27 x26.length cp28), (20, .string x30), (21, .slice a32 x31.1.length cp33), (22, .bool x31.2), (24, .slice a37 x36.1.length cp38), (25, .bool x36.2), (26, .slice a41 x40.1.length cp42), (27, .bool x40.2), (102, .bool cb44)] [rowT 88 eSToolMove a3 x2.1.length cp4 x2.1, rowT 88 eSToolMove a7 x6.1.length cp8 x6.1, rowT 88 eSToolMove a27 x26.length cp28 x26, rowT 88 eSToolMove a32 x31.1.length cp33 x31.1, rowT 88 eSToolMove a37 x36.1.length cp38 x36.1, rowT 88 eSToolMove a41 x40.1.length cp42 x40.1]) 5 ?_ ?_
    · refine JL.val (yl_move rfl) rfl ?_
      refine JL.cut (K := fun J => J [(3, .slice a3 x2.1.length cp4), (4, .int .i64 x2.2), (5, .slice a7 x6.1.length cp8), (6, .int .i64 x6.2), (10, .int .i64 x18.1), (12, .int .i64 x19.1), (15, .int .i64 x24.1), (16, .int .i64 x24.2), (17, .int .i64 x25.1), (18, .int .i64 x25.2), (19, .slice a27 x26.length cp28), (20, .string x30), (21, .slice a32 x31.1.length cp33), (22, .bool x31.2), (24, .slice a37 x36.1.length cp38), (25, .bool x36.2), (26, .slice a41 x40.1.length cp42), (27, .bool x40.2), (107, .bool (cb44 || (x18.2 != x19.2)))] [rowT 88 eSToolMove a3 x2.1.length cp4 x2.1, rowT 88 eSToolMove a7 x6.1.length cp8 x6.1, rowT 88 eSToolMove a27 x26.length cp28 x26, rowT 88 eSToolMove a32 x31.1.length cp33 x31.1, rowT 88 eSToolMove a37 x36.1.length cp38 x36.1, rowT 88 eSToolMove a41 x40.1.length cp42 x40.1]) 4 ?_ ?_
      · refine JL.val (yl_move rfl) rfl ?_
        refine JL.cut (K := fun J => J [(3, .slice a3 x2.1.length cp4), (4, .int .i64 x2.2), (5, .slice a7 x6.1.length cp8), (6, .int .i64 x6.2), (15, .int .i64 x24.1), (16, .int .i64 x24.2), (17, .int .i64 x25.1), (18, .int .i64 x25.2), (19, .slice a27 x26.length cp28), (20, .string x30), (21, .slice a32 x31.1.length cp33), (22, .bool x31.2), (24, .slice a37 x36.1.length cp38), (25, .bool x36.2), (26, .slice a41 x40.1.length cp42), (27, .bool x40.2), (112, .bool ((cb44 || (x18.2 != x19.2)) || (x18.1 != x19.1)))] [rowT 88 eSToolMove a3 x2.1.length cp4 x2.1, rowT 88 eSToolMove a7 x6.1.length cp8 x6.1, rowT 88 eSToolMove a27 x26.length cp28 x26, rowT 88 eSToolMove a32 x31.1.length cp33 x31.1, rowT 88 eSToolMove a37 x36.1.length cp38 x36.1, rowT 88 eSToolMove a41 x40.1.length cp42 x40.1]) 4 ?_ ?_
        · refine JL.val (yl_move rfl) rfl ?_
          refine JL.cut (K := fun J => J [(3, .slice a3 x2.1.length cp4), (4, .int .i64 x2.2), (5, .slice a7 x6.1.length cp8), (6, .int .i64 x6.2), (15, .int .i64 x24.1), (17, .int .i64 x25.1), (19, .slice a27 x26.length cp28), (20, .string x30), (21, .slice a32 x31.1.length cp33), (22, .bool x31.2), (24, .slice a37 x36.1.length cp38), (25, .bool x36.2), (26, .slice a41 x40.1.length cp42), (27, .bool x40.2), (117, .bool (((cb44 || (x18.2 != x19.2)) || (x18.1 != x19.1)) || (x24.2 != x25.2)))] [rowT 88 eSToolMove a3 x2.1.length cp4 x2.1, rowT 88 eSToolMove a7 x6.1.length cp8 x6.1, rowT 88 eSToolMove a27 x26.length cp28 x26, rowT 88 eSToolMove a32 x31.1.length cp33 x31.1, rowT 88 eSToolMove a37 x36.1.length cp38 x36.1, rowT 88 eSToolMove a41 x40.1.length cp42 x40.1]) 4 ?_ ?_
          · refine JL.val (yl_move rfl) rfl ?_
            refine JL.cut (K := fun J => J [(3, .slice a3 x2.1.length cp4), (4, .int .i64 x2.2), (5, .slice a7 x6.1.length cp8), (6, .int .i64 x6.2), (19, .slice a27 x26.length cp28), (20, .string x30), (21, .slice a32 x31.1.length cp33), (22, .bool x31.2), (24, .slice a37 x36.1.length cp38), (25, .bool x36.2), (26, .slice a41 x40.1.length cp42), (27, .bool x40.2), (122, .bool ((((cb44 || (x18.2 != x19.2)) || (x18.1 != x19.1)) || (x24.2 != x25.2)) || (x24.1 != x25.1)))] [rowT 88 eSToolMove a3 x2.1.length cp4 x2.1, rowT 88 eSToolMove a7 x6.1.length cp8 x6.1, rowT 88 eSToolMove a27 x26.length cp28 x26, rowT 88 eSToolMove a32 x31.1.length cp33 x31.1, rowT 88 eSToolMove a37 x36.1.length cp38 x36.1, rowT 88 eSToolMove a41 x40.1.length cp42 x40.1]) 4 ?_ ?_
            · refine JL.val (yl_move rfl) rfl ?_
              obtain ⟨cb46, hcb46, hres⟩ := bind_some hres
              refine JL.cut (K := fun J => J [(3, .slice a3 x2.1.length cp4), (4, .int .i64 x2.2), (5, .slice a7 x6.1.length cp8), (6, .int .i64 x6.2), (19, .slice a27 x26.length cp28), (20, .string x30), (21, .slice a32 x31.1.length cp33), (22, .bool x31.2), (24, .slice a37 x36.1.length cp38), (25, .bool x36.2), (26, .slice a41 x40.1.length cp42), (27, .bool x40.2), (128, .bool cb46)] [rowT 88 eSToolMove a3 x2.1.length cp4 x2.1, rowT 88 eSToolMove a7 x6.1.length cp8 x6.1, rowT 88 eSToolMove a27 x26.length cp28 x26, rowT 88 eSToolMove a32 x31.1.length cp33 x31.1, rowT 88 eSToolMove a37 x36.1.length cp38 x36.1, rowT 88 eSToolMove a41 x40.1.length cp42 x40.1]) 5 ?_ ?_
              · refine JL.val (yl_move rfl) rfl ?_
                obtain ⟨cb48, hcb48, hres⟩ := bind_some hres
                refine JL.cut (K := fun J => J [(3, .slice a3 x2.1.length cp4), (4, .int .i64 x2.2), (5, .slice a7 x6.1.length cp8), (6, .int .i64 x6.2), (24, .slice a37 x36.1.length cp38), (25, .bool x36.2), (26, .slice a41 x40.1.length cp42), (27, .bool x40.2), (142, .bool cb48)] [rowT 88 eSToolMove a3 x2.1.length cp4 x2.1, rowT 88 eSToolMove a7 x6.1.length cp8 x6.1, rowT 88 eSToolMove a37 x36.1.length cp38 x36.1, rowT 88 eSToolMove a41 x40.1.length cp42 x40.1]) 13 ?_ ?_
                · refine JL.val (yl_move rfl) rfl ?_
                  refine JL.cut (K := fun J => J [(3, .slice a3 x2.1.length cp4), (4, .int .i64 x2.2), (5, .slice a7 x6.1.length cp8), (6, .int .i64 x6.2), (24, .slice a37 x36.1.length cp38), (26, .slice a41 x40.1.length cp42), (147, .bool (cb48 || (x36.2 != x40.2)))] [rowT 88 eSToolMove a3 x2.1.length cp4 x2.1, rowT 88 eSToolMove a7 x6.1.length cp8 x6.1, rowT 88 eSToolMove a37 x36.1.length cp38 x36.1, rowT 88 eSToolMove a41 x40.1.length cp42 x40.1]) 4 ?_ ?_
                  · refine JL.val (yl_move rfl) rfl ?_
                    obtain ⟨cb52, hcb52, hres⟩ := bind_some hres
                    refine JL.cut (K := fun J => J [(3, .slice a3 x2.1.length cp4), (4, .int .i64 x2.2), (5, .slice a7 x6.1.length cp8), (6, .int .i64 x6.2), (153, .bool cb52)] [rowT 88 eSToolMove a3 x2.1.length cp4 x2.1, rowT 88 eSToolMove a7 x6.1.length cp8 x6.1]) 5 ?_ ?_
                    · refine JL.nil ?_
                      refine JE.weak (env' := [(3, .slice a3 x2.1.length cp4), (4, .int .i64 x2.2), (5, .slice a7 x6.1.length cp8), (6, .int .i64 x6.2), (153, .bool cb52)]) (es' := [rowT 88 eSToolMove a3 x2.1.length cp4 x2.1, rowT 88 eSToolMove a7 x6.1.length cp8 x6.1]) [0, 1] ?_ ⟨rfl, rfl, rfl, rfl, rfl, trivial⟩ (by decide) rfl
                      refine JE.code ?_
                      rcases cond_some hres with ⟨hb, hres⟩ | ⟨hb, hres⟩
                      · refine JX.condT rfl hb ?_
                        refine JX.seq ?_
                        refine JX.region ?_
                        refine JL.val (yl_assign rfl) rfl ?_
                        refine JL.nil ?_
                        refine JE.weak (env' := [(2, .bool false)]) (es' := []) [] ?_ ⟨rfl, trivial⟩ (by decide) rfl
                        refine JE.code ?_
                        refine JX.ret ?_
                        obtain rfl := Option.some.inj hres
                        refine JE.ret (rs := [.tmp 2]) (vs := [.bool false]) rfl ⟨rfl, trivial⟩ ?_
                        exact fun w' hb hs => ⟨_, _, ⟨rfl, rfl⟩, rfl, hb, hs.sel [] _ (by decide) rfl⟩
                      · refine JX.condF rfl hb ?_
                        refine JX.skip ?_
                        refine JE.code ?_
                        refine JX.seq ?_
                        refine JX.seq ?_
                        refine JX.region ?_
                        refine JL.val (yl_move rfl) rfl ?_
                        refine JL.val (yl_neq rfl rfl) rfl ?_
                        refine JL.nil ?_
                        refine JE.code ?_
                        rcases cond_some hres with ⟨hb, hres⟩ | ⟨hb, hres⟩
                        · refine JX.condT rfl hb ?_
                          refine JX.seq ?_
                          refine JX.region ?_
                          refine JL.val (yl_assign rfl) rfl ?_
                          refine JL.nil ?_
                          refine JE.weak (env' := [(2, .bool true)]) (es' := []) [] ?_ ⟨rfl, trivial⟩ (by decide) rfl
                          refine JE.code ?_
                          refine JX.ret ?_
                          obtain rfl := Option.some.inj hres
                          refine JE.ret (rs := [.tmp 2]) (vs := [.bool true]) rfl ⟨rfl, trivial⟩ ?_
                          exact fun w' hb hs => ⟨_, _, ⟨rfl, rfl⟩, rfl, hb, hs.sel [] _ (by decide) rfl⟩
                        · refine JX.condF rfl hb ?_
                          refine JX.skip ?_
                          refine JE.code ?_
                          refine JX.seq ?_
                          refine JX.region ?_
                          refine JL.val (yl_move rfl) rfl ?_
                          refine JL.val (yl_len_slice Go.Proofs.Try.underlying65 rfl) rfl ?_
                          refine JL.val (yl_assign rfl) rfl ?_
                          refine JL.nil ?_
                          refine JE.code ?_
                          refine JX.seq ?_
                          refine JX.seq ?_
                          refine JX.region ?_
                          refine JL.val (yl_move rfl) rfl ?_
                          refine JL.val (yl_len_slice Go.Proofs.Try.underlying65 rfl) rfl ?_
                          refine JL.val (yl_move rfl) rfl ?_
                          refine JL.val (yl_move rfl) rfl ?_
                          refine JL.val (yl_mul rfl rfl) rfl ?_
                          refine JL.val (yl_neq rfl rfl) rfl ?_
                          refine JL.nil ?_
                          refine JE.weak (env' := [(3, .slice a3 x2.1.length cp4), (5, .slice a7 x6.1.length cp8), (28, .int .i64 (x2.1.length : Int)), (163, .bool ((x6.1.length : Int) != (w64 (x2.2 * (x2.1.length : Int)))))]) (es' := [rowT 88 eSToolMove a3 x2.1.length cp4 x2.1, rowT 88 eSToolMove a7 x6.1.length cp8 x6.1]) [0, 1] ?_ ⟨rfl, rfl, rfl, rfl, trivial⟩ (by decide) rfl
                          refine JE.code ?_
                          rcases cond_some hres with ⟨hb, hres⟩ | ⟨hb, hres⟩
                          · refine JX.condT rfl hb ?_
                            refine JX.seq ?_
                            refine JX.region ?_
                            refine JL.val (yl_assign rfl) rfl ?_
                            refine JL.nil ?_
                            refine JE.weak (env' := [(2, .bool false)]) (es' := []) [] ?_ ⟨rfl, trivial⟩ (by decide) rfl
                            refine JE.code ?_
                            refine JX.ret ?_
                            obtain rfl := Option.some.inj hres
                            refine JE.ret (rs := [.tmp 2]) (vs := [.bool false]) rfl ⟨rfl, trivial⟩ ?_
                            exact fun w' hb hs => ⟨_, _, ⟨rfl, rfl⟩, rfl, hb, hs.sel [] _ (by decide) rfl⟩
                          · refine JX.condF rfl hb ?_
                            refine JX.skip ?_
                            refine JE.code ?_
                            refine JX.seq ?_
                            refine JX.seq ?_
                            refine JX.region ?_
                            refine JL.val (yl_assign rfl) rfl ?_
                            refine JL.nil ?_
                            refine JE.code ?_
                            refine JX.block ?_
                            obtain ⟨y1, hy1, hresO1⟩ := bind_some hres
                            refine JX.loop (I := fun (s1 : Int) aa ww => St w [] 183 [(3, .slice a3 x2.1.length cp4), (5, .slice a7 x6.1.length cp8), (28, .int .i64 (x2.1.length : Int)), (29, .int .i64 s1)] [rowT 88 eSToolMove a3 x2.1.length cp4 x2.1, rowT 88 eSToolMove a7 x6.1.length cp8 x6.1] aa ww) (sh7_1 x2 x6) hy1 (fun a w h => h.weak ⟨rfl, rfl, rfl, rfl, trivial⟩ [0, 1] (by decide) rfl) ?_
                            rintro x54 o1 hres hox1 aa ww hS
                            refine (?_ : JX Go.Proofs.Try.prog w [] 183 _ _ [(3, .slice a3 x2.1.length cp4), (5, .slice a7 x6.1.length cp8), (28, .int .i64 (x2.1.length : Int)), (29, .int .i64 x54)] [rowT 88 eSToolMove a3 x2.1.length cp4 x2.1, rowT 88 eSToolMove a7 x6.1.length cp8 x6.1] _) aa ww hS
                            clear hS
                            unfold sh7_1 at hres
                            refine JX.seq ?_
                            refine JX.seq ?_
                            refine JX.region ?_
                            refine JL.val (yl_move rfl) rfl ?_
                            refine JL.val (yl_move rfl) rfl ?_
                            refine JL.val (yl_lss rfl rfl) rfl ?_
                            refine JL.nil ?_
                            refine JE.code ?_
                            rcases cond_some hres with ⟨hb, hres⟩ | ⟨hb, hres⟩
                            · refine JX.condT rfl hb ?_
                              refine JX.skip ?_
                              refine JE.code ?_
                              refine JX.seq ?_
                              refine JX.block ?_
                              refine JX.seq ?_
                              refine JX.drawH [(0, .pure), (1, .pure), (2, .pure), (3, .pure), (4, .pure), (5, .pure), (6, .pure), (7, .pure), (8, .read), (9, .pure), (10, .pure), (11, .pure), (12, .read), (13, .pure)] [] [] [0, 1] [] [rowT 88 eSToolMove a3 x2.1.length cp4 x2.1, rowT 88 eSToolMove a7 x6.1.length cp8 x6.1] mixedP (by kernel_rfl) (by kernel_rfl) (by decide) rfl rfl ?_
                              intro wrr55 Nr55 hFr55
                              refine JH.pure rfl (yl_move rfl) rfl ?_
                              refine JH.pure rfl (yl_move rfl) rfl ?_
                              refine JH.pure rfl (yl_len_slice Go.Proofs.Try.underlying65 rfl) rfl ?_
                              refine JH.pure rfl (yl_move rfl) rfl ?_
                              refine JH.pure rfl (yl_sub rfl rfl) rfl ?_
                              refine JH.pure rfl (yl_move rfl) rfl ?_
                              refine JH.pure rfl (yl_add rfl rfl) rfl ?_
                              obtain ⟨x56, hx56, hres⟩ := bind_some hres
                              refine JH.pure rfl (yl_idxQ Go.Proofs.Try.underlying65 i88 i88s rfl rfl hx56 rfl (rd_row hFr55.cl 1 rfl) rfl) rfl ?_
                              refine JH.read rfl (yl_loadTn Go.Proofs.Try.underlying88 rfl i88 i88s rfl hx56 (fun w hw => hFr55.row 1 rfl rfl hw)) rfl ?_
                              refine JH.pure rfl (yl_move rfl) rfl ?_
                              refine JH.pure rfl (yl_move rfl) rfl ?_
                              obtain ⟨x57, hx57, hres⟩ := bind_some hres
                              refine JH.pure rfl (yl_idxQ Go.Proofs.Try.underlying65 i88 i88s rfl rfl hx57 rfl (rd_row hFr55.cl 0 rfl) rfl) rfl ?_
                              refine JH.read rfl (yl_loadTn Go.Proofs.Try.underlying88 rfl i88 i88s rfl hx57 (fun w hw => hFr55.row 0 rfl rfl hw)) rfl ?_
                              refine JH.pure rfl (yl_binop_of rfl rfl (fun w => eqs88_g _ _ _ _ _ w) (fun w => eqs88_neq x56.X x56.Y x56.Z x57.X x57.Y x57.Z w)) rfl ?_
                              refine JH.nil ?_
                              refine JE.weak (env' := [(3, .slice a3 x2.1.length cp4), (5, .slice a7 x6.1.length cp8), (28, .int .i64 (x2.1.length : Int)), (29, .int .i64 x54), (182, .bool (!(((x56.X == x57.X) && ((x56.Y == x57.Y) && ((x56.Z == x57.Z) && true))))))]) (es' := [rowT 88 eSToolMove a3 x2.1.length cp4 x2.1, rowT 88 eSToolMove a7 x6.1.length cp8 x6.1]) [0, 1] ?_ ⟨rfl, rfl, rfl, rfl, rfl, trivial⟩ (by decide) rfl
                              refine JE.code ?_
                              rcases cond_some hres with ⟨hb, hres⟩ | ⟨hb, hres⟩
                              · refine JX.condT rfl hb ?_
                                refine JX.seq ?_
                                refine JX.region ?_
                                refine JL.val (yl_assign rfl) rfl ?_
                                refine JL.nil ?_
                                refine JE.weak (env' := [(2, .bool false)]) (es' := []) [] ?_ ⟨rfl, trivial⟩ (by decide) rfl
                                refine JE.code ?_
                                refine JX.ret ?_
                                refine JE.qbr ?_
                                refine JE.qbr ?_
                                have hres := elimS_inr hresO1 (hox1 _ (Option.some.inj hres).symm)
                                obtain rfl := Option.some.inj hres
                                refine JE.ret (rs := [.tmp 2]) (vs := [.bool false]) rfl ⟨rfl, trivial⟩ ?_
                                exact fun w' hb hs => ⟨_, _, ⟨rfl, rfl⟩, rfl, hb, hs.sel [] _ (by decide) rfl⟩
                              · refine JX.condF rfl hb ?_
                                refine JX.skip ?_
                                refine JE.code ?_
                                refine JX.region ?_
                                refine JL.val (yl_move rfl) rfl ?_
                                refine JL.val (yl_add rfl rfl) rfl ?_
                                refine JL.val (yl_assign rfl) rfl ?_
                                refine JL.nil ?_
                                refine JE.cont hres ?_
                                exact fun a w h => h.weak ⟨rfl, rfl, rfl, rfl, trivial⟩ [0, 1] (by decide) rfl
                            · refine JX.condF rfl hb ?_
                              refine JX.exit ?_
                              refine JE.qb rfl ?_
                              obtain ⟨b1, hb1⟩ : ∃ b : Unit, b = () := ⟨_, rfl⟩
                              have hy1 : Sum.inl b1 = y1 := by rw [hb1]; exact hox1 _ (Option.some.inj hres).symm
                              have hres := elimS_inl hresO1 hy1
                              refine JE.weak (env' := []) (es' := []) [] ?_ trivial (by decide) (by subst hb1; rfl)
                              refine JE.code ?_
                              refine JX.seq ?_
                              refine JX.region ?_
                              refine JL.val (yl_assign rfl) rfl ?_
                              refine JL.nil ?_
                              refine JE.code ?_
                              refine JX.ret ?_
                              obtain rfl := Option.some.inj hres
                              refine JE.ret (rs := [.tmp 2]) (vs := [.bool true]) rfl ⟨rfl, trivial⟩ ?_
                              exact fun w' hb hs => ⟨_, _, ⟨rfl, rfl⟩, rfl, hb, hs.sel [] _ (by decide) rfl⟩
                    · intro K
                      rcases cond_some hcb52 with ⟨hb, hres⟩ | ⟨hb, hres⟩
                      · refine JL.set (d := 148) (v := .bool true) (congrArg (fun b => some (Value.bool b)) hb) ?_
                        refine JL.gskip rfl rfl rfl rfl ?_
                        refine JL.gskip rfl rfl rfl rfl ?_
                        refine JL.gskip rfl rfl rfl rfl ?_
                        refine JL.gskip rfl rfl rfl rfl ?_
                        refine JL.val (yl_pick_true rfl rfl) rfl ?_
                        have he := Option.some.inj hres
                        exact JL.weak [0, 1] K ⟨rfl, rfl, rfl, rfl, (by rw [← he]; rfl), trivial⟩ (by decide) rfl
                      · refine JL.set (d := 148) (v := .bool false) (congrArg (fun b => some (Value.bool b)) hb) ?_
                        refine JL.gval rfl rfl (yl_move rfl) rfl ?_
                        refine JL.gval rfl rfl (yl_move rfl) rfl ?_
                        obtain ⟨x53, hx53, hres⟩ := bind_some hres
                        refine JL.geff rfl rfl (ef_call (T := T61 x53) Go.Proofs.Try.func61 rfl (by kernel_rfl) rfl (fun w hC => c61 (rd_row hC 2 rfl) rfl (ln_row hC 2 rfl) (rd_row hC 3 rfl) rfl (ln_row hC 3 rfl) hx53)) rfl ?_
                        rintro _ _ ⟨_, ⟨rfl, rfl⟩, rfl⟩
                        refine JL.gval rfl rfl (yl_not rfl) rfl ?_
                        refine JL.val (yl_pick_false rfl rfl) rfl ?_
                        have he := Option.some.inj hres
                        exact JL.weak [0, 1] K ⟨rfl, rfl, rfl, rfl, (by rw [← he]; rfl), trivial⟩ (by decide) rfl
                  · intro K
                    rcases Bool.eq_false_or_eq_true (cb48) with hb | hb
                    · refine JL.set (d := 143) (v := .bool true) (congrArg (fun b => some (Value.bool b)) hb) ?_
                      refine JL.gskip rfl rfl rfl rfl ?_
                      refine JL.gskip rfl rfl rfl rfl ?_
                      refine JL.gskip rfl rfl rfl rfl ?_
                      refine JL.val (yl_pick_true rfl rfl) rfl ?_
                      exact JL.weak [0, 1, 2, 3] K ⟨rfl, rfl, rfl, rfl, rfl, rfl, (by rw [hb]; rfl), trivial⟩ (by decide) rfl
                    · refine JL.set (d := 143) (v := .bool false) (congrArg (fun b => some (Value.bool b)) hb) ?_
                      refine JL.gval rfl rfl (yl_move rfl) rfl ?_
                      refine JL.gval rfl rfl (yl_move rfl) rfl ?_
                      refine JL.gval rfl rfl (yl_bneq Go.Proofs.Try.underlying4 rfl rfl) rfl ?_
                      refine JL.val (yl_pick_false rfl rfl) rfl ?_
                      exact JL.weak [0, 1, 2, 3] K ⟨rfl, rfl, rfl, rfl, rfl, rfl, (by rw [hb]; rfl), trivial⟩ (by decide) rfl
                · intro K
                  rcases cond_some hcb48 with ⟨hb, hres⟩ | ⟨hb, hres⟩
                  · refine JL.set (d := 129) (v := .bool true) (congrArg (fun b => some (Value.bool b)) hb) ?_
                    refine JL.gskip rfl rfl rfl rfl ?_
                    refine JL.gskip rfl rfl rfl rfl ?_
                    refine JL.gskip rfl rfl rfl rfl ?_
                    refine JL.gnone rfl rfl rfl ?_
                    refine JL.gnone rfl rfl rfl ?_
                    refine JL.gnone rfl rfl rfl ?_
                    refine JL.gnone rfl rfl rfl ?_
                    refine JL.gnone rfl rfl rfl ?_
                    refine JL.gnone rfl rfl rfl ?_
                    refine JL.gnone rfl rfl rfl ?_
                    refine JL.gnone rfl rfl rfl ?_
                    refine JL.gskip rfl rfl rfl rfl ?_
                    refine JL.val (yl_pick_true rfl rfl) rfl ?_
                    have he := Option.some.inj hres
                    exact JL.weak [0, 1, 4, 5] K ⟨rfl, rfl, rfl, rfl, rfl, rfl, rfl, rfl, (by rw [← he]; rfl), trivial⟩ (by decide) rfl
                  · refine JL.set (d := 129) (v := .bool false) (congrArg (fun b => some (Value.bool b)) hb) ?_
                    refine JL.gval rfl rfl (yl_move rfl) rfl ?_
                    refine JL.gval rfl rfl (yl_sneq rfl rfl) rfl ?_
                    refine JL.gval rfl rfl (yl_move rfl) rfl ?_
                    obtain ⟨cb49, hcb49, hres⟩ := bind_some hres
                    refine JL.cut (K := fun J => J [(3, .slice a3 x2.1.length cp4), (4, .int .i64 x2.2), (5, .slice a7 x6.1.length cp8), (6, .int .i64 x6.2), (24, .slice a37 x36.1.length cp38), (25, .bool x36.2), (26, .slice a41 x40.1.length cp42), (27, .bool x40.2), (129, .bool false), (141, .bool cb49)] [rowT 88 eSToolMove a3 x2.1.length cp4 x2.1, rowT 88 eSToolMove a7 x6.1.length cp8 x6.1, rowT 88 eSToolMove a37 x36.1.length cp38 x36.1, rowT 88 eSToolMove a41 x40.1.length cp42 x40.1]) 9 ?_ ?_
                    · refine JL.val (yl_pick_false rfl rfl) rfl ?_
                      have he := Option.some.inj hres
                      exact JL.weak [0, 1, 2, 3] K ⟨rfl, rfl, rfl, rfl, rfl, rfl, rfl, rfl, (by rw [← he]; rfl), trivial⟩ (by decide) rfl
                    · intro K
                      rcases cond_some hcb49 with ⟨hb, hres⟩ | ⟨hb, hres⟩
                      · refine JL.set (d := 132) (v := .bool true) (congrArg (fun b => some (Value.bool b)) hb) ?_
                        refine JL.gval rfl rfl (yl_move rfl) rfl ?_
                        refine JL.gval rfl rfl (yl_not rfl) rfl ?_
                        refine JL.gval rfl rfl (yl_move rfl) rfl ?_
                        obtain ⟨cb50, hcb50, hres⟩ := bind_some hres
                        refine JL.cut (K := fun J => J [(3, .slice a3 x2.1.length cp4), (4, .int .i64 x2.2), (5, .slice a7 x6.1.length cp8), (6, .int .i64 x6.2), (24, .slice a37 x36.1.length cp38), (25, .bool x36.2), (26, .slice a41 x40.1.length cp42), (27, .bool x40.2), (129, .bool false), (132, .bool true), (140, .bool cb50)] [rowT 88 eSToolMove a3 x2.1.length cp4 x2.1, rowT 88 eSToolMove a7 x6.1.length cp8 x6.1, rowT 88 eSToolMove a37 x36.1.length cp38 x36.1, rowT 88 eSToolMove a41 x40.1.length cp42 x40.1]) 5 ?_ ?_
                        · refine JL.gval rfl rfl (yl_pick_true rfl rfl) rfl ?_
                          have he := Option.some.inj hres
                          exact JL.weak [0, 1, 2, 3] K ⟨rfl, rfl, rfl, rfl, rfl, rfl, rfl, rfl, rfl, (by rw [← he]; rfl), trivial⟩ (by decide) rfl
                        · intro K
                          rcases cond_some hcb50 with ⟨hb, hres⟩ | ⟨hb, hres⟩
                          · refine JL.set (d := 135) (v := .bool true) (congrArg (fun b => some (Value.bool b)) hb) ?_
                            refine JL.gskip rfl rfl rfl rfl ?_
                            refine JL.gskip rfl rfl rfl rfl ?_
                            refine JL.gskip rfl rfl rfl rfl ?_
                            refine JL.gskip rfl rfl rfl rfl ?_
                            refine JL.gval rfl rfl (yl_pick_true rfl rfl) rfl ?_
                            have he := Option.some.inj hres
                            exact JL.weak [0, 1, 4, 5] K ⟨rfl, rfl, rfl, rfl, rfl, rfl, rfl, rfl, rfl, rfl, (by rw [← he]; rfl), trivial⟩ (by decide) rfl
                          · refine JL.set (d := 135) (v := .bool false) (congrArg (fun b => some (Value.bool b)) hb) ?_
                            refine JL.gval rfl rfl (yl_move rfl) rfl ?_
                            refine JL.gval rfl rfl (yl_move rfl) rfl ?_
                            obtain ⟨x51, hx51, hres⟩ := bind_some hres
                            refine JL.geff rfl rfl (ef_call (T := T61 x51) Go.Proofs.Try.func61 rfl (by kernel_rfl) rfl (fun w hC => c61 (rd_row hC 3 rfl) rfl (ln_row hC 3 rfl) (rd_row hC 2 rfl) rfl (ln_row hC 2 rfl) hx51)) rfl ?_
                            rintro _ _ ⟨_, ⟨rfl, rfl⟩, rfl⟩
                            refine JL.gval rfl rfl (yl_not rfl) rfl ?_
                            refine JL.gval rfl rfl (yl_pick_false rfl rfl) rfl ?_
                            have he := Option.some.inj hres
                            exact JL.weak [0, 1, 4, 5] K ⟨rfl, rfl, rfl, rfl, rfl, rfl, rfl, rfl, rfl, rfl, (by rw [← he]; rfl), trivial⟩ (by decide) rfl
                      · refine JL.set (d := 132) (v := .bool false) (congrArg (fun b => some (Value.bool b)) hb) ?_
                        refine JL.gskip rfl rfl rfl rfl ?_
                        refine JL.gskip rfl rfl rfl rfl ?_
                        refine JL.gskip rfl rfl rfl rfl ?_
                        refine JL.gnone rfl rfl rfl ?_
                        refine JL.gnone rfl rfl rfl ?_
                        refine JL.gnone rfl rfl rfl ?_
                        refine JL.gnone rfl rfl rfl ?_
                        refine JL.gskip rfl rfl rfl rfl ?_
                        refine JL.gval rfl rfl (yl_pick_false rfl rfl) rfl ?_
                        have he := Option.some.inj hres
                        exact JL.weak [0, 1, 4, 5] K ⟨rfl, rfl, rfl, rfl, rfl, rfl, rfl, rfl, rfl, (by rw [← he]; rfl), trivial⟩ (by decide) rfl
              · intro K
                rcases cond_some hcb46 with ⟨hb, hres⟩ | ⟨hb, hres⟩
                · refine JL.set (d := 123) (v := .bool true) (congrArg (fun b => some (Value.bool b)) hb) ?_
                  refine JL.gskip rfl rfl rfl rfl ?_
                  refine JL.gskip rfl rfl rfl rfl ?_
                  refine JL.gskip rfl rfl rfl rfl ?_
                  refine JL.gskip rfl rfl rfl rfl ?_
                  refine JL.val (yl_pick_true rfl rfl) rfl ?_
                  have he := Option.some.inj hres
                  exact JL.weak [0, 1, 2, 3, 4, 5] K ⟨rfl, rfl, rfl, rfl, rfl, rfl, rfl, rfl, rfl, rfl, rfl, rfl, (by rw [← he]; rfl), trivial⟩ (by decide) rfl
                · refine JL.set (d := 123) (v := .bool false) (congrArg (fun b => some (Value.bool b)) hb) ?_
                  refine JL.gval rfl rfl (yl_move rfl) rfl ?_
                  refine JL.gval rfl rfl (yl_move rfl) rfl ?_
                  obtain ⟨x47, hx47, hres⟩ := bind_some hres
                  refine JL.geff rfl rfl (ef_call (T := T77 x47) Go.Proofs.Try.func77 rfl (by kernel_rfl) rfl (fun w hC => c77 (rd_row hC 2 rfl) rfl (ln_row hC 2 rfl) hx47)) rfl ?_
                  rintro _ _ ⟨_, ⟨rfl, rfl⟩, rfl⟩
                  refine JL.gval rfl rfl (yl_sneq rfl rfl) rfl ?_
                  refine JL.val (yl_pick_false rfl rfl) rfl ?_
                  have he := Option.some.inj hres
                  exact JL.weak [0, 1, 2, 3, 4, 5] K ⟨rfl, rfl, rfl, rfl, rfl, rfl, rfl, rfl, rfl, rfl, rfl, rfl, (by rw [← he]; rfl), trivial⟩ (by decide) rfl
            · intro K
              rcases Bool.eq_false_or_eq_true (((cb44 || (x18.2 != x19.2)) || (x18.1 != x19.1)) || (x24.2 != x25.2)) with hb | hb
              · refine JL.set (d := 118) (v := .bool true) (congrArg (fun b => some (Value.bool b)) hb) ?_
                refine JL.gskip rfl rfl rfl rfl ?_
                refine JL.gskip rfl rfl rfl rfl ?_
                refine JL.gskip rfl rfl rfl rfl ?_
                refine JL.val (yl_pick_true rfl rfl) rfl ?_
                exact JL.weak [0, 1, 2, 3, 4, 5] K ⟨rfl, rfl, rfl, rfl, rfl, rfl, rfl, rfl, rfl, rfl, rfl, rfl, (by rw [hb]; rfl), trivial⟩ (by decide) rfl
              · refine JL.set (d := 118) (v := .bool false) (congrArg (fun b => some (Value.bool b)) hb) ?_
                refine JL.gval rfl rfl (yl_move rfl) rfl ?_
                refine JL.gval rfl rfl (yl_move rfl) rfl ?_
                refine JL.gval rfl rfl (yl_neq rfl rfl) rfl ?_
                refine JL.val (yl_pick_false rfl rfl) rfl ?_
                exact JL.weak [0, 1, 2, 3, 4, 5] K ⟨rfl, rfl, rfl, rfl, rfl, rfl, rfl, rfl, rfl, rfl, rfl, rfl, (by rw [hb]; rfl), trivial⟩ (by decide) rfl
          · intro K
            rcases Bool.eq_false_or_eq_true ((cb44 || (x18.2 != x19.2)) || (x18.1 != x19.1)) with hb | hb
            · refine JL.set (d := 113) (v := .bool true) (congrArg (fun b => some (Value.bool b)) hb) ?_
              refine JL.gskip rfl rfl rfl rfl ?_
              refine JL.gskip rfl rfl rfl rfl ?_
              refine JL.gskip rfl rfl rfl rfl ?_
              refine JL.val (yl_pick_true rfl rfl) rfl ?_
              exact JL.weak [0, 1, 2, 3, 4, 5] K ⟨rfl, rfl, rfl, rfl, rfl, rfl, rfl, rfl, rfl, rfl, rfl, rfl, rfl, rfl, (by rw [hb]; rfl), trivial⟩ (by decide) rfl
            · refine JL.set (d := 113) (v := .bool false) (congrArg (fun b => some (Value.bool b)) hb) ?_
              refine JL.gval rfl rfl (yl_move rfl) rfl ?_
              refine JL.gval rfl rfl (yl_move rfl) rfl ?_
              refine JL.gval rfl rfl (yl_neq rfl rfl) rfl ?_
              refine JL.val (yl_pick_false rfl rfl) rfl ?_
              exact JL.weak [0, 1, 2, 3, 4, 5] K ⟨rfl, rfl, rfl, rfl, rfl, rfl, rfl, rfl, rfl, rfl, rfl, rfl, rfl, rfl, (by rw [hb]; rfl), trivial⟩ (by decide) rfl
        · intro K
          rcases Bool.eq_false_or_eq_true (cb44 || (x18.2 != x19.2)) with hb | hb
          · refine JL.set (d := 108) (v := .bool true) (congrArg (fun b => some (Value.bool b)) hb) ?_
            refine JL.gskip rfl rfl rfl rfl ?_
            refine JL.gskip rfl rfl rfl rfl ?_
            refine JL.gskip rfl rfl rfl rfl ?_
            refine JL.val (yl_pick_true rfl rfl) rfl ?_
            exact JL.weak [0, 1, 2, 3, 4, 5] K ⟨rfl, rfl, rfl, rfl, rfl, rfl, rfl, rfl, rfl, rfl, rfl, rfl, rfl, rfl, rfl, rfl, (by rw [hb]; rfl), trivial⟩ (by decide) rfl
          · refine JL.set (d := 108) (v := .bool false) (congrArg (fun b => some (Value.bool b)) hb) ?_
            refine JL.gval rfl rfl (yl_move rfl) rfl ?_
            refine JL.gval rfl rfl (yl_move rfl) rfl ?_
            refine JL.gval rfl rfl (yl_neq rfl rfl) rfl ?_
            refine JL.val (yl_pick_false rfl rfl) rfl ?_
            exact JL.weak [0, 1, 2, 3, 4, 5] K ⟨rfl, rfl, rfl, rfl, rfl, rfl, rfl, rfl, rfl, rfl, rfl, rfl, rfl, rfl, rfl, rfl, (by rw [hb]; rfl), trivial⟩ (by decide) rfl
      · intro K
        rcases Bool.eq_false_or_eq_true (cb44) with hb | hb
        · refine JL.set (d := 103) (v := .bool true) (congrArg (fun b => some (Value.bool b)) hb) ?_
          refine JL.gskip rfl rfl rfl rfl ?_
          refine JL.gskip rfl rfl rfl rfl ?_
          refine JL.gskip rfl rfl rfl rfl ?_
          refine JL.val (yl_pick_true rfl rfl) rfl ?_
          exact JL.weak [0, 1, 2, 3, 4, 5] K ⟨rfl, rfl, rfl, rfl, rfl, rfl, rfl, rfl, rfl, rfl, rfl, rfl, rfl, rfl, rfl, rfl, rfl, rfl, (by rw [hb]; rfl), trivial⟩ (by decide) rfl
        · refine JL.set (d := 103) (v := .bool false) (congrArg (fun b => some (Value.bool b)) hb) ?_
          refine JL.gval rfl rfl (yl_move rfl) rfl ?_
          refine JL.gval rfl rfl (yl_move rfl) rfl ?_
          refine JL.gval rfl rfl (yl_neq rfl rfl) rfl ?_
          refine JL.val (yl_pick_false rfl rfl) rfl ?_
          exact JL.weak [0, 1, 2, 3, 4, 5] K ⟨rfl, rfl, rfl, rfl, rfl, rfl, rfl, rfl, rfl, rfl, rfl, rfl, rfl, rfl, rfl, rfl, rfl, rfl, (by rw [hb]; rfl), trivial⟩ (by decide) rfl
    · intro K
      rcases cond_some hcb44 with ⟨hb, hres⟩ | ⟨hb, hres⟩
      · refine JL.set (d := 97) (v := .bool true) (congrArg (fun b => some (Value.bool b)) hb) ?_
        refine JL.gskip rfl rfl rfl rfl ?_
        refine JL.gskip rfl rfl rfl rfl ?_
        refine JL.gskip rfl rfl rfl rfl ?_
        refine JL.gskip rfl rfl rfl rfl ?_
        refine JL.val (yl_pick_true rfl rfl) rfl ?_
        have he := Option.some.inj hres
        exact JL.weak [0, 1, 3, 4, 5, 6] K ⟨rfl, rfl, rfl, rfl, rfl, rfl, rfl, rfl, rfl, rfl, rfl, rfl, rfl, rfl, rfl, rfl, rfl, rfl, rfl, rfl, (by rw [← he]; rfl), trivial⟩ (by decide) rfl
      · refine JL.set (d := 97) (v := .bool false) (congrArg (fun b => some (Value.bool b)) hb) ?_
        refine JL.gval rfl rfl (yl_move rfl) rfl ?_
        refine JL.gval rfl rfl (yl_move rfl) rfl ?_
        obtain ⟨x45, hx45, hres⟩ := bind_some hres
        refine JL.geff rfl rfl (ef_call (T := T61 x45) Go.Proofs.Try.func61 rfl (by kernel_rfl) rfl (fun w hC => c61 (rd_row hC 1 rfl) rfl (ln_row hC 1 rfl) (rd_row hC 2 rfl) rfl (ln_row hC 2 rfl) hx45)) rfl ?_
        rintro _ _ ⟨_, ⟨rfl, rfl⟩, rfl⟩
        refine JL.gval rfl rfl (yl_not rfl) rfl ?_
        refine JL.val (yl_pick_false rfl rfl) rfl ?_
        have he := Option.some.inj hres
        exact JL.weak [0, 1, 3, 4, 5, 6] K ⟨rfl, rfl, rfl, rfl, rfl, rfl, rfl, rfl, rfl, rfl, rfl, rfl, rfl, rfl, rfl, rfl, rfl, rfl, rfl, rfl, (by rw [← he]; rfl), trivial⟩ (by decide) rfl

end Go.Sh
