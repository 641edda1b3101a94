/- Walks through functions that the law reaches, printed by program. -/
import Derived.Test.YtinipjijgggjkaaF14W2
set_option linter.unusedVariables false
set_option linter.unusedSimpArgs false
namespace Go.Sh
open Go Go.RowKit
/- laws.FnStrokes -/
def sh14_1 (x2 : List SPoint) (x6 : SPoint × SPoint × Int) : Int → Option (Int ⊕ (Unit ⊕ Bool))
  | x89 => bif decide (x89 < (x2.length : Int)) then (Option.bind (getI x2 x89) fun x91 => Option.bind (bif decide (x91.X < x6.1.X) then (some true) else (Option.bind (getI x2 x89) fun x93 => some (decide (x93.Y < x6.1.Y)))) fun cb92 => (Option.bind (bif cb92 then (some true) else (Option.bind (getI x2 x89) fun x95 => some (decide (x6.2.1.X < x95.X)))) fun cb94 => (Option.bind (bif cb94 then (some true) else (Option.bind (getI x2 x89) fun x97 => some (decide (x6.2.1.Y < x97.Y)))) fun cb96 => (bif cb96 then (some (.inr (.inr false))) else (some (.inl (w64 (x89 + 1)))))))) else (some (.inr (.inl ())))
def sh14_2 (x2 : List SPoint) (x6 : SPoint × SPoint × Int) : Int → Option (Int ⊕ (Unit ⊕ Bool))
  | x100 => bif decide (x100 < (x2.length : Int)) then (Option.bind (getI x2 x100) fun x102 => Option.bind (bif decide (x102.X < x6.1.X) then (some true) else (Option.bind (getI x2 x100) fun x104 => some (decide (x104.Y < x6.1.Y)))) fun cb103 => (Option.bind (bif cb103 then (some true) else (Option.bind (getI x2 x100) fun x106 => some (decide (x6.2.1.X < x106.X)))) fun cb105 => (Option.bind (bif cb105 then (some true) else (Option.bind (getI x2 x100) fun x108 => some (decide (x6.2.1.Y < x108.Y)))) fun cb107 => (bif cb107 then (some (.inr (.inr false))) else (some (.inl (w64 (x100 + 1)))))))) else (some (.inr (.inl ())))
def sh14_3 (x2 : List SPoint) (x6 : SPoint × SPoint × Int) : Int → Option (Int ⊕ (Unit ⊕ Bool))
  | x121 => bif decide (x121 < (x2.length : Int)) then (Option.bind (getI x2 x121) fun x123 => Option.bind (bif decide (x123.X < x6.1.X) then (some true) else (Option.bind (getI x2 x121) fun x125 => some (decide (x125.Y < x6.1.Y)))) fun cb124 => (Option.bind (bif cb124 then (some true) else (Option.bind (getI x2 x121) fun x127 => some (decide (x6.2.1.X < x127.X)))) fun cb126 => (Option.bind (bif cb126 then (some true) else (Option.bind (getI x2 x121) fun x129 => some (decide (x6.2.1.Y < x129.Y)))) fun cb128 => (bif cb128 then (some (.inr (.inr false))) else (some (.inl (w64 (x121 + 1)))))))) else (some (.inr (.inl ())))
def sh14_4 (x2 : List SPoint) (x6 : SPoint × SPoint × Int) : Int → Option (Int ⊕ (Unit ⊕ Bool))
  | x132 => bif decide (x132 < (x2.length : Int)) then (Option.bind (getI x2 x132) fun x134 => Option.bind (bif decide (x134.X < x6.1.X) then (some true) else (Option.bind (getI x2 x132) fun x136 => some (decide (x136.Y < x6.1.Y)))) fun cb135 => (Option.bind (bif cb135 then (some true) else (Option.bind (getI x2 x132) fun x138 => some (decide (x6.2.1.X < x138.X)))) fun cb137 => (Option.bind (bif cb137 then (some true) else (Option.bind (getI x2 x132) fun x140 => some (decide (x6.2.1.Y < x140.Y)))) fun cb139 => (bif cb139 then (some (.inr (.inr false))) else (some (.inl (w64 (x132 + 1)))))))) else (some (.inr (.inl ())))
def sh14 (q0 : List Int) : Option (Bool) := Option.bind (sh45 q0) fun x1 => bif x1 then (some true) else (Option.bind (sh61 q0) fun x2 => Option.bind (sh62 x2) fun x6 => Option.bind (sh63 x2) fun x11 => Option.bind (sh64 q0) fun x16 => Option.bind (sh65 x16.1 x16.2) fun x20 => Option.bind (sh66 x16.1 x16.2) fun x24 => Option.bind (sh67 q0) fun x28 => Option.bind (sh68 x28) fun x32 => Option.bind (sh69 x28) fun x36 => Option.bind (sh70 q0) fun x40 => Option.bind (sh71 x40.1 x40.2.1 x40.2.2) fun x48 => Option.bind (sh72 x40.1 x40.2.1 x40.2.2) fun x51 => Option.bind (sh73 q0) fun x54 => Option.bind (sh74 x54.1 x54.2) fun x58 => Option.bind (sh75 x54.1 x54.2) fun x59 => Option.bind (sh76 q0) fun x60 => Option.bind (bif (((x6.2.2 != x11.2.2) || (!(((x6.1.X == x11.1.X) && ((x6.1.Y == x11.1.Y) && true))))) || (!(((x6.2.1.X == x11.2.1.X) && ((x6.2.1.Y == x11.2.1.Y) && true))))) || (x20.2 != x24.2) then (some true) else (Option.bind (sh77 x20.1 x24.1) fun x65 => some !x65)) fun cb64 => (Option.bind (bif cb64 || (x32.2 != x36.2) then (some true) else (Option.bind (sh77 x32.1 x36.1) fun x67 => some !x67)) fun cb66 => (Option.bind (bif (((cb66 || (x48.2 != x51.2)) || (!(((x48.1.X == x51.1.X) && ((x48.1.Y == x51.1.Y) && true))))) || (x58.2 != x59.2)) || (x58.1 != x59.1) then (some true) else (Option.bind (sh78 x60) fun x69 => Option.bind (sh79 x60) fun x70 => some (x69 != x70))) fun cb68 => (bif cb68 then (some false) else (bif x20.2 == 0 then (Option.bind (sh65 x20.1 x16.2) fun x71 => Option.bind (bif x71.2 != 0 then (some true) else (Option.bind (sh77 x71.1 x20.1) fun x76 => some !x76)) fun cb75 => (bif cb75 then (some false) else (bif x32.2 == 0 then (Option.bind (sh62 x28) fun x77 => Option.bind (sh62 x32.1) fun x82 => bif (((((x77.2.2 != 0) || (x82.2.2 != 0)) || (decide (x82.1.X < x77.1.X))) || (decide (x82.1.Y < x77.1.Y))) || (decide (x77.2.1.X < x82.2.1.X))) || (decide (x77.2.1.Y < x82.2.1.Y)) then (some false) else (Option.bind (bif x48.2 == 0 then (Option.bind (sh80 x40.1 x48.1) fun x88 => some !x88) else (some false)) fun cb87 => (bif cb87 then (some false) else (bif x6.2.2 != 0 then (some true) else (Option.bind (iter (sh14_1 x2 x6) 0) fun y1 => elimS y1 (fun r => some r) fun b1 => (some true)))))) else (Option.bind (bif x48.2 == 0 then (Option.bind (sh80 x40.1 x48.1) fun x99 => some !x99) else (some false)) fun cb98 => (bif cb98 then (some false) else (bif x6.2.2 != 0 then (some true) else (Option.bind (iter (sh14_2 x2 x6) 0) fun y2 => elimS y2 (fun r => some r) fun b2 => (some true)))))))) else (bif x32.2 == 0 then (Option.bind (sh62 x28) fun x109 => Option.bind (sh62 x32.1) fun x114 => bif (((((x109.2.2 != 0) || (x114.2.2 != 0)) || (decide (x114.1.X < x109.1.X))) || (decide (x114.1.Y < x109.1.Y))) || (decide (x109.2.1.X < x114.2.1.X))) || (decide (x109.2.1.Y < x114.2.1.Y)) then (some false) else (Option.bind (bif x48.2 == 0 then (Option.bind (sh80 x40.1 x48.1) fun x120 => some !x120) else (some false)) fun cb119 => (bif cb119 then (some false) else (bif x6.2.2 != 0 then (some true) else (Option.bind (iter (sh14_3 x2 x6) 0) fun y3 => elimS y3 (fun r => some r) fun b3 => (some true)))))) else (Option.bind (bif x48.2 == 0 then (Option.bind (sh80 x40.1 x48.1) fun x131 => some !x131) else (some false)) fun cb130 => (bif cb130 then (some false) else (bif x6.2.2 != 0 then (some true) else (Option.bind (iter (sh14_4 x2 x6) 0) fun y4 => elimS y4 (fun r => some r) fun b4 => (some true)))))))))))
def T14 (r : Bool) (v : Value) (rs : List Own) : Prop := v = rets [.bool r] ∧ rs = []
set_option maxRecDepth 100000 in
set_option maxHeartbeats 1000000 in
theorem c14 {w : World} {q0 : List Int} {a_0 : Option Addr} {n_0 c_0 : Nat} (g_0 : Rd w a_0 (eU8.fl q0)) (l_0 : q0.length = n_0) (k_0 : n_0 ≤ c_0) {r : Bool} (hres : sh14 q0 = some r) : Calls Go.Proofs.Try.prog 14 [.slice a_0 n_0 c_0].toArray w (Ret w (T14 r)) := by
  subst l_0
  unfold sh14 at hres
  refine calls_of (n := 308) (M := []) (es := []) Go.Proofs.Try.func14 rfl rfl rfl (Sep.nil _ _ _) ?_
  refine JX.seq ?_
  refine JX.region ?_
  refine JL.val (yl_assign rfl) rfl ?_
  refine JL.nil ?_
  refine JE.code ?_
  refine JX.seq ?_
  refine JX.seq ?_
  refine JX.region ?_
  refine JL.val (yl_move rfl) rfl ?_
  obtain ⟨x1, hx1, hres⟩ := bind_some hres
  refine JL.eff (ef_call (T := T45 x1) Go.Proofs.Try.func45 rfl (by kernel_rfl) rfl (fun w hC => c45 (rd_arg g_0 hC) rfl k_0 hx1)) rfl ?_
  rintro _ _ ⟨_, ⟨rfl, rfl⟩, rfl⟩
  refine JL.nil ?_
  refine JE.code ?_
  rcases cond_some hres with ⟨hb, hres⟩ | ⟨hb, hres⟩
  · refine JX.condT rfl hb ?_
    refine JX.seq ?_
    refine JX.region ?_
    refine JL.val (yl_assign rfl) rfl ?_
    refine JL.nil ?_
    refine JE.code ?_
    refine JX.ret ?_
    obtain rfl := Option.some.inj hres
    refine JE.ret (rs := [.tmp 2]) (vs := [.bool true]) rfl ⟨rfl, trivial⟩ ?_
    exact fun w' hb hs => ⟨_, _, ⟨rfl, rfl⟩, rfl, hb, hs.sel [] _ (by decide) rfl⟩
  · refine JX.condF rfl hb ?_
    refine JX.skip ?_
    refine JE.code ?_
    refine JX.seq ?_
    refine JX.region ?_
    refine JL.val (yl_move rfl) rfl ?_
    obtain ⟨x2, hx2, hres⟩ := bind_some hres
    refine JL.eff (ef_call (T := T61 x2) Go.Proofs.Try.func61 rfl (by kernel_rfl) rfl (fun w hC => c61 (rd_arg g_0 hC) rfl k_0 hx2)) rfl ?_
    rintro _ _ ⟨_, ⟨a3, _, cp4, rfl, rfl, rfl⟩, rfl⟩
    refine JL.val (yl_assign rfl) rfl ?_
    refine JL.nil ?_
    refine JE.code ?_
    refine JX.seq ?_
    refine JX.region ?_
    refine JL.val (yl_move rfl) rfl ?_
    obtain ⟨x6, hx6, hres⟩ := bind_some hres
    refine JL.eff (ef_call (T := T62 x6) Go.Proofs.Try.func62 rfl (by kernel_rfl) rfl (fun w hC => c62 (rd_row hC 0 rfl) rfl (ln_row hC 0 rfl) hx6)) rfl ?_
    rintro _ _ ⟨_, ⟨rfl, rfl⟩, rfl⟩
    refine JL.val (yl_move rfl) rfl ?_
    refine JL.val (yl_extract rfl rfl) rfl ?_
    refine JL.val (yl_extract rfl rfl) rfl ?_
    refine JL.val (yl_extract rfl rfl) rfl ?_
    refine JL.eff (ef_alloc i35 i35z rfl) rfl ?_
    rintro _ _ ⟨g7, rfl, rfl⟩
    refine JL.eff (ef_alloc i35 i35z rfl) rfl ?_
    rintro _ _ ⟨g9, rfl, rfl⟩
    refine JL.eff (ef_store_box (i := 1) (v := .agg #[.int .i64 x6.1.X, .int .i64 x6.1.Y]) i35 rfl rfl rfl (i35s).symm (Nat.le_of_ble_eq_true rfl) (by simp [Value.cells, Value.oneCell'])) rfl ?_
    rintro _ _ rfl
    refine JL.eff (ef_store_box (i := 2) (v := .agg #[.int .i64 x6.2.1.X, .int .i64 x6.2.1.Y]) i35 rfl rfl rfl (i35s).symm (Nat.le_of_ble_eq_true rfl) (by simp [Value.cells, Value.oneCell'])) rfl ?_
    rintro _ _ rfl
    refine JL.val (yl_assign rfl) rfl ?_
    refine JL.nil ?_
    refine JE.weak (env' := [(0, .slice a_0 q0.length c_0), (3, .slice a3 x2.length cp4), (4, ptrAt (some ⟨g7, 0, none⟩) 0), (5, ptrAt (some ⟨g9, 0, none⟩) 0), (6, .int .i64 x6.2.2)]) (es' := [rowT 35 eSPoint a3 x2.length cp4 x2, boxO 35 g7 [.int .i64 x6.1.X, .int .i64 x6.1.Y], boxO 35 g9 [.int .i64 x6.2.1.X, .int .i64 x6.2.1.Y]]) [0, 1, 2] ?_ ⟨rfl, rfl, rfl, rfl, rfl, trivial⟩ (by decide) rfl
    refine JE.code ?_
    refine JX.seq ?_
    refine JX.region ?_
    refine JL.val (yl_move rfl) rfl ?_
    obtain ⟨x11, hx11, hres⟩ := bind_some hres
    refine JL.eff (ef_call (T := T63 x11) Go.Proofs.Try.func63 rfl (by kernel_rfl) rfl (fun w hC => c63 (rd_row hC 0 rfl) rfl (ln_row hC 0 rfl) hx11)) rfl ?_
    rintro _ _ ⟨_, ⟨rfl, rfl⟩, rfl⟩
    refine JL.val (yl_move rfl) rfl ?_
    refine JL.val (yl_extract rfl rfl) rfl ?_
    refine JL.val (yl_extract rfl rfl) rfl ?_
    refine JL.val (yl_extract rfl rfl) rfl ?_
    refine JL.eff (ef_alloc i35 i35z rfl) rfl ?_
    rintro _ _ ⟨g12, rfl, rfl⟩
    refine JL.eff (ef_alloc i35 i35z rfl) rfl ?_
    rintro _ _ ⟨g14, rfl, rfl⟩
    refine JL.eff (ef_store_box (i := 3) (v := .agg #[.int .i64 x11.1.X, .int .i64 x11.1.Y]) i35 rfl rfl rfl (i35s).symm (Nat.le_of_ble_eq_true rfl) (by simp [Value.cells, Value.oneCell'])) rfl ?_
    rintro _ _ rfl
    refine JL.eff (ef_store_box (i := 4) (v := .agg #[.int .i64 x11.2.1.X, .int .i64 x11.2.1.Y]) i35 rfl rfl rfl (i35s).symm (Nat.le_of_ble_eq_true rfl) (by simp [Value.cells, Value.oneCell'])) rfl ?_
    rintro _ _ rfl
    refine JL.val (yl_assign rfl) rfl ?_
    refine JL.nil ?_
    refine JE.weak (env' := [(0, .slice a_0 q0.length c_0), (3, .slice a3 x2.length cp4), (4, ptrAt (some ⟨g7, 0, none⟩) 0), (5, ptrAt (some ⟨g9, 0, none⟩) 0), (6, .int .i64 x6.2.2), (7, ptrAt (some ⟨g12, 0, none⟩) 0), (8, ptrAt (some ⟨g14, 0, none⟩) 0), (9, .int .i64 x11.2.2)]) (es' := [rowT 35 eSPoint a3 x2.length cp4 x2, boxO 35 g7 [.int .i64 x6.1.X, .int .i64 x6.1.Y], boxO 35 g9 [.int .i64 x6.2.1.X, .int .i64 x6.2.1.Y], boxO 35 g12 [.int .i64 x11.1.X, .int .i64 x11.1.Y], boxO 35 g14 [.int .i64 x11.2.1.X, .int .i64 x11.2.1.Y]]) [0, 1, 2, 3, 4] ?_ ⟨rfl, rfl, rfl, rfl, rfl, rfl, rfl, rfl, trivial⟩ (by decide) rfl
    refine JE.code ?_
    refine JX.seq ?_
    refine JX.region ?_
    refine JL.val (yl_move rfl) rfl ?_
    obtain ⟨x16, hx16, hres⟩ := bind_some hres
    refine JL.eff (ef_call (T := T64 x16) Go.Proofs.Try.func64 rfl (by kernel_rfl) rfl (fun w hC => c64 (rd_arg g_0 hC) rfl k_0 hx16)) rfl ?_
    rintro _ _ ⟨_, ⟨a17, _, cp18, rfl, rfl, rfl⟩, rfl⟩
    refine JL.val (yl_move rfl) rfl ?_
    refine JL.val (yl_extract rfl rfl) rfl ?_
    refine JL.val (yl_extract rfl rfl) rfl ?_
    refine JL.val (yl_assign rfl) rfl ?_
    refine JL.val (yl_assign rfl) rfl ?_
    refine JL.nil ?_
    refine JE.weak (env' := [(0, .slice a_0 q0.length c_0), (3, .slice a3 x2.length cp4), (4, ptrAt (some ⟨g7, 0, none⟩) 0), (5, ptrAt (some ⟨g9, 0, none⟩) 0), (6, .int .i64 x6.2.2), (7, ptrAt (some ⟨g12, 0, none⟩) 0), (8, ptrAt (some ⟨g14, 0, none⟩) 0), (9, .int .i64 x11.2.2), (10, .slice a17 x16.1.length cp18), (11, .int .i64 x16.2)]) (es' := [rowT 35 eSPoint a3 x2.length cp4 x2, boxO 35 g7 [.int .i64 x6.1.X, .int .i64 x6.1.Y], boxO 35 g9 [.int .i64 x6.2.1.X, .int .i64 x6.2.1.Y], boxO 35 g12 [.int .i64 x11.1.X, .int .i64 x11.1.Y], boxO 35 g14 [.int .i64 x11.2.1.X, .int .i64 x11.2.1.Y], rowT 35 eSPoint a17 x16.1.length cp18 x16.1]) [0, 1, 2, 3, 4, 5] ?_ ⟨rfl, rfl, rfl, rfl, rfl, rfl, rfl, rfl, rfl, rfl, trivial⟩ (by decide) rfl
    refine JE.code ?_
    refine JX.seq ?_
    refine JX.region ?_
    refine JL.val (yl_move rfl) rfl ?_
    refine JL.val (yl_move rfl) rfl ?_
    obtain ⟨x20, hx20, hres⟩ := bind_some hres
    refine JL.eff (ef_call (T := T65 x20) Go.Proofs.Try.func65 rfl (by kernel_rfl) rfl (fun w hC => c65 (rd_row hC 5 rfl) rfl (ln_row hC 5 rfl) hx20)) rfl ?_
    rintro _ _ ⟨_, ⟨a21, _, cp22, rfl, rfl, rfl⟩, rfl⟩
    refine JL.val (yl_move rfl) rfl ?_
    refine JL.val (yl_extract rfl rfl) rfl ?_
    refine JL.val (yl_extract rfl rfl) rfl ?_
    refine JL.val (yl_assign rfl) rfl ?_
    refine JL.val (yl_assign rfl) rfl ?_
    refine JL.nil ?_
    refine JE.weak (env' := [(0, .slice a_0 q0.length c_0), (3, .slice a3 x2.length cp4), (4, ptrAt (some ⟨g7, 0, none⟩) 0), (5, ptrAt (some ⟨g9, 0, none⟩) 0), (6, .int .i64 x6.2.2), (7, ptrAt (some ⟨g12, 0, none⟩) 0), (8, ptrAt (some ⟨g14, 0, none⟩) 0), (9, .int .i64 x11.2.2), (10, .slice a17 x16.1.length cp18), (11, .int .i64 x16.2), (12, .slice a21 x20.1.length cp22), (13, .int .i64 x20.2)]) (es' := [rowT 35 eSPoint a3 x2.length cp4 x2, boxO 35 g7 [.int .i64 x6.1.X, .int .i64 x6.1.Y], boxO 35 g9 [.int .i64 x6.2.1.X, .int .i64 x6.2.1.Y], boxO 35 g12 [.int .i64 x11.1.X, .int .i64 x11.1.Y], boxO 35 g14 [.int .i64 x11.2.1.X, .int .i64 x11.2.1.Y], rowT 35 eSPoint a17 x16.1.length cp18 x16.1, rowT 35 eSPoint a21 x20.1.length cp22 x20.1]) [0, 1, 2, 3, 4, 5, 6] ?_ ⟨rfl, rfl, rfl, rfl, rfl, rfl, rfl, rfl, rfl, rfl, rfl, rfl, trivial⟩ (by decide) rfl
    refine JE.code ?_
    refine JX.seq ?_
    refine JX.region ?_
    refine JL.val (yl_move rfl) rfl ?_
    refine JL.val (yl_move rfl) rfl ?_
    obtain ⟨x24, hx24, hres⟩ := bind_some hres
    refine JL.eff (ef_call (T := T66 x24) Go.Proofs.Try.func66 rfl (by kernel_rfl) rfl (fun w hC => c66 (rd_row hC 5 rfl) rfl (ln_row hC 5 rfl) hx24)) rfl ?_
    rintro _ _ ⟨_, ⟨a25, _, cp26, rfl, rfl, rfl⟩, rfl⟩
    refine JL.val (yl_move rfl) rfl ?_
    refine JL.val (yl_extract rfl rfl) rfl ?_
    refine JL.val (yl_extract rfl rfl) rfl ?_
    refine JL.val (yl_assign rfl) rfl ?_
    refine JL.val (yl_assign rfl) rfl ?_
    refine JL.nil ?_
    refine JE.weak (env' := [(0, .slice a_0 q0.length c_0), (3, .slice a3 x2.length cp4), (4, ptrAt (some ⟨g7, 0, none⟩) 0), (5, ptrAt (some ⟨g9, 0, none⟩) 0), (6, .int .i64 x6.2.2), (7, ptrAt (some ⟨g12, 0, none⟩) 0), (8, ptrAt (some ⟨g14, 0, none⟩) 0), (9, .int .i64 x11.2.2), (11, .int .i64 x16.2), (12, .slice a21 x20.1.length cp22), (13, .int .i64 x20.2), (14, .slice a25 x24.1.length cp26), (15, .int .i64 x24.2)]) (es' := [rowT 35 eSPoint a3 x2.length cp4 x2, boxO 35 g7 [.int .i64 x6.1.X, .int .i64 x6.1.Y], boxO 35 g9 [.int .i64 x6.2.1.X, .int .i64 x6.2.1.Y], boxO 35 g12 [.int .i64 x11.1.X, .int .i64 x11.1.Y], boxO 35 g14 [.int .i64 x11.2.1.X, .int .i64 x11.2.1.Y], rowT 35 eSPoint a21 x20.1.length cp22 x20.1, rowT 35 eSPoint a25 x24.1.length cp26 x24.1]) [0, 1, 2, 3, 4, 6, 7] ?_ ⟨rfl, rfl, rfl, rfl, rfl, rfl, rfl, rfl, rfl, rfl, rfl, rfl, rfl, trivial⟩ (by decide) rfl
    refine JE.code ?_
    refine JX.seq ?_
    refine JX.region ?_
    refine JL.val (yl_move rfl) rfl ?_
    obtain ⟨x28, hx28, hres⟩ := bind_some hres
    refine JL.eff (ef_call (T := T67 x28) Go.Proofs.Try.func67 rfl (by kernel_rfl) rfl (fun w hC => c67 (rd_arg g_0 hC) rfl k_0 hx28)) rfl ?_
    rintro _ _ ⟨_, ⟨a29, _, cp30, rfl, rfl, rfl⟩, rfl⟩
    refine JL.val (yl_assign rfl) rfl ?_
    refine JL.nil ?_
    refine JE.code ?_
    refine JX.seq ?_
    refine JX.region ?_
    refine JL.val (yl_move rfl) rfl ?_
    obtain ⟨x32, hx32, hres⟩ := bind_some hres
    refine JL.eff (ef_call (T := T68 x32) Go.Proofs.Try.func68 rfl (by kernel_rfl) rfl (fun w hC => c68 (rd_row hC 7 rfl) rfl (ln_row hC 7 rfl) hx32)) rfl ?_
    rintro _ _ ⟨_, ⟨a33, _, cp34, rfl, rfl, rfl⟩, rfl⟩
    refine JL.val (yl_move rfl) rfl ?_
    refine JL.val (yl_extract rfl rfl) rfl ?_
    refine JL.val (yl_extract rfl rfl) rfl ?_
    refine JL.val (yl_assign rfl) rfl ?_
    refine JL.val (yl_assign rfl) rfl ?_
    refine JL.nil ?_
    refine JE.weak (env' := [(0, .slice a_0 q0.length c_0), (3, .slice a3 x2.length cp4), (4, ptrAt (some ⟨g7, 0, none⟩) 0), (5, ptrAt (some ⟨g9, 0, none⟩) 0), (6, .int .i64 x6.2.2), (7, ptrAt (some ⟨g12, 0, none⟩) 0), (8, ptrAt (some ⟨g14, 0, none⟩) 0), (9, .int .i64 x11.2.2), (11, .int .i64 x16.2), (12, .slice a21 x20.1.length cp22), (13, .int .i64 x20.2), (14, .slice a25 x24.1.length cp26), (15, .int .i64 x24.2), (16, .slice a29 x28.length cp30), (17, .slice a33 x32.1.length cp34), (18, .int .i64 x32.2)]) (es' := [rowT 35 eSPoint a3 x2.length cp4 x2, boxO 35 g7 [.int .i64 x6.1.X, .int .i64 x6.1.Y], boxO 35 g9 [.int .i64 x6.2.1.X, .int .i64 x6.2.1.Y], boxO 35 g12 [.int .i64 x11.1.X, .int .i64 x11.1.Y], boxO 35 g14 [.int .i64 x11.2.1.X, .int .i64 x11.2.1.Y], rowT 35 eSPoint a21 x20.1.length cp22 x20.1, rowT 35 eSPoint a25 x24.1.length cp26 x24.1, rowT 35 eSPoint a29 x28.length cp30 x28, rowT 35 eSPoint a33 x32.1.length cp34 x32.1]) [0, 1, 2, 3, 4, 5, 6, 7, 8] ?_ ⟨rfl, rfl, rfl, rfl, rfl, rfl, rfl, rfl, rfl, rfl, rfl, rfl, rfl, rfl, rfl, rfl, trivial⟩ (by decide) rfl
    refine JE.code ?_
    refine JX.seq ?_
    refine JX.region ?_
    refine JL.val (yl_move rfl) rfl ?_
    obtain ⟨x36, hx36, hres⟩ := bind_some hres
    refine JL.eff (ef_call (T := T69 x36) Go.Proofs.Try.func69 rfl (by kernel_rfl) rfl (fun w hC => c69 (rd_row hC 7 rfl) rfl (ln_row hC 7 rfl) hx36)) rfl ?_
    rintro _ _ ⟨_, ⟨a37, _, cp38, rfl, rfl, rfl⟩, rfl⟩
    refine JL.val (yl_move rfl) rfl ?_
    refine JL.val (yl_extract rfl rfl) rfl ?_
    refine JL.val (yl_extract rfl rfl) rfl ?_
    refine JL.val (yl_assign rfl) rfl ?_
    refine JL.val (yl_assign rfl) rfl ?_
    refine JL.nil ?_
    refine JE.weak (env' := [(0, .slice a_0 q0.length c_0), (3, .slice a3 x2.length cp4), (4, ptrAt (some ⟨g7, 0, none⟩) 0), (5, ptrAt (some ⟨g9, 0, none⟩) 0), (6, .int .i64 x6.2.2), (7, ptrAt (some ⟨g12, 0, none⟩) 0), (8, ptrAt (some ⟨g14, 0, none⟩) 0), (9, .int .i64 x11.2.2), (11, .int .i64 x16.2), (12, .slice a21 x20.1.length cp22), (13, .int .i64 x20.2), (14, .slice a25 x24.1.length cp26), (15, .int .i64 x24.2), (16, .slice a29 x28.length cp30), (17, .slice a33 x32.1.length cp34), (18, .int .i64 x32.2), (19, .slice a37 x36.1.length cp38), (20, .int .i64 x36.2)]) (es' := [rowT 35 eSPoint a3 x2.length cp4 x2, boxO 35 g7 [.int .i64 x6.1.X, .int .i64 x6.1.Y], boxO 35 g9 [.int .i64 x6.2.1.X, .int .i64 x6.2.1.Y], boxO 35 g12 [.int .i64 x11.1.X, .int .i64 x11.1.Y], boxO 35 g14 [.int .i64 x11.2.1.X, .int .i64 x11.2.1.Y], rowT 35 eSPoint a21 x20.1.length cp22 x20.1, rowT 35 eSPoint a25 x24.1.length cp26 x24.1, rowT 35 eSPoint a29 x28.length cp30 x28, rowT 35 eSPoint a33 x32.1.length cp34 x32.1, rowT 35 eSPoint a37 x36.1.length cp38 x36.1]) [0, 1, 2, 3, 4, 5, 6, 7, 8, 9] ?_ ⟨rfl, rfl, rfl, rfl, rfl, rfl, rfl, rfl, rfl, rfl, rfl, rfl, rfl, rfl, rfl, rfl, rfl, rfl, trivial⟩ (by decide) rfl
    refine JE.code ?_
    refine JX.seq ?_
    refine JX.region ?_
    refine JL.val (yl_move rfl) rfl ?_
    obtain ⟨x40, hx40, hres⟩ := bind_some hres
    refine JL.eff (ef_call (T := T70 x40) Go.Proofs.Try.func70 rfl (by kernel_rfl) rfl (fun w hC => c70 (rd_arg g_0 hC) rfl k_0 hx40)) rfl ?_
    rintro _ _ ⟨_, ⟨a41, _, cp42, rfl, rfl, rfl⟩, rfl⟩
    refine JL.val (yl_move rfl) rfl ?_
    refine JL.val (yl_extract rfl rfl) rfl ?_
    refine JL.val (yl_extract rfl rfl) rfl ?_
    refine JL.val (yl_extract rfl rfl) rfl ?_
    refine JL.eff (ef_alloc i28 i28z rfl) rfl ?_
    rintro _ _ ⟨g44, rfl, rfl⟩
    refine JL.eff (ef_alloc i35 i35z rfl) rfl ?_
    rintro _ _ ⟨g46, rfl, rfl⟩
    refine JL.eff (ef_store_box (i := 11) (v := .agg #[.int .i64 x40.1.W, .int .i64 x40.1.H, .slice a41 x40.1.Breaks.length cp42]) i28 rfl rfl rfl (i28s).symm (Nat.le_of_ble_eq_true rfl) (by simp [Value.cells, Value.oneCell'])) rfl ?_
    rintro _ _ rfl
    refine JL.eff (ef_store_box (i := 12) (v := .agg #[.int .i64 x40.2.1.X, .int .i64 x40.2.1.Y]) i35 rfl rfl rfl (i35s).symm (Nat.le_of_ble_eq_true rfl) (by simp [Value.cells, Value.oneCell'])) rfl ?_
    rintro _ _ rfl
    refine JL.val (yl_assign rfl) rfl ?_
    refine JL.nil ?_
    refine JE.weak (env' := [(0, .slice a_0 q0.length c_0), (3, .slice a3 x2.length cp4), (4, ptrAt (some ⟨g7, 0, none⟩) 0), (5, ptrAt (some ⟨g9, 0, none⟩) 0), (6, .int .i64 x6.2.2), (7, ptrAt (some ⟨g12, 0, none⟩) 0), (8, ptrAt (some ⟨g14, 0, none⟩) 0), (9, .int .i64 x11.2.2), (11, .int .i64 x16.2), (12, .slice a21 x20.1.length cp22), (13, .int .i64 x20.2), (14, .slice a25 x24.1.length cp26), (15, .int .i64 x24.2), (16, .slice a29 x28.length cp30), (17, .slice a33 x32.1.length cp34), (18, .int .i64 x32.2), (19, .slice a37 x36.1.length cp38), (20, .int .i64 x36.2), (21, ptrAt (some ⟨g44, 0, none⟩) 0), (22, ptrAt (some ⟨g46, 0, none⟩) 0), (23, .int .i64 x40.2.2)]) (es' := [rowT 35 eSPoint a3 x2.length cp4 x2, boxO 35 g7 [.int .i64 x6.1.X, .int .i64 x6.1.Y], boxO 35 g9 [.int .i64 x6.2.1.X, .int .i64 x6.2.1.Y], boxO 35 g12 [.int .i64 x11.1.X, .int .i64 x11.1.Y], boxO 35 g14 [.int .i64 x11.2.1.X, .int .i64 x11.2.1.Y], rowT 35 eSPoint a21 x20.1.length cp22 x20.1, rowT 35 eSPoint a25 x24.1.length cp26 x24.1, rowT 35 eSPoint a29 x28.length cp30 x28, rowT 35 eSPoint a33 x32.1.length cp34 x32.1, rowT 35 eSPoint a37 x36.1.length cp38 x36.1, boxO 28 g44 [.int .i64 x40.1.W, .int .i64 x40.1.H, .slice a41 x40.1.Breaks.length cp42], rowT 2 eI64 a41 x40.1.Breaks.length cp42 x40.1.Breaks, boxO 35 g46 [.int .i64 x40.2.1.X, .int .i64 x40.2.1.Y]]) [0, 1, 2, 3, 4, 5, 6, 7, 8, 9, 11, 10, 12] ?_ ⟨rfl, rfl, rfl, rfl, rfl, rfl, rfl, rfl, rfl, rfl, rfl, rfl, rfl, rfl, rfl, rfl, rfl, rfl, rfl, rfl, rfl, trivial⟩ (by decide) rfl
    refine JE.code ?_
    refine JX.seq ?_
    refine JX.region ?_
    refine JL.val (yl_loadn Go.Proofs.Try.underlying28 rfl i28 rfl (fun w hC => rd_box hC 10 rfl) rfl (i28s).symm i28p) rfl ?_
    refine JL.val (yl_loadn Go.Proofs.Try.underlying35 rfl i35 rfl (fun w hC => rd_box hC 12 rfl) rfl (i35s).symm i35p) rfl ?_
    refine JL.val (yl_move rfl) rfl ?_
    obtain ⟨x48, hx48, hres⟩ := bind_some hres
    refine JL.eff (ef_call (vs := [.agg #[.int .i64 x40.1.W, .int .i64 x40.1.H, .slice a41 x40.1.Breaks.length cp42], .agg #[.int .i64 x40.2.1.X, .int .i64 x40.2.1.Y], .int .i64 x40.2.2]) (T := T71 x48) Go.Proofs.Try.func71 rfl (by kernel_rfl) rfl (fun w hC => c71 (q0 := x40.1) (q1 := x40.2.1) (rd_row hC 11 rfl) rfl (ln_row hC 11 rfl) hx48)) rfl ?_
    rintro _ _ ⟨_, ⟨rfl, rfl⟩, rfl⟩
    refine JL.val (yl_move rfl) rfl ?_
    refine JL.val (yl_extract rfl rfl) rfl ?_
    refine JL.val (yl_extract rfl rfl) rfl ?_
    refine JL.eff (ef_alloc i35 i35z rfl) rfl ?_
    rintro _ _ ⟨g49, rfl, rfl⟩
    refine JL.eff (ef_store_box (i := 13) (v := .agg #[.int .i64 x48.1.X, .int .i64 x48.1.Y]) i35 rfl rfl rfl (i35s).symm (Nat.le_of_ble_eq_true rfl) (by simp [Value.cells, Value.oneCell'])) rfl ?_
    rintro _ _ rfl
    refine JL.val (yl_assign rfl) rfl ?_
    refine JL.nil ?_
    refine JE.weak (env' := [(0, .slice a_0 q0.length c_0), (3, .slice a3 x2.length cp4), (4, ptrAt (some ⟨g7, 0, none⟩) 0), (5, ptrAt (some ⟨g9, 0, none⟩) 0), (6, .int .i64 x6.2.2), (7, ptrAt (some ⟨g12, 0, none⟩) 0), (8, ptrAt (some ⟨g14, 0, none⟩) 0), (9, .int .i64 x11.2.2), (11, .int .i64 x16.2), (12, .slice a21 x20.1.length cp22), (13, .int .i64 x20.2), (14, .slice a25 x24.1.length cp26), (15, .int .i64 x24.2), (16, .slice a29 x28.length cp30), (17, .slice a33 x32.1.length cp34), (18, .int .i64 x32.2), (19, .slice a37 x36.1.length cp38), (20, .int .i64 x36.2), (21, ptrAt (some ⟨g44, 0, none⟩) 0), (22, ptrAt (some ⟨g46, 0, none⟩) 0), (23, .int .i64 x40.2.2), (24, ptrAt (some ⟨g49, 0, none⟩) 0), (25, .int .i64 x48.2)]) (es' := [rowT 35 eSPoint a3 x2.length cp4 x2, boxO 35 g7 [.int .i64 x6.1.X, .int .i64 x6.1.Y], boxO 35 g9 [.int .i64 x6.2.1.X, .int .i64 x6.2.1.Y], boxO 35 g12 [.int .i64 x11.1.X, .int .i64 x11.1.Y], boxO 35 g14 [.int .i64 x11.2.1.X, .int .i64 x11.2.1.Y], rowT 35 eSPoint a21 x20.1.length cp22 x20.1, rowT 35 eSPoint a25 x24.1.length cp26 x24.1, rowT 35 eSPoint a29 x28.length cp30 x28, rowT 35 eSPoint a33 x32.1.length cp34 x32.1, rowT 35 eSPoint a37 x36.1.length cp38 x36.1, boxO 28 g44 [.int .i64 x40.1.W, .int .i64 x40.1.H, .slice a41 x40.1.Breaks.length cp42], rowT 2 eI64 a41 x40.1.Breaks.length cp42 x40.1.Breaks, boxO 35 g46 [.int .i64 x40.2.1.X, .int .i64 x40.2.1.Y], boxO 35 g49 [.int .i64 x48.1.X, .int .i64 x48.1.Y]]) [0, 1, 2, 3, 4, 5, 6, 7, 8, 9, 10, 11, 12, 13] ?_ ⟨rfl, rfl, rfl, rfl, rfl, rfl, rfl, rfl, rfl, rfl, rfl, rfl, rfl, rfl, rfl, rfl, rfl, rfl, rfl, rfl, rfl, rfl, rfl, trivial⟩ (by decide) rfl
    refine JE.code ?_
    refine JX.seq ?_
    refine JX.region ?_
    refine JL.val (yl_loadn Go.Proofs.Try.underlying28 rfl i28 rfl (fun w hC => rd_box hC 10 rfl) rfl (i28s).symm i28p) rfl ?_
    refine JL.val (yl_loadn Go.Proofs.Try.underlying35 rfl i35 rfl (fun w hC => rd_box hC 12 rfl) rfl (i35s).symm i35p) rfl ?_
    refine JL.val (yl_move rfl) rfl ?_
    obtain ⟨x51, hx51, hres⟩ := bind_some hres
    refine JL.eff (ef_call (vs := [.agg #[.int .i64 x40.1.W, .int .i64 x40.1.H, .slice a41 x40.1.Breaks.length cp42], .agg #[.int .i64 x40.2.1.X, .int .i64 x40.2.1.Y], .int .i64 x40.2.2]) (T := T72 x51) Go.Proofs.Try.func72 rfl (by kernel_rfl) rfl (fun w hC => c72 (q0 := x40.1) (q1 := x40.2.1) (rd_row hC 11 rfl) rfl (ln_row hC 11 rfl) hx51)) rfl ?_
    rintro _ _ ⟨_, ⟨rfl, rfl⟩, rfl⟩
    refine JL.val (yl_move rfl) rfl ?_
    refine JL.val (yl_extract rfl rfl) rfl ?_
    refine JL.val (yl_extract rfl rfl) rfl ?_
    refine JL.eff (ef_alloc i35 i35z rfl) rfl ?_
    rintro _ _ ⟨g52, rfl, rfl⟩
    refine JL.eff (ef_store_box (i := 14) (v := .agg #[.int .i64 x51.1.X, .int .i64 x51.1.Y]) i35 rfl rfl rfl (i35s).symm (Nat.le_of_ble_eq_true rfl) (by simp [Value.cells, Value.oneCell'])) rfl ?_
    rintro _ _ rfl
    refine JL.val (yl_assign rfl) rfl ?_
    refine JL.nil ?_
    refine JE.weak (env' := [(0, .slice a_0 q0.length c_0), (3, .slice a3 x2.length cp4), (4, ptrAt (some ⟨g7, 0, none⟩) 0), (5, ptrAt (some ⟨g9, 0, none⟩) 0), (6, .int .i64 x6.2.2), (7, ptrAt (some ⟨g12, 0, none⟩) 0), (8, ptrAt (some ⟨g14, 0, none⟩) 0), (9, .int .i64 x11.2.2), (11, .int .i64 x16.2), (12, .slice a21 x20.1.length cp22), (13, .int .i64 x20.2), (14, .slice a25 x24.1.length cp26), (15, .int .i64 x24.2), (16, .slice a29 x28.length cp30), (17, .slice a33 x32.1.length cp34), (18, .int .i64 x32.2), (19, .slice a37 x36.1.length cp38), (20, .int .i64 x36.2), (21, ptrAt (some ⟨g44, 0, none⟩) 0), (24, ptrAt (some ⟨g49, 0, none⟩) 0), (25, .int .i64 x48.2), (26, ptrAt (some ⟨g52, 0, none⟩) 0), (27, .int .i64 x51.2)]) (es' := [rowT 35 eSPoint a3 x2.length cp4 x2, boxO 35 g7 [.int .i64 x6.1.X, .int .i64 x6.1.Y], boxO 35 g9 [.int .i64 x6.2.1.X, .int .i64 x6.2.1.Y], boxO 35 g12 [.int .i64 x11.1.X, .int .i64 x11.1.Y], boxO 35 g14 [.int .i64 x11.2.1.X, .int .i64 x11.2.1.Y], rowT 35 eSPoint a21 x20.1.length cp22 x20.1, rowT 35 eSPoint a25 x24.1.length cp26 x24.1, rowT 35 eSPoint a29 x28.length cp30 x28, rowT 35 eSPoint a33 x32.1.length cp34 x32.1, rowT 35 eSPoint a37 x36.1.length cp38 x36.1, boxO 28 g44 [.int .i64 x40.1.W, .int .i64 x40.1.H, .slice a41 x40.1.Breaks.length cp42], rowT 2 eI64 a41 x40.1.Breaks.length cp42 x40.1.Breaks, boxO 35 g49 [.int .i64 x48.1.X, .int .i64 x48.1.Y], boxO 35 g52 [.int .i64 x51.1.X, .int .i64 x51.1.Y]]) [0, 1, 2, 3, 4, 5, 6, 7, 8, 9, 10, 11, 13, 14] ?_ ⟨rfl, rfl, rfl, rfl, rfl, rfl, rfl, rfl, rfl, rfl, rfl, rfl, rfl, rfl, rfl, rfl, rfl, rfl, rfl, rfl, rfl, rfl, rfl, trivial⟩ (by decide) rfl
    refine JE.code ?_
    refine JX.seq ?_
    refine JX.region ?_
    refine JL.val (yl_move rfl) rfl ?_
    obtain ⟨x54, hx54, hres⟩ := bind_some hres
    refine JL.eff (ef_call (T := T73 x54) Go.Proofs.Try.func73 rfl (by kernel_rfl) rfl (fun w hC => c73 (rd_arg g_0 hC) rfl k_0 hx54)) rfl ?_
    rintro _ _ ⟨_, ⟨a55, _, cp56, rfl, rfl, rfl⟩, rfl⟩
    refine JL.val (yl_move rfl) rfl ?_
    refine JL.val (yl_extract rfl rfl) rfl ?_
    refine JL.val (yl_extract rfl rfl) rfl ?_
    refine JL.val (yl_assign rfl) rfl ?_
    refine JL.val (yl_assign rfl) rfl ?_
    refine JL.nil ?_
    refine JE.weak (env' := [(0, .slice a_0 q0.length c_0), (3, .slice a3 x2.length cp4), (4, ptrAt (some ⟨g7, 0, none⟩) 0), (5, ptrAt (some ⟨g9, 0, none⟩) 0), (6, .int .i64 x6.2.2), (7, ptrAt (some ⟨g12, 0, none⟩) 0), (8, ptrAt (some ⟨g14, 0, none⟩) 0), (9, .int .i64 x11.2.2), (11, .int .i64 x16.2), (12, .slice a21 x20.1.length cp22), (13, .int .i64 x20.2), (14, .slice a25 x24.1.length cp26), (15, .int .i64 x24.2), (16, .slice a29 x28.length cp30), (17, .slice a33 x32.1.length cp34), (18, .int .i64 x32.2), (19, .slice a37 x36.1.length cp38), (20, .int .i64 x36.2), (21, ptrAt (some ⟨g44, 0, none⟩) 0), (24, ptrAt (some ⟨g49, 0, none⟩) 0), (25, .int .i64 x48.2), (26, ptrAt (some ⟨g52, 0, none⟩) 0), (27, .int .i64 x51.2), (28, .slice a55 x54.1.length cp56), (29, .int .i64 x54.2)]) (es' := [rowT 35 eSPoint a3 x2.length cp4 x2, boxO 35 g7 [.int .i64 x6.1.X, .int .i64 x6.1.Y], boxO 35 g9 [.int .i64 x6.2.1.X, .int .i64 x6.2.1.Y], boxO 35 g12 [.int .i64 x11.1.X, .int .i64 x11.1.Y], boxO 35 g14 [.int .i64 x11.2.1.X, .int .i64 x11.2.1.Y], rowT 35 eSPoint a21 x20.1.length cp22 x20.1, rowT 35 eSPoint a25 x24.1.length cp26 x24.1, rowT 35 eSPoint a29 x28.length cp30 x28, rowT 35 eSPoint a33 x32.1.length cp34 x32.1, rowT 35 eSPoint a37 x36.1.length cp38 x36.1, boxO 28 g44 [.int .i64 x40.1.W, .int .i64 x40.1.H, .slice a41 x40.1.Breaks.length cp42], rowT 2 eI64 a41 x40.1.Breaks.length cp42 x40.1.Breaks, boxO 35 g49 [.int .i64 x48.1.X, .int .i64 x48.1.Y], boxO 35 g52 [.int .i64 x51.1.X, .int .i64 x51.1.Y], rowT 35 eSPoint a55 x54.1.length cp56 x54.1]) [0, 1, 2, 3, 4, 5, 6, 7, 8, 9, 10, 11, 12, 13, 14] ?_ ⟨rfl, rfl, rfl, rfl, rfl, rfl, rfl, rfl, rfl, rfl, rfl, rfl, rfl, rfl, rfl, rfl, rfl, rfl, rfl, rfl, rfl, rfl, rfl, rfl, rfl, trivial⟩ (by decide) rfl
    refine JE.code ?_
    refine JX.seq ?_
    refine JX.region ?_
    refine JL.val (yl_move rfl) rfl ?_
    refine JL.val (yl_move rfl) rfl ?_
    obtain ⟨x58, hx58, hres⟩ := bind_some hres
    refine JL.eff (ef_call (T := T74 x58) Go.Proofs.Try.func74 rfl (by kernel_rfl) rfl (fun w hC => c74 (rd_row hC 14 rfl) rfl (ln_row hC 14 rfl) hx58)) rfl ?_
    rintro _ _ ⟨_, ⟨rfl, rfl⟩, rfl⟩
    refine JL.val (yl_move rfl) rfl ?_
    refine JL.val (yl_extract rfl rfl) rfl ?_
    refine JL.val (yl_extract rfl rfl) rfl ?_
    refine JL.val (yl_assign rfl) rfl ?_
    refine JL.val (yl_assign rfl) rfl ?_
    refine JL.nil ?_
    refine JE.weak (env' := [(0, .slice a_0 q0.length c_0), (3, .slice a3 x2.length cp4), (4, ptrAt (some ⟨g7, 0, none⟩) 0), (5, ptrAt (some ⟨g9, 0, none⟩) 0), (6, .int .i64 x6.2.2), (7, ptrAt (some ⟨g12, 0, none⟩) 0), (8, ptrAt (some ⟨g14, 0, none⟩) 0), (9, .int .i64 x11.2.2), (11, .int .i64 x16.2), (12, .slice a21 x20.1.length cp22), (13, .int .i64 x20.2), (14, .slice a25 x24.1.length cp26), (15, .int .i64 x24.2), (16, .slice a29 x28.length cp30), (17, .slice a33 x32.1.length cp34), (18, .int .i64 x32.2), (19, .slice a37 x36.1.length cp38), (20, .int .i64 x36.2), (21, ptrAt (some ⟨g44, 0, none⟩) 0), (24, ptrAt (some ⟨g49, 0, none⟩) 0), (25, .int .i64 x48.2), (26, ptrAt (some ⟨g52, 0, none⟩) 0), (27, .int .i64 x51.2), (28, .slice a55 x54.1.length cp56), (29, .int .i64 x54.2), (30, .int .i64 x58.1), (31, .int .i64 x58.2)]) (es' := [rowT 35 eSPoint a3 x2.length cp4 x2, boxO 35 g7 [.int .i64 x6.1.X, .int .i64 x6.1.Y], boxO 35 g9 [.int .i64 x6.2.1.X, .int .i64 x6.2.1.Y], boxO 35 g12 [.int .i64 x11.1.X, .int .i64 x11.1.Y], boxO 35 g14 [.int .i64 x11.2.1.X, .int .i64 x11.2.1.Y], rowT 35 eSPoint a21 x20.1.length cp22 x20.1, rowT 35 eSPoint a25 x24.1.length cp26 x24.1, rowT 35 eSPoint a29 x28.length cp30 x28, rowT 35 eSPoint a33 x32.1.length cp34 x32.1, rowT 35 eSPoint a37 x36.1.length cp38 x36.1, boxO 28 g44 [.int .i64 x40.1.W, .int .i64 x40.1.H, .slice a41 x40.1.Breaks.length cp42], rowT 2 eI64 a41 x40.1.Breaks.length cp42 x40.1.Breaks, boxO 35 g49 [.int .i64 x48.1.X, .int .i64 x48.1.Y], boxO 35 g52 [.int .i64 x51.1.X, .int .i64 x51.1.Y], rowT 35 eSPoint a55 x54.1.length cp56 x54.1]) [0, 1, 2, 3, 4, 5, 6, 7, 8, 9, 10, 11, 12, 13, 14] ?_ ⟨rfl, rfl, rfl, rfl, rfl, rfl, rfl, rfl, rfl, rfl, rfl, rfl, rfl, rfl, rfl, rfl, rfl, rfl, rfl, rfl, rfl, rfl, rfl, rfl, rfl, rfl, rfl, trivial⟩ (by decide) rfl
    refine JE.code ?_
    refine JX.seq ?_
    refine JX.region ?_
    refine JL.val (yl_move rfl) rfl ?_
    refine JL.val (yl_move rfl) rfl ?_
    obtain ⟨x59, hx59, hres⟩ := bind_some hres
    refine JL.eff (ef_call (T := T75 x59) Go.Proofs.Try.func75 rfl (by kernel_rfl) rfl (fun w hC => c75 (rd_row hC 14 rfl) rfl (ln_row hC 14 rfl) hx59)) rfl ?_
    rintro _ _ ⟨_, ⟨rfl, rfl⟩, rfl⟩
    refine JL.val (yl_move rfl) rfl ?_
    refine JL.val (yl_extract rfl rfl) rfl ?_
    refine JL.val (yl_extract rfl rfl) rfl ?_
    refine JL.val (yl_assign rfl) rfl ?_
    refine JL.val (yl_assign rfl) rfl ?_
    refine JL.nil ?_
    refine JE.weak (env' := [(0, .slice a_0 q0.length c_0), (3, .slice a3 x2.length cp4), (4, ptrAt (some ⟨g7, 0, none⟩) 0), (5, ptrAt (some ⟨g9, 0, none⟩) 0), (6, .int .i64 x6.2.2), (7, ptrAt (some ⟨g12, 0, none⟩) 0), (8, ptrAt (some ⟨g14, 0, none⟩) 0), (9, .int .i64 x11.2.2), (11, .int .i64 x16.2), (12, .slice a21 x20.1.length cp22), (13, .int .i64 x20.2), (14, .slice a25 x24.1.length cp26), (15, .int .i64 x24.2), (16, .slice a29 x28.length cp30), (17, .slice a33 x32.1.length cp34), (18, .int .i64 x32.2), (19, .slice a37 x36.1.length cp38), (20, .int .i64 x36.2), (21, ptrAt (some ⟨g44, 0, none⟩) 0), (24, ptrAt (some ⟨g49, 0, none⟩) 0), (25, .int .i64 x48.2), (26, ptrAt (some ⟨g52, 0, none⟩) 0), (27, .int .i64 x51.2), (30, .int .i64 x58.1), (31, .int .i64 x58.2), (32, .int .i64 x59.1), (33, .int .i64 x59.2)]) (es' := [rowT 35 eSPoint a3 x2.length cp4 x2, boxO 35 g7 [.int .i64 x6.1.X, .int .i64 x6.1.Y], boxO 35 g9 [.int .i64 x6.2.1.X, .int .i64 x6.2.1.Y], boxO 35 g12 [.int .i64 x11.1.X, .int .i64 x11.1.Y], boxO 35 g14 [.int .i64 x11.2.1.X, .int .i64 x11.2.1.Y], rowT 35 eSPoint a21 x20.1.length cp22 x20.1, rowT 35 eSPoint a25 x24.1.length cp26 x24.1, rowT 35 eSPoint a29 x28.length cp30 x28, rowT 35 eSPoint a33 x32.1.length cp34 x32.1, rowT 35 eSPoint a37 x36.1.length cp38 x36.1, boxO 28 g44 [.int .i64 x40.1.W, .int .i64 x40.1.H, .slice a41 x40.1.Breaks.length cp42], rowT 2 eI64 a41 x40.1.Breaks.length cp42 x40.1.Breaks, boxO 35 g49 [.int .i64 x48.1.X, .int .i64 x48.1.Y], boxO 35 g52 [.int .i64 x51.1.X, .int .i64 x51.1.Y]]) [0, 1, 2, 3, 4, 5, 6, 7, 8, 9, 10, 11, 12, 13] ?_ ⟨rfl, rfl, rfl, rfl, rfl, rfl, rfl, rfl, rfl, rfl, rfl, rfl, rfl, rfl, rfl, rfl, rfl, rfl, rfl, rfl, rfl, rfl, rfl, rfl, rfl, rfl, rfl, trivial⟩ (by decide) rfl
    refine JE.code ?_
    refine JX.seq ?_
    refine JX.region ?_
    refine JL.val (yl_move rfl) rfl ?_
    obtain ⟨x60, hx60, hres⟩ := bind_some hres
    refine JL.eff (ef_call (T := T76 x60) Go.Proofs.Try.func76 rfl (by kernel_rfl) rfl (fun w hC => c76 (rd_arg g_0 hC) rfl k_0 hx60)) rfl ?_
    rintro _ _ ⟨_, ⟨a61, _, cp62, rfl, rfl, rfl⟩, rfl⟩
    refine JL.val (yl_assign rfl) rfl ?_
    refine JL.nil ?_
    refine JE.code ?_
    refine JX.seq ?_
    refine JX.seq ?_
    refine JX.region ?_
    refine JL.val (yl_move rfl) rfl ?_
    refine JL.val (yl_move rfl) rfl ?_
    refine JL.val (yl_neq rfl rfl) rfl ?_
    refine JL.val (yl_move rfl) rfl ?_
    refine JL.cut (K := fun J => J [(3, .slice a3 x2.length cp4), (4, ptrAt (some ⟨g7, 0, none⟩) 0), (5, ptrAt (some ⟨g9, 0, none⟩) 0), (6, .int .i64 x6.2.2), (8, ptrAt (some ⟨g14, 0, none⟩) 0), (11, .int .i64 x16.2), (12, .slice a21 x20.1.length cp22), (13, .int .i64 x20.2), (14, .slice a25 x24.1.length cp26), (15, .int .i64 x24.2), (16, .slice a29 x28.length cp30), (17, .slice a33 x32.1.length cp34), (18, .int .i64 x32.2), (19, .slice a37 x36.1.length cp38), (20, .int .i64 x36.2), (21, ptrAt (some ⟨g44, 0, none⟩) 0), (24, ptrAt (some ⟨g49, 0, none⟩) 0), (25, .int .i64 x48.2), (26, ptrAt (some ⟨g52, 0, none⟩) 0), (27, .int .i64 x51.2), (30, .int .i64 x58.1), (31, .int .i64 x58.2), (32, .int .i64 x59.1), (33, .int .i64 x59.2), (34, .slice a61 x60.length cp62), (135, .bool ((x6.2.2 != x11.2.2) || (!(((x6.1.X == x11.1.X) && ((x6.1.Y == x11.1.Y) && true))))))] [rowT 35 eSPoint a3 x2.length cp4 x2, boxO 35 g7 [.int .i64 x6.1.X, .int .i64 x6.1.Y], boxO 35 g9 [.int .i64 x6.2.1.X, .int .i64 x6.2.1.Y], boxO 35 g14 [.int .i64 x11.2.1.X, .int .i64 x11.2.1.Y], rowT 35 eSPoint a21 x20.1.length cp22 x20.1, rowT 35 eSPoint a25 x24.1.length cp26 x24.1, rowT 35 eSPoint a29 x28.length cp30 x28, rowT 35 eSPoint a33 x32.1.length cp34 x32.1, rowT 35 eSPoint a37 x36.1.length cp38 x36.1, boxO 28 g44 [.int .i64 x40.1.W, .int .i64 x40.1.H, .slice a41 x40.1.Breaks.length cp42], rowT 2 eI64 a41 x40.1.Breaks.length cp42 x40.1.Breaks, boxO 35 g49 [.int .i64 x48.1.X, .int .i64 x48.1.Y], boxO 35 g52 [.int .i64 x51.1.X, .int .i64 x51.1.Y], rowT 35 eSPoint a61 x60.length cp62 x60]) 4 ?_ ?_
    · refine JL.val (yl_move rfl) rfl ?_
      refine JL.cut (K := fun J => J [(3, .slice a3 x2.length cp4), (4, ptrAt (some ⟨g7, 0, none⟩) 0), (5, ptrAt (some ⟨g9, 0, none⟩) 0), (6, .int .i64 x6.2.2), (11, .int .i64 x16.2), (12, .slice a21 x20.1.length cp22), (13, .int .i64 x20.2), (14, .slice a25 x24.1.length cp26), (15, .int .i64 x24.2), (16, .slice a29 x28.length cp30), (17, .slice a33 x32.1.length cp34), (18, .int .i64 x32.2), (19, .slice a37 x36.1.length cp38), (20, .int .i64 x36.2), (21, ptrAt (some ⟨g44, 0, none⟩) 0), (24, ptrAt (some ⟨g49, 0, none⟩) 0), (25, .int .i64 x48.2), (26, ptrAt (some ⟨g52, 0, none⟩) 0), (27, .int .i64 x51.2), (30, .int .i64 x58.1), (31, .int .i64 x58.2), (32, .int .i64 x59.1), (33, .int .i64 x59.2), (34, .slice a61 x60.length cp62), (140, .bool (((x6.2.2 != x11.2.2) || (!(((x6.1.X == x11.1.X) && ((x6.1.Y == x11.1.Y) && true))))) || (!(((x6.2.1.X == x11.2.1.X) && ((x6.2.1.Y == x11.2.1.Y) && true))))))] [rowT 35 eSPoint a3 x2.length cp4 x2, boxO 35 g7 [.int .i64 x6.1.X, .int .i64 x6.1.Y], boxO 35 g9 [.int .i64 x6.2.1.X, .int .i64 x6.2.1.Y], rowT 35 eSPoint a21 x20.1.length cp22 x20.1, rowT 35 eSPoint a25 x24.1.length cp26 x24.1, rowT 35 eSPoint a29 x28.length cp30 x28, rowT 35 eSPoint a33 x32.1.length cp34 x32.1, rowT 35 eSPoint a37 x36.1.length cp38 x36.1, boxO 28 g44 [.int .i64 x40.1.W, .int .i64 x40.1.H, .slice a41 x40.1.Breaks.length cp42], rowT 2 eI64 a41 x40.1.Breaks.length cp42 x40.1.Breaks, boxO 35 g49 [.int .i64 x48.1.X, .int .i64 x48.1.Y], boxO 35 g52 [.int .i64 x51.1.X, .int .i64 x51.1.Y], rowT 35 eSPoint a61 x60.length cp62 x60]) 4 ?_ ?_
      · refine JL.val (yl_move rfl) rfl ?_
        refine JL.cut (K := fun J => J [(3, .slice a3 x2.length cp4), (4, ptrAt (some ⟨g7, 0, none⟩) 0), (5, ptrAt (some ⟨g9, 0, none⟩) 0), (6, .int .i64 x6.2.2), (11, .int .i64 x16.2), (12, .slice a21 x20.1.length cp22), (13, .int .i64 x20.2), (14, .slice a25 x24.1.length cp26), (16, .slice a29 x28.length cp30), (17, .slice a33 x32.1.length cp34), (18, .int .i64 x32.2), (19, .slice a37 x36.1.length cp38), (20, .int .i64 x36.2), (21, ptrAt (some ⟨g44, 0, none⟩) 0), (24, ptrAt (some ⟨g49, 0, none⟩) 0), (25, .int .i64 x48.2), (26, ptrAt (some ⟨g52, 0, none⟩) 0), (27, .int .i64 x51.2), (30, .int .i64 x58.1), (31, .int .i64 x58.2), (32, .int .i64 x59.1), (33, .int .i64 x59.2), (34, .slice a61 x60.length cp62), (145, .bool ((((x6.2.2 != x11.2.2) || (!(((x6.1.X == x11.1.X) && ((x6.1.Y == x11.1.Y) && true))))) || (!(((x6.2.1.X == x11.2.1.X) && ((x6.2.1.Y == x11.2.1.Y) && true))))) || (x20.2 != x24.2)))] [rowT 35 eSPoint a3 x2.length cp4 x2, boxO 35 g7 [.int .i64 x6.1.X, .int .i64 x6.1.Y], boxO 35 g9 [.int .i64 x6.2.1.X, .int .i64 x6.2.1.Y], rowT 35 eSPoint a21 x20.1.length cp22 x20.1, rowT 35 eSPoint a25 x24.1.length cp26 x24.1, rowT 35 eSPoint a29 x28.length cp30 x28, rowT 35 eSPoint a33 x32.1.length cp34 x32.1, rowT 35 eSPoint a37 x36.1.length cp38 x36.1, boxO 28 g44 [.int .i64 x40.1.W, .int .i64 x40.1.H, .slice a41 x40.1.Breaks.length cp42], rowT 2 eI64 a41 x40.1.Breaks.length cp42 x40.1.Breaks, boxO 35 g49 [.int .i64 x48.1.X, .int .i64 x48.1.Y], boxO 35 g52 [.int .i64 x51.1.X, .int .i64 x51.1.Y], rowT 35 eSPoint a61 x60.length cp62 x60]) 4 ?_ ?_
        · refine JL.val (yl_move rfl) rfl ?_
          obtain ⟨cb64, hcb64, hres⟩ := bind_some hres
          refine JL.cut (K := fun J => J [(3, .slice a3 x2.length cp4), (4, ptrAt (some ⟨g7, 0, none⟩) 0), (5, ptrAt (some ⟨g9, 0, none⟩) 0), (6, .int .i64 x6.2.2), (11, .int .i64 x16.2), (12, .slice a21 x20.1.length cp22), (13, .int .i64 x20.2), (16, .slice a29 x28.length cp30), (17, .slice a33 x32.1.length cp34), (18, .int .i64 x32.2), (19, .slice a37 x36.1.length cp38), (20, .int .i64 x36.2), (21, ptrAt (some ⟨g44, 0, none⟩) 0), (24, ptrAt (some ⟨g49, 0, none⟩) 0), (25, .int .i64 x48.2), (26, ptrAt (some ⟨g52, 0, none⟩) 0), (27, .int .i64 x51.2), (30, .int .i64 x58.1), (31, .int .i64 x58.2), (32, .int .i64 x59.1), (33, .int .i64 x59.2), (34, .slice a61 x60.length cp62), (151, .bool cb64)] [rowT 35 eSPoint a3 x2.length cp4 x2, boxO 35 g7 [.int .i64 x6.1.X, .int .i64 x6.1.Y], boxO 35 g9 [.int .i64 x6.2.1.X, .int .i64 x6.2.1.Y], rowT 35 eSPoint a21 x20.1.length cp22 x20.1, rowT 35 eSPoint a29 x28.length cp30 x28, rowT 35 eSPoint a33 x32.1.length cp34 x32.1, rowT 35 eSPoint a37 x36.1.length cp38 x36.1, boxO 28 g44 [.int .i64 x40.1.W, .int .i64 x40.1.H, .slice a41 x40.1.Breaks.length cp42], rowT 2 eI64 a41 x40.1.Breaks.length cp42 x40.1.Breaks, boxO 35 g49 [.int .i64 x48.1.X, .int .i64 x48.1.Y], boxO 35 g52 [.int .i64 x51.1.X, .int .i64 x51.1.Y], rowT 35 eSPoint a61 x60.length cp62 x60]) 5 ?_ ?_
          · refine JL.val (yl_move rfl) rfl ?_
            refine JL.cut (K := fun J => J [(3, .slice a3 x2.length cp4), (4, ptrAt (some ⟨g7, 0, none⟩) 0), (5, ptrAt (some ⟨g9, 0, none⟩) 0), (6, .int .i64 x6.2.2), (11, .int .i64 x16.2), (12, .slice a21 x20.1.length cp22), (13, .int .i64 x20.2), (16, .slice a29 x28.length cp30), (17, .slice a33 x32.1.length cp34), (18, .int .i64 x32.2), (19, .slice a37 x36.1.length cp38), (21, ptrAt (some ⟨g44, 0, none⟩) 0), (24, ptrAt (some ⟨g49, 0, none⟩) 0), (25, .int .i64 x48.2), (26, ptrAt (some ⟨g52, 0, none⟩) 0), (27, .int .i64 x51.2), (30, .int .i64 x58.1), (31, .int .i64 x58.2), (32, .int .i64 x59.1), (33, .int .i64 x59.2), (34, .slice a61 x60.length cp62), (156, .bool (cb64 || (x32.2 != x36.2)))] [rowT 35 eSPoint a3 x2.length cp4 x2, boxO 35 g7 [.int .i64 x6.1.X, .int .i64 x6.1.Y], boxO 35 g9 [.int .i64 x6.2.1.X, .int .i64 x6.2.1.Y], rowT 35 eSPoint a21 x20.1.length cp22 x20.1, rowT 35 eSPoint a29 x28.length cp30 x28, rowT 35 eSPoint a33 x32.1.length cp34 x32.1, rowT 35 eSPoint a37 x36.1.length cp38 x36.1, boxO 28 g44 [.int .i64 x40.1.W, .int .i64 x40.1.H, .slice a41 x40.1.Breaks.length cp42], rowT 2 eI64 a41 x40.1.Breaks.length cp42 x40.1.Breaks, boxO 35 g49 [.int .i64 x48.1.X, .int .i64 x48.1.Y], boxO 35 g52 [.int .i64 x51.1.X, .int .i64 x51.1.Y], rowT 35 eSPoint a61 x60.length cp62 x60]) 4 ?_ ?_
            · refine JL.val (yl_move rfl) rfl ?_
              obtain ⟨cb66, hcb66, hres⟩ := bind_some hres
              refine JL.cut (K := fun J => J [(3, .slice a3 x2.length cp4), (4, ptrAt (some ⟨g7, 0, none⟩) 0), (5, ptrAt (some ⟨g9, 0, none⟩) 0), (6, .int .i64 x6.2.2), (11, .int .i64 x16.2), (12, .slice a21 x20.1.length cp22), (13, .int .i64 x20.2), (16, .slice a29 x28.length cp30), (17, .slice a33 x32.1.length cp34), (18, .int .i64 x32.2), (21, ptrAt (some ⟨g44, 0, none⟩) 0), (24, ptrAt (some ⟨g49, 0, none⟩) 0), (25, .int .i64 x48.2), (26, ptrAt (some ⟨g52, 0, none⟩) 0), (27, .int .i64 x51.2), (30, .int .i64 x58.1), (31, .int .i64 x58.2), (32, .int .i64 x59.1), (33, .int .i64 x59.2), (34, .slice a61 x60.length cp62), (162, .bool cb66)] [rowT 35 eSPoint a3 x2.length cp4 x2, boxO 35 g7 [.int .i64 x6.1.X, .int .i64 x6.1.Y], boxO 35 g9 [.int .i64 x6.2.1.X, .int .i64 x6.2.1.Y], rowT 35 eSPoint a21 x20.1.length cp22 x20.1, rowT 35 eSPoint a29 x28.length cp30 x28, rowT 35 eSPoint a33 x32.1.length cp34 x32.1, boxO 28 g44 [.int .i64 x40.1.W, .int .i64 x40.1.H, .slice a41 x40.1.Breaks.length cp42], rowT 2 eI64 a41 x40.1.Breaks.length cp42 x40.1.Breaks, boxO 35 g49 [.int .i64 x48.1.X, .int .i64 x48.1.Y], boxO 35 g52 [.int .i64 x51.1.X, .int .i64 x51.1.Y], rowT 35 eSPoint a61 x60.length cp62 x60]) 5 ?_ ?_
              · refine JL.val (yl_move rfl) rfl ?_
                refine JL.cut (K := fun J => J [(3, .slice a3 x2.length cp4), (4, ptrAt (some ⟨g7, 0, none⟩) 0), (5, ptrAt (some ⟨g9, 0, none⟩) 0), (6, .int .i64 x6.2.2), (11, .int .i64 x16.2), (12, .slice a21 x20.1.length cp22), (13, .int .i64 x20.2), (16, .slice a29 x28.length cp30), (17, .slice a33 x32.1.length cp34), (18, .int .i64 x32.2), (21, ptrAt (some ⟨g44, 0, none⟩) 0), (24, ptrAt (some ⟨g49, 0, none⟩) 0), (25, .int .i64 x48.2), (26, ptrAt (some ⟨g52, 0, none⟩) 0), (30, .int .i64 x58.1), (31, .int .i64 x58.2), (32, .int .i64 x59.1), (33, .int .i64 x59.2), (34, .slice a61 x60.length cp62), (167, .bool (cb66 || (x48.2 != x51.2)))] [rowT 35 eSPoint a3 x2.length cp4 x2, boxO 35 g7 [.int .i64 x6.1.X, .int .i64 x6.1.Y], boxO 35 g9 [.int .i64 x6.2.1.X, .int .i64 x6.2.1.Y], rowT 35 eSPoint a21 x20.1.length cp22 x20.1, rowT 35 eSPoint a29 x28.length cp30 x28, rowT 35 eSPoint a33 x32.1.length cp34 x32.1, boxO 28 g44 [.int .i64 x40.1.W, .int .i64 x40.1.H, .slice a41 x40.1.Breaks.length cp42], rowT 2 eI64 a41 x40.1.Breaks.length cp42 x40.1.Breaks, boxO 35 g49 [.int .i64 x48.1.X, .int .i64 x48.1.Y], boxO 35 g52 [.int .i64 x51.1.X, .int .i64 x51.1.Y], rowT 35 eSPoint a61 x60.length cp62 x60]) 4 ?_ ?_
                · refine JL.val (yl_move rfl) rfl ?_
                  refine JL.cut (K := fun J => J [(3, .slice a3 x2.length cp4), (4, ptrAt (some ⟨g7, 0, none⟩) 0), (5, ptrAt (some ⟨g9, 0, none⟩) 0), (6, .int .i64 x6.2.2), (11, .int .i64 x16.2), (12, .slice a21 x20.1.length cp22), (13, .int .i64 x20.2), (16, .slice a29 x28.length cp30), (17, .slice a33 x32.1.length cp34), (18, .int .i64 x32.2), (21, ptrAt (some ⟨g44, 0, none⟩) 0), (24, ptrAt (some ⟨g49, 0, none⟩) 0), (25, .int .i64 x48.2), (30, .int .i64 x58.1), (31, .int .i64 x58.2), (32, .int .i64 x59.1), (33, .int .i64 x59.2), (34, .slice a61 x60.length cp62), (172, .bool ((cb66 || (x48.2 != x51.2)) || (!(((x48.1.X == x51.1.X) && ((x48.1.Y == x51.1.Y) && true))))))] [rowT 35 eSPoint a3 x2.length cp4 x2, boxO 35 g7 [.int .i64 x6.1.X, .int .i64 x6.1.Y], boxO 35 g9 [.int .i64 x6.2.1.X, .int .i64 x6.2.1.Y], rowT 35 eSPoint a21 x20.1.length cp22 x20.1, rowT 35 eSPoint a29 x28.length cp30 x28, rowT 35 eSPoint a33 x32.1.length cp34 x32.1, boxO 28 g44 [.int .i64 x40.1.W, .int .i64 x40.1.H, .slice a41 x40.1.Breaks.length cp42], rowT 2 eI64 a41 x40.1.Breaks.length cp42 x40.1.Breaks, boxO 35 g49 [.int .i64 x48.1.X, .int .i64 x48.1.Y], rowT 35 eSPoint a61 x60.length cp62 x60]) 4 ?_ ?_
                  · refine JL.val (yl_move rfl) rfl ?_
                    refine JL.cut (K := fun J => J [(3, .slice a3 x2.length cp4), (4, ptrAt (some ⟨g7, 0, none⟩) 0), (5, ptrAt (some ⟨g9, 0, none⟩) 0), (6, .int .i64 x6.2.2), (11, .int .i64 x16.2), (12, .slice a21 x20.1.length cp22), (13, .int .i64 x20.2), (16, .slice a29 x28.length cp30), (17, .slice a33 x32.1.length cp34), (18, .int .i64 x32.2), (21, ptrAt (some ⟨g44, 0, none⟩) 0), (24, ptrAt (some ⟨g49, 0, none⟩) 0), (25, .int .i64 x48.2), (30, .int .i64 x58.1), (32, .int .i64 x59.1), (34, .slice a61 x60.length cp62), (177, .bool (((cb66 || (x48.2 != x51.2)) || (!(((x48.1.X == x51.1.X) && ((x48.1.Y == x51.1.Y) && true))))) || (x58.2 != x59.2)))] [rowT 35 eSPoint a3 x2.length cp4 x2, boxO 35 g7 [.int .i64 x6.1.X, .int .i64 x6.1.Y], boxO 35 g9 [.int .i64 x6.2.1.X, .int .i64 x6.2.1.Y], rowT 35 eSPoint a21 x20.1.length cp22 x20.1, rowT 35 eSPoint a29 x28.length cp30 x28, rowT 35 eSPoint a33 x32.1.length cp34 x32.1, boxO 28 g44 [.int .i64 x40.1.W, .int .i64 x40.1.H, .slice a41 x40.1.Breaks.length cp42], rowT 2 eI64 a41 x40.1.Breaks.length cp42 x40.1.Breaks, boxO 35 g49 [.int .i64 x48.1.X, .int .i64 x48.1.Y], rowT 35 eSPoint a61 x60.length cp62 x60]) 4 ?_ ?_
                    · refine JL.val (yl_move rfl) rfl ?_
                      refine JL.cut (K := fun J => J [(3, .slice a3 x2.length cp4), (4, ptrAt (some ⟨g7, 0, none⟩) 0), (5, ptrAt (some ⟨g9, 0, none⟩) 0), (6, .int .i64 x6.2.2), (11, .int .i64 x16.2), (12, .slice a21 x20.1.length cp22), (13, .int .i64 x20.2), (16, .slice a29 x28.length cp30), (17, .slice a33 x32.1.length cp34), (18, .int .i64 x32.2), (21, ptrAt (some ⟨g44, 0, none⟩) 0), (24, ptrAt (some ⟨g49, 0, none⟩) 0), (25, .int .i64 x48.2), (34, .slice a61 x60.length cp62), (182, .bool ((((cb66 || (x48.2 != x51.2)) || (!(((x48.1.X == x51.1.X) && ((x48.1.Y == x51.1.Y) && true))))) || (x58.2 != x59.2)) || (x58.1 != x59.1)))] [rowT 35 eSPoint a3 x2.length cp4 x2, boxO 35 g7 [.int .i64 x6.1.X, .int .i64 x6.1.Y], boxO 35 g9 [.int .i64 x6.2.1.X, .int .i64 x6.2.1.Y], rowT 35 eSPoint a21 x20.1.length cp22 x20.1, rowT 35 eSPoint a29 x28.length cp30 x28, rowT 35 eSPoint a33 x32.1.length cp34 x32.1, boxO 28 g44 [.int .i64 x40.1.W, .int .i64 x40.1.H, .slice a41 x40.1.Breaks.length cp42], rowT 2 eI64 a41 x40.1.Breaks.length cp42 x40.1.Breaks, boxO 35 g49 [.int .i64 x48.1.X, .int .i64 x48.1.Y], rowT 35 eSPoint a61 x60.length cp62 x60]) 4 ?_ ?_
                      · refine JL.val (yl_move rfl) rfl ?_
                        obtain ⟨cb68, hcb68, hres⟩ := bind_some hres
                        refine JL.cut (K := fun J => J [(3, .slice a3 x2.length cp4), (4, ptrAt (some ⟨g7, 0, none⟩) 0), (5, ptrAt (some ⟨g9, 0, none⟩) 0), (6, .int .i64 x6.2.2), (11, .int .i64 x16.2), (12, .slice a21 x20.1.length cp22), (13, .int .i64 x20.2), (16, .slice a29 x28.length cp30), (17, .slice a33 x32.1.length cp34), (18, .int .i64 x32.2), (21, ptrAt (some ⟨g44, 0, none⟩) 0), (24, ptrAt (some ⟨g49, 0, none⟩) 0), (25, .int .i64 x48.2), (189, .bool cb68)] [rowT 35 eSPoint a3 x2.length cp4 x2, boxO 35 g7 [.int .i64 x6.1.X, .int .i64 x6.1.Y], boxO 35 g9 [.int .i64 x6.2.1.X, .int .i64 x6.2.1.Y], rowT 35 eSPoint a21 x20.1.length cp22 x20.1, rowT 35 eSPoint a29 x28.length cp30 x28, rowT 35 eSPoint a33 x32.1.length cp34 x32.1, boxO 28 g44 [.int .i64 x40.1.W, .int .i64 x40.1.H, .slice a41 x40.1.Breaks.length cp42], rowT 2 eI64 a41 x40.1.Breaks.length cp42 x40.1.Breaks, boxO 35 g49 [.int .i64 x48.1.X, .int .i64 x48.1.Y]]) 6 ?_ ?_
                        · refine JL.nil ?_
                          refine JE.weak (env' := [(3, .slice a3 x2.length cp4), (4, ptrAt (some ⟨g7, 0, none⟩) 0), (5, ptrAt (some ⟨g9, 0, none⟩) 0), (6, .int .i64 x6.2.2), (11, .int .i64 x16.2), (12, .slice a21 x20.1.length cp22), (13, .int .i64 x20.2), (16, .slice a29 x28.length cp30), (17, .slice a33 x32.1.length cp34), (18, .int .i64 x32.2), (21, ptrAt (some ⟨g44, 0, none⟩) 0), (24, ptrAt (some ⟨g49, 0, none⟩) 0), (25, .int .i64 x48.2), (189, .bool cb68)]) (es' := [rowT 35 eSPoint a3 x2.length cp4 x2, boxO 35 g7 [.int .i64 x6.1.X, .int .i64 x6.1.Y], boxO 35 g9 [.int .i64 x6.2.1.X, .int .i64 x6.2.1.Y], rowT 35 eSPoint a21 x20.1.length cp22 x20.1, rowT 35 eSPoint a29 x28.length cp30 x28, rowT 35 eSPoint a33 x32.1.length cp34 x32.1, boxO 28 g44 [.int .i64 x40.1.W, .int .i64 x40.1.H, .slice a41 x40.1.Breaks.length cp42], rowT 2 eI64 a41 x40.1.Breaks.length cp42 x40.1.Breaks, boxO 35 g49 [.int .i64 x48.1.X, .int .i64 x48.1.Y]]) [0, 1, 2, 3, 4, 5, 6, 7, 8] ?_ ⟨rfl, rfl, rfl, rfl, rfl, rfl, rfl, rfl, rfl, rfl, rfl, rfl, rfl, rfl, trivial⟩ (by decide) rfl
                          refine JE.code ?_
                          rcases cond_some hres with ⟨hb, hres⟩ | ⟨hb, hres⟩
                          · refine JX.condT rfl hb ?_
                            refine JX.seq ?_
                            refine JX.region ?_
                            refine JL.val (yl_assign rfl) rfl ?_
                            refine JL.nil ?_
                            refine JE.weak (env' := [(2, .bool false)]) (es' := []) [] ?_ ⟨rfl, trivial⟩ (by decide) rfl
                            refine JE.code ?_
                            refine JX.ret ?_
                            obtain rfl := Option.some.inj hres
                            refine JE.ret (rs := [.tmp 2]) (vs := [.bool false]) rfl ⟨rfl, trivial⟩ ?_
                            exact fun w' hb hs => ⟨_, _, ⟨rfl, rfl⟩, rfl, hb, hs.sel [] _ (by decide) rfl⟩
                          · refine JX.condF rfl hb ?_
                            refine JX.skip ?_
                            refine JE.code ?_
                            refine JX.seq ?_
                            refine JX.seq ?_
                            refine JX.region ?_
                            refine JL.val (yl_move rfl) rfl ?_
                            refine JL.val (yl_eql rfl rfl) rfl ?_
                            refine JL.nil ?_
                            refine JE.code ?_
                            rcases cond_some hres with ⟨hb, hres⟩ | ⟨hb, hres⟩
                            · refine JX.condT rfl hb ?_
                              refine JX.seq ?_
                              refine JX.region ?_
                              refine JL.val (yl_move rfl) rfl ?_
                              refine JL.val (yl_move rfl) rfl ?_
                              obtain ⟨x71, hx71, hres⟩ := bind_some hres
                              refine JL.eff (ef_call (T := T65 x71) Go.Proofs.Try.func65 rfl (by kernel_rfl) rfl (fun w hC => c65 (rd_row hC 3 rfl) rfl (ln_row hC 3 rfl) hx71)) rfl ?_
                              rintro _ _ ⟨_, ⟨a72, _, cp73, rfl, rfl, rfl⟩, rfl⟩
                              refine JL.val (yl_move rfl) rfl ?_
                              refine JL.val (yl_extract rfl rfl) rfl ?_
                              refine JL.val (yl_extract rfl rfl) rfl ?_
                              refine JL.val (yl_assign rfl) rfl ?_
                              refine JL.val (yl_assign rfl) rfl ?_
                              refine JL.nil ?_
                              refine JE.weak (env' := [(3, .slice a3 x2.length cp4), (4, ptrAt (some ⟨g7, 0, none⟩) 0), (5, ptrAt (some ⟨g9, 0, none⟩) 0), (6, .int .i64 x6.2.2), (12, .slice a21 x20.1.length cp22), (16, .slice a29 x28.length cp30), (17, .slice a33 x32.1.length cp34), (18, .int .i64 x32.2), (21, ptrAt (some ⟨g44, 0, none⟩) 0), (24, ptrAt (some ⟨g49, 0, none⟩) 0), (25, .int .i64 x48.2), (35, .slice a72 x71.1.length cp73), (36, .int .i64 x71.2)]) (es' := [rowT 35 eSPoint a3 x2.length cp4 x2, boxO 35 g7 [.int .i64 x6.1.X, .int .i64 x6.1.Y], boxO 35 g9 [.int .i64 x6.2.1.X, .int .i64 x6.2.1.Y], rowT 35 eSPoint a21 x20.1.length cp22 x20.1, rowT 35 eSPoint a29 x28.length cp30 x28, rowT 35 eSPoint a33 x32.1.length cp34 x32.1, boxO 28 g44 [.int .i64 x40.1.W, .int .i64 x40.1.H, .slice a41 x40.1.Breaks.length cp42], rowT 2 eI64 a41 x40.1.Breaks.length cp42 x40.1.Breaks, boxO 35 g49 [.int .i64 x48.1.X, .int .i64 x48.1.Y], rowT 35 eSPoint a72 x71.1.length cp73 x71.1]) [0, 1, 2, 3, 4, 5, 6, 7, 8, 9] ?_ ⟨rfl, rfl, rfl, rfl, rfl, rfl, rfl, rfl, rfl, rfl, rfl, rfl, rfl, trivial⟩ (by decide) rfl
                              refine JE.code ?_
                              refine JX.seq ?_
                              refine JX.region ?_
                              refine JL.val (yl_move rfl) rfl ?_
                              refine JL.val (yl_neq rfl rfl) rfl ?_
                              refine JL.val (yl_move rfl) rfl ?_
                              obtain ⟨cb75, hcb75, hres⟩ := bind_some hres
                              refine JL.cut (K := fun J => J [(3, .slice a3 x2.length cp4), (4, ptrAt (some ⟨g7, 0, none⟩) 0), (5, ptrAt (some ⟨g9, 0, none⟩) 0), (6, .int .i64 x6.2.2), (16, .slice a29 x28.length cp30), (17, .slice a33 x32.1.length cp34), (18, .int .i64 x32.2), (21, ptrAt (some ⟨g44, 0, none⟩) 0), (24, ptrAt (some ⟨g49, 0, none⟩) 0), (25, .int .i64 x48.2), (205, .bool cb75)] [rowT 35 eSPoint a3 x2.length cp4 x2, boxO 35 g7 [.int .i64 x6.1.X, .int .i64 x6.1.Y], boxO 35 g9 [.int .i64 x6.2.1.X, .int .i64 x6.2.1.Y], rowT 35 eSPoint a29 x28.length cp30 x28, rowT 35 eSPoint a33 x32.1.length cp34 x32.1, boxO 28 g44 [.int .i64 x40.1.W, .int .i64 x40.1.H, .slice a41 x40.1.Breaks.length cp42], rowT 2 eI64 a41 x40.1.Breaks.length cp42 x40.1.Breaks, boxO 35 g49 [.int .i64 x48.1.X, .int .i64 x48.1.Y]]) 5 ?_ ?_
                              · refine JL.nil ?_
                                refine JE.weak (env' := [(3, .slice a3 x2.length cp4), (4, ptrAt (some ⟨g7, 0, none⟩) 0), (5, ptrAt (some ⟨g9, 0, none⟩) 0), (6, .int .i64 x6.2.2), (16, .slice a29 x28.length cp30), (17, .slice a33 x32.1.length cp34), (18, .int .i64 x32.2), (21, ptrAt (some ⟨g44, 0, none⟩) 0), (24, ptrAt (some ⟨g49, 0, none⟩) 0), (25, .int .i64 x48.2), (205, .bool cb75)]) (es' := [rowT 35 eSPoint a3 x2.length cp4 x2, boxO 35 g7 [.int .i64 x6.1.X, .int .i64 x6.1.Y], boxO 35 g9 [.int .i64 x6.2.1.X, .int .i64 x6.2.1.Y], rowT 35 eSPoint a29 x28.length cp30 x28, rowT 35 eSPoint a33 x32.1.length cp34 x32.1, boxO 28 g44 [.int .i64 x40.1.W, .int .i64 x40.1.H, .slice a41 x40.1.Breaks.length cp42], rowT 2 eI64 a41 x40.1.Breaks.length cp42 x40.1.Breaks, boxO 35 g49 [.int .i64 x48.1.X, .int .i64 x48.1.Y]]) [0, 1, 2, 3, 4, 5, 6, 7] ?_ ⟨rfl, rfl, rfl, rfl, rfl, rfl, rfl, rfl, rfl, rfl, rfl, trivial⟩ (by decide) rfl
                                refine JE.code ?_
                                rcases cond_some hres with ⟨hb, hres⟩ | ⟨hb, hres⟩
                                · refine JX.condT rfl hb ?_
                                  refine JX.seq ?_
                                  refine JX.region ?_
                                  refine JL.val (yl_assign rfl) rfl ?_
                                  refine JL.nil ?_
                                  refine JE.weak (env' := [(2, .bool false)]) (es' := []) [] ?_ ⟨rfl, trivial⟩ (by decide) rfl
                                  refine JE.code ?_
                                  refine JX.ret ?_
                                  obtain rfl := Option.some.inj hres
                                  refine JE.ret (rs := [.tmp 2]) (vs := [.bool false]) rfl ⟨rfl, trivial⟩ ?_
                                  exact fun w' hb hs => ⟨_, _, ⟨rfl, rfl⟩, rfl, hb, hs.sel [] _ (by decide) rfl⟩
                                · refine JX.condF rfl hb ?_
                                  refine JX.skip ?_
                                  refine JE.code ?_
                                  refine JX.seq ?_
                                  refine JX.seq ?_
                                  refine JX.region ?_
                                  refine JL.val (yl_move rfl) rfl ?_
                                  refine JL.val (yl_eql rfl rfl) rfl ?_
                                  refine JL.nil ?_
                                  refine JE.code ?_
                                  rcases cond_some hres with ⟨hb, hres⟩ | ⟨hb, hres⟩
                                  · refine JX.condT rfl hb ?_
                                    refine JX.seq ?_
                                    refine JX.region ?_
                                    refine JL.val (yl_move rfl) rfl ?_
                                    obtain ⟨x77, hx77, hres⟩ := bind_some hres
                                    refine JL.eff (ef_call (T := T62 x77) Go.Proofs.Try.func62 rfl (by kernel_rfl) rfl (fun w hC => c62 (rd_row hC 3 rfl) rfl (ln_row hC 3 rfl) hx77)) rfl ?_
                                    rintro _ _ ⟨_, ⟨rfl, rfl⟩, rfl⟩
                                    refine JL.val (yl_move rfl) rfl ?_
                                    refine JL.val (yl_extract rfl rfl) rfl ?_
                                    refine JL.val (yl_extract rfl rfl) rfl ?_
                                    refine JL.val (yl_extract rfl rfl) rfl ?_
                                    refine JL.eff (ef_alloc i35 i35z rfl) rfl ?_
                                    rintro _ _ ⟨g78, rfl, rfl⟩
                                    refine JL.eff (ef_alloc i35 i35z rfl) rfl ?_
                                    rintro _ _ ⟨g80, rfl, rfl⟩
                                    refine JL.eff (ef_store_box (i := 8) (v := .agg #[.int .i64 x77.1.X, .int .i64 x77.1.Y]) i35 rfl rfl rfl (i35s).symm (Nat.le_of_ble_eq_true rfl) (by simp [Value.cells, Value.oneCell'])) rfl ?_
                                    rintro _ _ rfl
                                    refine JL.eff (ef_store_box (i := 9) (v := .agg #[.int .i64 x77.2.1.X, .int .i64 x77.2.1.Y]) i35 rfl rfl rfl (i35s).symm (Nat.le_of_ble_eq_true rfl) (by simp [Value.cells, Value.oneCell'])) rfl ?_
                                    rintro _ _ rfl
                                    refine JL.val (yl_assign rfl) rfl ?_
                                    refine JL.nil ?_
                                    refine JE.weak (env' := [(3, .slice a3 x2.length cp4), (4, ptrAt (some ⟨g7, 0, none⟩) 0), (5, ptrAt (some ⟨g9, 0, none⟩) 0), (6, .int .i64 x6.2.2), (17, .slice a33 x32.1.length cp34), (21, ptrAt (some ⟨g44, 0, none⟩) 0), (24, ptrAt (some ⟨g49, 0, none⟩) 0), (25, .int .i64 x48.2), (37, ptrAt (some ⟨g78, 0, none⟩) 0), (38, ptrAt (some ⟨g80, 0, none⟩) 0), (39, .int .i64 x77.2.2)]) (es' := [rowT 35 eSPoint a3 x2.length cp4 x2, boxO 35 g7 [.int .i64 x6.1.X, .int .i64 x6.1.Y], boxO 35 g9 [.int .i64 x6.2.1.X, .int .i64 x6.2.1.Y], rowT 35 eSPoint a33 x32.1.length cp34 x32.1, boxO 28 g44 [.int .i64 x40.1.W, .int .i64 x40.1.H, .slice a41 x40.1.Breaks.length cp42], rowT 2 eI64 a41 x40.1.Breaks.length cp42 x40.1.Breaks, boxO 35 g49 [.int .i64 x48.1.X, .int .i64 x48.1.Y], boxO 35 g78 [.int .i64 x77.1.X, .int .i64 x77.1.Y], boxO 35 g80 [.int .i64 x77.2.1.X, .int .i64 x77.2.1.Y]]) [0, 1, 2, 4, 5, 6, 7, 8, 9] ?_ ⟨rfl, rfl, rfl, rfl, rfl, rfl, rfl, rfl, rfl, rfl, rfl, trivial⟩ (by decide) rfl
                                    refine JE.code ?_
                                    refine JX.seq ?_
                                    refine JX.region ?_
                                    refine JL.val (yl_move rfl) rfl ?_
                                    obtain ⟨x82, hx82, hres⟩ := bind_some hres
                                    refine JL.eff (ef_call (T := T62 x82) Go.Proofs.Try.func62 rfl (by kernel_rfl) rfl (fun w hC => c62 (rd_row hC 3 rfl) rfl (ln_row hC 3 rfl) hx82)) rfl ?_
                                    rintro _ _ ⟨_, ⟨rfl, rfl⟩, rfl⟩
                                    refine JL.val (yl_move rfl) rfl ?_
                                    refine JL.val (yl_extract rfl rfl) rfl ?_
                                    refine JL.val (yl_extract rfl rfl) rfl ?_
                                    refine JL.val (yl_extract rfl rfl) rfl ?_
                                    refine JL.eff (ef_alloc i35 i35z rfl) rfl ?_
                                    rintro _ _ ⟨g83, rfl, rfl⟩
                                    refine JL.eff (ef_alloc i35 i35z rfl) rfl ?_
                                    rintro _ _ ⟨g85, rfl, rfl⟩
                                    refine JL.eff (ef_store_box (i := 9) (v := .agg #[.int .i64 x82.1.X, .int .i64 x82.1.Y]) i35 rfl rfl rfl (i35s).symm (Nat.le_of_ble_eq_true rfl) (by simp [Value.cells, Value.oneCell'])) rfl ?_
                                    rintro _ _ rfl
                                    refine JL.eff (ef_store_box (i := 10) (v := .agg #[.int .i64 x82.2.1.X, .int .i64 x82.2.1.Y]) i35 rfl rfl rfl (i35s).symm (Nat.le_of_ble_eq_true rfl) (by simp [Value.cells, Value.oneCell'])) rfl ?_
                                    rintro _ _ rfl
                                    refine JL.val (yl_assign rfl) rfl ?_
                                    refine JL.nil ?_
                                    refine JE.weak (env' := [(3, .slice a3 x2.length cp4), (4, ptrAt (some ⟨g7, 0, none⟩) 0), (5, ptrAt (some ⟨g9, 0, none⟩) 0), (6, .int .i64 x6.2.2), (21, ptrAt (some ⟨g44, 0, none⟩) 0), (24, ptrAt (some ⟨g49, 0, none⟩) 0), (25, .int .i64 x48.2), (37, ptrAt (some ⟨g78, 0, none⟩) 0), (38, ptrAt (some ⟨g80, 0, none⟩) 0), (39, .int .i64 x77.2.2), (40, ptrAt (some ⟨g83, 0, none⟩) 0), (41, ptrAt (some ⟨g85, 0, none⟩) 0), (42, .int .i64 x82.2.2)]) (es' := [rowT 35 eSPoint a3 x2.length cp4 x2, boxO 35 g7 [.int .i64 x6.1.X, .int .i64 x6.1.Y], boxO 35 g9 [.int .i64 x6.2.1.X, .int .i64 x6.2.1.Y], boxO 28 g44 [.int .i64 x40.1.W, .int .i64 x40.1.H, .slice a41 x40.1.Breaks.length cp42], rowT 2 eI64 a41 x40.1.Breaks.length cp42 x40.1.Breaks, boxO 35 g49 [.int .i64 x48.1.X, .int .i64 x48.1.Y], boxO 35 g78 [.int .i64 x77.1.X, .int .i64 x77.1.Y], boxO 35 g80 [.int .i64 x77.2.1.X, .int .i64 x77.2.1.Y], boxO 35 g83 [.int .i64 x82.1.X, .int .i64 x82.1.Y], boxO 35 g85 [.int .i64 x82.2.1.X, .int .i64 x82.2.1.Y]]) [0, 1, 2, 4, 5, 6, 7, 8, 9, 10] ?_ ⟨rfl, rfl, rfl, rfl, rfl, rfl, rfl, rfl, rfl, rfl, rfl, rfl, rfl, trivial⟩ (by decide) rfl
                                    refine JE.code ?_
                                    refine JX.seq ?_
                                    refine JX.region ?_
                                    refine JL.val (yl_move rfl) rfl ?_
                                    refine JL.val (yl_neq rfl rfl) rfl ?_
                                    refine JL.val (yl_move rfl) rfl ?_
                                    refine JL.cut (K := fun J => J [(3, .slice a3 x2.length cp4), (4, ptrAt (some ⟨g7, 0, none⟩) 0), (5, ptrAt (some ⟨g9, 0, none⟩) 0), (6, .int .i64 x6.2.2), (21, ptrAt (some ⟨g44, 0, none⟩) 0), (24, ptrAt (some ⟨g49, 0, none⟩) 0), (25, .int .i64 x48.2), (37, ptrAt (some ⟨g78, 0, none⟩) 0), (38, ptrAt (some ⟨g80, 0, none⟩) 0), (40, ptrAt (some ⟨g83, 0, none⟩) 0), (41, ptrAt (some ⟨g85, 0, none⟩) 0), (225, .bool ((x77.2.2 != 0) || (x82.2.2 != 0)))] [rowT 35 eSPoint a3 x2.length cp4 x2, boxO 35 g7 [.int .i64 x6.1.X, .int .i64 x6.1.Y], boxO 35 g9 [.int .i64 x6.2.1.X, .int .i64 x6.2.1.Y], boxO 28 g44 [.int .i64 x40.1.W, .int .i64 x40.1.H, .slice a41 x40.1.Breaks.length cp42], rowT 2 eI64 a41 x40.1.Breaks.length cp42 x40.1.Breaks, boxO 35 g49 [.int .i64 x48.1.X, .int .i64 x48.1.Y], boxO 35 g78 [.int .i64 x77.1.X, .int .i64 x77.1.Y], boxO 35 g80 [.int .i64 x77.2.1.X, .int .i64 x77.2.1.Y], boxO 35 g83 [.int .i64 x82.1.X, .int .i64 x82.1.Y], boxO 35 g85 [.int .i64 x82.2.1.X, .int .i64 x82.2.1.Y]]) 3 ?_ ?_
                                    · refine JL.val (yl_move rfl) rfl ?_
                                      refine JL.cut (K := fun J => J [(3, .slice a3 x2.length cp4), (4, ptrAt (some ⟨g7, 0, none⟩) 0), (5, ptrAt (some ⟨g9, 0, none⟩) 0), (6, .int .i64 x6.2.2), (21, ptrAt (some ⟨g44, 0, none⟩) 0), (24, ptrAt (some ⟨g49, 0, none⟩) 0), (25, .int .i64 x48.2), (37, ptrAt (some ⟨g78, 0, none⟩) 0), (38, ptrAt (some ⟨g80, 0, none⟩) 0), (40, ptrAt (some ⟨g83, 0, none⟩) 0), (41, ptrAt (some ⟨g85, 0, none⟩) 0), (232, .bool (((x77.2.2 != 0) || (x82.2.2 != 0)) || (decide (x82.1.X < x77.1.X))))] [rowT 35 eSPoint a3 x2.length cp4 x2, boxO 35 g7 [.int .i64 x6.1.X, .int .i64 x6.1.Y], boxO 35 g9 [.int .i64 x6.2.1.X, .int .i64 x6.2.1.Y], boxO 28 g44 [.int .i64 x40.1.W, .int .i64 x40.1.H, .slice a41 x40.1.Breaks.length cp42], rowT 2 eI64 a41 x40.1.Breaks.length cp42 x40.1.Breaks, boxO 35 g49 [.int .i64 x48.1.X, .int .i64 x48.1.Y], boxO 35 g78 [.int .i64 x77.1.X, .int .i64 x77.1.Y], boxO 35 g80 [.int .i64 x77.2.1.X, .int .i64 x77.2.1.Y], boxO 35 g83 [.int .i64 x82.1.X, .int .i64 x82.1.Y], boxO 35 g85 [.int .i64 x82.2.1.X, .int .i64 x82.2.1.Y]]) 6 ?_ ?_
                                      · refine JL.val (yl_move rfl) rfl ?_
                                        refine JL.cut (K := fun J => J [(3, .slice a3 x2.length cp4), (4, ptrAt (some ⟨g7, 0, none⟩) 0), (5, ptrAt (some ⟨g9, 0, none⟩) 0), (6, .int .i64 x6.2.2), (21, ptrAt (some ⟨g44, 0, none⟩) 0), (24, ptrAt (some ⟨g49, 0, none⟩) 0), (25, .int .i64 x48.2), (38, ptrAt (some ⟨g80, 0, none⟩) 0), (41, ptrAt (some ⟨g85, 0, none⟩) 0), (239, .bool ((((x77.2.2 != 0) || (x82.2.2 != 0)) || (decide (x82.1.X < x77.1.X))) || (decide (x82.1.Y < x77.1.Y))))] [rowT 35 eSPoint a3 x2.length cp4 x2, boxO 35 g7 [.int .i64 x6.1.X, .int .i64 x6.1.Y], boxO 35 g9 [.int .i64 x6.2.1.X, .int .i64 x6.2.1.Y], boxO 28 g44 [.int .i64 x40.1.W, .int .i64 x40.1.H, .slice a41 x40.1.Breaks.length cp42], rowT 2 eI64 a41 x40.1.Breaks.length cp42 x40.1.Breaks, boxO 35 g49 [.int .i64 x48.1.X, .int .i64 x48.1.Y], boxO 35 g80 [.int .i64 x77.2.1.X, .int .i64 x77.2.1.Y], boxO 35 g85 [.int .i64 x82.2.1.X, .int .i64 x82.2.1.Y]]) 6 ?_ ?_
                                        · refine JL.val (yl_move rfl) rfl ?_
                                          refine JL.cut (K := fun J => J [(3, .slice a3 x2.length cp4), (4, ptrAt (some ⟨g7, 0, none⟩) 0), (5, ptrAt (some ⟨g9, 0, none⟩) 0), (6, .int .i64 x6.2.2), (21, ptrAt (some ⟨g44, 0, none⟩) 0), (24, ptrAt (some ⟨g49, 0, none⟩) 0), (25, .int .i64 x48.2), (38, ptrAt (some ⟨g80, 0, none⟩) 0), (41, ptrAt (some ⟨g85, 0, none⟩) 0), (246, .bool (((((x77.2.2 != 0) || (x82.2.2 != 0)) || (decide (x82.1.X < x77.1.X))) || (decide (x82.1.Y < x77.1.Y))) || (decide (x77.2.1.X < x82.2.1.X))))] [rowT 35 eSPoint a3 x2.length cp4 x2, boxO 35 g7 [.int .i64 x6.1.X, .int .i64 x6.1.Y], boxO 35 g9 [.int .i64 x6.2.1.X, .int .i64 x6.2.1.Y], boxO 28 g44 [.int .i64 x40.1.W, .int .i64 x40.1.H, .slice a41 x40.1.Breaks.length cp42], rowT 2 eI64 a41 x40.1.Breaks.length cp42 x40.1.Breaks, boxO 35 g49 [.int .i64 x48.1.X, .int .i64 x48.1.Y], boxO 35 g80 [.int .i64 x77.2.1.X, .int .i64 x77.2.1.Y], boxO 35 g85 [.int .i64 x82.2.1.X, .int .i64 x82.2.1.Y]]) 6 ?_ ?_
                                          · refine JL.val (yl_move rfl) rfl ?_
                                            refine JL.cut (K := fun J => J [(3, .slice a3 x2.length cp4), (4, ptrAt (some ⟨g7, 0, none⟩) 0), (5, ptrAt (some ⟨g9, 0, none⟩) 0), (6, .int .i64 x6.2.2), (21, ptrAt (some ⟨g44, 0, none⟩) 0), (24, ptrAt (some ⟨g49, 0, none⟩) 0), (25, .int .i64 x48.2), (253, .bool ((((((x77.2.2 != 0) || (x82.2.2 != 0)) || (decide (x82.1.X < x77.1.X))) || (decide (x82.1.Y < x77.1.Y))) || (decide (x77.2.1.X < x82.2.1.X))) || (decide (x77.2.1.Y < x82.2.1.Y))))] [rowT 35 eSPoint a3 x2.length cp4 x2, boxO 35 g7 [.int .i64 x6.1.X, .int .i64 x6.1.Y], boxO 35 g9 [.int .i64 x6.2.1.X, .int .i64 x6.2.1.Y], boxO 28 g44 [.int .i64 x40.1.W, .int .i64 x40.1.H, .slice a41 x40.1.Breaks.length cp42], rowT 2 eI64 a41 x40.1.Breaks.length cp42 x40.1.Breaks, boxO 35 g49 [.int .i64 x48.1.X, .int .i64 x48.1.Y]]) 6 ?_ ?_
                                            · refine JL.nil ?_
                                              refine JE.weak (env' := [(3, .slice a3 x2.length cp4), (4, ptrAt (some ⟨g7, 0, none⟩) 0), (5, ptrAt (some ⟨g9, 0, none⟩) 0), (6, .int .i64 x6.2.2), (21, ptrAt (some ⟨g44, 0, none⟩) 0), (24, ptrAt (some ⟨g49, 0, none⟩) 0), (25, .int .i64 x48.2), (253, .bool ((((((x77.2.2 != 0) || (x82.2.2 != 0)) || (decide (x82.1.X < x77.1.X))) || (decide (x82.1.Y < x77.1.Y))) || (decide (x77.2.1.X < x82.2.1.X))) || (decide (x77.2.1.Y < x82.2.1.Y))))]) (es' := [rowT 35 eSPoint a3 x2.length cp4 x2, boxO 35 g7 [.int .i64 x6.1.X, .int .i64 x6.1.Y], boxO 35 g9 [.int .i64 x6.2.1.X, .int .i64 x6.2.1.Y], boxO 28 g44 [.int .i64 x40.1.W, .int .i64 x40.1.H, .slice a41 x40.1.Breaks.length cp42], rowT 2 eI64 a41 x40.1.Breaks.length cp42 x40.1.Breaks, boxO 35 g49 [.int .i64 x48.1.X, .int .i64 x48.1.Y]]) [0, 1, 2, 3, 4, 5] ?_ ⟨rfl, rfl, rfl, rfl, rfl, rfl, rfl, rfl, trivial⟩ (by decide) rfl
                                              refine JE.code ?_
                                              rcases cond_some hres with ⟨hb, hres⟩ | ⟨hb, hres⟩
                                              · refine JX.condT rfl hb ?_
                                                refine JX.seq ?_
                                                refine JX.region ?_
                                                refine JL.val (yl_assign rfl) rfl ?_
                                                refine JL.nil ?_
                                                refine JE.weak (env' := [(2, .bool false)]) (es' := []) [] ?_ ⟨rfl, trivial⟩ (by decide) rfl
                                                refine JE.code ?_
                                                refine JX.ret ?_
                                                obtain rfl := Option.some.inj hres
                                                refine JE.ret (rs := [.tmp 2]) (vs := [.bool false]) rfl ⟨rfl, trivial⟩ ?_
                                                exact fun w' hb hs => ⟨_, _, ⟨rfl, rfl⟩, rfl, hb, hs.sel [] _ (by decide) rfl⟩
                                              · refine JX.condF rfl hb ?_
                                                refine JX.skip ?_
                                                refine JE.code ?_
                                                refine JX.seq ?_
                                                refine JX.seq ?_
                                                refine JX.region ?_
                                                refine JL.val (yl_move rfl) rfl ?_
                                                refine JL.val (yl_eql rfl rfl) rfl ?_
                                                refine JL.val (yl_move rfl) rfl ?_
                                                obtain ⟨cb87, hcb87, hres⟩ := bind_some hres
                                                refine JL.cut (K := fun J => J [(3, .slice a3 x2.length cp4), (4, ptrAt (some ⟨g7, 0, none⟩) 0), (5, ptrAt (some ⟨g9, 0, none⟩) 0), (6, .int .i64 x6.2.2), (261, .bool cb87)] [rowT 35 eSPoint a3 x2.length cp4 x2, boxO 35 g7 [.int .i64 x6.1.X, .int .i64 x6.1.Y], boxO 35 g9 [.int .i64 x6.2.1.X, .int .i64 x6.2.1.Y]]) 5 ?_ ?_
                                                · refine JL.nil ?_
                                                  refine JE.weak (env' := [(3, .slice a3 x2.length cp4), (4, ptrAt (some ⟨g7, 0, none⟩) 0), (5, ptrAt (some ⟨g9, 0, none⟩) 0), (6, .int .i64 x6.2.2), (261, .bool cb87)]) (es' := [rowT 35 eSPoint a3 x2.length cp4 x2, boxO 35 g7 [.int .i64 x6.1.X, .int .i64 x6.1.Y], boxO 35 g9 [.int .i64 x6.2.1.X, .int .i64 x6.2.1.Y]]) [0, 1, 2] ?_ ⟨rfl, rfl, rfl, rfl, rfl, trivial⟩ (by decide) rfl
                                                  refine JE.code ?_
                                                  rcases cond_some hres with ⟨hb, hres⟩ | ⟨hb, hres⟩
                                                  · refine JX.condT rfl hb ?_
                                                    refine JX.seq ?_
                                                    refine JX.region ?_
                                                    refine JL.val (yl_assign rfl) rfl ?_
                                                    refine JL.nil ?_
                                                    refine JE.weak (env' := [(2, .bool false)]) (es' := []) [] ?_ ⟨rfl, trivial⟩ (by decide) rfl
                                                    refine JE.code ?_
                                                    refine JX.ret ?_
                                                    obtain rfl := Option.some.inj hres
                                                    refine JE.ret (rs := [.tmp 2]) (vs := [.bool false]) rfl ⟨rfl, trivial⟩ ?_
                                                    exact fun w' hb hs => ⟨_, _, ⟨rfl, rfl⟩, rfl, hb, hs.sel [] _ (by decide) rfl⟩
                                                  · refine JX.condF rfl hb ?_
                                                    refine JX.skip ?_
                                                    refine JE.code ?_
                                                    refine JX.seq ?_
                                                    refine JX.seq ?_
                                                    refine JX.region ?_
                                                    refine JL.val (yl_move rfl) rfl ?_
                                                    refine JL.val (yl_neq rfl rfl) rfl ?_
                                                    refine JL.nil ?_
                                                    refine JE.code ?_
                                                    rcases cond_some hres with ⟨hb, hres⟩ | ⟨hb, hres⟩
                                                    · refine JX.condT rfl hb ?_
                                                      refine JX.seq ?_
                                                      refine JX.region ?_
                                                      refine JL.val (yl_assign rfl) rfl ?_
                                                      refine JL.nil ?_
                                                      refine JE.weak (env' := [(2, .bool true)]) (es' := []) [] ?_ ⟨rfl, trivial⟩ (by decide) rfl
                                                      refine JE.code ?_
                                                      refine JX.ret ?_
                                                      obtain rfl := Option.some.inj hres
                                                      refine JE.ret (rs := [.tmp 2]) (vs := [.bool true]) rfl ⟨rfl, trivial⟩ ?_
                                                      exact fun w' hb hs => ⟨_, _, ⟨rfl, rfl⟩, rfl, hb, hs.sel [] _ (by decide) rfl⟩
                                                    · refine JX.condF rfl hb ?_
                                                      refine JX.skip ?_
                                                      refine JE.code ?_
                                                      refine JX.seq ?_
                                                      refine JX.seq ?_
                                                      refine JX.region ?_
                                                      refine JL.val (yl_assign rfl) rfl ?_
                                                      refine JL.nil ?_
                                                      refine JE.code ?_
                                                      refine JX.block ?_
                                                      obtain ⟨y1, hy1, hresO1⟩ := bind_some hres
                                                      refine JX.loop (I := fun (s1 : Int) aa ww => St w [] 308 [(3, .slice a3 x2.length cp4), (4, ptrAt (some ⟨g7, 0, none⟩) 0), (5, ptrAt (some ⟨g9, 0, none⟩) 0), (43, .int .i64 s1)] [rowT 35 eSPoint a3 x2.length cp4 x2, boxO 35 g7 [.int .i64 x6.1.X, .int .i64 x6.1.Y], boxO 35 g9 [.int .i64 x6.2.1.X, .int .i64 x6.2.1.Y]] aa ww) (sh14_1 x2 x6) hy1 (fun a w h => h.weak ⟨rfl, rfl, rfl, rfl, trivial⟩ [0, 1, 2] (by decide) rfl) ?_
                                                      rintro x89 o1 hres hox1 aa ww hS
                                                      refine (?_ : JX Go.Proofs.Try.prog w [] 308 _ _ [(3, .slice a3 x2.length cp4), (4, ptrAt (some ⟨g7, 0, none⟩) 0), (5, ptrAt (some ⟨g9, 0, none⟩) 0), (43, .int .i64 x89)] [rowT 35 eSPoint a3 x2.length cp4 x2, boxO 35 g7 [.int .i64 x6.1.X, .int .i64 x6.1.Y], boxO 35 g9 [.int .i64 x6.2.1.X, .int .i64 x6.2.1.Y]] _) aa ww hS
                                                      clear hS
                                                      unfold sh14_1 at hres
                                                      refine JX.seq ?_
                                                      refine JX.seq ?_
                                                      refine JX.region ?_
                                                      refine JL.val (yl_move rfl) rfl ?_
                                                      refine JL.val (yl_move rfl) rfl ?_
                                                      refine JL.val (yl_len_slice Go.Proofs.Try.underlying61 rfl) rfl ?_
                                                      refine JL.val (yl_lss rfl rfl) rfl ?_
                                                      refine JL.nil ?_
                                                      refine JE.weak (env' := [(3, .slice a3 x2.length cp4), (4, ptrAt (some ⟨g7, 0, none⟩) 0), (5, ptrAt (some ⟨g9, 0, none⟩) 0), (43, .int .i64 x89), (267, .bool (decide (x89 < (x2.length : Int))))]) (es' := [rowT 35 eSPoint a3 x2.length cp4 x2, boxO 35 g7 [.int .i64 x6.1.X, .int .i64 x6.1.Y], boxO 35 g9 [.int .i64 x6.2.1.X, .int .i64 x6.2.1.Y]]) [0, 1, 2] ?_ ⟨rfl, rfl, rfl, rfl, rfl, trivial⟩ (by decide) rfl
                                                      refine JE.code ?_
                                                      rcases cond_some hres with ⟨hb, hres⟩ | ⟨hb, hres⟩
                                                      · refine JX.condT rfl hb ?_
                                                        refine JX.skip ?_
                                                        refine JE.code ?_
                                                        refine JX.seq ?_
                                                        refine JX.block ?_
                                                        refine JX.seq ?_
                                                        refine JX.drawH [(0, .pure), (1, .pure), (2, .pure), (3, .pure), (4, .read), (5, .pure), (6, .read), (7, .pure), (8, .pure), (9, .pure), (10, .pure), (11, .pure), (12, .pure), (13, .read), (14, .pure), (15, .read), (16, .pure), (17, .pure), (18, .pure), (19, .pure), (20, .pure), (21, .pure), (22, .pure), (23, .read), (24, .pure), (25, .read), (26, .pure), (27, .pure), (28, .pure), (29, .pure), (30, .pure), (31, .pure), (32, .pure), (33, .read), (34, .pure), (35, .read), (36, .pure), (37, .pure)] [] [] [0, 1, 2] [] [rowT 35 eSPoint a3 x2.length cp4 x2, boxO 35 g7 [.int .i64 x6.1.X, .int .i64 x6.1.Y], boxO 35 g9 [.int .i64 x6.2.1.X, .int .i64 x6.2.1.Y]] mixedP (by kernel_rfl) (by kernel_rfl) (by decide) rfl rfl ?_
                                                        intro wrr90 Nr90 hFr90
                                                        refine JH.pure rfl (yl_move rfl) rfl ?_
                                                        refine JH.pure rfl (yl_move rfl) rfl ?_
                                                        obtain ⟨x91, hx91, hres⟩ := bind_some hres
                                                        refine JH.pure rfl (yl_idxQ Go.Proofs.Try.underlying61 i35 i35s rfl rfl hx91 rfl (rd_row hFr90.cl 0 rfl) rfl) rfl ?_
                                                        refine JH.pure rfl (yl_fieldAt Go.Proofs.Try.underlying35 rfl i2 i2n rfl (RdT.someQ (rd_row hFr90.cl 0 rfl) hx91 rfl rfl)) rfl ?_
                                                        refine JH.read rfl (yl_loadT1 Go.Proofs.Try.underlying2 rfl rfl hx91 (fun w hw => hFr90.row 0 rfl rfl hw) rfl) rfl ?_
                                                        refine JH.pure rfl (yl_fieldAt (a := some _) Go.Proofs.Try.underlying35 rfl i2 i2n rfl rfl) rfl ?_
                                                        refine JH.read rfl (yl_load1 Go.Proofs.Try.underlying2 rfl rfl (fun w hw => hFr90.box 1 rfl rfl hw) rfl) rfl ?_
                                                        refine JH.pure rfl (yl_lss rfl rfl) rfl ?_
                                                        refine JH.pure rfl (yl_move rfl) rfl ?_
                                                        obtain ⟨cb92, hcb92, hres⟩ := bind_some hres
                                                        refine JH.cut (K := fun J => J [(3, .slice a3 x2.length cp4), (4, ptrAt (some ⟨g7, 0, none⟩) 0), (5, ptrAt (some ⟨g9, 0, none⟩) 0), (43, .int .i64 x89), (287, .bool cb92)] []) 9 ?_ ?_
                                                        · refine JH.pure rfl (yl_move rfl) rfl ?_
                                                          obtain ⟨cb94, hcb94, hres⟩ := bind_some hres
                                                          refine JH.cut (K := fun J => J [(3, .slice a3 x2.length cp4), (4, ptrAt (some ⟨g7, 0, none⟩) 0), (5, ptrAt (some ⟨g9, 0, none⟩) 0), (43, .int .i64 x89), (297, .bool cb94)] []) 9 ?_ ?_
                                                          · refine JH.pure rfl (yl_move rfl) rfl ?_
                                                            obtain ⟨cb96, hcb96, hres⟩ := bind_some hres
                                                            refine JH.cut (K := fun J => J [(3, .slice a3 x2.length cp4), (4, ptrAt (some ⟨g7, 0, none⟩) 0), (5, ptrAt (some ⟨g9, 0, none⟩) 0), (43, .int .i64 x89), (307, .bool cb96)] []) 9 ?_ ?_
                                                            · refine JH.nil ?_
                                                              refine JE.weak (env' := [(3, .slice a3 x2.length cp4), (4, ptrAt (some ⟨g7, 0, none⟩) 0), (5, ptrAt (some ⟨g9, 0, none⟩) 0), (43, .int .i64 x89), (307, .bool cb96)]) (es' := [rowT 35 eSPoint a3 x2.length cp4 x2, boxO 35 g7 [.int .i64 x6.1.X, .int .i64 x6.1.Y], boxO 35 g9 [.int .i64 x6.2.1.X, .int .i64 x6.2.1.Y]]) [0, 1, 2] ?_ ⟨rfl, rfl, rfl, rfl, rfl, trivial⟩ (by decide) rfl
                                                              refine JE.code ?_
                                                              rcases cond_some hres with ⟨hb, hres⟩ | ⟨hb, hres⟩
                                                              · refine JX.condT rfl hb ?_
                                                                refine JX.seq ?_
                                                                refine JX.region ?_
                                                                refine JL.val (yl_assign rfl) rfl ?_
                                                                refine JL.nil ?_
                                                                refine JE.weak (env' := [(2, .bool false)]) (es' := []) [] ?_ ⟨rfl, trivial⟩ (by decide) rfl
                                                                refine JE.code ?_
                                                                refine JX.ret ?_
                                                                refine JE.qbr ?_
                                                                refine JE.qbr ?_
                                                                have hres := elimS_inr hresO1 (hox1 _ (Option.some.inj hres).symm)
                                                                obtain rfl := Option.some.inj hres
                                                                refine JE.ret (rs := [.tmp 2]) (vs := [.bool false]) rfl ⟨rfl, trivial⟩ ?_
                                                                exact fun w' hb hs => ⟨_, _, ⟨rfl, rfl⟩, rfl, hb, hs.sel [] _ (by decide) rfl⟩
                                                              · refine JX.condF rfl hb ?_
                                                                refine JX.skip ?_
                                                                refine JE.code ?_
                                                                refine JX.region ?_
                                                                refine JL.val (yl_move rfl) rfl ?_
                                                                refine JL.val (yl_add rfl rfl) rfl ?_
                                                                refine JL.val (yl_assign rfl) rfl ?_
                                                                refine JL.nil ?_
                                                                refine JE.cont hres ?_
                                                                exact fun a w h => h.weak ⟨rfl, rfl, rfl, rfl, trivial⟩ [0, 1, 2] (by decide) rfl
                                                            · intro K
                                                              rcases cond_some hcb96 with ⟨hb, hres⟩ | ⟨hb, hres⟩
                                                              · refine JH.set (d := 298) (v := .bool true) (congrArg (fun b => some (Value.bool b)) hb) ?_
                                                                refine JH.gskip rfl rfl rfl rfl rfl rfl ?_
                                                                refine JH.gskip rfl rfl rfl rfl rfl rfl ?_
                                                                refine JH.gskip rfl rfl rfl rfl rfl rfl ?_
                                                                refine JH.gskip rfl rfl rfl rfl rfl rfl ?_
                                                                refine JH.gskip rfl rfl rfl rfl rfl rfl ?_
                                                                refine JH.gskip rfl rfl rfl rfl rfl rfl ?_
                                                                refine JH.gskip rfl rfl rfl rfl rfl rfl ?_
                                                                refine JH.gskip rfl rfl rfl rfl rfl rfl ?_
                                                                refine JH.pure rfl (yl_pick_true rfl rfl) rfl ?_
                                                                have he := Option.some.inj hres
                                                                exact JH.weak [] K ⟨rfl, rfl, rfl, rfl, (by rw [← he]; rfl), trivial⟩ (by decide) rfl
                                                              · refine JH.set (d := 298) (v := .bool false) (congrArg (fun b => some (Value.bool b)) hb) ?_
                                                                refine JH.gpure rfl rfl rfl (yl_move rfl) rfl ?_
                                                                refine JH.gpure rfl rfl rfl (yl_move rfl) rfl ?_
                                                                obtain ⟨x97, hx97, hres⟩ := bind_some hres
                                                                refine JH.gpure rfl rfl rfl (yl_idxQ Go.Proofs.Try.underlying61 i35 i35s rfl rfl hx97 rfl (rd_row hFr90.cl 0 rfl) rfl) rfl ?_
                                                                refine JH.gpure rfl rfl rfl (yl_fieldAt Go.Proofs.Try.underlying35 rfl i2 i2n rfl (RdT.someQ (rd_row hFr90.cl 0 rfl) hx97 rfl rfl)) rfl ?_
                                                                refine JH.gread rfl rfl rfl (yl_loadT1 Go.Proofs.Try.underlying2 rfl rfl hx97 (fun w hw => hFr90.row 0 rfl rfl hw) rfl) rfl ?_
                                                                refine JH.gpure rfl rfl rfl (yl_fieldAt (a := some _) Go.Proofs.Try.underlying35 rfl i2 i2n rfl rfl) rfl ?_
                                                                refine JH.gread rfl rfl rfl (yl_load1 Go.Proofs.Try.underlying2 rfl rfl (fun w hw => hFr90.box 2 rfl rfl hw) rfl) rfl ?_
                                                                refine JH.gpure rfl rfl rfl (yl_gtr rfl rfl) rfl ?_
                                                                refine JH.pure rfl (yl_pick_false rfl rfl) rfl ?_
                                                                have he := Option.some.inj hres
                                                                exact JH.weak [] K ⟨rfl, rfl, rfl, rfl, (by rw [← he]; rfl), trivial⟩ (by decide) rfl
                                                          · intro K
                                                            rcases cond_some hcb94 with ⟨hb, hres⟩ | ⟨hb, hres⟩
                                                            · refine JH.set (d := 288) (v := .bool true) (congrArg (fun b => some (Value.bool b)) hb) ?_
                                                              refine JH.gskip rfl rfl rfl rfl rfl rfl ?_
                                                              refine JH.gskip rfl rfl rfl rfl rfl rfl ?_
                                                              refine JH.gskip rfl rfl rfl rfl rfl rfl ?_
                                                              refine JH.gskip rfl rfl rfl rfl rfl rfl ?_
                                                              refine JH.gskip rfl rfl rfl rfl rfl rfl ?_
                                                              refine JH.gskip rfl rfl rfl rfl rfl rfl ?_
                                                              refine JH.gskip rfl rfl rfl rfl rfl rfl ?_
                                                              refine JH.gskip rfl rfl rfl rfl rfl rfl ?_
                                                              refine JH.pure rfl (yl_pick_true rfl rfl) rfl ?_
                                                              have he := Option.some.inj hres
                                                              exact JH.weak [] K ⟨rfl, rfl, rfl, rfl, (by rw [← he]; rfl), trivial⟩ (by decide) rfl
                                                            · refine JH.set (d := 288) (v := .bool false) (congrArg (fun b => some (Value.bool b)) hb) ?_
                                                              refine JH.gpure rfl rfl rfl (yl_move rfl) rfl ?_
                                                              refine JH.gpure rfl rfl rfl (yl_move rfl) rfl ?_
                                                              obtain ⟨x95, hx95, hres⟩ := bind_some hres
                                                              refine JH.gpure rfl rfl rfl (yl_idxQ Go.Proofs.Try.underlying61 i35 i35s rfl rfl hx95 rfl (rd_row hFr90.cl 0 rfl) rfl) rfl ?_
                                                              refine JH.gpure rfl rfl rfl (yl_fieldAt Go.Proofs.Try.underlying35 rfl i2 i2n rfl (RdT.someQ (rd_row hFr90.cl 0 rfl) hx95 rfl rfl)) rfl ?_
                                                              refine JH.gread rfl rfl rfl (yl_loadT1 Go.Proofs.Try.underlying2 rfl rfl hx95 (fun w hw => hFr90.row 0 rfl rfl hw) rfl) rfl ?_
                                                              refine JH.gpure rfl rfl rfl (yl_fieldAt (a := some _) Go.Proofs.Try.underlying35 rfl i2 i2n rfl rfl) rfl ?_
                                                              refine JH.gread rfl rfl rfl (yl_load1 Go.Proofs.Try.underlying2 rfl rfl (fun w hw => hFr90.box 2 rfl rfl hw) rfl) rfl ?_
                                                              refine JH.gpure rfl rfl rfl (yl_gtr rfl rfl) rfl ?_
                                                              refine JH.pure rfl (yl_pick_false rfl rfl) rfl ?_
                                                              have he := Option.some.inj hres
                                                              exact JH.weak [] K ⟨rfl, rfl, rfl, rfl, (by rw [← he]; rfl), trivial⟩ (by decide) rfl
                                                        · intro K
                                                          rcases cond_some hcb92 with ⟨hb, hres⟩ | ⟨hb, hres⟩
                                                          · refine JH.set (d := 278) (v := .bool true) (congrArg (fun b => some (Value.bool b)) hb) ?_
                                                            refine JH.gskip rfl rfl rfl rfl rfl rfl ?_
                                                            refine JH.gskip rfl rfl rfl rfl rfl rfl ?_
                                                            refine JH.gskip rfl rfl rfl rfl rfl rfl ?_
                                                            refine JH.gskip rfl rfl rfl rfl rfl rfl ?_
                                                            refine JH.gskip rfl rfl rfl rfl rfl rfl ?_
                                                            refine JH.gskip rfl rfl rfl rfl rfl rfl ?_
                                                            refine JH.gskip rfl rfl rfl rfl rfl rfl ?_
                                                            refine JH.gskip rfl rfl rfl rfl rfl rfl ?_
                                                            refine JH.pure rfl (yl_pick_true rfl rfl) rfl ?_
                                                            have he := Option.some.inj hres
                                                            exact JH.weak [] K ⟨rfl, rfl, rfl, rfl, (by rw [← he]; rfl), trivial⟩ (by decide) rfl
                                                          · refine JH.set (d := 278) (v := .bool false) (congrArg (fun b => some (Value.bool b)) hb) ?_
                                                            refine JH.gpure rfl rfl rfl (yl_move rfl) rfl ?_
                                                            refine JH.gpure rfl rfl rfl (yl_move rfl) rfl ?_
                                                            obtain ⟨x93, hx93, hres⟩ := bind_some hres
                                                            refine JH.gpure rfl rfl rfl (yl_idxQ Go.Proofs.Try.underlying61 i35 i35s rfl rfl hx93 rfl (rd_row hFr90.cl 0 rfl) rfl) rfl ?_
                                                            refine JH.gpure rfl rfl rfl (yl_fieldAt Go.Proofs.Try.underlying35 rfl i2 i2n rfl (RdT.someQ (rd_row hFr90.cl 0 rfl) hx93 rfl rfl)) rfl ?_
                                                            refine JH.gread rfl rfl rfl (yl_loadT1 Go.Proofs.Try.underlying2 rfl rfl hx93 (fun w hw => hFr90.row 0 rfl rfl hw) rfl) rfl ?_
                                                            refine JH.gpure rfl rfl rfl (yl_fieldAt (a := some _) Go.Proofs.Try.underlying35 rfl i2 i2n rfl rfl) rfl ?_
                                                            refine JH.gread rfl rfl rfl (yl_load1 Go.Proofs.Try.underlying2 rfl rfl (fun w hw => hFr90.box 1 rfl rfl hw) rfl) rfl ?_
                                                            refine JH.gpure rfl rfl rfl (yl_lss rfl rfl) rfl ?_
                                                            refine JH.pure rfl (yl_pick_false rfl rfl) rfl ?_
                                                            have he := Option.some.inj hres
                                                            exact JH.weak [] K ⟨rfl, rfl, rfl, rfl, (by rw [← he]; rfl), trivial⟩ (by decide) rfl
                                                      · refine JX.condF rfl hb ?_
                                                        refine JX.exit ?_
                                                        refine JE.qb rfl ?_
                                                        obtain ⟨b1, hb1⟩ : ∃ b : Unit, b = () := ⟨_, rfl⟩
                                                        have hy1 : Sum.inl b1 = y1 := by rw [hb1]; exact hox1 _ (Option.some.inj hres).symm
                                                        have hres := elimS_inl hresO1 hy1
                                                        refine JE.weak (env' := []) (es' := []) [] ?_ trivial (by decide) (by subst hb1; rfl)
                                                        refine JE.code ?_
                                                        refine JX.seq ?_
                                                        refine JX.region ?_
                                                        refine JL.val (yl_assign rfl) rfl ?_
                                                        refine JL.nil ?_
                                                        refine JE.code ?_
                                                        refine JX.ret ?_
                                                        obtain rfl := Option.some.inj hres
                                                        refine JE.ret (rs := [.tmp 2]) (vs := [.bool true]) rfl ⟨rfl, trivial⟩ ?_
                                                        exact fun w' hb hs => ⟨_, _, ⟨rfl, rfl⟩, rfl, hb, hs.sel [] _ (by decide) rfl⟩
                                                · intro K
                                                  rcases cond_some hcb87 with ⟨hb, hres⟩ | ⟨hb, hres⟩
                                                  · refine JL.set (d := 256) (v := .bool true) (congrArg (fun b => some (Value.bool b)) hb) ?_
                                                    refine JL.gval rfl rfl (yl_loadn Go.Proofs.Try.underlying28 rfl i28 rfl (fun w hC => rd_box hC 3 rfl) rfl (i28s).symm i28p) rfl ?_
                                                    refine JL.gval rfl rfl (yl_loadn Go.Proofs.Try.underlying35 rfl i35 rfl (fun w hC => rd_box hC 5 rfl) rfl (i35s).symm i35p) rfl ?_
                                                    obtain ⟨x88, hx88, hres⟩ := bind_some hres
                                                    refine JL.geff rfl rfl (ef_call (vs := [.agg #[.int .i64 x40.1.W, .int .i64 x40.1.H, .slice a41 x40.1.Breaks.length cp42], .agg #[.int .i64 x48.1.X, .int .i64 x48.1.Y]]) (T := T80 x88) Go.Proofs.Try.func80 rfl (by kernel_rfl) rfl (fun w hC => c80 (q0 := x40.1) (q1 := x48.1) (rd_row hC 4 rfl) rfl (ln_row hC 4 rfl) hx88)) rfl ?_
                                                    rintro _ _ ⟨_, ⟨rfl, rfl⟩, rfl⟩
                                                    refine JL.gval rfl rfl (yl_not rfl) rfl ?_
                                                    refine JL.val (yl_pick_true rfl rfl) rfl ?_
                                                    have he := Option.some.inj hres
                                                    exact JL.weak [0, 1, 2] K ⟨rfl, rfl, rfl, rfl, (by rw [← he]; rfl), trivial⟩ (by decide) rfl
                                                  · refine JL.set (d := 256) (v := .bool false) (congrArg (fun b => some (Value.bool b)) hb) ?_
                                                    refine JL.gskip rfl rfl rfl rfl ?_
                                                    refine JL.gskip rfl rfl rfl rfl ?_
                                                    refine JL.gskip rfl rfl rfl rfl ?_
                                                    refine JL.gskip rfl rfl rfl rfl ?_
                                                    refine JL.val (yl_pick_false rfl rfl) rfl ?_
                                                    have he := Option.some.inj hres
                                                    exact JL.weak [0, 1, 2] K ⟨rfl, rfl, rfl, rfl, (by rw [← he]; rfl), trivial⟩ (by decide) rfl
                                            · intro K
                                              rcases Bool.eq_false_or_eq_true (((((x77.2.2 != 0) || (x82.2.2 != 0)) || (decide (x82.1.X < x77.1.X))) || (decide (x82.1.Y < x77.1.Y))) || (decide (x77.2.1.X < x82.2.1.X))) with hb | hb
                                              · refine JL.set (d := 247) (v := .bool true) (congrArg (fun b => some (Value.bool b)) hb) ?_
                                                refine JL.gskip rfl rfl rfl rfl ?_
                                                refine JL.gskip rfl rfl rfl rfl ?_
                                                refine JL.gskip rfl rfl rfl rfl ?_
                                                refine JL.gskip rfl rfl rfl rfl ?_
                                                refine JL.gskip rfl rfl rfl rfl ?_
                                                refine JL.val (yl_pick_true rfl rfl) rfl ?_
                                                exact JL.weak [0, 1, 2, 3, 4, 5] K ⟨rfl, rfl, rfl, rfl, rfl, rfl, rfl, (by rw [hb]; rfl), trivial⟩ (by decide) rfl
                                              · refine JL.set (d := 247) (v := .bool false) (congrArg (fun b => some (Value.bool b)) hb) ?_
                                                refine JL.gval rfl rfl (yl_fieldAt (a := some _) Go.Proofs.Try.underlying35 rfl i2 i2n rfl rfl) rfl ?_
                                                refine JL.gval rfl rfl (yl_load1 Go.Proofs.Try.underlying2 rfl rfl (fun w hC => rd_box hC 7 rfl) rfl) rfl ?_
                                                refine JL.gval rfl rfl (yl_fieldAt (a := some _) Go.Proofs.Try.underlying35 rfl i2 i2n rfl rfl) rfl ?_
                                                refine JL.gval rfl rfl (yl_load1 Go.Proofs.Try.underlying2 rfl rfl (fun w hC => rd_box hC 6 rfl) rfl) rfl ?_
                                                refine JL.gval rfl rfl (yl_gtr rfl rfl) rfl ?_
                                                refine JL.val (yl_pick_false rfl rfl) rfl ?_
                                                exact JL.weak [0, 1, 2, 3, 4, 5] K ⟨rfl, rfl, rfl, rfl, rfl, rfl, rfl, (by rw [hb]; rfl), trivial⟩ (by decide) rfl
                                          · intro K
                                            rcases Bool.eq_false_or_eq_true ((((x77.2.2 != 0) || (x82.2.2 != 0)) || (decide (x82.1.X < x77.1.X))) || (decide (x82.1.Y < x77.1.Y))) with hb | hb
                                            · refine JL.set (d := 240) (v := .bool true) (congrArg (fun b => some (Value.bool b)) hb) ?_
                                              refine JL.gskip rfl rfl rfl rfl ?_
                                              refine JL.gskip rfl rfl rfl rfl ?_
                                              refine JL.gskip rfl rfl rfl rfl ?_
                                              refine JL.gskip rfl rfl rfl rfl ?_
                                              refine JL.gskip rfl rfl rfl rfl ?_
                                              refine JL.val (yl_pick_true rfl rfl) rfl ?_
                                              exact JL.weak [0, 1, 2, 3, 4, 5, 6, 7] K ⟨rfl, rfl, rfl, rfl, rfl, rfl, rfl, rfl, rfl, (by rw [hb]; rfl), trivial⟩ (by decide) rfl
                                            · refine JL.set (d := 240) (v := .bool false) (congrArg (fun b => some (Value.bool b)) hb) ?_
                                              refine JL.gval rfl rfl (yl_fieldAt (a := some _) Go.Proofs.Try.underlying35 rfl i2 i2n rfl rfl) rfl ?_
                                              refine JL.gval rfl rfl (yl_load1 Go.Proofs.Try.underlying2 rfl rfl (fun w hC => rd_box hC 7 rfl) rfl) rfl ?_
                                              refine JL.gval rfl rfl (yl_fieldAt (a := some _) Go.Proofs.Try.underlying35 rfl i2 i2n rfl rfl) rfl ?_
                                              refine JL.gval rfl rfl (yl_load1 Go.Proofs.Try.underlying2 rfl rfl (fun w hC => rd_box hC 6 rfl) rfl) rfl ?_
                                              refine JL.gval rfl rfl (yl_gtr rfl rfl) rfl ?_
                                              refine JL.val (yl_pick_false rfl rfl) rfl ?_
                                              exact JL.weak [0, 1, 2, 3, 4, 5, 6, 7] K ⟨rfl, rfl, rfl, rfl, rfl, rfl, rfl, rfl, rfl, (by rw [hb]; rfl), trivial⟩ (by decide) rfl
                                        · intro K
                                          rcases Bool.eq_false_or_eq_true (((x77.2.2 != 0) || (x82.2.2 != 0)) || (decide (x82.1.X < x77.1.X))) with hb | hb
                                          · refine JL.set (d := 233) (v := .bool true) (congrArg (fun b => some (Value.bool b)) hb) ?_
                                            refine JL.gskip rfl rfl rfl rfl ?_
                                            refine JL.gskip rfl rfl rfl rfl ?_
                                            refine JL.gskip rfl rfl rfl rfl ?_
                                            refine JL.gskip rfl rfl rfl rfl ?_
                                            refine JL.gskip rfl rfl rfl rfl ?_
                                            refine JL.val (yl_pick_true rfl rfl) rfl ?_
                                            exact JL.weak [0, 1, 2, 3, 4, 5, 7, 9] K ⟨rfl, rfl, rfl, rfl, rfl, rfl, rfl, rfl, rfl, (by rw [hb]; rfl), trivial⟩ (by decide) rfl
                                          · refine JL.set (d := 233) (v := .bool false) (congrArg (fun b => some (Value.bool b)) hb) ?_
                                            refine JL.gval rfl rfl (yl_fieldAt (a := some _) Go.Proofs.Try.underlying35 rfl i2 i2n rfl rfl) rfl ?_
                                            refine JL.gval rfl rfl (yl_load1 Go.Proofs.Try.underlying2 rfl rfl (fun w hC => rd_box hC 8 rfl) rfl) rfl ?_
                                            refine JL.gval rfl rfl (yl_fieldAt (a := some _) Go.Proofs.Try.underlying35 rfl i2 i2n rfl rfl) rfl ?_
                                            refine JL.gval rfl rfl (yl_load1 Go.Proofs.Try.underlying2 rfl rfl (fun w hC => rd_box hC 6 rfl) rfl) rfl ?_
                                            refine JL.gval rfl rfl (yl_lss rfl rfl) rfl ?_
                                            refine JL.val (yl_pick_false rfl rfl) rfl ?_
                                            exact JL.weak [0, 1, 2, 3, 4, 5, 7, 9] K ⟨rfl, rfl, rfl, rfl, rfl, rfl, rfl, rfl, rfl, (by rw [hb]; rfl), trivial⟩ (by decide) rfl
                                      · intro K
                                        rcases Bool.eq_false_or_eq_true ((x77.2.2 != 0) || (x82.2.2 != 0)) with hb | hb
                                        · refine JL.set (d := 226) (v := .bool true) (congrArg (fun b => some (Value.bool b)) hb) ?_
                                          refine JL.gskip rfl rfl rfl rfl ?_
                                          refine JL.gskip rfl rfl rfl rfl ?_
                                          refine JL.gskip rfl rfl rfl rfl ?_
                                          refine JL.gskip rfl rfl rfl rfl ?_
                                          refine JL.gskip rfl rfl rfl rfl ?_
                                          refine JL.val (yl_pick_true rfl rfl) rfl ?_
                                          exact JL.weak [0, 1, 2, 3, 4, 5, 6, 7, 8, 9] K ⟨rfl, rfl, rfl, rfl, rfl, rfl, rfl, rfl, rfl, rfl, rfl, (by rw [hb]; rfl), trivial⟩ (by decide) rfl
                                        · refine JL.set (d := 226) (v := .bool false) (congrArg (fun b => some (Value.bool b)) hb) ?_
                                          refine JL.gval rfl rfl (yl_fieldAt (a := some _) Go.Proofs.Try.underlying35 rfl i2 i2n rfl rfl) rfl ?_
                                          refine JL.gval rfl rfl (yl_load1 Go.Proofs.Try.underlying2 rfl rfl (fun w hC => rd_box hC 8 rfl) rfl) rfl ?_
                                          refine JL.gval rfl rfl (yl_fieldAt (a := some _) Go.Proofs.Try.underlying35 rfl i2 i2n rfl rfl) rfl ?_
                                          refine JL.gval rfl rfl (yl_load1 Go.Proofs.Try.underlying2 rfl rfl (fun w hC => rd_box hC 6 rfl) rfl) rfl ?_
                                          refine JL.gval rfl rfl (yl_lss rfl rfl) rfl ?_
                                          refine JL.val (yl_pick_false rfl rfl) rfl ?_
                                          exact JL.weak [0, 1, 2, 3, 4, 5, 6, 7, 8, 9] K ⟨rfl, rfl, rfl, rfl, rfl, rfl, rfl, rfl, rfl, rfl, rfl, (by rw [hb]; rfl), trivial⟩ (by decide) rfl
                                    · intro K
                                      rcases Bool.eq_false_or_eq_true (x77.2.2 != 0) with hb | hb
                                      · refine JL.set (d := 222) (v := .bool true) (congrArg (fun b => some (Value.bool b)) hb) ?_
                                        refine JL.gskip rfl rfl rfl rfl ?_
                                        refine JL.gskip rfl rfl rfl rfl ?_
                                        refine JL.val (yl_pick_true rfl rfl) rfl ?_
                                        exact JL.weak [0, 1, 2, 3, 4, 5, 6, 7, 8, 9] K ⟨rfl, rfl, rfl, rfl, rfl, rfl, rfl, rfl, rfl, rfl, rfl, (by rw [hb]; rfl), trivial⟩ (by decide) rfl
                                      · refine JL.set (d := 222) (v := .bool false) (congrArg (fun b => some (Value.bool b)) hb) ?_
                                        refine JL.gval rfl rfl (yl_move rfl) rfl ?_
                                        refine JL.gval rfl rfl (yl_neq rfl rfl) rfl ?_
                                        refine JL.val (yl_pick_false rfl rfl) rfl ?_
                                        exact JL.weak [0, 1, 2, 3, 4, 5, 6, 7, 8, 9] K ⟨rfl, rfl, rfl, rfl, rfl, rfl, rfl, rfl, rfl, rfl, rfl, (by rw [hb]; rfl), trivial⟩ (by decide) rfl
                                  · refine JX.condF rfl hb ?_
                                    refine JX.skip ?_
                                    refine JE.code ?_
                                    refine JX.seq ?_
                                    refine JX.seq ?_
                                    refine JX.region ?_
                                    refine JL.val (yl_move rfl) rfl ?_
                                    refine JL.val (yl_eql rfl rfl) rfl ?_
                                    refine JL.val (yl_move rfl) rfl ?_
                                    obtain ⟨cb98, hcb98, hres⟩ := bind_some hres
                                    refine JL.cut (K := fun J => J [(3, .slice a3 x2.length cp4), (4, ptrAt (some ⟨g7, 0, none⟩) 0), (5, ptrAt (some ⟨g9, 0, none⟩) 0), (6, .int .i64 x6.2.2), (261, .bool cb98)] [rowT 35 eSPoint a3 x2.length cp4 x2, boxO 35 g7 [.int .i64 x6.1.X, .int .i64 x6.1.Y], boxO 35 g9 [.int .i64 x6.2.1.X, .int .i64 x6.2.1.Y]]) 5 ?_ ?_
                                    · refine JL.nil ?_
                                      refine JE.weak (env' := [(3, .slice a3 x2.length cp4), (4, ptrAt (some ⟨g7, 0, none⟩) 0), (5, ptrAt (some ⟨g9, 0, none⟩) 0), (6, .int .i64 x6.2.2), (261, .bool cb98)]) (es' := [rowT 35 eSPoint a3 x2.length cp4 x2, boxO 35 g7 [.int .i64 x6.1.X, .int .i64 x6.1.Y], boxO 35 g9 [.int .i64 x6.2.1.X, .int .i64 x6.2.1.Y]]) [0, 1, 2] ?_ ⟨rfl, rfl, rfl, rfl, rfl, trivial⟩ (by decide) rfl
                                      refine JE.code ?_
                                      rcases cond_some hres with ⟨hb, hres⟩ | ⟨hb, hres⟩
                                      · refine JX.condT rfl hb ?_
                                        refine JX.seq ?_
                                        refine JX.region ?_
                                        refine JL.val (yl_assign rfl) rfl ?_
                                        refine JL.nil ?_
                                        refine JE.weak (env' := [(2, .bool false)]) (es' := []) [] ?_ ⟨rfl, trivial⟩ (by decide) rfl
                                        refine JE.code ?_
                                        refine JX.ret ?_
                                        obtain rfl := Option.some.inj hres
                                        refine JE.ret (rs := [.tmp 2]) (vs := [.bool false]) rfl ⟨rfl, trivial⟩ ?_
                                        exact fun w' hb hs => ⟨_, _, ⟨rfl, rfl⟩, rfl, hb, hs.sel [] _ (by decide) rfl⟩
                                      · refine JX.condF rfl hb ?_
                                        refine JX.skip ?_
                                        refine JE.code ?_
                                        refine JX.seq ?_
                                        refine JX.seq ?_
                                        refine JX.region ?_
                                        refine JL.val (yl_move rfl) rfl ?_
                                        refine JL.val (yl_neq rfl rfl) rfl ?_
                                        refine JL.nil ?_
                                        refine JE.code ?_
                                        rcases cond_some hres with ⟨hb, hres⟩ | ⟨hb, hres⟩
                                        · refine JX.condT rfl hb ?_
                                          refine JX.seq ?_
                                          refine JX.region ?_
                                          refine JL.val (yl_assign rfl) rfl ?_
                                          refine JL.nil ?_
                                          refine JE.weak (env' := [(2, .bool true)]) (es' := []) [] ?_ ⟨rfl, trivial⟩ (by decide) rfl
                                          refine JE.code ?_
                                          refine JX.ret ?_
                                          obtain rfl := Option.some.inj hres
                                          refine JE.ret (rs := [.tmp 2]) (vs := [.bool true]) rfl ⟨rfl, trivial⟩ ?_
                                          exact fun w' hb hs => ⟨_, _, ⟨rfl, rfl⟩, rfl, hb, hs.sel [] _ (by decide) rfl⟩
                                        · refine JX.condF rfl hb ?_
                                          refine JX.skip ?_
                                          refine JE.code ?_
                                          refine JX.seq ?_
                                          refine JX.seq ?_
                                          refine JX.region ?_
                                          refine JL.val (yl_assign rfl) rfl ?_
                                          refine JL.nil ?_
                                          refine JE.code ?_
                                          refine JX.block ?_
                                          obtain ⟨y2, hy2, hresO2⟩ := bind_some hres
                                          refine JX.loop (I := fun (s2 : Int) aa ww => St w [] 308 [(3, .slice a3 x2.length cp4), (4, ptrAt (some ⟨g7, 0, none⟩) 0), (5, ptrAt (some ⟨g9, 0, none⟩) 0), (43, .int .i64 s2)] [rowT 35 eSPoint a3 x2.length cp4 x2, boxO 35 g7 [.int .i64 x6.1.X, .int .i64 x6.1.Y], boxO 35 g9 [.int .i64 x6.2.1.X, .int .i64 x6.2.1.Y]] aa ww) (sh14_2 x2 x6) hy2 (fun a w h => h.weak ⟨rfl, rfl, rfl, rfl, trivial⟩ [0, 1, 2] (by decide) rfl) ?_
                                          rintro x100 o2 hres hox2 aa ww hS
                                          refine (?_ : JX Go.Proofs.Try.prog w [] 308 _ _ [(3, .slice a3 x2.length cp4), (4, ptrAt (some ⟨g7, 0, none⟩) 0), (5, ptrAt (some ⟨g9, 0, none⟩) 0), (43, .int .i64 x100)] [rowT 35 eSPoint a3 x2.length cp4 x2, boxO 35 g7 [.int .i64 x6.1.X, .int .i64 x6.1.Y], boxO 35 g9 [.int .i64 x6.2.1.X, .int .i64 x6.2.1.Y]] _) aa ww hS
                                          clear hS
                                          unfold sh14_2 at hres
                                          refine JX.seq ?_
                                          refine JX.seq ?_
                                          refine JX.region ?_
                                          refine JL.val (yl_move rfl) rfl ?_
                                          refine JL.val (yl_move rfl) rfl ?_
                                          refine JL.val (yl_len_slice Go.Proofs.Try.underlying61 rfl) rfl ?_
                                          refine JL.val (yl_lss rfl rfl) rfl ?_
                                          refine JL.nil ?_
                                          refine JE.weak (env' := [(3, .slice a3 x2.length cp4), (4, ptrAt (some ⟨g7, 0, none⟩) 0), (5, ptrAt (some ⟨g9, 0, none⟩) 0), (43, .int .i64 x100), (267, .bool (decide (x100 < (x2.length : Int))))]) (es' := [rowT 35 eSPoint a3 x2.length cp4 x2, boxO 35 g7 [.int .i64 x6.1.X, .int .i64 x6.1.Y], boxO 35 g9 [.int .i64 x6.2.1.X, .int .i64 x6.2.1.Y]]) [0, 1, 2] ?_ ⟨rfl, rfl, rfl, rfl, rfl, trivial⟩ (by decide) rfl
                                          refine JE.code ?_
                                          rcases cond_some hres with ⟨hb, hres⟩ | ⟨hb, hres⟩
                                          · refine JX.condT rfl hb ?_
                                            refine JX.skip ?_
                                            refine JE.code ?_
                                            refine JX.seq ?_
                                            refine JX.block ?_
                                            refine JX.seq ?_
                                            refine JX.drawH [(0, .pure), (1, .pure), (2, .pure), (3, .pure), (4, .read), (5, .pure), (6, .read), (7, .pure), (8, .pure), (9, .pure), (10, .pure), (11, .pure), (12, .pure), (13, .read), (14, .pure), (15, .read), (16, .pure), (17, .pure), (18, .pure), (19, .pure), (20, .pure), (21, .pure), (22, .pure), (23, .read), (24, .pure), (25, .read), (26, .pure), (27, .pure), (28, .pure), (29, .pure), (30, .pure), (31, .pure), (32, .pure), (33, .read), (34, .pure), (35, .read), (36, .pure), (37, .pure)] [] [] [0, 1, 2] [] [rowT 35 eSPoint a3 x2.length cp4 x2, boxO 35 g7 [.int .i64 x6.1.X, .int .i64 x6.1.Y], boxO 35 g9 [.int .i64 x6.2.1.X, .int .i64 x6.2.1.Y]] mixedP (by kernel_rfl) (by kernel_rfl) (by decide) rfl rfl ?_
                                            intro wrr101 Nr101 hFr101
                                            refine JH.pure rfl (yl_move rfl) rfl ?_
                                            refine JH.pure rfl (yl_move rfl) rfl ?_
                                            obtain ⟨x102, hx102, hres⟩ := bind_some hres
                                            refine JH.pure rfl (yl_idxQ Go.Proofs.Try.underlying61 i35 i35s rfl rfl hx102 rfl (rd_row hFr101.cl 0 rfl) rfl) rfl ?_
                                            refine JH.pure rfl (yl_fieldAt Go.Proofs.Try.underlying35 rfl i2 i2n rfl (RdT.someQ (rd_row hFr101.cl 0 rfl) hx102 rfl rfl)) rfl ?_
                                            refine JH.read rfl (yl_loadT1 Go.Proofs.Try.underlying2 rfl rfl hx102 (fun w hw => hFr101.row 0 rfl rfl hw) rfl) rfl ?_
                                            refine JH.pure rfl (yl_fieldAt (a := some _) Go.Proofs.Try.underlying35 rfl i2 i2n rfl rfl) rfl ?_
                                            refine JH.read rfl (yl_load1 Go.Proofs.Try.underlying2 rfl rfl (fun w hw => hFr101.box 1 rfl rfl hw) rfl) rfl ?_
                                            refine JH.pure rfl (yl_lss rfl rfl) rfl ?_
                                            refine JH.pure rfl (yl_move rfl) rfl ?_
                                            obtain ⟨cb103, hcb103, hres⟩ := bind_some hres
                                            refine JH.cut (K := fun J => J [(3, .slice a3 x2.length cp4), (4, ptrAt (some ⟨g7, 0, none⟩) 0), (5, ptrAt (some ⟨g9, 0, none⟩) 0), (43, .int .i64 x100), (287, .bool cb103)] []) 9 ?_ ?_
                                            · refine JH.pure rfl (yl_move rfl) rfl ?_
                                              obtain ⟨cb105, hcb105, hres⟩ := bind_some hres
                                              refine JH.cut (K := fun J => J [(3, .slice a3 x2.length cp4), (4, ptrAt (some ⟨g7, 0, none⟩) 0), (5, ptrAt (some ⟨g9, 0, none⟩) 0), (43, .int .i64 x100), (297, .bool cb105)] []) 9 ?_ ?_
                                              · refine JH.pure rfl (yl_move rfl) rfl ?_
                                                obtain ⟨cb107, hcb107, hres⟩ := bind_some hres
                                                refine JH.cut (K := fun J => J [(3, .slice a3 x2.length cp4), (4, ptrAt (some ⟨g7, 0, none⟩) 0), (5, ptrAt (some ⟨g9, 0, none⟩) 0), (43, .int .i64 x100), (307, .bool cb107)] []) 9 ?_ ?_
                                                · refine JH.nil ?_
                                                  refine JE.weak (env' := [(3, .slice a3 x2.length cp4), (4, ptrAt (some ⟨g7, 0, none⟩) 0), (5, ptrAt (some ⟨g9, 0, none⟩) 0), (43, .int .i64 x100), (307, .bool cb107)]) (es' := [rowT 35 eSPoint a3 x2.length cp4 x2, boxO 35 g7 [.int .i64 x6.1.X, .int .i64 x6.1.Y], boxO 35 g9 [.int .i64 x6.2.1.X, .int .i64 x6.2.1.Y]]) [0, 1, 2] ?_ ⟨rfl, rfl, rfl, rfl, rfl, trivial⟩ (by decide) rfl
                                                  refine JE.code ?_
                                                  rcases cond_some hres with ⟨hb, hres⟩ | ⟨hb, hres⟩
                                                  · refine JX.condT rfl hb ?_
                                                    refine JX.seq ?_
                                                    refine JX.region ?_
                                                    refine JL.val (yl_assign rfl) rfl ?_
                                                    refine JL.nil ?_
                                                    refine JE.weak (env' := [(2, .bool false)]) (es' := []) [] ?_ ⟨rfl, trivial⟩ (by decide) rfl
                                                    refine JE.code ?_
                                                    refine JX.ret ?_
                                                    refine JE.qbr ?_
                                                    refine JE.qbr ?_
                                                    have hres := elimS_inr hresO2 (hox2 _ (Option.some.inj hres).symm)
                                                    obtain rfl := Option.some.inj hres
                                                    refine JE.ret (rs := [.tmp 2]) (vs := [.bool false]) rfl ⟨rfl, trivial⟩ ?_
                                                    exact fun w' hb hs => ⟨_, _, ⟨rfl, rfl⟩, rfl, hb, hs.sel [] _ (by decide) rfl⟩
                                                  · refine JX.condF rfl hb ?_
                                                    refine JX.skip ?_
                                                    refine JE.code ?_
                                                    refine JX.region ?_
                                                    refine JL.val (yl_move rfl) rfl ?_
                                                    refine JL.val (yl_add rfl rfl) rfl ?_
                                                    refine JL.val (yl_assign rfl) rfl ?_
                                                    refine JL.nil ?_
                                                    refine JE.cont hres ?_
                                                    exact fun a w h => h.weak ⟨rfl, rfl, rfl, rfl, trivial⟩ [0, 1, 2] (by decide) rfl
                                                · intro K
                                                  rcases cond_some hcb107 with ⟨hb, hres⟩ | ⟨hb, hres⟩
                                                  · refine JH.set (d := 298) (v := .bool true) (congrArg (fun b => some (Value.bool b)) hb) ?_
                                                    refine JH.gskip rfl rfl rfl rfl rfl rfl ?_
                                                    refine JH.gskip rfl rfl rfl rfl rfl rfl ?_
                                                    refine JH.gskip rfl rfl rfl rfl rfl rfl ?_
                                                    refine JH.gskip rfl rfl rfl rfl rfl rfl ?_
                                                    refine JH.gskip rfl rfl rfl rfl rfl rfl ?_
                                                    refine JH.gskip rfl rfl rfl rfl rfl rfl ?_
                                                    refine JH.gskip rfl rfl rfl rfl rfl rfl ?_
                                                    refine JH.gskip rfl rfl rfl rfl rfl rfl ?_
                                                    refine JH.pure rfl (yl_pick_true rfl rfl) rfl ?_
                                                    have he := Option.some.inj hres
                                                    exact JH.weak [] K ⟨rfl, rfl, rfl, rfl, (by rw [← he]; rfl), trivial⟩ (by decide) rfl
                                                  · refine JH.set (d := 298) (v := .bool false) (congrArg (fun b => some (Value.bool b)) hb) ?_
                                                    refine JH.gpure rfl rfl rfl (yl_move rfl) rfl ?_
                                                    refine JH.gpure rfl rfl rfl (yl_move rfl) rfl ?_
                                                    obtain ⟨x108, hx108, hres⟩ := bind_some hres
                                                    refine JH.gpure rfl rfl rfl (yl_idxQ Go.Proofs.Try.underlying61 i35 i35s rfl rfl hx108 rfl (rd_row hFr101.cl 0 rfl) rfl) rfl ?_
                                                    refine JH.gpure rfl rfl rfl (yl_fieldAt Go.Proofs.Try.underlying35 rfl i2 i2n rfl (RdT.someQ (rd_row hFr101.cl 0 rfl) hx108 rfl rfl)) rfl ?_
                                                    refine JH.gread rfl rfl rfl (yl_loadT1 Go.Proofs.Try.underlying2 rfl rfl hx108 (fun w hw => hFr101.row 0 rfl rfl hw) rfl) rfl ?_
                                                    refine JH.gpure rfl rfl rfl (yl_fieldAt (a := some _) Go.Proofs.Try.underlying35 rfl i2 i2n rfl rfl) rfl ?_
                                                    refine JH.gread rfl rfl rfl (yl_load1 Go.Proofs.Try.underlying2 rfl rfl (fun w hw => hFr101.box 2 rfl rfl hw) rfl) rfl ?_
                                                    refine JH.gpure rfl rfl rfl (yl_gtr rfl rfl) rfl ?_
                                                    refine JH.pure rfl (yl_pick_false rfl rfl) rfl ?_
                                                    have he := Option.some.inj hres
                                                    exact JH.weak [] K ⟨rfl, rfl, rfl, rfl, (by rw [← he]; rfl), trivial⟩ (by decide) rfl
                                              · intro K
                                                rcases cond_some hcb105 with ⟨hb, hres⟩ | ⟨hb, hres⟩
                                                · refine JH.set (d := 288) (v := .bool true) (congrArg (fun b => some (Value.bool b)) hb) ?_
                                                  refine JH.gskip rfl rfl rfl rfl rfl rfl ?_
                                                  refine JH.gskip rfl rfl rfl rfl rfl rfl ?_
                                                  refine JH.gskip rfl rfl rfl rfl rfl rfl ?_
                                                  refine JH.gskip rfl rfl rfl rfl rfl rfl ?_
                                                  refine JH.gskip rfl rfl rfl rfl rfl rfl ?_
                                                  refine JH.gskip rfl rfl rfl rfl rfl rfl ?_
                                                  refine JH.gskip rfl rfl rfl rfl rfl rfl ?_
                                                  refine JH.gskip rfl rfl rfl rfl rfl rfl ?_
                                                  refine JH.pure rfl (yl_pick_true rfl rfl) rfl ?_
                                                  have he := Option.some.inj hres
                                                  exact JH.weak [] K ⟨rfl, rfl, rfl, rfl, (by rw [← he]; rfl), trivial⟩ (by decide) rfl
                                                · refine JH.set (d := 288) (v := .bool false) (congrArg (fun b => some (Value.bool b)) hb) ?_
                                                  refine JH.gpure rfl rfl rfl (yl_move rfl) rfl ?_
                                                  refine JH.gpure rfl rfl rfl (yl_move rfl) rfl ?_
                                                  obtain ⟨x106, hx106, hres⟩ := bind_some hres
                                                  refine JH.gpure rfl rfl rfl (yl_idxQ Go.Proofs.Try.underlying61 i35 i35s rfl rfl hx106 rfl (rd_row hFr101.cl 0 rfl) rfl) rfl ?_
                                                  refine JH.gpure rfl rfl rfl (yl_fieldAt Go.Proofs.Try.underlying35 rfl i2 i2n rfl (RdT.someQ (rd_row hFr101.cl 0 rfl) hx106 rfl rfl)) rfl ?_
                                                  refine JH.gread rfl rfl rfl (yl_loadT1 Go.Proofs.Try.underlying2 rfl rfl hx106 (fun w hw => hFr101.row 0 rfl rfl hw) rfl) rfl ?_
                                                  refine JH.gpure rfl rfl rfl (yl_fieldAt (a := some _) Go.Proofs.Try.underlying35 rfl i2 i2n rfl rfl) rfl ?_
                                                  refine JH.gread rfl rfl rfl (yl_load1 Go.Proofs.Try.underlying2 rfl rfl (fun w hw => hFr101.box 2 rfl rfl hw) rfl) rfl ?_
                                                  refine JH.gpure rfl rfl rfl (yl_gtr rfl rfl) rfl ?_
                                                  refine JH.pure rfl (yl_pick_false rfl rfl) rfl ?_
                                                  have he := Option.some.inj hres
                                                  exact JH.weak [] K ⟨rfl, rfl, rfl, rfl, (by rw [← he]; rfl), trivial⟩ (by decide) rfl
                                            · intro K
                                              rcases cond_some hcb103 with ⟨hb, hres⟩ | ⟨hb, hres⟩
                                              · refine JH.set (d := 278) (v := .bool true) (congrArg (fun b => some (Value.bool b)) hb) ?_
                                                refine JH.gskip rfl rfl rfl rfl rfl rfl ?_
                                                refine JH.gskip rfl rfl rfl rfl rfl rfl ?_
                                                refine JH.gskip rfl rfl rfl rfl rfl rfl ?_
                                                refine JH.gskip rfl rfl rfl rfl rfl rfl ?_
                                                refine JH.gskip rfl rfl rfl rfl rfl rfl ?_
                                                refine JH.gskip rfl rfl rfl rfl rfl rfl ?_
                                                refine JH.gskip rfl rfl rfl rfl rfl rfl ?_
                                                refine JH.gskip rfl rfl rfl rfl rfl rfl ?_
                                                refine JH.pure rfl (yl_pick_true rfl rfl) rfl ?_
                                                have he := Option.some.inj hres
                                                exact JH.weak [] K ⟨rfl, rfl, rfl, rfl, (by rw [← he]; rfl), trivial⟩ (by decide) rfl
                                              · refine JH.set (d := 278) (v := .bool false) (congrArg (fun b => some (Value.bool b)) hb) ?_
                                                refine JH.gpure rfl rfl rfl (yl_move rfl) rfl ?_
                                                refine JH.gpure rfl rfl rfl (yl_move rfl) rfl ?_
                                                obtain ⟨x104, hx104, hres⟩ := bind_some hres
                                                refine JH.gpure rfl rfl rfl (yl_idxQ Go.Proofs.Try.underlying61 i35 i35s rfl rfl hx104 rfl (rd_row hFr101.cl 0 rfl) rfl) rfl ?_
                                                refine JH.gpure rfl rfl rfl (yl_fieldAt Go.Proofs.Try.underlying35 rfl i2 i2n rfl (RdT.someQ (rd_row hFr101.cl 0 rfl) hx104 rfl rfl)) rfl ?_
                                                refine JH.gread rfl rfl rfl (yl_loadT1 Go.Proofs.Try.underlying2 rfl rfl hx104 (fun w hw => hFr101.row 0 rfl rfl hw) rfl) rfl ?_
                                                refine JH.gpure rfl rfl rfl (yl_fieldAt (a := some _) Go.Proofs.Try.underlying35 rfl i2 i2n rfl rfl) rfl ?_
                                                refine JH.gread rfl rfl rfl (yl_load1 Go.Proofs.Try.underlying2 rfl rfl (fun w hw => hFr101.box 1 rfl rfl hw) rfl) rfl ?_
                                                refine JH.gpure rfl rfl rfl (yl_lss rfl rfl) rfl ?_
                                                refine JH.pure rfl (yl_pick_false rfl rfl) rfl ?_
                                                have he := Option.some.inj hres
                                                exact JH.weak [] K ⟨rfl, rfl, rfl, rfl, (by rw [← he]; rfl), trivial⟩ (by decide) rfl
                                          · refine JX.condF rfl hb ?_
                                            refine JX.exit ?_
                                            refine JE.qb rfl ?_
                                            obtain ⟨b2, hb2⟩ : ∃ b : Unit, b = () := ⟨_, rfl⟩
                                            have hy2 : Sum.inl b2 = y2 := by rw [hb2]; exact hox2 _ (Option.some.inj hres).symm
                                            have hres := elimS_inl hresO2 hy2
                                            refine JE.weak (env' := []) (es' := []) [] ?_ trivial (by decide) (by subst hb2; rfl)
                                            refine JE.code ?_
                                            refine JX.seq ?_
                                            refine JX.region ?_
                                            refine JL.val (yl_assign rfl) rfl ?_
                                            refine JL.nil ?_
                                            refine JE.code ?_
                                            refine JX.ret ?_
                                            obtain rfl := Option.some.inj hres
                                            refine JE.ret (rs := [.tmp 2]) (vs := [.bool true]) rfl ⟨rfl, trivial⟩ ?_
                                            exact fun w' hb hs => ⟨_, _, ⟨rfl, rfl⟩, rfl, hb, hs.sel [] _ (by decide) rfl⟩
                                    · intro K
                                      rcases cond_some hcb98 with ⟨hb, hres⟩ | ⟨hb, hres⟩
                                      · refine JL.set (d := 256) (v := .bool true) (congrArg (fun b => some (Value.bool b)) hb) ?_
                                        refine JL.gval rfl rfl (yl_loadn Go.Proofs.Try.underlying28 rfl i28 rfl (fun w hC => rd_box hC 5 rfl) rfl (i28s).symm i28p) rfl ?_
                                        refine JL.gval rfl rfl (yl_loadn Go.Proofs.Try.underlying35 rfl i35 rfl (fun w hC => rd_box hC 7 rfl) rfl (i35s).symm i35p) rfl ?_
                                        obtain ⟨x99, hx99, hres⟩ := bind_some hres
                                        refine JL.geff rfl rfl (ef_call (vs := [.agg #[.int .i64 x40.1.W, .int .i64 x40.1.H, .slice a41 x40.1.Breaks.length cp42], .agg #[.int .i64 x48.1.X, .int .i64 x48.1.Y]]) (T := T80 x99) Go.Proofs.Try.func80 rfl (by kernel_rfl) rfl (fun w hC => c80 (q0 := x40.1) (q1 := x48.1) (rd_row hC 6 rfl) rfl (ln_row hC 6 rfl) hx99)) rfl ?_
                                        rintro _ _ ⟨_, ⟨rfl, rfl⟩, rfl⟩
                                        refine JL.gval rfl rfl (yl_not rfl) rfl ?_
                                        refine JL.val (yl_pick_true rfl rfl) rfl ?_
                                        have he := Option.some.inj hres
                                        exact JL.weak [0, 1, 2] K ⟨rfl, rfl, rfl, rfl, (by rw [← he]; rfl), trivial⟩ (by decide) rfl
                                      · refine JL.set (d := 256) (v := .bool false) (congrArg (fun b => some (Value.bool b)) hb) ?_
                                        refine JL.gskip rfl rfl rfl rfl ?_
                                        refine JL.gskip rfl rfl rfl rfl ?_
                                        refine JL.gskip rfl rfl rfl rfl ?_
                                        refine JL.gskip rfl rfl rfl rfl ?_
                                        refine JL.val (yl_pick_false rfl rfl) rfl ?_
                                        have he := Option.some.inj hres
                                        exact JL.weak [0, 1, 2] K ⟨rfl, rfl, rfl, rfl, (by rw [← he]; rfl), trivial⟩ (by decide) rfl
                              · intro K
                                rcases cond_some hcb75 with ⟨hb, hres⟩ | ⟨hb, hres⟩
                                · refine JL.set (d := 200) (v := .bool true) (congrArg (fun b => some (Value.bool b)) hb) ?_
                                  refine JL.gskip rfl rfl rfl rfl ?_
                                  refine JL.gskip rfl rfl rfl rfl ?_
                                  refine JL.gskip rfl rfl rfl rfl ?_
                                  refine JL.gskip rfl rfl rfl rfl ?_
                                  refine JL.val (yl_pick_true rfl rfl) rfl ?_
                                  have he := Option.some.inj hres
                                  exact JL.weak [0, 1, 2, 4, 5, 6, 7, 8] K ⟨rfl, rfl, rfl, rfl, rfl, rfl, rfl, rfl, rfl, rfl, (by rw [← he]; rfl), trivial⟩ (by decide) rfl
                                · refine JL.set (d := 200) (v := .bool false) (congrArg (fun b => some (Value.bool b)) hb) ?_
                                  refine JL.gval rfl rfl (yl_move rfl) rfl ?_
                                  refine JL.gval rfl rfl (yl_move rfl) rfl ?_
                                  obtain ⟨x76, hx76, hres⟩ := bind_some hres
                                  refine JL.geff rfl rfl (ef_call (T := T77 x76) Go.Proofs.Try.func77 rfl (by kernel_rfl) rfl (fun w hC => c77 (rd_row hC 9 rfl) rfl (ln_row hC 9 rfl) (rd_row hC 3 rfl) rfl (ln_row hC 3 rfl) hx76)) rfl ?_
                                  rintro _ _ ⟨_, ⟨rfl, rfl⟩, rfl⟩
                                  refine JL.gval rfl rfl (yl_not rfl) rfl ?_
                                  refine JL.val (yl_pick_false rfl rfl) rfl ?_
                                  have he := Option.some.inj hres
                                  exact JL.weak [0, 1, 2, 4, 5, 6, 7, 8] K ⟨rfl, rfl, rfl, rfl, rfl, rfl, rfl, rfl, rfl, rfl, (by rw [← he]; rfl), trivial⟩ (by decide) rfl
                            · refine JX.condF rfl hb ?_
                              refine JX.skip ?_
                              refine JE.code ?_
                              refine JX.seq ?_
                              refine JX.seq ?_
                              refine JX.region ?_
                              refine JL.val (yl_move rfl) rfl ?_
                              refine JL.val (yl_eql rfl rfl) rfl ?_
                              refine JL.nil ?_
                              refine JE.weak (env' := [(3, .slice a3 x2.length cp4), (4, ptrAt (some ⟨g7, 0, none⟩) 0), (5, ptrAt (some ⟨g9, 0, none⟩) 0), (6, .int .i64 x6.2.2), (16, .slice a29 x28.length cp30), (17, .slice a33 x32.1.length cp34), (21, ptrAt (some ⟨g44, 0, none⟩) 0), (24, ptrAt (some ⟨g49, 0, none⟩) 0), (25, .int .i64 x48.2), (207, .bool (x32.2 == 0))]) (es' := [rowT 35 eSPoint a3 x2.length cp4 x2, boxO 35 g7 [.int .i64 x6.1.X, .int .i64 x6.1.Y], boxO 35 g9 [.int .i64 x6.2.1.X, .int .i64 x6.2.1.Y], rowT 35 eSPoint a29 x28.length cp30 x28, rowT 35 eSPoint a33 x32.1.length cp34 x32.1, boxO 28 g44 [.int .i64 x40.1.W, .int .i64 x40.1.H, .slice a41 x40.1.Breaks.length cp42], rowT 2 eI64 a41 x40.1.Breaks.length cp42 x40.1.Breaks, boxO 35 g49 [.int .i64 x48.1.X, .int .i64 x48.1.Y]]) [0, 1, 2, 4, 5, 6, 7, 8] ?_ ⟨rfl, rfl, rfl, rfl, rfl, rfl, rfl, rfl, rfl, rfl, trivial⟩ (by decide) rfl
                              refine JE.code ?_
                              rcases cond_some hres with ⟨hb, hres⟩ | ⟨hb, hres⟩
                              · refine JX.condT rfl hb ?_
                                refine JX.seq ?_
                                refine JX.region ?_
                                refine JL.val (yl_move rfl) rfl ?_
                                obtain ⟨x109, hx109, hres⟩ := bind_some hres
                                refine JL.eff (ef_call (T := T62 x109) Go.Proofs.Try.func62 rfl (by kernel_rfl) rfl (fun w hC => c62 (rd_row hC 3 rfl) rfl (ln_row hC 3 rfl) hx109)) rfl ?_
                                rintro _ _ ⟨_, ⟨rfl, rfl⟩, rfl⟩
                                refine JL.val (yl_move rfl) rfl ?_
                                refine JL.val (yl_extract rfl rfl) rfl ?_
                                refine JL.val (yl_extract rfl rfl) rfl ?_
                                refine JL.val (yl_extract rfl rfl) rfl ?_
                                refine JL.eff (ef_alloc i35 i35z rfl) rfl ?_
                                rintro _ _ ⟨g110, rfl, rfl⟩
                                refine JL.eff (ef_alloc i35 i35z rfl) rfl ?_
                                rintro _ _ ⟨g112, rfl, rfl⟩
                                refine JL.eff (ef_store_box (i := 8) (v := .agg #[.int .i64 x109.1.X, .int .i64 x109.1.Y]) i35 rfl rfl rfl (i35s).symm (Nat.le_of_ble_eq_true rfl) (by simp [Value.cells, Value.oneCell'])) rfl ?_
                                rintro _ _ rfl
                                refine JL.eff (ef_store_box (i := 9) (v := .agg #[.int .i64 x109.2.1.X, .int .i64 x109.2.1.Y]) i35 rfl rfl rfl (i35s).symm (Nat.le_of_ble_eq_true rfl) (by simp [Value.cells, Value.oneCell'])) rfl ?_
                                rintro _ _ rfl
                                refine JL.val (yl_assign rfl) rfl ?_
                                refine JL.nil ?_
                                refine JE.weak (env' := [(3, .slice a3 x2.length cp4), (4, ptrAt (some ⟨g7, 0, none⟩) 0), (5, ptrAt (some ⟨g9, 0, none⟩) 0), (6, .int .i64 x6.2.2), (17, .slice a33 x32.1.length cp34), (21, ptrAt (some ⟨g44, 0, none⟩) 0), (24, ptrAt (some ⟨g49, 0, none⟩) 0), (25, .int .i64 x48.2), (37, ptrAt (some ⟨g110, 0, none⟩) 0), (38, ptrAt (some ⟨g112, 0, none⟩) 0), (39, .int .i64 x109.2.2)]) (es' := [rowT 35 eSPoint a3 x2.length cp4 x2, boxO 35 g7 [.int .i64 x6.1.X, .int .i64 x6.1.Y], boxO 35 g9 [.int .i64 x6.2.1.X, .int .i64 x6.2.1.Y], rowT 35 eSPoint a33 x32.1.length cp34 x32.1, boxO 28 g44 [.int .i64 x40.1.W, .int .i64 x40.1.H, .slice a41 x40.1.Breaks.length cp42], rowT 2 eI64 a41 x40.1.Breaks.length cp42 x40.1.Breaks, boxO 35 g49 [.int .i64 x48.1.X, .int .i64 x48.1.Y], boxO 35 g110 [.int .i64 x109.1.X, .int .i64 x109.1.Y], boxO 35 g112 [.int .i64 x109.2.1.X, .int .i64 x109.2.1.Y]]) [0, 1, 2, 4, 5, 6, 7, 8, 9] ?_ ⟨rfl, rfl, rfl, rfl, rfl, rfl, rfl, rfl, rfl, rfl, rfl, trivial⟩ (by decide) rfl
                                refine JE.code ?_
                                refine JX.seq ?_
                                refine JX.region ?_
                                refine JL.val (yl_move rfl) rfl ?_
                                obtain ⟨x114, hx114, hres⟩ := bind_some hres
                                refine JL.eff (ef_call (T := T62 x114) Go.Proofs.Try.func62 rfl (by kernel_rfl) rfl (fun w hC => c62 (rd_row hC 3 rfl) rfl (ln_row hC 3 rfl) hx114)) rfl ?_
                                rintro _ _ ⟨_, ⟨rfl, rfl⟩, rfl⟩
                                refine JL.val (yl_move rfl) rfl ?_
                                refine JL.val (yl_extract rfl rfl) rfl ?_
                                refine JL.val (yl_extract rfl rfl) rfl ?_
                                refine JL.val (yl_extract rfl rfl) rfl ?_
                                refine JL.eff (ef_alloc i35 i35z rfl) rfl ?_
                                rintro _ _ ⟨g115, rfl, rfl⟩
                                refine JL.eff (ef_alloc i35 i35z rfl) rfl ?_
                                rintro _ _ ⟨g117, rfl, rfl⟩
                                refine JL.eff (ef_store_box (i := 9) (v := .agg #[.int .i64 x114.1.X, .int .i64 x114.1.Y]) i35 rfl rfl rfl (i35s).symm (Nat.le_of_ble_eq_true rfl) (by simp [Value.cells, Value.oneCell'])) rfl ?_
                                rintro _ _ rfl
                                refine JL.eff (ef_store_box (i := 10) (v := .agg #[.int .i64 x114.2.1.X, .int .i64 x114.2.1.Y]) i35 rfl rfl rfl (i35s).symm (Nat.le_of_ble_eq_true rfl) (by simp [Value.cells, Value.oneCell'])) rfl ?_
                                rintro _ _ rfl
                                refine JL.val (yl_assign rfl) rfl ?_
                                refine JL.nil ?_
                                refine JE.weak (env' := [(3, .slice a3 x2.length cp4), (4, ptrAt (some ⟨g7, 0, none⟩) 0), (5, ptrAt (some ⟨g9, 0, none⟩) 0), (6, .int .i64 x6.2.2), (21, ptrAt (some ⟨g44, 0, none⟩) 0), (24, ptrAt (some ⟨g49, 0, none⟩) 0), (25, .int .i64 x48.2), (37, ptrAt (some ⟨g110, 0, none⟩) 0), (38, ptrAt (some ⟨g112, 0, none⟩) 0), (39, .int .i64 x109.2.2), (40, ptrAt (some ⟨g115, 0, none⟩) 0), (41, ptrAt (some ⟨g117, 0, none⟩) 0), (42, .int .i64 x114.2.2)]) (es' := [rowT 35 eSPoint a3 x2.length cp4 x2, boxO 35 g7 [.int .i64 x6.1.X, .int .i64 x6.1.Y], boxO 35 g9 [.int .i64 x6.2.1.X, .int .i64 x6.2.1.Y], boxO 28 g44 [.int .i64 x40.1.W, .int .i64 x40.1.H, .slice a41 x40.1.Breaks.length cp42], rowT 2 eI64 a41 x40.1.Breaks.length cp42 x40.1.Breaks, boxO 35 g49 [.int .i64 x48.1.X, .int .i64 x48.1.Y], boxO 35 g110 [.int .i64 x109.1.X, .int .i64 x109.1.Y], boxO 35 g112 [.int .i64 x109.2.1.X, .int .i64 x109.2.1.Y], boxO 35 g115 [.int .i64 x114.1.X, .int .i64 x114.1.Y], boxO 35 g117 [.int .i64 x114.2.1.X, .int .i64 x114.2.1.Y]]) [0, 1, 2, 4, 5, 6, 7, 8, 9, 10] ?_ ⟨rfl, rfl, rfl, rfl, rfl, rfl, rfl, rfl, rfl, rfl, rfl, rfl, rfl, trivial⟩ (by decide) rfl
                                refine JE.code ?_
                                refine JX.seq ?_
                                refine JX.region ?_
                                refine JL.val (yl_move rfl) rfl ?_
                                refine JL.val (yl_neq rfl rfl) rfl ?_
                                refine JL.val (yl_move rfl) rfl ?_
                                refine JL.cut (K := fun J => J [(3, .slice a3 x2.length cp4), (4, ptrAt (some ⟨g7, 0, none⟩) 0), (5, ptrAt (some ⟨g9, 0, none⟩) 0), (6, .int .i64 x6.2.2), (21, ptrAt (some ⟨g44, 0, none⟩) 0), (24, ptrAt (some ⟨g49, 0, none⟩) 0), (25, .int .i64 x48.2), (37, ptrAt (some ⟨g110, 0, none⟩) 0), (38, ptrAt (some ⟨g112, 0, none⟩) 0), (40, ptrAt (some ⟨g115, 0, none⟩) 0), (41, ptrAt (some ⟨g117, 0, none⟩) 0), (225, .bool ((x109.2.2 != 0) || (x114.2.2 != 0)))] [rowT 35 eSPoint a3 x2.length cp4 x2, boxO 35 g7 [.int .i64 x6.1.X, .int .i64 x6.1.Y], boxO 35 g9 [.int .i64 x6.2.1.X, .int .i64 x6.2.1.Y], boxO 28 g44 [.int .i64 x40.1.W, .int .i64 x40.1.H, .slice a41 x40.1.Breaks.length cp42], rowT 2 eI64 a41 x40.1.Breaks.length cp42 x40.1.Breaks, boxO 35 g49 [.int .i64 x48.1.X, .int .i64 x48.1.Y], boxO 35 g110 [.int .i64 x109.1.X, .int .i64 x109.1.Y], boxO 35 g112 [.int .i64 x109.2.1.X, .int .i64 x109.2.1.Y], boxO 35 g115 [.int .i64 x114.1.X, .int .i64 x114.1.Y], boxO 35 g117 [.int .i64 x114.2.1.X, .int .i64 x114.2.1.Y]]) 3 ?_ ?_
                                · refine JL.val (yl_move rfl) rfl ?_
                                  refine JL.cut (K := fun J => J [(3, .slice a3 x2.length cp4), (4, ptrAt (some ⟨g7, 0, none⟩) 0), (5, ptrAt (some ⟨g9, 0, none⟩) 0), (6, .int .i64 x6.2.2), (21, ptrAt (some ⟨g44, 0, none⟩) 0), (24, ptrAt (some ⟨g49, 0, none⟩) 0), (25, .int .i64 x48.2), (37, ptrAt (some ⟨g110, 0, none⟩) 0), (38, ptrAt (some ⟨g112, 0, none⟩) 0), (40, ptrAt (some ⟨g115, 0, none⟩) 0), (41, ptrAt (some ⟨g117, 0, none⟩) 0), (232, .bool (((x109.2.2 != 0) || (x114.2.2 != 0)) || (decide (x114.1.X < x109.1.X))))] [rowT 35 eSPoint a3 x2.length cp4 x2, boxO 35 g7 [.int .i64 x6.1.X, .int .i64 x6.1.Y], boxO 35 g9 [.int .i64 x6.2.1.X, .int .i64 x6.2.1.Y], boxO 28 g44 [.int .i64 x40.1.W, .int .i64 x40.1.H, .slice a41 x40.1.Breaks.length cp42], rowT 2 eI64 a41 x40.1.Breaks.length cp42 x40.1.Breaks, boxO 35 g49 [.int .i64 x48.1.X, .int .i64 x48.1.Y], boxO 35 g110 [.int .i64 x109.1.X, .int .i64 x109.1.Y], boxO 35 g112 [.int .i64 x109.2.1.X, .int .i64 x109.2.1.Y], boxO 35 g115 [.int .i64 x114.1.X, .int .i64 x114.1.Y], boxO 35 g117 [.int .i64 x114.2.1.X, .int .i64 x114.2.1.Y]]) 6 ?_ ?_
                                  · refine JL.val (yl_move rfl) rfl ?_
                                    refine JL.cut (K := fun J => J [(3, .slice a3 x2.length cp4), (4, ptrAt (some ⟨g7, 0, none⟩) 0), (5, ptrAt (some ⟨g9, 0, none⟩) 0), (6, .int .i64 x6.2.2), (21, ptrAt (some ⟨g44, 0, none⟩) 0), (24, ptrAt (some ⟨g49, 0, none⟩) 0), (25, .int .i64 x48.2), (38, ptrAt (some ⟨g112, 0, none⟩) 0), (41, ptrAt (some ⟨g117, 0, none⟩) 0), (239, .bool ((((x109.2.2 != 0) || (x114.2.2 != 0)) || (decide (x114.1.X < x109.1.X))) || (decide (x114.1.Y < x109.1.Y))))] [rowT 35 eSPoint a3 x2.length cp4 x2, boxO 35 g7 [.int .i64 x6.1.X, .int .i64 x6.1.Y], boxO 35 g9 [.int .i64 x6.2.1.X, .int .i64 x6.2.1.Y], boxO 28 g44 [.int .i64 x40.1.W, .int .i64 x40.1.H, .slice a41 x40.1.Breaks.length cp42], rowT 2 eI64 a41 x40.1.Breaks.length cp42 x40.1.Breaks, boxO 35 g49 [.int .i64 x48.1.X, .int .i64 x48.1.Y], boxO 35 g112 [.int .i64 x109.2.1.X, .int .i64 x109.2.1.Y], boxO 35 g117 [.int .i64 x114.2.1.X, .int .i64 x114.2.1.Y]]) 6 ?_ ?_
                                    · refine JL.val (yl_move rfl) rfl ?_
                                      refine JL.cut (K := fun J => J [(3, .slice a3 x2.length cp4), (4, ptrAt (some ⟨g7, 0, none⟩) 0), (5, ptrAt (some ⟨g9, 0, none⟩) 0), (6, .int .i64 x6.2.2), (21, ptrAt (some ⟨g44, 0, none⟩) 0), (24, ptrAt (some ⟨g49, 0, none⟩) 0), (25, .int .i64 x48.2), (38, ptrAt (some ⟨g112, 0, none⟩) 0), (41, ptrAt (some ⟨g117, 0, none⟩) 0), (246, .bool (((((x109.2.2 != 0) || (x114.2.2 != 0)) || (decide (x114.1.X < x109.1.X))) || (decide (x114.1.Y < x109.1.Y))) || (decide (x109.2.1.X < x114.2.1.X))))] [rowT 35 eSPoint a3 x2.length cp4 x2, boxO 35 g7 [.int .i64 x6.1.X, .int .i64 x6.1.Y], boxO 35 g9 [.int .i64 x6.2.1.X, .int .i64 x6.2.1.Y], boxO 28 g44 [.int .i64 x40.1.W, .int .i64 x40.1.H, .slice a41 x40.1.Breaks.length cp42], rowT 2 eI64 a41 x40.1.Breaks.length cp42 x40.1.Breaks, boxO 35 g49 [.int .i64 x48.1.X, .int .i64 x48.1.Y], boxO 35 g112 [.int .i64 x109.2.1.X, .int .i64 x109.2.1.Y], boxO 35 g117 [.int .i64 x114.2.1.X, .int .i64 x114.2.1.Y]]) 6 ?_ ?_
                                      · refine JL.val (yl_move rfl) rfl ?_
                                        refine JL.cut (K := fun J => J [(3, .slice a3 x2.length cp4), (4, ptrAt (some ⟨g7, 0, none⟩) 0), (5, ptrAt (some ⟨g9, 0, none⟩) 0), (6, .int .i64 x6.2.2), (21, ptrAt (some ⟨g44, 0, none⟩) 0), (24, ptrAt (some ⟨g49, 0, none⟩) 0), (25, .int .i64 x48.2), (253, .bool ((((((x109.2.2 != 0) || (x114.2.2 != 0)) || (decide (x114.1.X < x109.1.X))) || (decide (x114.1.Y < x109.1.Y))) || (decide (x109.2.1.X < x114.2.1.X))) || (decide (x109.2.1.Y < x114.2.1.Y))))] [rowT 35 eSPoint a3 x2.length cp4 x2, boxO 35 g7 [.int .i64 x6.1.X, .int .i64 x6.1.Y], boxO 35 g9 [.int .i64 x6.2.1.X, .int .i64 x6.2.1.Y], boxO 28 g44 [.int .i64 x40.1.W, .int .i64 x40.1.H, .slice a41 x40.1.Breaks.length cp42], rowT 2 eI64 a41 x40.1.Breaks.length cp42 x40.1.Breaks, boxO 35 g49 [.int .i64 x48.1.X, .int .i64 x48.1.Y]]) 6 ?_ ?_
                                        · refine JL.nil ?_
                                          refine JE.weak (env' := [(3, .slice a3 x2.length cp4), (4, ptrAt (some ⟨g7, 0, none⟩) 0), (5, ptrAt (some ⟨g9, 0, none⟩) 0), (6, .int .i64 x6.2.2), (21, ptrAt (some ⟨g44, 0, none⟩) 0), (24, ptrAt (some ⟨g49, 0, none⟩) 0), (25, .int .i64 x48.2), (253, .bool ((((((x109.2.2 != 0) || (x114.2.2 != 0)) || (decide (x114.1.X < x109.1.X))) || (decide (x114.1.Y < x109.1.Y))) || (decide (x109.2.1.X < x114.2.1.X))) || (decide (x109.2.1.Y < x114.2.1.Y))))]) (es' := [rowT 35 eSPoint a3 x2.length cp4 x2, boxO 35 g7 [.int .i64 x6.1.X, .int .i64 x6.1.Y], boxO 35 g9 [.int .i64 x6.2.1.X, .int .i64 x6.2.1.Y], boxO 28 g44 [.int .i64 x40.1.W, .int .i64 x40.1.H, .slice a41 x40.1.Breaks.length cp42], rowT 2 eI64 a41 x40.1.Breaks.length cp42 x40.1.Breaks, boxO 35 g49 [.int .i64 x48.1.X, .int .i64 x48.1.Y]]) [0, 1, 2, 3, 4, 5] ?_ ⟨rfl, rfl, rfl, rfl, rfl, rfl, rfl, rfl, trivial⟩ (by decide) rfl
                                          refine JE.code ?_
                                          rcases cond_some hres with ⟨hb, hres⟩ | ⟨hb, hres⟩
                                          · refine JX.condT rfl hb ?_
                                            refine JX.seq ?_
                                            refine JX.region ?_
                                            refine JL.val (yl_assign rfl) rfl ?_
                                            refine JL.nil ?_
                                            refine JE.weak (env' := [(2, .bool false)]) (es' := []) [] ?_ ⟨rfl, trivial⟩ (by decide) rfl
                                            refine JE.code ?_
                                            refine JX.ret ?_
                                            obtain rfl := Option.some.inj hres
                                            refine JE.ret (rs := [.tmp 2]) (vs := [.bool false]) rfl ⟨rfl, trivial⟩ ?_
                                            exact fun w' hb hs => ⟨_, _, ⟨rfl, rfl⟩, rfl, hb, hs.sel [] _ (by decide) rfl⟩
                                          · refine JX.condF rfl hb ?_
                                            refine JX.skip ?_
                                            refine JE.code ?_
                                            refine JX.seq ?_
                                            refine JX.seq ?_
                                            refine JX.region ?_
                                            refine JL.val (yl_move rfl) rfl ?_
                                            refine JL.val (yl_eql rfl rfl) rfl ?_
                                            refine JL.val (yl_move rfl) rfl ?_
                                            obtain ⟨cb119, hcb119, hres⟩ := bind_some hres
                                            refine JL.cut (K := fun J => J [(3, .slice a3 x2.length cp4), (4, ptrAt (some ⟨g7, 0, none⟩) 0), (5, ptrAt (some ⟨g9, 0, none⟩) 0), (6, .int .i64 x6.2.2), (261, .bool cb119)] [rowT 35 eSPoint a3 x2.length cp4 x2, boxO 35 g7 [.int .i64 x6.1.X, .int .i64 x6.1.Y], boxO 35 g9 [.int .i64 x6.2.1.X, .int .i64 x6.2.1.Y]]) 5 ?_ ?_
                                            · refine JL.nil ?_
                                              refine JE.weak (env' := [(3, .slice a3 x2.length cp4), (4, ptrAt (some ⟨g7, 0, none⟩) 0), (5, ptrAt (some ⟨g9, 0, none⟩) 0), (6, .int .i64 x6.2.2), (261, .bool cb119)]) (es' := [rowT 35 eSPoint a3 x2.length cp4 x2, boxO 35 g7 [.int .i64 x6.1.X, .int .i64 x6.1.Y], boxO 35 g9 [.int .i64 x6.2.1.X, .int .i64 x6.2.1.Y]]) [0, 1, 2] ?_ ⟨rfl, rfl, rfl, rfl, rfl, trivial⟩ (by decide) rfl
                                              refine JE.code ?_
                                              rcases cond_some hres with ⟨hb, hres⟩ | ⟨hb, hres⟩
                                              · refine JX.condT rfl hb ?_
                                                refine JX.seq ?_
                                                refine JX.region ?_
                                                refine JL.val (yl_assign rfl) rfl ?_
                                                refine JL.nil ?_
                                                refine JE.weak (env' := [(2, .bool false)]) (es' := []) [] ?_ ⟨rfl, trivial⟩ (by decide) rfl
                                                refine JE.code ?_
                                                refine JX.ret ?_
                                                obtain rfl := Option.some.inj hres
                                                refine JE.ret (rs := [.tmp 2]) (vs := [.bool false]) rfl ⟨rfl, trivial⟩ ?_
                                                exact fun w' hb hs => ⟨_, _, ⟨rfl, rfl⟩, rfl, hb, hs.sel [] _ (by decide) rfl⟩
                                              · refine JX.condF rfl hb ?_
                                                refine JX.skip ?_
                                                refine JE.code ?_
                                                refine JX.seq ?_
                                                refine JX.seq ?_
                                                refine JX.region ?_
                                                refine JL.val (yl_move rfl) rfl ?_
                                                refine JL.val (yl_neq rfl rfl) rfl ?_
                                                refine JL.nil ?_
                                                refine JE.code ?_
                                                rcases cond_some hres with ⟨hb, hres⟩ | ⟨hb, hres⟩
                                                · refine JX.condT rfl hb ?_
                                                  refine JX.seq ?_
                                                  refine JX.region ?_
                                                  refine JL.val (yl_assign rfl) rfl ?_
                                                  refine JL.nil ?_
                                                  refine JE.weak (env' := [(2, .bool true)]) (es' := []) [] ?_ ⟨rfl, trivial⟩ (by decide) rfl
                                                  refine JE.code ?_
                                                  refine JX.ret ?_
                                                  obtain rfl := Option.some.inj hres
                                                  refine JE.ret (rs := [.tmp 2]) (vs := [.bool true]) rfl ⟨rfl, trivial⟩ ?_
                                                  exact fun w' hb hs => ⟨_, _, ⟨rfl, rfl⟩, rfl, hb, hs.sel [] _ (by decide) rfl⟩
                                                · refine JX.condF rfl hb ?_
                                                  refine JX.skip ?_
                                                  refine JE.code ?_
                                                  refine JX.seq ?_
                                                  refine JX.seq ?_
                                                  refine JX.region ?_
                                                  refine JL.val (yl_assign rfl) rfl ?_
                                                  refine JL.nil ?_
                                                  refine JE.code ?_
                                                  refine JX.block ?_
                                                  obtain ⟨y3, hy3, hresO3⟩ := bind_some hres
                                                  refine JX.loop (I := fun (s3 : Int) aa ww => St w [] 308 [(3, .slice a3 x2.length cp4), (4, ptrAt (some ⟨g7, 0, none⟩) 0), (5, ptrAt (some ⟨g9, 0, none⟩) 0), (43, .int .i64 s3)] [rowT 35 eSPoint a3 x2.length cp4 x2, boxO 35 g7 [.int .i64 x6.1.X, .int .i64 x6.1.Y], boxO 35 g9 [.int .i64 x6.2.1.X, .int .i64 x6.2.1.Y]] aa ww) (sh14_3 x2 x6) hy3 (fun a w h => h.weak ⟨rfl, rfl, rfl, rfl, trivial⟩ [0, 1, 2] (by decide) rfl) ?_
                                                  rintro x121 o3 hres hox3 aa ww hS
                                                  refine (?_ : JX Go.Proofs.Try.prog w [] 308 _ _ [(3, .slice a3 x2.length cp4), (4, ptrAt (some ⟨g7, 0, none⟩) 0), (5, ptrAt (some ⟨g9, 0, none⟩) 0), (43, .int .i64 x121)] [rowT 35 eSPoint a3 x2.length cp4 x2, boxO 35 g7 [.int .i64 x6.1.X, .int .i64 x6.1.Y], boxO 35 g9 [.int .i64 x6.2.1.X, .int .i64 x6.2.1.Y]] _) aa ww hS
                                                  clear hS
                                                  unfold sh14_3 at hres
                                                  refine JX.seq ?_
                                                  refine JX.seq ?_
                                                  refine JX.region ?_
                                                  refine JL.val (yl_move rfl) rfl ?_
                                                  refine JL.val (yl_move rfl) rfl ?_
                                                  refine JL.val (yl_len_slice Go.Proofs.Try.underlying61 rfl) rfl ?_
                                                  refine JL.val (yl_lss rfl rfl) rfl ?_
                                                  refine JL.nil ?_
                                                  refine JE.weak (env' := [(3, .slice a3 x2.length cp4), (4, ptrAt (some ⟨g7, 0, none⟩) 0), (5, ptrAt (some ⟨g9, 0, none⟩) 0), (43, .int .i64 x121), (267, .bool (decide (x121 < (x2.length : Int))))]) (es' := [rowT 35 eSPoint a3 x2.length cp4 x2, boxO 35 g7 [.int .i64 x6.1.X, .int .i64 x6.1.Y], boxO 35 g9 [.int .i64 x6.2.1.X, .int .i64 x6.2.1.Y]]) [0, 1, 2] ?_ ⟨rfl, rfl, rfl, rfl, rfl, trivial⟩ (by decide) rfl
                                                  refine JE.code ?_
                                                  rcases cond_some hres with ⟨hb, hres⟩ | ⟨hb, hres⟩
                                                  · refine JX.condT rfl hb ?_
                                                    refine JX.skip ?_
                                                    refine JE.code ?_
                                                    refine JX.seq ?_
                                                    refine JX.block ?_
                                                    refine JX.seq ?_
                                                    refine JX.drawH [(0, .pure), (1, .pure), (2, .pure), (3, .pure), (4, .read), (5, .pure), (6, .read), (7, .pure), (8, .pure), (9, .pure), (10, .pure), (11, .pure), (12, .pure), (13, .read), (14, .pure), (15, .read), (16, .pure), (17, .pure), (18, .pure), (19, .pure), (20, .pure), (21, .pure), (22, .pure), (23, .read), (24, .pure), (25, .read), (26, .pure), (27, .pure), (28, .pure), (29, .pure), (30, .pure), (31, .pure), (32, .pure), (33, .read), (34, .pure), (35, .read), (36, .pure), (37, .pure)] [] [] [0, 1, 2] [] [rowT 35 eSPoint a3 x2.length cp4 x2, boxO 35 g7 [.int .i64 x6.1.X, .int .i64 x6.1.Y], boxO 35 g9 [.int .i64 x6.2.1.X, .int .i64 x6.2.1.Y]] mixedP (by kernel_rfl) (by kernel_rfl) (by decide) rfl rfl ?_
                                                    intro wrr122 Nr122 hFr122
                                                    refine JH.pure rfl (yl_move rfl) rfl ?_
                                                    refine JH.pure rfl (yl_move rfl) rfl ?_
                                                    obtain ⟨x123, hx123, hres⟩ := bind_some hres
                                                    refine JH.pure rfl (yl_idxQ Go.Proofs.Try.underlying61 i35 i35s rfl rfl hx123 rfl (rd_row hFr122.cl 0 rfl) rfl) rfl ?_
                                                    refine JH.pure rfl (yl_fieldAt Go.Proofs.Try.underlying35 rfl i2 i2n rfl (RdT.someQ (rd_row hFr122.cl 0 rfl) hx123 rfl rfl)) rfl ?_
                                                    refine JH.read rfl (yl_loadT1 Go.Proofs.Try.underlying2 rfl rfl hx123 (fun w hw => hFr122.row 0 rfl rfl hw) rfl) rfl ?_
                                                    refine JH.pure rfl (yl_fieldAt (a := some _) Go.Proofs.Try.underlying35 rfl i2 i2n rfl rfl) rfl ?_
                                                    refine JH.read rfl (yl_load1 Go.Proofs.Try.underlying2 rfl rfl (fun w hw => hFr122.box 1 rfl rfl hw) rfl) rfl ?_
                                                    refine JH.pure rfl (yl_lss rfl rfl) rfl ?_
                                                    refine JH.pure rfl (yl_move rfl) rfl ?_
                                                    obtain ⟨cb124, hcb124, hres⟩ := bind_some hres
                                                    refine JH.cut (K := fun J => J [(3, .slice a3 x2.length cp4), (4, ptrAt (some ⟨g7, 0, none⟩) 0), (5, ptrAt (some ⟨g9, 0, none⟩) 0), (43, .int .i64 x121), (287, .bool cb124)] []) 9 ?_ ?_
                                                    · refine JH.pure rfl (yl_move rfl) rfl ?_
                                                      obtain ⟨cb126, hcb126, hres⟩ := bind_some hres
                                                      refine JH.cut (K := fun J => J [(3, .slice a3 x2.length cp4), (4, ptrAt (some ⟨g7, 0, none⟩) 0), (5, ptrAt (some ⟨g9, 0, none⟩) 0), (43, .int .i64 x121), (297, .bool cb126)] []) 9 ?_ ?_
                                                      · refine JH.pure rfl (yl_move rfl) rfl ?_
                                                        obtain ⟨cb128, hcb128, hres⟩ := bind_some hres
                                                        refine JH.cut (K := fun J => J [(3, .slice a3 x2.length cp4), (4, ptrAt (some ⟨g7, 0, none⟩) 0), (5, ptrAt (some ⟨g9, 0, none⟩) 0), (43, .int .i64 x121), (307, .bool cb128)] []) 9 ?_ ?_
                                                        · refine JH.nil ?_
                                                          refine JE.weak (env' := [(3, .slice a3 x2.length cp4), (4, ptrAt (some ⟨g7, 0, none⟩) 0), (5, ptrAt (some ⟨g9, 0, none⟩) 0), (43, .int .i64 x121), (307, .bool cb128)]) (es' := [rowT 35 eSPoint a3 x2.length cp4 x2, boxO 35 g7 [.int .i64 x6.1.X, .int .i64 x6.1.Y], boxO 35 g9 [.int .i64 x6.2.1.X, .int .i64 x6.2.1.Y]]) [0, 1, 2] ?_ ⟨rfl, rfl, rfl, rfl, rfl, trivial⟩ (by decide) rfl
                                                          refine JE.code ?_
                                                          rcases cond_some hres with ⟨hb, hres⟩ | ⟨hb, hres⟩
                                                          · refine JX.condT rfl hb ?_
                                                            refine JX.seq ?_
                                                            refine JX.region ?_
                                                            refine JL.val (yl_assign rfl) rfl ?_
                                                            refine JL.nil ?_
                                                            refine JE.weak (env' := [(2, .bool false)]) (es' := []) [] ?_ ⟨rfl, trivial⟩ (by decide) rfl
                                                            refine JE.code ?_
                                                            refine JX.ret ?_
                                                            refine JE.qbr ?_
                                                            refine JE.qbr ?_
                                                            have hres := elimS_inr hresO3 (hox3 _ (Option.some.inj hres).symm)
                                                            obtain rfl := Option.some.inj hres
                                                            refine JE.ret (rs := [.tmp 2]) (vs := [.bool false]) rfl ⟨rfl, trivial⟩ ?_
                                                            exact fun w' hb hs => ⟨_, _, ⟨rfl, rfl⟩, rfl, hb, hs.sel [] _ (by decide) rfl⟩
                                                          · refine JX.condF rfl hb ?_
                                                            refine JX.skip ?_
                                                            refine JE.code ?_
                                                            refine JX.region ?_
                                                            refine JL.val (yl_move rfl) rfl ?_
                                                            refine JL.val (yl_add rfl rfl) rfl ?_
                                                            refine JL.val (yl_assign rfl) rfl ?_
                                                            refine JL.nil ?_
                                                            refine JE.cont hres ?_
                                                            exact fun a w h => h.weak ⟨rfl, rfl, rfl, rfl, trivial⟩ [0, 1, 2] (by decide) rfl
                                                        · intro K
                                                          rcases cond_some hcb128 with ⟨hb, hres⟩ | ⟨hb, hres⟩
                                                          · refine JH.set (d := 298) (v := .bool true) (congrArg (fun b => some (Value.bool b)) hb) ?_
                                                            refine JH.gskip rfl rfl rfl rfl rfl rfl ?_
                                                            refine JH.gskip rfl rfl rfl rfl rfl rfl ?_
                                                            refine JH.gskip rfl rfl rfl rfl rfl rfl ?_
                                                            refine JH.gskip rfl rfl rfl rfl rfl rfl ?_
                                                            refine JH.gskip rfl rfl rfl rfl rfl rfl ?_
                                                            refine JH.gskip rfl rfl rfl rfl rfl rfl ?_
                                                            refine JH.gskip rfl rfl rfl rfl rfl rfl ?_
                                                            refine JH.gskip rfl rfl rfl rfl rfl rfl ?_
                                                            refine JH.pure rfl (yl_pick_true rfl rfl) rfl ?_
                                                            have he := Option.some.inj hres
                                                            exact JH.weak [] K ⟨rfl, rfl, rfl, rfl, (by rw [← he]; rfl), trivial⟩ (by decide) rfl
                                                          · refine JH.set (d := 298) (v := .bool false) (congrArg (fun b => some (Value.bool b)) hb) ?_
                                                            refine JH.gpure rfl rfl rfl (yl_move rfl) rfl ?_
                                                            refine JH.gpure rfl rfl rfl (yl_move rfl) rfl ?_
                                                            obtain ⟨x129, hx129, hres⟩ := bind_some hres
                                                            refine JH.gpure rfl rfl rfl (yl_idxQ Go.Proofs.Try.underlying61 i35 i35s rfl rfl hx129 rfl (rd_row hFr122.cl 0 rfl) rfl) rfl ?_
                                                            refine JH.gpure rfl rfl rfl (yl_fieldAt Go.Proofs.Try.underlying35 rfl i2 i2n rfl (RdT.someQ (rd_row hFr122.cl 0 rfl) hx129 rfl rfl)) rfl ?_
                                                            refine JH.gread rfl rfl rfl (yl_loadT1 Go.Proofs.Try.underlying2 rfl rfl hx129 (fun w hw => hFr122.row 0 rfl rfl hw) rfl) rfl ?_
                                                            refine JH.gpure rfl rfl rfl (yl_fieldAt (a := some _) Go.Proofs.Try.underlying35 rfl i2 i2n rfl rfl) rfl ?_
                                                            refine JH.gread rfl rfl rfl (yl_load1 Go.Proofs.Try.underlying2 rfl rfl (fun w hw => hFr122.box 2 rfl rfl hw) rfl) rfl ?_
                                                            refine JH.gpure rfl rfl rfl (yl_gtr rfl rfl) rfl ?_
                                                            refine JH.pure rfl (yl_pick_false rfl rfl) rfl ?_
                                                            have he := Option.some.inj hres
                                                            exact JH.weak [] K ⟨rfl, rfl, rfl, rfl, (by rw [← he]; rfl), trivial⟩ (by decide) rfl
                                                      · intro K
                                                        rcases cond_some hcb126 with ⟨hb, hres⟩ | ⟨hb, hres⟩
                                                        · refine JH.set (d := 288) (v := .bool true) (congrArg (fun b => some (Value.bool b)) hb) ?_
                                                          refine JH.gskip rfl rfl rfl rfl rfl rfl ?_
                                                          refine JH.gskip rfl rfl rfl rfl rfl rfl ?_
                                                          refine JH.gskip rfl rfl rfl rfl rfl rfl ?_
                                                          refine JH.gskip rfl rfl rfl rfl rfl rfl ?_
                                                          refine JH.gskip rfl rfl rfl rfl rfl rfl ?_
                                                          refine JH.gskip rfl rfl rfl rfl rfl rfl ?_
                                                          refine JH.gskip rfl rfl rfl rfl rfl rfl ?_
                                                          refine JH.gskip rfl rfl rfl rfl rfl rfl ?_
                                                          refine JH.pure rfl (yl_pick_true rfl rfl) rfl ?_
                                                          have he := Option.some.inj hres
                                                          exact JH.weak [] K ⟨rfl, rfl, rfl, rfl, (by rw [← he]; rfl), trivial⟩ (by decide) rfl
                                                        · refine JH.set (d := 288) (v := .bool false) (congrArg (fun b => some (Value.bool b)) hb) ?_
                                                          refine JH.gpure rfl rfl rfl (yl_move rfl) rfl ?_
                                                          refine JH.gpure rfl rfl rfl (yl_move rfl) rfl ?_
                                                          obtain ⟨x127, hx127, hres⟩ := bind_some hres
                                                          refine JH.gpure rfl rfl rfl (yl_idxQ Go.Proofs.Try.underlying61 i35 i35s rfl rfl hx127 rfl (rd_row hFr122.cl 0 rfl) rfl) rfl ?_
                                                          refine JH.gpure rfl rfl rfl (yl_fieldAt Go.Proofs.Try.underlying35 rfl i2 i2n rfl (RdT.someQ (rd_row hFr122.cl 0 rfl) hx127 rfl rfl)) rfl ?_
                                                          refine JH.gread rfl rfl rfl (yl_loadT1 Go.Proofs.Try.underlying2 rfl rfl hx127 (fun w hw => hFr122.row 0 rfl rfl hw) rfl) rfl ?_
                                                          refine JH.gpure rfl rfl rfl (yl_fieldAt (a := some _) Go.Proofs.Try.underlying35 rfl i2 i2n rfl rfl) rfl ?_
                                                          refine JH.gread rfl rfl rfl (yl_load1 Go.Proofs.Try.underlying2 rfl rfl (fun w hw => hFr122.box 2 rfl rfl hw) rfl) rfl ?_
                                                          refine JH.gpure rfl rfl rfl (yl_gtr rfl rfl) rfl ?_
                                                          refine JH.pure rfl (yl_pick_false rfl rfl) rfl ?_
                                                          have he := Option.some.inj hres
                                                          exact JH.weak [] K ⟨rfl, rfl, rfl, rfl, (by rw [← he]; rfl), trivial⟩ (by decide) rfl
                                                    · intro K
                                                      rcases cond_some hcb124 with ⟨hb, hres⟩ | ⟨hb, hres⟩
                                                      · refine JH.set (d := 278) (v := .bool true) (congrArg (fun b => some (Value.bool b)) hb) ?_
                                                        refine JH.gskip rfl rfl rfl rfl rfl rfl ?_
                                                        refine JH.gskip rfl rfl rfl rfl rfl rfl ?_
                                                        refine JH.gskip rfl rfl rfl rfl rfl rfl ?_
                                                        refine JH.gskip rfl rfl rfl rfl rfl rfl ?_
                                                        refine JH.gskip rfl rfl rfl rfl rfl rfl ?_
                                                        refine JH.gskip rfl rfl rfl rfl rfl rfl ?_
                                                        refine JH.gskip rfl rfl rfl rfl rfl rfl ?_
                                                        refine JH.gskip rfl rfl rfl rfl rfl rfl ?_
                                                        refine JH.pure rfl (yl_pick_true rfl rfl) rfl ?_
                                                        have he := Option.some.inj hres
                                                        exact JH.weak [] K ⟨rfl, rfl, rfl, rfl, (by rw [← he]; rfl), trivial⟩ (by decide) rfl
                                                      · refine JH.set (d := 278) (v := .bool false) (congrArg (fun b => some (Value.bool b)) hb) ?_
                                                        refine JH.gpure rfl rfl rfl (yl_move rfl) rfl ?_
                                                        refine JH.gpure rfl rfl rfl (yl_move rfl) rfl ?_
                                                        obtain ⟨x125, hx125, hres⟩ := bind_some hres
                                                        refine JH.gpure rfl rfl rfl (yl_idxQ Go.Proofs.Try.underlying61 i35 i35s rfl rfl hx125 rfl (rd_row hFr122.cl 0 rfl) rfl) rfl ?_
                                                        refine JH.gpure rfl rfl rfl (yl_fieldAt Go.Proofs.Try.underlying35 rfl i2 i2n rfl (RdT.someQ (rd_row hFr122.cl 0 rfl) hx125 rfl rfl)) rfl ?_
                                                        refine JH.gread rfl rfl rfl (yl_loadT1 Go.Proofs.Try.underlying2 rfl rfl hx125 (fun w hw => hFr122.row 0 rfl rfl hw) rfl) rfl ?_
                                                        refine JH.gpure rfl rfl rfl (yl_fieldAt (a := some _) Go.Proofs.Try.underlying35 rfl i2 i2n rfl rfl) rfl ?_
                                                        refine JH.gread rfl rfl rfl (yl_load1 Go.Proofs.Try.underlying2 rfl rfl (fun w hw => hFr122.box 1 rfl rfl hw) rfl) rfl ?_
                                                        refine JH.gpure rfl rfl rfl (yl_lss rfl rfl) rfl ?_
                                                        refine JH.pure rfl (yl_pick_false rfl rfl) rfl ?_
                                                        have he := Option.some.inj hres
                                                        exact JH.weak [] K ⟨rfl, rfl, rfl, rfl, (by rw [← he]; rfl), trivial⟩ (by decide) rfl
                                                  · refine JX.condF rfl hb ?_
                                                    refine JX.exit ?_
                                                    refine JE.qb rfl ?_
                                                    obtain ⟨b3, hb3⟩ : ∃ b : Unit, b = () := ⟨_, rfl⟩
                                                    have hy3 : Sum.inl b3 = y3 := by rw [hb3]; exact hox3 _ (Option.some.inj hres).symm
                                                    have hres := elimS_inl hresO3 hy3
                                                    refine JE.weak (env' := []) (es' := []) [] ?_ trivial (by decide) (by subst hb3; rfl)
                                                    refine JE.code ?_
                                                    refine JX.seq ?_
                                                    refine JX.region ?_
                                                    refine JL.val (yl_assign rfl) rfl ?_
                                                    refine JL.nil ?_
                                                    refine JE.code ?_
                                                    refine JX.ret ?_
                                                    obtain rfl := Option.some.inj hres
                                                    refine JE.ret (rs := [.tmp 2]) (vs := [.bool true]) rfl ⟨rfl, trivial⟩ ?_
                                                    exact fun w' hb hs => ⟨_, _, ⟨rfl, rfl⟩, rfl, hb, hs.sel [] _ (by decide) rfl⟩
                                            · intro K
                                              rcases cond_some hcb119 with ⟨hb, hres⟩ | ⟨hb, hres⟩
                                              · refine JL.set (d := 256) (v := .bool true) (congrArg (fun b => some (Value.bool b)) hb) ?_
                                                refine JL.gval rfl rfl (yl_loadn Go.Proofs.Try.underlying28 rfl i28 rfl (fun w hC => rd_box hC 3 rfl) rfl (i28s).symm i28p) rfl ?_
                                                refine JL.gval rfl rfl (yl_loadn Go.Proofs.Try.underlying35 rfl i35 rfl (fun w hC => rd_box hC 5 rfl) rfl (i35s).symm i35p) rfl ?_
                                                obtain ⟨x120, hx120, hres⟩ := bind_some hres
                                                refine JL.geff rfl rfl (ef_call (vs := [.agg #[.int .i64 x40.1.W, .int .i64 x40.1.H, .slice a41 x40.1.Breaks.length cp42], .agg #[.int .i64 x48.1.X, .int .i64 x48.1.Y]]) (T := T80 x120) Go.Proofs.Try.func80 rfl (by kernel_rfl) rfl (fun w hC => c80 (q0 := x40.1) (q1 := x48.1) (rd_row hC 4 rfl) rfl (ln_row hC 4 rfl) hx120)) rfl ?_
                                                rintro _ _ ⟨_, ⟨rfl, rfl⟩, rfl⟩
                                                refine JL.gval rfl rfl (yl_not rfl) rfl ?_
                                                refine JL.val (yl_pick_true rfl rfl) rfl ?_
                                                have he := Option.some.inj hres
                                                exact JL.weak [0, 1, 2] K ⟨rfl, rfl, rfl, rfl, (by rw [← he]; rfl), trivial⟩ (by decide) rfl
                                              · refine JL.set (d := 256) (v := .bool false) (congrArg (fun b => some (Value.bool b)) hb) ?_
                                                refine JL.gskip rfl rfl rfl rfl ?_
                                                refine JL.gskip rfl rfl rfl rfl ?_
                                                refine JL.gskip rfl rfl rfl rfl ?_
                                                refine JL.gskip rfl rfl rfl rfl ?_
                                                refine JL.val (yl_pick_false rfl rfl) rfl ?_
                                                have he := Option.some.inj hres
                                                exact JL.weak [0, 1, 2] K ⟨rfl, rfl, rfl, rfl, (by rw [← he]; rfl), trivial⟩ (by decide) rfl
                                        · intro K
                                          rcases Bool.eq_false_or_eq_true (((((x109.2.2 != 0) || (x114.2.2 != 0)) || (decide (x114.1.X < x109.1.X))) || (decide (x114.1.Y < x109.1.Y))) || (decide (x109.2.1.X < x114.2.1.X))) with hb | hb
                                          · refine JL.set (d := 247) (v := .bool true) (congrArg (fun b => some (Value.bool b)) hb) ?_
                                            refine JL.gskip rfl rfl rfl rfl ?_
                                            refine JL.gskip rfl rfl rfl rfl ?_
                                            refine JL.gskip rfl rfl rfl rfl ?_
                                            refine JL.gskip rfl rfl rfl rfl ?_
                                            refine JL.gskip rfl rfl rfl rfl ?_
                                            refine JL.val (yl_pick_true rfl rfl) rfl ?_
                                            exact JL.weak [0, 1, 2, 3, 4, 5] K ⟨rfl, rfl, rfl, rfl, rfl, rfl, rfl, (by rw [hb]; rfl), trivial⟩ (by decide) rfl
                                          · refine JL.set (d := 247) (v := .bool false) (congrArg (fun b => some (Value.bool b)) hb) ?_
                                            refine JL.gval rfl rfl (yl_fieldAt (a := some _) Go.Proofs.Try.underlying35 rfl i2 i2n rfl rfl) rfl ?_
                                            refine JL.gval rfl rfl (yl_load1 Go.Proofs.Try.underlying2 rfl rfl (fun w hC => rd_box hC 7 rfl) rfl) rfl ?_
                                            refine JL.gval rfl rfl (yl_fieldAt (a := some _) Go.Proofs.Try.underlying35 rfl i2 i2n rfl rfl) rfl ?_
                                            refine JL.gval rfl rfl (yl_load1 Go.Proofs.Try.underlying2 rfl rfl (fun w hC => rd_box hC 6 rfl) rfl) rfl ?_
                                            refine JL.gval rfl rfl (yl_gtr rfl rfl) rfl ?_
                                            refine JL.val (yl_pick_false rfl rfl) rfl ?_
                                            exact JL.weak [0, 1, 2, 3, 4, 5] K ⟨rfl, rfl, rfl, rfl, rfl, rfl, rfl, (by rw [hb]; rfl), trivial⟩ (by decide) rfl
                                      · intro K
                                        rcases Bool.eq_false_or_eq_true ((((x109.2.2 != 0) || (x114.2.2 != 0)) || (decide (x114.1.X < x109.1.X))) || (decide (x114.1.Y < x109.1.Y))) with hb | hb
                                        · refine JL.set (d := 240) (v := .bool true) (congrArg (fun b => some (Value.bool b)) hb) ?_
                                          refine JL.gskip rfl rfl rfl rfl ?_
                                          refine JL.gskip rfl rfl rfl rfl ?_
                                          refine JL.gskip rfl rfl rfl rfl ?_
                                          refine JL.gskip rfl rfl rfl rfl ?_
                                          refine JL.gskip rfl rfl rfl rfl ?_
                                          refine JL.val (yl_pick_true rfl rfl) rfl ?_
                                          exact JL.weak [0, 1, 2, 3, 4, 5, 6, 7] K ⟨rfl, rfl, rfl, rfl, rfl, rfl, rfl, rfl, rfl, (by rw [hb]; rfl), trivial⟩ (by decide) rfl
                                        · refine JL.set (d := 240) (v := .bool false) (congrArg (fun b => some (Value.bool b)) hb) ?_
                                          refine JL.gval rfl rfl (yl_fieldAt (a := some _) Go.Proofs.Try.underlying35 rfl i2 i2n rfl rfl) rfl ?_
                                          refine JL.gval rfl rfl (yl_load1 Go.Proofs.Try.underlying2 rfl rfl (fun w hC => rd_box hC 7 rfl) rfl) rfl ?_
                                          refine JL.gval rfl rfl (yl_fieldAt (a := some _) Go.Proofs.Try.underlying35 rfl i2 i2n rfl rfl) rfl ?_
                                          refine JL.gval rfl rfl (yl_load1 Go.Proofs.Try.underlying2 rfl rfl (fun w hC => rd_box hC 6 rfl) rfl) rfl ?_
                                          refine JL.gval rfl rfl (yl_gtr rfl rfl) rfl ?_
                                          refine JL.val (yl_pick_false rfl rfl) rfl ?_
                                          exact JL.weak [0, 1, 2, 3, 4, 5, 6, 7] K ⟨rfl, rfl, rfl, rfl, rfl, rfl, rfl, rfl, rfl, (by rw [hb]; rfl), trivial⟩ (by decide) rfl
                                    · intro K
                                      rcases Bool.eq_false_or_eq_true (((x109.2.2 != 0) || (x114.2.2 != 0)) || (decide (x114.1.X < x109.1.X))) with hb | hb
                                      · refine JL.set (d := 233) (v := .bool true) (congrArg (fun b => some (Value.bool b)) hb) ?_
                                        refine JL.gskip rfl rfl rfl rfl ?_
                                        refine JL.gskip rfl rfl rfl rfl ?_
                                        refine JL.gskip rfl rfl rfl rfl ?_
                                        refine JL.gskip rfl rfl rfl rfl ?_
                                        refine JL.gskip rfl rfl rfl rfl ?_
                                        refine JL.val (yl_pick_true rfl rfl) rfl ?_
                                        exact JL.weak [0, 1, 2, 3, 4, 5, 7, 9] K ⟨rfl, rfl, rfl, rfl, rfl, rfl, rfl, rfl, rfl, (by rw [hb]; rfl), trivial⟩ (by decide) rfl
                                      · refine JL.set (d := 233) (v := .bool false) (congrArg (fun b => some (Value.bool b)) hb) ?_
                                        refine JL.gval rfl rfl (yl_fieldAt (a := some _) Go.Proofs.Try.underlying35 rfl i2 i2n rfl rfl) rfl ?_
                                        refine JL.gval rfl rfl (yl_load1 Go.Proofs.Try.underlying2 rfl rfl (fun w hC => rd_box hC 8 rfl) rfl) rfl ?_
                                        refine JL.gval rfl rfl (yl_fieldAt (a := some _) Go.Proofs.Try.underlying35 rfl i2 i2n rfl rfl) rfl ?_
                                        refine JL.gval rfl rfl (yl_load1 Go.Proofs.Try.underlying2 rfl rfl (fun w hC => rd_box hC 6 rfl) rfl) rfl ?_
                                        refine JL.gval rfl rfl (yl_lss rfl rfl) rfl ?_
                                        refine JL.val (yl_pick_false rfl rfl) rfl ?_
                                        exact JL.weak [0, 1, 2, 3, 4, 5, 7, 9] K ⟨rfl, rfl, rfl, rfl, rfl, rfl, rfl, rfl, rfl, (by rw [hb]; rfl), trivial⟩ (by decide) rfl
                                  · intro K
                                    rcases Bool.eq_false_or_eq_true ((x109.2.2 != 0) || (x114.2.2 != 0)) with hb | hb
                                    · refine JL.set (d := 226) (v := .bool true) (congrArg (fun b => some (Value.bool b)) hb) ?_
                                      refine JL.gskip rfl rfl rfl rfl ?_
                                      refine JL.gskip rfl rfl rfl rfl ?_
                                      refine JL.gskip rfl rfl rfl rfl ?_
                                      refine JL.gskip rfl rfl rfl rfl ?_
                                      refine JL.gskip rfl rfl rfl rfl ?_
                                      refine JL.val (yl_pick_true rfl rfl) rfl ?_
                                      exact JL.weak [0, 1, 2, 3, 4, 5, 6, 7, 8, 9] K ⟨rfl, rfl, rfl, rfl, rfl, rfl, rfl, rfl, rfl, rfl, rfl, (by rw [hb]; rfl), trivial⟩ (by decide) rfl
                                    · refine JL.set (d := 226) (v := .bool false) (congrArg (fun b => some (Value.bool b)) hb) ?_
                                      refine JL.gval rfl rfl (yl_fieldAt (a := some _) Go.Proofs.Try.underlying35 rfl i2 i2n rfl rfl) rfl ?_
                                      refine JL.gval rfl rfl (yl_load1 Go.Proofs.Try.underlying2 rfl rfl (fun w hC => rd_box hC 8 rfl) rfl) rfl ?_
                                      refine JL.gval rfl rfl (yl_fieldAt (a := some _) Go.Proofs.Try.underlying35 rfl i2 i2n rfl rfl) rfl ?_
                                      refine JL.gval rfl rfl (yl_load1 Go.Proofs.Try.underlying2 rfl rfl (fun w hC => rd_box hC 6 rfl) rfl) rfl ?_
                                      refine JL.gval rfl rfl (yl_lss rfl rfl) rfl ?_
                                      refine JL.val (yl_pick_false rfl rfl) rfl ?_
                                      exact JL.weak [0, 1, 2, 3, 4, 5, 6, 7, 8, 9] K ⟨rfl, rfl, rfl, rfl, rfl, rfl, rfl, rfl, rfl, rfl, rfl, (by rw [hb]; rfl), trivial⟩ (by decide) rfl
                                · intro K
                                  rcases Bool.eq_false_or_eq_true (x109.2.2 != 0) with hb | hb
                                  · refine JL.set (d := 222) (v := .bool true) (congrArg (fun b => some (Value.bool b)) hb) ?_
                                    refine JL.gskip rfl rfl rfl rfl ?_
                                    refine JL.gskip rfl rfl rfl rfl ?_
                                    refine JL.val (yl_pick_true rfl rfl) rfl ?_
                                    exact JL.weak [0, 1, 2, 3, 4, 5, 6, 7, 8, 9] K ⟨rfl, rfl, rfl, rfl, rfl, rfl, rfl, rfl, rfl, rfl, rfl, (by rw [hb]; rfl), trivial⟩ (by decide) rfl
                                  · refine JL.set (d := 222) (v := .bool false) (congrArg (fun b => some (Value.bool b)) hb) ?_
                                    refine JL.gval rfl rfl (yl_move rfl) rfl ?_
                                    refine JL.gval rfl rfl (yl_neq rfl rfl) rfl ?_
                                    refine JL.val (yl_pick_false rfl rfl) rfl ?_
                                    exact JL.weak [0, 1, 2, 3, 4, 5, 6, 7, 8, 9] K ⟨rfl, rfl, rfl, rfl, rfl, rfl, rfl, rfl, rfl, rfl, rfl, (by rw [hb]; rfl), trivial⟩ (by decide) rfl
                              · refine JX.condF rfl hb ?_
                                refine JX.skip ?_
                                refine JE.code ?_
                                refine JX.seq ?_
                                refine JX.seq ?_
                                refine JX.region ?_
                                refine JL.val (yl_move rfl) rfl ?_
                                refine JL.val (yl_eql rfl rfl) rfl ?_
                                refine JL.val (yl_move rfl) rfl ?_
                                obtain ⟨cb130, hcb130, hres⟩ := bind_some hres
                                refine JL.cut (K := fun J => J [(3, .slice a3 x2.length cp4), (4, ptrAt (some ⟨g7, 0, none⟩) 0), (5, ptrAt (some ⟨g9, 0, none⟩) 0), (6, .int .i64 x6.2.2), (261, .bool cb130)] [rowT 35 eSPoint a3 x2.length cp4 x2, boxO 35 g7 [.int .i64 x6.1.X, .int .i64 x6.1.Y], boxO 35 g9 [.int .i64 x6.2.1.X, .int .i64 x6.2.1.Y]]) 5 ?_ ?_
                                · refine JL.nil ?_
                                  refine JE.weak (env' := [(3, .slice a3 x2.length cp4), (4, ptrAt (some ⟨g7, 0, none⟩) 0), (5, ptrAt (some ⟨g9, 0, none⟩) 0), (6, .int .i64 x6.2.2), (261, .bool cb130)]) (es' := [rowT 35 eSPoint a3 x2.length cp4 x2, boxO 35 g7 [.int .i64 x6.1.X, .int .i64 x6.1.Y], boxO 35 g9 [.int .i64 x6.2.1.X, .int .i64 x6.2.1.Y]]) [0, 1, 2] ?_ ⟨rfl, rfl, rfl, rfl, rfl, trivial⟩ (by decide) rfl
                                  refine JE.code ?_
                                  rcases cond_some hres with ⟨hb, hres⟩ | ⟨hb, hres⟩
                                  · refine JX.condT rfl hb ?_
                                    refine JX.seq ?_
                                    refine JX.region ?_
                                    refine JL.val (yl_assign rfl) rfl ?_
                                    refine JL.nil ?_
                                    refine JE.weak (env' := [(2, .bool false)]) (es' := []) [] ?_ ⟨rfl, trivial⟩ (by decide) rfl
                                    refine JE.code ?_
                                    refine JX.ret ?_
                                    obtain rfl := Option.some.inj hres
                                    refine JE.ret (rs := [.tmp 2]) (vs := [.bool false]) rfl ⟨rfl, trivial⟩ ?_
                                    exact fun w' hb hs => ⟨_, _, ⟨rfl, rfl⟩, rfl, hb, hs.sel [] _ (by decide) rfl⟩
                                  · refine JX.condF rfl hb ?_
                                    refine JX.skip ?_
                                    refine JE.code ?_
                                    refine JX.seq ?_
                                    refine JX.seq ?_
                                    refine JX.region ?_
                                    refine JL.val (yl_move rfl) rfl ?_
                                    refine JL.val (yl_neq rfl rfl) rfl ?_
                                    refine JL.nil ?_
                                    refine JE.code ?_
                                    rcases cond_some hres with ⟨hb, hres⟩ | ⟨hb, hres⟩
                                    · refine JX.condT rfl hb ?_
                                      refine JX.seq ?_
                                      refine JX.region ?_
                                      refine JL.val (yl_assign rfl) rfl ?_
                                      refine JL.nil ?_
                                      refine JE.weak (env' := [(2, .bool true)]) (es' := []) [] ?_ ⟨rfl, trivial⟩ (by decide) rfl
                                      refine JE.code ?_
                                      refine JX.ret ?_
                                      obtain rfl := Option.some.inj hres
                                      refine JE.ret (rs := [.tmp 2]) (vs := [.bool true]) rfl ⟨rfl, trivial⟩ ?_
                                      exact fun w' hb hs => ⟨_, _, ⟨rfl, rfl⟩, rfl, hb, hs.sel [] _ (by decide) rfl⟩
                                    · refine JX.condF rfl hb ?_
                                      refine JX.skip ?_
                                      refine JE.code ?_
                                      refine JX.seq ?_
                                      refine JX.seq ?_
                                      refine JX.region ?_
                                      refine JL.val (yl_assign rfl) rfl ?_
                                      refine JL.nil ?_
                                      refine JE.code ?_
                                      refine JX.block ?_
                                      obtain ⟨y4, hy4, hresO4⟩ := bind_some hres
                                      refine JX.loop (I := fun (s4 : Int) aa ww => St w [] 308 [(3, .slice a3 x2.length cp4), (4, ptrAt (some ⟨g7, 0, none⟩) 0), (5, ptrAt (some ⟨g9, 0, none⟩) 0), (43, .int .i64 s4)] [rowT 35 eSPoint a3 x2.length cp4 x2, boxO 35 g7 [.int .i64 x6.1.X, .int .i64 x6.1.Y], boxO 35 g9 [.int .i64 x6.2.1.X, .int .i64 x6.2.1.Y]] aa ww) (sh14_4 x2 x6) hy4 (fun a w h => h.weak ⟨rfl, rfl, rfl, rfl, trivial⟩ [0, 1, 2] (by decide) rfl) ?_
                                      rintro x132 o4 hres hox4 aa ww hS
                                      refine (?_ : JX Go.Proofs.Try.prog w [] 308 _ _ [(3, .slice a3 x2.length cp4), (4, ptrAt (some ⟨g7, 0, none⟩) 0), (5, ptrAt (some ⟨g9, 0, none⟩) 0), (43, .int .i64 x132)] [rowT 35 eSPoint a3 x2.length cp4 x2, boxO 35 g7 [.int .i64 x6.1.X, .int .i64 x6.1.Y], boxO 35 g9 [.int .i64 x6.2.1.X, .int .i64 x6.2.1.Y]] _) aa ww hS
                                      clear hS
                                      unfold sh14_4 at hres
                                      refine JX.seq ?_
                                      refine JX.seq ?_
                                      refine JX.region ?_
                                      refine JL.val (yl_move rfl) rfl ?_
                                      refine JL.val (yl_move rfl) rfl ?_
                                      refine JL.val (yl_len_slice Go.Proofs.Try.underlying61 rfl) rfl ?_
                                      refine JL.val (yl_lss rfl rfl) rfl ?_
                                      refine JL.nil ?_
                                      refine JE.weak (env' := [(3, .slice a3 x2.length cp4), (4, ptrAt (some ⟨g7, 0, none⟩) 0), (5, ptrAt (some ⟨g9, 0, none⟩) 0), (43, .int .i64 x132), (267, .bool (decide (x132 < (x2.length : Int))))]) (es' := [rowT 35 eSPoint a3 x2.length cp4 x2, boxO 35 g7 [.int .i64 x6.1.X, .int .i64 x6.1.Y], boxO 35 g9 [.int .i64 x6.2.1.X, .int .i64 x6.2.1.Y]]) [0, 1, 2] ?_ ⟨rfl, rfl, rfl, rfl, rfl, trivial⟩ (by decide) rfl
                                      refine JE.code ?_
                                      rcases cond_some hres with ⟨hb, hres⟩ | ⟨hb, hres⟩
                                      · refine JX.condT rfl hb ?_
                                        refine JX.skip ?_
                                        refine JE.code ?_
                                        refine JX.seq ?_
                                        refine JX.block ?_
                                        refine JX.seq ?_
                                        refine JX.drawH [(0, .pure), (1, .pure), (2, .pure), (3, .pure), (4, .read), (5, .pure), (6, .read), (7, .pure), (8, .pure), (9, .pure), (10, .pure), (11, .pure), (12, .pure), (13, .read), (14, .pure), (15, .read), (16, .pure), (17, .pure), (18, .pure), (19, .pure), (20, .pure), (21, .pure), (22, .pure), (23, .read), (24, .pure), (25, .read), (26, .pure), (27, .pure), (28, .pure), (29, .pure), (30, .pure), (31, .pure), (32, .pure), (33, .read), (34, .pure), (35, .read), (36, .pure), (37, .pure)] [] [] [0, 1, 2] [] [rowT 35 eSPoint a3 x2.length cp4 x2, boxO 35 g7 [.int .i64 x6.1.X, .int .i64 x6.1.Y], boxO 35 g9 [.int .i64 x6.2.1.X, .int .i64 x6.2.1.Y]] mixedP (by kernel_rfl) (by kernel_rfl) (by decide) rfl rfl ?_
                                        intro wrr133 Nr133 hFr133
                                        refine JH.pure rfl (yl_move rfl) rfl ?_
                                        refine JH.pure rfl (yl_move rfl) rfl ?_
                                        obtain ⟨x134, hx134, hres⟩ := bind_some hres
                                        refine JH.pure rfl (yl_idxQ Go.Proofs.Try.underlying61 i35 i35s rfl rfl hx134 rfl (rd_row hFr133.cl 0 rfl) rfl) rfl ?_
                                        refine JH.pure rfl (yl_fieldAt Go.Proofs.Try.underlying35 rfl i2 i2n rfl (RdT.someQ (rd_row hFr133.cl 0 rfl) hx134 rfl rfl)) rfl ?_
                                        refine JH.read rfl (yl_loadT1 Go.Proofs.Try.underlying2 rfl rfl hx134 (fun w hw => hFr133.row 0 rfl rfl hw) rfl) rfl ?_
                                        refine JH.pure rfl (yl_fieldAt (a := some _) Go.Proofs.Try.underlying35 rfl i2 i2n rfl rfl) rfl ?_
                                        refine JH.read rfl (yl_load1 Go.Proofs.Try.underlying2 rfl rfl (fun w hw => hFr133.box 1 rfl rfl hw) rfl) rfl ?_
                                        refine JH.pure rfl (yl_lss rfl rfl) rfl ?_
                                        refine JH.pure rfl (yl_move rfl) rfl ?_
                                        obtain ⟨cb135, hcb135, hres⟩ := bind_some hres
                                        refine JH.cut (K := fun J => J [(3, .slice a3 x2.length cp4), (4, ptrAt (some ⟨g7, 0, none⟩) 0), (5, ptrAt (some ⟨g9, 0, none⟩) 0), (43, .int .i64 x132), (287, .bool cb135)] []) 9 ?_ ?_
                                        · refine JH.pure rfl (yl_move rfl) rfl ?_
                                          obtain ⟨cb137, hcb137, hres⟩ := bind_some hres
                                          refine JH.cut (K := fun J => J [(3, .slice a3 x2.length cp4), (4, ptrAt (some ⟨g7, 0, none⟩) 0), (5, ptrAt (some ⟨g9, 0, none⟩) 0), (43, .int .i64 x132), (297, .bool cb137)] []) 9 ?_ ?_
                                          · refine JH.pure rfl (yl_move rfl) rfl ?_
                                            obtain ⟨cb139, hcb139, hres⟩ := bind_some hres
                                            refine JH.cut (K := fun J => J [(3, .slice a3 x2.length cp4), (4, ptrAt (some ⟨g7, 0, none⟩) 0), (5, ptrAt (some ⟨g9, 0, none⟩) 0), (43, .int .i64 x132), (307, .bool cb139)] []) 9 ?_ ?_
                                            · refine JH.nil ?_
                                              refine JE.weak (env' := [(3, .slice a3 x2.length cp4), (4, ptrAt (some ⟨g7, 0, none⟩) 0), (5, ptrAt (some ⟨g9, 0, none⟩) 0), (43, .int .i64 x132), (307, .bool cb139)]) (es' := [rowT 35 eSPoint a3 x2.length cp4 x2, boxO 35 g7 [.int .i64 x6.1.X, .int .i64 x6.1.Y], boxO 35 g9 [.int .i64 x6.2.1.X, .int .i64 x6.2.1.Y]]) [0, 1, 2] ?_ ⟨rfl, rfl, rfl, rfl, rfl, trivial⟩ (by decide) rfl
                                              refine JE.code ?_
                                              rcases cond_some hres with ⟨hb, hres⟩ | ⟨hb, hres⟩
                                              · refine JX.condT rfl hb ?_
                                                refine JX.seq ?_
                                                refine JX.region ?_
                                                refine JL.val (yl_assign rfl) rfl ?_
                                                refine JL.nil ?_
                                                refine JE.weak (env' := [(2, .bool false)]) (es' := []) [] ?_ ⟨rfl, trivial⟩ (by decide) rfl
                                                refine JE.code ?_
                                                refine JX.ret ?_
                                                refine JE.qbr ?_
                                                refine JE.qbr ?_
                                                have hres := elimS_inr hresO4 (hox4 _ (Option.some.inj hres).symm)
                                                obtain rfl := Option.some.inj hres
                                                refine JE.ret (rs := [.tmp 2]) (vs := [.bool false]) rfl ⟨rfl, trivial⟩ ?_
                                                exact fun w' hb hs => ⟨_, _, ⟨rfl, rfl⟩, rfl, hb, hs.sel [] _ (by decide) rfl⟩
                                              · refine JX.condF rfl hb ?_
                                                refine JX.skip ?_
                                                refine JE.code ?_
                                                refine JX.region ?_
                                                refine JL.val (yl_move rfl) rfl ?_
                                                refine JL.val (yl_add rfl rfl) rfl ?_
                                                refine JL.val (yl_assign rfl) rfl ?_
                                                refine JL.nil ?_
                                                refine JE.cont hres ?_
                                                exact fun a w h => h.weak ⟨rfl, rfl, rfl, rfl, trivial⟩ [0, 1, 2] (by decide) rfl
                                            · intro K
                                              rcases cond_some hcb139 with ⟨hb, hres⟩ | ⟨hb, hres⟩
                                              · refine JH.set (d := 298) (v := .bool true) (congrArg (fun b => some (Value.bool b)) hb) ?_
                                                refine JH.gskip rfl rfl rfl rfl rfl rfl ?_
                                                refine JH.gskip rfl rfl rfl rfl rfl rfl ?_
                                                refine JH.gskip rfl rfl rfl rfl rfl rfl ?_
                                                refine JH.gskip rfl rfl rfl rfl rfl rfl ?_
                                                refine JH.gskip rfl rfl rfl rfl rfl rfl ?_
                                                refine JH.gskip rfl rfl rfl rfl rfl rfl ?_
                                                refine JH.gskip rfl rfl rfl rfl rfl rfl ?_
                                                refine JH.gskip rfl rfl rfl rfl rfl rfl ?_
                                                refine JH.pure rfl (yl_pick_true rfl rfl) rfl ?_
                                                have he := Option.some.inj hres
                                                exact JH.weak [] K ⟨rfl, rfl, rfl, rfl, (by rw [← he]; rfl), trivial⟩ (by decide) rfl
                                              · refine JH.set (d := 298) (v := .bool false) (congrArg (fun b => some (Value.bool b)) hb) ?_
                                                refine JH.gpure rfl rfl rfl (yl_move rfl) rfl ?_
                                                refine JH.gpure rfl rfl rfl (yl_move rfl) rfl ?_
                                                obtain ⟨x140, hx140, hres⟩ := bind_some hres
                                                refine JH.gpure rfl rfl rfl (yl_idxQ Go.Proofs.Try.underlying61 i35 i35s rfl rfl hx140 rfl (rd_row hFr133.cl 0 rfl) rfl) rfl ?_
                                                refine JH.gpure rfl rfl rfl (yl_fieldAt Go.Proofs.Try.underlying35 rfl i2 i2n rfl (RdT.someQ (rd_row hFr133.cl 0 rfl) hx140 rfl rfl)) rfl ?_
                                                refine JH.gread rfl rfl rfl (yl_loadT1 Go.Proofs.Try.underlying2 rfl rfl hx140 (fun w hw => hFr133.row 0 rfl rfl hw) rfl) rfl ?_
                                                refine JH.gpure rfl rfl rfl (yl_fieldAt (a := some _) Go.Proofs.Try.underlying35 rfl i2 i2n rfl rfl) rfl ?_
                                                refine JH.gread rfl rfl rfl (yl_load1 Go.Proofs.Try.underlying2 rfl rfl (fun w hw => hFr133.box 2 rfl rfl hw) rfl) rfl ?_
                                                refine JH.gpure rfl rfl rfl (yl_gtr rfl rfl) rfl ?_
                                                refine JH.pure rfl (yl_pick_false rfl rfl) rfl ?_
                                                have he := Option.some.inj hres
                                                exact JH.weak [] K ⟨rfl, rfl, rfl, rfl, (by rw [← he]; rfl), trivial⟩ (by decide) rfl
                                          · intro K
                                            rcases cond_some hcb137 with ⟨hb, hres⟩ | ⟨hb, hres⟩
                                            · refine JH.set (d := 288) (v := .bool true) (congrArg (fun b => some (Value.bool b)) hb) ?_
                                              refine JH.gskip rfl rfl rfl rfl rfl rfl ?_
                                              refine JH.gskip rfl rfl rfl rfl rfl rfl ?_
                                              refine JH.gskip rfl rfl rfl rfl rfl rfl ?_
                                              refine JH.gskip rfl rfl rfl rfl rfl rfl ?_
                                              refine JH.gskip rfl rfl rfl rfl rfl rfl ?_
                                              refine JH.gskip rfl rfl rfl rfl rfl rfl ?_
                                              refine JH.gskip rfl rfl rfl rfl rfl rfl ?_
                                              refine JH.gskip rfl rfl rfl rfl rfl rfl ?_
                                              refine JH.pure rfl (yl_pick_true rfl rfl) rfl ?_
                                              have he := Option.some.inj hres
                                              exact JH.weak [] K ⟨rfl, rfl, rfl, rfl, (by rw [← he]; rfl), trivial⟩ (by decide) rfl
                                            · refine JH.set (d := 288) (v := .bool false) (congrArg (fun b => some (Value.bool b)) hb) ?_
                                              refine JH.gpure rfl rfl rfl (yl_move rfl) rfl ?_
                                              refine JH.gpure rfl rfl rfl (yl_move rfl) rfl ?_
                                              obtain ⟨x138, hx138, hres⟩ := bind_some hres
                                              refine JH.gpure rfl rfl rfl (yl_idxQ Go.Proofs.Try.underlying61 i35 i35s rfl rfl hx138 rfl (rd_row hFr133.cl 0 rfl) rfl) rfl ?_
                                              refine JH.gpure rfl rfl rfl (yl_fieldAt Go.Proofs.Try.underlying35 rfl i2 i2n rfl (RdT.someQ (rd_row hFr133.cl 0 rfl) hx138 rfl rfl)) rfl ?_
                                              refine JH.gread rfl rfl rfl (yl_loadT1 Go.Proofs.Try.underlying2 rfl rfl hx138 (fun w hw => hFr133.row 0 rfl rfl hw) rfl) rfl ?_
                                              refine JH.gpure rfl rfl rfl (yl_fieldAt (a := some _) Go.Proofs.Try.underlying35 rfl i2 i2n rfl rfl) rfl ?_
                                              refine JH.gread rfl rfl rfl (yl_load1 Go.Proofs.Try.underlying2 rfl rfl (fun w hw => hFr133.box 2 rfl rfl hw) rfl) rfl ?_
                                              refine JH.gpure rfl rfl rfl (yl_gtr rfl rfl) rfl ?_
                                              refine JH.pure rfl (yl_pick_false rfl rfl) rfl ?_
                                              have he := Option.some.inj hres
                                              exact JH.weak [] K ⟨rfl, rfl, rfl, rfl, (by rw [← he]; rfl), trivial⟩ (by decide) rfl
                                        · intro K
                                          rcases cond_some hcb135 with ⟨hb, hres⟩ | ⟨hb, hres⟩
                                          · refine JH.set (d := 278) (v := .bool true) (congrArg (fun b => some (Value.bool b)) hb) ?_
                                            refine JH.gskip rfl rfl rfl rfl rfl rfl ?_
                                            refine JH.gskip rfl rfl rfl rfl rfl rfl ?_
                                            refine JH.gskip rfl rfl rfl rfl rfl rfl ?_
                                            refine JH.gskip rfl rfl rfl rfl rfl rfl ?_
                                            refine JH.gskip rfl rfl rfl rfl rfl rfl ?_
                                            refine JH.gskip rfl rfl rfl rfl rfl rfl ?_
                                            refine JH.gskip rfl rfl rfl rfl rfl rfl ?_
                                            refine JH.gskip rfl rfl rfl rfl rfl rfl ?_
                                            refine JH.pure rfl (yl_pick_true rfl rfl) rfl ?_
                                            have he := Option.some.inj hres
                                            exact JH.weak [] K ⟨rfl, rfl, rfl, rfl, (by rw [← he]; rfl), trivial⟩ (by decide) rfl
                                          · refine JH.set (d := 278) (v := .bool false) (congrArg (fun b => some (Value.bool b)) hb) ?_
                                            refine JH.gpure rfl rfl rfl (yl_move rfl) rfl ?_
                                            refine JH.gpure rfl rfl rfl (yl_move rfl) rfl ?_
                                            obtain ⟨x136, hx136, hres⟩ := bind_some hres
                                            refine JH.gpure rfl rfl rfl (yl_idxQ Go.Proofs.Try.underlying61 i35 i35s rfl rfl hx136 rfl (rd_row hFr133.cl 0 rfl) rfl) rfl ?_
                                            refine JH.gpure rfl rfl rfl (yl_fieldAt Go.Proofs.Try.underlying35 rfl i2 i2n rfl (RdT.someQ (rd_row hFr133.cl 0 rfl) hx136 rfl rfl)) rfl ?_
                                            refine JH.gread rfl rfl rfl (yl_loadT1 Go.Proofs.Try.underlying2 rfl rfl hx136 (fun w hw => hFr133.row 0 rfl rfl hw) rfl) rfl ?_
                                            refine JH.gpure rfl rfl rfl (yl_fieldAt (a := some _) Go.Proofs.Try.underlying35 rfl i2 i2n rfl rfl) rfl ?_
                                            refine JH.gread rfl rfl rfl (yl_load1 Go.Proofs.Try.underlying2 rfl rfl (fun w hw => hFr133.box 1 rfl rfl hw) rfl) rfl ?_
                                            refine JH.gpure rfl rfl rfl (yl_lss rfl rfl) rfl ?_
                                            refine JH.pure rfl (yl_pick_false rfl rfl) rfl ?_
                                            have he := Option.some.inj hres
                                            exact JH.weak [] K ⟨rfl, rfl, rfl, rfl, (by rw [← he]; rfl), trivial⟩ (by decide) rfl
                                      · refine JX.condF rfl hb ?_
                                        refine JX.exit ?_
                                        refine JE.qb rfl ?_
                                        obtain ⟨b4, hb4⟩ : ∃ b : Unit, b = () := ⟨_, rfl⟩
                                        have hy4 : Sum.inl b4 = y4 := by rw [hb4]; exact hox4 _ (Option.some.inj hres).symm
                                        have hres := elimS_inl hresO4 hy4
                                        refine JE.weak (env' := []) (es' := []) [] ?_ trivial (by decide) (by subst hb4; rfl)
                                        refine JE.code ?_
                                        refine JX.seq ?_
                                        refine JX.region ?_
                                        refine JL.val (yl_assign rfl) rfl ?_
                                        refine JL.nil ?_
                                        refine JE.code ?_
                                        refine JX.ret ?_
                                        obtain rfl := Option.some.inj hres
                                        refine JE.ret (rs := [.tmp 2]) (vs := [.bool true]) rfl ⟨rfl, trivial⟩ ?_
                                        exact fun w' hb hs => ⟨_, _, ⟨rfl, rfl⟩, rfl, hb, hs.sel [] _ (by decide) rfl⟩
                                · intro K
                                  rcases cond_some hcb130 with ⟨hb, hres⟩ | ⟨hb, hres⟩
                                  · refine JL.set (d := 256) (v := .bool true) (congrArg (fun b => some (Value.bool b)) hb) ?_
                                    refine JL.gval rfl rfl (yl_loadn Go.Proofs.Try.underlying28 rfl i28 rfl (fun w hC => rd_box hC 5 rfl) rfl (i28s).symm i28p) rfl ?_
                                    refine JL.gval rfl rfl (yl_loadn Go.Proofs.Try.underlying35 rfl i35 rfl (fun w hC => rd_box hC 7 rfl) rfl (i35s).symm i35p) rfl ?_
                                    obtain ⟨x131, hx131, hres⟩ := bind_some hres
                                    refine JL.geff rfl rfl (ef_call (vs := [.agg #[.int .i64 x40.1.W, .int .i64 x40.1.H, .slice a41 x40.1.Breaks.length cp42], .agg #[.int .i64 x48.1.X, .int .i64 x48.1.Y]]) (T := T80 x131) Go.Proofs.Try.func80 rfl (by kernel_rfl) rfl (fun w hC => c80 (q0 := x40.1) (q1 := x48.1) (rd_row hC 6 rfl) rfl (ln_row hC 6 rfl) hx131)) rfl ?_
                                    rintro _ _ ⟨_, ⟨rfl, rfl⟩, rfl⟩
                                    refine JL.gval rfl rfl (yl_not rfl) rfl ?_
                                    refine JL.val (yl_pick_true rfl rfl) rfl ?_
                                    have he := Option.some.inj hres
                                    exact JL.weak [0, 1, 2] K ⟨rfl, rfl, rfl, rfl, (by rw [← he]; rfl), trivial⟩ (by decide) rfl
                                  · refine JL.set (d := 256) (v := .bool false) (congrArg (fun b => some (Value.bool b)) hb) ?_
                                    refine JL.gskip rfl rfl rfl rfl ?_
                                    refine JL.gskip rfl rfl rfl rfl ?_
                                    refine JL.gskip rfl rfl rfl rfl ?_
                                    refine JL.gskip rfl rfl rfl rfl ?_
                                    refine JL.val (yl_pick_false rfl rfl) rfl ?_
                                    have he := Option.some.inj hres
                                    exact JL.weak [0, 1, 2] K ⟨rfl, rfl, rfl, rfl, (by rw [← he]; rfl), trivial⟩ (by decide) rfl
                        · intro K
                          rcases cond_some hcb68 with ⟨hb, hres⟩ | ⟨hb, hres⟩
                          · refine JL.set (d := 183) (v := .bool true) (congrArg (fun b => some (Value.bool b)) hb) ?_
                            refine JL.gskip rfl rfl rfl rfl ?_
                            refine JL.gskip rfl rfl rfl rfl ?_
                            refine JL.gskip rfl rfl rfl rfl ?_
                            refine JL.gskip rfl rfl rfl rfl ?_
                            refine JL.gskip rfl rfl rfl rfl ?_
                            refine JL.val (yl_pick_true rfl rfl) rfl ?_
                            have he := Option.some.inj hres
                            exact JL.weak [0, 1, 2, 3, 4, 5, 6, 7, 8] K ⟨rfl, rfl, rfl, rfl, rfl, rfl, rfl, rfl, rfl, rfl, rfl, rfl, rfl, (by rw [← he]; rfl), trivial⟩ (by decide) rfl
                          · refine JL.set (d := 183) (v := .bool false) (congrArg (fun b => some (Value.bool b)) hb) ?_
                            refine JL.gval rfl rfl (yl_move rfl) rfl ?_
                            obtain ⟨x69, hx69, hres⟩ := bind_some hres
                            refine JL.geff rfl rfl (ef_call (T := T78 x69) Go.Proofs.Try.func78 rfl (by kernel_rfl) rfl (fun w hC => c78 (rd_row hC 9 rfl) rfl (ln_row hC 9 rfl) hx69)) rfl ?_
                            rintro _ _ ⟨_, ⟨rfl, rfl⟩, rfl⟩
                            refine JL.gval rfl rfl (yl_move rfl) rfl ?_
                            obtain ⟨x70, hx70, hres⟩ := bind_some hres
                            refine JL.geff rfl rfl (ef_call (T := T79 x70) Go.Proofs.Try.func79 rfl (by kernel_rfl) rfl (fun w hC => c79 (rd_row hC 9 rfl) rfl (ln_row hC 9 rfl) hx70)) rfl ?_
                            rintro _ _ ⟨_, ⟨rfl, rfl⟩, rfl⟩
                            refine JL.gval rfl rfl (yl_bneq Go.Proofs.Try.underlying4 rfl rfl) rfl ?_
                            refine JL.val (yl_pick_false rfl rfl) rfl ?_
                            have he := Option.some.inj hres
                            exact JL.weak [0, 1, 2, 3, 4, 5, 6, 7, 8] K ⟨rfl, rfl, rfl, rfl, rfl, rfl, rfl, rfl, rfl, rfl, rfl, rfl, rfl, (by rw [← he]; rfl), trivial⟩ (by decide) rfl
                      · intro K
                        rcases Bool.eq_false_or_eq_true (((cb66 || (x48.2 != x51.2)) || (!(((x48.1.X == x51.1.X) && ((x48.1.Y == x51.1.Y) && true))))) || (x58.2 != x59.2)) with hb | hb
                        · refine JL.set (d := 178) (v := .bool true) (congrArg (fun b => some (Value.bool b)) hb) ?_
                          refine JL.gskip rfl rfl rfl rfl ?_
                          refine JL.gskip rfl rfl rfl rfl ?_
                          refine JL.gskip rfl rfl rfl rfl ?_
                          refine JL.val (yl_pick_true rfl rfl) rfl ?_
                          exact JL.weak [0, 1, 2, 3, 4, 5, 6, 7, 8, 9] K ⟨rfl, rfl, rfl, rfl, rfl, rfl, rfl, rfl, rfl, rfl, rfl, rfl, rfl, rfl, (by rw [hb]; rfl), trivial⟩ (by decide) rfl
                        · refine JL.set (d := 178) (v := .bool false) (congrArg (fun b => some (Value.bool b)) hb) ?_
                          refine JL.gval rfl rfl (yl_move rfl) rfl ?_
                          refine JL.gval rfl rfl (yl_move rfl) rfl ?_
                          refine JL.gval rfl rfl (yl_neq rfl rfl) rfl ?_
                          refine JL.val (yl_pick_false rfl rfl) rfl ?_
                          exact JL.weak [0, 1, 2, 3, 4, 5, 6, 7, 8, 9] K ⟨rfl, rfl, rfl, rfl, rfl, rfl, rfl, rfl, rfl, rfl, rfl, rfl, rfl, rfl, (by rw [hb]; rfl), trivial⟩ (by decide) rfl
                    · intro K
                      rcases Bool.eq_false_or_eq_true ((cb66 || (x48.2 != x51.2)) || (!(((x48.1.X == x51.1.X) && ((x48.1.Y == x51.1.Y) && true))))) with hb | hb
                      · refine JL.set (d := 173) (v := .bool true) (congrArg (fun b => some (Value.bool b)) hb) ?_
                        refine JL.gskip rfl rfl rfl rfl ?_
                        refine JL.gskip rfl rfl rfl rfl ?_
                        refine JL.gskip rfl rfl rfl rfl ?_
                        refine JL.val (yl_pick_true rfl rfl) rfl ?_
                        exact JL.weak [0, 1, 2, 3, 4, 5, 6, 7, 8, 9] K ⟨rfl, rfl, rfl, rfl, rfl, rfl, rfl, rfl, rfl, rfl, rfl, rfl, rfl, rfl, rfl, rfl, (by rw [hb]; rfl), trivial⟩ (by decide) rfl
                      · refine JL.set (d := 173) (v := .bool false) (congrArg (fun b => some (Value.bool b)) hb) ?_
                        refine JL.gval rfl rfl (yl_move rfl) rfl ?_
                        refine JL.gval rfl rfl (yl_move rfl) rfl ?_
                        refine JL.gval rfl rfl (yl_neq rfl rfl) rfl ?_
                        refine JL.val (yl_pick_false rfl rfl) rfl ?_
                        exact JL.weak [0, 1, 2, 3, 4, 5, 6, 7, 8, 9] K ⟨rfl, rfl, rfl, rfl, rfl, rfl, rfl, rfl, rfl, rfl, rfl, rfl, rfl, rfl, rfl, rfl, (by rw [hb]; rfl), trivial⟩ (by decide) rfl
                  · intro K
                    rcases Bool.eq_false_or_eq_true (cb66 || (x48.2 != x51.2)) with hb | hb
                    · refine JL.set (d := 168) (v := .bool true) (congrArg (fun b => some (Value.bool b)) hb) ?_
                      refine JL.gskip rfl rfl rfl rfl ?_
                      refine JL.gskip rfl rfl rfl rfl ?_
                      refine JL.gskip rfl rfl rfl rfl ?_
                      refine JL.val (yl_pick_true rfl rfl) rfl ?_
                      exact JL.weak [0, 1, 2, 3, 4, 5, 6, 7, 8, 10] K ⟨rfl, rfl, rfl, rfl, rfl, rfl, rfl, rfl, rfl, rfl, rfl, rfl, rfl, rfl, rfl, rfl, rfl, rfl, (by rw [hb]; rfl), trivial⟩ (by decide) rfl
                    · refine JL.set (d := 168) (v := .bool false) (congrArg (fun b => some (Value.bool b)) hb) ?_
                      refine JL.gval rfl rfl (yl_loadn Go.Proofs.Try.underlying35 rfl i35 rfl (fun w hC => rd_box hC 8 rfl) rfl (i35s).symm i35p) rfl ?_
                      refine JL.gval rfl rfl (yl_loadn Go.Proofs.Try.underlying35 rfl i35 rfl (fun w hC => rd_box hC 9 rfl) rfl (i35s).symm i35p) rfl ?_
                      refine JL.gval rfl rfl (yl_binop_of rfl rfl (fun w => eqs35_g _ _ _ _ _ w) (fun w => eqs35_neq x48.1.X x48.1.Y x51.1.X x51.1.Y w)) rfl ?_
                      refine JL.val (yl_pick_false rfl rfl) rfl ?_
                      exact JL.weak [0, 1, 2, 3, 4, 5, 6, 7, 8, 10] K ⟨rfl, rfl, rfl, rfl, rfl, rfl, rfl, rfl, rfl, rfl, rfl, rfl, rfl, rfl, rfl, rfl, rfl, rfl, (by rw [hb]; rfl), trivial⟩ (by decide) rfl
                · intro K
                  rcases Bool.eq_false_or_eq_true (cb66) with hb | hb
                  · refine JL.set (d := 163) (v := .bool true) (congrArg (fun b => some (Value.bool b)) hb) ?_
                    refine JL.gskip rfl rfl rfl rfl ?_
                    refine JL.gskip rfl rfl rfl rfl ?_
                    refine JL.gskip rfl rfl rfl rfl ?_
                    refine JL.val (yl_pick_true rfl rfl) rfl ?_
                    exact JL.weak [0, 1, 2, 3, 4, 5, 6, 7, 8, 9, 10] K ⟨rfl, rfl, rfl, rfl, rfl, rfl, rfl, rfl, rfl, rfl, rfl, rfl, rfl, rfl, rfl, rfl, rfl, rfl, rfl, (by rw [hb]; rfl), trivial⟩ (by decide) rfl
                  · refine JL.set (d := 163) (v := .bool false) (congrArg (fun b => some (Value.bool b)) hb) ?_
                    refine JL.gval rfl rfl (yl_move rfl) rfl ?_
                    refine JL.gval rfl rfl (yl_move rfl) rfl ?_
                    refine JL.gval rfl rfl (yl_neq rfl rfl) rfl ?_
                    refine JL.val (yl_pick_false rfl rfl) rfl ?_
                    exact JL.weak [0, 1, 2, 3, 4, 5, 6, 7, 8, 9, 10] K ⟨rfl, rfl, rfl, rfl, rfl, rfl, rfl, rfl, rfl, rfl, rfl, rfl, rfl, rfl, rfl, rfl, rfl, rfl, rfl, (by rw [hb]; rfl), trivial⟩ (by decide) rfl
              · intro K
                rcases cond_some hcb66 with ⟨hb, hres⟩ | ⟨hb, hres⟩
                · refine JL.set (d := 157) (v := .bool true) (congrArg (fun b => some (Value.bool b)) hb) ?_
                  refine JL.gskip rfl rfl rfl rfl ?_
                  refine JL.gskip rfl rfl rfl rfl ?_
                  refine JL.gskip rfl rfl rfl rfl ?_
                  refine JL.gskip rfl rfl rfl rfl ?_
                  refine JL.val (yl_pick_true rfl rfl) rfl ?_
                  have he := Option.some.inj hres
                  exact JL.weak [0, 1, 2, 3, 4, 5, 7, 8, 9, 10, 11] K ⟨rfl, rfl, rfl, rfl, rfl, rfl, rfl, rfl, rfl, rfl, rfl, rfl, rfl, rfl, rfl, rfl, rfl, rfl, rfl, rfl, (by rw [← he]; rfl), trivial⟩ (by decide) rfl
                · refine JL.set (d := 157) (v := .bool false) (congrArg (fun b => some (Value.bool b)) hb) ?_
                  refine JL.gval rfl rfl (yl_move rfl) rfl ?_
                  refine JL.gval rfl rfl (yl_move rfl) rfl ?_
                  obtain ⟨x67, hx67, hres⟩ := bind_some hres
                  refine JL.geff rfl rfl (ef_call (T := T77 x67) Go.Proofs.Try.func77 rfl (by kernel_rfl) rfl (fun w hC => c77 (rd_row hC 5 rfl) rfl (ln_row hC 5 rfl) (rd_row hC 6 rfl) rfl (ln_row hC 6 rfl) hx67)) rfl ?_
                  rintro _ _ ⟨_, ⟨rfl, rfl⟩, rfl⟩
                  refine JL.gval rfl rfl (yl_not rfl) rfl ?_
                  refine JL.val (yl_pick_false rfl rfl) rfl ?_
                  have he := Option.some.inj hres
                  exact JL.weak [0, 1, 2, 3, 4, 5, 7, 8, 9, 10, 11] K ⟨rfl, rfl, rfl, rfl, rfl, rfl, rfl, rfl, rfl, rfl, rfl, rfl, rfl, rfl, rfl, rfl, rfl, rfl, rfl, rfl, (by rw [← he]; rfl), trivial⟩ (by decide) rfl
            · intro K
              rcases Bool.eq_false_or_eq_true (cb64) with hb | hb
              · refine JL.set (d := 152) (v := .bool true) (congrArg (fun b => some (Value.bool b)) hb) ?_
                refine JL.gskip rfl rfl rfl rfl ?_
                refine JL.gskip rfl rfl rfl rfl ?_
                refine JL.gskip rfl rfl rfl rfl ?_
                refine JL.val (yl_pick_true rfl rfl) rfl ?_
                exact JL.weak [0, 1, 2, 3, 4, 5, 6, 7, 8, 9, 10, 11] K ⟨rfl, rfl, rfl, rfl, rfl, rfl, rfl, rfl, rfl, rfl, rfl, rfl, rfl, rfl, rfl, rfl, rfl, rfl, rfl, rfl, rfl, (by rw [hb]; rfl), trivial⟩ (by decide) rfl
              · refine JL.set (d := 152) (v := .bool false) (congrArg (fun b => some (Value.bool b)) hb) ?_
                refine JL.gval rfl rfl (yl_move rfl) rfl ?_
                refine JL.gval rfl rfl (yl_move rfl) rfl ?_
                refine JL.gval rfl rfl (yl_neq rfl rfl) rfl ?_
                refine JL.val (yl_pick_false rfl rfl) rfl ?_
                exact JL.weak [0, 1, 2, 3, 4, 5, 6, 7, 8, 9, 10, 11] K ⟨rfl, rfl, rfl, rfl, rfl, rfl, rfl, rfl, rfl, rfl, rfl, rfl, rfl, rfl, rfl, rfl, rfl, rfl, rfl, rfl, rfl, (by rw [hb]; rfl), trivial⟩ (by decide) rfl
          · intro K
            rcases cond_some hcb64 with ⟨hb, hres⟩ | ⟨hb, hres⟩
            · refine JL.set (d := 146) (v := .bool true) (congrArg (fun b => some (Value.bool b)) hb) ?_
              refine JL.gskip rfl rfl rfl rfl ?_
              refine JL.gskip rfl rfl rfl rfl ?_
              refine JL.gskip rfl rfl rfl rfl ?_
              refine JL.gskip rfl rfl rfl rfl ?_
              refine JL.val (yl_pick_true rfl rfl) rfl ?_
              have he := Option.some.inj hres
              exact JL.weak [0, 1, 2, 3, 5, 6, 7, 8, 9, 10, 11, 12] K ⟨rfl, rfl, rfl, rfl, rfl, rfl, rfl, rfl, rfl, rfl, rfl, rfl, rfl, rfl, rfl, rfl, rfl, rfl, rfl, rfl, rfl, rfl, (by rw [← he]; rfl), trivial⟩ (by decide) rfl
            · refine JL.set (d := 146) (v := .bool false) (congrArg (fun b => some (Value.bool b)) hb) ?_
              refine JL.gval rfl rfl (yl_move rfl) rfl ?_
              refine JL.gval rfl rfl (yl_move rfl) rfl ?_
              obtain ⟨x65, hx65, hres⟩ := bind_some hres
              refine JL.geff rfl rfl (ef_call (T := T77 x65) Go.Proofs.Try.func77 rfl (by kernel_rfl) rfl (fun w hC => c77 (rd_row hC 3 rfl) rfl (ln_row hC 3 rfl) (rd_row hC 4 rfl) rfl (ln_row hC 4 rfl) hx65)) rfl ?_
              rintro _ _ ⟨_, ⟨rfl, rfl⟩, rfl⟩
              refine JL.gval rfl rfl (yl_not rfl) rfl ?_
              refine JL.val (yl_pick_false rfl rfl) rfl ?_
              have he := Option.some.inj hres
              exact JL.weak [0, 1, 2, 3, 5, 6, 7, 8, 9, 10, 11, 12] K ⟨rfl, rfl, rfl, rfl, rfl, rfl, rfl, rfl, rfl, rfl, rfl, rfl, rfl, rfl, rfl, rfl, rfl, rfl, rfl, rfl, rfl, rfl, (by rw [← he]; rfl), trivial⟩ (by decide) rfl
        · intro K
          rcases Bool.eq_false_or_eq_true (((x6.2.2 != x11.2.2) || (!(((x6.1.X == x11.1.X) && ((x6.1.Y == x11.1.Y) && true))))) || (!(((x6.2.1.X == x11.2.1.X) && ((x6.2.1.Y == x11.2.1.Y) && true))))) with hb | hb
          · refine JL.set (d := 141) (v := .bool true) (congrArg (fun b => some (Value.bool b)) hb) ?_
            refine JL.gskip rfl rfl rfl rfl ?_
            refine JL.gskip rfl rfl rfl rfl ?_
            refine JL.gskip rfl rfl rfl rfl ?_
            refine JL.val (yl_pick_true rfl rfl) rfl ?_
            exact JL.weak [0, 1, 2, 3, 4, 5, 6, 7, 8, 9, 10, 11, 12] K ⟨rfl, rfl, rfl, rfl, rfl, rfl, rfl, rfl, rfl, rfl, rfl, rfl, rfl, rfl, rfl, rfl, rfl, rfl, rfl, rfl, rfl, rfl, rfl, (by rw [hb]; rfl), trivial⟩ (by decide) rfl
          · refine JL.set (d := 141) (v := .bool false) (congrArg (fun b => some (Value.bool b)) hb) ?_
            refine JL.gval rfl rfl (yl_move rfl) rfl ?_
            refine JL.gval rfl rfl (yl_move rfl) rfl ?_
            refine JL.gval rfl rfl (yl_neq rfl rfl) rfl ?_
            refine JL.val (yl_pick_false rfl rfl) rfl ?_
            exact JL.weak [0, 1, 2, 3, 4, 5, 6, 7, 8, 9, 10, 11, 12] K ⟨rfl, rfl, rfl, rfl, rfl, rfl, rfl, rfl, rfl, rfl, rfl, rfl, rfl, rfl, rfl, rfl, rfl, rfl, rfl, rfl, rfl, rfl, rfl, (by rw [hb]; rfl), trivial⟩ (by decide) rfl
      · intro K
        rcases Bool.eq_false_or_eq_true ((x6.2.2 != x11.2.2) || (!(((x6.1.X == x11.1.X) && ((x6.1.Y == x11.1.Y) && true))))) with hb | hb
        · refine JL.set (d := 136) (v := .bool true) (congrArg (fun b => some (Value.bool b)) hb) ?_
          refine JL.gskip rfl rfl rfl rfl ?_
          refine JL.gskip rfl rfl rfl rfl ?_
          refine JL.gskip rfl rfl rfl rfl ?_
          refine JL.val (yl_pick_true rfl rfl) rfl ?_
          exact JL.weak [0, 1, 2, 4, 5, 6, 7, 8, 9, 10, 11, 12, 13] K ⟨rfl, rfl, rfl, rfl, rfl, rfl, rfl, rfl, rfl, rfl, rfl, rfl, rfl, rfl, rfl, rfl, rfl, rfl, rfl, rfl, rfl, rfl, rfl, rfl, (by rw [hb]; rfl), trivial⟩ (by decide) rfl
        · refine JL.set (d := 136) (v := .bool false) (congrArg (fun b => some (Value.bool b)) hb) ?_
          refine JL.gval rfl rfl (yl_loadn Go.Proofs.Try.underlying35 rfl i35 rfl (fun w hC => rd_box hC 2 rfl) rfl (i35s).symm i35p) rfl ?_
          refine JL.gval rfl rfl (yl_loadn Go.Proofs.Try.underlying35 rfl i35 rfl (fun w hC => rd_box hC 3 rfl) rfl (i35s).symm i35p) rfl ?_
          refine JL.gval rfl rfl (yl_binop_of rfl rfl (fun w => eqs35_g _ _ _ _ _ w) (fun w => eqs35_neq x6.2.1.X x6.2.1.Y x11.2.1.X x11.2.1.Y w)) rfl ?_
          refine JL.val (yl_pick_false rfl rfl) rfl ?_
          exact JL.weak [0, 1, 2, 4, 5, 6, 7, 8, 9, 10, 11, 12, 13] K ⟨rfl, rfl, rfl, rfl, rfl, rfl, rfl, rfl, rfl, rfl, rfl, rfl, rfl, rfl, rfl, rfl, rfl, rfl, rfl, rfl, rfl, rfl, rfl, rfl, (by rw [hb]; rfl), trivial⟩ (by decide) rfl
    · intro K
      rcases Bool.eq_false_or_eq_true (x6.2.2 != x11.2.2) with hb | hb
      · refine JL.set (d := 131) (v := .bool true) (congrArg (fun b => some (Value.bool b)) hb) ?_
        refine JL.gskip rfl rfl rfl rfl ?_
        refine JL.gskip rfl rfl rfl rfl ?_
        refine JL.gskip rfl rfl rfl rfl ?_
        refine JL.val (yl_pick_true rfl rfl) rfl ?_
        exact JL.weak [0, 1, 2, 4, 5, 6, 7, 8, 9, 10, 11, 12, 13, 14] K ⟨rfl, rfl, rfl, rfl, rfl, rfl, rfl, rfl, rfl, rfl, rfl, rfl, rfl, rfl, rfl, rfl, rfl, rfl, rfl, rfl, rfl, rfl, rfl, rfl, rfl, (by rw [hb]; rfl), trivial⟩ (by decide) rfl
      · refine JL.set (d := 131) (v := .bool false) (congrArg (fun b => some (Value.bool b)) hb) ?_
        refine JL.gval rfl rfl (yl_loadn Go.Proofs.Try.underlying35 rfl i35 rfl (fun w hC => rd_box hC 1 rfl) rfl (i35s).symm i35p) rfl ?_
        refine JL.gval rfl rfl (yl_loadn Go.Proofs.Try.underlying35 rfl i35 rfl (fun w hC => rd_box hC 3 rfl) rfl (i35s).symm i35p) rfl ?_
        refine JL.gval rfl rfl (yl_binop_of rfl rfl (fun w => eqs35_g _ _ _ _ _ w) (fun w => eqs35_neq x6.1.X x6.1.Y x11.1.X x11.1.Y w)) rfl ?_
        refine JL.val (yl_pick_false rfl rfl) rfl ?_
        exact JL.weak [0, 1, 2, 4, 5, 6, 7, 8, 9, 10, 11, 12, 13, 14] K ⟨rfl, rfl, rfl, rfl, rfl, rfl, rfl, rfl, rfl, rfl, rfl, rfl, rfl, rfl, rfl, rfl, rfl, rfl, rfl, rfl, rfl, rfl, rfl, rfl, rfl, (by rw [hb]; rfl), trivial⟩ (by decide) rfl

end Go.Sh
