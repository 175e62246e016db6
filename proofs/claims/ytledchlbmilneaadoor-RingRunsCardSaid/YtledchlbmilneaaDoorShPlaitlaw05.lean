/-
What each function does, as one formula, printed by a program of this session out of the translation; the kernel holds each print against the translation.
Conditions: none.
-/
import Derived.Test.YtledchlbmilneaaDoorSn
namespace Go.Proofs.YtledchlbmilneaaDoor
open Go
set_option linter.unusedVariables false
set_option maxRecDepth 100000
/-- 'plait/plaitlaw05.RingAparts' -/
def sh_plaitlaw05_RingAparts (nn_0 : Int) (sl_1b : Option Addr) (sl_1l : Nat) (sl_1c : Nat) (nx_2 : Int) (w : World) (R : Value → World → Prop) : Prop :=
  (20 : Int) ≠ 0 ∧ Calls Pg fn_plaitlaw05_turned #[(Value.int .i64 (IntKind.wrap .i64 ((1 : Int) + (IntKind.wrap .i64 (Int.tmod (IntKind.wrap .u64 nn_0) (20 : Int)))))), (Value.slice sl_1b sl_1l sl_1c)] w fun e5 w4 => ∃ p24_3 : Option Addr, e5 = .returned (Value.pointer p24_3) ∧
  bif (Option.isNone p24_3) then (
  R (Value.bool false) w4) else (
  (IntKind.wrap .u64 (IntKind.wrap .i64 ((1 : Int) + (IntKind.wrap .i64 (Int.tmod (IntKind.wrap .u64 nn_0) (20 : Int)))))) ≠ 0 ∧ Calls Pg fn_ring_Rings_Walk #[(Value.pointer p24_3), (Value.int .i64 (IntKind.wrap .i64 (Int.tmod (IntKind.wrap .u64 nx_2) (IntKind.wrap .u64 (IntKind.wrap .i64 ((1 : Int) + (IntKind.wrap .i64 (Int.tmod (IntKind.wrap .u64 nn_0) (20 : Int)))))))))] w4 fun e9 w8 => ∃ s36_6b : Option Addr, ∃ s36_6l : Nat, ∃ s36_6c : Nat, ∃ v36_7 : Value, e9 = .returned (Value.tuple #[(Value.slice s36_6b s36_6l s36_6c), v36_7]) ∧
  ∃ J10 : List Value → World → Prop, (
  isI v36_7 ∧ bif (!(nilI v36_7)) then (
  R (Value.bool false) w8) else (
  bif ((s36_6l : Int) == (0 : Int)) then (
  R (Value.bool false) w8) else (
  J10 [] w8))) ∧ ∀ _ : Env, ∀ w11 : World, J10 [] w11 →
  Calls Pg fn_ring_Rings_Apart #[(Value.pointer p24_3), (Value.int .i64 (IntKind.wrap .i64 (Int.tmod (IntKind.wrap .u64 nx_2) (IntKind.wrap .u64 (IntKind.wrap .i64 ((1 : Int) + (IntKind.wrap .i64 (Int.tmod (IntKind.wrap .u64 nn_0) (20 : Int)))))))))] w11 fun e14 w13 => ∃ v48_12 : Value, e14 = .returned v48_12 ∧
  Calls Pg fn_ring_Rings_Walk #[(Value.pointer p24_3), (Value.int .i64 (IntKind.wrap .i64 (Int.tmod (IntKind.wrap .u64 nx_2) (IntKind.wrap .u64 (IntKind.wrap .i64 ((1 : Int) + (IntKind.wrap .i64 (Int.tmod (IntKind.wrap .u64 nn_0) (20 : Int)))))))))] w13 fun e18 w17 => ∃ s52_15b : Option Addr, ∃ s52_15l : Nat, ∃ s52_15c : Nat, ∃ v52_16 : Value, e18 = .returned (Value.tuple #[(Value.slice s52_15b s52_15l s52_15c), v52_16]) ∧
  ∃ J19 : List Value → World → Prop, (
  isI v52_16 ∧ bif (!(nilI v52_16)) then (
  R (Value.bool false) w17) else (
  alo #[(Value.int .i64 (IntKind.wrap .i64 (Int.tmod (IntKind.wrap .u64 nx_2) (IntKind.wrap .u64 (IntKind.wrap .i64 ((1 : Int) + (IntKind.wrap .i64 (Int.tmod (IntKind.wrap .u64 nn_0) (20 : Int)))))))))] T_int w17 fun a20 w21 =>
  Calls Pg fn_plaitlaw05_ints #[(Value.slice s52_15b s52_15l s52_15c), (Value.slice (some a20) 1 1)] w21 fun e24 w23 => ∃ b61_22 : Bool, e24 = .returned (Value.bool b61_22) ∧
  bif (!b61_22) then (
  R (Value.bool false) w23) else (
  J19 [] w23))) ∧ ∀ _ : Env, ∀ w25 : World, J19 [] w25 →
  bif ((s36_6l : Int) == (1 : Int)) then (
  ∃ J26 : List Value → World → Prop, (
  Calls Pg fn_plaitlaw05_num #[v48_12] w25 fun e29 w28 => ∃ n68_27 : Int, e29 = .returned (Value.int .i64 n68_27) ∧
  bif (n68_27 == (20 : Int)) then (
  Calls Pg fn_plaitlaw05_sure #[] w28 fun e32 w31 => ∃ b71_30 : Bool, e32 = .returned (Value.bool b71_30) ∧
  J26 [(Value.bool b71_30)] w31) else (
  J26 [(Value.bool false)] w28)) ∧ ∀ _ : Env, ∀ b33 : Bool, ∀ w34 : World, J26 [(Value.bool b33)] w34 →
  R (Value.bool b33) w34) else (
  ixS s36_6b s36_6l (1 : Int) 1 fun a76_35 =>
  ldI .i64 a76_35 w25 fun n77_36 =>
  Calls Pg fn_ring_Rings_Walk #[(Value.pointer p24_3), (Value.int .i64 n77_36)] w25 fun e40 w39 => ∃ s78_37b : Option Addr, ∃ s78_37l : Nat, ∃ s78_37c : Nat, ∃ v78_38 : Value, e40 = .returned (Value.tuple #[(Value.slice s78_37b s78_37l s78_37c), v78_38]) ∧
  isI v48_12 ∧ bif (nilI v48_12) then (
  isI v78_38 ∧ bif (nilI v78_38) then (
  0 ≤ (1 : Int) ∧ (1 : Int) ≤ ((s36_6l : Nat) : Int) ∧ Calls Pg fn_plaitlaw05_ints #[(Value.slice s78_37b s78_37l s78_37c), (Value.slice (if s36_6c = (Int.toNat (1 : Int)) then s36_6b else Option.map (fun a => Addr.add a ((Int.toNat (1 : Int)) * 1)) s36_6b) (s36_6l - (Int.toNat (1 : Int))) (s36_6c - (Int.toNat (1 : Int))))] w39 fun e43 w42 => ∃ b91_41 : Bool, e43 = .returned (Value.bool b91_41) ∧
  bif b91_41 then (
  Calls Pg fn_plaitlaw05_sure #[] w42 fun e46 w45 => ∃ b94_44 : Bool, e46 = .returned (Value.bool b94_44) ∧
  R (Value.bool b94_44) w45) else (
  R (Value.bool false) w42)) else (
  R (Value.bool false) w39)) else (
  R (Value.bool false) w39)))
theorem eq_plaitlaw05_RingAparts (nn_0 : Int) (sl_1b : Option Addr) (sl_1l : Nat) (sl_1c : Nat) (nx_2 : Int) (w : World) (R : Value → World → Prop) : sh_plaitlaw05_RingAparts nn_0 sl_1b sl_1l sl_1c nx_2 w R = denF Pg Eall Tryd.f4 (.seq (.leaf) (.seq (.leaf) (.seq (.leaf) (.seq (.seq (.leaf) (.cond (.seq (.leaf) (.leaf)) (.leaf))) (.seq (.leaf) (.seq (.leaf) (.join [] [] (.seq (.leaf) (.cond (.seq (.leaf) (.leaf)) (.leaf))) (.seq (.leaf) (.seq (.leaf) (.join [] [] (.seq (.leaf) (.cond (.seq (.leaf) (.leaf)) (.leaf))) (.seq (.seq (.leaf) (.cond (.join [6] [.one (.bool)] (.leaf) (.leaf)) (.leaf))) (.seq (.leaf) (.seq (.leaf) (.leaf)))))))))))))) [(Value.int .i64 nn_0), (Value.slice sl_1b sl_1l sl_1c), (Value.int .i64 nx_2)] w R := by kernel_rfl
theorem calls_plaitlaw05_RingAparts (nn_0 : Int) (sl_1b : Option Addr) (sl_1l : Nat) (sl_1c : Nat) (nx_2 : Int) (w : World) (R : Value → World → Prop) (h : sh_plaitlaw05_RingAparts nn_0 sl_1b sl_1l sl_1c nx_2 w R) : Calls Pg fn_plaitlaw05_RingAparts #[(Value.int .i64 nn_0), (Value.slice sl_1b sl_1l sl_1c), (Value.int .i64 nx_2)] w fun e w' => ∃ v, e = .returned v ∧ R v w' :=
  calls_of_den Eall_enter wide_mixed Tryd.func4 (by rw [← eq_plaitlaw05_RingAparts]; exact h)

/-- 'plait/plaitlaw05.RingMerges' -/
def sh_plaitlaw05_RingMerges (nn_0 : Int) (sl_1b : Option Addr) (sl_1l : Nat) (sl_1c : Nat) (nof_2 : Int) (nof_3 : Int) (w : World) (R : Value → World → Prop) : Prop :=
  alo #[(Value.int .i64 nof_2), (Value.int .i64 nof_3)] T__2int w fun a4 w5 =>
  (20 : Int) ≠ 0 ∧ Calls Pg fn_plaitlaw05_turned #[(Value.int .i64 (IntKind.wrap .i64 ((2 : Int) + (IntKind.wrap .i64 (Int.tmod (IntKind.wrap .u64 nn_0) (20 : Int)))))), (Value.slice sl_1b sl_1l sl_1c)] w5 fun e8 w7 => ∃ p29_6 : Option Addr, e8 = .returned (Value.pointer p29_6) ∧
  bif (Option.isNone p29_6) then (
  R (Value.bool false) w7) else (
  ixA a4 2 (0 : Int) 1 fun a32_9 =>
  ldI .i64 a32_9 (World.drew w7) fun n33_10 =>
  (IntKind.wrap .u64 (IntKind.wrap .i64 ((2 : Int) + (IntKind.wrap .i64 (Int.tmod (IntKind.wrap .u64 nn_0) (20 : Int)))))) ≠ 0 ∧ ixA a4 2 (1 : Int) 1 fun a39_11 =>
  ldI .i64 a39_11 (World.drew w7) fun n40_12 =>
  (IntKind.wrap .u64 (IntKind.wrap .i64 ((2 : Int) + (IntKind.wrap .i64 (Int.tmod (IntKind.wrap .u64 nn_0) (20 : Int)))))) ≠ 0 ∧ Calls Pg fn_ring_Rings_Walk #[(Value.pointer p29_6), (Value.int .i64 (IntKind.wrap .i64 (Int.tmod (IntKind.wrap .u64 n33_10) (IntKind.wrap .u64 (IntKind.wrap .i64 ((2 : Int) + (IntKind.wrap .i64 (Int.tmod (IntKind.wrap .u64 nn_0) (20 : Int)))))))))] (World.drew w7) fun e16 w15 => ∃ s49_13b : Option Addr, ∃ s49_13l : Nat, ∃ s49_13c : Nat, ∃ v49_14 : Value, e16 = .returned (Value.tuple #[(Value.slice s49_13b s49_13l s49_13c), v49_14]) ∧
  Calls Pg fn_ring_Rings_Walk #[(Value.pointer p29_6), (Value.int .i64 (IntKind.wrap .i64 (Int.tmod (IntKind.wrap .u64 n40_12) (IntKind.wrap .u64 (IntKind.wrap .i64 ((2 : Int) + (IntKind.wrap .i64 (Int.tmod (IntKind.wrap .u64 nn_0) (20 : Int)))))))))] w15 fun e20 w19 => ∃ s55_17b : Option Addr, ∃ s55_17l : Nat, ∃ s55_17c : Nat, ∃ v55_18 : Value, e20 = .returned (Value.tuple #[(Value.slice s55_17b s55_17l s55_17c), v55_18]) ∧
  Calls Pg fn_ring_Rings_Same #[(Value.pointer p29_6), (Value.int .i64 (IntKind.wrap .i64 (Int.tmod (IntKind.wrap .u64 n33_10) (IntKind.wrap .u64 (IntKind.wrap .i64 ((2 : Int) + (IntKind.wrap .i64 (Int.tmod (IntKind.wrap .u64 nn_0) (20 : Int))))))))), (Value.int .i64 (IntKind.wrap .i64 (Int.tmod (IntKind.wrap .u64 n40_12) (IntKind.wrap .u64 (IntKind.wrap .i64 ((2 : Int) + (IntKind.wrap .i64 (Int.tmod (IntKind.wrap .u64 nn_0) (20 : Int)))))))))] w19 fun e24 w23 => ∃ b62_21 : Bool, ∃ v62_22 : Value, e24 = .returned (Value.tuple #[(Value.bool b62_21), v62_22]) ∧
  ∃ J25 : List Value → World → Prop, (
  isI v49_14 ∧ bif (!(nilI v49_14)) then (
  R (Value.bool false) w23) else (
  isI v55_18 ∧ bif (!(nilI v55_18)) then (
  R (Value.bool false) w23) else (
  isI v62_22 ∧ bif (!(nilI v62_22)) then (
  R (Value.bool false) w23) else (
  J25 [] w23)))) ∧ ∀ _ : Env, ∀ w26 : World, J25 [] w26 →
  bif b62_21 then (
  ∃ J27 : List Value → World → Prop, (
  Calls Pg fn_ring_Rings_Merge #[(Value.pointer p29_6), (Value.int .i64 (IntKind.wrap .i64 (Int.tmod (IntKind.wrap .u64 n33_10) (IntKind.wrap .u64 (IntKind.wrap .i64 ((2 : Int) + (IntKind.wrap .i64 (Int.tmod (IntKind.wrap .u64 nn_0) (20 : Int))))))))), (Value.int .i64 (IntKind.wrap .i64 (Int.tmod (IntKind.wrap .u64 n40_12) (IntKind.wrap .u64 (IntKind.wrap .i64 ((2 : Int) + (IntKind.wrap .i64 (Int.tmod (IntKind.wrap .u64 nn_0) (20 : Int)))))))))] w26 fun e30 w29 => ∃ v79_28 : Value, e30 = .returned v79_28 ∧
  Calls Pg fn_plaitlaw05_num #[v79_28] w29 fun e33 w32 => ∃ n80_31 : Int, e33 = .returned (Value.int .i64 n80_31) ∧
  bif (n80_31 == (20 : Int)) then (
  bif ((s49_13l : Int) == (s55_17l : Int)) then (
  Calls Pg fn_plaitlaw05_sure #[] w32 fun e36 w35 => ∃ b90_34 : Bool, e36 = .returned (Value.bool b90_34) ∧
  J27 [(Value.bool b90_34)] w35) else (
  J27 [(Value.bool false)] w32)) else (
  J27 [(Value.bool false)] w32)) ∧ ∀ _ : Env, ∀ b37 : Bool, ∀ w38 : World, J27 [(Value.bool b37)] w38 →
  R (Value.bool b37) w38) else (
  Calls Pg fn_ring_Rings_Merge #[(Value.pointer p29_6), (Value.int .i64 (IntKind.wrap .i64 (Int.tmod (IntKind.wrap .u64 n33_10) (IntKind.wrap .u64 (IntKind.wrap .i64 ((2 : Int) + (IntKind.wrap .i64 (Int.tmod (IntKind.wrap .u64 nn_0) (20 : Int))))))))), (Value.int .i64 (IntKind.wrap .i64 (Int.tmod (IntKind.wrap .u64 n40_12) (IntKind.wrap .u64 (IntKind.wrap .i64 ((2 : Int) + (IntKind.wrap .i64 (Int.tmod (IntKind.wrap .u64 nn_0) (20 : Int)))))))))] w26 fun e41 w40 => ∃ v95_39 : Value, e41 = .returned v95_39 ∧
  isI v95_39 ∧ bif (!(nilI v95_39)) then (
  R (Value.bool false) w40) else (
  Calls Pg fn_ring_Rings_Walk #[(Value.pointer p29_6), (Value.int .i64 (IntKind.wrap .i64 (Int.tmod (IntKind.wrap .u64 n33_10) (IntKind.wrap .u64 (IntKind.wrap .i64 ((2 : Int) + (IntKind.wrap .i64 (Int.tmod (IntKind.wrap .u64 nn_0) (20 : Int)))))))))] w40 fun e45 w44 => ∃ s100_42b : Option Addr, ∃ s100_42l : Nat, ∃ s100_42c : Nat, ∃ v100_43 : Value, e45 = .returned (Value.tuple #[(Value.slice s100_42b s100_42l s100_42c), v100_43]) ∧
  Calls Pg fn_ring_Rings_Front #[(Value.pointer p29_6), (Value.int .i64 (IntKind.wrap .i64 (Int.tmod (IntKind.wrap .u64 n40_12) (IntKind.wrap .u64 (IntKind.wrap .i64 ((2 : Int) + (IntKind.wrap .i64 (Int.tmod (IntKind.wrap .u64 nn_0) (20 : Int)))))))))] w44 fun e49 w48 => ∃ n106_46 : Int, ∃ v106_47 : Value, e49 = .returned (Value.tuple #[(Value.int .i64 n106_46), v106_47]) ∧
  ∃ s111_50b : Option Addr, ∃ s111_50l : Nat, ∃ s111_50c : Nat, ∃ w51 : World, (Builtin.append_ #[T_sl_int, T_sl_int] T_sl_int #[(Value.slice none 0 0), (Value.slice s49_13b s49_13l s49_13c)]).run Pg w48 = .ok (Value.slice s111_50b s111_50l s111_50c) w51 ∧
  ∃ s113_52b : Option Addr, ∃ s113_52l : Nat, ∃ s113_52c : Nat, ∃ w53 : World, (Builtin.append_ #[T_sl_int, T_sl_int] T_sl_int #[(Value.slice s111_50b s111_50l s111_50c), (Value.slice s55_17b s55_17l s55_17c)]).run Pg w51 = .ok (Value.slice s113_52b s113_52l s113_52c) w53 ∧
  isI v100_43 ∧ bif (nilI v100_43) then (
  isI v106_47 ∧ bif (nilI v106_47) then (
  Calls Pg fn_plaitlaw05_ints #[(Value.slice s100_42b s100_42l s100_42c), (Value.slice s113_52b s113_52l s113_52c)] w53 fun e56 w55 => ∃ b123_54 : Bool, e56 = .returned (Value.bool b123_54) ∧
  bif b123_54 then (
  bif (n106_46 == (IntKind.wrap .i64 (Int.tmod (IntKind.wrap .u64 n33_10) (IntKind.wrap .u64 (IntKind.wrap .i64 ((2 : Int) + (IntKind.wrap .i64 (Int.tmod (IntKind.wrap .u64 nn_0) (20 : Int))))))))) then (
  Calls Pg fn_plaitlaw05_sure #[] w55 fun e59 w58 => ∃ b131_57 : Bool, e59 = .returned (Value.bool b131_57) ∧
  R (Value.bool b131_57) w58) else (
  R (Value.bool false) w55)) else (
  R (Value.bool false) w55)) else (
  R (Value.bool false) w53)) else (
  R (Value.bool false) w53))))
theorem eq_plaitlaw05_RingMerges (nn_0 : Int) (sl_1b : Option Addr) (sl_1l : Nat) (sl_1c : Nat) (nof_2 : Int) (nof_3 : Int) (w : World) (R : Value → World → Prop) : sh_plaitlaw05_RingMerges nn_0 sl_1b sl_1l sl_1c nof_2 nof_3 w R = denF Pg Eall Tryd.f5 (.seq (.leaf) (.seq (.leaf) (.seq (.leaf) (.seq (.seq (.leaf) (.cond (.seq (.leaf) (.leaf)) (.leaf))) (.seq (.reg (.tk 0 [] [] (.tk 1 [] [] (.tk 2 [] [] (.tk 3 [] [] (.tk 4 [] [] (.tk 5 [] [] (.tk 6 [] [] (.tk 7 [] [] (.tk 8 [] [] (.tk 9 [] [] (.tk 10 [] [] (.tk 11 [] [] (.tk 12 [] [] (.tk 13 [] [] (.tk 14 [] [] (.tk 15 [] [] (.fin)))))))))))))))))) (.seq (.leaf) (.seq (.leaf) (.seq (.leaf) (.join [] [] (.seq (.leaf) (.cond (.seq (.leaf) (.leaf)) (.leaf))) (.seq (.seq (.leaf) (.cond (.join [6] [.one (.bool)] (.leaf) (.leaf)) (.leaf))) (.seq (.seq (.leaf) (.cond (.seq (.leaf) (.leaf)) (.leaf))) (.seq (.leaf) (.seq (.leaf) (.seq (.leaf) (.seq (.leaf) (.seq (.leaf) (.leaf))))))))))))))))) [(Value.int .i64 nn_0), (Value.slice sl_1b sl_1l sl_1c), (Value.agg #[(Value.int .i64 nof_2), (Value.int .i64 nof_3)])] w R := by kernel_rfl
theorem calls_plaitlaw05_RingMerges (nn_0 : Int) (sl_1b : Option Addr) (sl_1l : Nat) (sl_1c : Nat) (nof_2 : Int) (nof_3 : Int) (w : World) (R : Value → World → Prop) (h : sh_plaitlaw05_RingMerges nn_0 sl_1b sl_1l sl_1c nof_2 nof_3 w R) : Calls Pg fn_plaitlaw05_RingMerges #[(Value.int .i64 nn_0), (Value.slice sl_1b sl_1l sl_1c), (Value.agg #[(Value.int .i64 nof_2), (Value.int .i64 nof_3)])] w fun e w' => ∃ v, e = .returned v ∧ R v w' :=
  calls_of_den Eall_enter wide_mixed Tryd.func5 (by rw [← eq_plaitlaw05_RingMerges]; exact h)

/-- 'plait/plaitlaw05.RingNew' -/
def sh_plaitlaw05_RingNew (nn_0 : Int) (nx_1 : Int) (w : World) (R : Value → World → Prop) : Prop :=
  Calls Pg fn_ring_Rings_Walk #[(Value.pointer none), (Value.int .i64 (0 : Int))] w fun e5 w4 => ∃ s25_2b : Option Addr, ∃ s25_2l : Nat, ∃ s25_2c : Nat, ∃ v25_3 : Value, e5 = .returned (Value.tuple #[(Value.slice s25_2b s25_2l s25_2c), v25_3]) ∧
  Calls Pg fn_ring_Rings_Next #[(Value.pointer none), (Value.int .i64 (0 : Int))] w4 fun e9 w8 => ∃ n30_6 : Int, ∃ v30_7 : Value, e9 = .returned (Value.tuple #[(Value.int .i64 n30_6), v30_7]) ∧
  Calls Pg fn_ring_Rings_Same #[(Value.pointer none), (Value.int .i64 (0 : Int)), (Value.int .i64 (0 : Int))] w8 fun e13 w12 => ∃ b35_10 : Bool, ∃ v35_11 : Value, e13 = .returned (Value.tuple #[(Value.bool b35_10), v35_11]) ∧
  Calls Pg fn_ring_Rings_Front #[(Value.pointer none), (Value.int .i64 (0 : Int))] w12 fun e17 w16 => ∃ n40_14 : Int, ∃ v40_15 : Value, e17 = .returned (Value.tuple #[(Value.int .i64 n40_14), v40_15]) ∧
  ∃ J18 : List Value → World → Prop, (
  Calls Pg fn_ring_Rings_Split #[(Value.pointer none), (Value.int .i64 (0 : Int)), (Value.int .i64 (1 : Int))] w16 fun e21 w20 => ∃ v44_19 : Value, e21 = .returned v44_19 ∧
  Calls Pg fn_plaitlaw05_num #[v44_19] w20 fun e24 w23 => ∃ n45_22 : Int, e24 = .returned (Value.int .i64 n45_22) ∧
  bif (n45_22 != (1 : Int)) then (
  R (Value.bool false) w23) else (
  Calls Pg fn_ring_Rings_Merge #[(Value.pointer none), (Value.int .i64 (0 : Int)), (Value.int .i64 (1 : Int))] w23 fun e27 w26 => ∃ v49_25 : Value, e27 = .returned v49_25 ∧
  Calls Pg fn_plaitlaw05_num #[v49_25] w26 fun e30 w29 => ∃ n50_28 : Int, e30 = .returned (Value.int .i64 n50_28) ∧
  bif (n50_28 != (1 : Int)) then (
  R (Value.bool false) w29) else (
  Calls Pg fn_ring_Rings_Apart #[(Value.pointer none), (Value.int .i64 (0 : Int))] w29 fun e33 w32 => ∃ v55_31 : Value, e33 = .returned v55_31 ∧
  Calls Pg fn_plaitlaw05_num #[v55_31] w32 fun e36 w35 => ∃ n56_34 : Int, e36 = .returned (Value.int .i64 n56_34) ∧
  bif (n56_34 != (1 : Int)) then (
  R (Value.bool false) w35) else (
  Calls Pg fn_ring_Rings_Turn #[(Value.pointer none), (Value.int .i64 (0 : Int))] w35 fun e39 w38 => ∃ v61_37 : Value, e39 = .returned v61_37 ∧
  Calls Pg fn_plaitlaw05_num #[v61_37] w38 fun e42 w41 => ∃ n62_40 : Int, e42 = .returned (Value.int .i64 n62_40) ∧
  bif (n62_40 != (1 : Int)) then (
  R (Value.bool false) w41) else (
  Calls Pg fn_plaitlaw05_num #[v25_3] w41 fun e45 w44 => ∃ n67_43 : Int, e45 = .returned (Value.int .i64 n67_43) ∧
  bif (n67_43 != (1 : Int)) then (
  R (Value.bool false) w44) else (
  Calls Pg fn_plaitlaw05_num #[v30_7] w44 fun e48 w47 => ∃ n72_46 : Int, e48 = .returned (Value.int .i64 n72_46) ∧
  bif (n72_46 != (1 : Int)) then (
  R (Value.bool false) w47) else (
  Calls Pg fn_plaitlaw05_num #[v35_11] w47 fun e51 w50 => ∃ n77_49 : Int, e51 = .returned (Value.int .i64 n77_49) ∧
  bif (n77_49 != (1 : Int)) then (
  R (Value.bool false) w50) else (
  Calls Pg fn_plaitlaw05_num #[v40_15] w50 fun e54 w53 => ∃ n82_52 : Int, e54 = .returned (Value.int .i64 n82_52) ∧
  bif (n82_52 != (1 : Int)) then (
  R (Value.bool false) w53) else (
  J18 [] w53))))))))) ∧ ∀ _ : Env, ∀ w55 : World, J18 [] w55 →
  ∃ J56 : List Value → World → Prop, (
  bif (decide (nn_0 > (3000 : Int))) then (
  bif (decide (nn_0 ≤ (8388608 : Int))) then (
  J56 [(Value.int .i64 (3000 : Int))] w55) else (
  J56 [(Value.int .i64 nn_0)] w55)) else (
  J56 [(Value.int .i64 nn_0)] w55)) ∧ ∀ _ : Env, ∀ n57 : Int, ∀ w58 : World, J56 [(Value.int .i64 n57)] w58 →
  Calls Pg fn_ring_New #[(Value.int .i64 n57)] w58 fun e62 w61 => ∃ p94_59 : Option Addr, ∃ v94_60 : Value, e62 = .returned (Value.tuple #[(Value.pointer p94_59), v94_60]) ∧
  ∃ J63 : List Value → World → Prop, (
  bif (decide (n57 < (1 : Int))) then (
  Calls Pg fn_plaitlaw05_num #[v94_60] w61 fun e66 w65 => ∃ n104_64 : Int, e66 = .returned (Value.int .i64 n104_64) ∧
  bif (n104_64 == (1 : Int)) then (
  bif (Option.isNone p94_59) then (
  Calls Pg fn_plaitlaw05_sure #[] w65 fun e69 w68 => ∃ b111_67 : Bool, e69 = .returned (Value.bool b111_67) ∧
  R (Value.bool b111_67) w68) else (
  R (Value.bool false) w65)) else (
  R (Value.bool false) w65)) else (
  bif (decide (n57 > (8388608 : Int))) then (
  Calls Pg fn_plaitlaw05_num #[v94_60] w61 fun e72 w71 => ∃ n104_70 : Int, e72 = .returned (Value.int .i64 n104_70) ∧
  bif (n104_70 == (1 : Int)) then (
  bif (Option.isNone p94_59) then (
  Calls Pg fn_plaitlaw05_sure #[] w71 fun e75 w74 => ∃ b111_73 : Bool, e75 = .returned (Value.bool b111_73) ∧
  R (Value.bool b111_73) w74) else (
  R (Value.bool false) w71)) else (
  R (Value.bool false) w71)) else (
  J63 [] w61))) ∧ ∀ _ : Env, ∀ w76 : World, J63 [] w76 →
  ∃ J77 : List Value → World → Prop, (
  isI v94_60 ∧ bif (!(nilI v94_60)) then (
  R (Value.bool false) w76) else (
  bif (Option.isNone p94_59) then (
  R (Value.bool false) w76) else (
  J77 [] w76))) ∧ ∀ _ : Env, ∀ w78 : World, J77 [] w78 →
  Calls Pg fn_ring_Rings_Walk #[(Value.pointer p94_59), (Value.int .i64 nx_1)] w78 fun e82 w81 => ∃ s122_79b : Option Addr, ∃ s122_79l : Nat, ∃ s122_79c : Nat, ∃ v122_80 : Value, e82 = .returned (Value.tuple #[(Value.slice s122_79b s122_79l s122_79c), v122_80]) ∧
  ∃ J83 : List Value → World → Prop, (
  bif (decide (nx_1 < (0 : Int))) then (
  J83 [(Value.bool true)] w81) else (
  J83 [(Value.bool (decide (nx_1 ≥ n57)))] w81)) ∧ ∀ _ : Env, ∀ b84 : Bool, ∀ w85 : World, J83 [(Value.bool b84)] w85 →
  bif b84 then (
  Calls Pg fn_ring_Rings_Len #[(Value.pointer p94_59), (Value.int .i64 nx_1)] w85 fun e89 w88 => ∃ n135_86 : Int, ∃ v135_87 : Value, e89 = .returned (Value.tuple #[(Value.int .i64 n135_86), v135_87]) ∧
  Calls Pg fn_ring_Rings_Prev #[(Value.pointer p94_59), (Value.int .i64 nx_1)] w88 fun e93 w92 => ∃ n141_90 : Int, ∃ v141_91 : Value, e93 = .returned (Value.tuple #[(Value.int .i64 n141_90), v141_91]) ∧
  Calls Pg fn_plaitlaw05_num #[v122_80] w92 fun e96 w95 => ∃ n145_94 : Int, e96 = .returned (Value.int .i64 n145_94) ∧
  bif (n145_94 == (12 : Int)) then (
  Calls Pg fn_plaitlaw05_num #[v135_87] w95 fun e99 w98 => ∃ n149_97 : Int, e99 = .returned (Value.int .i64 n149_97) ∧
  bif (n149_97 == (12 : Int)) then (
  Calls Pg fn_plaitlaw05_num #[v141_91] w98 fun e102 w101 => ∃ n154_100 : Int, e102 = .returned (Value.int .i64 n154_100) ∧
  bif (n154_100 == (12 : Int)) then (
  Calls Pg fn_ring_Rings_Apart #[(Value.pointer p94_59), (Value.int .i64 nx_1)] w101 fun e105 w104 => ∃ v160_103 : Value, e105 = .returned v160_103 ∧
  Calls Pg fn_plaitlaw05_num #[v160_103] w104 fun e108 w107 => ∃ n161_106 : Int, e108 = .returned (Value.int .i64 n161_106) ∧
  bif (n161_106 == (12 : Int)) then (
  Calls Pg fn_ring_Rings_Turn #[(Value.pointer p94_59), (Value.int .i64 nx_1)] w107 fun e111 w110 => ∃ v167_109 : Value, e111 = .returned v167_109 ∧
  Calls Pg fn_plaitlaw05_num #[v167_109] w110 fun e114 w113 => ∃ n168_112 : Int, e114 = .returned (Value.int .i64 n168_112) ∧
  bif (n168_112 == (12 : Int)) then (
  Calls Pg fn_plaitlaw05_sure #[] w113 fun e117 w116 => ∃ b172_115 : Bool, e117 = .returned (Value.bool b172_115) ∧
  R (Value.bool b172_115) w116) else (
  R (Value.bool false) w113)) else (
  R (Value.bool false) w107)) else (
  R (Value.bool false) w101)) else (
  R (Value.bool false) w98)) else (
  R (Value.bool false) w95)) else (
  isI v122_80 ∧ bif (nilI v122_80) then (
  alo #[(Value.int .i64 nx_1)] T_int w85 fun a118 w119 =>
  Calls Pg fn_plaitlaw05_ints #[(Value.slice s122_79b s122_79l s122_79c), (Value.slice (some a118) 1 1)] w119 fun e122 w121 => ∃ b180_120 : Bool, e122 = .returned (Value.bool b180_120) ∧
  bif b180_120 then (
  Calls Pg fn_plaitlaw05_sure #[] w121 fun e125 w124 => ∃ b183_123 : Bool, e125 = .returned (Value.bool b183_123) ∧
  R (Value.bool b183_123) w124) else (
  R (Value.bool false) w121)) else (
  R (Value.bool false) w85))
theorem eq_plaitlaw05_RingNew (nn_0 : Int) (nx_1 : Int) (w : World) (R : Value → World → Prop) : sh_plaitlaw05_RingNew nn_0 nx_1 w R = denF Pg Eall Tryd.f6 (.seq (.leaf) (.seq (.leaf) (.seq (.leaf) (.seq (.leaf) (.seq (.leaf) (.seq (.leaf) (.join [] [] (.seq (.leaf) (.cond (.seq (.leaf) (.leaf)) (.leaf))) (.seq (.leaf) (.join [14] [.one (.int .i64)] (.seq (.leaf) (.cond (.leaf) (.leaf))) (.seq (.leaf) (.join [] [] (.seq (.leaf) (.cond (.seq (.leaf) (.leaf)) (.leaf))) (.join [] [] (.seq (.leaf) (.cond (.seq (.leaf) (.leaf)) (.leaf))) (.seq (.leaf) (.seq (.join [131] [.one (.bool)] (.leaf) (.cond (.seq (.leaf) (.seq (.leaf) (.seq (.leaf) (.leaf)))) (.leaf))) (.seq (.leaf) (.leaf)))))))))))))))) [(Value.int .i64 nn_0), (Value.int .i64 nx_1)] w R := by kernel_rfl
theorem calls_plaitlaw05_RingNew (nn_0 : Int) (nx_1 : Int) (w : World) (R : Value → World → Prop) (h : sh_plaitlaw05_RingNew nn_0 nx_1 w R) : Calls Pg fn_plaitlaw05_RingNew #[(Value.int .i64 nn_0), (Value.int .i64 nx_1)] w fun e w' => ∃ v, e = .returned v ∧ R v w' :=
  calls_of_den Eall_enter wide_mixed Tryd.func6 (by rw [← eq_plaitlaw05_RingNew]; exact h)

/-- 'plait/plaitlaw05.RingRuns' -/
def sh_plaitlaw05_RingRuns (nn_0 : Int) (sl_1b : Option Addr) (sl_1l : Nat) (sl_1c : Nat) (w : World) (R : Value → World → Prop) : Prop :=
  (20 : Int) ≠ 0 ∧ Calls Pg fn_ring_New #[(Value.int .i64 (IntKind.wrap .i64 ((1 : Int) + (IntKind.wrap .i64 (Int.tmod (IntKind.wrap .u64 nn_0) (20 : Int))))))] w fun e5 w4 => ∃ p27_2 : Option Addr, ∃ v27_3 : Value, e5 = .returned (Value.tuple #[(Value.pointer p27_2), v27_3]) ∧
  ∃ J6 : List Value → World → Prop, (
  isI v27_3 ∧ bif (!(nilI v27_3)) then (
  R (Value.bool false) w4) else (
  bif (Option.isNone p27_2) then (
  R (Value.bool false) w4) else (
  J6 [] w4))) ∧ ∀ _ : Env, ∀ w7 : World, J6 [] w7 →
  Calls Pg fn_plaitref04_New #[(Value.int .i64 (IntKind.wrap .i64 ((1 : Int) + (IntKind.wrap .i64 (Int.tmod (IntKind.wrap .u64 nn_0) (20 : Int))))))] w7 fun e10 w9 => ∃ s37_8b : Option Addr, ∃ s37_8l : Nat, ∃ s37_8c : Nat, e10 = .returned (Value.slice s37_8b s37_8l s37_8c) ∧
  ∃ (I11 : List Value → World → Prop) (m12 : List Value → World → Nat), I11 [(Value.slice s37_8b s37_8l s37_8c), (Value.int .i64 (0 : Int))] w9 ∧
  ∀ _ : Env, ∀ s13b : Option Addr, ∀ s13l : Nat, ∀ s13c : Nat, ∀ n14 : Int, ∀ w15 : World, I11 [(Value.slice s13b s13l s13c), (Value.int .i64 n14)] w15 →
  ∃ J16 : List Value → World → Prop, (
  bif (decide (n14 < (sl_1l : Int))) then (
  bif (decide (n14 < (80 : Int))) then (
  J16 [] w15) else (
  Calls Pg fn_plaitlaw05_sure #[] w15 fun e19 w18 => ∃ b180_17 : Bool, e19 = .returned (Value.bool b180_17) ∧
  R (Value.bool b180_17) w18)) else (
  Calls Pg fn_plaitlaw05_sure #[] w15 fun e22 w21 => ∃ b180_20 : Bool, e22 = .returned (Value.bool b180_20) ∧
  R (Value.bool b180_20) w21)) ∧ ∀ _ : Env, ∀ w23 : World, J16 [] w23 →
  ixS sl_1b sl_1l n14 3 fun a50_24 =>
  ldI .i64 (a50_24.add 1) (World.drew w23) fun n52_25 =>
  ixS sl_1b sl_1l n14 3 fun a55_26 =>
  ldI .i64 (a55_26.add 2) (World.drew w23) fun n57_27 =>
  ∃ J28 : List Value → World → Prop, (
  bif (decide (n52_25 < (0 : Int))) then (
  Calls Pg fn_ring_Rings_Merge #[(Value.pointer p27_2), (Value.int .i64 n52_25), (Value.int .i64 n57_27)] (World.drew w23) fun e31 w30 => ∃ v77_29 : Value, e31 = .returned v77_29 ∧
  Calls Pg fn_plaitlaw05_num #[v77_29] w30 fun e34 w33 => ∃ n78_32 : Int, e34 = .returned (Value.int .i64 n78_32) ∧
  bif (n78_32 != (12 : Int)) then (
  R (Value.bool false) w33) else (
  Calls Pg fn_ring_Rings_Split #[(Value.pointer p27_2), (Value.int .i64 n52_25), (Value.int .i64 n57_27)] w33 fun e37 w36 => ∃ v84_35 : Value, e37 = .returned v84_35 ∧
  Calls Pg fn_plaitlaw05_num #[v84_35] w36 fun e40 w39 => ∃ n85_38 : Int, e40 = .returned (Value.int .i64 n85_38) ∧
  bif (n85_38 != (12 : Int)) then (
  R (Value.bool false) w39) else (
  (I11 [(Value.slice s13b s13l s13c), (Value.int .i64 (IntKind.wrap .i64 (n14 + (1 : Int))))] w39 ∧ m12 [(Value.slice s13b s13l s13c), (Value.int .i64 (IntKind.wrap .i64 (n14 + (1 : Int))))] w39 < m12 [(Value.slice s13b s13l s13c), (Value.int .i64 n14)] w15)))) else (
  bif (decide (n52_25 ≥ (IntKind.wrap .i64 ((1 : Int) + (IntKind.wrap .i64 (Int.tmod (IntKind.wrap .u64 nn_0) (20 : Int))))))) then (
  Calls Pg fn_ring_Rings_Merge #[(Value.pointer p27_2), (Value.int .i64 n52_25), (Value.int .i64 n57_27)] (World.drew w23) fun e43 w42 => ∃ v77_41 : Value, e43 = .returned v77_41 ∧
  Calls Pg fn_plaitlaw05_num #[v77_41] w42 fun e46 w45 => ∃ n78_44 : Int, e46 = .returned (Value.int .i64 n78_44) ∧
  bif (n78_44 != (12 : Int)) then (
  R (Value.bool false) w45) else (
  Calls Pg fn_ring_Rings_Split #[(Value.pointer p27_2), (Value.int .i64 n52_25), (Value.int .i64 n57_27)] w45 fun e49 w48 => ∃ v84_47 : Value, e49 = .returned v84_47 ∧
  Calls Pg fn_plaitlaw05_num #[v84_47] w48 fun e52 w51 => ∃ n85_50 : Int, e52 = .returned (Value.int .i64 n85_50) ∧
  bif (n85_50 != (12 : Int)) then (
  R (Value.bool false) w51) else (
  (I11 [(Value.slice s13b s13l s13c), (Value.int .i64 (IntKind.wrap .i64 (n14 + (1 : Int))))] w51 ∧ m12 [(Value.slice s13b s13l s13c), (Value.int .i64 (IntKind.wrap .i64 (n14 + (1 : Int))))] w51 < m12 [(Value.slice s13b s13l s13c), (Value.int .i64 n14)] w15)))) else (
  bif (decide (n57_27 < (0 : Int))) then (
  Calls Pg fn_ring_Rings_Merge #[(Value.pointer p27_2), (Value.int .i64 n52_25), (Value.int .i64 n57_27)] (World.drew w23) fun e55 w54 => ∃ v77_53 : Value, e55 = .returned v77_53 ∧
  Calls Pg fn_plaitlaw05_num #[v77_53] w54 fun e58 w57 => ∃ n78_56 : Int, e58 = .returned (Value.int .i64 n78_56) ∧
  bif (n78_56 != (12 : Int)) then (
  R (Value.bool false) w57) else (
  Calls Pg fn_ring_Rings_Split #[(Value.pointer p27_2), (Value.int .i64 n52_25), (Value.int .i64 n57_27)] w57 fun e61 w60 => ∃ v84_59 : Value, e61 = .returned v84_59 ∧
  Calls Pg fn_plaitlaw05_num #[v84_59] w60 fun e64 w63 => ∃ n85_62 : Int, e64 = .returned (Value.int .i64 n85_62) ∧
  bif (n85_62 != (12 : Int)) then (
  R (Value.bool false) w63) else (
  (I11 [(Value.slice s13b s13l s13c), (Value.int .i64 (IntKind.wrap .i64 (n14 + (1 : Int))))] w63 ∧ m12 [(Value.slice s13b s13l s13c), (Value.int .i64 (IntKind.wrap .i64 (n14 + (1 : Int))))] w63 < m12 [(Value.slice s13b s13l s13c), (Value.int .i64 n14)] w15)))) else (
  bif (decide (n57_27 ≥ (IntKind.wrap .i64 ((1 : Int) + (IntKind.wrap .i64 (Int.tmod (IntKind.wrap .u64 nn_0) (20 : Int))))))) then (
  Calls Pg fn_ring_Rings_Merge #[(Value.pointer p27_2), (Value.int .i64 n52_25), (Value.int .i64 n57_27)] (World.drew w23) fun e67 w66 => ∃ v77_65 : Value, e67 = .returned v77_65 ∧
  Calls Pg fn_plaitlaw05_num #[v77_65] w66 fun e70 w69 => ∃ n78_68 : Int, e70 = .returned (Value.int .i64 n78_68) ∧
  bif (n78_68 != (12 : Int)) then (
  R (Value.bool false) w69) else (
  Calls Pg fn_ring_Rings_Split #[(Value.pointer p27_2), (Value.int .i64 n52_25), (Value.int .i64 n57_27)] w69 fun e73 w72 => ∃ v84_71 : Value, e73 = .returned v84_71 ∧
  Calls Pg fn_plaitlaw05_num #[v84_71] w72 fun e76 w75 => ∃ n85_74 : Int, e76 = .returned (Value.int .i64 n85_74) ∧
  bif (n85_74 != (12 : Int)) then (
  R (Value.bool false) w75) else (
  (I11 [(Value.slice s13b s13l s13c), (Value.int .i64 (IntKind.wrap .i64 (n14 + (1 : Int))))] w75 ∧ m12 [(Value.slice s13b s13l s13c), (Value.int .i64 (IntKind.wrap .i64 (n14 + (1 : Int))))] w75 < m12 [(Value.slice s13b s13l s13c), (Value.int .i64 n14)] w15)))) else (
  J28 [] (World.drew w23)))))) ∧ ∀ _ : Env, ∀ w77 : World, J28 [] w77 →
  ∃ J78 : List Value → World → Prop, (
  ixS sl_1b sl_1l n14 3 fun a90_79 =>
  ldI .i64 a90_79 w77 fun n92_80 =>
  (8 : Int) ≠ 0 ∧ ∃ J81 : List Value → World → Prop, (
  bif ((IntKind.wrap .i64 (Int.tmod (IntKind.wrap .u64 n92_80) (8 : Int))) == (3 : Int)) then (
  J81 [(Value.bool ((IntKind.wrap .i64 (Int.tmod (IntKind.wrap .u64 n92_80) (8 : Int))) == (3 : Int)))] w77) else (
  bif ((IntKind.wrap .i64 (Int.tmod (IntKind.wrap .u64 n92_80) (8 : Int))) == (4 : Int)) then (
  J81 [(Value.bool ((IntKind.wrap .i64 (Int.tmod (IntKind.wrap .u64 n92_80) (8 : Int))) == (4 : Int)))] w77) else (
  J81 [(Value.bool ((IntKind.wrap .i64 (Int.tmod (IntKind.wrap .u64 n92_80) (8 : Int))) == (5 : Int)))] w77))) ∧ ∀ _ : Env, ∀ b82 : Bool, ∀ w83 : World, J81 [(Value.bool b82)] w83 →
  bif b82 then (
  Calls Pg fn_ring_Rings_Split #[(Value.pointer p27_2), (Value.int .i64 n52_25), (Value.int .i64 n57_27)] w83 fun e86 w85 => ∃ v114_84 : Value, e86 = .returned v114_84 ∧
  Calls Pg fn_plaitref05_Split #[(Value.slice s13b s13l s13c), (Value.int .i64 n52_25), (Value.int .i64 n57_27)] w85 fun e90 w89 => ∃ s119_87b : Option Addr, ∃ s119_87l : Nat, ∃ s119_87c : Nat, ∃ n119_88 : Int, e90 = .returned (Value.tuple #[(Value.slice s119_87b s119_87l s119_87c), (Value.int .i64 n119_88)]) ∧
  J78 [v114_84, (Value.slice s119_87b s119_87l s119_87c), (Value.int .i64 n119_88)] w89) else (
  bif ((IntKind.wrap .i64 (Int.tmod (IntKind.wrap .u64 n92_80) (8 : Int))) == (6 : Int)) then (
  Calls Pg fn_ring_Rings_Apart #[(Value.pointer p27_2), (Value.int .i64 n52_25)] w83 fun e93 w92 => ∃ v126_91 : Value, e93 = .returned v126_91 ∧
  Calls Pg fn_plaitref05_Apart #[(Value.slice s13b s13l s13c), (Value.int .i64 n52_25)] w92 fun e97 w96 => ∃ s130_94b : Option Addr, ∃ s130_94l : Nat, ∃ s130_94c : Nat, ∃ n130_95 : Int, e97 = .returned (Value.tuple #[(Value.slice s130_94b s130_94l s130_94c), (Value.int .i64 n130_95)]) ∧
  J78 [v126_91, (Value.slice s130_94b s130_94l s130_94c), (Value.int .i64 n130_95)] w96) else (
  bif ((IntKind.wrap .i64 (Int.tmod (IntKind.wrap .u64 n92_80) (8 : Int))) == (7 : Int)) then (
  Calls Pg fn_ring_Rings_Turn #[(Value.pointer p27_2), (Value.int .i64 n52_25)] w83 fun e100 w99 => ∃ v137_98 : Value, e100 = .returned v137_98 ∧
  Calls Pg fn_plaitref05_Turn #[(Value.slice s13b s13l s13c), (Value.int .i64 n52_25)] w99 fun e103 w102 => ∃ s140_101b : Option Addr, ∃ s140_101l : Nat, ∃ s140_101c : Nat, e103 = .returned (Value.slice s140_101b s140_101l s140_101c) ∧
  J78 [v137_98, (Value.slice s140_101b s140_101l s140_101c), (Value.int .i64 (0 : Int))] w102) else (
  Calls Pg fn_ring_Rings_Merge #[(Value.pointer p27_2), (Value.int .i64 n52_25), (Value.int .i64 n57_27)] w83 fun e106 w105 => ∃ v99_104 : Value, e106 = .returned v99_104 ∧
  Calls Pg fn_plaitref05_Merge #[(Value.slice s13b s13l s13c), (Value.int .i64 n52_25), (Value.int .i64 n57_27)] w105 fun e110 w109 => ∃ s104_107b : Option Addr, ∃ s104_107l : Nat, ∃ s104_107c : Nat, ∃ n104_108 : Int, e110 = .returned (Value.tuple #[(Value.slice s104_107b s104_107l s104_107c), (Value.int .i64 n104_108)]) ∧
  J78 [v99_104, (Value.slice s104_107b s104_107l s104_107c), (Value.int .i64 n104_108)] w109)))) ∧ ∀ _ : Env, ∀ v111 : Value, ∀ s112b : Option Addr, ∀ s112l : Nat, ∀ s112c : Nat, ∀ n113 : Int, ∀ w114 : World, J78 [v111, (Value.slice s112b s112l s112c), (Value.int .i64 n113)] w114 →
  ∃ J115 : List Value → World → Prop, (
  Calls Pg fn_plaitlaw05_num #[v111] w114 fun e118 w117 => ∃ n142_116 : Int, e118 = .returned (Value.int .i64 n142_116) ∧
  bif (n142_116 != n113) then (
  R (Value.bool false) w117) else (
  Calls Pg fn_plaitlaw05_told #[(Value.pointer p27_2), (Value.slice s112b s112l s112c), (Value.int .i64 n57_27)] w117 fun e121 w120 => ∃ b149_119 : Bool, e121 = .returned (Value.bool b149_119) ∧
  bif (!b149_119) then (
  R (Value.bool false) w120) else (
  J115 [] w120))) ∧ ∀ _ : Env, ∀ w122 : World, J115 [] w122 →
  Calls Pg fn_plaitref04_Find #[(Value.slice s112b s112l s112c), (Value.int .i64 n52_25)] w122 fun e126 w125 => ∃ n155_123 : Int, ∃ n155_124 : Int, e126 = .returned (Value.tuple #[(Value.int .i64 n155_123), (Value.int .i64 n155_124)]) ∧
  Calls Pg fn_plaitref04_Find #[(Value.slice s112b s112l s112c), (Value.int .i64 n57_27)] w125 fun e130 w129 => ∃ n161_127 : Int, ∃ n161_128 : Int, e130 = .returned (Value.tuple #[(Value.int .i64 n161_127), (Value.int .i64 n161_128)]) ∧
  Calls Pg fn_ring_Rings_Same #[(Value.pointer p27_2), (Value.int .i64 n52_25), (Value.int .i64 n57_27)] w129 fun e134 w133 => ∃ b168_131 : Bool, ∃ v168_132 : Value, e134 = .returned (Value.tuple #[(Value.bool b168_131), v168_132]) ∧
  isI v168_132 ∧ bif (!(nilI v168_132)) then (
  R (Value.bool false) w133) else (
  bif (!(b168_131 == (n155_123 == n161_127))) then (
  R (Value.bool false) w133) else (
  (I11 [(Value.slice s112b s112l s112c), (Value.int .i64 (IntKind.wrap .i64 (n14 + (1 : Int))))] w133 ∧ m12 [(Value.slice s112b s112l s112c), (Value.int .i64 (IntKind.wrap .i64 (n14 + (1 : Int))))] w133 < m12 [(Value.slice s13b s13l s13c), (Value.int .i64 n14)] w15)))
theorem eq_plaitlaw05_RingRuns (nn_0 : Int) (sl_1b : Option Addr) (sl_1l : Nat) (sl_1c : Nat) (w : World) (R : Value → World → Prop) : sh_plaitlaw05_RingRuns nn_0 sl_1b sl_1l sl_1c w R = denF Pg Eall Tryd.f7 (.seq (.leaf) (.seq (.leaf) (.seq (.leaf) (.join [] [] (.seq (.leaf) (.cond (.seq (.leaf) (.leaf)) (.leaf))) (.seq (.leaf) (.seq (.seq (.leaf) (.block (.loop [8, 9] [.one (.slc), .one (.int .i64)] (.join [] [] (.seq (.leaf) (.cond (.leaf) (.leaf))) (.seq (.block (.seq (.reg (.tk 0 [] [] (.tk 1 [] [] (.tk 2 [] [] (.tk 3 [] [] (.tk 4 [] [] (.tk 5 [] [] (.tk 6 [] [] (.tk 7 [] [] (.tk 8 [] [] (.tk 9 [] [] (.tk 10 [] [] (.tk 11 [] [] (.fin)))))))))))))) (.join [] [] (.seq (.leaf) (.cond (.seq (.seq (.leaf) (.cond (.seq (.leaf) (.leaf)) (.leaf))) (.leaf)) (.leaf))) (.seq (.leaf) (.seq (.leaf) (.join [12, 8, 13] [.one (.ifc), .one (.slc), .one (.int .i64)] (.seq (.leaf) (.block (.join [107] [.one (.bool)] (.seq (.leaf) (.cond (.leaf) (.seq (.leaf) (.cond (.leaf) (.leaf))))) (.cond (.seq (.leaf) (.leaf)) (.seq (.leaf) (.cond (.seq (.leaf) (.leaf)) (.seq (.leaf) (.cond (.seq (.leaf) (.leaf)) (.seq (.leaf) (.leaf)))))))))) (.join [] [] (.seq (.leaf) (.cond (.seq (.leaf) (.leaf)) (.leaf))) (.seq (.leaf) (.seq (.leaf) (.seq (.leaf) (.seq (.leaf) (.cond (.seq (.leaf) (.leaf)) (.leaf))))))))))))) (.leaf)))))) (.seq (.leaf) (.leaf)))))))) [(Value.int .i64 nn_0), (Value.slice sl_1b sl_1l sl_1c)] w R := by kernel_rfl
theorem calls_plaitlaw05_RingRuns (nn_0 : Int) (sl_1b : Option Addr) (sl_1l : Nat) (sl_1c : Nat) (w : World) (R : Value → World → Prop) (h : sh_plaitlaw05_RingRuns nn_0 sl_1b sl_1l sl_1c w R) : Calls Pg fn_plaitlaw05_RingRuns #[(Value.int .i64 nn_0), (Value.slice sl_1b sl_1l sl_1c)] w fun e w' => ∃ v, e = .returned v ∧ R v w' :=
  calls_of_den Eall_enter wide_mixed Tryd.func7 (by rw [← eq_plaitlaw05_RingRuns]; exact h)

/-- 'plait/plaitlaw05.RingSplits' -/
def sh_plaitlaw05_RingSplits (nn_0 : Int) (sl_1b : Option Addr) (sl_1l : Nat) (sl_1c : Nat) (nof_2 : Int) (nof_3 : Int) (w : World) (R : Value → World → Prop) : Prop :=
  alo #[(Value.int .i64 nof_2), (Value.int .i64 nof_3)] T__2int w fun a4 w5 =>
  (20 : Int) ≠ 0 ∧ Calls Pg fn_plaitlaw05_turned #[(Value.int .i64 (IntKind.wrap .i64 ((2 : Int) + (IntKind.wrap .i64 (Int.tmod (IntKind.wrap .u64 nn_0) (20 : Int)))))), (Value.slice sl_1b sl_1l sl_1c)] w5 fun e8 w7 => ∃ p27_6 : Option Addr, e8 = .returned (Value.pointer p27_6) ∧
  bif (Option.isNone p27_6) then (
  R (Value.bool false) w7) else (
  ixA a4 2 (0 : Int) 1 fun a30_9 =>
  ldI .i64 a30_9 (World.drew w7) fun n31_10 =>
  (IntKind.wrap .u64 (IntKind.wrap .i64 ((2 : Int) + (IntKind.wrap .i64 (Int.tmod (IntKind.wrap .u64 nn_0) (20 : Int)))))) ≠ 0 ∧ ixA a4 2 (1 : Int) 1 fun a37_11 =>
  ldI .i64 a37_11 (World.drew w7) fun n38_12 =>
  (IntKind.wrap .u64 (IntKind.wrap .i64 ((2 : Int) + (IntKind.wrap .i64 (Int.tmod (IntKind.wrap .u64 nn_0) (20 : Int)))))) ≠ 0 ∧ Calls Pg fn_ring_Rings_Walk #[(Value.pointer p27_6), (Value.int .i64 (IntKind.wrap .i64 (Int.tmod (IntKind.wrap .u64 n31_10) (IntKind.wrap .u64 (IntKind.wrap .i64 ((2 : Int) + (IntKind.wrap .i64 (Int.tmod (IntKind.wrap .u64 nn_0) (20 : Int)))))))))] (World.drew w7) fun e16 w15 => ∃ s47_13b : Option Addr, ∃ s47_13l : Nat, ∃ s47_13c : Nat, ∃ v47_14 : Value, e16 = .returned (Value.tuple #[(Value.slice s47_13b s47_13l s47_13c), v47_14]) ∧
  isI v47_14 ∧ bif (!(nilI v47_14)) then (
  R (Value.bool false) w15) else (
  ∃ (I17 : List Value → World → Prop) (m18 : List Value → World → Nat), I17 [(Value.int .i64 (-1 : Int)), (Value.int .i64 (1 : Int))] w15 ∧
  ∀ _ : Env, ∀ n19 : Int, ∀ n20 : Int, ∀ w21 : World, I17 [(Value.int .i64 n19), (Value.int .i64 n20)] w21 →
  bif (decide (n20 < (s47_13l : Int))) then (
  ixS s47_13b s47_13l n20 1 fun a60_22 =>
  ldI .i64 a60_22 w21 fun n61_23 =>
  bif (n61_23 == (IntKind.wrap .i64 (Int.tmod (IntKind.wrap .u64 n38_12) (IntKind.wrap .u64 (IntKind.wrap .i64 ((2 : Int) + (IntKind.wrap .i64 (Int.tmod (IntKind.wrap .u64 nn_0) (20 : Int))))))))) then (
  (I17 [(Value.int .i64 n20), (Value.int .i64 (IntKind.wrap .i64 (n20 + (1 : Int))))] w21 ∧ m18 [(Value.int .i64 n20), (Value.int .i64 (IntKind.wrap .i64 (n20 + (1 : Int))))] w21 < m18 [(Value.int .i64 n19), (Value.int .i64 n20)] w21)) else (
  (I17 [(Value.int .i64 n19), (Value.int .i64 (IntKind.wrap .i64 (n20 + (1 : Int))))] w21 ∧ m18 [(Value.int .i64 n19), (Value.int .i64 (IntKind.wrap .i64 (n20 + (1 : Int))))] w21 < m18 [(Value.int .i64 n19), (Value.int .i64 n20)] w21))) else (
  Calls Pg fn_ring_Rings_Split #[(Value.pointer p27_6), (Value.int .i64 (IntKind.wrap .i64 (Int.tmod (IntKind.wrap .u64 n31_10) (IntKind.wrap .u64 (IntKind.wrap .i64 ((2 : Int) + (IntKind.wrap .i64 (Int.tmod (IntKind.wrap .u64 nn_0) (20 : Int))))))))), (Value.int .i64 (IntKind.wrap .i64 (Int.tmod (IntKind.wrap .u64 n38_12) (IntKind.wrap .u64 (IntKind.wrap .i64 ((2 : Int) + (IntKind.wrap .i64 (Int.tmod (IntKind.wrap .u64 nn_0) (20 : Int)))))))))] w21 fun e26 w25 => ∃ v68_24 : Value, e26 = .returned v68_24 ∧
  bif (decide (n19 < (0 : Int))) then (
  ∃ J27 : List Value → World → Prop, (
  bif ((IntKind.wrap .i64 (Int.tmod (IntKind.wrap .u64 n31_10) (IntKind.wrap .u64 (IntKind.wrap .i64 ((2 : Int) + (IntKind.wrap .i64 (Int.tmod (IntKind.wrap .u64 nn_0) (20 : Int)))))))) == (IntKind.wrap .i64 (Int.tmod (IntKind.wrap .u64 n38_12) (IntKind.wrap .u64 (IntKind.wrap .i64 ((2 : Int) + (IntKind.wrap .i64 (Int.tmod (IntKind.wrap .u64 nn_0) (20 : Int))))))))) then (
  Calls Pg fn_plaitlaw05_num #[v68_24] w25 fun e30 w29 => ∃ n76_28 : Int, e30 = .returned (Value.int .i64 n76_28) ∧
  bif (n76_28 == (20 : Int)) then (
  Calls Pg fn_plaitlaw05_sure #[] w29 fun e33 w32 => ∃ b90_31 : Bool, e33 = .returned (Value.bool b90_31) ∧
  J27 [(Value.bool b90_31)] w32) else (
  bif ((IntKind.wrap .i64 (Int.tmod (IntKind.wrap .u64 n31_10) (IntKind.wrap .u64 (IntKind.wrap .i64 ((2 : Int) + (IntKind.wrap .i64 (Int.tmod (IntKind.wrap .u64 nn_0) (20 : Int)))))))) != (IntKind.wrap .i64 (Int.tmod (IntKind.wrap .u64 n38_12) (IntKind.wrap .u64 (IntKind.wrap .i64 ((2 : Int) + (IntKind.wrap .i64 (Int.tmod (IntKind.wrap .u64 nn_0) (20 : Int))))))))) then (
  Calls Pg fn_plaitlaw05_num #[v68_24] w29 fun e36 w35 => ∃ n85_34 : Int, e36 = .returned (Value.int .i64 n85_34) ∧
  bif (n85_34 == (21 : Int)) then (
  Calls Pg fn_plaitlaw05_sure #[] w35 fun e39 w38 => ∃ b90_37 : Bool, e39 = .returned (Value.bool b90_37) ∧
  J27 [(Value.bool b90_37)] w38) else (
  J27 [(Value.bool false)] w35)) else (
  J27 [(Value.bool false)] w29))) else (
  bif ((IntKind.wrap .i64 (Int.tmod (IntKind.wrap .u64 n31_10) (IntKind.wrap .u64 (IntKind.wrap .i64 ((2 : Int) + (IntKind.wrap .i64 (Int.tmod (IntKind.wrap .u64 nn_0) (20 : Int)))))))) != (IntKind.wrap .i64 (Int.tmod (IntKind.wrap .u64 n38_12) (IntKind.wrap .u64 (IntKind.wrap .i64 ((2 : Int) + (IntKind.wrap .i64 (Int.tmod (IntKind.wrap .u64 nn_0) (20 : Int))))))))) then (
  Calls Pg fn_plaitlaw05_num #[v68_24] w25 fun e42 w41 => ∃ n85_40 : Int, e42 = .returned (Value.int .i64 n85_40) ∧
  bif (n85_40 == (21 : Int)) then (
  Calls Pg fn_plaitlaw05_sure #[] w41 fun e45 w44 => ∃ b90_43 : Bool, e45 = .returned (Value.bool b90_43) ∧
  J27 [(Value.bool b90_43)] w44) else (
  J27 [(Value.bool false)] w41)) else (
  J27 [(Value.bool false)] w25))) ∧ ∀ _ : Env, ∀ b46 : Bool, ∀ w47 : World, J27 [(Value.bool b46)] w47 →
  R (Value.bool b46) w47) else (
  Calls Pg fn_ring_Rings_Walk #[(Value.pointer p27_6), (Value.int .i64 (IntKind.wrap .i64 (Int.tmod (IntKind.wrap .u64 n31_10) (IntKind.wrap .u64 (IntKind.wrap .i64 ((2 : Int) + (IntKind.wrap .i64 (Int.tmod (IntKind.wrap .u64 nn_0) (20 : Int)))))))))] w25 fun e51 w50 => ∃ s95_48b : Option Addr, ∃ s95_48l : Nat, ∃ s95_48c : Nat, ∃ v95_49 : Value, e51 = .returned (Value.tuple #[(Value.slice s95_48b s95_48l s95_48c), v95_49]) ∧
  Calls Pg fn_ring_Rings_Walk #[(Value.pointer p27_6), (Value.int .i64 (IntKind.wrap .i64 (Int.tmod (IntKind.wrap .u64 n38_12) (IntKind.wrap .u64 (IntKind.wrap .i64 ((2 : Int) + (IntKind.wrap .i64 (Int.tmod (IntKind.wrap .u64 nn_0) (20 : Int)))))))))] w50 fun e55 w54 => ∃ s101_52b : Option Addr, ∃ s101_52l : Nat, ∃ s101_52c : Nat, ∃ v101_53 : Value, e55 = .returned (Value.tuple #[(Value.slice s101_52b s101_52l s101_52c), v101_53]) ∧
  isI v68_24 ∧ bif (nilI v68_24) then (
  isI v95_49 ∧ bif (nilI v95_49) then (
  isI v101_53 ∧ bif (nilI v101_53) then (
  0 ≤ n19 ∧ n19 ≤ ((s47_13c : Nat) : Int) ∧ Calls Pg fn_plaitlaw05_ints #[(Value.slice s95_48b s95_48l s95_48c), (Value.slice (if s47_13c = 0 then s47_13b else Option.map (fun a => Addr.add a (0 * 1)) s47_13b) ((Int.toNat n19) - 0) (s47_13c - 0))] w54 fun e58 w57 => ∃ b119_56 : Bool, e58 = .returned (Value.bool b119_56) ∧
  bif b119_56 then (
  0 ≤ n19 ∧ n19 ≤ ((s47_13l : Nat) : Int) ∧ Calls Pg fn_plaitlaw05_ints #[(Value.slice s101_52b s101_52l s101_52c), (Value.slice (if s47_13c = (Int.toNat n19) then s47_13b else Option.map (fun a => Addr.add a ((Int.toNat n19) * 1)) s47_13b) (s47_13l - (Int.toNat n19)) (s47_13c - (Int.toNat n19)))] w57 fun e61 w60 => ∃ b126_59 : Bool, e61 = .returned (Value.bool b126_59) ∧
  bif b126_59 then (
  Calls Pg fn_plaitlaw05_sure #[] w60 fun e64 w63 => ∃ b129_62 : Bool, e64 = .returned (Value.bool b129_62) ∧
  R (Value.bool b129_62) w63) else (
  R (Value.bool false) w60)) else (
  R (Value.bool false) w57)) else (
  R (Value.bool false) w54)) else (
  R (Value.bool false) w54)) else (
  R (Value.bool false) w54)))))
theorem eq_plaitlaw05_RingSplits (nn_0 : Int) (sl_1b : Option Addr) (sl_1l : Nat) (sl_1c : Nat) (nof_2 : Int) (nof_3 : Int) (w : World) (R : Value → World → Prop) : sh_plaitlaw05_RingSplits nn_0 sl_1b sl_1l sl_1c nof_2 nof_3 w R = denF Pg Eall Tryd.f8 (.seq (.leaf) (.seq (.leaf) (.seq (.leaf) (.seq (.seq (.leaf) (.cond (.seq (.leaf) (.leaf)) (.leaf))) (.seq (.reg (.tk 0 [] [] (.tk 1 [] [] (.tk 2 [] [] (.tk 3 [] [] (.tk 4 [] [] (.tk 5 [] [] (.tk 6 [] [] (.tk 7 [] [] (.tk 8 [] [] (.tk 9 [] [] (.tk 10 [] [] (.tk 11 [] [] (.tk 12 [] [] (.tk 13 [] [] (.tk 14 [] [] (.tk 15 [] [] (.fin)))))))))))))))))) (.seq (.leaf) (.seq (.seq (.leaf) (.cond (.seq (.leaf) (.leaf)) (.leaf))) (.seq (.leaf) (.seq (.seq (.leaf) (.block (.loop [13, 14] [.one (.int .i64), .one (.int .i64)] (.seq (.seq (.leaf) (.cond (.leaf) (.leaf))) (.seq (.block (.seq (.leaf) (.cond (.leaf) (.leaf)))) (.leaf)))))) (.seq (.leaf) (.seq (.seq (.leaf) (.cond (.join [6] [.one (.bool)] (.leaf) (.leaf)) (.leaf))) (.seq (.leaf) (.seq (.leaf) (.seq (.leaf) (.leaf))))))))))))))) [(Value.int .i64 nn_0), (Value.slice sl_1b sl_1l sl_1c), (Value.agg #[(Value.int .i64 nof_2), (Value.int .i64 nof_3)])] w R := by kernel_rfl
theorem calls_plaitlaw05_RingSplits (nn_0 : Int) (sl_1b : Option Addr) (sl_1l : Nat) (sl_1c : Nat) (nof_2 : Int) (nof_3 : Int) (w : World) (R : Value → World → Prop) (h : sh_plaitlaw05_RingSplits nn_0 sl_1b sl_1l sl_1c nof_2 nof_3 w R) : Calls Pg fn_plaitlaw05_RingSplits #[(Value.int .i64 nn_0), (Value.slice sl_1b sl_1l sl_1c), (Value.agg #[(Value.int .i64 nof_2), (Value.int .i64 nof_3)])] w fun e w' => ∃ v, e = .returned v ∧ R v w' :=
  calls_of_den Eall_enter wide_mixed Tryd.func8 (by rw [← eq_plaitlaw05_RingSplits]; exact h)

/-- 'plait/plaitlaw05.turned' -/
def sh_plaitlaw05_turned (nm_0 : Int) (sl_1b : Option Addr) (sl_1l : Nat) (sl_1c : Nat) (w : World) (R : Value → World → Prop) : Prop :=
  Calls Pg fn_ring_New #[(Value.int .i64 nm_0)] w fun e5 w4 => ∃ p12_2 : Option Addr, ∃ v12_3 : Value, e5 = .returned (Value.tuple #[(Value.pointer p12_2), v12_3]) ∧
  ∃ J6 : List Value → World → Prop, (
  isI v12_3 ∧ bif (!(nilI v12_3)) then (
  R (Value.pointer none) w4) else (
  bif (Option.isNone p12_2) then (
  R (Value.pointer none) w4) else (
  J6 [] w4))) ∧ ∀ _ : Env, ∀ w7 : World, J6 [] w7 →
  ∃ (I8 : List Value → World → Prop) (m9 : List Value → World → Nat), I8 [(Value.int .i64 (0 : Int))] w7 ∧
  ∀ _ : Env, ∀ n10 : Int, ∀ w11 : World, I8 [(Value.int .i64 n10)] w11 →
  ∃ J12 : List Value → World → Prop, (
  bif (decide (n10 < (sl_1l : Int))) then (
  bif (decide (n10 < (40 : Int))) then (
  J12 [] w11) else (
  R (Value.pointer p12_2) w11)) else (
  R (Value.pointer p12_2) w11)) ∧ ∀ _ : Env, ∀ w13 : World, J12 [] w13 →
  ixS sl_1b sl_1l n10 3 fun a33_14 =>
  ldI .i64 (a33_14.add 1) (World.drew w13) fun n35_15 =>
  (IntKind.wrap .u64 nm_0) ≠ 0 ∧ ixS sl_1b sl_1l n10 3 fun a43_16 =>
  ldI .i64 (a43_16.add 2) (World.drew w13) fun n45_17 =>
  (IntKind.wrap .u64 nm_0) ≠ 0 ∧ ixS sl_1b sl_1l n10 3 fun a53_18 =>
  ldI .i64 a53_18 (World.drew w13) fun n55_19 =>
  (4 : Int) ≠ 0 ∧ bif ((Int.tmod n55_19 (4 : Int)) == (0 : Int)) then (
  Calls Pg fn_ring_Rings_Split #[(Value.pointer p12_2), (Value.int .i64 (IntKind.wrap .i64 (Int.tmod (IntKind.wrap .u64 n35_15) (IntKind.wrap .u64 nm_0)))), (Value.int .i64 (IntKind.wrap .i64 (Int.tmod (IntKind.wrap .u64 n45_17) (IntKind.wrap .u64 nm_0))))] (World.drew w13) fun e22 w21 => ∃ v61_20 : Value, e22 = .returned v61_20 ∧
  (I8 [(Value.int .i64 (IntKind.wrap .i64 (n10 + (1 : Int))))] w21 ∧ m9 [(Value.int .i64 (IntKind.wrap .i64 (n10 + (1 : Int))))] w21 < m9 [(Value.int .i64 n10)] w11)) else (
  Calls Pg fn_ring_Rings_Merge #[(Value.pointer p12_2), (Value.int .i64 (IntKind.wrap .i64 (Int.tmod (IntKind.wrap .u64 n35_15) (IntKind.wrap .u64 nm_0)))), (Value.int .i64 (IntKind.wrap .i64 (Int.tmod (IntKind.wrap .u64 n45_17) (IntKind.wrap .u64 nm_0))))] (World.drew w13) fun e25 w24 => ∃ v65_23 : Value, e25 = .returned v65_23 ∧
  (I8 [(Value.int .i64 (IntKind.wrap .i64 (n10 + (1 : Int))))] w24 ∧ m9 [(Value.int .i64 (IntKind.wrap .i64 (n10 + (1 : Int))))] w24 < m9 [(Value.int .i64 n10)] w11))
theorem eq_plaitlaw05_turned (nm_0 : Int) (sl_1b : Option Addr) (sl_1l : Nat) (sl_1c : Nat) (w : World) (R : Value → World → Prop) : sh_plaitlaw05_turned nm_0 sl_1b sl_1l sl_1c w R = denF Pg Eall Tryd.f31 (.seq (.leaf) (.seq (.leaf) (.join [] [] (.seq (.leaf) (.cond (.seq (.leaf) (.leaf)) (.leaf))) (.seq (.seq (.leaf) (.block (.loop [7] [.one (.int .i64)] (.join [] [] (.seq (.leaf) (.cond (.leaf) (.leaf))) (.seq (.block (.seq (.reg (.tk 0 [] [] (.tk 1 [] [] (.tk 2 [] [] (.tk 3 [] [] (.tk 4 [] [] (.tk 5 [] [] (.tk 6 [] [] (.tk 7 [] [] (.tk 8 [] [] (.tk 9 [] [] (.tk 10 [] [] (.tk 11 [] [] (.tk 12 [] [] (.tk 13 [] [] (.tk 14 [] [] (.tk 15 [] [] (.tk 16 [] [] (.tk 17 [] [] (.tk 18 [] [] (.tk 19 [] [] (.tk 20 [] [] (.tk 21 [] [] (.fin)))))))))))))))))))))))) (.seq (.leaf) (.cond (.leaf) (.leaf))))) (.leaf)))))) (.seq (.leaf) (.leaf)))))) [(Value.int .i64 nm_0), (Value.slice sl_1b sl_1l sl_1c)] w R := by kernel_rfl
theorem calls_plaitlaw05_turned (nm_0 : Int) (sl_1b : Option Addr) (sl_1l : Nat) (sl_1c : Nat) (w : World) (R : Value → World → Prop) (h : sh_plaitlaw05_turned nm_0 sl_1b sl_1l sl_1c w R) : Calls Pg fn_plaitlaw05_turned #[(Value.int .i64 nm_0), (Value.slice sl_1b sl_1l sl_1c)] w fun e w' => ∃ v, e = .returned v ∧ R v w' :=
  calls_of_den Eall_enter wide_mixed Tryd.func31 (by rw [← eq_plaitlaw05_turned]; exact h)

/-- 'plait/plaitlaw05.ints' -/
def sh_plaitlaw05_ints (sa_0b : Option Addr) (sa_0l : Nat) (sa_0c : Nat) (sb_1b : Option Addr) (sb_1l : Nat) (sb_1c : Nat) (w : World) (R : Value → World → Prop) : Prop :=
  bif ((sa_0l : Int) != (sb_1l : Int)) then (
  R (Value.bool false) w) else (
  ∃ (I2 : List Value → World → Prop) (m3 : List Value → World → Nat), I2 [(Value.int .i64 (0 : Int))] w ∧
  ∀ _ : Env, ∀ n4 : Int, ∀ w5 : World, I2 [(Value.int .i64 n4)] w5 →
  bif (decide (n4 < (sa_0l : Int))) then (
  ixS sa_0b sa_0l n4 1 fun a19_6 =>
  ldI .i64 a19_6 (World.drew w5) fun n20_7 =>
  ixS sb_1b sb_1l n4 1 fun a23_8 =>
  ldI .i64 a23_8 (World.drew w5) fun n24_9 =>
  bif (n20_7 != n24_9) then (
  R (Value.bool false) (World.drew w5)) else (
  (I2 [(Value.int .i64 (IntKind.wrap .i64 (n4 + (1 : Int))))] (World.drew w5) ∧ m3 [(Value.int .i64 (IntKind.wrap .i64 (n4 + (1 : Int))))] (World.drew w5) < m3 [(Value.int .i64 n4)] w5))) else (
  R (Value.bool true) w5))
theorem eq_plaitlaw05_ints (sa_0b : Option Addr) (sa_0l : Nat) (sa_0c : Nat) (sb_1b : Option Addr) (sb_1l : Nat) (sb_1c : Nat) (w : World) (R : Value → World → Prop) : sh_plaitlaw05_ints sa_0b sa_0l sa_0c sb_1b sb_1l sb_1c w R = denF Pg Eall Tryd.f34 (.seq (.leaf) (.seq (.seq (.leaf) (.cond (.seq (.leaf) (.leaf)) (.leaf))) (.seq (.seq (.leaf) (.block (.loop [5] [.one (.int .i64)] (.seq (.seq (.leaf) (.cond (.leaf) (.leaf))) (.seq (.block (.seq (.reg (.tk 0 [] [] (.tk 1 [] [] (.tk 2 [] [] (.tk 3 [] [] (.tk 4 [] [] (.tk 5 [] [] (.tk 6 [] [] (.tk 7 [] [] (.tk 8 [] [] (.fin))))))))))) (.cond (.seq (.leaf) (.leaf)) (.leaf)))) (.leaf)))))) (.seq (.leaf) (.leaf))))) [(Value.slice sa_0b sa_0l sa_0c), (Value.slice sb_1b sb_1l sb_1c)] w R := by kernel_rfl
theorem calls_plaitlaw05_ints (sa_0b : Option Addr) (sa_0l : Nat) (sa_0c : Nat) (sb_1b : Option Addr) (sb_1l : Nat) (sb_1c : Nat) (w : World) (R : Value → World → Prop) (h : sh_plaitlaw05_ints sa_0b sa_0l sa_0c sb_1b sb_1l sb_1c w R) : Calls Pg fn_plaitlaw05_ints #[(Value.slice sa_0b sa_0l sa_0c), (Value.slice sb_1b sb_1l sb_1c)] w fun e w' => ∃ v, e = .returned v ∧ R v w' :=
  calls_of_den Eall_enter wide_mixed Tryd.func34 (by rw [← eq_plaitlaw05_ints]; exact h)

/-- 'plait/plaitlaw05.num' -/
def sh_plaitlaw05_num (ve_0 : Value) (w : World) (R : Value → World → Prop) : Prop :=
  alo #[(Value.int .i64 (0 : Int))] T_api_Errno w fun a1 w2 =>
  isI ve_0 ∧ bif (nilI ve_0) then (
  R (Value.int .i64 (0 : Int)) w2) else (
  Calls Pg fn_errors_As #[ve_0, (Value.iface T_p_api_Errno (Value.pointer (some a1)))] w2 fun e5 w4 => ∃ b8_3 : Bool, e5 = .returned (Value.bool b8_3) ∧
  bif b8_3 then (
  ldI .i64 a1 w4 fun n9_6 =>
  R (Value.int .i64 n9_6) w4) else (
  R (Value.int .i64 (-1 : Int)) w4))
theorem eq_plaitlaw05_num (ve_0 : Value) (w : World) (R : Value → World → Prop) : sh_plaitlaw05_num ve_0 w R = denF Pg Eall Tryd.f35 (.seq (.leaf) (.seq (.leaf) (.seq (.seq (.leaf) (.cond (.seq (.leaf) (.leaf)) (.leaf))) (.seq (.seq (.leaf) (.cond (.seq (.leaf) (.leaf)) (.leaf))) (.seq (.leaf) (.leaf)))))) [ve_0] w R := by kernel_rfl
theorem calls_plaitlaw05_num (ve_0 : Value) (w : World) (R : Value → World → Prop) (h : sh_plaitlaw05_num ve_0 w R) : Calls Pg fn_plaitlaw05_num #[ve_0] w fun e w' => ∃ v, e = .returned v ∧ R v w' :=
  calls_of_den Eall_enter wide_mixed Tryd.func35 (by rw [← eq_plaitlaw05_num]; exact h)

/-- 'plait/plaitlaw05.sure' -/
def sh_plaitlaw05_sure (w : World) (R : Value → World → Prop) : Prop :=
  Calls Pg fn_ring_New #[(Value.int .i64 (3 : Int))] w fun e3 w2 => ∃ p6_0 : Option Addr, ∃ v6_1 : Value, e3 = .returned (Value.tuple #[(Value.pointer p6_0), v6_1]) ∧
  isI v6_1 ∧ bif (!(nilI v6_1)) then (
  R (Value.bool false) w2) else (
  bif (Option.isNone p6_0) then (
  R (Value.bool false) w2) else (
  Calls Pg fn_ring_Rings_Merge #[(Value.pointer p6_0), (Value.int .i64 (0 : Int)), (Value.int .i64 (1 : Int))] w2 fun e6 w5 => ∃ v17_4 : Value, e6 = .returned v17_4 ∧
  isI v17_4 ∧ bif (!(nilI v17_4)) then (
  R (Value.bool false) w5) else (
  Calls Pg fn_ring_Rings_Merge #[(Value.pointer p6_0), (Value.int .i64 (0 : Int)), (Value.int .i64 (2 : Int))] w5 fun e9 w8 => ∃ v22_7 : Value, e9 = .returned v22_7 ∧
  isI v22_7 ∧ bif (!(nilI v22_7)) then (
  R (Value.bool false) w8) else (
  Calls Pg fn_ring_Rings_Split #[(Value.pointer p6_0), (Value.int .i64 (0 : Int)), (Value.int .i64 (2 : Int))] w8 fun e12 w11 => ∃ v27_10 : Value, e12 = .returned v27_10 ∧
  isI v27_10 ∧ bif (!(nilI v27_10)) then (
  R (Value.bool false) w11) else (
  Calls Pg fn_ring_Rings_Walk #[(Value.pointer p6_0), (Value.int .i64 (1 : Int))] w11 fun e16 w15 => ∃ s32_13b : Option Addr, ∃ s32_13l : Nat, ∃ s32_13c : Nat, ∃ v32_14 : Value, e16 = .returned (Value.tuple #[(Value.slice s32_13b s32_13l s32_13c), v32_14]) ∧
  isI v32_14 ∧ bif (nilI v32_14) then (
  alo #[(Value.int .i64 (1 : Int)), (Value.int .i64 (0 : Int))] T_int w15 fun a17 w18 =>
  Calls Pg fn_plaitlaw05_ints #[(Value.slice s32_13b s32_13l s32_13c), (Value.slice (some a17) 2 2)] w18 fun e21 w20 => ∃ b40_19 : Bool, e21 = .returned (Value.bool b40_19) ∧
  R (Value.bool b40_19) w20) else (
  R (Value.bool false) w15))))))
theorem eq_plaitlaw05_sure (w : World) (R : Value → World → Prop) : sh_plaitlaw05_sure w R = denF Pg Eall Tryd.f36 (.seq (.leaf) (.seq (.leaf) (.seq (.seq (.leaf) (.cond (.seq (.leaf) (.leaf)) (.leaf))) (.seq (.leaf) (.seq (.leaf) (.leaf)))))) [] w R := by kernel_rfl
theorem calls_plaitlaw05_sure (w : World) (R : Value → World → Prop) (h : sh_plaitlaw05_sure w R) : Calls Pg fn_plaitlaw05_sure #[] w fun e w' => ∃ v, e = .returned v ∧ R v w' :=
  calls_of_den Eall_enter wide_mixed Tryd.func36 (by rw [← eq_plaitlaw05_sure]; exact h)

/-- 'plait/plaitlaw05.told' -/
def sh_plaitlaw05_told (pr_0 : Option Addr) (sx_1b : Option Addr) (sx_1l : Nat) (sx_1c : Nat) (nb_2 : Int) (w : World) (R : Value → World → Prop) : Prop :=
  Calls Pg fn_plaitref04_Find #[(Value.slice sx_1b sx_1l sx_1c), (Value.int .i64 nb_2)] w fun e6 w5 => ∃ n23_3 : Int, ∃ n23_4 : Int, e6 = .returned (Value.tuple #[(Value.int .i64 n23_3), (Value.int .i64 n23_4)]) ∧
  Calls Pg fn_plaitref05_Walk #[(Value.slice sx_1b sx_1l sx_1c), (Value.int .i64 nb_2)] w5 fun e9 w8 => ∃ s28_7b : Option Addr, ∃ s28_7l : Nat, ∃ s28_7c : Nat, e9 = .returned (Value.slice s28_7b s28_7l s28_7c) ∧
  Calls Pg fn_ring_Rings_Walk #[(Value.pointer pr_0), (Value.int .i64 nb_2)] w8 fun e13 w12 => ∃ s32_10b : Option Addr, ∃ s32_10l : Nat, ∃ s32_10c : Nat, ∃ v32_11 : Value, e13 = .returned (Value.tuple #[(Value.slice s32_10b s32_10l s32_10c), v32_11]) ∧
  Calls Pg fn_ring_Rings_Next #[(Value.pointer pr_0), (Value.int .i64 nb_2)] w12 fun e17 w16 => ∃ n38_14 : Int, ∃ v38_15 : Value, e17 = .returned (Value.tuple #[(Value.int .i64 n38_14), v38_15]) ∧
  Calls Pg fn_ring_Rings_Prev #[(Value.pointer pr_0), (Value.int .i64 nb_2)] w16 fun e21 w20 => ∃ n44_18 : Int, ∃ v44_19 : Value, e21 = .returned (Value.tuple #[(Value.int .i64 n44_18), v44_19]) ∧
  Calls Pg fn_ring_Rings_Len #[(Value.pointer pr_0), (Value.int .i64 nb_2)] w20 fun e25 w24 => ∃ n50_22 : Int, ∃ v50_23 : Value, e25 = .returned (Value.tuple #[(Value.int .i64 n50_22), v50_23]) ∧
  Calls Pg fn_ring_Rings_Front #[(Value.pointer pr_0), (Value.int .i64 nb_2)] w24 fun e29 w28 => ∃ n56_26 : Int, ∃ v56_27 : Value, e29 = .returned (Value.tuple #[(Value.int .i64 n56_26), v56_27]) ∧
  isI v32_11 ∧ bif (nilI v32_11) then (
  isI v38_15 ∧ bif (nilI v38_15) then (
  isI v44_19 ∧ bif (nilI v44_19) then (
  isI v50_23 ∧ bif (nilI v50_23) then (
  isI v56_27 ∧ bif (nilI v56_27) then (
  Calls Pg fn_plaitlaw05_ints #[(Value.slice s32_10b s32_10l s32_10c), (Value.slice s28_7b s28_7l s28_7c)] w28 fun e32 w31 => ∃ b80_30 : Bool, e32 = .returned (Value.bool b80_30) ∧
  bif b80_30 then (
  (s28_7l : Int) ≠ 0 ∧ ixS s28_7b s28_7l (Int.tmod (1 : Int) (s28_7l : Int)) 1 fun a88_33 =>
  ldI .i64 a88_33 w31 fun n89_34 =>
  bif (n38_14 == n89_34) then (
  ixS s28_7b s28_7l (IntKind.wrap .i64 ((s28_7l : Int) - (1 : Int))) 1 fun a98_35 =>
  ldI .i64 a98_35 w31 fun n99_36 =>
  bif (n44_18 == n99_36) then (
  bif (n50_22 == (s28_7l : Int)) then (
  ixS sx_1b sx_1l n23_3 1 fun a112_37 =>
  ldS a112_37 w31 fun s113_38b s113_38l s113_38c =>
  ixS s113_38b s113_38l (0 : Int) 1 fun a114_39 =>
  ldI .i64 a114_39 w31 fun n115_40 =>
  R (Value.bool (n56_26 == n115_40)) w31) else (
  R (Value.bool false) w31)) else (
  R (Value.bool false) w31)) else (
  R (Value.bool false) w31)) else (
  R (Value.bool false) w31)) else (
  R (Value.bool false) w28)) else (
  R (Value.bool false) w28)) else (
  R (Value.bool false) w28)) else (
  R (Value.bool false) w28)) else (
  R (Value.bool false) w28)
theorem eq_plaitlaw05_told (pr_0 : Option Addr) (sx_1b : Option Addr) (sx_1l : Nat) (sx_1c : Nat) (nb_2 : Int) (w : World) (R : Value → World → Prop) : sh_plaitlaw05_told pr_0 sx_1b sx_1l sx_1c nb_2 w R = denF Pg Eall Tryd.f50 (.seq (.leaf) (.seq (.leaf) (.seq (.leaf) (.seq (.leaf) (.seq (.leaf) (.seq (.leaf) (.seq (.leaf) (.seq (.leaf) (.seq (.leaf) (.leaf)))))))))) [(Value.pointer pr_0), (Value.slice sx_1b sx_1l sx_1c), (Value.int .i64 nb_2)] w R := by kernel_rfl
theorem calls_plaitlaw05_told (pr_0 : Option Addr) (sx_1b : Option Addr) (sx_1l : Nat) (sx_1c : Nat) (nb_2 : Int) (w : World) (R : Value → World → Prop) (h : sh_plaitlaw05_told pr_0 sx_1b sx_1l sx_1c nb_2 w R) : Calls Pg fn_plaitlaw05_told #[(Value.pointer pr_0), (Value.slice sx_1b sx_1l sx_1c), (Value.int .i64 nb_2)] w fun e w' => ∃ v, e = .returned v ∧ R v w' :=
  calls_of_den Eall_enter wide_mixed Tryd.func50 (by rw [← eq_plaitlaw05_told]; exact h)

end Go.Proofs.YtledchlbmilneaaDoor
