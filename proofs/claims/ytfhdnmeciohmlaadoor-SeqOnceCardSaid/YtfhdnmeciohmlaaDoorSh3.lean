/-
What each function does, as one formula, printed by a program of this session out of the translation; the kernel holds each print against the translation.
Conditions: none.
-/
import Derived.Test.YtfhdnmeciohmlaaDoorSn
namespace Go.Proofs.YtfhdnmeciohmlaaDoor
open Go
set_option linter.unusedVariables false
set_option maxRecDepth 100000
/-- 'plait/plaitlaw04.SeqTwice' -/
def sh_plaitlaw04_SeqTwice (nn_0 : Int) (sl_1b : Option Addr) (sl_1l : Nat) (sl_1c : Nat) (nx_2 : Int) (w : World) (R : Value → World → Prop) : Prop :=
  (30 : Int) ≠ 0 ∧ Calls Pg fn_seq_New #[(Value.int .i64 (IntKind.wrap .i64 ((1 : Int) + (IntKind.wrap .i64 (Int.tmod (IntKind.wrap .u64 nn_0) (30 : Int))))))] w fun e6 w5 => ∃ p29_3 : Option Addr, ∃ v29_4 : Value, e6 = .returned (Value.tuple #[(Value.pointer p29_3), v29_4]) ∧
  ∃ J7 : List Value → World → Prop, (
  isI v29_4 ∧ bif (!(nilI v29_4)) then (
  R (Value.bool false) w5) else (
  bif (Option.isNone p29_3) then (
  R (Value.bool false) w5) else (
  J7 [] w5))) ∧ ∀ _ : Env, ∀ w8 : World, J7 [] w8 →
  ∃ J9 : List Value → World → Prop, (
  ∃ (I10 : List Value → World → Prop) (m11 : List Value → World → Nat), I10 [(Value.int .i64 (0 : Int))] w8 ∧
  ∀ _ : Env, ∀ n12 : Int, ∀ w13 : World, I10 [(Value.int .i64 n12)] w13 →
  bif (decide (n12 < (sl_1l : Int))) then (
  bif (decide (n12 < (60 : Int))) then (
  ixS sl_1b sl_1l n12 4 fun a50_14 =>
  ldI .i64 (a50_14.add 1) (World.drew w13) fun n52_15 =>
  (IntKind.wrap .u64 (IntKind.wrap .i64 ((1 : Int) + (IntKind.wrap .i64 (Int.tmod (IntKind.wrap .u64 nn_0) (30 : Int)))))) ≠ 0 ∧ ixS sl_1b sl_1l n12 4 fun a60_16 =>
  ldI .i64 (a60_16.add 2) (World.drew w13) fun n62_17 =>
  (IntKind.wrap .u64 (IntKind.wrap .i64 ((1 : Int) + (IntKind.wrap .i64 (Int.tmod (IntKind.wrap .u64 nn_0) (30 : Int)))))) ≠ 0 ∧ ixS sl_1b sl_1l n12 4 fun a70_18 =>
  ldI .i64 a70_18 (World.drew w13) fun n72_19 =>
  (3 : Int) ≠ 0 ∧ bif ((Int.tmod n72_19 (3 : Int)) == (0 : Int)) then (
  Calls Pg fn_seq_Forest_Reverse #[(Value.pointer p29_3), (Value.int .i64 (IntKind.wrap .i64 (Int.tmod (IntKind.wrap .u64 n52_15) (IntKind.wrap .u64 (IntKind.wrap .i64 ((1 : Int) + (IntKind.wrap .i64 (Int.tmod (IntKind.wrap .u64 nn_0) (30 : Int)))))))))] (World.drew w13) fun e22 w21 => ∃ v77_20 : Value, e22 = .returned v77_20 ∧
  Calls Pg fn_seq_Forest_Join #[(Value.pointer p29_3), (Value.int .i64 (IntKind.wrap .i64 (Int.tmod (IntKind.wrap .u64 n52_15) (IntKind.wrap .u64 (IntKind.wrap .i64 ((1 : Int) + (IntKind.wrap .i64 (Int.tmod (IntKind.wrap .u64 nn_0) (30 : Int))))))))), (Value.int .i64 (IntKind.wrap .i64 (Int.tmod (IntKind.wrap .u64 n62_17) (IntKind.wrap .u64 (IntKind.wrap .i64 ((1 : Int) + (IntKind.wrap .i64 (Int.tmod (IntKind.wrap .u64 nn_0) (30 : Int)))))))))] w21 fun e25 w24 => ∃ v81_23 : Value, e25 = .returned v81_23 ∧
  (I10 [(Value.int .i64 (IntKind.wrap .i64 (n12 + (1 : Int))))] w24 ∧ m11 [(Value.int .i64 (IntKind.wrap .i64 (n12 + (1 : Int))))] w24 < m11 [(Value.int .i64 n12)] w13)) else (
  Calls Pg fn_seq_Forest_Join #[(Value.pointer p29_3), (Value.int .i64 (IntKind.wrap .i64 (Int.tmod (IntKind.wrap .u64 n52_15) (IntKind.wrap .u64 (IntKind.wrap .i64 ((1 : Int) + (IntKind.wrap .i64 (Int.tmod (IntKind.wrap .u64 nn_0) (30 : Int))))))))), (Value.int .i64 (IntKind.wrap .i64 (Int.tmod (IntKind.wrap .u64 n62_17) (IntKind.wrap .u64 (IntKind.wrap .i64 ((1 : Int) + (IntKind.wrap .i64 (Int.tmod (IntKind.wrap .u64 nn_0) (30 : Int)))))))))] (World.drew w13) fun e28 w27 => ∃ v81_26 : Value, e28 = .returned v81_26 ∧
  (I10 [(Value.int .i64 (IntKind.wrap .i64 (n12 + (1 : Int))))] w27 ∧ m11 [(Value.int .i64 (IntKind.wrap .i64 (n12 + (1 : Int))))] w27 < m11 [(Value.int .i64 n12)] w13))) else (
  J9 [] w13)) else (
  J9 [] w13)) ∧ ∀ _ : Env, ∀ w29 : World, J9 [] w29 →
  (IntKind.wrap .u64 (IntKind.wrap .i64 ((1 : Int) + (IntKind.wrap .i64 (Int.tmod (IntKind.wrap .u64 nn_0) (30 : Int)))))) ≠ 0 ∧ Calls Pg fn_seq_Forest_List #[(Value.pointer p29_3), (Value.int .i64 (IntKind.wrap .i64 (Int.tmod (IntKind.wrap .u64 nx_2) (IntKind.wrap .u64 (IntKind.wrap .i64 ((1 : Int) + (IntKind.wrap .i64 (Int.tmod (IntKind.wrap .u64 nn_0) (30 : Int)))))))))] w29 fun e33 w32 => ∃ s91_30b : Option Addr, ∃ s91_30l : Nat, ∃ s91_30c : Nat, ∃ v91_31 : Value, e33 = .returned (Value.tuple #[(Value.slice s91_30b s91_30l s91_30c), v91_31]) ∧
  ∃ J34 : List Value → World → Prop, (
  isI v91_31 ∧ bif (!(nilI v91_31)) then (
  R (Value.bool false) w32) else (
  Calls Pg fn_seq_Forest_Reverse #[(Value.pointer p29_3), (Value.int .i64 (IntKind.wrap .i64 (Int.tmod (IntKind.wrap .u64 nx_2) (IntKind.wrap .u64 (IntKind.wrap .i64 ((1 : Int) + (IntKind.wrap .i64 (Int.tmod (IntKind.wrap .u64 nn_0) (30 : Int)))))))))] w32 fun e37 w36 => ∃ v99_35 : Value, e37 = .returned v99_35 ∧
  isI v99_35 ∧ bif (!(nilI v99_35)) then (
  R (Value.bool false) w36) else (
  Calls Pg fn_seq_Forest_Reverse #[(Value.pointer p29_3), (Value.int .i64 (IntKind.wrap .i64 (Int.tmod (IntKind.wrap .u64 nx_2) (IntKind.wrap .u64 (IntKind.wrap .i64 ((1 : Int) + (IntKind.wrap .i64 (Int.tmod (IntKind.wrap .u64 nn_0) (30 : Int)))))))))] w36 fun e40 w39 => ∃ v105_38 : Value, e40 = .returned v105_38 ∧
  isI v105_38 ∧ bif (!(nilI v105_38)) then (
  R (Value.bool false) w39) else (
  J34 [] w39)))) ∧ ∀ _ : Env, ∀ w41 : World, J34 [] w41 →
  Calls Pg fn_seq_Forest_List #[(Value.pointer p29_3), (Value.int .i64 (IntKind.wrap .i64 (Int.tmod (IntKind.wrap .u64 nx_2) (IntKind.wrap .u64 (IntKind.wrap .i64 ((1 : Int) + (IntKind.wrap .i64 (Int.tmod (IntKind.wrap .u64 nn_0) (30 : Int)))))))))] w41 fun e45 w44 => ∃ s111_42b : Option Addr, ∃ s111_42l : Nat, ∃ s111_42c : Nat, ∃ v111_43 : Value, e45 = .returned (Value.tuple #[(Value.slice s111_42b s111_42l s111_42c), v111_43]) ∧
  Calls Pg fn_seq_Forest_Cut #[(Value.pointer p29_3), (Value.int .i64 (IntKind.wrap .i64 (Int.tmod (IntKind.wrap .u64 nx_2) (IntKind.wrap .u64 (IntKind.wrap .i64 ((1 : Int) + (IntKind.wrap .i64 (Int.tmod (IntKind.wrap .u64 nn_0) (30 : Int)))))))))] w44 fun e49 w48 => ∃ b117_46 : Bool, ∃ v117_47 : Value, e49 = .returned (Value.tuple #[(Value.bool b117_46), v117_47]) ∧
  isI v111_43 ∧ bif (!(nilI v111_43)) then (
  R (Value.bool false) w48) else (
  isI v117_47 ∧ bif (!(nilI v117_47)) then (
  R (Value.bool false) w48) else (
  Calls Pg fn_plaitlaw04_ints #[(Value.slice s91_30b s91_30l s91_30c), (Value.slice s111_42b s111_42l s111_42c)] w48 fun e52 w51 => ∃ b129_50 : Bool, e52 = .returned (Value.bool b129_50) ∧
  bif (!b129_50) then (
  R (Value.bool false) w51) else (
  bif ((s91_30l : Int) == (0 : Int)) then (
  R (Value.bool false) w51) else (
  ixS s91_30b s91_30l (0 : Int) 1 fun a140_53 =>
  ldI .i64 a140_53 w51 fun n141_54 =>
  bif (!(b117_46 == (n141_54 != (IntKind.wrap .i64 (Int.tmod (IntKind.wrap .u64 nx_2) (IntKind.wrap .u64 (IntKind.wrap .i64 ((1 : Int) + (IntKind.wrap .i64 (Int.tmod (IntKind.wrap .u64 nn_0) (30 : Int))))))))))) then (
  R (Value.bool false) w51) else (
  bif b117_46 then (
  ixS s91_30b s91_30l (0 : Int) 1 fun a150_55 =>
  ldI .i64 a150_55 w51 fun n151_56 =>
  Calls Pg fn_seq_Forest_Join #[(Value.pointer p29_3), (Value.int .i64 n151_56), (Value.int .i64 (IntKind.wrap .i64 (Int.tmod (IntKind.wrap .u64 nx_2) (IntKind.wrap .u64 (IntKind.wrap .i64 ((1 : Int) + (IntKind.wrap .i64 (Int.tmod (IntKind.wrap .u64 nn_0) (30 : Int)))))))))] w51 fun e59 w58 => ∃ v153_57 : Value, e59 = .returned v153_57 ∧
  isI v153_57 ∧ bif (!(nilI v153_57)) then (
  R (Value.bool false) w58) else (
  Calls Pg fn_seq_Forest_List #[(Value.pointer p29_3), (Value.int .i64 (IntKind.wrap .i64 (Int.tmod (IntKind.wrap .u64 nx_2) (IntKind.wrap .u64 (IntKind.wrap .i64 ((1 : Int) + (IntKind.wrap .i64 (Int.tmod (IntKind.wrap .u64 nn_0) (30 : Int)))))))))] w58 fun e63 w62 => ∃ s159_60b : Option Addr, ∃ s159_60l : Nat, ∃ s159_60c : Nat, ∃ v159_61 : Value, e63 = .returned (Value.tuple #[(Value.slice s159_60b s159_60l s159_60c), v159_61]) ∧
  isI v159_61 ∧ bif (nilI v159_61) then (
  Calls Pg fn_plaitlaw04_ints #[(Value.slice s159_60b s159_60l s159_60c), (Value.slice s91_30b s91_30l s91_30c)] w62 fun e66 w65 => ∃ b167_64 : Bool, e66 = .returned (Value.bool b167_64) ∧
  bif b167_64 then (
  Calls Pg fn_plaitlaw04_sure #[] w65 fun e69 w68 => ∃ b170_67 : Bool, e69 = .returned (Value.bool b170_67) ∧
  R (Value.bool b170_67) w68) else (
  R (Value.bool false) w65)) else (
  R (Value.bool false) w62))) else (
  Calls Pg fn_seq_Forest_List #[(Value.pointer p29_3), (Value.int .i64 (IntKind.wrap .i64 (Int.tmod (IntKind.wrap .u64 nx_2) (IntKind.wrap .u64 (IntKind.wrap .i64 ((1 : Int) + (IntKind.wrap .i64 (Int.tmod (IntKind.wrap .u64 nn_0) (30 : Int)))))))))] w51 fun e73 w72 => ∃ s159_70b : Option Addr, ∃ s159_70l : Nat, ∃ s159_70c : Nat, ∃ v159_71 : Value, e73 = .returned (Value.tuple #[(Value.slice s159_70b s159_70l s159_70c), v159_71]) ∧
  isI v159_71 ∧ bif (nilI v159_71) then (
  Calls Pg fn_plaitlaw04_ints #[(Value.slice s159_70b s159_70l s159_70c), (Value.slice s91_30b s91_30l s91_30c)] w72 fun e76 w75 => ∃ b167_74 : Bool, e76 = .returned (Value.bool b167_74) ∧
  bif b167_74 then (
  Calls Pg fn_plaitlaw04_sure #[] w75 fun e79 w78 => ∃ b170_77 : Bool, e79 = .returned (Value.bool b170_77) ∧
  R (Value.bool b170_77) w78) else (
  R (Value.bool false) w75)) else (
  R (Value.bool false) w72)))))))
theorem eq_plaitlaw04_SeqTwice (nn_0 : Int) (sl_1b : Option Addr) (sl_1l : Nat) (sl_1c : Nat) (nx_2 : Int) (w : World) (R : Value → World → Prop) : sh_plaitlaw04_SeqTwice nn_0 sl_1b sl_1l sl_1c nx_2 w R = denF Pg Eall Tryd.f3 (.seq (.leaf) (.seq (.leaf) (.seq (.leaf) (.join [] [] (.seq (.leaf) (.cond (.seq (.leaf) (.leaf)) (.leaf))) (.join [] [] (.seq (.leaf) (.block (.loop [10] [.one (.int .i64)] (.seq (.seq (.leaf) (.cond (.leaf) (.leaf))) (.seq (.block (.seq (.reg (.tk 0 [] [] (.tk 1 [] [] (.tk 2 [] [] (.tk 3 [] [] (.tk 4 [] [] (.tk 5 [] [] (.tk 6 [] [] (.tk 7 [] [] (.tk 8 [] [] (.tk 9 [] [] (.tk 10 [] [] (.tk 11 [] [] (.tk 12 [] [] (.tk 13 [] [] (.tk 14 [] [] (.tk 15 [] [] (.tk 16 [] [] (.tk 17 [] [] (.tk 18 [] [] (.tk 19 [] [] (.tk 20 [] [] (.tk 21 [] [] (.fin)))))))))))))))))))))))) (.seq (.seq (.leaf) (.cond (.leaf) (.leaf))) (.leaf)))) (.leaf)))))) (.seq (.leaf) (.seq (.leaf) (.join [] [] (.seq (.leaf) (.cond (.seq (.leaf) (.leaf)) (.leaf))) (.seq (.leaf) (.seq (.leaf) (.seq (.seq (.leaf) (.cond (.seq (.leaf) (.leaf)) (.leaf))) (.seq (.seq (.leaf) (.cond (.seq (.leaf) (.leaf)) (.leaf))) (.seq (.leaf) (.seq (.leaf) (.leaf))))))))))))))) [(Value.int .i64 nn_0), (Value.slice sl_1b sl_1l sl_1c), (Value.int .i64 nx_2)] w R := by kernel_rfl
theorem calls_plaitlaw04_SeqTwice (nn_0 : Int) (sl_1b : Option Addr) (sl_1l : Nat) (sl_1c : Nat) (nx_2 : Int) (w : World) (R : Value → World → Prop) (h : sh_plaitlaw04_SeqTwice nn_0 sl_1b sl_1l sl_1c nx_2 w R) : Calls Pg fn_plaitlaw04_SeqTwice #[(Value.int .i64 nn_0), (Value.slice sl_1b sl_1l sl_1c), (Value.int .i64 nx_2)] w fun e w' => ∃ v, e = .returned v ∧ R v w' :=
  calls_of_den Eall_enter wide_mixed Tryd.func3 (by rw [← eq_plaitlaw04_SeqTwice]; exact h)

/-- 'plait/plaitlaw04.SeqJoins' -/
def sh_plaitlaw04_SeqJoins (nn_0 : Int) (sl_1b : Option Addr) (sl_1l : Nat) (sl_1c : Nat) (nof_2 : Int) (nof_3 : Int) (w : World) (R : Value → World → Prop) : Prop :=
  alo #[(Value.int .i64 nof_2), (Value.int .i64 nof_3)] T__2int w fun a4 w5 =>
  (20 : Int) ≠ 0 ∧ Calls Pg fn_plaitlaw04_built #[(Value.int .i64 (IntKind.wrap .i64 ((2 : Int) + (IntKind.wrap .i64 (Int.tmod (IntKind.wrap .u64 nn_0) (20 : Int)))))), (Value.slice sl_1b sl_1l sl_1c)] w5 fun e8 w7 => ∃ p35_6 : Option Addr, e8 = .returned (Value.pointer p35_6) ∧
  bif (Option.isNone p35_6) then (
  R (Value.bool false) w7) else (
  ixA a4 2 (0 : Int) 1 fun a38_9 =>
  ldI .i64 a38_9 (World.drew w7) fun n39_10 =>
  (IntKind.wrap .u64 (IntKind.wrap .i64 ((2 : Int) + (IntKind.wrap .i64 (Int.tmod (IntKind.wrap .u64 nn_0) (20 : Int)))))) ≠ 0 ∧ ixA a4 2 (1 : Int) 1 fun a45_11 =>
  ldI .i64 a45_11 (World.drew w7) fun n46_12 =>
  (IntKind.wrap .u64 (IntKind.wrap .i64 ((2 : Int) + (IntKind.wrap .i64 (Int.tmod (IntKind.wrap .u64 nn_0) (20 : Int)))))) ≠ 0 ∧ Calls Pg fn_seq_Forest_List #[(Value.pointer p35_6), (Value.int .i64 (IntKind.wrap .i64 (Int.tmod (IntKind.wrap .u64 n39_10) (IntKind.wrap .u64 (IntKind.wrap .i64 ((2 : Int) + (IntKind.wrap .i64 (Int.tmod (IntKind.wrap .u64 nn_0) (20 : Int)))))))))] (World.drew w7) fun e16 w15 => ∃ s55_13b : Option Addr, ∃ s55_13l : Nat, ∃ s55_13c : Nat, ∃ v55_14 : Value, e16 = .returned (Value.tuple #[(Value.slice s55_13b s55_13l s55_13c), v55_14]) ∧
  Calls Pg fn_seq_Forest_List #[(Value.pointer p35_6), (Value.int .i64 (IntKind.wrap .i64 (Int.tmod (IntKind.wrap .u64 n46_12) (IntKind.wrap .u64 (IntKind.wrap .i64 ((2 : Int) + (IntKind.wrap .i64 (Int.tmod (IntKind.wrap .u64 nn_0) (20 : Int)))))))))] w15 fun e20 w19 => ∃ s61_17b : Option Addr, ∃ s61_17l : Nat, ∃ s61_17c : Nat, ∃ v61_18 : Value, e20 = .returned (Value.tuple #[(Value.slice s61_17b s61_17l s61_17c), v61_18]) ∧
  Calls Pg fn_seq_Forest_Sum #[(Value.pointer p35_6), (Value.int .i64 (IntKind.wrap .i64 (Int.tmod (IntKind.wrap .u64 n39_10) (IntKind.wrap .u64 (IntKind.wrap .i64 ((2 : Int) + (IntKind.wrap .i64 (Int.tmod (IntKind.wrap .u64 nn_0) (20 : Int)))))))))] w19 fun e24 w23 => ∃ n67_21 : Int, ∃ v67_22 : Value, e24 = .returned (Value.tuple #[(Value.int .i64 n67_21), v67_22]) ∧
  Calls Pg fn_seq_Forest_Sum #[(Value.pointer p35_6), (Value.int .i64 (IntKind.wrap .i64 (Int.tmod (IntKind.wrap .u64 n46_12) (IntKind.wrap .u64 (IntKind.wrap .i64 ((2 : Int) + (IntKind.wrap .i64 (Int.tmod (IntKind.wrap .u64 nn_0) (20 : Int)))))))))] w23 fun e28 w27 => ∃ n73_25 : Int, ∃ v73_26 : Value, e28 = .returned (Value.tuple #[(Value.int .i64 n73_25), v73_26]) ∧
  Calls Pg fn_seq_Forest_Same #[(Value.pointer p35_6), (Value.int .i64 (IntKind.wrap .i64 (Int.tmod (IntKind.wrap .u64 n39_10) (IntKind.wrap .u64 (IntKind.wrap .i64 ((2 : Int) + (IntKind.wrap .i64 (Int.tmod (IntKind.wrap .u64 nn_0) (20 : Int))))))))), (Value.int .i64 (IntKind.wrap .i64 (Int.tmod (IntKind.wrap .u64 n46_12) (IntKind.wrap .u64 (IntKind.wrap .i64 ((2 : Int) + (IntKind.wrap .i64 (Int.tmod (IntKind.wrap .u64 nn_0) (20 : Int)))))))))] w27 fun e32 w31 => ∃ b80_29 : Bool, ∃ v80_30 : Value, e32 = .returned (Value.tuple #[(Value.bool b80_29), v80_30]) ∧
  ∃ J33 : List Value → World → Prop, (
  isI v55_14 ∧ bif (!(nilI v55_14)) then (
  R (Value.bool false) w31) else (
  isI v61_18 ∧ bif (!(nilI v61_18)) then (
  R (Value.bool false) w31) else (
  isI v67_22 ∧ bif (!(nilI v67_22)) then (
  R (Value.bool false) w31) else (
  isI v73_26 ∧ bif (!(nilI v73_26)) then (
  R (Value.bool false) w31) else (
  isI v80_30 ∧ bif (!(nilI v80_30)) then (
  R (Value.bool false) w31) else (
  J33 [] w31)))))) ∧ ∀ _ : Env, ∀ w34 : World, J33 [] w34 →
  bif b80_29 then (
  ∃ J35 : List Value → World → Prop, (
  Calls Pg fn_seq_Forest_Join #[(Value.pointer p35_6), (Value.int .i64 (IntKind.wrap .i64 (Int.tmod (IntKind.wrap .u64 n39_10) (IntKind.wrap .u64 (IntKind.wrap .i64 ((2 : Int) + (IntKind.wrap .i64 (Int.tmod (IntKind.wrap .u64 nn_0) (20 : Int))))))))), (Value.int .i64 (IntKind.wrap .i64 (Int.tmod (IntKind.wrap .u64 n46_12) (IntKind.wrap .u64 (IntKind.wrap .i64 ((2 : Int) + (IntKind.wrap .i64 (Int.tmod (IntKind.wrap .u64 nn_0) (20 : Int)))))))))] w34 fun e38 w37 => ∃ v105_36 : Value, e38 = .returned v105_36 ∧
  Calls Pg fn_plaitlaw04_num #[v105_36] w37 fun e41 w40 => ∃ n106_39 : Int, e41 = .returned (Value.int .i64 n106_39) ∧
  bif (n106_39 == (20 : Int)) then (
  Calls Pg fn_plaitlaw04_ints #[(Value.slice s55_13b s55_13l s55_13c), (Value.slice s61_17b s61_17l s61_17c)] w40 fun e44 w43 => ∃ b111_42 : Bool, e44 = .returned (Value.bool b111_42) ∧
  bif b111_42 then (
  bif (n67_21 == n73_25) then (
  Calls Pg fn_plaitlaw04_sure #[] w43 fun e47 w46 => ∃ b119_45 : Bool, e47 = .returned (Value.bool b119_45) ∧
  J35 [(Value.bool b119_45)] w46) else (
  J35 [(Value.bool false)] w43)) else (
  J35 [(Value.bool false)] w43)) else (
  J35 [(Value.bool false)] w40)) ∧ ∀ _ : Env, ∀ b48 : Bool, ∀ w49 : World, J35 [(Value.bool b48)] w49 →
  R (Value.bool b48) w49) else (
  Calls Pg fn_seq_Forest_Join #[(Value.pointer p35_6), (Value.int .i64 (IntKind.wrap .i64 (Int.tmod (IntKind.wrap .u64 n39_10) (IntKind.wrap .u64 (IntKind.wrap .i64 ((2 : Int) + (IntKind.wrap .i64 (Int.tmod (IntKind.wrap .u64 nn_0) (20 : Int))))))))), (Value.int .i64 (IntKind.wrap .i64 (Int.tmod (IntKind.wrap .u64 n46_12) (IntKind.wrap .u64 (IntKind.wrap .i64 ((2 : Int) + (IntKind.wrap .i64 (Int.tmod (IntKind.wrap .u64 nn_0) (20 : Int)))))))))] w34 fun e52 w51 => ∃ v124_50 : Value, e52 = .returned v124_50 ∧
  isI v124_50 ∧ bif (!(nilI v124_50)) then (
  R (Value.bool false) w51) else (
  Calls Pg fn_seq_Forest_List #[(Value.pointer p35_6), (Value.int .i64 (IntKind.wrap .i64 (Int.tmod (IntKind.wrap .u64 n46_12) (IntKind.wrap .u64 (IntKind.wrap .i64 ((2 : Int) + (IntKind.wrap .i64 (Int.tmod (IntKind.wrap .u64 nn_0) (20 : Int)))))))))] w51 fun e56 w55 => ∃ s129_53b : Option Addr, ∃ s129_53l : Nat, ∃ s129_53c : Nat, ∃ v129_54 : Value, e56 = .returned (Value.tuple #[(Value.slice s129_53b s129_53l s129_53c), v129_54]) ∧
  Calls Pg fn_seq_Forest_Sum #[(Value.pointer p35_6), (Value.int .i64 (IntKind.wrap .i64 (Int.tmod (IntKind.wrap .u64 n39_10) (IntKind.wrap .u64 (IntKind.wrap .i64 ((2 : Int) + (IntKind.wrap .i64 (Int.tmod (IntKind.wrap .u64 nn_0) (20 : Int)))))))))] w55 fun e60 w59 => ∃ n135_57 : Int, ∃ v135_58 : Value, e60 = .returned (Value.tuple #[(Value.int .i64 n135_57), v135_58]) ∧
  Calls Pg fn_seq_Forest_Size #[(Value.pointer p35_6), (Value.int .i64 (IntKind.wrap .i64 (Int.tmod (IntKind.wrap .u64 n46_12) (IntKind.wrap .u64 (IntKind.wrap .i64 ((2 : Int) + (IntKind.wrap .i64 (Int.tmod (IntKind.wrap .u64 nn_0) (20 : Int)))))))))] w59 fun e64 w63 => ∃ n141_61 : Int, ∃ v141_62 : Value, e64 = .returned (Value.tuple #[(Value.int .i64 n141_61), v141_62]) ∧
  ∃ s146_65b : Option Addr, ∃ s146_65l : Nat, ∃ s146_65c : Nat, ∃ w66 : World, (Builtin.append_ #[T_sl_int, T_sl_int] T_sl_int #[(Value.slice none 0 0), (Value.slice s55_13b s55_13l s55_13c)]).run Pg w63 = .ok (Value.slice s146_65b s146_65l s146_65c) w66 ∧
  ∃ s148_67b : Option Addr, ∃ s148_67l : Nat, ∃ s148_67c : Nat, ∃ w68 : World, (Builtin.append_ #[T_sl_int, T_sl_int] T_sl_int #[(Value.slice s146_65b s146_65l s146_65c), (Value.slice s61_17b s61_17l s61_17c)]).run Pg w66 = .ok (Value.slice s148_67b s148_67l s148_67c) w68 ∧
  isI v129_54 ∧ bif (nilI v129_54) then (
  isI v135_58 ∧ bif (nilI v135_58) then (
  isI v141_62 ∧ bif (nilI v141_62) then (
  Calls Pg fn_plaitlaw04_ints #[(Value.slice s129_53b s129_53l s129_53c), (Value.slice s148_67b s148_67l s148_67c)] w68 fun e71 w70 => ∃ b162_69 : Bool, e71 = .returned (Value.bool b162_69) ∧
  bif b162_69 then (
  bif (n135_57 == (IntKind.wrap .i64 (n67_21 + n73_25))) then (
  bif (n141_61 == (IntKind.wrap .i64 ((s55_13l : Int) + (s61_17l : Int)))) then (
  Calls Pg fn_plaitlaw04_sure #[] w70 fun e74 w73 => ∃ b181_72 : Bool, e74 = .returned (Value.bool b181_72) ∧
  R (Value.bool b181_72) w73) else (
  R (Value.bool false) w70)) else (
  R (Value.bool false) w70)) else (
  R (Value.bool false) w70)) else (
  R (Value.bool false) w68)) else (
  R (Value.bool false) w68)) else (
  R (Value.bool false) w68))))
theorem eq_plaitlaw04_SeqJoins (nn_0 : Int) (sl_1b : Option Addr) (sl_1l : Nat) (sl_1c : Nat) (nof_2 : Int) (nof_3 : Int) (w : World) (R : Value → World → Prop) : sh_plaitlaw04_SeqJoins nn_0 sl_1b sl_1l sl_1c nof_2 nof_3 w R = denF Pg Eall Tryd.f4 (.seq (.leaf) (.seq (.leaf) (.seq (.leaf) (.seq (.seq (.leaf) (.cond (.seq (.leaf) (.leaf)) (.leaf))) (.seq (.reg (.tk 0 [] [] (.tk 1 [] [] (.tk 2 [] [] (.tk 3 [] [] (.tk 4 [] [] (.tk 5 [] [] (.tk 6 [] [] (.tk 7 [] [] (.tk 8 [] [] (.tk 9 [] [] (.tk 10 [] [] (.tk 11 [] [] (.tk 12 [] [] (.tk 13 [] [] (.tk 14 [] [] (.tk 15 [] [] (.fin)))))))))))))))))) (.seq (.leaf) (.seq (.leaf) (.seq (.leaf) (.seq (.leaf) (.seq (.leaf) (.join [] [] (.seq (.leaf) (.cond (.seq (.leaf) (.leaf)) (.leaf))) (.seq (.seq (.leaf) (.cond (.join [6] [.one (.bool)] (.leaf) (.leaf)) (.leaf))) (.seq (.seq (.leaf) (.cond (.seq (.leaf) (.leaf)) (.leaf))) (.seq (.leaf) (.seq (.leaf) (.seq (.leaf) (.seq (.leaf) (.seq (.leaf) (.seq (.leaf) (.leaf)))))))))))))))))))) [(Value.int .i64 nn_0), (Value.slice sl_1b sl_1l sl_1c), (Value.agg #[(Value.int .i64 nof_2), (Value.int .i64 nof_3)])] w R := by kernel_rfl
theorem calls_plaitlaw04_SeqJoins (nn_0 : Int) (sl_1b : Option Addr) (sl_1l : Nat) (sl_1c : Nat) (nof_2 : Int) (nof_3 : Int) (w : World) (R : Value → World → Prop) (h : sh_plaitlaw04_SeqJoins nn_0 sl_1b sl_1l sl_1c nof_2 nof_3 w R) : Calls Pg fn_plaitlaw04_SeqJoins #[(Value.int .i64 nn_0), (Value.slice sl_1b sl_1l sl_1c), (Value.agg #[(Value.int .i64 nof_2), (Value.int .i64 nof_3)])] w fun e w' => ∃ v, e = .returned v ∧ R v w' :=
  calls_of_den Eall_enter wide_mixed Tryd.func4 (by rw [← eq_plaitlaw04_SeqJoins]; exact h)

/-- 'plait/plaitlaw04.SeqOnce' -/
def sh_plaitlaw04_SeqOnce (nn_0 : Int) (sl_1b : Option Addr) (sl_1l : Nat) (sl_1c : Nat) (w : World) (R : Value → World → Prop) : Prop :=
  (60 : Int) ≠ 0 ∧ Calls Pg fn_seq_New #[(Value.int .i64 (IntKind.wrap .i64 ((1 : Int) + (IntKind.wrap .i64 (Int.tmod (IntKind.wrap .u64 nn_0) (60 : Int))))))] w fun e5 w4 => ∃ p28_2 : Option Addr, ∃ v28_3 : Value, e5 = .returned (Value.tuple #[(Value.pointer p28_2), v28_3]) ∧
  ∃ J6 : List Value → World → Prop, (
  isI v28_3 ∧ bif (!(nilI v28_3)) then (
  R (Value.bool false) w4) else (
  bif (Option.isNone p28_2) then (
  R (Value.bool false) w4) else (
  J6 [] w4))) ∧ ∀ _ : Env, ∀ w7 : World, J6 [] w7 →
  ∃ J8 : List Value → World → Prop, (
  ∃ (I9 : List Value → World → Prop) (m10 : List Value → World → Nat), I9 [(Value.int .i64 (0 : Int))] w7 ∧
  ∀ _ : Env, ∀ n11 : Int, ∀ w12 : World, I9 [(Value.int .i64 n11)] w12 →
  bif (decide (n11 < (sl_1l : Int))) then (
  bif (decide (n11 < (200 : Int))) then (
  ixS sl_1b sl_1l n11 4 fun a49_13 =>
  ldI .i64 (a49_13.add 1) (World.drew w12) fun n51_14 =>
  (IntKind.wrap .u64 (IntKind.wrap .i64 ((1 : Int) + (IntKind.wrap .i64 (Int.tmod (IntKind.wrap .u64 nn_0) (60 : Int)))))) ≠ 0 ∧ ixS sl_1b sl_1l n11 4 fun a59_15 =>
  ldI .i64 (a59_15.add 2) (World.drew w12) fun n61_16 =>
  (IntKind.wrap .u64 (IntKind.wrap .i64 ((1 : Int) + (IntKind.wrap .i64 (Int.tmod (IntKind.wrap .u64 nn_0) (60 : Int)))))) ≠ 0 ∧ ixS sl_1b sl_1l n11 4 fun a69_17 =>
  ldI .i64 a69_17 (World.drew w12) fun n71_18 =>
  (8 : Int) ≠ 0 ∧ bif ((IntKind.wrap .i64 (Int.tmod (IntKind.wrap .u64 n71_18) (8 : Int))) == (3 : Int)) then (
  bif ((IntKind.wrap .i64 (Int.tmod (IntKind.wrap .u64 n71_18) (8 : Int))) == (3 : Int)) then (
  Calls Pg fn_seq_Forest_Cut #[(Value.pointer p28_2), (Value.int .i64 (IntKind.wrap .i64 (Int.tmod (IntKind.wrap .u64 n51_14) (IntKind.wrap .u64 (IntKind.wrap .i64 ((1 : Int) + (IntKind.wrap .i64 (Int.tmod (IntKind.wrap .u64 nn_0) (60 : Int)))))))))] (World.drew w12) fun e22 w21 => ∃ b84_19 : Bool, ∃ v84_20 : Value, e22 = .returned (Value.tuple #[(Value.bool b84_19), v84_20]) ∧
  (I9 [(Value.int .i64 (IntKind.wrap .i64 (n11 + (1 : Int))))] w21 ∧ m10 [(Value.int .i64 (IntKind.wrap .i64 (n11 + (1 : Int))))] w21 < m10 [(Value.int .i64 n11)] w12)) else (
  bif ((IntKind.wrap .i64 (Int.tmod (IntKind.wrap .u64 n71_18) (8 : Int))) == (5 : Int)) then (
  bif ((IntKind.wrap .i64 (Int.tmod (IntKind.wrap .u64 n71_18) (8 : Int))) == (5 : Int)) then (
  Calls Pg fn_seq_Forest_Reverse #[(Value.pointer p28_2), (Value.int .i64 (IntKind.wrap .i64 (Int.tmod (IntKind.wrap .u64 n51_14) (IntKind.wrap .u64 (IntKind.wrap .i64 ((1 : Int) + (IntKind.wrap .i64 (Int.tmod (IntKind.wrap .u64 nn_0) (60 : Int)))))))))] (World.drew w12) fun e25 w24 => ∃ v90_23 : Value, e25 = .returned v90_23 ∧
  (I9 [(Value.int .i64 (IntKind.wrap .i64 (n11 + (1 : Int))))] w24 ∧ m10 [(Value.int .i64 (IntKind.wrap .i64 (n11 + (1 : Int))))] w24 < m10 [(Value.int .i64 n11)] w12)) else (
  Calls Pg fn_seq_Forest_Join #[(Value.pointer p28_2), (Value.int .i64 (IntKind.wrap .i64 (Int.tmod (IntKind.wrap .u64 n51_14) (IntKind.wrap .u64 (IntKind.wrap .i64 ((1 : Int) + (IntKind.wrap .i64 (Int.tmod (IntKind.wrap .u64 nn_0) (60 : Int))))))))), (Value.int .i64 (IntKind.wrap .i64 (Int.tmod (IntKind.wrap .u64 n61_16) (IntKind.wrap .u64 (IntKind.wrap .i64 ((1 : Int) + (IntKind.wrap .i64 (Int.tmod (IntKind.wrap .u64 nn_0) (60 : Int)))))))))] (World.drew w12) fun e28 w27 => ∃ v78_26 : Value, e28 = .returned v78_26 ∧
  (I9 [(Value.int .i64 (IntKind.wrap .i64 (n11 + (1 : Int))))] w27 ∧ m10 [(Value.int .i64 (IntKind.wrap .i64 (n11 + (1 : Int))))] w27 < m10 [(Value.int .i64 n11)] w12))) else (
  bif ((IntKind.wrap .i64 (Int.tmod (IntKind.wrap .u64 n71_18) (8 : Int))) == (6 : Int)) then (
  Calls Pg fn_seq_Forest_Reverse #[(Value.pointer p28_2), (Value.int .i64 (IntKind.wrap .i64 (Int.tmod (IntKind.wrap .u64 n51_14) (IntKind.wrap .u64 (IntKind.wrap .i64 ((1 : Int) + (IntKind.wrap .i64 (Int.tmod (IntKind.wrap .u64 nn_0) (60 : Int)))))))))] (World.drew w12) fun e31 w30 => ∃ v90_29 : Value, e31 = .returned v90_29 ∧
  (I9 [(Value.int .i64 (IntKind.wrap .i64 (n11 + (1 : Int))))] w30 ∧ m10 [(Value.int .i64 (IntKind.wrap .i64 (n11 + (1 : Int))))] w30 < m10 [(Value.int .i64 n11)] w12)) else (
  Calls Pg fn_seq_Forest_Join #[(Value.pointer p28_2), (Value.int .i64 (IntKind.wrap .i64 (Int.tmod (IntKind.wrap .u64 n51_14) (IntKind.wrap .u64 (IntKind.wrap .i64 ((1 : Int) + (IntKind.wrap .i64 (Int.tmod (IntKind.wrap .u64 nn_0) (60 : Int))))))))), (Value.int .i64 (IntKind.wrap .i64 (Int.tmod (IntKind.wrap .u64 n61_16) (IntKind.wrap .u64 (IntKind.wrap .i64 ((1 : Int) + (IntKind.wrap .i64 (Int.tmod (IntKind.wrap .u64 nn_0) (60 : Int)))))))))] (World.drew w12) fun e34 w33 => ∃ v78_32 : Value, e34 = .returned v78_32 ∧
  (I9 [(Value.int .i64 (IntKind.wrap .i64 (n11 + (1 : Int))))] w33 ∧ m10 [(Value.int .i64 (IntKind.wrap .i64 (n11 + (1 : Int))))] w33 < m10 [(Value.int .i64 n11)] w12))))) else (
  bif ((IntKind.wrap .i64 (Int.tmod (IntKind.wrap .u64 n71_18) (8 : Int))) == (4 : Int)) then (
  Calls Pg fn_seq_Forest_Cut #[(Value.pointer p28_2), (Value.int .i64 (IntKind.wrap .i64 (Int.tmod (IntKind.wrap .u64 n51_14) (IntKind.wrap .u64 (IntKind.wrap .i64 ((1 : Int) + (IntKind.wrap .i64 (Int.tmod (IntKind.wrap .u64 nn_0) (60 : Int)))))))))] (World.drew w12) fun e38 w37 => ∃ b84_35 : Bool, ∃ v84_36 : Value, e38 = .returned (Value.tuple #[(Value.bool b84_35), v84_36]) ∧
  (I9 [(Value.int .i64 (IntKind.wrap .i64 (n11 + (1 : Int))))] w37 ∧ m10 [(Value.int .i64 (IntKind.wrap .i64 (n11 + (1 : Int))))] w37 < m10 [(Value.int .i64 n11)] w12)) else (
  bif ((IntKind.wrap .i64 (Int.tmod (IntKind.wrap .u64 n71_18) (8 : Int))) == (5 : Int)) then (
  bif ((IntKind.wrap .i64 (Int.tmod (IntKind.wrap .u64 n71_18) (8 : Int))) == (5 : Int)) then (
  Calls Pg fn_seq_Forest_Reverse #[(Value.pointer p28_2), (Value.int .i64 (IntKind.wrap .i64 (Int.tmod (IntKind.wrap .u64 n51_14) (IntKind.wrap .u64 (IntKind.wrap .i64 ((1 : Int) + (IntKind.wrap .i64 (Int.tmod (IntKind.wrap .u64 nn_0) (60 : Int)))))))))] (World.drew w12) fun e41 w40 => ∃ v90_39 : Value, e41 = .returned v90_39 ∧
  (I9 [(Value.int .i64 (IntKind.wrap .i64 (n11 + (1 : Int))))] w40 ∧ m10 [(Value.int .i64 (IntKind.wrap .i64 (n11 + (1 : Int))))] w40 < m10 [(Value.int .i64 n11)] w12)) else (
  Calls Pg fn_seq_Forest_Join #[(Value.pointer p28_2), (Value.int .i64 (IntKind.wrap .i64 (Int.tmod (IntKind.wrap .u64 n51_14) (IntKind.wrap .u64 (IntKind.wrap .i64 ((1 : Int) + (IntKind.wrap .i64 (Int.tmod (IntKind.wrap .u64 nn_0) (60 : Int))))))))), (Value.int .i64 (IntKind.wrap .i64 (Int.tmod (IntKind.wrap .u64 n61_16) (IntKind.wrap .u64 (IntKind.wrap .i64 ((1 : Int) + (IntKind.wrap .i64 (Int.tmod (IntKind.wrap .u64 nn_0) (60 : Int)))))))))] (World.drew w12) fun e44 w43 => ∃ v78_42 : Value, e44 = .returned v78_42 ∧
  (I9 [(Value.int .i64 (IntKind.wrap .i64 (n11 + (1 : Int))))] w43 ∧ m10 [(Value.int .i64 (IntKind.wrap .i64 (n11 + (1 : Int))))] w43 < m10 [(Value.int .i64 n11)] w12))) else (
  bif ((IntKind.wrap .i64 (Int.tmod (IntKind.wrap .u64 n71_18) (8 : Int))) == (6 : Int)) then (
  Calls Pg fn_seq_Forest_Reverse #[(Value.pointer p28_2), (Value.int .i64 (IntKind.wrap .i64 (Int.tmod (IntKind.wrap .u64 n51_14) (IntKind.wrap .u64 (IntKind.wrap .i64 ((1 : Int) + (IntKind.wrap .i64 (Int.tmod (IntKind.wrap .u64 nn_0) (60 : Int)))))))))] (World.drew w12) fun e47 w46 => ∃ v90_45 : Value, e47 = .returned v90_45 ∧
  (I9 [(Value.int .i64 (IntKind.wrap .i64 (n11 + (1 : Int))))] w46 ∧ m10 [(Value.int .i64 (IntKind.wrap .i64 (n11 + (1 : Int))))] w46 < m10 [(Value.int .i64 n11)] w12)) else (
  Calls Pg fn_seq_Forest_Join #[(Value.pointer p28_2), (Value.int .i64 (IntKind.wrap .i64 (Int.tmod (IntKind.wrap .u64 n51_14) (IntKind.wrap .u64 (IntKind.wrap .i64 ((1 : Int) + (IntKind.wrap .i64 (Int.tmod (IntKind.wrap .u64 nn_0) (60 : Int))))))))), (Value.int .i64 (IntKind.wrap .i64 (Int.tmod (IntKind.wrap .u64 n61_16) (IntKind.wrap .u64 (IntKind.wrap .i64 ((1 : Int) + (IntKind.wrap .i64 (Int.tmod (IntKind.wrap .u64 nn_0) (60 : Int)))))))))] (World.drew w12) fun e50 w49 => ∃ v78_48 : Value, e50 = .returned v78_48 ∧
  (I9 [(Value.int .i64 (IntKind.wrap .i64 (n11 + (1 : Int))))] w49 ∧ m10 [(Value.int .i64 (IntKind.wrap .i64 (n11 + (1 : Int))))] w49 < m10 [(Value.int .i64 n11)] w12)))))) else (
  J8 [] w12)) else (
  J8 [] w12)) ∧ ∀ _ : Env, ∀ w51 : World, J8 [] w51 →
  0 ≤ (IntKind.wrap .i64 ((1 : Int) + (IntKind.wrap .i64 (Int.tmod (IntKind.wrap .u64 nn_0) (60 : Int))))) ∧ (IntKind.wrap .i64 ((1 : Int) + (IntKind.wrap .i64 (Int.tmod (IntKind.wrap .u64 nn_0) (60 : Int))))) ≤ (IntKind.wrap .i64 ((1 : Int) + (IntKind.wrap .i64 (Int.tmod (IntKind.wrap .u64 nn_0) (60 : Int))))) ∧ (8 : Int) * (IntKind.wrap .i64 ((1 : Int) + (IntKind.wrap .i64 (Int.tmod (IntKind.wrap .u64 nn_0) (60 : Int))))) ≤ 140737488355328 ∧ alo (zerosOf #[(Value.int .i64 (0 : Int))] (Int.toNat (IntKind.wrap .i64 ((1 : Int) + (IntKind.wrap .i64 (Int.tmod (IntKind.wrap .u64 nn_0) (60 : Int))))))) T_int w51 fun a52 w53 =>
  ∃ (I54 : List Value → World → Prop) (m55 : List Value → World → Nat), I54 [(Value.int .i64 (0 : Int))] w53 ∧
  ∀ _ : Env, ∀ n56 : Int, ∀ w57 : World, I54 [(Value.int .i64 n56)] w57 →
  bif (decide (n56 < (IntKind.wrap .i64 ((1 : Int) + (IntKind.wrap .i64 (Int.tmod (IntKind.wrap .u64 nn_0) (60 : Int))))))) then (
  ixS (some a52) (Int.toNat (IntKind.wrap .i64 ((1 : Int) + (IntKind.wrap .i64 (Int.tmod (IntKind.wrap .u64 nn_0) (60 : Int)))))) n56 1 fun a100_58 =>
  ldI .i64 a100_58 w57 fun n101_59 =>
  bif (decide (n101_59 > (0 : Int))) then (
  (I54 [(Value.int .i64 (IntKind.wrap .i64 (n56 + (1 : Int))))] w57 ∧ m55 [(Value.int .i64 (IntKind.wrap .i64 (n56 + (1 : Int))))] w57 < m55 [(Value.int .i64 n56)] w57)) else (
  Calls Pg fn_seq_Forest_List #[(Value.pointer p28_2), (Value.int .i64 n56)] w57 fun e63 w62 => ∃ s106_60b : Option Addr, ∃ s106_60l : Nat, ∃ s106_60c : Nat, ∃ v106_61 : Value, e63 = .returned (Value.tuple #[(Value.slice s106_60b s106_60l s106_60c), v106_61]) ∧
  isI v106_61 ∧ bif (!(nilI v106_61)) then (
  R (Value.bool false) w62) else (
  ∃ (I64 : List Value → World → Prop) (m65 : List Value → World → Nat), I64 [(Value.int .i64 (0 : Int))] w62 ∧
  ∀ _ : Env, ∀ n66 : Int, ∀ w67 : World, I64 [(Value.int .i64 n66)] w67 →
  bif (decide (n66 < (s106_60l : Int))) then (
  ixS s106_60b s106_60l n66 1 fun a119_68 =>
  ldI .i64 a119_68 w67 fun n120_69 =>
  bif (decide (n120_69 < (0 : Int))) then (
  R (Value.bool false) w67) else (
  ixS s106_60b s106_60l n66 1 fun a125_70 =>
  ldI .i64 a125_70 w67 fun n126_71 =>
  bif (decide (n126_71 ≥ (IntKind.wrap .i64 ((1 : Int) + (IntKind.wrap .i64 (Int.tmod (IntKind.wrap .u64 nn_0) (60 : Int))))))) then (
  R (Value.bool false) w67) else (
  ixS s106_60b s106_60l n66 1 fun a133_72 =>
  ldI .i64 a133_72 w67 fun n134_73 =>
  ixS (some a52) (Int.toNat (IntKind.wrap .i64 ((1 : Int) + (IntKind.wrap .i64 (Int.tmod (IntKind.wrap .u64 nn_0) (60 : Int)))))) n134_73 1 fun a135_74 =>
  ldI .i64 a135_74 w67 fun n136_75 =>
  ixS (some a52) (Int.toNat (IntKind.wrap .i64 ((1 : Int) + (IntKind.wrap .i64 (Int.tmod (IntKind.wrap .u64 nn_0) (60 : Int)))))) n134_73 1 fun a138_76 =>
  sto a138_76 (Value.int .i64 (IntKind.wrap .i64 (n136_75 + (1 : Int)))) w67 fun w77 =>
  ixS s106_60b s106_60l n66 1 fun a143_78 =>
  ldI .i64 a143_78 w77 fun n144_79 =>
  Calls Pg fn_seq_Forest_Rank #[(Value.pointer p28_2), (Value.int .i64 n144_79)] w77 fun e83 w82 => ∃ n145_80 : Int, ∃ v145_81 : Value, e83 = .returned (Value.tuple #[(Value.int .i64 n145_80), v145_81]) ∧
  Calls Pg fn_seq_Forest_At #[(Value.pointer p28_2), (Value.int .i64 n56), (Value.int .i64 n66)] w82 fun e87 w86 => ∃ n152_84 : Int, ∃ v152_85 : Value, e87 = .returned (Value.tuple #[(Value.int .i64 n152_84), v152_85]) ∧
  isI v145_81 ∧ bif (!(nilI v145_81)) then (
  R (Value.bool false) w86) else (
  isI v152_85 ∧ bif (!(nilI v152_85)) then (
  R (Value.bool false) w86) else (
  bif (n145_80 != n66) then (
  R (Value.bool false) w86) else (
  ixS s106_60b s106_60l n66 1 fun a170_88 =>
  ldI .i64 a170_88 w86 fun n171_89 =>
  bif (n152_84 != n171_89) then (
  R (Value.bool false) w86) else (
  (I64 [(Value.int .i64 (IntKind.wrap .i64 (n66 + (1 : Int))))] w86 ∧ m65 [(Value.int .i64 (IntKind.wrap .i64 (n66 + (1 : Int))))] w86 < m65 [(Value.int .i64 n66)] w67)))))))) else (
  (I54 [(Value.int .i64 (IntKind.wrap .i64 (n56 + (1 : Int))))] w67 ∧ m55 [(Value.int .i64 (IntKind.wrap .i64 (n56 + (1 : Int))))] w67 < m55 [(Value.int .i64 n56)] w57))))) else (
  ∃ (I90 : List Value → World → Prop) (m91 : List Value → World → Nat), I90 [(Value.int .i64 (0 : Int))] w57 ∧
  ∀ _ : Env, ∀ n92 : Int, ∀ w93 : World, I90 [(Value.int .i64 n92)] w93 →
  bif (decide (n92 < (IntKind.wrap .i64 ((1 : Int) + (IntKind.wrap .i64 (Int.tmod (IntKind.wrap .u64 nn_0) (60 : Int))))))) then (
  ixS (some a52) (Int.toNat (IntKind.wrap .i64 ((1 : Int) + (IntKind.wrap .i64 (Int.tmod (IntKind.wrap .u64 nn_0) (60 : Int)))))) n92 1 fun a181_94 =>
  ldI .i64 a181_94 w93 fun n182_95 =>
  bif (n182_95 != (1 : Int)) then (
  R (Value.bool false) w93) else (
  (I90 [(Value.int .i64 (IntKind.wrap .i64 (n92 + (1 : Int))))] w93 ∧ m91 [(Value.int .i64 (IntKind.wrap .i64 (n92 + (1 : Int))))] w93 < m91 [(Value.int .i64 n92)] w93))) else (
  Calls Pg fn_plaitlaw04_sure #[] w93 fun e98 w97 => ∃ b184_96 : Bool, e98 = .returned (Value.bool b184_96) ∧
  R (Value.bool b184_96) w97))
theorem eq_plaitlaw04_SeqOnce (nn_0 : Int) (sl_1b : Option Addr) (sl_1l : Nat) (sl_1c : Nat) (w : World) (R : Value → World → Prop) : sh_plaitlaw04_SeqOnce nn_0 sl_1b sl_1l sl_1c w R = denF Pg Eall Tryd.f5 (.seq (.leaf) (.seq (.leaf) (.seq (.leaf) (.join [] [] (.seq (.leaf) (.cond (.seq (.leaf) (.leaf)) (.leaf))) (.join [] [] (.seq (.leaf) (.block (.loop [8] [.one (.int .i64)] (.seq (.seq (.leaf) (.cond (.leaf) (.leaf))) (.seq (.block (.seq (.reg (.tk 0 [] [] (.tk 1 [] [] (.tk 2 [] [] (.tk 3 [] [] (.tk 4 [] [] (.tk 5 [] [] (.tk 6 [] [] (.tk 7 [] [] (.tk 8 [] [] (.tk 9 [] [] (.tk 10 [] [] (.tk 11 [] [] (.tk 12 [] [] (.tk 13 [] [] (.tk 14 [] [] (.tk 15 [] [] (.tk 16 [] [] (.tk 17 [] [] (.tk 18 [] [] (.tk 19 [] [] (.tk 20 [] [] (.tk 21 [] [] (.fin)))))))))))))))))))))))) (.seq (.leaf) (.block (.seq (.seq (.leaf) (.cond (.leaf) (.leaf))) (.cond (.leaf) (.seq (.seq (.leaf) (.cond (.leaf) (.leaf))) (.cond (.leaf) (.leaf))))))))) (.leaf)))))) (.seq (.leaf) (.seq (.seq (.leaf) (.block (.loop [12] [.one (.int .i64)] (.seq (.seq (.leaf) (.cond (.leaf) (.leaf))) (.seq (.block (.seq (.seq (.leaf) (.cond (.leaf) (.leaf))) (.seq (.leaf) (.seq (.seq (.leaf) (.cond (.seq (.leaf) (.leaf)) (.leaf))) (.seq (.leaf) (.block (.loop [15] [.one (.int .i64)] (.seq (.seq (.leaf) (.cond (.leaf) (.leaf))) (.seq (.block (.seq (.seq (.leaf) (.cond (.seq (.leaf) (.leaf)) (.leaf))) (.seq (.leaf) (.seq (.leaf) (.seq (.leaf) (.seq (.leaf) (.cond (.seq (.leaf) (.leaf)) (.leaf)))))))) (.leaf)))))))))) (.leaf)))))) (.seq (.seq (.leaf) (.block (.loop [20] [.one (.int .i64)] (.seq (.seq (.leaf) (.cond (.leaf) (.leaf))) (.seq (.block (.seq (.leaf) (.cond (.seq (.leaf) (.leaf)) (.leaf)))) (.leaf)))))) (.seq (.leaf) (.leaf)))))))))) [(Value.int .i64 nn_0), (Value.slice sl_1b sl_1l sl_1c)] w R := by kernel_rfl
theorem calls_plaitlaw04_SeqOnce (nn_0 : Int) (sl_1b : Option Addr) (sl_1l : Nat) (sl_1c : Nat) (w : World) (R : Value → World → Prop) (h : sh_plaitlaw04_SeqOnce nn_0 sl_1b sl_1l sl_1c w R) : Calls Pg fn_plaitlaw04_SeqOnce #[(Value.int .i64 nn_0), (Value.slice sl_1b sl_1l sl_1c)] w fun e w' => ∃ v, e = .returned v ∧ R v w' :=
  calls_of_den Eall_enter wide_mixed Tryd.func5 (by rw [← eq_plaitlaw04_SeqOnce]; exact h)

/-- 'plait/plaitlaw04.SeqTurns' -/
def sh_plaitlaw04_SeqTurns (nn_0 : Int) (sl_1b : Option Addr) (sl_1l : Nat) (sl_1c : Nat) (nof_2 : Int) (nof_3 : Int) (w : World) (R : Value → World → Prop) : Prop :=
  alo #[(Value.int .i64 nof_2), (Value.int .i64 nof_3)] T__2int w fun a4 w5 =>
  (20 : Int) ≠ 0 ∧ Calls Pg fn_plaitlaw04_built #[(Value.int .i64 (IntKind.wrap .i64 ((1 : Int) + (IntKind.wrap .i64 (Int.tmod (IntKind.wrap .u64 nn_0) (20 : Int)))))), (Value.slice sl_1b sl_1l sl_1c)] w5 fun e8 w7 => ∃ p29_6 : Option Addr, e8 = .returned (Value.pointer p29_6) ∧
  bif (Option.isNone p29_6) then (
  R (Value.bool false) w7) else (
  ixA a4 2 (0 : Int) 1 fun a32_9 =>
  ldI .i64 a32_9 w7 fun n33_10 =>
  (IntKind.wrap .u64 (IntKind.wrap .i64 ((1 : Int) + (IntKind.wrap .i64 (Int.tmod (IntKind.wrap .u64 nn_0) (20 : Int)))))) ≠ 0 ∧ Calls Pg fn_seq_Forest_List #[(Value.pointer p29_6), (Value.int .i64 (IntKind.wrap .i64 (Int.tmod (IntKind.wrap .u64 n33_10) (IntKind.wrap .u64 (IntKind.wrap .i64 ((1 : Int) + (IntKind.wrap .i64 (Int.tmod (IntKind.wrap .u64 nn_0) (20 : Int)))))))))] w7 fun e14 w13 => ∃ s42_11b : Option Addr, ∃ s42_11l : Nat, ∃ s42_11c : Nat, ∃ v42_12 : Value, e14 = .returned (Value.tuple #[(Value.slice s42_11b s42_11l s42_11c), v42_12]) ∧
  Calls Pg fn_seq_Forest_Sum #[(Value.pointer p29_6), (Value.int .i64 (IntKind.wrap .i64 (Int.tmod (IntKind.wrap .u64 n33_10) (IntKind.wrap .u64 (IntKind.wrap .i64 ((1 : Int) + (IntKind.wrap .i64 (Int.tmod (IntKind.wrap .u64 nn_0) (20 : Int)))))))))] w13 fun e18 w17 => ∃ n48_15 : Int, ∃ v48_16 : Value, e18 = .returned (Value.tuple #[(Value.int .i64 n48_15), v48_16]) ∧
  ∃ J19 : List Value → World → Prop, (
  isI v42_12 ∧ bif (!(nilI v42_12)) then (
  R (Value.bool false) w17) else (
  isI v48_16 ∧ bif (!(nilI v48_16)) then (
  R (Value.bool false) w17) else (
  bif ((s42_11l : Int) == (0 : Int)) then (
  R (Value.bool false) w17) else (
  Calls Pg fn_seq_Forest_Reverse #[(Value.pointer p29_6), (Value.int .i64 (IntKind.wrap .i64 (Int.tmod (IntKind.wrap .u64 n33_10) (IntKind.wrap .u64 (IntKind.wrap .i64 ((1 : Int) + (IntKind.wrap .i64 (Int.tmod (IntKind.wrap .u64 nn_0) (20 : Int)))))))))] w17 fun e22 w21 => ∃ v65_20 : Value, e22 = .returned v65_20 ∧
  isI v65_20 ∧ bif (!(nilI v65_20)) then (
  R (Value.bool false) w21) else (
  J19 [] w21))))) ∧ ∀ _ : Env, ∀ w23 : World, J19 [] w23 →
  ixA a4 2 (1 : Int) 1 fun a68_24 =>
  ldI .i64 a68_24 w23 fun n69_25 =>
  (IntKind.wrap .u64 (s42_11l : Int)) ≠ 0 ∧ Calls Pg fn_seq_Forest_List #[(Value.pointer p29_6), (Value.int .i64 (IntKind.wrap .i64 (Int.tmod (IntKind.wrap .u64 n33_10) (IntKind.wrap .u64 (IntKind.wrap .i64 ((1 : Int) + (IntKind.wrap .i64 (Int.tmod (IntKind.wrap .u64 nn_0) (20 : Int)))))))))] w23 fun e29 w28 => ∃ s79_26b : Option Addr, ∃ s79_26l : Nat, ∃ s79_26c : Nat, ∃ v79_27 : Value, e29 = .returned (Value.tuple #[(Value.slice s79_26b s79_26l s79_26c), v79_27]) ∧
  Calls Pg fn_seq_Forest_Sum #[(Value.pointer p29_6), (Value.int .i64 (IntKind.wrap .i64 (Int.tmod (IntKind.wrap .u64 n33_10) (IntKind.wrap .u64 (IntKind.wrap .i64 ((1 : Int) + (IntKind.wrap .i64 (Int.tmod (IntKind.wrap .u64 nn_0) (20 : Int)))))))))] w28 fun e33 w32 => ∃ n85_30 : Int, ∃ v85_31 : Value, e33 = .returned (Value.tuple #[(Value.int .i64 n85_30), v85_31]) ∧
  Calls Pg fn_seq_Forest_At #[(Value.pointer p29_6), (Value.int .i64 (IntKind.wrap .i64 (Int.tmod (IntKind.wrap .u64 n33_10) (IntKind.wrap .u64 (IntKind.wrap .i64 ((1 : Int) + (IntKind.wrap .i64 (Int.tmod (IntKind.wrap .u64 nn_0) (20 : Int))))))))), (Value.int .i64 (IntKind.wrap .i64 (Int.tmod (IntKind.wrap .u64 n69_25) (IntKind.wrap .u64 (s42_11l : Int)))))] w32 fun e37 w36 => ∃ n92_34 : Int, ∃ v92_35 : Value, e37 = .returned (Value.tuple #[(Value.int .i64 n92_34), v92_35]) ∧
  ∃ J38 : List Value → World → Prop, (
  isI v79_27 ∧ bif (!(nilI v79_27)) then (
  R (Value.bool false) w36) else (
  isI v85_31 ∧ bif (!(nilI v85_31)) then (
  R (Value.bool false) w36) else (
  isI v92_35 ∧ bif (!(nilI v92_35)) then (
  R (Value.bool false) w36) else (
  bif (n48_15 != n85_30) then (
  R (Value.bool false) w36) else (
  bif ((s79_26l : Int) != (s42_11l : Int)) then (
  R (Value.bool false) w36) else (
  ixS s42_11b s42_11l (IntKind.wrap .i64 ((IntKind.wrap .i64 ((s42_11l : Int) - (1 : Int))) - (IntKind.wrap .i64 (Int.tmod (IntKind.wrap .u64 n69_25) (IntKind.wrap .u64 (s42_11l : Int)))))) 1 fun a125_39 =>
  ldI .i64 a125_39 w36 fun n126_40 =>
  bif (n92_34 != n126_40) then (
  R (Value.bool false) w36) else (
  J38 [] w36))))))) ∧ ∀ _ : Env, ∀ w41 : World, J38 [] w41 →
  ∃ (I42 : List Value → World → Prop) (m43 : List Value → World → Nat), I42 [(Value.int .i64 (0 : Int))] w41 ∧
  ∀ _ : Env, ∀ n44 : Int, ∀ w45 : World, I42 [(Value.int .i64 n44)] w45 →
  bif (decide (n44 < (s42_11l : Int))) then (
  ixS s79_26b s79_26l n44 1 fun a137_46 =>
  ldI .i64 a137_46 (World.drew w45) fun n138_47 =>
  ixS s42_11b s42_11l (IntKind.wrap .i64 ((IntKind.wrap .i64 ((s42_11l : Int) - (1 : Int))) - n44)) 1 fun a145_48 =>
  ldI .i64 a145_48 (World.drew w45) fun n146_49 =>
  bif (n138_47 != n146_49) then (
  R (Value.bool false) (World.drew w45)) else (
  (I42 [(Value.int .i64 (IntKind.wrap .i64 (n44 + (1 : Int))))] (World.drew w45) ∧ m43 [(Value.int .i64 (IntKind.wrap .i64 (n44 + (1 : Int))))] (World.drew w45) < m43 [(Value.int .i64 n44)] w45))) else (
  Calls Pg fn_plaitlaw04_sure #[] w45 fun e52 w51 => ∃ b148_50 : Bool, e52 = .returned (Value.bool b148_50) ∧
  R (Value.bool b148_50) w51))
theorem eq_plaitlaw04_SeqTurns (nn_0 : Int) (sl_1b : Option Addr) (sl_1l : Nat) (sl_1c : Nat) (nof_2 : Int) (nof_3 : Int) (w : World) (R : Value → World → Prop) : sh_plaitlaw04_SeqTurns nn_0 sl_1b sl_1l sl_1c nof_2 nof_3 w R = denF Pg Eall Tryd.f6 (.seq (.leaf) (.seq (.leaf) (.seq (.leaf) (.seq (.seq (.leaf) (.cond (.seq (.leaf) (.leaf)) (.leaf))) (.seq (.leaf) (.seq (.leaf) (.seq (.leaf) (.join [] [] (.seq (.leaf) (.cond (.seq (.leaf) (.leaf)) (.leaf))) (.seq (.leaf) (.seq (.leaf) (.seq (.leaf) (.seq (.leaf) (.join [] [] (.seq (.leaf) (.cond (.seq (.leaf) (.leaf)) (.leaf))) (.seq (.seq (.leaf) (.block (.loop [21] [.one (.int .i64)] (.seq (.seq (.leaf) (.cond (.leaf) (.leaf))) (.seq (.block (.seq (.reg (.tk 0 [] [] (.tk 1 [] [] (.tk 2 [] [] (.tk 3 [] [] (.tk 4 [] [] (.tk 5 [] [] (.tk 6 [] [] (.tk 7 [] [] (.tk 8 [] [] (.tk 9 [] [] (.tk 10 [] [] (.tk 11 [] [] (.tk 12 [] [] (.fin))))))))))))))) (.cond (.seq (.leaf) (.leaf)) (.leaf)))) (.leaf)))))) (.seq (.leaf) (.leaf)))))))))))))))) [(Value.int .i64 nn_0), (Value.slice sl_1b sl_1l sl_1c), (Value.agg #[(Value.int .i64 nof_2), (Value.int .i64 nof_3)])] w R := by kernel_rfl
theorem calls_plaitlaw04_SeqTurns (nn_0 : Int) (sl_1b : Option Addr) (sl_1l : Nat) (sl_1c : Nat) (nof_2 : Int) (nof_3 : Int) (w : World) (R : Value → World → Prop) (h : sh_plaitlaw04_SeqTurns nn_0 sl_1b sl_1l sl_1c nof_2 nof_3 w R) : Calls Pg fn_plaitlaw04_SeqTurns #[(Value.int .i64 nn_0), (Value.slice sl_1b sl_1l sl_1c), (Value.agg #[(Value.int .i64 nof_2), (Value.int .i64 nof_3)])] w fun e w' => ∃ v, e = .returned v ∧ R v w' :=
  calls_of_den Eall_enter wide_mixed Tryd.func6 (by rw [← eq_plaitlaw04_SeqTurns]; exact h)

/-- 'plait/plaitlaw04.SeqLeast' -/
def sh_plaitlaw04_SeqLeast (nn_0 : Int) (sl_1b : Option Addr) (sl_1l : Nat) (sl_1c : Nat) (nx_2 : Int) (w : World) (R : Value → World → Prop) : Prop :=
  (20 : Int) ≠ 0 ∧ Calls Pg fn_plaitlaw04_built #[(Value.int .i64 (IntKind.wrap .i64 ((1 : Int) + (IntKind.wrap .i64 (Int.tmod (IntKind.wrap .u64 nn_0) (20 : Int)))))), (Value.slice sl_1b sl_1l sl_1c)] w fun e5 w4 => ∃ p32_3 : Option Addr, e5 = .returned (Value.pointer p32_3) ∧
  bif (Option.isNone p32_3) then (
  R (Value.bool false) w4) else (
  (IntKind.wrap .u64 (IntKind.wrap .i64 ((1 : Int) + (IntKind.wrap .i64 (Int.tmod (IntKind.wrap .u64 nn_0) (20 : Int)))))) ≠ 0 ∧ Calls Pg fn_seq_Forest_Least #[(Value.pointer p32_3), (Value.int .i64 (IntKind.wrap .i64 (Int.tmod (IntKind.wrap .u64 nx_2) (IntKind.wrap .u64 (IntKind.wrap .i64 ((1 : Int) + (IntKind.wrap .i64 (Int.tmod (IntKind.wrap .u64 nn_0) (20 : Int)))))))))] w4 fun e9 w8 => ∃ n44_6 : Int, ∃ v44_7 : Value, e9 = .returned (Value.tuple #[(Value.int .i64 n44_6), v44_7]) ∧
  Calls Pg fn_seq_Forest_Most #[(Value.pointer p32_3), (Value.int .i64 (IntKind.wrap .i64 (Int.tmod (IntKind.wrap .u64 nx_2) (IntKind.wrap .u64 (IntKind.wrap .i64 ((1 : Int) + (IntKind.wrap .i64 (Int.tmod (IntKind.wrap .u64 nn_0) (20 : Int)))))))))] w8 fun e13 w12 => ∃ n50_10 : Int, ∃ v50_11 : Value, e13 = .returned (Value.tuple #[(Value.int .i64 n50_10), v50_11]) ∧
  Calls Pg fn_seq_Forest_List #[(Value.pointer p32_3), (Value.int .i64 (IntKind.wrap .i64 (Int.tmod (IntKind.wrap .u64 nx_2) (IntKind.wrap .u64 (IntKind.wrap .i64 ((1 : Int) + (IntKind.wrap .i64 (Int.tmod (IntKind.wrap .u64 nn_0) (20 : Int)))))))))] w12 fun e17 w16 => ∃ s56_14b : Option Addr, ∃ s56_14l : Nat, ∃ s56_14c : Nat, ∃ v56_15 : Value, e17 = .returned (Value.tuple #[(Value.slice s56_14b s56_14l s56_14c), v56_15]) ∧
  ∃ J18 : List Value → World → Prop, (
  isI v44_7 ∧ bif (!(nilI v44_7)) then (
  R (Value.bool false) w16) else (
  isI v50_11 ∧ bif (!(nilI v50_11)) then (
  R (Value.bool false) w16) else (
  isI v56_15 ∧ bif (!(nilI v56_15)) then (
  R (Value.bool false) w16) else (
  bif ((s56_14l : Int) == (0 : Int)) then (
  R (Value.bool false) w16) else (
  J18 [] w16))))) ∧ ∀ _ : Env, ∀ w19 : World, J18 [] w19 →
  ∃ (I20 : List Value → World → Prop) (m21 : List Value → World → Nat), I20 [(Value.int .i64 (0 : Int))] w19 ∧
  ∀ _ : Env, ∀ n22 : Int, ∀ w23 : World, I20 [(Value.int .i64 n22)] w23 →
  bif (decide (n22 < (s56_14l : Int))) then (
  ixS s56_14b s56_14l n22 1 fun a83_24 =>
  ldI .i64 a83_24 w23 fun n84_25 =>
  Calls Pg fn_seq_Forest_Set #[(Value.pointer p32_3), (Value.int .i64 n84_25), (Value.int .i64 (-4611686018427387904 : Int))] w23 fun e28 w27 => ∃ v85_26 : Value, e28 = .returned v85_26 ∧
  isI v85_26 ∧ bif (!(nilI v85_26)) then (
  R (Value.bool false) w27) else (
  Calls Pg fn_seq_Forest_Least #[(Value.pointer p32_3), (Value.int .i64 (IntKind.wrap .i64 (Int.tmod (IntKind.wrap .u64 nx_2) (IntKind.wrap .u64 (IntKind.wrap .i64 ((1 : Int) + (IntKind.wrap .i64 (Int.tmod (IntKind.wrap .u64 nn_0) (20 : Int)))))))))] w27 fun e32 w31 => ∃ n90_29 : Int, ∃ v90_30 : Value, e32 = .returned (Value.tuple #[(Value.int .i64 n90_29), v90_30]) ∧
  isI v90_30 ∧ bif (!(nilI v90_30)) then (
  R (Value.bool false) w31) else (
  ixS s56_14b s56_14l n22 1 fun a99_33 =>
  ldI .i64 a99_33 w31 fun n100_34 =>
  bif (n90_29 != n100_34) then (
  R (Value.bool false) w31) else (
  ixS s56_14b s56_14l n22 1 fun a107_35 =>
  ldI .i64 a107_35 w31 fun n108_36 =>
  Calls Pg fn_seq_Forest_Set #[(Value.pointer p32_3), (Value.int .i64 n108_36), (Value.int .i64 (4611686018427387904 : Int))] w31 fun e39 w38 => ∃ v109_37 : Value, e39 = .returned v109_37 ∧
  isI v109_37 ∧ bif (!(nilI v109_37)) then (
  R (Value.bool false) w38) else (
  Calls Pg fn_seq_Forest_Most #[(Value.pointer p32_3), (Value.int .i64 (IntKind.wrap .i64 (Int.tmod (IntKind.wrap .u64 nx_2) (IntKind.wrap .u64 (IntKind.wrap .i64 ((1 : Int) + (IntKind.wrap .i64 (Int.tmod (IntKind.wrap .u64 nn_0) (20 : Int)))))))))] w38 fun e43 w42 => ∃ n115_40 : Int, ∃ v115_41 : Value, e43 = .returned (Value.tuple #[(Value.int .i64 n115_40), v115_41]) ∧
  isI v115_41 ∧ bif (!(nilI v115_41)) then (
  R (Value.bool false) w42) else (
  ixS s56_14b s56_14l (0 : Int) 1 fun a123_44 =>
  ldI .i64 a123_44 w42 fun n124_45 =>
  bif (n115_40 != n124_45) then (
  R (Value.bool false) w42) else (
  (I20 [(Value.int .i64 (IntKind.wrap .i64 (n22 + (1 : Int))))] w42 ∧ m21 [(Value.int .i64 (IntKind.wrap .i64 (n22 + (1 : Int))))] w42 < m21 [(Value.int .i64 n22)] w23)))))))) else (
  Calls Pg fn_seq_Forest_Same #[(Value.pointer p32_3), (Value.int .i64 n44_6), (Value.int .i64 (IntKind.wrap .i64 (Int.tmod (IntKind.wrap .u64 nx_2) (IntKind.wrap .u64 (IntKind.wrap .i64 ((1 : Int) + (IntKind.wrap .i64 (Int.tmod (IntKind.wrap .u64 nn_0) (20 : Int)))))))))] w23 fun e49 w48 => ∃ b131_46 : Bool, ∃ v131_47 : Value, e49 = .returned (Value.tuple #[(Value.bool b131_46), v131_47]) ∧
  Calls Pg fn_seq_Forest_Same #[(Value.pointer p32_3), (Value.int .i64 n50_10), (Value.int .i64 (IntKind.wrap .i64 (Int.tmod (IntKind.wrap .u64 nx_2) (IntKind.wrap .u64 (IntKind.wrap .i64 ((1 : Int) + (IntKind.wrap .i64 (Int.tmod (IntKind.wrap .u64 nn_0) (20 : Int)))))))))] w48 fun e53 w52 => ∃ b138_50 : Bool, ∃ v138_51 : Value, e53 = .returned (Value.tuple #[(Value.bool b138_50), v138_51]) ∧
  bif b131_46 then (
  bif b138_50 then (
  Calls Pg fn_plaitlaw04_sure #[] w52 fun e56 w55 => ∃ b146_54 : Bool, e56 = .returned (Value.bool b146_54) ∧
  R (Value.bool b146_54) w55) else (
  R (Value.bool false) w52)) else (
  R (Value.bool false) w52)))
theorem eq_plaitlaw04_SeqLeast (nn_0 : Int) (sl_1b : Option Addr) (sl_1l : Nat) (sl_1c : Nat) (nx_2 : Int) (w : World) (R : Value → World → Prop) : sh_plaitlaw04_SeqLeast nn_0 sl_1b sl_1l sl_1c nx_2 w R = denF Pg Eall Tryd.f7 (.seq (.leaf) (.seq (.leaf) (.seq (.leaf) (.seq (.seq (.leaf) (.cond (.seq (.leaf) (.leaf)) (.leaf))) (.seq (.leaf) (.seq (.leaf) (.seq (.leaf) (.seq (.leaf) (.join [] [] (.seq (.leaf) (.cond (.seq (.leaf) (.leaf)) (.leaf))) (.seq (.seq (.leaf) (.block (.loop [16] [.one (.int .i64)] (.seq (.seq (.leaf) (.cond (.leaf) (.leaf))) (.seq (.block (.seq (.seq (.leaf) (.cond (.seq (.leaf) (.leaf)) (.leaf))) (.seq (.leaf) (.seq (.seq (.leaf) (.cond (.seq (.leaf) (.leaf)) (.leaf))) (.seq (.leaf) (.seq (.leaf) (.cond (.seq (.leaf) (.leaf)) (.leaf)))))))) (.leaf)))))) (.seq (.leaf) (.seq (.leaf) (.seq (.leaf) (.leaf)))))))))))))) [(Value.int .i64 nn_0), (Value.slice sl_1b sl_1l sl_1c), (Value.int .i64 nx_2)] w R := by kernel_rfl
theorem calls_plaitlaw04_SeqLeast (nn_0 : Int) (sl_1b : Option Addr) (sl_1l : Nat) (sl_1c : Nat) (nx_2 : Int) (w : World) (R : Value → World → Prop) (h : sh_plaitlaw04_SeqLeast nn_0 sl_1b sl_1l sl_1c nx_2 w R) : Calls Pg fn_plaitlaw04_SeqLeast #[(Value.int .i64 nn_0), (Value.slice sl_1b sl_1l sl_1c), (Value.int .i64 nx_2)] w fun e w' => ∃ v, e = .returned v ∧ R v w' :=
  calls_of_den Eall_enter wide_mixed Tryd.func7 (by rw [← eq_plaitlaw04_SeqLeast]; exact h)

/-- 'plait/plaitlaw04.SeqNew' -/
def sh_plaitlaw04_SeqNew (nn_0 : Int) (nx_1 : Int) (w : World) (R : Value → World → Prop) : Prop :=
  Calls Pg fn_seq_Forest_Cut #[(Value.pointer none), (Value.int .i64 (0 : Int))] w fun e5 w4 => ∃ b31_2 : Bool, ∃ v31_3 : Value, e5 = .returned (Value.tuple #[(Value.bool b31_2), v31_3]) ∧
  Calls Pg fn_seq_Forest_Same #[(Value.pointer none), (Value.int .i64 (0 : Int)), (Value.int .i64 (0 : Int))] w4 fun e9 w8 => ∃ b36_6 : Bool, ∃ v36_7 : Value, e9 = .returned (Value.tuple #[(Value.bool b36_6), v36_7]) ∧
  Calls Pg fn_seq_Forest_List #[(Value.pointer none), (Value.int .i64 (0 : Int))] w8 fun e13 w12 => ∃ s41_10b : Option Addr, ∃ s41_10l : Nat, ∃ s41_10c : Nat, ∃ v41_11 : Value, e13 = .returned (Value.tuple #[(Value.slice s41_10b s41_10l s41_10c), v41_11]) ∧
  Calls Pg fn_seq_Forest_At #[(Value.pointer none), (Value.int .i64 (0 : Int)), (Value.int .i64 (0 : Int))] w12 fun e17 w16 => ∃ n46_14 : Int, ∃ v46_15 : Value, e17 = .returned (Value.tuple #[(Value.int .i64 n46_14), v46_15]) ∧
  ∃ J18 : List Value → World → Prop, (
  Calls Pg fn_seq_Forest_Join #[(Value.pointer none), (Value.int .i64 (0 : Int)), (Value.int .i64 (1 : Int))] w16 fun e21 w20 => ∃ v50_19 : Value, e21 = .returned v50_19 ∧
  Calls Pg fn_plaitlaw04_num #[v50_19] w20 fun e24 w23 => ∃ n51_22 : Int, e24 = .returned (Value.int .i64 n51_22) ∧
  bif (n51_22 != (1 : Int)) then (
  R (Value.bool false) w23) else (
  Calls Pg fn_plaitlaw04_num #[v31_3] w23 fun e27 w26 => ∃ n55_25 : Int, e27 = .returned (Value.int .i64 n55_25) ∧
  bif (n55_25 != (1 : Int)) then (
  R (Value.bool false) w26) else (
  Calls Pg fn_plaitlaw04_num #[v36_7] w26 fun e30 w29 => ∃ n60_28 : Int, e30 = .returned (Value.int .i64 n60_28) ∧
  bif (n60_28 != (1 : Int)) then (
  R (Value.bool false) w29) else (
  Calls Pg fn_plaitlaw04_num #[v41_11] w29 fun e33 w32 => ∃ n65_31 : Int, e33 = .returned (Value.int .i64 n65_31) ∧
  bif (n65_31 != (1 : Int)) then (
  R (Value.bool false) w32) else (
  Calls Pg fn_plaitlaw04_num #[v46_15] w32 fun e36 w35 => ∃ n70_34 : Int, e36 = .returned (Value.int .i64 n70_34) ∧
  bif (n70_34 != (1 : Int)) then (
  R (Value.bool false) w35) else (
  Calls Pg fn_seq_Forest_Reverse #[(Value.pointer none), (Value.int .i64 (0 : Int))] w35 fun e39 w38 => ∃ v75_37 : Value, e39 = .returned v75_37 ∧
  Calls Pg fn_plaitlaw04_num #[v75_37] w38 fun e42 w41 => ∃ n76_40 : Int, e42 = .returned (Value.int .i64 n76_40) ∧
  bif (n76_40 != (1 : Int)) then (
  R (Value.bool false) w41) else (
  Calls Pg fn_seq_Forest_Set #[(Value.pointer none), (Value.int .i64 (0 : Int)), (Value.int .i64 (1 : Int))] w41 fun e45 w44 => ∃ v81_43 : Value, e45 = .returned v81_43 ∧
  Calls Pg fn_plaitlaw04_num #[v81_43] w44 fun e48 w47 => ∃ n82_46 : Int, e48 = .returned (Value.int .i64 n82_46) ∧
  bif (n82_46 != (1 : Int)) then (
  R (Value.bool false) w47) else (
  J18 [] w47)))))))) ∧ ∀ _ : Env, ∀ w49 : World, J18 [] w49 →
  ∃ J50 : List Value → World → Prop, (
  bif (decide (nn_0 > (5000 : Int))) then (
  bif (decide (nn_0 ≤ (8388608 : Int))) then (
  J50 [(Value.int .i64 (5000 : Int))] w49) else (
  J50 [(Value.int .i64 nn_0)] w49)) else (
  J50 [(Value.int .i64 nn_0)] w49)) ∧ ∀ _ : Env, ∀ n51 : Int, ∀ w52 : World, J50 [(Value.int .i64 n51)] w52 →
  Calls Pg fn_seq_New #[(Value.int .i64 n51)] w52 fun e56 w55 => ∃ p94_53 : Option Addr, ∃ v94_54 : Value, e56 = .returned (Value.tuple #[(Value.pointer p94_53), v94_54]) ∧
  ∃ J57 : List Value → World → Prop, (
  bif (decide (n51 < (1 : Int))) then (
  Calls Pg fn_plaitlaw04_num #[v94_54] w55 fun e60 w59 => ∃ n104_58 : Int, e60 = .returned (Value.int .i64 n104_58) ∧
  bif (n104_58 == (1 : Int)) then (
  bif (Option.isNone p94_53) then (
  Calls Pg fn_plaitlaw04_sure #[] w59 fun e63 w62 => ∃ b111_61 : Bool, e63 = .returned (Value.bool b111_61) ∧
  R (Value.bool b111_61) w62) else (
  R (Value.bool false) w59)) else (
  R (Value.bool false) w59)) else (
  bif (decide (n51 > (8388608 : Int))) then (
  Calls Pg fn_plaitlaw04_num #[v94_54] w55 fun e66 w65 => ∃ n104_64 : Int, e66 = .returned (Value.int .i64 n104_64) ∧
  bif (n104_64 == (1 : Int)) then (
  bif (Option.isNone p94_53) then (
  Calls Pg fn_plaitlaw04_sure #[] w65 fun e69 w68 => ∃ b111_67 : Bool, e69 = .returned (Value.bool b111_67) ∧
  R (Value.bool b111_67) w68) else (
  R (Value.bool false) w65)) else (
  R (Value.bool false) w65)) else (
  J57 [] w55))) ∧ ∀ _ : Env, ∀ w70 : World, J57 [] w70 →
  ∃ J71 : List Value → World → Prop, (
  isI v94_54 ∧ bif (!(nilI v94_54)) then (
  R (Value.bool false) w70) else (
  bif (Option.isNone p94_53) then (
  R (Value.bool false) w70) else (
  J71 [] w70))) ∧ ∀ _ : Env, ∀ w72 : World, J71 [] w72 →
  Calls Pg fn_seq_Forest_Size #[(Value.pointer p94_53), (Value.int .i64 nx_1)] w72 fun e76 w75 => ∃ n122_73 : Int, ∃ v122_74 : Value, e76 = .returned (Value.tuple #[(Value.int .i64 n122_73), v122_74]) ∧
  ∃ J77 : List Value → World → Prop, (
  bif (decide (nx_1 < (0 : Int))) then (
  J77 [(Value.bool true)] w75) else (
  J77 [(Value.bool (decide (nx_1 ≥ n51)))] w75)) ∧ ∀ _ : Env, ∀ b78 : Bool, ∀ w79 : World, J77 [(Value.bool b78)] w79 →
  bif b78 then (
  Calls Pg fn_seq_Forest_Cut #[(Value.pointer p94_53), (Value.int .i64 nx_1)] w79 fun e83 w82 => ∃ b135_80 : Bool, ∃ v135_81 : Value, e83 = .returned (Value.tuple #[(Value.bool b135_80), v135_81]) ∧
  Calls Pg fn_seq_Forest_Rank #[(Value.pointer p94_53), (Value.int .i64 nx_1)] w82 fun e87 w86 => ∃ n141_84 : Int, ∃ v141_85 : Value, e87 = .returned (Value.tuple #[(Value.int .i64 n141_84), v141_85]) ∧
  Calls Pg fn_seq_Forest_Sum #[(Value.pointer p94_53), (Value.int .i64 nx_1)] w86 fun e91 w90 => ∃ n147_88 : Int, ∃ v147_89 : Value, e91 = .returned (Value.tuple #[(Value.int .i64 n147_88), v147_89]) ∧
  Calls Pg fn_seq_Forest_Least #[(Value.pointer p94_53), (Value.int .i64 nx_1)] w90 fun e95 w94 => ∃ n153_92 : Int, ∃ v153_93 : Value, e95 = .returned (Value.tuple #[(Value.int .i64 n153_92), v153_93]) ∧
  Calls Pg fn_seq_Forest_Most #[(Value.pointer p94_53), (Value.int .i64 nx_1)] w94 fun e99 w98 => ∃ n159_96 : Int, ∃ v159_97 : Value, e99 = .returned (Value.tuple #[(Value.int .i64 n159_96), v159_97]) ∧
  Calls Pg fn_plaitlaw04_num #[v122_74] w98 fun e102 w101 => ∃ n163_100 : Int, e102 = .returned (Value.int .i64 n163_100) ∧
  bif (n163_100 == (12 : Int)) then (
  Calls Pg fn_plaitlaw04_num #[v135_81] w101 fun e105 w104 => ∃ n167_103 : Int, e105 = .returned (Value.int .i64 n167_103) ∧
  bif (n167_103 == (12 : Int)) then (
  Calls Pg fn_plaitlaw04_num #[v141_85] w104 fun e108 w107 => ∃ n172_106 : Int, e108 = .returned (Value.int .i64 n172_106) ∧
  bif (n172_106 == (12 : Int)) then (
  Calls Pg fn_plaitlaw04_num #[v147_89] w107 fun e111 w110 => ∃ n177_109 : Int, e111 = .returned (Value.int .i64 n177_109) ∧
  bif (n177_109 == (12 : Int)) then (
  Calls Pg fn_plaitlaw04_num #[v153_93] w110 fun e114 w113 => ∃ n182_112 : Int, e114 = .returned (Value.int .i64 n182_112) ∧
  bif (n182_112 == (12 : Int)) then (
  Calls Pg fn_plaitlaw04_num #[v159_97] w113 fun e117 w116 => ∃ n187_115 : Int, e117 = .returned (Value.int .i64 n187_115) ∧
  bif (n187_115 == (12 : Int)) then (
  Calls Pg fn_seq_Forest_Reverse #[(Value.pointer p94_53), (Value.int .i64 nx_1)] w116 fun e120 w119 => ∃ v193_118 : Value, e120 = .returned v193_118 ∧
  Calls Pg fn_plaitlaw04_num #[v193_118] w119 fun e123 w122 => ∃ n194_121 : Int, e123 = .returned (Value.int .i64 n194_121) ∧
  bif (n194_121 == (12 : Int)) then (
  Calls Pg fn_seq_Forest_Set #[(Value.pointer p94_53), (Value.int .i64 nx_1), (Value.int .i64 (1 : Int))] w122 fun e126 w125 => ∃ v200_124 : Value, e126 = .returned v200_124 ∧
  Calls Pg fn_plaitlaw04_num #[v200_124] w125 fun e129 w128 => ∃ n201_127 : Int, e129 = .returned (Value.int .i64 n201_127) ∧
  bif (n201_127 == (12 : Int)) then (
  Calls Pg fn_plaitlaw04_sure #[] w128 fun e132 w131 => ∃ b205_130 : Bool, e132 = .returned (Value.bool b205_130) ∧
  R (Value.bool b205_130) w131) else (
  R (Value.bool false) w128)) else (
  R (Value.bool false) w122)) else (
  R (Value.bool false) w116)) else (
  R (Value.bool false) w113)) else (
  R (Value.bool false) w110)) else (
  R (Value.bool false) w107)) else (
  R (Value.bool false) w104)) else (
  R (Value.bool false) w101)) else (
  isI v122_74 ∧ bif (nilI v122_74) then (
  bif (n122_73 == (1 : Int)) then (
  Calls Pg fn_plaitlaw04_sure #[] w79 fun e135 w134 => ∃ b214_133 : Bool, e135 = .returned (Value.bool b214_133) ∧
  R (Value.bool b214_133) w134) else (
  R (Value.bool false) w79)) else (
  R (Value.bool false) w79))
theorem eq_plaitlaw04_SeqNew (nn_0 : Int) (nx_1 : Int) (w : World) (R : Value → World → Prop) : sh_plaitlaw04_SeqNew nn_0 nx_1 w R = denF Pg Eall Tryd.f9 (.seq (.leaf) (.seq (.leaf) (.seq (.leaf) (.seq (.leaf) (.seq (.leaf) (.seq (.leaf) (.join [] [] (.seq (.leaf) (.cond (.seq (.leaf) (.leaf)) (.leaf))) (.seq (.leaf) (.join [14] [.one (.int .i64)] (.seq (.leaf) (.cond (.leaf) (.leaf))) (.seq (.leaf) (.join [] [] (.seq (.leaf) (.cond (.seq (.leaf) (.leaf)) (.leaf))) (.join [] [] (.seq (.leaf) (.cond (.seq (.leaf) (.leaf)) (.leaf))) (.seq (.leaf) (.seq (.join [131] [.one (.bool)] (.leaf) (.cond (.seq (.leaf) (.seq (.leaf) (.seq (.leaf) (.seq (.leaf) (.seq (.leaf) (.seq (.leaf) (.leaf))))))) (.leaf))) (.seq (.leaf) (.leaf)))))))))))))))) [(Value.int .i64 nn_0), (Value.int .i64 nx_1)] w R := by kernel_rfl
theorem calls_plaitlaw04_SeqNew (nn_0 : Int) (nx_1 : Int) (w : World) (R : Value → World → Prop) (h : sh_plaitlaw04_SeqNew nn_0 nx_1 w R) : Calls Pg fn_plaitlaw04_SeqNew #[(Value.int .i64 nn_0), (Value.int .i64 nx_1)] w fun e w' => ∃ v, e = .returned v ∧ R v w' :=
  calls_of_den Eall_enter wide_mixed Tryd.func9 (by rw [← eq_plaitlaw04_SeqNew]; exact h)

/-- 'plait/plaitref04.without' -/
def sh_plaitref04_without (sl_0b : Option Addr) (sl_0l : Nat) (sl_0c : Nat) (na_1 : Int) (nb_2 : Int) (w : World) (R : Value → World → Prop) : Prop :=
  ∃ (I3 : List Value → World → Prop) (m4 : List Value → World → Nat), I3 [(Value.slice none 0 0), (Value.int .i64 (0 : Int))] w ∧
  ∀ _ : Env, ∀ s5b : Option Addr, ∀ s5l : Nat, ∀ s5c : Nat, ∀ n6 : Int, ∀ w7 : World, I3 [(Value.slice s5b s5l s5c), (Value.int .i64 n6)] w7 →
  bif (decide (n6 < (sl_0l : Int))) then (
  bif (n6 != na_1) then (
  bif (n6 != nb_2) then (
  ixS sl_0b sl_0l n6 1 fun a26_8 =>
  ldS a26_8 w7 fun s27_9b s27_9l s27_9c =>
  alo #[(Value.slice s27_9b s27_9l s27_9c)] T_sl_int w7 fun a10 w11 =>
  ∃ s29_12b : Option Addr, ∃ s29_12l : Nat, ∃ s29_12c : Nat, ∃ w13 : World, (Builtin.append_ #[T_sl_sl_int, T_sl_sl_int] T_sl_sl_int #[(Value.slice s5b s5l s5c), (Value.slice (some a10) 1 1)]).run Pg w11 = .ok (Value.slice s29_12b s29_12l s29_12c) w13 ∧
  (I3 [(Value.slice s29_12b s29_12l s29_12c), (Value.int .i64 (IntKind.wrap .i64 (n6 + (1 : Int))))] w13 ∧ m4 [(Value.slice s29_12b s29_12l s29_12c), (Value.int .i64 (IntKind.wrap .i64 (n6 + (1 : Int))))] w13 < m4 [(Value.slice s5b s5l s5c), (Value.int .i64 n6)] w7)) else (
  (I3 [(Value.slice s5b s5l s5c), (Value.int .i64 (IntKind.wrap .i64 (n6 + (1 : Int))))] w7 ∧ m4 [(Value.slice s5b s5l s5c), (Value.int .i64 (IntKind.wrap .i64 (n6 + (1 : Int))))] w7 < m4 [(Value.slice s5b s5l s5c), (Value.int .i64 n6)] w7))) else (
  (I3 [(Value.slice s5b s5l s5c), (Value.int .i64 (IntKind.wrap .i64 (n6 + (1 : Int))))] w7 ∧ m4 [(Value.slice s5b s5l s5c), (Value.int .i64 (IntKind.wrap .i64 (n6 + (1 : Int))))] w7 < m4 [(Value.slice s5b s5l s5c), (Value.int .i64 n6)] w7))) else (
  R (Value.slice s5b s5l s5c) w7)
theorem eq_plaitref04_without (sl_0b : Option Addr) (sl_0l : Nat) (sl_0c : Nat) (na_1 : Int) (nb_2 : Int) (w : World) (R : Value → World → Prop) : sh_plaitref04_without sl_0b sl_0l sl_0c na_1 nb_2 w R = denF Pg Eall Tryd.f46 (.seq (.leaf) (.seq (.leaf) (.seq (.seq (.leaf) (.block (.loop [7, 8] [.one (.slc), .one (.int .i64)] (.seq (.seq (.leaf) (.cond (.leaf) (.leaf))) (.seq (.block (.seq (.leaf) (.cond (.leaf) (.leaf)))) (.leaf)))))) (.seq (.leaf) (.leaf))))) [(Value.slice sl_0b sl_0l sl_0c), (Value.int .i64 na_1), (Value.int .i64 nb_2)] w R := by kernel_rfl
theorem calls_plaitref04_without (sl_0b : Option Addr) (sl_0l : Nat) (sl_0c : Nat) (na_1 : Int) (nb_2 : Int) (w : World) (R : Value → World → Prop) (h : sh_plaitref04_without sl_0b sl_0l sl_0c na_1 nb_2 w R) : Calls Pg fn_plaitref04_without #[(Value.slice sl_0b sl_0l sl_0c), (Value.int .i64 na_1), (Value.int .i64 nb_2)] w fun e w' => ∃ v, e = .returned v ∧ R v w' :=
  calls_of_den Eall_enter wide_mixed Tryd.func46 (by rw [← eq_plaitref04_without]; exact h)

/-- 'plait/plaitref04.Sum' -/
def sh_plaitref04_Sum (sl_0b : Option Addr) (sl_0l : Nat) (sl_0c : Nat) (sv_1b : Option Addr) (sv_1l : Nat) (sv_1c : Nat) (w : World) (R : Value → World → Prop) : Prop :=
  ∃ (I2 : List Value → World → Prop) (m3 : List Value → World → Nat), I2 [(Value.int .i64 (0 : Int)), (Value.int .i64 (0 : Int))] w ∧
  ∀ _ : Env, ∀ n4 : Int, ∀ n5 : Int, ∀ w6 : World, I2 [(Value.int .i64 n4), (Value.int .i64 n5)] w6 →
  bif (decide (n5 < (sl_0l : Int))) then (
  ixS sl_0b sl_0l n5 1 fun a17_7 =>
  ldI .i64 a17_7 w6 fun n18_8 =>
  ixS sv_1b sv_1l n18_8 1 fun a19_9 =>
  ldI .i64 a19_9 w6 fun n20_10 =>
  (I2 [(Value.int .i64 (IntKind.wrap .i64 (n4 + n20_10))), (Value.int .i64 (IntKind.wrap .i64 (n5 + (1 : Int))))] w6 ∧ m3 [(Value.int .i64 (IntKind.wrap .i64 (n4 + n20_10))), (Value.int .i64 (IntKind.wrap .i64 (n5 + (1 : Int))))] w6 < m3 [(Value.int .i64 n4), (Value.int .i64 n5)] w6)) else (
  R (Value.int .i64 n4) w6)
theorem eq_plaitref04_Sum (sl_0b : Option Addr) (sl_0l : Nat) (sl_0c : Nat) (sv_1b : Option Addr) (sv_1l : Nat) (sv_1c : Nat) (w : World) (R : Value → World → Prop) : sh_plaitref04_Sum sl_0b sl_0l sl_0c sv_1b sv_1l sv_1c w R = denF Pg Eall Tryd.f47 (.seq (.leaf) (.seq (.leaf) (.seq (.seq (.leaf) (.block (.loop [5, 6] [.one (.int .i64), .one (.int .i64)] (.seq (.seq (.leaf) (.cond (.leaf) (.leaf))) (.seq (.block (.leaf)) (.leaf)))))) (.seq (.leaf) (.leaf))))) [(Value.slice sl_0b sl_0l sl_0c), (Value.slice sv_1b sv_1l sv_1c)] w R := by kernel_rfl
theorem calls_plaitref04_Sum (sl_0b : Option Addr) (sl_0l : Nat) (sl_0c : Nat) (sv_1b : Option Addr) (sv_1l : Nat) (sv_1c : Nat) (w : World) (R : Value → World → Prop) (h : sh_plaitref04_Sum sl_0b sl_0l sl_0c sv_1b sv_1l sv_1c w R) : Calls Pg fn_plaitref04_Sum #[(Value.slice sl_0b sl_0l sl_0c), (Value.slice sv_1b sv_1l sv_1c)] w fun e w' => ∃ v, e = .returned v ∧ R v w' :=
  calls_of_den Eall_enter wide_mixed Tryd.func47 (by rw [← eq_plaitref04_Sum]; exact h)

/-- 'plait/plaitref04.Least' -/
def sh_plaitref04_Least (sl_0b : Option Addr) (sl_0l : Nat) (sl_0c : Nat) (sv_1b : Option Addr) (sv_1l : Nat) (sv_1c : Nat) (w : World) (R : Value → World → Prop) : Prop :=
  ixS sl_0b sl_0l (0 : Int) 1 fun a8_2 =>
  ldI .i64 a8_2 w fun n9_3 =>
  ∃ (I4 : List Value → World → Prop) (m5 : List Value → World → Nat), I4 [(Value.int .i64 n9_3), (Value.int .i64 (0 : Int))] w ∧
  ∀ _ : Env, ∀ n6 : Int, ∀ n7 : Int, ∀ w8 : World, I4 [(Value.int .i64 n6), (Value.int .i64 n7)] w8 →
  bif (decide (n7 < (sl_0l : Int))) then (
  ixS sl_0b sl_0l n7 1 fun a19_9 =>
  ldI .i64 a19_9 (World.drew w8) fun n20_10 =>
  ixS sv_1b sv_1l n20_10 1 fun a21_11 =>
  ldI .i64 a21_11 (World.drew w8) fun n22_12 =>
  ixS sv_1b sv_1l n6 1 fun a25_13 =>
  ldI .i64 a25_13 (World.drew w8) fun n26_14 =>
  bif (decide (n22_12 < n26_14)) then (
  ixS sl_0b sl_0l n7 1 fun a30_15 =>
  ldI .i64 a30_15 (World.drew w8) fun n31_16 =>
  (I4 [(Value.int .i64 n31_16), (Value.int .i64 (IntKind.wrap .i64 (n7 + (1 : Int))))] (World.drew w8) ∧ m5 [(Value.int .i64 n31_16), (Value.int .i64 (IntKind.wrap .i64 (n7 + (1 : Int))))] (World.drew w8) < m5 [(Value.int .i64 n6), (Value.int .i64 n7)] w8)) else (
  (I4 [(Value.int .i64 n6), (Value.int .i64 (IntKind.wrap .i64 (n7 + (1 : Int))))] (World.drew w8) ∧ m5 [(Value.int .i64 n6), (Value.int .i64 (IntKind.wrap .i64 (n7 + (1 : Int))))] (World.drew w8) < m5 [(Value.int .i64 n6), (Value.int .i64 n7)] w8))) else (
  R (Value.int .i64 n6) w8)
theorem eq_plaitref04_Least (sl_0b : Option Addr) (sl_0l : Nat) (sl_0c : Nat) (sv_1b : Option Addr) (sv_1l : Nat) (sv_1c : Nat) (w : World) (R : Value → World → Prop) : sh_plaitref04_Least sl_0b sl_0l sl_0c sv_1b sv_1l sv_1c w R = denF Pg Eall Tryd.f48 (.seq (.leaf) (.seq (.leaf) (.seq (.seq (.leaf) (.block (.loop [5, 6] [.one (.int .i64), .one (.int .i64)] (.seq (.seq (.leaf) (.cond (.leaf) (.leaf))) (.seq (.block (.seq (.reg (.tk 0 [] [] (.tk 1 [] [] (.tk 2 [] [] (.tk 3 [] [] (.tk 4 [] [] (.tk 5 [] [] (.tk 6 [] [] (.tk 7 [] [] (.tk 8 [] [] (.tk 9 [] [] (.tk 10 [] [] (.tk 11 [] [] (.fin)))))))))))))) (.cond (.leaf) (.leaf)))) (.leaf)))))) (.seq (.leaf) (.leaf))))) [(Value.slice sl_0b sl_0l sl_0c), (Value.slice sv_1b sv_1l sv_1c)] w R := by kernel_rfl
theorem calls_plaitref04_Least (sl_0b : Option Addr) (sl_0l : Nat) (sl_0c : Nat) (sv_1b : Option Addr) (sv_1l : Nat) (sv_1c : Nat) (w : World) (R : Value → World → Prop) (h : sh_plaitref04_Least sl_0b sl_0l sl_0c sv_1b sv_1l sv_1c w R) : Calls Pg fn_plaitref04_Least #[(Value.slice sl_0b sl_0l sl_0c), (Value.slice sv_1b sv_1l sv_1c)] w fun e w' => ∃ v, e = .returned v ∧ R v w' :=
  calls_of_den Eall_enter wide_mixed Tryd.func48 (by rw [← eq_plaitref04_Least]; exact h)

/-- 'plait/plaitref04.Most' -/
def sh_plaitref04_Most (sl_0b : Option Addr) (sl_0l : Nat) (sl_0c : Nat) (sv_1b : Option Addr) (sv_1l : Nat) (sv_1c : Nat) (w : World) (R : Value → World → Prop) : Prop :=
  ixS sl_0b sl_0l (0 : Int) 1 fun a8_2 =>
  ldI .i64 a8_2 w fun n9_3 =>
  ∃ (I4 : List Value → World → Prop) (m5 : List Value → World → Nat), I4 [(Value.int .i64 n9_3), (Value.int .i64 (0 : Int))] w ∧
  ∀ _ : Env, ∀ n6 : Int, ∀ n7 : Int, ∀ w8 : World, I4 [(Value.int .i64 n6), (Value.int .i64 n7)] w8 →
  bif (decide (n7 < (sl_0l : Int))) then (
  ixS sl_0b sl_0l n7 1 fun a19_9 =>
  ldI .i64 a19_9 (World.drew w8) fun n20_10 =>
  ixS sv_1b sv_1l n20_10 1 fun a21_11 =>
  ldI .i64 a21_11 (World.drew w8) fun n22_12 =>
  ixS sv_1b sv_1l n6 1 fun a25_13 =>
  ldI .i64 a25_13 (World.drew w8) fun n26_14 =>
  bif (decide (n22_12 > n26_14)) then (
  ixS sl_0b sl_0l n7 1 fun a30_15 =>
  ldI .i64 a30_15 (World.drew w8) fun n31_16 =>
  (I4 [(Value.int .i64 n31_16), (Value.int .i64 (IntKind.wrap .i64 (n7 + (1 : Int))))] (World.drew w8) ∧ m5 [(Value.int .i64 n31_16), (Value.int .i64 (IntKind.wrap .i64 (n7 + (1 : Int))))] (World.drew w8) < m5 [(Value.int .i64 n6), (Value.int .i64 n7)] w8)) else (
  (I4 [(Value.int .i64 n6), (Value.int .i64 (IntKind.wrap .i64 (n7 + (1 : Int))))] (World.drew w8) ∧ m5 [(Value.int .i64 n6), (Value.int .i64 (IntKind.wrap .i64 (n7 + (1 : Int))))] (World.drew w8) < m5 [(Value.int .i64 n6), (Value.int .i64 n7)] w8))) else (
  R (Value.int .i64 n6) w8)
theorem eq_plaitref04_Most (sl_0b : Option Addr) (sl_0l : Nat) (sl_0c : Nat) (sv_1b : Option Addr) (sv_1l : Nat) (sv_1c : Nat) (w : World) (R : Value → World → Prop) : sh_plaitref04_Most sl_0b sl_0l sl_0c sv_1b sv_1l sv_1c w R = denF Pg Eall Tryd.f49 (.seq (.leaf) (.seq (.leaf) (.seq (.seq (.leaf) (.block (.loop [5, 6] [.one (.int .i64), .one (.int .i64)] (.seq (.seq (.leaf) (.cond (.leaf) (.leaf))) (.seq (.block (.seq (.reg (.tk 0 [] [] (.tk 1 [] [] (.tk 2 [] [] (.tk 3 [] [] (.tk 4 [] [] (.tk 5 [] [] (.tk 6 [] [] (.tk 7 [] [] (.tk 8 [] [] (.tk 9 [] [] (.tk 10 [] [] (.tk 11 [] [] (.fin)))))))))))))) (.cond (.leaf) (.leaf)))) (.leaf)))))) (.seq (.leaf) (.leaf))))) [(Value.slice sl_0b sl_0l sl_0c), (Value.slice sv_1b sv_1l sv_1c)] w R := by kernel_rfl
theorem calls_plaitref04_Most (sl_0b : Option Addr) (sl_0l : Nat) (sl_0c : Nat) (sv_1b : Option Addr) (sv_1l : Nat) (sv_1c : Nat) (w : World) (R : Value → World → Prop) (h : sh_plaitref04_Most sl_0b sl_0l sl_0c sv_1b sv_1l sv_1c w R) : Calls Pg fn_plaitref04_Most #[(Value.slice sl_0b sl_0l sl_0c), (Value.slice sv_1b sv_1l sv_1c)] w fun e w' => ∃ v, e = .returned v ∧ R v w' :=
  calls_of_den Eall_enter wide_mixed Tryd.func49 (by rw [← eq_plaitref04_Most]; exact h)

end Go.Proofs.YtfhdnmeciohmlaaDoor
