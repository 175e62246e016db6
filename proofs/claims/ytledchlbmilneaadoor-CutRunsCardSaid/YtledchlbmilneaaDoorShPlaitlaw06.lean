/-
What each function does, as one formula, printed by a program of this session out of the translation; the kernel holds each print against the translation.
Conditions: none.
-/
import Derived.Test.YtledchlbmilneaaDoorSn
namespace Go.Proofs.YtledchlbmilneaaDoor
open Go
set_option linter.unusedVariables false
set_option maxRecDepth 100000
/-- 'plait/plaitlaw06.CutBack' -/
def sh_plaitlaw06_CutBack (nn_0 : Int) (sl_1b : Option Addr) (sl_1l : Nat) (sl_1c : Nat) (nof_2 : Int) (nof_3 : Int) (w : World) (R : Value → World → Prop) : Prop :=
  alo #[(Value.int .i64 nof_2), (Value.int .i64 nof_3)] T__2int w fun a4 w5 =>
  (30 : Int) ≠ 0 ∧ Calls Pg fn_cut_New #[(Value.int .i64 (IntKind.wrap .i64 ((2 : Int) + (IntKind.wrap .i64 (Int.tmod (IntKind.wrap .u64 nn_0) (30 : Int))))))] w5 fun e9 w8 => ∃ p29_6 : Option Addr, ∃ v29_7 : Value, e9 = .returned (Value.tuple #[(Value.pointer p29_6), v29_7]) ∧
  ∃ J10 : List Value → World → Prop, (
  isI v29_7 ∧ bif (!(nilI v29_7)) then (
  R (Value.bool false) w8) else (
  bif (Option.isNone p29_6) then (
  R (Value.bool false) w8) else (
  J10 [] w8))) ∧ ∀ _ : Env, ∀ w11 : World, J10 [] w11 →
  ∃ J12 : List Value → World → Prop, (
  ∃ (I13 : List Value → World → Prop) (m14 : List Value → World → Nat), I13 [(Value.int .i64 (0 : Int))] w11 ∧
  ∀ _ : Env, ∀ n15 : Int, ∀ w16 : World, I13 [(Value.int .i64 n15)] w16 →
  ∃ J17 : List Value → World → Prop, (
  bif (decide (n15 < (sl_1l : Int))) then (
  bif (decide (n15 < (60 : Int))) then (
  J17 [] w16) else (
  J12 [] w16)) else (
  J12 [] w16)) ∧ ∀ _ : Env, ∀ w18 : World, J17 [] w18 →
  ixS sl_1b sl_1l n15 4 fun a51_19 =>
  ldI .i64 (a51_19.add 1) (World.drew w18) fun n53_20 =>
  (IntKind.wrap .u64 (IntKind.wrap .i64 ((2 : Int) + (IntKind.wrap .i64 (Int.tmod (IntKind.wrap .u64 nn_0) (30 : Int)))))) ≠ 0 ∧ ixS sl_1b sl_1l n15 4 fun a61_21 =>
  ldI .i64 (a61_21.add 2) (World.drew w18) fun n63_22 =>
  (IntKind.wrap .u64 (IntKind.wrap .i64 ((2 : Int) + (IntKind.wrap .i64 (Int.tmod (IntKind.wrap .u64 nn_0) (30 : Int)))))) ≠ 0 ∧ Calls Pg fn_cut_Forest_Link #[(Value.pointer p29_6), (Value.int .i64 (IntKind.wrap .i64 (Int.tmod (IntKind.wrap .u64 n53_20) (IntKind.wrap .u64 (IntKind.wrap .i64 ((2 : Int) + (IntKind.wrap .i64 (Int.tmod (IntKind.wrap .u64 nn_0) (30 : Int))))))))), (Value.int .i64 (IntKind.wrap .i64 (Int.tmod (IntKind.wrap .u64 n63_22) (IntKind.wrap .u64 (IntKind.wrap .i64 ((2 : Int) + (IntKind.wrap .i64 (Int.tmod (IntKind.wrap .u64 nn_0) (30 : Int)))))))))] (World.drew w18) fun e25 w24 => ∃ v69_23 : Value, e25 = .returned v69_23 ∧
  (I13 [(Value.int .i64 (IntKind.wrap .i64 (n15 + (1 : Int))))] w24 ∧ m14 [(Value.int .i64 (IntKind.wrap .i64 (n15 + (1 : Int))))] w24 < m14 [(Value.int .i64 n15)] w16)) ∧ ∀ _ : Env, ∀ w26 : World, J12 [] w26 →
  ixA a4 2 (0 : Int) 1 fun a70_27 =>
  ldI .i64 a70_27 (World.drew w26) fun n71_28 =>
  (IntKind.wrap .u64 (IntKind.wrap .i64 ((2 : Int) + (IntKind.wrap .i64 (Int.tmod (IntKind.wrap .u64 nn_0) (30 : Int)))))) ≠ 0 ∧ ixA a4 2 (1 : Int) 1 fun a77_29 =>
  ldI .i64 a77_29 (World.drew w26) fun n78_30 =>
  (IntKind.wrap .u64 (IntKind.wrap .i64 ((2 : Int) + (IntKind.wrap .i64 (Int.tmod (IntKind.wrap .u64 nn_0) (30 : Int)))))) ≠ 0 ∧ ∃ (I31 : List Value → World → Prop) (m32 : List Value → World → Nat), I31 [(Value.slice none 0 0), (Value.int .i64 (0 : Int))] (World.drew w26) ∧
  ∀ _ : Env, ∀ s33b : Option Addr, ∀ s33l : Nat, ∀ s33c : Nat, ∀ n34 : Int, ∀ w35 : World, I31 [(Value.slice s33b s33l s33c), (Value.int .i64 n34)] w35 →
  bif (decide (n34 < (IntKind.wrap .i64 ((2 : Int) + (IntKind.wrap .i64 (Int.tmod (IntKind.wrap .u64 nn_0) (30 : Int))))))) then (
  Calls Pg fn_cut_Forest_Road #[(Value.pointer p29_6), (Value.int .i64 (0 : Int)), (Value.int .i64 n34)] w35 fun e39 w38 => ∃ s92_36b : Option Addr, ∃ s92_36l : Nat, ∃ s92_36c : Nat, ∃ v92_37 : Value, e39 = .returned (Value.tuple #[(Value.slice s92_36b s92_36l s92_36c), v92_37]) ∧
  alo #[(Value.slice s92_36b s92_36l s92_36c)] T_sl_int w38 fun a40 w41 =>
  ∃ s98_42b : Option Addr, ∃ s98_42l : Nat, ∃ s98_42c : Nat, ∃ w43 : World, (Builtin.append_ #[T_sl_sl_int, T_sl_sl_int] T_sl_sl_int #[(Value.slice s33b s33l s33c), (Value.slice (some a40) 1 1)]).run Pg w41 = .ok (Value.slice s98_42b s98_42l s98_42c) w43 ∧
  (I31 [(Value.slice s98_42b s98_42l s98_42c), (Value.int .i64 (IntKind.wrap .i64 (n34 + (1 : Int))))] w43 ∧ m32 [(Value.slice s98_42b s98_42l s98_42c), (Value.int .i64 (IntKind.wrap .i64 (n34 + (1 : Int))))] w43 < m32 [(Value.slice s33b s33l s33c), (Value.int .i64 n34)] w35)) else (
  ∃ J44 : List Value → World → Prop, (
  Calls Pg fn_cut_Forest_Link #[(Value.pointer p29_6), (Value.int .i64 (IntKind.wrap .i64 (Int.tmod (IntKind.wrap .u64 n71_28) (IntKind.wrap .u64 (IntKind.wrap .i64 ((2 : Int) + (IntKind.wrap .i64 (Int.tmod (IntKind.wrap .u64 nn_0) (30 : Int))))))))), (Value.int .i64 (IntKind.wrap .i64 (Int.tmod (IntKind.wrap .u64 n78_30) (IntKind.wrap .u64 (IntKind.wrap .i64 ((2 : Int) + (IntKind.wrap .i64 (Int.tmod (IntKind.wrap .u64 nn_0) (30 : Int)))))))))] w35 fun e47 w46 => ∃ v102_45 : Value, e47 = .returned v102_45 ∧
  isI v102_45 ∧ bif (nilI v102_45) then (
  Calls Pg fn_cut_Forest_Cut #[(Value.pointer p29_6), (Value.int .i64 (IntKind.wrap .i64 (Int.tmod (IntKind.wrap .u64 n78_30) (IntKind.wrap .u64 (IntKind.wrap .i64 ((2 : Int) + (IntKind.wrap .i64 (Int.tmod (IntKind.wrap .u64 nn_0) (30 : Int))))))))), (Value.int .i64 (IntKind.wrap .i64 (Int.tmod (IntKind.wrap .u64 n71_28) (IntKind.wrap .u64 (IntKind.wrap .i64 ((2 : Int) + (IntKind.wrap .i64 (Int.tmod (IntKind.wrap .u64 nn_0) (30 : Int)))))))))] w46 fun e50 w49 => ∃ v107_48 : Value, e50 = .returned v107_48 ∧
  isI v107_48 ∧ bif (!(nilI v107_48)) then (
  R (Value.bool false) w49) else (
  J44 [] w49)) else (
  Calls Pg fn_cut_Forest_Cut #[(Value.pointer p29_6), (Value.int .i64 (IntKind.wrap .i64 (Int.tmod (IntKind.wrap .u64 n71_28) (IntKind.wrap .u64 (IntKind.wrap .i64 ((2 : Int) + (IntKind.wrap .i64 (Int.tmod (IntKind.wrap .u64 nn_0) (30 : Int))))))))), (Value.int .i64 (IntKind.wrap .i64 (Int.tmod (IntKind.wrap .u64 n78_30) (IntKind.wrap .u64 (IntKind.wrap .i64 ((2 : Int) + (IntKind.wrap .i64 (Int.tmod (IntKind.wrap .u64 nn_0) (30 : Int)))))))))] w46 fun e53 w52 => ∃ v112_51 : Value, e53 = .returned v112_51 ∧
  isI v112_51 ∧ bif (nilI v112_51) then (
  Calls Pg fn_cut_Forest_Same #[(Value.pointer p29_6), (Value.int .i64 (IntKind.wrap .i64 (Int.tmod (IntKind.wrap .u64 n71_28) (IntKind.wrap .u64 (IntKind.wrap .i64 ((2 : Int) + (IntKind.wrap .i64 (Int.tmod (IntKind.wrap .u64 nn_0) (30 : Int))))))))), (Value.int .i64 (IntKind.wrap .i64 (Int.tmod (IntKind.wrap .u64 n78_30) (IntKind.wrap .u64 (IntKind.wrap .i64 ((2 : Int) + (IntKind.wrap .i64 (Int.tmod (IntKind.wrap .u64 nn_0) (30 : Int)))))))))] w52 fun e57 w56 => ∃ b118_54 : Bool, ∃ v118_55 : Value, e57 = .returned (Value.tuple #[(Value.bool b118_54), v118_55]) ∧
  isI v118_55 ∧ bif (!(nilI v118_55)) then (
  R (Value.bool false) w56) else (
  bif b118_54 then (
  R (Value.bool false) w56) else (
  Calls Pg fn_cut_Forest_Link #[(Value.pointer p29_6), (Value.int .i64 (IntKind.wrap .i64 (Int.tmod (IntKind.wrap .u64 n78_30) (IntKind.wrap .u64 (IntKind.wrap .i64 ((2 : Int) + (IntKind.wrap .i64 (Int.tmod (IntKind.wrap .u64 nn_0) (30 : Int))))))))), (Value.int .i64 (IntKind.wrap .i64 (Int.tmod (IntKind.wrap .u64 n71_28) (IntKind.wrap .u64 (IntKind.wrap .i64 ((2 : Int) + (IntKind.wrap .i64 (Int.tmod (IntKind.wrap .u64 nn_0) (30 : Int)))))))))] w56 fun e60 w59 => ∃ v130_58 : Value, e60 = .returned v130_58 ∧
  isI v130_58 ∧ bif (!(nilI v130_58)) then (
  R (Value.bool false) w59) else (
  J44 [] w59)))) else (
  J44 [] w52))) ∧ ∀ _ : Env, ∀ w61 : World, J44 [] w61 →
  ∃ (I62 : List Value → World → Prop) (m63 : List Value → World → Nat), I62 [(Value.int .i64 (0 : Int))] w61 ∧
  ∀ _ : Env, ∀ n64 : Int, ∀ w65 : World, I62 [(Value.int .i64 n64)] w65 →
  bif (decide (n64 < (IntKind.wrap .i64 ((2 : Int) + (IntKind.wrap .i64 (Int.tmod (IntKind.wrap .u64 nn_0) (30 : Int))))))) then (
  Calls Pg fn_cut_Forest_Road #[(Value.pointer p29_6), (Value.int .i64 (0 : Int)), (Value.int .i64 n64)] w65 fun e69 w68 => ∃ s141_66b : Option Addr, ∃ s141_66l : Nat, ∃ s141_66c : Nat, ∃ v141_67 : Value, e69 = .returned (Value.tuple #[(Value.slice s141_66b s141_66l s141_66c), v141_67]) ∧
  ixS s33b s33l n64 1 fun a147_70 =>
  ldS a147_70 w68 fun s148_71b s148_71l s148_71c =>
  Calls Pg fn_plaitlaw06_ints #[(Value.slice s141_66b s141_66l s141_66c), (Value.slice s148_71b s148_71l s148_71c)] w68 fun e74 w73 => ∃ b149_72 : Bool, e74 = .returned (Value.bool b149_72) ∧
  bif (!b149_72) then (
  R (Value.bool false) w73) else (
  (I62 [(Value.int .i64 (IntKind.wrap .i64 (n64 + (1 : Int))))] w73 ∧ m63 [(Value.int .i64 (IntKind.wrap .i64 (n64 + (1 : Int))))] w73 < m63 [(Value.int .i64 n64)] w65))) else (
  Calls Pg fn_plaitlaw06_sure #[] w65 fun e77 w76 => ∃ b151_75 : Bool, e77 = .returned (Value.bool b151_75) ∧
  R (Value.bool b151_75) w76))
theorem eq_plaitlaw06_CutBack (nn_0 : Int) (sl_1b : Option Addr) (sl_1l : Nat) (sl_1c : Nat) (nof_2 : Int) (nof_3 : Int) (w : World) (R : Value → World → Prop) : sh_plaitlaw06_CutBack nn_0 sl_1b sl_1l sl_1c nof_2 nof_3 w R = denF Pg Eall Tryd.f9 (.seq (.leaf) (.seq (.leaf) (.seq (.leaf) (.join [] [] (.seq (.leaf) (.cond (.seq (.leaf) (.leaf)) (.leaf))) (.join [] [] (.seq (.leaf) (.block (.loop [10] [.one (.int .i64)] (.join [] [] (.seq (.leaf) (.cond (.leaf) (.leaf))) (.seq (.block (.reg (.tk 0 [] [] (.tk 1 [] [] (.tk 2 [] [] (.tk 3 [] [] (.tk 4 [] [] (.tk 5 [6, 9, 10, 21] [21] (.tk 6 [] [] (.tk 7 [] [] (.tk 8 [] [] (.tk 9 [] [] (.tk 10 [] [] (.tk 11 [] [] (.tk 12 [] [] (.tk 13 [] [] (.tk 14 [] [] (.tk 15 [16, 19, 20, 21] [21] (.tk 16 [] [] (.tk 17 [] [] (.tk 18 [] [] (.tk 19 [] [] (.tk 20 [] [] (.one 21 (.fin))))))))))))))))))))))))) (.leaf)))))) (.seq (.reg (.tk 0 [] [] (.tk 1 [] [] (.tk 2 [] [] (.tk 3 [] [] (.tk 4 [] [] (.tk 5 [] [] (.tk 6 [] [] (.tk 7 [] [] (.tk 8 [] [] (.tk 9 [] [] (.tk 10 [] [] (.tk 11 [] [] (.tk 12 [] [] (.tk 13 [] [] (.tk 14 [] [] (.tk 15 [] [] (.fin)))))))))))))))))) (.seq (.leaf) (.seq (.seq (.leaf) (.block (.loop [13, 14] [.one (.slc), .one (.int .i64)] (.seq (.seq (.leaf) (.cond (.leaf) (.leaf))) (.seq (.block (.seq (.leaf) (.leaf))) (.leaf)))))) (.join [] [] (.seq (.leaf) (.cond (.seq (.leaf) (.cond (.seq (.leaf) (.leaf)) (.leaf))) (.seq (.leaf) (.cond (.seq (.leaf) (.seq (.leaf) (.cond (.seq (.leaf) (.leaf)) (.leaf)))) (.leaf))))) (.seq (.seq (.leaf) (.block (.loop [19] [.one (.int .i64)] (.seq (.seq (.leaf) (.cond (.leaf) (.leaf))) (.seq (.block (.seq (.leaf) (.seq (.leaf) (.cond (.seq (.leaf) (.leaf)) (.leaf))))) (.leaf)))))) (.seq (.leaf) (.leaf)))))))))))) [(Value.int .i64 nn_0), (Value.slice sl_1b sl_1l sl_1c), (Value.agg #[(Value.int .i64 nof_2), (Value.int .i64 nof_3)])] w R := by kernel_rfl
theorem calls_plaitlaw06_CutBack (nn_0 : Int) (sl_1b : Option Addr) (sl_1l : Nat) (sl_1c : Nat) (nof_2 : Int) (nof_3 : Int) (w : World) (R : Value → World → Prop) (h : sh_plaitlaw06_CutBack nn_0 sl_1b sl_1l sl_1c nof_2 nof_3 w R) : Calls Pg fn_plaitlaw06_CutBack #[(Value.int .i64 nn_0), (Value.slice sl_1b sl_1l sl_1c), (Value.agg #[(Value.int .i64 nof_2), (Value.int .i64 nof_3)])] w fun e w' => ∃ v, e = .returned v ∧ R v w' :=
  calls_of_den Eall_enter wide_mixed Tryd.func9 (by rw [← eq_plaitlaw06_CutBack]; exact h)

/-- 'plait/plaitlaw06.CutCuts' -/
def sh_plaitlaw06_CutCuts (nn_0 : Int) (sl_1b : Option Addr) (sl_1l : Nat) (sl_1c : Nat) (nof_2 : Int) (nof_3 : Int) (nof_4 : Int) (w : World) (R : Value → World → Prop) : Prop :=
  alo #[(Value.int .i64 nof_2), (Value.int .i64 nof_3), (Value.int .i64 nof_4)] T__3int w fun a5 w6 =>
  (30 : Int) ≠ 0 ∧ Calls Pg fn_plaitlaw06_grown #[(Value.int .i64 (IntKind.wrap .i64 ((1 : Int) + (IntKind.wrap .i64 (Int.tmod (IntKind.wrap .u64 nn_0) (30 : Int)))))), (Value.slice sl_1b sl_1l sl_1c)] w6 fun e10 w9 => ∃ p28_7 : Option Addr, ∃ s28_8b : Option Addr, ∃ s28_8l : Nat, ∃ s28_8c : Nat, e10 = .returned (Value.tuple #[(Value.pointer p28_7), (Value.slice s28_8b s28_8l s28_8c)]) ∧
  bif (Option.isNone p28_7) then (
  R (Value.bool false) w9) else (
  ixA a5 3 (0 : Int) 1 fun a33_11 =>
  ldI .i64 a33_11 (World.drew w9) fun n34_12 =>
  (IntKind.wrap .u64 (IntKind.wrap .i64 ((1 : Int) + (IntKind.wrap .i64 (Int.tmod (IntKind.wrap .u64 nn_0) (30 : Int)))))) ≠ 0 ∧ ixA a5 3 (1 : Int) 1 fun a40_13 =>
  ldI .i64 a40_13 (World.drew w9) fun n41_14 =>
  (IntKind.wrap .u64 (IntKind.wrap .i64 ((1 : Int) + (IntKind.wrap .i64 (Int.tmod (IntKind.wrap .u64 nn_0) (30 : Int)))))) ≠ 0 ∧ Calls Pg fn_cut_Forest_Road #[(Value.pointer p28_7), (Value.int .i64 (IntKind.wrap .i64 (Int.tmod (IntKind.wrap .u64 n34_12) (IntKind.wrap .u64 (IntKind.wrap .i64 ((1 : Int) + (IntKind.wrap .i64 (Int.tmod (IntKind.wrap .u64 nn_0) (30 : Int))))))))), (Value.int .i64 (IntKind.wrap .i64 (Int.tmod (IntKind.wrap .u64 n41_14) (IntKind.wrap .u64 (IntKind.wrap .i64 ((1 : Int) + (IntKind.wrap .i64 (Int.tmod (IntKind.wrap .u64 nn_0) (30 : Int)))))))))] (World.drew w9) fun e18 w17 => ∃ s51_15b : Option Addr, ∃ s51_15l : Nat, ∃ s51_15c : Nat, ∃ v51_16 : Value, e18 = .returned (Value.tuple #[(Value.slice s51_15b s51_15l s51_15c), v51_16]) ∧
  ∃ J19 : List Value → World → Prop, (
  isI v51_16 ∧ bif (!(nilI v51_16)) then (
  isI v51_16 ∧ bif (nilI v51_16) then (
  Calls Pg fn_plaitlaw06_sure #[] w17 fun e22 w21 => ∃ b69_20 : Bool, e22 = .returned (Value.bool b69_20) ∧
  R (Value.bool b69_20) w21) else (
  Calls Pg fn_plaitlaw06_num #[v51_16] w17 fun e25 w24 => ∃ n65_23 : Int, e25 = .returned (Value.int .i64 n65_23) ∧
  bif (n65_23 == (21 : Int)) then (
  Calls Pg fn_plaitlaw06_sure #[] w24 fun e28 w27 => ∃ b69_26 : Bool, e28 = .returned (Value.bool b69_26) ∧
  R (Value.bool b69_26) w27) else (
  R (Value.bool false) w24))) else (
  bif (decide ((s51_15l : Int) < (2 : Int))) then (
  isI v51_16 ∧ bif (nilI v51_16) then (
  Calls Pg fn_plaitlaw06_sure #[] w17 fun e31 w30 => ∃ b69_29 : Bool, e31 = .returned (Value.bool b69_29) ∧
  R (Value.bool b69_29) w30) else (
  Calls Pg fn_plaitlaw06_num #[v51_16] w17 fun e34 w33 => ∃ n65_32 : Int, e34 = .returned (Value.int .i64 n65_32) ∧
  bif (n65_32 == (21 : Int)) then (
  Calls Pg fn_plaitlaw06_sure #[] w33 fun e37 w36 => ∃ b69_35 : Bool, e37 = .returned (Value.bool b69_35) ∧
  R (Value.bool b69_35) w36) else (
  R (Value.bool false) w33))) else (
  J19 [] w17))) ∧ ∀ _ : Env, ∀ w38 : World, J19 [] w38 →
  ixA a5 3 (2 : Int) 1 fun a71_39 =>
  ldI .i64 a71_39 w38 fun n72_40 =>
  (IntKind.wrap .u64 (IntKind.wrap .i64 ((s51_15l : Int) - (1 : Int)))) ≠ 0 ∧ ixS s51_15b s51_15l (IntKind.wrap .i64 ((IntKind.wrap .i64 (Int.tmod (IntKind.wrap .u64 n72_40) (IntKind.wrap .u64 (IntKind.wrap .i64 ((s51_15l : Int) - (1 : Int)))))) + (1 : Int))) 1 fun a84_41 =>
  ldI .i64 a84_41 (World.drew w38) fun n85_42 =>
  ixS s51_15b s51_15l (IntKind.wrap .i64 (Int.tmod (IntKind.wrap .u64 n72_40) (IntKind.wrap .u64 (IntKind.wrap .i64 ((s51_15l : Int) - (1 : Int)))))) 1 fun a88_43 =>
  ldI .i64 a88_43 (World.drew w38) fun n89_44 =>
  Calls Pg fn_cut_Forest_Cut #[(Value.pointer p28_7), (Value.int .i64 n85_42), (Value.int .i64 n89_44)] (World.drew w38) fun e47 w46 => ∃ v90_45 : Value, e47 = .returned v90_45 ∧
  isI v90_45 ∧ bif (!(nilI v90_45)) then (
  R (Value.bool false) w46) else (
  ∃ (I48 : List Value → World → Prop) (m49 : List Value → World → Nat), I48 [(Value.int .i64 (0 : Int))] w46 ∧
  ∀ _ : Env, ∀ n50 : Int, ∀ w51 : World, I48 [(Value.int .i64 n50)] w51 →
  bif (decide (n50 < (s51_15l : Int))) then (
  ixS s51_15b s51_15l n50 1 fun a103_52 =>
  ldI .i64 a103_52 w51 fun n104_53 =>
  Calls Pg fn_cut_Forest_Same #[(Value.pointer p28_7), (Value.int .i64 (IntKind.wrap .i64 (Int.tmod (IntKind.wrap .u64 n34_12) (IntKind.wrap .u64 (IntKind.wrap .i64 ((1 : Int) + (IntKind.wrap .i64 (Int.tmod (IntKind.wrap .u64 nn_0) (30 : Int))))))))), (Value.int .i64 n104_53)] w51 fun e57 w56 => ∃ b105_54 : Bool, ∃ v105_55 : Value, e57 = .returned (Value.tuple #[(Value.bool b105_54), v105_55]) ∧
  ixS s51_15b s51_15l n50 1 fun a113_58 =>
  ldI .i64 a113_58 w56 fun n114_59 =>
  Calls Pg fn_cut_Forest_Same #[(Value.pointer p28_7), (Value.int .i64 (IntKind.wrap .i64 (Int.tmod (IntKind.wrap .u64 n41_14) (IntKind.wrap .u64 (IntKind.wrap .i64 ((1 : Int) + (IntKind.wrap .i64 (Int.tmod (IntKind.wrap .u64 nn_0) (30 : Int))))))))), (Value.int .i64 n114_59)] w56 fun e63 w62 => ∃ b115_60 : Bool, ∃ v115_61 : Value, e63 = .returned (Value.tuple #[(Value.bool b115_60), v115_61]) ∧
  isI v105_55 ∧ bif (!(nilI v105_55)) then (
  R (Value.bool false) w62) else (
  isI v115_61 ∧ bif (!(nilI v115_61)) then (
  R (Value.bool false) w62) else (
  bif (!(b105_54 == (decide (n50 ≤ (IntKind.wrap .i64 (Int.tmod (IntKind.wrap .u64 n72_40) (IntKind.wrap .u64 (IntKind.wrap .i64 ((s51_15l : Int) - (1 : Int)))))))))) then (
  R (Value.bool false) w62) else (
  bif (b115_60 == b105_54) then (
  R (Value.bool false) w62) else (
  (I48 [(Value.int .i64 (IntKind.wrap .i64 (n50 + (1 : Int))))] w62 ∧ m49 [(Value.int .i64 (IntKind.wrap .i64 (n50 + (1 : Int))))] w62 < m49 [(Value.int .i64 n50)] w51)))))) else (
  ixS s51_15b s51_15l (IntKind.wrap .i64 (Int.tmod (IntKind.wrap .u64 n72_40) (IntKind.wrap .u64 (IntKind.wrap .i64 ((s51_15l : Int) - (1 : Int)))))) 1 fun a139_64 =>
  ldI .i64 a139_64 (World.drew w51) fun n140_65 =>
  ixS s51_15b s51_15l (IntKind.wrap .i64 ((IntKind.wrap .i64 (Int.tmod (IntKind.wrap .u64 n72_40) (IntKind.wrap .u64 (IntKind.wrap .i64 ((s51_15l : Int) - (1 : Int)))))) + (1 : Int))) 1 fun a144_66 =>
  ldI .i64 a144_66 (World.drew w51) fun n145_67 =>
  Calls Pg fn_cut_Forest_Cut #[(Value.pointer p28_7), (Value.int .i64 n140_65), (Value.int .i64 n145_67)] (World.drew w51) fun e70 w69 => ∃ v146_68 : Value, e70 = .returned v146_68 ∧
  Calls Pg fn_plaitlaw06_num #[v146_68] w69 fun e73 w72 => ∃ n147_71 : Int, e73 = .returned (Value.int .i64 n147_71) ∧
  bif (n147_71 == (21 : Int)) then (
  Calls Pg fn_plaitlaw06_sure #[] w72 fun e76 w75 => ∃ b150_74 : Bool, e76 = .returned (Value.bool b150_74) ∧
  R (Value.bool b150_74) w75) else (
  R (Value.bool false) w72))))
theorem eq_plaitlaw06_CutCuts (nn_0 : Int) (sl_1b : Option Addr) (sl_1l : Nat) (sl_1c : Nat) (nof_2 : Int) (nof_3 : Int) (nof_4 : Int) (w : World) (R : Value → World → Prop) : sh_plaitlaw06_CutCuts nn_0 sl_1b sl_1l sl_1c nof_2 nof_3 nof_4 w R = denF Pg Eall Tryd.f10 (.seq (.leaf) (.seq (.leaf) (.seq (.leaf) (.seq (.seq (.leaf) (.cond (.seq (.leaf) (.leaf)) (.leaf))) (.seq (.reg (.tk 0 [] [] (.tk 1 [] [] (.tk 2 [] [] (.tk 3 [] [] (.tk 4 [] [] (.tk 5 [] [] (.tk 6 [] [] (.tk 7 [] [] (.tk 8 [] [] (.tk 9 [] [] (.tk 10 [] [] (.tk 11 [] [] (.tk 12 [] [] (.tk 13 [] [] (.tk 14 [] [] (.tk 15 [] [] (.fin)))))))))))))))))) (.seq (.leaf) (.join [] [] (.seq (.leaf) (.cond (.seq (.leaf) (.leaf)) (.leaf))) (.seq (.leaf) (.seq (.seq (.reg (.tk 0 [] [] (.tk 1 [] [] (.tk 2 [] [] (.tk 3 [] [] (.tk 4 [] [] (.tk 5 [10, 11] [10] (.tk 6 [] [] (.tk 7 [] [] (.tk 8 [] [] (.tk 9 [10, 11] [10] (.one 10 (.tk 11 [] [] (.fin)))))))))))))) (.cond (.seq (.leaf) (.leaf)) (.leaf))) (.seq (.seq (.leaf) (.block (.loop [15] [.one (.int .i64)] (.seq (.seq (.leaf) (.cond (.leaf) (.leaf))) (.seq (.block (.seq (.leaf) (.seq (.leaf) (.seq (.leaf) (.cond (.seq (.leaf) (.leaf)) (.leaf)))))) (.leaf)))))) (.seq (.reg (.tk 0 [] [] (.tk 1 [] [] (.tk 2 [] [] (.tk 3 [] [] (.tk 4 [10, 11, 12, 13, 14, 15, 16] [10, 11, 14] (.tk 5 [] [] (.tk 6 [] [] (.tk 7 [] [] (.tk 8 [] [] (.tk 9 [10, 11, 12, 13, 14, 15, 16] [10, 11, 14] (.one 10 (.one 11 (.tk 12 [] [] (.tk 13 [] [] (.one 14 (.tk 15 [] [] (.tk 16 [] [] (.fin))))))))))))))))))) (.leaf)))))))))))) [(Value.int .i64 nn_0), (Value.slice sl_1b sl_1l sl_1c), (Value.agg #[(Value.int .i64 nof_2), (Value.int .i64 nof_3), (Value.int .i64 nof_4)])] w R := by kernel_rfl
theorem calls_plaitlaw06_CutCuts (nn_0 : Int) (sl_1b : Option Addr) (sl_1l : Nat) (sl_1c : Nat) (nof_2 : Int) (nof_3 : Int) (nof_4 : Int) (w : World) (R : Value → World → Prop) (h : sh_plaitlaw06_CutCuts nn_0 sl_1b sl_1l sl_1c nof_2 nof_3 nof_4 w R) : Calls Pg fn_plaitlaw06_CutCuts #[(Value.int .i64 nn_0), (Value.slice sl_1b sl_1l sl_1c), (Value.agg #[(Value.int .i64 nof_2), (Value.int .i64 nof_3), (Value.int .i64 nof_4)])] w fun e w' => ∃ v, e = .returned v ∧ R v w' :=
  calls_of_den Eall_enter wide_mixed Tryd.func10 (by rw [← eq_plaitlaw06_CutCuts]; exact h)

/-- 'plait/plaitlaw06.CutLinks' -/
def sh_plaitlaw06_CutLinks (nn_0 : Int) (sl_1b : Option Addr) (sl_1l : Nat) (sl_1c : Nat) (nof_2 : Int) (nof_3 : Int) (nof_4 : Int) (w : World) (R : Value → World → Prop) : Prop :=
  alo #[(Value.int .i64 nof_2), (Value.int .i64 nof_3), (Value.int .i64 nof_4)] T__3int w fun a5 w6 =>
  (30 : Int) ≠ 0 ∧ Calls Pg fn_plaitlaw06_grown #[(Value.int .i64 (IntKind.wrap .i64 ((1 : Int) + (IntKind.wrap .i64 (Int.tmod (IntKind.wrap .u64 nn_0) (30 : Int)))))), (Value.slice sl_1b sl_1l sl_1c)] w6 fun e10 w9 => ∃ p30_7 : Option Addr, ∃ s30_8b : Option Addr, ∃ s30_8l : Nat, ∃ s30_8c : Nat, e10 = .returned (Value.tuple #[(Value.pointer p30_7), (Value.slice s30_8b s30_8l s30_8c)]) ∧
  bif (Option.isNone p30_7) then (
  R (Value.bool false) w9) else (
  ixA a5 3 (0 : Int) 1 fun a35_11 =>
  ldI .i64 a35_11 (World.drew w9) fun n36_12 =>
  (IntKind.wrap .u64 (IntKind.wrap .i64 ((1 : Int) + (IntKind.wrap .i64 (Int.tmod (IntKind.wrap .u64 nn_0) (30 : Int)))))) ≠ 0 ∧ ixA a5 3 (1 : Int) 1 fun a42_13 =>
  ldI .i64 a42_13 (World.drew w9) fun n43_14 =>
  (IntKind.wrap .u64 (IntKind.wrap .i64 ((1 : Int) + (IntKind.wrap .i64 (Int.tmod (IntKind.wrap .u64 nn_0) (30 : Int)))))) ≠ 0 ∧ ixA a5 3 (2 : Int) 1 fun a49_15 =>
  ldI .i64 a49_15 (World.drew w9) fun n50_16 =>
  (IntKind.wrap .u64 (IntKind.wrap .i64 ((1 : Int) + (IntKind.wrap .i64 (Int.tmod (IntKind.wrap .u64 nn_0) (30 : Int)))))) ≠ 0 ∧ Calls Pg fn_cut_Forest_Len #[(Value.pointer p30_7), (Value.int .i64 (IntKind.wrap .i64 (Int.tmod (IntKind.wrap .u64 n36_12) (IntKind.wrap .u64 (IntKind.wrap .i64 ((1 : Int) + (IntKind.wrap .i64 (Int.tmod (IntKind.wrap .u64 nn_0) (30 : Int))))))))), (Value.int .i64 (IntKind.wrap .i64 (Int.tmod (IntKind.wrap .u64 n43_14) (IntKind.wrap .u64 (IntKind.wrap .i64 ((1 : Int) + (IntKind.wrap .i64 (Int.tmod (IntKind.wrap .u64 nn_0) (30 : Int)))))))))] (World.drew w9) fun e20 w19 => ∃ n60_17 : Int, ∃ v60_18 : Value, e20 = .returned (Value.tuple #[(Value.int .i64 n60_17), v60_18]) ∧
  Calls Pg fn_cut_Forest_Near #[(Value.pointer p30_7), (Value.int .i64 (IntKind.wrap .i64 (Int.tmod (IntKind.wrap .u64 n36_12) (IntKind.wrap .u64 (IntKind.wrap .i64 ((1 : Int) + (IntKind.wrap .i64 (Int.tmod (IntKind.wrap .u64 nn_0) (30 : Int))))))))), (Value.int .i64 (IntKind.wrap .i64 (Int.tmod (IntKind.wrap .u64 n43_14) (IntKind.wrap .u64 (IntKind.wrap .i64 ((1 : Int) + (IntKind.wrap .i64 (Int.tmod (IntKind.wrap .u64 nn_0) (30 : Int)))))))))] w19 fun e24 w23 => ∃ b67_21 : Bool, ∃ v67_22 : Value, e24 = .returned (Value.tuple #[(Value.bool b67_21), v67_22]) ∧
  ∃ J25 : List Value → World → Prop, (
  isI v67_22 ∧ bif (!(nilI v67_22)) then (
  R (Value.bool false) w23) else (
  isI v60_18 ∧ bif (nilI v60_18) then (
  bif (!(b67_21 == (n60_17 == (2 : Int)))) then (
  R (Value.bool false) w23) else (
  J25 [] w23)) else (
  bif (!(b67_21 == false)) then (
  R (Value.bool false) w23) else (
  J25 [] w23)))) ∧ ∀ _ : Env, ∀ w26 : World, J25 [] w26 →
  Calls Pg fn_cut_Forest_Len #[(Value.pointer p30_7), (Value.int .i64 (IntKind.wrap .i64 (Int.tmod (IntKind.wrap .u64 n43_14) (IntKind.wrap .u64 (IntKind.wrap .i64 ((1 : Int) + (IntKind.wrap .i64 (Int.tmod (IntKind.wrap .u64 nn_0) (30 : Int))))))))), (Value.int .i64 (IntKind.wrap .i64 (Int.tmod (IntKind.wrap .u64 n50_16) (IntKind.wrap .u64 (IntKind.wrap .i64 ((1 : Int) + (IntKind.wrap .i64 (Int.tmod (IntKind.wrap .u64 nn_0) (30 : Int)))))))))] w26 fun e30 w29 => ∃ n86_27 : Int, ∃ v86_28 : Value, e30 = .returned (Value.tuple #[(Value.int .i64 n86_27), v86_28]) ∧
  Calls Pg fn_cut_Forest_Len #[(Value.pointer p30_7), (Value.int .i64 (IntKind.wrap .i64 (Int.tmod (IntKind.wrap .u64 n50_16) (IntKind.wrap .u64 (IntKind.wrap .i64 ((1 : Int) + (IntKind.wrap .i64 (Int.tmod (IntKind.wrap .u64 nn_0) (30 : Int))))))))), (Value.int .i64 (IntKind.wrap .i64 (Int.tmod (IntKind.wrap .u64 n36_12) (IntKind.wrap .u64 (IntKind.wrap .i64 ((1 : Int) + (IntKind.wrap .i64 (Int.tmod (IntKind.wrap .u64 nn_0) (30 : Int)))))))))] w29 fun e34 w33 => ∃ n93_31 : Int, ∃ v93_32 : Value, e34 = .returned (Value.tuple #[(Value.int .i64 n93_31), v93_32]) ∧
  ∃ J35 : List Value → World → Prop, (
  isI v60_18 ∧ bif (!(nilI v60_18)) then (
  J35 [(Value.bool true)] w33) else (
  isI v86_28 ∧ bif (!(nilI v86_28)) then (
  J35 [(Value.bool true)] w33) else (
  isI v93_32 ∧ J35 [(Value.bool (!(nilI v93_32)))] w33))) ∧ ∀ _ : Env, ∀ b36 : Bool, ∀ w37 : World, J35 [(Value.bool b36)] w37 →
  bif b36 then (
  ∃ J38 : List Value → World → Prop, (
  isI v60_18 ∧ bif (!(nilI v60_18)) then (
  J38 [(Value.int .i64 (1 : Int))] w37) else (
  J38 [(Value.int .i64 (0 : Int))] w37)) ∧ ∀ _ : Env, ∀ n39 : Int, ∀ w40 : World, J38 [(Value.int .i64 n39)] w40 →
  ∃ J41 : List Value → World → Prop, (
  isI v86_28 ∧ bif (!(nilI v86_28)) then (
  J41 [(Value.int .i64 (IntKind.wrap .i64 (n39 + (1 : Int))))] w40) else (
  J41 [(Value.int .i64 n39)] w40)) ∧ ∀ _ : Env, ∀ n42 : Int, ∀ w43 : World, J41 [(Value.int .i64 n42)] w43 →
  ∃ J44 : List Value → World → Prop, (
  isI v93_32 ∧ bif (!(nilI v93_32)) then (
  J44 [(Value.int .i64 (IntKind.wrap .i64 (n42 + (1 : Int))))] w43) else (
  J44 [(Value.int .i64 n42)] w43)) ∧ ∀ _ : Env, ∀ n45 : Int, ∀ w46 : World, J44 [(Value.int .i64 n45)] w46 →
  bif (decide (n45 ≥ (2 : Int))) then (
  Calls Pg fn_plaitlaw06_sure #[] w46 fun e49 w48 => ∃ b121_47 : Bool, e49 = .returned (Value.bool b121_47) ∧
  R (Value.bool b121_47) w48) else (
  R (Value.bool false) w46)) else (
  (2 : Int) ≠ 0 ∧ bif ((Int.tmod (IntKind.wrap .i64 ((IntKind.wrap .i64 ((IntKind.wrap .i64 (n60_17 + n86_27)) + n93_31)) - (3 : Int))) (2 : Int)) == (0 : Int)) then (
  bif (decide (n93_31 ≤ (IntKind.wrap .i64 ((IntKind.wrap .i64 (n60_17 + n86_27)) - (1 : Int))))) then (
  Calls Pg fn_plaitlaw06_sure #[] w37 fun e52 w51 => ∃ b140_50 : Bool, e52 = .returned (Value.bool b140_50) ∧
  R (Value.bool b140_50) w51) else (
  R (Value.bool false) w37)) else (
  R (Value.bool false) w37)))
theorem eq_plaitlaw06_CutLinks (nn_0 : Int) (sl_1b : Option Addr) (sl_1l : Nat) (sl_1c : Nat) (nof_2 : Int) (nof_3 : Int) (nof_4 : Int) (w : World) (R : Value → World → Prop) : sh_plaitlaw06_CutLinks nn_0 sl_1b sl_1l sl_1c nof_2 nof_3 nof_4 w R = denF Pg Eall Tryd.f11 (.seq (.leaf) (.seq (.leaf) (.seq (.leaf) (.seq (.seq (.leaf) (.cond (.seq (.leaf) (.leaf)) (.leaf))) (.seq (.reg (.tk 0 [] [] (.tk 1 [] [] (.tk 2 [] [] (.tk 3 [] [] (.tk 4 [] [] (.tk 5 [] [] (.tk 6 [] [] (.tk 7 [] [] (.tk 8 [] [] (.tk 9 [] [] (.tk 10 [] [] (.tk 11 [] [] (.tk 12 [] [] (.tk 13 [] [] (.tk 14 [] [] (.tk 15 [] [] (.tk 16 [] [] (.tk 17 [] [] (.tk 18 [] [] (.tk 19 [] [] (.tk 20 [] [] (.tk 21 [] [] (.tk 22 [] [] (.tk 23 [] [] (.fin)))))))))))))))))))))))))) (.seq (.leaf) (.seq (.leaf) (.join [] [] (.seq (.leaf) (.cond (.seq (.leaf) (.leaf)) (.leaf))) (.seq (.leaf) (.seq (.leaf) (.seq (.join [105] [.one (.bool)] (.leaf) (.cond (.seq (.leaf) (.join [21] [.one (.int .i64)] (.seq (.leaf) (.cond (.leaf) (.leaf))) (.join [21] [.one (.int .i64)] (.seq (.leaf) (.cond (.leaf) (.leaf))) (.join [21] [.one (.int .i64)] (.seq (.leaf) (.cond (.leaf) (.leaf))) (.seq (.leaf) (.leaf)))))) (.leaf))) (.seq (.leaf) (.leaf))))))))))))) [(Value.int .i64 nn_0), (Value.slice sl_1b sl_1l sl_1c), (Value.agg #[(Value.int .i64 nof_2), (Value.int .i64 nof_3), (Value.int .i64 nof_4)])] w R := by kernel_rfl
theorem calls_plaitlaw06_CutLinks (nn_0 : Int) (sl_1b : Option Addr) (sl_1l : Nat) (sl_1c : Nat) (nof_2 : Int) (nof_3 : Int) (nof_4 : Int) (w : World) (R : Value → World → Prop) (h : sh_plaitlaw06_CutLinks nn_0 sl_1b sl_1l sl_1c nof_2 nof_3 nof_4 w R) : Calls Pg fn_plaitlaw06_CutLinks #[(Value.int .i64 nn_0), (Value.slice sl_1b sl_1l sl_1c), (Value.agg #[(Value.int .i64 nof_2), (Value.int .i64 nof_3), (Value.int .i64 nof_4)])] w fun e w' => ∃ v, e = .returned v ∧ R v w' :=
  calls_of_den Eall_enter wide_mixed Tryd.func11 (by rw [← eq_plaitlaw06_CutLinks]; exact h)

/-- 'plait/plaitlaw06.CutNew' -/
def sh_plaitlaw06_CutNew (nn_0 : Int) (nx_1 : Int) (w : World) (R : Value → World → Prop) : Prop :=
  Calls Pg fn_cut_Forest_Same #[(Value.pointer none), (Value.int .i64 (0 : Int)), (Value.int .i64 (0 : Int))] w fun e5 w4 => ∃ b25_2 : Bool, ∃ v25_3 : Value, e5 = .returned (Value.tuple #[(Value.bool b25_2), v25_3]) ∧
  Calls Pg fn_cut_Forest_Len #[(Value.pointer none), (Value.int .i64 (0 : Int)), (Value.int .i64 (0 : Int))] w4 fun e9 w8 => ∃ n30_6 : Int, ∃ v30_7 : Value, e9 = .returned (Value.tuple #[(Value.int .i64 n30_6), v30_7]) ∧
  Calls Pg fn_cut_Forest_Road #[(Value.pointer none), (Value.int .i64 (0 : Int)), (Value.int .i64 (0 : Int))] w8 fun e13 w12 => ∃ s35_10b : Option Addr, ∃ s35_10l : Nat, ∃ s35_10c : Nat, ∃ v35_11 : Value, e13 = .returned (Value.tuple #[(Value.slice s35_10b s35_10l s35_10c), v35_11]) ∧
  Calls Pg fn_cut_Forest_Least #[(Value.pointer none), (Value.int .i64 (0 : Int)), (Value.int .i64 (0 : Int))] w12 fun e17 w16 => ∃ n40_14 : Int, ∃ v40_15 : Value, e17 = .returned (Value.tuple #[(Value.int .i64 n40_14), v40_15]) ∧
  ∃ J18 : List Value → World → Prop, (
  Calls Pg fn_cut_Forest_Link #[(Value.pointer none), (Value.int .i64 (0 : Int)), (Value.int .i64 (1 : Int))] w16 fun e21 w20 => ∃ v44_19 : Value, e21 = .returned v44_19 ∧
  Calls Pg fn_plaitlaw06_num #[v44_19] w20 fun e24 w23 => ∃ n45_22 : Int, e24 = .returned (Value.int .i64 n45_22) ∧
  bif (n45_22 != (1 : Int)) then (
  R (Value.bool false) w23) else (
  Calls Pg fn_cut_Forest_Cut #[(Value.pointer none), (Value.int .i64 (0 : Int)), (Value.int .i64 (1 : Int))] w23 fun e27 w26 => ∃ v49_25 : Value, e27 = .returned v49_25 ∧
  Calls Pg fn_plaitlaw06_num #[v49_25] w26 fun e30 w29 => ∃ n50_28 : Int, e30 = .returned (Value.int .i64 n50_28) ∧
  bif (n50_28 != (1 : Int)) then (
  R (Value.bool false) w29) else (
  Calls Pg fn_cut_Forest_Set #[(Value.pointer none), (Value.int .i64 (0 : Int)), (Value.int .i64 (1 : Int))] w29 fun e33 w32 => ∃ v55_31 : Value, e33 = .returned v55_31 ∧
  Calls Pg fn_plaitlaw06_num #[v55_31] w32 fun e36 w35 => ∃ n56_34 : Int, e36 = .returned (Value.int .i64 n56_34) ∧
  bif (n56_34 != (1 : Int)) then (
  R (Value.bool false) w35) else (
  Calls Pg fn_plaitlaw06_num #[v25_3] w35 fun e39 w38 => ∃ n61_37 : Int, e39 = .returned (Value.int .i64 n61_37) ∧
  bif (n61_37 != (1 : Int)) then (
  R (Value.bool false) w38) else (
  Calls Pg fn_plaitlaw06_num #[v30_7] w38 fun e42 w41 => ∃ n66_40 : Int, e42 = .returned (Value.int .i64 n66_40) ∧
  bif (n66_40 != (1 : Int)) then (
  R (Value.bool false) w41) else (
  Calls Pg fn_plaitlaw06_num #[v35_11] w41 fun e45 w44 => ∃ n71_43 : Int, e45 = .returned (Value.int .i64 n71_43) ∧
  bif (n71_43 != (1 : Int)) then (
  R (Value.bool false) w44) else (
  Calls Pg fn_plaitlaw06_num #[v40_15] w44 fun e48 w47 => ∃ n76_46 : Int, e48 = .returned (Value.int .i64 n76_46) ∧
  bif (n76_46 != (1 : Int)) then (
  R (Value.bool false) w47) else (
  J18 [] w47)))))))) ∧ ∀ _ : Env, ∀ w49 : World, J18 [] w49 →
  ∃ J50 : List Value → World → Prop, (
  bif (decide (nn_0 > (3000 : Int))) then (
  bif (decide (nn_0 ≤ (8388608 : Int))) then (
  J50 [(Value.int .i64 (3000 : Int))] w49) else (
  J50 [(Value.int .i64 nn_0)] w49)) else (
  J50 [(Value.int .i64 nn_0)] w49)) ∧ ∀ _ : Env, ∀ n51 : Int, ∀ w52 : World, J50 [(Value.int .i64 n51)] w52 →
  Calls Pg fn_cut_New #[(Value.int .i64 n51)] w52 fun e56 w55 => ∃ p88_53 : Option Addr, ∃ v88_54 : Value, e56 = .returned (Value.tuple #[(Value.pointer p88_53), v88_54]) ∧
  ∃ J57 : List Value → World → Prop, (
  bif (decide (n51 < (1 : Int))) then (
  Calls Pg fn_plaitlaw06_num #[v88_54] w55 fun e60 w59 => ∃ n98_58 : Int, e60 = .returned (Value.int .i64 n98_58) ∧
  bif (n98_58 == (1 : Int)) then (
  bif (Option.isNone p88_53) then (
  Calls Pg fn_plaitlaw06_sure #[] w59 fun e63 w62 => ∃ b105_61 : Bool, e63 = .returned (Value.bool b105_61) ∧
  R (Value.bool b105_61) w62) else (
  R (Value.bool false) w59)) else (
  R (Value.bool false) w59)) else (
  bif (decide (n51 > (8388608 : Int))) then (
  Calls Pg fn_plaitlaw06_num #[v88_54] w55 fun e66 w65 => ∃ n98_64 : Int, e66 = .returned (Value.int .i64 n98_64) ∧
  bif (n98_64 == (1 : Int)) then (
  bif (Option.isNone p88_53) then (
  Calls Pg fn_plaitlaw06_sure #[] w65 fun e69 w68 => ∃ b105_67 : Bool, e69 = .returned (Value.bool b105_67) ∧
  R (Value.bool b105_67) w68) else (
  R (Value.bool false) w65)) else (
  R (Value.bool false) w65)) else (
  J57 [] w55))) ∧ ∀ _ : Env, ∀ w70 : World, J57 [] w70 →
  ∃ J71 : List Value → World → Prop, (
  isI v88_54 ∧ bif (!(nilI v88_54)) then (
  R (Value.bool false) w70) else (
  bif (Option.isNone p88_53) then (
  R (Value.bool false) w70) else (
  J71 [] w70))) ∧ ∀ _ : Env, ∀ w72 : World, J71 [] w72 →
  Calls Pg fn_cut_Forest_Road #[(Value.pointer p88_53), (Value.int .i64 nx_1), (Value.int .i64 (0 : Int))] w72 fun e76 w75 => ∃ s116_73b : Option Addr, ∃ s116_73l : Nat, ∃ s116_73c : Nat, ∃ v116_74 : Value, e76 = .returned (Value.tuple #[(Value.slice s116_73b s116_73l s116_73c), v116_74]) ∧
  ∃ J77 : List Value → World → Prop, (
  ∃ J78 : List Value → World → Prop, (
  bif (decide (nx_1 < (0 : Int))) then (
  J78 [(Value.bool true)] w75) else (
  J78 [(Value.bool (decide (nx_1 ≥ n51)))] w75)) ∧ ∀ _ : Env, ∀ b79 : Bool, ∀ w80 : World, J78 [(Value.bool b79)] w80 →
  bif b79 then (
  Calls Pg fn_cut_Forest_Sum #[(Value.pointer p88_53), (Value.int .i64 (0 : Int)), (Value.int .i64 nx_1)] w80 fun e84 w83 => ∃ n129_81 : Int, ∃ v129_82 : Value, e84 = .returned (Value.tuple #[(Value.int .i64 n129_81), v129_82]) ∧
  Calls Pg fn_cut_Forest_Most #[(Value.pointer p88_53), (Value.int .i64 nx_1), (Value.int .i64 (0 : Int))] w83 fun e88 w87 => ∃ n135_85 : Int, ∃ v135_86 : Value, e88 = .returned (Value.tuple #[(Value.int .i64 n135_85), v135_86]) ∧
  Calls Pg fn_plaitlaw06_num #[v116_74] w87 fun e91 w90 => ∃ n139_89 : Int, e91 = .returned (Value.int .i64 n139_89) ∧
  bif (n139_89 == (12 : Int)) then (
  Calls Pg fn_plaitlaw06_num #[v129_82] w90 fun e94 w93 => ∃ n143_92 : Int, e94 = .returned (Value.int .i64 n143_92) ∧
  bif (n143_92 == (12 : Int)) then (
  Calls Pg fn_plaitlaw06_num #[v135_86] w93 fun e97 w96 => ∃ n148_95 : Int, e97 = .returned (Value.int .i64 n148_95) ∧
  bif (n148_95 == (12 : Int)) then (
  Calls Pg fn_cut_Forest_Set #[(Value.pointer p88_53), (Value.int .i64 nx_1), (Value.int .i64 (1 : Int))] w96 fun e100 w99 => ∃ v154_98 : Value, e100 = .returned v154_98 ∧
  Calls Pg fn_plaitlaw06_num #[v154_98] w99 fun e103 w102 => ∃ n155_101 : Int, e103 = .returned (Value.int .i64 n155_101) ∧
  bif (n155_101 == (12 : Int)) then (
  Calls Pg fn_plaitlaw06_sure #[] w102 fun e106 w105 => ∃ b159_104 : Bool, e106 = .returned (Value.bool b159_104) ∧
  R (Value.bool b159_104) w105) else (
  R (Value.bool false) w102)) else (
  R (Value.bool false) w96)) else (
  R (Value.bool false) w93)) else (
  R (Value.bool false) w90)) else (
  J77 [] w80)) ∧ ∀ _ : Env, ∀ w107 : World, J77 [] w107 →
  bif (nx_1 == (0 : Int)) then (
  isI v116_74 ∧ bif (nilI v116_74) then (
  alo #[(Value.int .i64 (0 : Int))] T_int w107 fun a108 w109 =>
  Calls Pg fn_plaitlaw06_ints #[(Value.slice s116_73b s116_73l s116_73c), (Value.slice (some a108) 1 1)] w109 fun e112 w111 => ∃ b168_110 : Bool, e112 = .returned (Value.bool b168_110) ∧
  bif b168_110 then (
  Calls Pg fn_plaitlaw06_sure #[] w111 fun e115 w114 => ∃ b171_113 : Bool, e115 = .returned (Value.bool b171_113) ∧
  R (Value.bool b171_113) w114) else (
  R (Value.bool false) w111)) else (
  R (Value.bool false) w107)) else (
  Calls Pg fn_plaitlaw06_num #[v116_74] w107 fun e118 w117 => ∃ n174_116 : Int, e118 = .returned (Value.int .i64 n174_116) ∧
  bif (n174_116 == (21 : Int)) then (
  bif ((s116_73l : Int) == (0 : Int)) then (
  Calls Pg fn_plaitlaw06_sure #[] w117 fun e121 w120 => ∃ b182_119 : Bool, e121 = .returned (Value.bool b182_119) ∧
  R (Value.bool b182_119) w120) else (
  R (Value.bool false) w117)) else (
  R (Value.bool false) w117))
theorem eq_plaitlaw06_CutNew (nn_0 : Int) (nx_1 : Int) (w : World) (R : Value → World → Prop) : sh_plaitlaw06_CutNew nn_0 nx_1 w R = denF Pg Eall Tryd.f12 (.seq (.leaf) (.seq (.leaf) (.seq (.leaf) (.seq (.leaf) (.seq (.leaf) (.seq (.leaf) (.join [] [] (.seq (.leaf) (.cond (.seq (.leaf) (.leaf)) (.leaf))) (.seq (.leaf) (.join [14] [.one (.int .i64)] (.seq (.leaf) (.cond (.leaf) (.leaf))) (.seq (.leaf) (.join [] [] (.seq (.leaf) (.cond (.seq (.leaf) (.leaf)) (.leaf))) (.join [] [] (.seq (.leaf) (.cond (.seq (.leaf) (.leaf)) (.leaf))) (.seq (.leaf) (.join [] [] (.join [125] [.one (.bool)] (.leaf) (.cond (.seq (.leaf) (.seq (.leaf) (.seq (.leaf) (.leaf)))) (.leaf))) (.seq (.seq (.leaf) (.cond (.seq (.leaf) (.leaf)) (.leaf))) (.seq (.leaf) (.leaf))))))))))))))))) [(Value.int .i64 nn_0), (Value.int .i64 nx_1)] w R := by kernel_rfl
theorem calls_plaitlaw06_CutNew (nn_0 : Int) (nx_1 : Int) (w : World) (R : Value → World → Prop) (h : sh_plaitlaw06_CutNew nn_0 nx_1 w R) : Calls Pg fn_plaitlaw06_CutNew #[(Value.int .i64 nn_0), (Value.int .i64 nx_1)] w fun e w' => ∃ v, e = .returned v ∧ R v w' :=
  calls_of_den Eall_enter wide_mixed Tryd.func12 (by rw [← eq_plaitlaw06_CutNew]; exact h)

/-- 'plait/plaitlaw06.CutRuns' -/
def sh_plaitlaw06_CutRuns (nn_0 : Int) (sl_1b : Option Addr) (sl_1l : Nat) (sl_1c : Nat) (w : World) (R : Value → World → Prop) : Prop :=
  (16 : Int) ≠ 0 ∧ Calls Pg fn_cut_New #[(Value.int .i64 (IntKind.wrap .i64 ((1 : Int) + (IntKind.wrap .i64 (Int.tmod (IntKind.wrap .u64 nn_0) (16 : Int))))))] w fun e5 w4 => ∃ p28_2 : Option Addr, ∃ v28_3 : Value, e5 = .returned (Value.tuple #[(Value.pointer p28_2), v28_3]) ∧
  ∃ J6 : List Value → World → Prop, (
  isI v28_3 ∧ bif (!(nilI v28_3)) then (
  R (Value.bool false) w4) else (
  bif (Option.isNone p28_2) then (
  R (Value.bool false) w4) else (
  J6 [] w4))) ∧ ∀ _ : Env, ∀ w7 : World, J6 [] w7 →
  0 ≤ (IntKind.wrap .i64 ((1 : Int) + (IntKind.wrap .i64 (Int.tmod (IntKind.wrap .u64 nn_0) (16 : Int))))) ∧ (IntKind.wrap .i64 ((1 : Int) + (IntKind.wrap .i64 (Int.tmod (IntKind.wrap .u64 nn_0) (16 : Int))))) ≤ (IntKind.wrap .i64 ((1 : Int) + (IntKind.wrap .i64 (Int.tmod (IntKind.wrap .u64 nn_0) (16 : Int))))) ∧ (8 : Int) * (IntKind.wrap .i64 ((1 : Int) + (IntKind.wrap .i64 (Int.tmod (IntKind.wrap .u64 nn_0) (16 : Int))))) ≤ 140737488355328 ∧ alo (zerosOf #[(Value.int .i64 (0 : Int))] (Int.toNat (IntKind.wrap .i64 ((1 : Int) + (IntKind.wrap .i64 (Int.tmod (IntKind.wrap .u64 nn_0) (16 : Int))))))) T_int64 w7 fun a8 w9 =>
  ∃ (I10 : List Value → World → Prop) (m11 : List Value → World → Nat), I10 [(Value.slice none 0 0), (Value.int .i64 (0 : Int))] w9 ∧
  ∀ _ : Env, ∀ s12b : Option Addr, ∀ s12l : Nat, ∀ s12c : Nat, ∀ n13 : Int, ∀ w14 : World, I10 [(Value.slice s12b s12l s12c), (Value.int .i64 n13)] w14 →
  ∃ J15 : List Value → World → Prop, (
  bif (decide (n13 < (sl_1l : Int))) then (
  bif (decide (n13 < (80 : Int))) then (
  J15 [] w14) else (
  Calls Pg fn_plaitlaw06_sure #[] w14 fun e18 w17 => ∃ b208_16 : Bool, e18 = .returned (Value.bool b208_16) ∧
  R (Value.bool b208_16) w17)) else (
  Calls Pg fn_plaitlaw06_sure #[] w14 fun e21 w20 => ∃ b208_19 : Bool, e21 = .returned (Value.bool b208_19) ∧
  R (Value.bool b208_19) w20)) ∧ ∀ _ : Env, ∀ w22 : World, J15 [] w22 →
  ixS sl_1b sl_1l n13 4 fun a51_23 =>
  ldI .i64 (a51_23.add 1) (World.drew w22) fun n53_24 =>
  ixS sl_1b sl_1l n13 4 fun a56_25 =>
  ldI .i64 (a56_25.add 2) (World.drew w22) fun n58_26 =>
  ∃ J27 : List Value → World → Prop, (
  ∃ J28 : List Value → World → Prop, (
  bif (decide (n53_24 < (0 : Int))) then (
  J28 [(Value.bool true)] (World.drew w22)) else (
  bif (decide (n53_24 ≥ (IntKind.wrap .i64 ((1 : Int) + (IntKind.wrap .i64 (Int.tmod (IntKind.wrap .u64 nn_0) (16 : Int))))))) then (
  J28 [(Value.bool true)] (World.drew w22)) else (
  bif (decide (n58_26 < (0 : Int))) then (
  J28 [(Value.bool true)] (World.drew w22)) else (
  J28 [(Value.bool (decide (n58_26 ≥ (IntKind.wrap .i64 ((1 : Int) + (IntKind.wrap .i64 (Int.tmod (IntKind.wrap .u64 nn_0) (16 : Int))))))))] (World.drew w22))))) ∧ ∀ _ : Env, ∀ b29 : Bool, ∀ w30 : World, J28 [(Value.bool b29)] w30 →
  bif b29 then (
  Calls Pg fn_cut_Forest_Near #[(Value.pointer p28_2), (Value.int .i64 n53_24), (Value.int .i64 n58_26)] w30 fun e34 w33 => ∃ b79_31 : Bool, ∃ v79_32 : Value, e34 = .returned (Value.tuple #[(Value.bool b79_31), v79_32]) ∧
  Calls Pg fn_cut_Forest_Link #[(Value.pointer p28_2), (Value.int .i64 n53_24), (Value.int .i64 n58_26)] w33 fun e37 w36 => ∃ v85_35 : Value, e37 = .returned v85_35 ∧
  Calls Pg fn_plaitlaw06_num #[v85_35] w36 fun e40 w39 => ∃ n86_38 : Int, e40 = .returned (Value.int .i64 n86_38) ∧
  bif (n86_38 != (12 : Int)) then (
  R (Value.bool false) w39) else (
  Calls Pg fn_cut_Forest_Cut #[(Value.pointer p28_2), (Value.int .i64 n53_24), (Value.int .i64 n58_26)] w39 fun e43 w42 => ∃ v92_41 : Value, e43 = .returned v92_41 ∧
  Calls Pg fn_plaitlaw06_num #[v92_41] w42 fun e46 w45 => ∃ n93_44 : Int, e46 = .returned (Value.int .i64 n93_44) ∧
  bif (n93_44 != (12 : Int)) then (
  R (Value.bool false) w45) else (
  Calls Pg fn_plaitlaw06_num #[v79_32] w45 fun e49 w48 => ∃ n98_47 : Int, e49 = .returned (Value.int .i64 n98_47) ∧
  bif (n98_47 != (12 : Int)) then (
  R (Value.bool false) w48) else (
  (I10 [(Value.slice s12b s12l s12c), (Value.int .i64 (IntKind.wrap .i64 (n13 + (1 : Int))))] w48 ∧ m11 [(Value.slice s12b s12l s12c), (Value.int .i64 (IntKind.wrap .i64 (n13 + (1 : Int))))] w48 < m11 [(Value.slice s12b s12l s12c), (Value.int .i64 n13)] w14))))) else (
  J27 [] w30)) ∧ ∀ _ : Env, ∀ w50 : World, J27 [] w50 →
  Calls Pg fn_plaitref06_Find #[(Value.slice s12b s12l s12c), (Value.int .i64 n53_24), (Value.int .i64 n58_26)] w50 fun e53 w52 => ∃ n104_51 : Int, e53 = .returned (Value.int .i64 n104_51) ∧
  Calls Pg fn_cut_Forest_Near #[(Value.pointer p28_2), (Value.int .i64 n53_24), (Value.int .i64 n58_26)] w52 fun e57 w56 => ∃ b109_54 : Bool, ∃ v109_55 : Value, e57 = .returned (Value.tuple #[(Value.bool b109_54), v109_55]) ∧
  ∃ J58 : List Value → World → Prop, (
  isI v109_55 ∧ bif (!(nilI v109_55)) then (
  R (Value.bool false) w56) else (
  bif (!(b109_54 == (decide (n104_51 ≥ (0 : Int))))) then (
  R (Value.bool false) w56) else (
  J58 [] w56))) ∧ ∀ _ : Env, ∀ w59 : World, J58 [] w59 →
  ∃ J60 : List Value → World → Prop, (
  ixS sl_1b sl_1l n13 4 fun a122_61 =>
  ldI .i64 a122_61 w59 fun n124_62 =>
  (8 : Int) ≠ 0 ∧ ∃ J63 : List Value → World → Prop, (
  bif ((IntKind.wrap .i64 (Int.tmod (IntKind.wrap .u64 n124_62) (8 : Int))) == (4 : Int)) then (
  J63 [(Value.bool ((IntKind.wrap .i64 (Int.tmod (IntKind.wrap .u64 n124_62) (8 : Int))) == (4 : Int)))] w59) else (
  J63 [(Value.bool ((IntKind.wrap .i64 (Int.tmod (IntKind.wrap .u64 n124_62) (8 : Int))) == (5 : Int)))] w59)) ∧ ∀ _ : Env, ∀ b64 : Bool, ∀ w65 : World, J63 [(Value.bool b64)] w65 →
  bif b64 then (
  Calls Pg fn_cut_Forest_Cut #[(Value.pointer p28_2), (Value.int .i64 n53_24), (Value.int .i64 n58_26)] w65 fun e68 w67 => ∃ v156_66 : Value, e68 = .returned v156_66 ∧
  bif (decide (n104_51 < (0 : Int))) then (
  Calls Pg fn_plaitlaw06_num #[v156_66] w67 fun e71 w70 => ∃ n160_69 : Int, e71 = .returned (Value.int .i64 n160_69) ∧
  bif (n160_69 != (21 : Int)) then (
  R (Value.bool false) w70) else (
  J60 [(Value.slice s12b s12l s12c)] w70)) else (
  Calls Pg fn_plaitref06_Without #[(Value.slice s12b s12l s12c), (Value.int .i64 n104_51)] w67 fun e74 w73 => ∃ s164_72b : Option Addr, ∃ s164_72l : Nat, ∃ s164_72c : Nat, e74 = .returned (Value.slice s164_72b s164_72l s164_72c) ∧
  isI v156_66 ∧ bif (!(nilI v156_66)) then (
  R (Value.bool false) w73) else (
  J60 [(Value.slice s164_72b s164_72l s164_72c)] w73))) else (
  ∃ J75 : List Value → World → Prop, (
  bif ((IntKind.wrap .i64 (Int.tmod (IntKind.wrap .u64 n124_62) (8 : Int))) == (6 : Int)) then (
  J75 [(Value.bool ((IntKind.wrap .i64 (Int.tmod (IntKind.wrap .u64 n124_62) (8 : Int))) == (6 : Int)))] w65) else (
  J75 [(Value.bool ((IntKind.wrap .i64 (Int.tmod (IntKind.wrap .u64 n124_62) (8 : Int))) == (7 : Int)))] w65)) ∧ ∀ _ : Env, ∀ b76 : Bool, ∀ w77 : World, J75 [(Value.bool b76)] w77 →
  bif b76 then (
  ixS sl_1b sl_1l n13 4 fun a174_78 =>
  ldI .i64 (a174_78.add 3) w77 fun n176_79 =>
  ixS (some a8) (Int.toNat (IntKind.wrap .i64 ((1 : Int) + (IntKind.wrap .i64 (Int.tmod (IntKind.wrap .u64 nn_0) (16 : Int)))))) n53_24 1 fun a177_80 =>
  sto a177_80 (Value.int .i64 n176_79) w77 fun w81 =>
  ixS sl_1b sl_1l n13 4 fun a182_82 =>
  ldI .i64 (a182_82.add 3) w81 fun n184_83 =>
  Calls Pg fn_cut_Forest_Set #[(Value.pointer p28_2), (Value.int .i64 n53_24), (Value.int .i64 n184_83)] w81 fun e86 w85 => ∃ v185_84 : Value, e86 = .returned v185_84 ∧
  isI v185_84 ∧ bif (!(nilI v185_84)) then (
  R (Value.bool false) w85) else (
  J60 [(Value.slice s12b s12l s12c)] w85)) else (
  Calls Pg fn_cut_Forest_Link #[(Value.pointer p28_2), (Value.int .i64 n53_24), (Value.int .i64 n58_26)] w77 fun e89 w88 => ∃ v131_87 : Value, e89 = .returned v131_87 ∧
  Calls Pg fn_plaitref06_Road #[(Value.int .i64 (IntKind.wrap .i64 ((1 : Int) + (IntKind.wrap .i64 (Int.tmod (IntKind.wrap .u64 nn_0) (16 : Int)))))), (Value.slice s12b s12l s12c), (Value.int .i64 n53_24), (Value.int .i64 n58_26)] w88 fun e92 w91 => ∃ s136_90b : Option Addr, ∃ s136_90l : Nat, ∃ s136_90c : Nat, e92 = .returned (Value.slice s136_90b s136_90l s136_90c) ∧
  bif (decide ((s136_90l : Int) > (0 : Int))) then (
  Calls Pg fn_plaitlaw06_num #[v131_87] w91 fun e95 w94 => ∃ n140_93 : Int, e95 = .returned (Value.int .i64 n140_93) ∧
  bif (n140_93 != (20 : Int)) then (
  R (Value.bool false) w94) else (
  J60 [(Value.slice s12b s12l s12c)] w94)) else (
  alo #[(Value.int .i64 n53_24), (Value.int .i64 n58_26)] T__2int w91 fun a96 w97 =>
  ∃ s147_98b : Option Addr, ∃ s147_98l : Nat, ∃ s147_98c : Nat, ∃ w99 : World, (Builtin.append_ #[T_sl__2int, T_sl__2int] T_sl__2int #[(Value.slice s12b s12l s12c), (Value.slice (some a96) 1 1)]).run Pg w97 = .ok (Value.slice s147_98b s147_98l s147_98c) w99 ∧
  isI v131_87 ∧ bif (!(nilI v131_87)) then (
  R (Value.bool false) w99) else (
  J60 [(Value.slice s147_98b s147_98l s147_98c)] w99))))) ∧ ∀ _ : Env, ∀ s100b : Option Addr, ∀ s100l : Nat, ∀ s100c : Nat, ∀ w101 : World, J60 [(Value.slice s100b s100l s100c)] w101 →
  ixS sl_1b sl_1l n13 4 fun a189_102 =>
  ldI .i64 (a189_102.add 3) w101 fun n191_103 =>
  (IntKind.wrap .u64 (IntKind.wrap .i64 ((1 : Int) + (IntKind.wrap .i64 (Int.tmod (IntKind.wrap .u64 nn_0) (16 : Int)))))) ≠ 0 ∧ Calls Pg fn_plaitref06_Road #[(Value.int .i64 (IntKind.wrap .i64 ((1 : Int) + (IntKind.wrap .i64 (Int.tmod (IntKind.wrap .u64 nn_0) (16 : Int)))))), (Value.slice s100b s100l s100c), (Value.int .i64 (IntKind.wrap .i64 (Int.tmod (IntKind.wrap .u64 n191_103) (IntKind.wrap .u64 (IntKind.wrap .i64 ((1 : Int) + (IntKind.wrap .i64 (Int.tmod (IntKind.wrap .u64 nn_0) (16 : Int))))))))), (Value.int .i64 n58_26)] w101 fun e106 w105 => ∃ s202_104b : Option Addr, ∃ s202_104l : Nat, ∃ s202_104c : Nat, e106 = .returned (Value.slice s202_104b s202_104l s202_104c) ∧
  Calls Pg fn_plaitlaw06_told #[(Value.pointer p28_2), (Value.slice s202_104b s202_104l s202_104c), (Value.slice (some a8) (Int.toNat (IntKind.wrap .i64 ((1 : Int) + (IntKind.wrap .i64 (Int.tmod (IntKind.wrap .u64 nn_0) (16 : Int)))))) (Int.toNat (IntKind.wrap .i64 ((1 : Int) + (IntKind.wrap .i64 (Int.tmod (IntKind.wrap .u64 nn_0) (16 : Int))))))), (Value.int .i64 (IntKind.wrap .i64 (Int.tmod (IntKind.wrap .u64 n191_103) (IntKind.wrap .u64 (IntKind.wrap .i64 ((1 : Int) + (IntKind.wrap .i64 (Int.tmod (IntKind.wrap .u64 nn_0) (16 : Int))))))))), (Value.int .i64 n58_26)] w105 fun e109 w108 => ∃ b206_107 : Bool, e109 = .returned (Value.bool b206_107) ∧
  bif (!b206_107) then (
  R (Value.bool false) w108) else (
  (I10 [(Value.slice s100b s100l s100c), (Value.int .i64 (IntKind.wrap .i64 (n13 + (1 : Int))))] w108 ∧ m11 [(Value.slice s100b s100l s100c), (Value.int .i64 (IntKind.wrap .i64 (n13 + (1 : Int))))] w108 < m11 [(Value.slice s12b s12l s12c), (Value.int .i64 n13)] w14))
theorem eq_plaitlaw06_CutRuns (nn_0 : Int) (sl_1b : Option Addr) (sl_1l : Nat) (sl_1c : Nat) (w : World) (R : Value → World → Prop) : sh_plaitlaw06_CutRuns nn_0 sl_1b sl_1l sl_1c w R = denF Pg Eall Tryd.f13 (.seq (.leaf) (.seq (.leaf) (.seq (.leaf) (.join [] [] (.seq (.leaf) (.cond (.seq (.leaf) (.leaf)) (.leaf))) (.seq (.leaf) (.seq (.leaf) (.seq (.seq (.leaf) (.block (.loop [8, 10] [.one (.slc), .one (.int .i64)] (.join [] [] (.seq (.leaf) (.cond (.leaf) (.leaf))) (.seq (.block (.seq (.reg (.tk 0 [] [] (.tk 1 [] [] (.tk 2 [] [] (.tk 3 [] [] (.tk 4 [] [] (.tk 5 [] [] (.tk 6 [] [] (.tk 7 [] [] (.tk 8 [] [] (.tk 9 [] [] (.tk 10 [] [] (.tk 11 [] [] (.fin)))))))))))))) (.join [] [] (.join [74] [.one (.bool)] (.leaf) (.cond (.seq (.leaf) (.seq (.seq (.leaf) (.cond (.seq (.leaf) (.leaf)) (.leaf))) (.leaf))) (.leaf))) (.seq (.leaf) (.seq (.leaf) (.join [] [] (.seq (.leaf) (.cond (.seq (.leaf) (.leaf)) (.leaf))) (.join [8] [.one (.slc)] (.seq (.leaf) (.block (.join [150] [.one (.bool)] (.seq (.leaf) (.cond (.leaf) (.leaf))) (.cond (.seq (.leaf) (.seq (.seq (.leaf) (.cond (.seq (.seq (.leaf) (.cond (.seq (.leaf) (.leaf)) (.leaf))) (.leaf)) (.leaf))) (.seq (.leaf) (.seq (.leaf) (.cond (.seq (.leaf) (.leaf)) (.leaf)))))) (.join [167] [.one (.bool)] (.seq (.leaf) (.cond (.leaf) (.leaf))) (.cond (.seq (.leaf) (.seq (.leaf) (.cond (.seq (.leaf) (.leaf)) (.leaf)))) (.seq (.leaf) (.seq (.seq (.leaf) (.cond (.seq (.seq (.leaf) (.cond (.seq (.leaf) (.leaf)) (.leaf))) (.leaf)) (.leaf))) (.seq (.leaf) (.seq (.leaf) (.cond (.seq (.leaf) (.leaf)) (.leaf)))))))))))) (.seq (.leaf) (.seq (.leaf) (.cond (.seq (.leaf) (.leaf)) (.leaf))))))))))) (.leaf)))))) (.seq (.leaf) (.leaf))))))))) [(Value.int .i64 nn_0), (Value.slice sl_1b sl_1l sl_1c)] w R := by kernel_rfl
theorem calls_plaitlaw06_CutRuns (nn_0 : Int) (sl_1b : Option Addr) (sl_1l : Nat) (sl_1c : Nat) (w : World) (R : Value → World → Prop) (h : sh_plaitlaw06_CutRuns nn_0 sl_1b sl_1l sl_1c w R) : Calls Pg fn_plaitlaw06_CutRuns #[(Value.int .i64 nn_0), (Value.slice sl_1b sl_1l sl_1c)] w fun e w' => ∃ v, e = .returned v ∧ R v w' :=
  calls_of_den Eall_enter wide_mixed Tryd.func13 (by rw [← eq_plaitlaw06_CutRuns]; exact h)

/-- 'plait/plaitlaw06.CutSums' -/
def sh_plaitlaw06_CutSums (nn_0 : Int) (sl_1b : Option Addr) (sl_1l : Nat) (sl_1c : Nat) (nof_2 : Int) (nof_3 : Int) (w : World) (R : Value → World → Prop) : Prop :=
  alo #[(Value.int .i64 nof_2), (Value.int .i64 nof_3)] T__2int w fun a4 w5 =>
  (30 : Int) ≠ 0 ∧ Calls Pg fn_plaitlaw06_grown #[(Value.int .i64 (IntKind.wrap .i64 ((1 : Int) + (IntKind.wrap .i64 (Int.tmod (IntKind.wrap .u64 nn_0) (30 : Int)))))), (Value.slice sl_1b sl_1l sl_1c)] w5 fun e9 w8 => ∃ p32_6 : Option Addr, ∃ s32_7b : Option Addr, ∃ s32_7l : Nat, ∃ s32_7c : Nat, e9 = .returned (Value.tuple #[(Value.pointer p32_6), (Value.slice s32_7b s32_7l s32_7c)]) ∧
  bif (Option.isNone p32_6) then (
  R (Value.bool false) w8) else (
  ixA a4 2 (0 : Int) 1 fun a37_10 =>
  ldI .i64 a37_10 (World.drew w8) fun n38_11 =>
  (IntKind.wrap .u64 (IntKind.wrap .i64 ((1 : Int) + (IntKind.wrap .i64 (Int.tmod (IntKind.wrap .u64 nn_0) (30 : Int)))))) ≠ 0 ∧ ixA a4 2 (1 : Int) 1 fun a44_12 =>
  ldI .i64 a44_12 (World.drew w8) fun n45_13 =>
  (IntKind.wrap .u64 (IntKind.wrap .i64 ((1 : Int) + (IntKind.wrap .i64 (Int.tmod (IntKind.wrap .u64 nn_0) (30 : Int)))))) ≠ 0 ∧ Calls Pg fn_cut_Forest_Road #[(Value.pointer p32_6), (Value.int .i64 (IntKind.wrap .i64 (Int.tmod (IntKind.wrap .u64 n38_11) (IntKind.wrap .u64 (IntKind.wrap .i64 ((1 : Int) + (IntKind.wrap .i64 (Int.tmod (IntKind.wrap .u64 nn_0) (30 : Int))))))))), (Value.int .i64 (IntKind.wrap .i64 (Int.tmod (IntKind.wrap .u64 n45_13) (IntKind.wrap .u64 (IntKind.wrap .i64 ((1 : Int) + (IntKind.wrap .i64 (Int.tmod (IntKind.wrap .u64 nn_0) (30 : Int)))))))))] (World.drew w8) fun e17 w16 => ∃ s55_14b : Option Addr, ∃ s55_14l : Nat, ∃ s55_14c : Nat, ∃ v55_15 : Value, e17 = .returned (Value.tuple #[(Value.slice s55_14b s55_14l s55_14c), v55_15]) ∧
  Calls Pg fn_cut_Forest_Same #[(Value.pointer p32_6), (Value.int .i64 (IntKind.wrap .i64 (Int.tmod (IntKind.wrap .u64 n38_11) (IntKind.wrap .u64 (IntKind.wrap .i64 ((1 : Int) + (IntKind.wrap .i64 (Int.tmod (IntKind.wrap .u64 nn_0) (30 : Int))))))))), (Value.int .i64 (IntKind.wrap .i64 (Int.tmod (IntKind.wrap .u64 n45_13) (IntKind.wrap .u64 (IntKind.wrap .i64 ((1 : Int) + (IntKind.wrap .i64 (Int.tmod (IntKind.wrap .u64 nn_0) (30 : Int)))))))))] w16 fun e21 w20 => ∃ b62_18 : Bool, ∃ v62_19 : Value, e21 = .returned (Value.tuple #[(Value.bool b62_18), v62_19]) ∧
  ∃ J22 : List Value → World → Prop, (
  isI v62_19 ∧ bif (!(nilI v62_19)) then (
  R (Value.bool false) w20) else (
  isI v55_15 ∧ bif (!((nilI v55_15) == b62_18)) then (
  R (Value.bool false) w20) else (
  J22 [] w20))) ∧ ∀ _ : Env, ∀ w23 : World, J22 [] w23 →
  bif (!b62_18) then (
  ∃ J24 : List Value → World → Prop, (
  Calls Pg fn_plaitlaw06_num #[v55_15] w23 fun e27 w26 => ∃ n76_25 : Int, e27 = .returned (Value.int .i64 n76_25) ∧
  bif (n76_25 == (21 : Int)) then (
  Calls Pg fn_plaitlaw06_sure #[] w26 fun e30 w29 => ∃ b79_28 : Bool, e30 = .returned (Value.bool b79_28) ∧
  J24 [(Value.bool b79_28)] w29) else (
  J24 [(Value.bool false)] w26)) ∧ ∀ _ : Env, ∀ b31 : Bool, ∀ w32 : World, J24 [(Value.bool b31)] w32 →
  R (Value.bool b31) w32) else (
  Calls Pg fn_cut_Forest_Len #[(Value.pointer p32_6), (Value.int .i64 (IntKind.wrap .i64 (Int.tmod (IntKind.wrap .u64 n38_11) (IntKind.wrap .u64 (IntKind.wrap .i64 ((1 : Int) + (IntKind.wrap .i64 (Int.tmod (IntKind.wrap .u64 nn_0) (30 : Int))))))))), (Value.int .i64 (IntKind.wrap .i64 (Int.tmod (IntKind.wrap .u64 n45_13) (IntKind.wrap .u64 (IntKind.wrap .i64 ((1 : Int) + (IntKind.wrap .i64 (Int.tmod (IntKind.wrap .u64 nn_0) (30 : Int)))))))))] w23 fun e36 w35 => ∃ n85_33 : Int, ∃ v85_34 : Value, e36 = .returned (Value.tuple #[(Value.int .i64 n85_33), v85_34]) ∧
  Calls Pg fn_cut_Forest_Sum #[(Value.pointer p32_6), (Value.int .i64 (IntKind.wrap .i64 (Int.tmod (IntKind.wrap .u64 n38_11) (IntKind.wrap .u64 (IntKind.wrap .i64 ((1 : Int) + (IntKind.wrap .i64 (Int.tmod (IntKind.wrap .u64 nn_0) (30 : Int))))))))), (Value.int .i64 (IntKind.wrap .i64 (Int.tmod (IntKind.wrap .u64 n45_13) (IntKind.wrap .u64 (IntKind.wrap .i64 ((1 : Int) + (IntKind.wrap .i64 (Int.tmod (IntKind.wrap .u64 nn_0) (30 : Int)))))))))] w35 fun e40 w39 => ∃ n92_37 : Int, ∃ v92_38 : Value, e40 = .returned (Value.tuple #[(Value.int .i64 n92_37), v92_38]) ∧
  Calls Pg fn_cut_Forest_Least #[(Value.pointer p32_6), (Value.int .i64 (IntKind.wrap .i64 (Int.tmod (IntKind.wrap .u64 n38_11) (IntKind.wrap .u64 (IntKind.wrap .i64 ((1 : Int) + (IntKind.wrap .i64 (Int.tmod (IntKind.wrap .u64 nn_0) (30 : Int))))))))), (Value.int .i64 (IntKind.wrap .i64 (Int.tmod (IntKind.wrap .u64 n45_13) (IntKind.wrap .u64 (IntKind.wrap .i64 ((1 : Int) + (IntKind.wrap .i64 (Int.tmod (IntKind.wrap .u64 nn_0) (30 : Int)))))))))] w39 fun e44 w43 => ∃ n99_41 : Int, ∃ v99_42 : Value, e44 = .returned (Value.tuple #[(Value.int .i64 n99_41), v99_42]) ∧
  Calls Pg fn_cut_Forest_Most #[(Value.pointer p32_6), (Value.int .i64 (IntKind.wrap .i64 (Int.tmod (IntKind.wrap .u64 n38_11) (IntKind.wrap .u64 (IntKind.wrap .i64 ((1 : Int) + (IntKind.wrap .i64 (Int.tmod (IntKind.wrap .u64 nn_0) (30 : Int))))))))), (Value.int .i64 (IntKind.wrap .i64 (Int.tmod (IntKind.wrap .u64 n45_13) (IntKind.wrap .u64 (IntKind.wrap .i64 ((1 : Int) + (IntKind.wrap .i64 (Int.tmod (IntKind.wrap .u64 nn_0) (30 : Int)))))))))] w43 fun e48 w47 => ∃ n106_45 : Int, ∃ v106_46 : Value, e48 = .returned (Value.tuple #[(Value.int .i64 n106_45), v106_46]) ∧
  isI v85_34 ∧ bif (nilI v85_34) then (
  isI v92_38 ∧ bif (nilI v92_38) then (
  isI v99_42 ∧ bif (nilI v99_42) then (
  isI v106_46 ∧ bif (nilI v106_46) then (
  bif (decide ((s55_14l : Int) > (0 : Int))) then (
  bif (n85_33 == (s55_14l : Int)) then (
  Calls Pg fn_plaitref04_Sum #[(Value.slice s55_14b s55_14l s55_14c), (Value.slice s32_7b s32_7l s32_7c)] w47 fun e51 w50 => ∃ n138_49 : Int, e51 = .returned (Value.int .i64 n138_49) ∧
  bif (n92_37 == n138_49) then (
  Calls Pg fn_plaitref04_Least #[(Value.slice s55_14b s55_14l s55_14c), (Value.slice s32_7b s32_7l s32_7c)] w50 fun e54 w53 => ∃ n145_52 : Int, e54 = .returned (Value.int .i64 n145_52) ∧
  bif (n99_41 == n145_52) then (
  Calls Pg fn_plaitref04_Most #[(Value.slice s55_14b s55_14l s55_14c), (Value.slice s32_7b s32_7l s32_7c)] w53 fun e57 w56 => ∃ n152_55 : Int, e57 = .returned (Value.int .i64 n152_55) ∧
  bif (n106_45 == n152_55) then (
  Calls Pg fn_plaitlaw06_sure #[] w56 fun e60 w59 => ∃ b156_58 : Bool, e60 = .returned (Value.bool b156_58) ∧
  R (Value.bool b156_58) w59) else (
  R (Value.bool false) w56)) else (
  R (Value.bool false) w53)) else (
  R (Value.bool false) w50)) else (
  R (Value.bool false) w47)) else (
  R (Value.bool false) w47)) else (
  R (Value.bool false) w47)) else (
  R (Value.bool false) w47)) else (
  R (Value.bool false) w47)) else (
  R (Value.bool false) w47)))
theorem eq_plaitlaw06_CutSums (nn_0 : Int) (sl_1b : Option Addr) (sl_1l : Nat) (sl_1c : Nat) (nof_2 : Int) (nof_3 : Int) (w : World) (R : Value → World → Prop) : sh_plaitlaw06_CutSums nn_0 sl_1b sl_1l sl_1c nof_2 nof_3 w R = denF Pg Eall Tryd.f14 (.seq (.leaf) (.seq (.leaf) (.seq (.leaf) (.seq (.seq (.leaf) (.cond (.seq (.leaf) (.leaf)) (.leaf))) (.seq (.reg (.tk 0 [] [] (.tk 1 [] [] (.tk 2 [] [] (.tk 3 [] [] (.tk 4 [] [] (.tk 5 [] [] (.tk 6 [] [] (.tk 7 [] [] (.tk 8 [] [] (.tk 9 [] [] (.tk 10 [] [] (.tk 11 [] [] (.tk 12 [] [] (.tk 13 [] [] (.tk 14 [] [] (.tk 15 [] [] (.fin)))))))))))))))))) (.seq (.leaf) (.seq (.leaf) (.join [] [] (.seq (.leaf) (.cond (.seq (.leaf) (.leaf)) (.leaf))) (.seq (.seq (.leaf) (.cond (.join [6] [.one (.bool)] (.leaf) (.leaf)) (.leaf))) (.seq (.leaf) (.seq (.leaf) (.seq (.leaf) (.seq (.leaf) (.seq (.leaf) (.leaf))))))))))))))) [(Value.int .i64 nn_0), (Value.slice sl_1b sl_1l sl_1c), (Value.agg #[(Value.int .i64 nof_2), (Value.int .i64 nof_3)])] w R := by kernel_rfl
theorem calls_plaitlaw06_CutSums (nn_0 : Int) (sl_1b : Option Addr) (sl_1l : Nat) (sl_1c : Nat) (nof_2 : Int) (nof_3 : Int) (w : World) (R : Value → World → Prop) (h : sh_plaitlaw06_CutSums nn_0 sl_1b sl_1l sl_1c nof_2 nof_3 w R) : Calls Pg fn_plaitlaw06_CutSums #[(Value.int .i64 nn_0), (Value.slice sl_1b sl_1l sl_1c), (Value.agg #[(Value.int .i64 nof_2), (Value.int .i64 nof_3)])] w fun e w' => ∃ v, e = .returned v ∧ R v w' :=
  calls_of_den Eall_enter wide_mixed Tryd.func14 (by rw [← eq_plaitlaw06_CutSums]; exact h)

/-- 'plait/plaitlaw06.CutTurned' -/
def sh_plaitlaw06_CutTurned (nn_0 : Int) (sl_1b : Option Addr) (sl_1l : Nat) (sl_1c : Nat) (nof_2 : Int) (nof_3 : Int) (w : World) (R : Value → World → Prop) : Prop :=
  alo #[(Value.int .i64 nof_2), (Value.int .i64 nof_3)] T__2int w fun a4 w5 =>
  (40 : Int) ≠ 0 ∧ Calls Pg fn_cut_New #[(Value.int .i64 (IntKind.wrap .i64 ((1 : Int) + (IntKind.wrap .i64 (Int.tmod (IntKind.wrap .u64 nn_0) (40 : Int))))))] w5 fun e9 w8 => ∃ p35_6 : Option Addr, ∃ v35_7 : Value, e9 = .returned (Value.tuple #[(Value.pointer p35_6), v35_7]) ∧
  ∃ J10 : List Value → World → Prop, (
  isI v35_7 ∧ bif (!(nilI v35_7)) then (
  R (Value.bool false) w8) else (
  bif (Option.isNone p35_6) then (
  R (Value.bool false) w8) else (
  J10 [] w8))) ∧ ∀ _ : Env, ∀ w11 : World, J10 [] w11 →
  ∃ J12 : List Value → World → Prop, (
  ∃ (I13 : List Value → World → Prop) (m14 : List Value → World → Nat), I13 [(Value.int .i64 (0 : Int))] w11 ∧
  ∀ _ : Env, ∀ n15 : Int, ∀ w16 : World, I13 [(Value.int .i64 n15)] w16 →
  ∃ J17 : List Value → World → Prop, (
  bif (decide (n15 < (sl_1l : Int))) then (
  bif (decide (n15 < (120 : Int))) then (
  J17 [] w16) else (
  J12 [] w16)) else (
  J12 [] w16)) ∧ ∀ _ : Env, ∀ w18 : World, J17 [] w18 →
  ixS sl_1b sl_1l n15 4 fun a56_19 =>
  ldI .i64 (a56_19.add 1) (World.drew w18) fun n58_20 =>
  (IntKind.wrap .u64 (IntKind.wrap .i64 ((1 : Int) + (IntKind.wrap .i64 (Int.tmod (IntKind.wrap .u64 nn_0) (40 : Int)))))) ≠ 0 ∧ ixS sl_1b sl_1l n15 4 fun a66_21 =>
  ldI .i64 (a66_21.add 2) (World.drew w18) fun n68_22 =>
  (IntKind.wrap .u64 (IntKind.wrap .i64 ((1 : Int) + (IntKind.wrap .i64 (Int.tmod (IntKind.wrap .u64 nn_0) (40 : Int)))))) ≠ 0 ∧ ixS sl_1b sl_1l n15 4 fun a76_23 =>
  ldI .i64 a76_23 (World.drew w18) fun n78_24 =>
  (5 : Int) ≠ 0 ∧ bif ((Int.tmod n78_24 (5 : Int)) == (0 : Int)) then (
  Calls Pg fn_cut_Forest_Cut #[(Value.pointer p35_6), (Value.int .i64 (IntKind.wrap .i64 (Int.tmod (IntKind.wrap .u64 n58_20) (IntKind.wrap .u64 (IntKind.wrap .i64 ((1 : Int) + (IntKind.wrap .i64 (Int.tmod (IntKind.wrap .u64 nn_0) (40 : Int))))))))), (Value.int .i64 (IntKind.wrap .i64 (Int.tmod (IntKind.wrap .u64 n68_22) (IntKind.wrap .u64 (IntKind.wrap .i64 ((1 : Int) + (IntKind.wrap .i64 (Int.tmod (IntKind.wrap .u64 nn_0) (40 : Int)))))))))] (World.drew w18) fun e27 w26 => ∃ v84_25 : Value, e27 = .returned v84_25 ∧
  (I13 [(Value.int .i64 (IntKind.wrap .i64 (n15 + (1 : Int))))] w26 ∧ m14 [(Value.int .i64 (IntKind.wrap .i64 (n15 + (1 : Int))))] w26 < m14 [(Value.int .i64 n15)] w16)) else (
  Calls Pg fn_cut_Forest_Link #[(Value.pointer p35_6), (Value.int .i64 (IntKind.wrap .i64 (Int.tmod (IntKind.wrap .u64 n58_20) (IntKind.wrap .u64 (IntKind.wrap .i64 ((1 : Int) + (IntKind.wrap .i64 (Int.tmod (IntKind.wrap .u64 nn_0) (40 : Int))))))))), (Value.int .i64 (IntKind.wrap .i64 (Int.tmod (IntKind.wrap .u64 n68_22) (IntKind.wrap .u64 (IntKind.wrap .i64 ((1 : Int) + (IntKind.wrap .i64 (Int.tmod (IntKind.wrap .u64 nn_0) (40 : Int)))))))))] (World.drew w18) fun e30 w29 => ∃ v88_28 : Value, e30 = .returned v88_28 ∧
  ixS sl_1b sl_1l n15 4 fun a93_31 =>
  ldI .i64 (a93_31.add 3) w29 fun n95_32 =>
  Calls Pg fn_cut_Forest_Set #[(Value.pointer p35_6), (Value.int .i64 (IntKind.wrap .i64 (Int.tmod (IntKind.wrap .u64 n58_20) (IntKind.wrap .u64 (IntKind.wrap .i64 ((1 : Int) + (IntKind.wrap .i64 (Int.tmod (IntKind.wrap .u64 nn_0) (40 : Int))))))))), (Value.int .i64 n95_32)] w29 fun e35 w34 => ∃ v96_33 : Value, e35 = .returned v96_33 ∧
  (I13 [(Value.int .i64 (IntKind.wrap .i64 (n15 + (1 : Int))))] w34 ∧ m14 [(Value.int .i64 (IntKind.wrap .i64 (n15 + (1 : Int))))] w34 < m14 [(Value.int .i64 n15)] w16))) ∧ ∀ _ : Env, ∀ w36 : World, J12 [] w36 →
  ixA a4 2 (0 : Int) 1 fun a97_37 =>
  ldI .i64 a97_37 (World.drew w36) fun n98_38 =>
  (IntKind.wrap .u64 (IntKind.wrap .i64 ((1 : Int) + (IntKind.wrap .i64 (Int.tmod (IntKind.wrap .u64 nn_0) (40 : Int)))))) ≠ 0 ∧ ixA a4 2 (1 : Int) 1 fun a104_39 =>
  ldI .i64 a104_39 (World.drew w36) fun n105_40 =>
  (IntKind.wrap .u64 (IntKind.wrap .i64 ((1 : Int) + (IntKind.wrap .i64 (Int.tmod (IntKind.wrap .u64 nn_0) (40 : Int)))))) ≠ 0 ∧ Calls Pg fn_cut_Forest_Road #[(Value.pointer p35_6), (Value.int .i64 (IntKind.wrap .i64 (Int.tmod (IntKind.wrap .u64 n98_38) (IntKind.wrap .u64 (IntKind.wrap .i64 ((1 : Int) + (IntKind.wrap .i64 (Int.tmod (IntKind.wrap .u64 nn_0) (40 : Int))))))))), (Value.int .i64 (IntKind.wrap .i64 (Int.tmod (IntKind.wrap .u64 n105_40) (IntKind.wrap .u64 (IntKind.wrap .i64 ((1 : Int) + (IntKind.wrap .i64 (Int.tmod (IntKind.wrap .u64 nn_0) (40 : Int)))))))))] (World.drew w36) fun e44 w43 => ∃ s115_41b : Option Addr, ∃ s115_41l : Nat, ∃ s115_41c : Nat, ∃ v115_42 : Value, e44 = .returned (Value.tuple #[(Value.slice s115_41b s115_41l s115_41c), v115_42]) ∧
  Calls Pg fn_cut_Forest_Road #[(Value.pointer p35_6), (Value.int .i64 (IntKind.wrap .i64 (Int.tmod (IntKind.wrap .u64 n105_40) (IntKind.wrap .u64 (IntKind.wrap .i64 ((1 : Int) + (IntKind.wrap .i64 (Int.tmod (IntKind.wrap .u64 nn_0) (40 : Int))))))))), (Value.int .i64 (IntKind.wrap .i64 (Int.tmod (IntKind.wrap .u64 n98_38) (IntKind.wrap .u64 (IntKind.wrap .i64 ((1 : Int) + (IntKind.wrap .i64 (Int.tmod (IntKind.wrap .u64 nn_0) (40 : Int)))))))))] w43 fun e48 w47 => ∃ s122_45b : Option Addr, ∃ s122_45l : Nat, ∃ s122_45c : Nat, ∃ v122_46 : Value, e48 = .returned (Value.tuple #[(Value.slice s122_45b s122_45l s122_45c), v122_46]) ∧
  Calls Pg fn_cut_Forest_Sum #[(Value.pointer p35_6), (Value.int .i64 (IntKind.wrap .i64 (Int.tmod (IntKind.wrap .u64 n98_38) (IntKind.wrap .u64 (IntKind.wrap .i64 ((1 : Int) + (IntKind.wrap .i64 (Int.tmod (IntKind.wrap .u64 nn_0) (40 : Int))))))))), (Value.int .i64 (IntKind.wrap .i64 (Int.tmod (IntKind.wrap .u64 n105_40) (IntKind.wrap .u64 (IntKind.wrap .i64 ((1 : Int) + (IntKind.wrap .i64 (Int.tmod (IntKind.wrap .u64 nn_0) (40 : Int)))))))))] w47 fun e52 w51 => ∃ n129_49 : Int, ∃ v129_50 : Value, e52 = .returned (Value.tuple #[(Value.int .i64 n129_49), v129_50]) ∧
  Calls Pg fn_cut_Forest_Sum #[(Value.pointer p35_6), (Value.int .i64 (IntKind.wrap .i64 (Int.tmod (IntKind.wrap .u64 n105_40) (IntKind.wrap .u64 (IntKind.wrap .i64 ((1 : Int) + (IntKind.wrap .i64 (Int.tmod (IntKind.wrap .u64 nn_0) (40 : Int))))))))), (Value.int .i64 (IntKind.wrap .i64 (Int.tmod (IntKind.wrap .u64 n98_38) (IntKind.wrap .u64 (IntKind.wrap .i64 ((1 : Int) + (IntKind.wrap .i64 (Int.tmod (IntKind.wrap .u64 nn_0) (40 : Int)))))))))] w51 fun e56 w55 => ∃ n136_53 : Int, ∃ v136_54 : Value, e56 = .returned (Value.tuple #[(Value.int .i64 n136_53), v136_54]) ∧
  isI v115_42 ∧ bif (!(nilI v115_42)) then (
  Calls Pg fn_cut_Forest_Same #[(Value.pointer p35_6), (Value.int .i64 (IntKind.wrap .i64 (Int.tmod (IntKind.wrap .u64 n98_38) (IntKind.wrap .u64 (IntKind.wrap .i64 ((1 : Int) + (IntKind.wrap .i64 (Int.tmod (IntKind.wrap .u64 nn_0) (40 : Int))))))))), (Value.int .i64 (IntKind.wrap .i64 (Int.tmod (IntKind.wrap .u64 n105_40) (IntKind.wrap .u64 (IntKind.wrap .i64 ((1 : Int) + (IntKind.wrap .i64 (Int.tmod (IntKind.wrap .u64 nn_0) (40 : Int)))))))))] w55 fun e60 w59 => ∃ b145_57 : Bool, ∃ v145_58 : Value, e60 = .returned (Value.tuple #[(Value.bool b145_57), v145_58]) ∧
  ∃ J61 : List Value → World → Prop, (
  Calls Pg fn_plaitlaw06_num #[v115_42] w59 fun e64 w63 => ∃ n149_62 : Int, e64 = .returned (Value.int .i64 n149_62) ∧
  bif (n149_62 == (21 : Int)) then (
  Calls Pg fn_plaitlaw06_num #[v122_46] w63 fun e67 w66 => ∃ n153_65 : Int, e67 = .returned (Value.int .i64 n153_65) ∧
  bif (n153_65 == (21 : Int)) then (
  Calls Pg fn_plaitlaw06_num #[v129_50] w66 fun e70 w69 => ∃ n158_68 : Int, e70 = .returned (Value.int .i64 n158_68) ∧
  bif (n158_68 == (21 : Int)) then (
  Calls Pg fn_plaitlaw06_num #[v136_54] w69 fun e73 w72 => ∃ n163_71 : Int, e73 = .returned (Value.int .i64 n163_71) ∧
  bif (n163_71 == (21 : Int)) then (
  isI v145_58 ∧ bif (nilI v145_58) then (
  bif (!b145_57) then (
  Calls Pg fn_plaitlaw06_sure #[] w72 fun e76 w75 => ∃ b175_74 : Bool, e76 = .returned (Value.bool b175_74) ∧
  J61 [(Value.bool b175_74)] w75) else (
  J61 [(Value.bool false)] w72)) else (
  J61 [(Value.bool false)] w72)) else (
  J61 [(Value.bool false)] w72)) else (
  J61 [(Value.bool false)] w69)) else (
  J61 [(Value.bool false)] w66)) else (
  J61 [(Value.bool false)] w63)) ∧ ∀ _ : Env, ∀ b77 : Bool, ∀ w78 : World, J61 [(Value.bool b77)] w78 →
  R (Value.bool b77) w78) else (
  ∃ J79 : List Value → World → Prop, (
  isI v122_46 ∧ bif (!(nilI v122_46)) then (
  R (Value.bool false) w55) else (
  isI v129_50 ∧ bif (!(nilI v129_50)) then (
  R (Value.bool false) w55) else (
  isI v136_54 ∧ bif (!(nilI v136_54)) then (
  R (Value.bool false) w55) else (
  bif (n129_49 != n136_53) then (
  R (Value.bool false) w55) else (
  bif ((s115_41l : Int) != (s122_45l : Int)) then (
  R (Value.bool false) w55) else (
  bif ((s115_41l : Int) == (0 : Int)) then (
  R (Value.bool false) w55) else (
  ixS s115_41b s115_41l (0 : Int) 1 fun a206_80 =>
  ldI .i64 a206_80 w55 fun n207_81 =>
  bif (n207_81 != (IntKind.wrap .i64 (Int.tmod (IntKind.wrap .u64 n98_38) (IntKind.wrap .u64 (IntKind.wrap .i64 ((1 : Int) + (IntKind.wrap .i64 (Int.tmod (IntKind.wrap .u64 nn_0) (40 : Int))))))))) then (
  R (Value.bool false) w55) else (
  ixS s115_41b s115_41l (IntKind.wrap .i64 ((s115_41l : Int) - (1 : Int))) 1 fun a216_82 =>
  ldI .i64 a216_82 w55 fun n217_83 =>
  bif (n217_83 != (IntKind.wrap .i64 (Int.tmod (IntKind.wrap .u64 n105_40) (IntKind.wrap .u64 (IntKind.wrap .i64 ((1 : Int) + (IntKind.wrap .i64 (Int.tmod (IntKind.wrap .u64 nn_0) (40 : Int))))))))) then (
  R (Value.bool false) w55) else (
  J79 [] w55))))))))) ∧ ∀ _ : Env, ∀ w84 : World, J79 [] w84 →
  ∃ (I85 : List Value → World → Prop) (m86 : List Value → World → Nat), I85 [(Value.int .i64 (0 : Int))] w84 ∧
  ∀ _ : Env, ∀ n87 : Int, ∀ w88 : World, I85 [(Value.int .i64 n87)] w88 →
  bif (decide (n87 < (s115_41l : Int))) then (
  ixS s115_41b s115_41l n87 1 fun a229_89 =>
  ldI .i64 a229_89 (World.drew w88) fun n230_90 =>
  ixS s122_45b s122_45l (IntKind.wrap .i64 ((IntKind.wrap .i64 ((s122_45l : Int) - (1 : Int))) - n87)) 1 fun a237_91 =>
  ldI .i64 a237_91 (World.drew w88) fun n238_92 =>
  bif (n230_90 != n238_92) then (
  R (Value.bool false) (World.drew w88)) else (
  bif (decide (n87 > (0 : Int))) then (
  ixS s115_41b s115_41l (IntKind.wrap .i64 (n87 - (1 : Int))) 1 fun a247_93 =>
  ldI .i64 a247_93 (World.drew (World.drew w88)) fun n248_94 =>
  ixS s115_41b s115_41l n87 1 fun a251_95 =>
  ldI .i64 a251_95 (World.drew (World.drew w88)) fun n252_96 =>
  Calls Pg fn_cut_Forest_Near #[(Value.pointer p35_6), (Value.int .i64 n248_94), (Value.int .i64 n252_96)] (World.drew (World.drew w88)) fun e100 w99 => ∃ b253_97 : Bool, ∃ v253_98 : Value, e100 = .returned (Value.tuple #[(Value.bool b253_97), v253_98]) ∧
  isI v253_98 ∧ bif (!(nilI v253_98)) then (
  R (Value.bool false) w99) else (
  bif (!b253_97) then (
  R (Value.bool false) w99) else (
  (I85 [(Value.int .i64 (IntKind.wrap .i64 (n87 + (1 : Int))))] w99 ∧ m86 [(Value.int .i64 (IntKind.wrap .i64 (n87 + (1 : Int))))] w99 < m86 [(Value.int .i64 n87)] w88)))) else (
  (I85 [(Value.int .i64 (IntKind.wrap .i64 (n87 + (1 : Int))))] (World.drew w88) ∧ m86 [(Value.int .i64 (IntKind.wrap .i64 (n87 + (1 : Int))))] (World.drew w88) < m86 [(Value.int .i64 n87)] w88)))) else (
  Calls Pg fn_plaitlaw06_sure #[] w88 fun e103 w102 => ∃ b262_101 : Bool, e103 = .returned (Value.bool b262_101) ∧
  R (Value.bool b262_101) w102))
theorem eq_plaitlaw06_CutTurned (nn_0 : Int) (sl_1b : Option Addr) (sl_1l : Nat) (sl_1c : Nat) (nof_2 : Int) (nof_3 : Int) (w : World) (R : Value → World → Prop) : sh_plaitlaw06_CutTurned nn_0 sl_1b sl_1l sl_1c nof_2 nof_3 w R = denF Pg Eall Tryd.f15 (.seq (.leaf) (.seq (.leaf) (.seq (.leaf) (.join [] [] (.seq (.leaf) (.cond (.seq (.leaf) (.leaf)) (.leaf))) (.join [] [] (.seq (.leaf) (.block (.loop [10] [.one (.int .i64)] (.join [] [] (.seq (.leaf) (.cond (.leaf) (.leaf))) (.seq (.block (.seq (.reg (.tk 0 [] [] (.tk 1 [] [] (.tk 2 [] [] (.tk 3 [] [] (.tk 4 [] [] (.tk 5 [] [] (.tk 6 [] [] (.tk 7 [] [] (.tk 8 [] [] (.tk 9 [] [] (.tk 10 [] [] (.tk 11 [] [] (.tk 12 [] [] (.tk 13 [] [] (.tk 14 [] [] (.tk 15 [] [] (.tk 16 [] [] (.tk 17 [] [] (.tk 18 [] [] (.tk 19 [] [] (.tk 20 [] [] (.tk 21 [] [] (.fin)))))))))))))))))))))))) (.seq (.leaf) (.cond (.leaf) (.seq (.leaf) (.leaf)))))) (.leaf)))))) (.seq (.reg (.tk 0 [] [] (.tk 1 [] [] (.tk 2 [] [] (.tk 3 [] [] (.tk 4 [] [] (.tk 5 [] [] (.tk 6 [] [] (.tk 7 [] [] (.tk 8 [] [] (.tk 9 [] [] (.tk 10 [] [] (.tk 11 [] [] (.tk 12 [] [] (.tk 13 [] [] (.tk 14 [] [] (.tk 15 [] [] (.fin)))))))))))))))))) (.seq (.leaf) (.seq (.leaf) (.seq (.leaf) (.seq (.leaf) (.seq (.seq (.leaf) (.cond (.seq (.leaf) (.join [6] [.one (.bool)] (.leaf) (.leaf))) (.leaf))) (.join [] [] (.seq (.leaf) (.cond (.seq (.leaf) (.leaf)) (.leaf))) (.seq (.seq (.leaf) (.block (.loop [25] [.one (.int .i64)] (.seq (.seq (.leaf) (.cond (.leaf) (.leaf))) (.seq (.block (.seq (.seq (.reg (.tk 0 [] [] (.tk 1 [] [] (.tk 2 [] [] (.tk 3 [] [] (.tk 4 [] [] (.tk 5 [] [] (.tk 6 [] [] (.tk 7 [] [] (.tk 8 [] [] (.tk 9 [] [] (.tk 10 [] [] (.tk 11 [] [] (.tk 12 [] [] (.fin))))))))))))))) (.cond (.seq (.leaf) (.leaf)) (.leaf))) (.seq (.leaf) (.cond (.seq (.reg (.tk 0 [] [] (.tk 1 [] [] (.tk 2 [] [] (.tk 3 [] [] (.tk 4 [] [] (.tk 5 [10, 11, 12, 13, 14, 15] [10] (.tk 6 [] [] (.tk 7 [] [] (.tk 8 [] [] (.tk 9 [10, 11, 12, 13, 14, 15] [10] (.one 10 (.tk 11 [] [] (.tk 12 [] [] (.tk 13 [] [] (.tk 14 [] [] (.tk 15 [] [] (.fin)))))))))))))))))) (.seq (.leaf) (.cond (.seq (.leaf) (.leaf)) (.leaf)))) (.leaf))))) (.leaf)))))) (.seq (.leaf) (.leaf))))))))))))))) [(Value.int .i64 nn_0), (Value.slice sl_1b sl_1l sl_1c), (Value.agg #[(Value.int .i64 nof_2), (Value.int .i64 nof_3)])] w R := by kernel_rfl
theorem calls_plaitlaw06_CutTurned (nn_0 : Int) (sl_1b : Option Addr) (sl_1l : Nat) (sl_1c : Nat) (nof_2 : Int) (nof_3 : Int) (w : World) (R : Value → World → Prop) (h : sh_plaitlaw06_CutTurned nn_0 sl_1b sl_1l sl_1c nof_2 nof_3 w R) : Calls Pg fn_plaitlaw06_CutTurned #[(Value.int .i64 nn_0), (Value.slice sl_1b sl_1l sl_1c), (Value.agg #[(Value.int .i64 nof_2), (Value.int .i64 nof_3)])] w fun e w' => ∃ v, e = .returned v ∧ R v w' :=
  calls_of_den Eall_enter wide_mixed Tryd.func15 (by rw [← eq_plaitlaw06_CutTurned]; exact h)

/-- 'plait/plaitlaw06.ints' -/
def sh_plaitlaw06_ints (sa_0b : Option Addr) (sa_0l : Nat) (sa_0c : Nat) (sb_1b : Option Addr) (sb_1l : Nat) (sb_1c : Nat) (w : World) (R : Value → World → Prop) : Prop :=
  bif ((sa_0l : Int) != (sb_1l : Int)) then (
  R (Value.bool false) w) else (
  ∃ (I2 : List Value → World → Prop) (m3 : List Value → World → Nat), I2 [(Value.int .i64 (0 : Int))] w ∧
  ∀ _ : Env, ∀ n4 : Int, ∀ w5 : World, I2 [(Value.int .i64 n4)] w5 →
  bif (decide (n4 < (sa_0l : Int))) then (
  ixS sa_0b sa_0l n4 1 fun a19_6 =>
  ldI .i64 a19_6 (World.drew w5) fun n20_7 =>
  ixS sb_1b sb_1l n4 1 fun a23_8 =>
  ldI .i64 a23_8 (World.drew w5) fun n24_9 =>
  bif (n20_7 != n24_9) then (
  R (Value.bool false) (World.drew w5)) else (
  (I2 [(Value.int .i64 (IntKind.wrap .i64 (n4 + (1 : Int))))] (World.drew w5) ∧ m3 [(Value.int .i64 (IntKind.wrap .i64 (n4 + (1 : Int))))] (World.drew w5) < m3 [(Value.int .i64 n4)] w5))) else (
  R (Value.bool true) w5))
theorem eq_plaitlaw06_ints (sa_0b : Option Addr) (sa_0l : Nat) (sa_0c : Nat) (sb_1b : Option Addr) (sb_1l : Nat) (sb_1c : Nat) (w : World) (R : Value → World → Prop) : sh_plaitlaw06_ints sa_0b sa_0l sa_0c sb_1b sb_1l sb_1c w R = denF Pg Eall Tryd.f56 (.seq (.leaf) (.seq (.seq (.leaf) (.cond (.seq (.leaf) (.leaf)) (.leaf))) (.seq (.seq (.leaf) (.block (.loop [5] [.one (.int .i64)] (.seq (.seq (.leaf) (.cond (.leaf) (.leaf))) (.seq (.block (.seq (.reg (.tk 0 [] [] (.tk 1 [] [] (.tk 2 [] [] (.tk 3 [] [] (.tk 4 [] [] (.tk 5 [] [] (.tk 6 [] [] (.tk 7 [] [] (.tk 8 [] [] (.fin))))))))))) (.cond (.seq (.leaf) (.leaf)) (.leaf)))) (.leaf)))))) (.seq (.leaf) (.leaf))))) [(Value.slice sa_0b sa_0l sa_0c), (Value.slice sb_1b sb_1l sb_1c)] w R := by kernel_rfl
theorem calls_plaitlaw06_ints (sa_0b : Option Addr) (sa_0l : Nat) (sa_0c : Nat) (sb_1b : Option Addr) (sb_1l : Nat) (sb_1c : Nat) (w : World) (R : Value → World → Prop) (h : sh_plaitlaw06_ints sa_0b sa_0l sa_0c sb_1b sb_1l sb_1c w R) : Calls Pg fn_plaitlaw06_ints #[(Value.slice sa_0b sa_0l sa_0c), (Value.slice sb_1b sb_1l sb_1c)] w fun e w' => ∃ v, e = .returned v ∧ R v w' :=
  calls_of_den Eall_enter wide_mixed Tryd.func56 (by rw [← eq_plaitlaw06_ints]; exact h)

/-- 'plait/plaitlaw06.sure' -/
def sh_plaitlaw06_sure (w : World) (R : Value → World → Prop) : Prop :=
  Calls Pg fn_cut_New #[(Value.int .i64 (3 : Int))] w fun e3 w2 => ∃ p8_0 : Option Addr, ∃ v8_1 : Value, e3 = .returned (Value.tuple #[(Value.pointer p8_0), v8_1]) ∧
  ∃ J4 : List Value → World → Prop, (
  isI v8_1 ∧ bif (!(nilI v8_1)) then (
  R (Value.bool false) w2) else (
  bif (Option.isNone p8_0) then (
  R (Value.bool false) w2) else (
  Calls Pg fn_cut_Forest_Link #[(Value.pointer p8_0), (Value.int .i64 (0 : Int)), (Value.int .i64 (1 : Int))] w2 fun e7 w6 => ∃ v19_5 : Value, e7 = .returned v19_5 ∧
  isI v19_5 ∧ bif (!(nilI v19_5)) then (
  R (Value.bool false) w6) else (
  Calls Pg fn_cut_Forest_Link #[(Value.pointer p8_0), (Value.int .i64 (1 : Int)), (Value.int .i64 (2 : Int))] w6 fun e10 w9 => ∃ v24_8 : Value, e10 = .returned v24_8 ∧
  isI v24_8 ∧ bif (!(nilI v24_8)) then (
  R (Value.bool false) w9) else (
  Calls Pg fn_cut_Forest_Set #[(Value.pointer p8_0), (Value.int .i64 (1 : Int)), (Value.int .i64 (-5 : Int))] w9 fun e13 w12 => ∃ v29_11 : Value, e13 = .returned v29_11 ∧
  isI v29_11 ∧ bif (!(nilI v29_11)) then (
  R (Value.bool false) w12) else (
  J4 [] w12)))))) ∧ ∀ _ : Env, ∀ w14 : World, J4 [] w14 →
  Calls Pg fn_cut_Forest_Least #[(Value.pointer p8_0), (Value.int .i64 (0 : Int)), (Value.int .i64 (2 : Int))] w14 fun e18 w17 => ∃ n34_15 : Int, ∃ v34_16 : Value, e18 = .returned (Value.tuple #[(Value.int .i64 n34_15), v34_16]) ∧
  Calls Pg fn_cut_Forest_Len #[(Value.pointer p8_0), (Value.int .i64 (0 : Int)), (Value.int .i64 (2 : Int))] w17 fun e22 w21 => ∃ n39_19 : Int, ∃ v39_20 : Value, e22 = .returned (Value.tuple #[(Value.int .i64 n39_19), v39_20]) ∧
  isI v34_16 ∧ bif (nilI v34_16) then (
  isI v39_20 ∧ bif (nilI v39_20) then (
  bif (n34_15 == (1 : Int)) then (
  bif (n39_19 == (3 : Int)) then (
  Calls Pg fn_cut_Forest_Link #[(Value.pointer p8_0), (Value.int .i64 (0 : Int)), (Value.int .i64 (2 : Int))] w21 fun e25 w24 => ∃ v58_23 : Value, e25 = .returned v58_23 ∧
  Calls Pg fn_plaitlaw06_num #[v58_23] w24 fun e28 w27 => ∃ n59_26 : Int, e28 = .returned (Value.int .i64 n59_26) ∧
  R (Value.bool (bif (n59_26 == (20 : Int)) then true else false)) w27) else (
  R (Value.bool false) w21)) else (
  R (Value.bool false) w21)) else (
  R (Value.bool false) w21)) else (
  R (Value.bool false) w21)
theorem eq_plaitlaw06_sure (w : World) (R : Value → World → Prop) : sh_plaitlaw06_sure w R = denF Pg Eall Tryd.f57 (.seq (.leaf) (.seq (.leaf) (.join [] [] (.seq (.leaf) (.cond (.seq (.leaf) (.leaf)) (.leaf))) (.seq (.leaf) (.seq (.leaf) (.seq (.leaf) (.leaf))))))) [] w R := by kernel_rfl
theorem calls_plaitlaw06_sure (w : World) (R : Value → World → Prop) (h : sh_plaitlaw06_sure w R) : Calls Pg fn_plaitlaw06_sure #[] w fun e w' => ∃ v, e = .returned v ∧ R v w' :=
  calls_of_den Eall_enter wide_mixed Tryd.func57 (by rw [← eq_plaitlaw06_sure]; exact h)

/-- 'plait/plaitlaw06.grown' -/
def sh_plaitlaw06_grown (nm_0 : Int) (sl_1b : Option Addr) (sl_1l : Nat) (sl_1c : Nat) (w : World) (R : Value → World → Prop) : Prop :=
  Calls Pg fn_cut_New #[(Value.int .i64 nm_0)] w fun e5 w4 => ∃ p14_2 : Option Addr, ∃ v14_3 : Value, e5 = .returned (Value.tuple #[(Value.pointer p14_2), v14_3]) ∧
  ∃ J6 : List Value → World → Prop, (
  isI v14_3 ∧ bif (!(nilI v14_3)) then (
  R (Value.tuple #[(Value.pointer none), (Value.slice none 0 0)]) w4) else (
  bif (Option.isNone p14_2) then (
  R (Value.tuple #[(Value.pointer none), (Value.slice none 0 0)]) w4) else (
  J6 [] w4))) ∧ ∀ _ : Env, ∀ w7 : World, J6 [] w7 →
  0 ≤ nm_0 ∧ nm_0 ≤ nm_0 ∧ (8 : Int) * nm_0 ≤ 140737488355328 ∧ alo (zerosOf #[(Value.int .i64 (0 : Int))] (Int.toNat nm_0)) T_int64 w7 fun a8 w9 =>
  ∃ (I10 : List Value → World → Prop) (m11 : List Value → World → Nat), I10 [(Value.int .i64 (0 : Int))] w9 ∧
  ∀ _ : Env, ∀ n12 : Int, ∀ w13 : World, I10 [(Value.int .i64 n12)] w13 →
  ∃ J14 : List Value → World → Prop, (
  bif (decide (n12 < (sl_1l : Int))) then (
  bif (decide (n12 < (80 : Int))) then (
  J14 [] w13) else (
  R (Value.tuple #[(Value.pointer p14_2), (Value.slice (some a8) (Int.toNat nm_0) (Int.toNat nm_0))]) w13)) else (
  R (Value.tuple #[(Value.pointer p14_2), (Value.slice (some a8) (Int.toNat nm_0) (Int.toNat nm_0))]) w13)) ∧ ∀ _ : Env, ∀ w15 : World, J14 [] w15 →
  ixS sl_1b sl_1l n12 4 fun a37_16 =>
  ldI .i64 (a37_16.add 1) (World.drew w15) fun n39_17 =>
  (IntKind.wrap .u64 nm_0) ≠ 0 ∧ ixS sl_1b sl_1l n12 4 fun a47_18 =>
  ldI .i64 (a47_18.add 2) (World.drew w15) fun n49_19 =>
  (IntKind.wrap .u64 nm_0) ≠ 0 ∧ ixS sl_1b sl_1l n12 4 fun a57_20 =>
  ldI .i64 a57_20 (World.drew w15) fun n59_21 =>
  (5 : Int) ≠ 0 ∧ bif ((Int.tmod n59_21 (5 : Int)) == (0 : Int)) then (
  Calls Pg fn_cut_Forest_Cut #[(Value.pointer p14_2), (Value.int .i64 (IntKind.wrap .i64 (Int.tmod (IntKind.wrap .u64 n39_17) (IntKind.wrap .u64 nm_0)))), (Value.int .i64 (IntKind.wrap .i64 (Int.tmod (IntKind.wrap .u64 n49_19) (IntKind.wrap .u64 nm_0))))] (World.drew w15) fun e24 w23 => ∃ v70_22 : Value, e24 = .returned v70_22 ∧
  (I10 [(Value.int .i64 (IntKind.wrap .i64 (n12 + (1 : Int))))] w23 ∧ m11 [(Value.int .i64 (IntKind.wrap .i64 (n12 + (1 : Int))))] w23 < m11 [(Value.int .i64 n12)] w13)) else (
  bif ((Int.tmod n59_21 (5 : Int)) == (1 : Int)) then (
  ixS sl_1b sl_1l n12 4 fun a77_25 =>
  ldI .i64 (a77_25.add 3) (World.drew w15) fun n79_26 =>
  Calls Pg fn_cut_Forest_Set #[(Value.pointer p14_2), (Value.int .i64 (IntKind.wrap .i64 (Int.tmod (IntKind.wrap .u64 n39_17) (IntKind.wrap .u64 nm_0)))), (Value.int .i64 n79_26)] (World.drew w15) fun e29 w28 => ∃ v80_27 : Value, e29 = .returned v80_27 ∧
  ixS sl_1b sl_1l n12 4 fun a85_30 =>
  ldI .i64 (a85_30.add 3) w28 fun n87_31 =>
  ixS (some a8) (Int.toNat nm_0) (IntKind.wrap .i64 (Int.tmod (IntKind.wrap .u64 n39_17) (IntKind.wrap .u64 nm_0))) 1 fun a88_32 =>
  sto a88_32 (Value.int .i64 n87_31) w28 fun w33 =>
  (I10 [(Value.int .i64 (IntKind.wrap .i64 (n12 + (1 : Int))))] w33 ∧ m11 [(Value.int .i64 (IntKind.wrap .i64 (n12 + (1 : Int))))] w33 < m11 [(Value.int .i64 n12)] w13)) else (
  Calls Pg fn_cut_Forest_Link #[(Value.pointer p14_2), (Value.int .i64 (IntKind.wrap .i64 (Int.tmod (IntKind.wrap .u64 n39_17) (IntKind.wrap .u64 nm_0)))), (Value.int .i64 (IntKind.wrap .i64 (Int.tmod (IntKind.wrap .u64 n49_19) (IntKind.wrap .u64 nm_0))))] (World.drew w15) fun e36 w35 => ∃ v64_34 : Value, e36 = .returned v64_34 ∧
  (I10 [(Value.int .i64 (IntKind.wrap .i64 (n12 + (1 : Int))))] w35 ∧ m11 [(Value.int .i64 (IntKind.wrap .i64 (n12 + (1 : Int))))] w35 < m11 [(Value.int .i64 n12)] w13)))
theorem eq_plaitlaw06_grown (nm_0 : Int) (sl_1b : Option Addr) (sl_1l : Nat) (sl_1c : Nat) (w : World) (R : Value → World → Prop) : sh_plaitlaw06_grown nm_0 sl_1b sl_1l sl_1c w R = denF Pg Eall Tryd.f58 (.seq (.leaf) (.seq (.leaf) (.join [] [] (.seq (.leaf) (.cond (.seq (.leaf) (.leaf)) (.leaf))) (.seq (.leaf) (.seq (.seq (.leaf) (.block (.loop [9] [.one (.int .i64)] (.join [] [] (.seq (.leaf) (.cond (.leaf) (.leaf))) (.seq (.block (.seq (.reg (.tk 0 [] [] (.tk 1 [] [] (.tk 2 [] [] (.tk 3 [] [] (.tk 4 [] [] (.tk 5 [] [] (.tk 6 [] [] (.tk 7 [] [] (.tk 8 [] [] (.tk 9 [] [] (.tk 10 [] [] (.tk 11 [] [] (.tk 12 [] [] (.tk 13 [] [] (.tk 14 [] [] (.tk 15 [] [] (.tk 16 [] [] (.tk 17 [] [] (.tk 18 [] [] (.tk 19 [] [] (.tk 20 [] [] (.tk 21 [] [] (.fin)))))))))))))))))))))))) (.seq (.leaf) (.block (.seq (.leaf) (.cond (.leaf) (.seq (.leaf) (.cond (.seq (.leaf) (.leaf)) (.leaf))))))))) (.leaf)))))) (.seq (.leaf) (.leaf))))))) [(Value.int .i64 nm_0), (Value.slice sl_1b sl_1l sl_1c)] w R := by kernel_rfl
theorem calls_plaitlaw06_grown (nm_0 : Int) (sl_1b : Option Addr) (sl_1l : Nat) (sl_1c : Nat) (w : World) (R : Value → World → Prop) (h : sh_plaitlaw06_grown nm_0 sl_1b sl_1l sl_1c w R) : Calls Pg fn_plaitlaw06_grown #[(Value.int .i64 nm_0), (Value.slice sl_1b sl_1l sl_1c)] w fun e w' => ∃ v, e = .returned v ∧ R v w' :=
  calls_of_den Eall_enter wide_mixed Tryd.func58 (by rw [← eq_plaitlaw06_grown]; exact h)

/-- 'plait/plaitlaw06.num' -/
def sh_plaitlaw06_num (ve_0 : Value) (w : World) (R : Value → World → Prop) : Prop :=
  alo #[(Value.int .i64 (0 : Int))] T_api_Errno w fun a1 w2 =>
  isI ve_0 ∧ bif (nilI ve_0) then (
  R (Value.int .i64 (0 : Int)) w2) else (
  Calls Pg fn_errors_As #[ve_0, (Value.iface T_p_api_Errno (Value.pointer (some a1)))] w2 fun e5 w4 => ∃ b8_3 : Bool, e5 = .returned (Value.bool b8_3) ∧
  bif b8_3 then (
  ldI .i64 a1 w4 fun n9_6 =>
  R (Value.int .i64 n9_6) w4) else (
  R (Value.int .i64 (-1 : Int)) w4))
theorem eq_plaitlaw06_num (ve_0 : Value) (w : World) (R : Value → World → Prop) : sh_plaitlaw06_num ve_0 w R = denF Pg Eall Tryd.f59 (.seq (.leaf) (.seq (.leaf) (.seq (.seq (.leaf) (.cond (.seq (.leaf) (.leaf)) (.leaf))) (.seq (.seq (.leaf) (.cond (.seq (.leaf) (.leaf)) (.leaf))) (.seq (.leaf) (.leaf)))))) [ve_0] w R := by kernel_rfl
theorem calls_plaitlaw06_num (ve_0 : Value) (w : World) (R : Value → World → Prop) (h : sh_plaitlaw06_num ve_0 w R) : Calls Pg fn_plaitlaw06_num #[ve_0] w fun e w' => ∃ v, e = .returned v ∧ R v w' :=
  calls_of_den Eall_enter wide_mixed Tryd.func59 (by rw [← eq_plaitlaw06_num]; exact h)

/-- 'plait/plaitlaw06.told' -/
def sh_plaitlaw06_told (pf_0 : Option Addr) (sroad_1b : Option Addr) (sroad_1l : Nat) (sroad_1c : Nat) (sv_2b : Option Addr) (sv_2l : Nat) (sv_2c : Nat) (na_3 : Int) (nb_4 : Int) (w : World) (R : Value → World → Prop) : Prop :=
  Calls Pg fn_cut_Forest_Len #[(Value.pointer pf_0), (Value.int .i64 na_3), (Value.int .i64 nb_4)] w fun e8 w7 => ∃ n27_5 : Int, ∃ v27_6 : Value, e8 = .returned (Value.tuple #[(Value.int .i64 n27_5), v27_6]) ∧
  Calls Pg fn_cut_Forest_Sum #[(Value.pointer pf_0), (Value.int .i64 na_3), (Value.int .i64 nb_4)] w7 fun e12 w11 => ∃ n34_9 : Int, ∃ v34_10 : Value, e12 = .returned (Value.tuple #[(Value.int .i64 n34_9), v34_10]) ∧
  Calls Pg fn_cut_Forest_Least #[(Value.pointer pf_0), (Value.int .i64 na_3), (Value.int .i64 nb_4)] w11 fun e16 w15 => ∃ n41_13 : Int, ∃ v41_14 : Value, e16 = .returned (Value.tuple #[(Value.int .i64 n41_13), v41_14]) ∧
  Calls Pg fn_cut_Forest_Most #[(Value.pointer pf_0), (Value.int .i64 na_3), (Value.int .i64 nb_4)] w15 fun e20 w19 => ∃ n48_17 : Int, ∃ v48_18 : Value, e20 = .returned (Value.tuple #[(Value.int .i64 n48_17), v48_18]) ∧
  Calls Pg fn_cut_Forest_Road #[(Value.pointer pf_0), (Value.int .i64 na_3), (Value.int .i64 nb_4)] w19 fun e24 w23 => ∃ s55_21b : Option Addr, ∃ s55_21l : Nat, ∃ s55_21c : Nat, ∃ v55_22 : Value, e24 = .returned (Value.tuple #[(Value.slice s55_21b s55_21l s55_21c), v55_22]) ∧
  Calls Pg fn_cut_Forest_Same #[(Value.pointer pf_0), (Value.int .i64 na_3), (Value.int .i64 nb_4)] w23 fun e28 w27 => ∃ b62_25 : Bool, ∃ v62_26 : Value, e28 = .returned (Value.tuple #[(Value.bool b62_25), v62_26]) ∧
  ∃ J29 : List Value → World → Prop, (
  isI v62_26 ∧ bif (!(nilI v62_26)) then (
  R (Value.bool false) w27) else (
  bif (!(b62_25 == (decide ((sroad_1l : Int) > (0 : Int))))) then (
  R (Value.bool false) w27) else (
  J29 [] w27))) ∧ ∀ _ : Env, ∀ w30 : World, J29 [] w30 →
  bif (!b62_25) then (
  ∃ J31 : List Value → World → Prop, (
  Calls Pg fn_plaitlaw06_num #[v27_6] w30 fun e34 w33 => ∃ n77_32 : Int, e34 = .returned (Value.int .i64 n77_32) ∧
  bif (n77_32 == (21 : Int)) then (
  Calls Pg fn_plaitlaw06_num #[v34_10] w33 fun e37 w36 => ∃ n81_35 : Int, e37 = .returned (Value.int .i64 n81_35) ∧
  bif (n81_35 == (21 : Int)) then (
  Calls Pg fn_plaitlaw06_num #[v41_14] w36 fun e40 w39 => ∃ n86_38 : Int, e40 = .returned (Value.int .i64 n86_38) ∧
  bif (n86_38 == (21 : Int)) then (
  Calls Pg fn_plaitlaw06_num #[v48_18] w39 fun e43 w42 => ∃ n91_41 : Int, e43 = .returned (Value.int .i64 n91_41) ∧
  bif (n91_41 == (21 : Int)) then (
  Calls Pg fn_plaitlaw06_num #[v55_22] w42 fun e46 w45 => ∃ n96_44 : Int, e46 = .returned (Value.int .i64 n96_44) ∧
  bif (n96_44 == (21 : Int)) then (
  bif ((IntKind.wrap .i64 ((IntKind.wrap .i64 ((IntKind.wrap .i64 (n27_5 + n41_13)) + n48_17)) + (s55_21l : Int))) == (0 : Int)) then (
  J31 [(Value.bool (n34_9 == (0 : Int)))] w45) else (
  J31 [(Value.bool false)] w45)) else (
  J31 [(Value.bool false)] w45)) else (
  J31 [(Value.bool false)] w42)) else (
  J31 [(Value.bool false)] w39)) else (
  J31 [(Value.bool false)] w36)) else (
  J31 [(Value.bool false)] w33)) ∧ ∀ _ : Env, ∀ b47 : Bool, ∀ w48 : World, J31 [(Value.bool b47)] w48 →
  R (Value.bool b47) w48) else (
  isI v27_6 ∧ bif (nilI v27_6) then (
  isI v34_10 ∧ bif (nilI v34_10) then (
  isI v41_14 ∧ bif (nilI v41_14) then (
  isI v48_18 ∧ bif (nilI v48_18) then (
  isI v55_22 ∧ bif (nilI v55_22) then (
  bif (n27_5 == (sroad_1l : Int)) then (
  Calls Pg fn_plaitref04_Sum #[(Value.slice sroad_1b sroad_1l sroad_1c), (Value.slice sv_2b sv_2l sv_2c)] w30 fun e51 w50 => ∃ n142_49 : Int, e51 = .returned (Value.int .i64 n142_49) ∧
  bif (n34_9 == n142_49) then (
  Calls Pg fn_plaitref04_Least #[(Value.slice sroad_1b sroad_1l sroad_1c), (Value.slice sv_2b sv_2l sv_2c)] w50 fun e54 w53 => ∃ n149_52 : Int, e54 = .returned (Value.int .i64 n149_52) ∧
  bif (n41_13 == n149_52) then (
  Calls Pg fn_plaitref04_Most #[(Value.slice sroad_1b sroad_1l sroad_1c), (Value.slice sv_2b sv_2l sv_2c)] w53 fun e57 w56 => ∃ n156_55 : Int, e57 = .returned (Value.int .i64 n156_55) ∧
  bif (n48_17 == n156_55) then (
  Calls Pg fn_plaitlaw06_ints #[(Value.slice s55_21b s55_21l s55_21c), (Value.slice sroad_1b sroad_1l sroad_1c)] w56 fun e60 w59 => ∃ b162_58 : Bool, e60 = .returned (Value.bool b162_58) ∧
  R (Value.bool b162_58) w59) else (
  R (Value.bool false) w56)) else (
  R (Value.bool false) w53)) else (
  R (Value.bool false) w50)) else (
  R (Value.bool false) w30)) else (
  R (Value.bool false) w30)) else (
  R (Value.bool false) w30)) else (
  R (Value.bool false) w30)) else (
  R (Value.bool false) w30)) else (
  R (Value.bool false) w30))
theorem eq_plaitlaw06_told (pf_0 : Option Addr) (sroad_1b : Option Addr) (sroad_1l : Nat) (sroad_1c : Nat) (sv_2b : Option Addr) (sv_2l : Nat) (sv_2c : Nat) (na_3 : Int) (nb_4 : Int) (w : World) (R : Value → World → Prop) : sh_plaitlaw06_told pf_0 sroad_1b sroad_1l sroad_1c sv_2b sv_2l sv_2c na_3 nb_4 w R = denF Pg Eall Tryd.f69 (.seq (.leaf) (.seq (.leaf) (.seq (.leaf) (.seq (.leaf) (.seq (.leaf) (.seq (.leaf) (.seq (.leaf) (.join [] [] (.seq (.leaf) (.cond (.seq (.leaf) (.leaf)) (.leaf))) (.seq (.seq (.leaf) (.cond (.join [10] [.one (.bool)] (.leaf) (.leaf)) (.leaf))) (.seq (.leaf) (.leaf))))))))))) [(Value.pointer pf_0), (Value.slice sroad_1b sroad_1l sroad_1c), (Value.slice sv_2b sv_2l sv_2c), (Value.int .i64 na_3), (Value.int .i64 nb_4)] w R := by kernel_rfl
theorem calls_plaitlaw06_told (pf_0 : Option Addr) (sroad_1b : Option Addr) (sroad_1l : Nat) (sroad_1c : Nat) (sv_2b : Option Addr) (sv_2l : Nat) (sv_2c : Nat) (na_3 : Int) (nb_4 : Int) (w : World) (R : Value → World → Prop) (h : sh_plaitlaw06_told pf_0 sroad_1b sroad_1l sroad_1c sv_2b sv_2l sv_2c na_3 nb_4 w R) : Calls Pg fn_plaitlaw06_told #[(Value.pointer pf_0), (Value.slice sroad_1b sroad_1l sroad_1c), (Value.slice sv_2b sv_2l sv_2c), (Value.int .i64 na_3), (Value.int .i64 nb_4)] w fun e w' => ∃ v, e = .returned v ∧ R v w' :=
  calls_of_den Eall_enter wide_mixed Tryd.func69 (by rw [← eq_plaitlaw06_told]; exact h)

end Go.Proofs.YtledchlbmilneaaDoor
