/-
What each function does, as one formula, printed by a program of this session out of the translation; the kernel holds each print against the translation.
Conditions: none.
-/
import Derived.Test.YtaoemljoiahapaaGreatDoorSn
import Derived.Test.YtaoemljoiahapaaGreatDoorLexE
namespace Go.Proofs.YtaoemljoiahapaaGreatDoor
open Go
set_option linter.unusedVariables false
set_option maxRecDepth 100000
/-- 'plait/plaitlaw14.WebTies' -/
def sh_plaitlaw14_WebTies (nn_0 : Int) (sl_1b : Option Addr) (sl_1l : Nat) (sl_1c : Nat) (nof_2 : Int) (nof_3 : Int) (nof_4 : Int) (nof_5 : Int) (nof_6 : Int) (w : World) (R : Value → World → Prop) : Prop :=
  alo #[(.int .i64 nof_2), (.int .i64 nof_3), (.int .i64 nof_4), (.int .i64 nof_5), (.int .i64 nof_6)] T_plaitlaw14_Act w fun a7 w8 =>
  (14 : Int) ≠ 0 ∧ Calls Pg fn_plaitlaw14_grown #[(.int .i64 (IntKind.wrap .i64 ((2 : Int) + (IntKind.wrap .i64 (Int.tmod (IntKind.wrap .u64 nn_0) (14 : Int)))))), (.slice sl_1b sl_1l sl_1c)] w8 fun e15 w14 => ∃ p9 : Option Addr, ∃ n10 : Int, ∃ n11 : Int, ∃ s12b : Option Addr, ∃ s12l : Nat, ∃ s12c : Nat, ∃ s13b : Option Addr, ∃ s13l : Nat, ∃ s13c : Nat, e15 = .returned (.tuple #[(.pointer p9), (.agg #[(.int .i64 n10), (.int .i64 n11), (.slice s12b s12l s12c), (.slice s13b s13l s13c)])]) ∧
  alo #[(.int .i64 (0 : Int)), (.int .i64 (0 : Int)), (.slice none 0 0), (.slice none 0 0)] T_plaitref14_Web w14 fun a16 w17 =>
  sto a16 (.int .i64 n10) w17 fun w18 =>
  sto (a16.add 1) (.int .i64 n11) w18 fun w19 =>
  sto (a16.add 2) (.slice s12b s12l s12c) w19 fun w20 =>
  sto (a16.add 3) (.slice s13b s13l s13c) w20 fun w21 =>
  bif (Option.isNone p9) then (
  R (.bool false) w21) else (
  ldI .i64 (a7.add 1) w21.drew fun n22 =>
  (IntKind.wrap .u64 (IntKind.wrap .i64 ((2 : Int) + (IntKind.wrap .i64 (Int.tmod (IntKind.wrap .u64 nn_0) (14 : Int)))))) ≠ 0 ∧ ldI .i64 (a7.add 2) w21.drew fun n23 =>
  (IntKind.wrap .u64 (IntKind.wrap .i64 ((2 : Int) + (IntKind.wrap .i64 (Int.tmod (IntKind.wrap .u64 nn_0) (14 : Int)))))) ≠ 0 ∧ ∃ (I24 : List Value → World → Prop) (m25 : List Value → World → Nat), I24 [(.int .i64 (-1 : Int)), (.int .i64 (0 : Int))] w21.drew ∧
  ∀ _ : Env, ∀ n26 : Int, ∀ n27 : Int, ∀ w28 : World, I24 [(.int .i64 n26), (.int .i64 n27)] w28 →
  bif (decide (n27 < (8 : Int))) then (
  Calls Pg fn_web_Web_Tied #[(.pointer p9), (.int .i64 n27)] w28 fun e31 w30 => ∃ b29 : Bool, e31 = .returned (.bool b29) ∧
  bif (!b29) then (
  (I24 [(.int .i64 n27), (.int .i64 (IntKind.wrap .i64 (n27 + (1 : Int))))] w30 ∧ m25 [(.int .i64 n27), (.int .i64 (IntKind.wrap .i64 (n27 + (1 : Int))))] w30 < m25 [(.int .i64 n26), (.int .i64 n27)] w28)) else (
  (I24 [(.int .i64 n26), (.int .i64 (IntKind.wrap .i64 (n27 + (1 : Int))))] w30 ∧ m25 [(.int .i64 n26), (.int .i64 (IntKind.wrap .i64 (n27 + (1 : Int))))] w30 < m25 [(.int .i64 n26), (.int .i64 n27)] w28))) else (
  Calls Pg fn_web_Web_Linked #[(.pointer p9), (.int .i64 (IntKind.wrap .i64 (Int.tmod (IntKind.wrap .u64 n22) (IntKind.wrap .u64 (IntKind.wrap .i64 ((2 : Int) + (IntKind.wrap .i64 (Int.tmod (IntKind.wrap .u64 nn_0) (14 : Int))))))))), (.int .i64 (IntKind.wrap .i64 (Int.tmod (IntKind.wrap .u64 n23) (IntKind.wrap .u64 (IntKind.wrap .i64 ((2 : Int) + (IntKind.wrap .i64 (Int.tmod (IntKind.wrap .u64 nn_0) (14 : Int)))))))))] w28 fun e35 w34 => ∃ b32 : Bool, ∃ v33 : Value, e35 = .returned (.tuple #[(.bool b32), v33]) ∧
  ∃ J36 : List Value → World → Prop, (
  isI v33 ∧ bif (!(nilI v33)) then (
  isI v33 ∧ bif (nilI v33) then (
  Calls Pg fn_plaitlaw14_sure #[] w34 fun e39 w38 => ∃ b37 : Bool, e39 = .returned (.bool b37) ∧
  R (.bool b37) w38) else (
  R (.bool false) w34)) else (
  bif (decide (n26 < (0 : Int))) then (
  isI v33 ∧ bif (nilI v33) then (
  Calls Pg fn_plaitlaw14_sure #[] w34 fun e42 w41 => ∃ b40 : Bool, e42 = .returned (.bool b40) ∧
  R (.bool b40) w41) else (
  R (.bool false) w34)) else (
  ldI .i64 (a7.add 4) w34 fun n43 =>
  bif (n43 == (9223372036854775807 : Int)) then (
  isI v33 ∧ bif (nilI v33) then (
  Calls Pg fn_plaitlaw14_sure #[] w34 fun e46 w45 => ∃ b44 : Bool, e46 = .returned (.bool b44) ∧
  R (.bool b44) w45) else (
  R (.bool false) w34)) else (
  J36 [] w34)))) ∧ ∀ _ : Env, ∀ w47 : World, J36 [] w47 →
  bif b32 then (
  ∃ J48 : List Value → World → Prop, (
  ldI .i64 (a7.add 4) w47 fun n49 =>
  Calls Pg fn_web_Web_Tie #[(.pointer p9), (.int .i64 n26), (.int .i64 (IntKind.wrap .i64 (Int.tmod (IntKind.wrap .u64 n22) (IntKind.wrap .u64 (IntKind.wrap .i64 ((2 : Int) + (IntKind.wrap .i64 (Int.tmod (IntKind.wrap .u64 nn_0) (14 : Int))))))))), (.int .i64 (IntKind.wrap .i64 (Int.tmod (IntKind.wrap .u64 n23) (IntKind.wrap .u64 (IntKind.wrap .i64 ((2 : Int) + (IntKind.wrap .i64 (Int.tmod (IntKind.wrap .u64 nn_0) (14 : Int))))))))), (.int .i64 n49)] w47 fun e52 w51 => ∃ v50 : Value, e52 = .returned v50 ∧
  Calls Pg fn_plaitlaw14_num #[v50] w51 fun e55 w54 => ∃ n53 : Int, e55 = .returned (.int .i64 n53) ∧
  bif (n53 == (20 : Int)) then (
  Calls Pg fn_web_Web_Tied #[(.pointer p9), (.int .i64 n26)] w54 fun e58 w57 => ∃ b56 : Bool, e58 = .returned (.bool b56) ∧
  bif (!b56) then (
  Calls Pg fn_plaitlaw14_sure #[] w57 fun e61 w60 => ∃ b59 : Bool, e61 = .returned (.bool b59) ∧
  J48 [(.bool b59)] w60) else (
  J48 [(.bool false)] w57)) else (
  J48 [(.bool false)] w54)) ∧ ∀ _ : Env, ∀ b62 : Bool, ∀ w63 : World, J48 [(.bool b62)] w63 →
  R (.bool b62) w63) else (
  ∃ J64 : List Value → World → Prop, (
  ldI .i64 (a7.add 4) w47 fun n65 =>
  Calls Pg fn_web_Web_Tie #[(.pointer p9), (.int .i64 n26), (.int .i64 (IntKind.wrap .i64 (Int.tmod (IntKind.wrap .u64 n22) (IntKind.wrap .u64 (IntKind.wrap .i64 ((2 : Int) + (IntKind.wrap .i64 (Int.tmod (IntKind.wrap .u64 nn_0) (14 : Int))))))))), (.int .i64 (IntKind.wrap .i64 (Int.tmod (IntKind.wrap .u64 n23) (IntKind.wrap .u64 (IntKind.wrap .i64 ((2 : Int) + (IntKind.wrap .i64 (Int.tmod (IntKind.wrap .u64 nn_0) (14 : Int))))))))), (.int .i64 n65)] w47 fun e68 w67 => ∃ v66 : Value, e68 = .returned v66 ∧
  isI v66 ∧ bif (!(nilI v66)) then (
  R (.bool false) w67) else (
  Calls Pg fn_web_Web_Tied #[(.pointer p9), (.int .i64 n26)] w67 fun e71 w70 => ∃ b69 : Bool, e71 = .returned (.bool b69) ∧
  bif (!b69) then (
  R (.bool false) w70) else (
  J64 [] w70))) ∧ ∀ _ : Env, ∀ w72 : World, J64 [] w72 →
  Calls Pg fn_web_Web_Weakest #[(.pointer p9), (.int .i64 (IntKind.wrap .i64 (Int.tmod (IntKind.wrap .u64 n22) (IntKind.wrap .u64 (IntKind.wrap .i64 ((2 : Int) + (IntKind.wrap .i64 (Int.tmod (IntKind.wrap .u64 nn_0) (14 : Int))))))))), (.int .i64 (IntKind.wrap .i64 (Int.tmod (IntKind.wrap .u64 n23) (IntKind.wrap .u64 (IntKind.wrap .i64 ((2 : Int) + (IntKind.wrap .i64 (Int.tmod (IntKind.wrap .u64 nn_0) (14 : Int)))))))))] w72 fun e76 w75 => ∃ n73 : Int, ∃ v74 : Value, e76 = .returned (.tuple #[(.int .i64 n73), v74]) ∧
  Calls Pg fn_web_Web_Linked #[(.pointer p9), (.int .i64 (IntKind.wrap .i64 (Int.tmod (IntKind.wrap .u64 n23) (IntKind.wrap .u64 (IntKind.wrap .i64 ((2 : Int) + (IntKind.wrap .i64 (Int.tmod (IntKind.wrap .u64 nn_0) (14 : Int))))))))), (.int .i64 (IntKind.wrap .i64 (Int.tmod (IntKind.wrap .u64 n22) (IntKind.wrap .u64 (IntKind.wrap .i64 ((2 : Int) + (IntKind.wrap .i64 (Int.tmod (IntKind.wrap .u64 nn_0) (14 : Int)))))))))] w75 fun e80 w79 => ∃ b77 : Bool, ∃ v78 : Value, e80 = .returned (.tuple #[(.bool b77), v78]) ∧
  ∃ J81 : List Value → World → Prop, (
  isI v74 ∧ bif (!(nilI v74)) then (
  R (.bool false) w79) else (
  isI v78 ∧ bif (!(nilI v78)) then (
  R (.bool false) w79) else (
  bif (n73 != n26) then (
  R (.bool false) w79) else (
  bif (!b77) then (
  R (.bool false) w79) else (
  Calls Pg fn_web_Web_Untie #[(.pointer p9), (.int .i64 n26)] w79 fun e84 w83 => ∃ v82 : Value, e84 = .returned v82 ∧
  isI v82 ∧ bif (!(nilI v82)) then (
  R (.bool false) w83) else (
  J81 [] w83)))))) ∧ ∀ _ : Env, ∀ w85 : World, J81 [] w85 →
  Calls Pg fn_web_Web_Linked #[(.pointer p9), (.int .i64 (IntKind.wrap .i64 (Int.tmod (IntKind.wrap .u64 n22) (IntKind.wrap .u64 (IntKind.wrap .i64 ((2 : Int) + (IntKind.wrap .i64 (Int.tmod (IntKind.wrap .u64 nn_0) (14 : Int))))))))), (.int .i64 (IntKind.wrap .i64 (Int.tmod (IntKind.wrap .u64 n23) (IntKind.wrap .u64 (IntKind.wrap .i64 ((2 : Int) + (IntKind.wrap .i64 (Int.tmod (IntKind.wrap .u64 nn_0) (14 : Int)))))))))] w85 fun e89 w88 => ∃ b86 : Bool, ∃ v87 : Value, e89 = .returned (.tuple #[(.bool b86), v87]) ∧
  Calls Pg fn_web_Web_Weakest #[(.pointer p9), (.int .i64 (IntKind.wrap .i64 (Int.tmod (IntKind.wrap .u64 n22) (IntKind.wrap .u64 (IntKind.wrap .i64 ((2 : Int) + (IntKind.wrap .i64 (Int.tmod (IntKind.wrap .u64 nn_0) (14 : Int))))))))), (.int .i64 (IntKind.wrap .i64 (Int.tmod (IntKind.wrap .u64 n23) (IntKind.wrap .u64 (IntKind.wrap .i64 ((2 : Int) + (IntKind.wrap .i64 (Int.tmod (IntKind.wrap .u64 nn_0) (14 : Int)))))))))] w88 fun e93 w92 => ∃ n90 : Int, ∃ v91 : Value, e93 = .returned (.tuple #[(.int .i64 n90), v91]) ∧
  isI v87 ∧ bif (nilI v87) then (
  bif (!b86) then (
  Calls Pg fn_plaitlaw14_num #[v91] w92 fun e96 w95 => ∃ n94 : Int, e96 = .returned (.int .i64 n94) ∧
  bif (n94 == (21 : Int)) then (
  Calls Pg fn_plaitlaw14_sure #[] w95 fun e99 w98 => ∃ b97 : Bool, e99 = .returned (.bool b97) ∧
  R (.bool b97) w98) else (
  R (.bool false) w95)) else (
  R (.bool false) w92)) else (
  R (.bool false) w92))))
theorem eq_plaitlaw14_WebTies (nn_0 : Int) (sl_1b : Option Addr) (sl_1l : Nat) (sl_1c : Nat) (nof_2 : Int) (nof_3 : Int) (nof_4 : Int) (nof_5 : Int) (nof_6 : Int) (w : World) (R : Value → World → Prop) : sh_plaitlaw14_WebTies nn_0 sl_1b sl_1l sl_1c nof_2 nof_3 nof_4 nof_5 nof_6 w R = denF Pg Eall Tryz.f3 (.seq (.leaf) (.seq (.leaf) (.seq (.leaf) (.seq (.seq (.leaf) (.cond (.seq (.leaf) (.leaf)) (.leaf))) (.seq (.reg (.tk 0 [] [] (.tk 1 [] [] (.tk 2 [] [] (.tk 3 [] [] (.tk 4 [] [] (.tk 5 [] [] (.tk 6 [] [] (.tk 7 [] [] (.tk 8 [] [] (.tk 9 [] [] (.tk 10 [] [] (.tk 11 [] [] (.tk 12 [] [] (.tk 13 [] [] (.tk 14 [] [] (.tk 15 [] [] (.fin)))))))))))))))))) (.seq (.leaf) (.seq (.seq (.leaf) (.block (.loop [12, 13] [.one (.int .i64), .one (.int .i64)] (.seq (.seq (.leaf) (.cond (.leaf) (.leaf))) (.seq (.block (.seq (.leaf) (.cond (.leaf) (.leaf)))) (.leaf)))))) (.seq (.leaf) (.join [] [] (.seq (.leaf) (.cond (.seq (.leaf) (.leaf)) (.leaf))) (.seq (.seq (.leaf) (.cond (.join [6] [.one (.bool)] (.leaf) (.leaf)) (.leaf))) (.join [] [] (.seq (.leaf) (.cond (.seq (.leaf) (.leaf)) (.leaf))) (.seq (.leaf) (.seq (.leaf) (.join [] [] (.seq (.leaf) (.cond (.seq (.leaf) (.leaf)) (.leaf))) (.seq (.leaf) (.seq (.leaf) (.seq (.leaf) (.leaf)))))))))))))))))) [(.int .i64 nn_0), (.slice sl_1b sl_1l sl_1c), (.agg #[(.int .i64 nof_2), (.int .i64 nof_3), (.int .i64 nof_4), (.int .i64 nof_5), (.int .i64 nof_6)])] w R := by kernel_rfl
theorem calls_plaitlaw14_WebTies (nn_0 : Int) (sl_1b : Option Addr) (sl_1l : Nat) (sl_1c : Nat) (nof_2 : Int) (nof_3 : Int) (nof_4 : Int) (nof_5 : Int) (nof_6 : Int) (w : World) (R : Value → World → Prop) (h : sh_plaitlaw14_WebTies nn_0 sl_1b sl_1l sl_1c nof_2 nof_3 nof_4 nof_5 nof_6 w R) : Calls Pg fn_plaitlaw14_WebTies #[(.int .i64 nn_0), (.slice sl_1b sl_1l sl_1c), (.agg #[(.int .i64 nof_2), (.int .i64 nof_3), (.int .i64 nof_4), (.int .i64 nof_5), (.int .i64 nof_6)])] w fun e w' => ∃ v, e = .returned v ∧ R v w' :=
  calls_of_den Eall_enter wide_mixed Tryz.func3 (by rw [← eq_plaitlaw14_WebTies]; exact h)

/-- 'plait/plaitlaw14.WebRoads' -/
def sh_plaitlaw14_WebRoads (nn_0 : Int) (sl_1b : Option Addr) (sl_1l : Nat) (sl_1c : Nat) (nof_2 : Int) (nof_3 : Int) (w : World) (R : Value → World → Prop) : Prop :=
  alo #[(.int .i64 nof_2), (.int .i64 nof_3)] T__2int w fun a4 w5 =>
  (14 : Int) ≠ 0 ∧ Calls Pg fn_plaitlaw14_grown #[(.int .i64 (IntKind.wrap .i64 ((2 : Int) + (IntKind.wrap .i64 (Int.tmod (IntKind.wrap .u64 nn_0) (14 : Int)))))), (.slice sl_1b sl_1l sl_1c)] w5 fun e12 w11 => ∃ p6 : Option Addr, ∃ n7 : Int, ∃ n8 : Int, ∃ s9b : Option Addr, ∃ s9l : Nat, ∃ s9c : Nat, ∃ s10b : Option Addr, ∃ s10l : Nat, ∃ s10c : Nat, e12 = .returned (.tuple #[(.pointer p6), (.agg #[(.int .i64 n7), (.int .i64 n8), (.slice s9b s9l s9c), (.slice s10b s10l s10c)])]) ∧
  alo #[(.int .i64 (0 : Int)), (.int .i64 (0 : Int)), (.slice none 0 0), (.slice none 0 0)] T_plaitref14_Web w11 fun a13 w14 =>
  sto a13 (.int .i64 n7) w14 fun w15 =>
  sto (a13.add 1) (.int .i64 n8) w15 fun w16 =>
  sto (a13.add 2) (.slice s9b s9l s9c) w16 fun w17 =>
  sto (a13.add 3) (.slice s10b s10l s10c) w17 fun w18 =>
  bif (Option.isNone p6) then (
  R (.bool false) w18) else (
  ixA a4 2 (0 : Int) 1 fun a19 =>
  ldI .i64 a19 w18.drew fun n20 =>
  (IntKind.wrap .u64 (IntKind.wrap .i64 ((2 : Int) + (IntKind.wrap .i64 (Int.tmod (IntKind.wrap .u64 nn_0) (14 : Int)))))) ≠ 0 ∧ ixA a4 2 (1 : Int) 1 fun a21 =>
  ldI .i64 a21 w18.drew fun n22 =>
  (IntKind.wrap .u64 (IntKind.wrap .i64 ((2 : Int) + (IntKind.wrap .i64 (Int.tmod (IntKind.wrap .u64 nn_0) (14 : Int)))))) ≠ 0 ∧ Calls Pg fn_web_Web_Weakest #[(.pointer p6), (.int .i64 (IntKind.wrap .i64 (Int.tmod (IntKind.wrap .u64 n20) (IntKind.wrap .u64 (IntKind.wrap .i64 ((2 : Int) + (IntKind.wrap .i64 (Int.tmod (IntKind.wrap .u64 nn_0) (14 : Int))))))))), (.int .i64 (IntKind.wrap .i64 (Int.tmod (IntKind.wrap .u64 n22) (IntKind.wrap .u64 (IntKind.wrap .i64 ((2 : Int) + (IntKind.wrap .i64 (Int.tmod (IntKind.wrap .u64 nn_0) (14 : Int)))))))))] w18.drew fun e26 w25 => ∃ n23 : Int, ∃ v24 : Value, e26 = .returned (.tuple #[(.int .i64 n23), v24]) ∧
  ∃ J27 : List Value → World → Prop, (
  ∃ J28 : List Value → World → Prop, (
  isI v24 ∧ bif (!(nilI v24)) then (
  J28 [(.bool true)] w25) else (
  J28 [(.bool (decide (n23 < (0 : Int))))] w25)) ∧ ∀ _ : Env, ∀ b29 : Bool, ∀ w30 : World, J28 [(.bool b29)] w30 →
  bif b29 then (
  Calls Pg fn_web_Web_Linked #[(.pointer p6), (.int .i64 (IntKind.wrap .i64 (Int.tmod (IntKind.wrap .u64 n20) (IntKind.wrap .u64 (IntKind.wrap .i64 ((2 : Int) + (IntKind.wrap .i64 (Int.tmod (IntKind.wrap .u64 nn_0) (14 : Int))))))))), (.int .i64 (IntKind.wrap .i64 (Int.tmod (IntKind.wrap .u64 n22) (IntKind.wrap .u64 (IntKind.wrap .i64 ((2 : Int) + (IntKind.wrap .i64 (Int.tmod (IntKind.wrap .u64 nn_0) (14 : Int)))))))))] w30 fun e34 w33 => ∃ b31 : Bool, ∃ v32 : Value, e34 = .returned (.tuple #[(.bool b31), v32]) ∧
  Calls Pg fn_web_Web_Same #[(.pointer p6), (.int .i64 (IntKind.wrap .i64 (Int.tmod (IntKind.wrap .u64 n20) (IntKind.wrap .u64 (IntKind.wrap .i64 ((2 : Int) + (IntKind.wrap .i64 (Int.tmod (IntKind.wrap .u64 nn_0) (14 : Int))))))))), (.int .i64 (IntKind.wrap .i64 (Int.tmod (IntKind.wrap .u64 n22) (IntKind.wrap .u64 (IntKind.wrap .i64 ((2 : Int) + (IntKind.wrap .i64 (Int.tmod (IntKind.wrap .u64 nn_0) (14 : Int)))))))))] w33 fun e38 w37 => ∃ b35 : Bool, ∃ v36 : Value, e38 = .returned (.tuple #[(.bool b35), v36]) ∧
  isI v32 ∧ bif (nilI v32) then (
  isI v36 ∧ bif (nilI v36) then (
  isI v24 ∧ bif (b31 == (nilI v24)) then (
  isI v24 ∧ bif (!(nilI v24)) then (
  Calls Pg fn_plaitlaw14_sure #[] w37 fun e41 w40 => ∃ b39 : Bool, e41 = .returned (.bool b39) ∧
  R (.bool b39) w40) else (
  bif b35 then (
  Calls Pg fn_plaitlaw14_sure #[] w37 fun e44 w43 => ∃ b42 : Bool, e44 = .returned (.bool b42) ∧
  R (.bool b42) w43) else (
  R (.bool false) w37))) else (
  R (.bool false) w37)) else (
  R (.bool false) w37)) else (
  R (.bool false) w37)) else (
  J27 [] w30)) ∧ ∀ _ : Env, ∀ w45 : World, J27 [] w45 →
  ldI .i64 a13 w45 fun n46 =>
  ldI .i64 (a13.add 1) w45 fun n47 =>
  ldS (a13.add 2) w45 fun s48b s48l s48c =>
  ldS (a13.add 3) w45 fun s49b s49l s49c =>
  Calls Pg fn_plaitref14_At #[(.agg #[(.int .i64 n46), (.int .i64 n47), (.slice s48b s48l s48c), (.slice s49b s49l s49c)]), (.int .i64 n23)] w45 fun e52 w51 => ∃ n50 : Int, e52 = .returned (.int .i64 n50) ∧
  ∃ J53 : List Value → World → Prop, (
  bif (decide (n50 < (0 : Int))) then (
  R (.bool false) w51) else (
  Calls Pg fn_web_Web_Untie #[(.pointer p6), (.int .i64 n23)] w51 fun e56 w55 => ∃ v54 : Value, e56 = .returned v54 ∧
  isI v54 ∧ bif (!(nilI v54)) then (
  R (.bool false) w55) else (
  J53 [] w55))) ∧ ∀ _ : Env, ∀ w57 : World, J53 [] w57 →
  Calls Pg fn_web_Web_Linked #[(.pointer p6), (.int .i64 (IntKind.wrap .i64 (Int.tmod (IntKind.wrap .u64 n20) (IntKind.wrap .u64 (IntKind.wrap .i64 ((2 : Int) + (IntKind.wrap .i64 (Int.tmod (IntKind.wrap .u64 nn_0) (14 : Int))))))))), (.int .i64 (IntKind.wrap .i64 (Int.tmod (IntKind.wrap .u64 n22) (IntKind.wrap .u64 (IntKind.wrap .i64 ((2 : Int) + (IntKind.wrap .i64 (Int.tmod (IntKind.wrap .u64 nn_0) (14 : Int)))))))))] w57 fun e61 w60 => ∃ b58 : Bool, ∃ v59 : Value, e61 = .returned (.tuple #[(.bool b58), v59]) ∧
  ldS (a13.add 3) w60 fun s62b s62l s62c =>
  ixS s62b s62l n50 4 fun a63 =>
  ldI .i64 a63 w60 fun n64 =>
  ldI .i64 (a63.add 1) w60 fun n65 =>
  ldI .i64 (a63.add 2) w60 fun n66 =>
  ldI .i64 (a63.add 3) w60 fun n67 =>
  alo #[(.int .i64 (0 : Int)), (.int .i64 (0 : Int)), (.int .i64 (0 : Int)), (.int .i64 (0 : Int))] T_plaitref14_Tie w60 fun a68 w69 =>
  sto a68 (.int .i64 n64) w69 fun w70 =>
  sto (a68.add 1) (.int .i64 n65) w70 fun w71 =>
  sto (a68.add 2) (.int .i64 n66) w71 fun w72 =>
  sto (a68.add 3) (.int .i64 n67) w72 fun w73 =>
  ∃ J74 : List Value → World → Prop, (
  isI v59 ∧ bif (!(nilI v59)) then (
  R (.bool false) w73) else (
  bif b58 then (
  R (.bool false) w73) else (
  ldI .i64 (a68.add 1) w73 fun n75 =>
  ldI .i64 (a68.add 2) w73 fun n76 =>
  ldI .i64 (a68.add 3) w73 fun n77 =>
  Calls Pg fn_web_Web_Tie #[(.pointer p6), (.int .i64 n23), (.int .i64 n75), (.int .i64 n76), (.int .i64 n77)] w73 fun e80 w79 => ∃ v78 : Value, e80 = .returned v78 ∧
  isI v78 ∧ bif (!(nilI v78)) then (
  R (.bool false) w79) else (
  J74 [] w79)))) ∧ ∀ _ : Env, ∀ w81 : World, J74 [] w81 →
  Calls Pg fn_web_Web_Weakest #[(.pointer p6), (.int .i64 (IntKind.wrap .i64 (Int.tmod (IntKind.wrap .u64 n22) (IntKind.wrap .u64 (IntKind.wrap .i64 ((2 : Int) + (IntKind.wrap .i64 (Int.tmod (IntKind.wrap .u64 nn_0) (14 : Int))))))))), (.int .i64 (IntKind.wrap .i64 (Int.tmod (IntKind.wrap .u64 n20) (IntKind.wrap .u64 (IntKind.wrap .i64 ((2 : Int) + (IntKind.wrap .i64 (Int.tmod (IntKind.wrap .u64 nn_0) (14 : Int)))))))))] w81 fun e85 w84 => ∃ n82 : Int, ∃ v83 : Value, e85 = .returned (.tuple #[(.int .i64 n82), v83]) ∧
  ldI .i64 a13 w84 fun n86 =>
  ldI .i64 (a13.add 1) w84 fun n87 =>
  ldS (a13.add 2) w84 fun s88b s88l s88c =>
  ldS (a13.add 3) w84 fun s89b s89l s89c =>
  Calls Pg fn_plaitref14_At #[(.agg #[(.int .i64 n86), (.int .i64 n87), (.slice s88b s88l s88c), (.slice s89b s89l s89c)]), (.int .i64 n82)] w84 fun e92 w91 => ∃ n90 : Int, e92 = .returned (.int .i64 n90) ∧
  isI v83 ∧ bif (nilI v83) then (
  bif (decide (n90 ≥ (0 : Int))) then (
  ldS (a13.add 3) w91.drew fun s93b s93l s93c =>
  ixS s93b s93l n90 4 fun a94 =>
  ldI .i64 (a94.add 3) w91.drew fun n95 =>
  ldI .i64 (a68.add 3) w91.drew fun n96 =>
  bif (n95 == n96) then (
  Calls Pg fn_plaitlaw14_sure #[] w91.drew fun e99 w98 => ∃ b97 : Bool, e99 = .returned (.bool b97) ∧
  R (.bool b97) w98) else (
  R (.bool false) w91.drew)) else (
  R (.bool false) w91.drew)) else (
  R (.bool false) w91.drew))
theorem eq_plaitlaw14_WebRoads (nn_0 : Int) (sl_1b : Option Addr) (sl_1l : Nat) (sl_1c : Nat) (nof_2 : Int) (nof_3 : Int) (w : World) (R : Value → World → Prop) : sh_plaitlaw14_WebRoads nn_0 sl_1b sl_1l sl_1c nof_2 nof_3 w R = denF Pg Eall Tryz.f4 (.seq (.leaf) (.seq (.leaf) (.seq (.leaf) (.seq (.seq (.leaf) (.cond (.seq (.leaf) (.leaf)) (.leaf))) (.seq (.reg (.tk 0 [] [] (.tk 1 [] [] (.tk 2 [] [] (.tk 3 [] [] (.tk 4 [] [] (.tk 5 [] [] (.tk 6 [] [] (.tk 7 [] [] (.tk 8 [] [] (.tk 9 [] [] (.tk 10 [] [] (.tk 11 [] [] (.tk 12 [] [] (.tk 13 [] [] (.tk 14 [] [] (.tk 15 [] [] (.fin)))))))))))))))))) (.seq (.leaf) (.join [] [] (.join [64] [.one (.bool)] (.leaf) (.cond (.seq (.leaf) (.seq (.leaf) (.seq (.leaf) (.leaf)))) (.leaf))) (.seq (.leaf) (.join [] [] (.seq (.leaf) (.cond (.seq (.leaf) (.leaf)) (.leaf))) (.seq (.leaf) (.seq (.leaf) (.join [] [] (.seq (.leaf) (.cond (.seq (.leaf) (.leaf)) (.leaf))) (.seq (.leaf) (.seq (.leaf) (.seq (.reg (.tk 0 [] [] (.tk 1 [] [] (.tk 2 [] [] (.tk 3 [] [] (.tk 4 [] [] (.tk 5 [] [] (.tk 6 [] [] (.tk 7 [] [] (.tk 8 [10, 11, 12, 15, 16, 17, 18, 19, 20] [18] (.tk 9 [] [] (.tk 10 [] [] (.tk 11 [] [] (.tk 12 [15, 16, 17, 18, 19, 20] [18] (.tk 13 [] [] (.tk 14 [15, 16, 17, 18, 19, 20] [18] (.tk 15 [] [] (.tk 16 [] [] (.tk 17 [] [] (.one 18 (.tk 19 [] [] (.tk 20 [] [] (.fin))))))))))))))))))))))) (.leaf)))))))))))))))) [(.int .i64 nn_0), (.slice sl_1b sl_1l sl_1c), (.agg #[(.int .i64 nof_2), (.int .i64 nof_3)])] w R := by kernel_rfl
theorem calls_plaitlaw14_WebRoads (nn_0 : Int) (sl_1b : Option Addr) (sl_1l : Nat) (sl_1c : Nat) (nof_2 : Int) (nof_3 : Int) (w : World) (R : Value → World → Prop) (h : sh_plaitlaw14_WebRoads nn_0 sl_1b sl_1l sl_1c nof_2 nof_3 w R) : Calls Pg fn_plaitlaw14_WebRoads #[(.int .i64 nn_0), (.slice sl_1b sl_1l sl_1c), (.agg #[(.int .i64 nof_2), (.int .i64 nof_3)])] w fun e w' => ∃ v, e = .returned v ∧ R v w' :=
  calls_of_den Eall_enter wide_mixed Tryz.func4 (by rw [← eq_plaitlaw14_WebRoads]; exact h)

/-- 'plait/plaitlaw14.WebApart' -/
def sh_plaitlaw14_WebApart (nn_0 : Int) (sl_1b : Option Addr) (sl_1l : Nat) (sl_1c : Nat) (nof_2 : Int) (nof_3 : Int) (w : World) (R : Value → World → Prop) : Prop :=
  alo #[(.int .i64 nof_2), (.int .i64 nof_3)] T__2int w fun a4 w5 =>
  (14 : Int) ≠ 0 ∧ Calls Pg fn_web_New #[(.int .i64 (IntKind.wrap .i64 ((2 : Int) + (IntKind.wrap .i64 (Int.tmod (IntKind.wrap .u64 nn_0) (14 : Int)))))), (.int .i64 (8 : Int))] w5 fun e9 w8 => ∃ p6 : Option Addr, ∃ v7 : Value, e9 = .returned (.tuple #[(.pointer p6), v7]) ∧
  ∃ J10 : List Value → World → Prop, (
  isI v7 ∧ bif (!(nilI v7)) then (
  R (.bool false) w8) else (
  bif (Option.isNone p6) then (
  R (.bool false) w8) else (
  J10 [] w8))) ∧ ∀ _ : Env, ∀ w11 : World, J10 [] w11 →
  Calls Pg fn_plaitref14_New #[(.int .i64 (IntKind.wrap .i64 ((2 : Int) + (IntKind.wrap .i64 (Int.tmod (IntKind.wrap .u64 nn_0) (14 : Int)))))), (.int .i64 (8 : Int))] w11 fun e17 w16 => ∃ n12 : Int, ∃ n13 : Int, ∃ s14b : Option Addr, ∃ s14l : Nat, ∃ s14c : Nat, ∃ s15b : Option Addr, ∃ s15l : Nat, ∃ s15c : Nat, e17 = .returned (.agg #[(.int .i64 n12), (.int .i64 n13), (.slice s14b s14l s14c), (.slice s15b s15l s15c)]) ∧
  alo #[(.int .i64 (0 : Int)), (.int .i64 (0 : Int)), (.slice none 0 0), (.slice none 0 0)] T_plaitref14_Web w16 fun a18 w19 =>
  sto a18 (.int .i64 n12) w19 fun w20 =>
  sto (a18.add 1) (.int .i64 n13) w20 fun w21 =>
  sto (a18.add 2) (.slice s14b s14l s14c) w21 fun w22 =>
  sto (a18.add 3) (.slice s15b s15l s15c) w22 fun w23 =>
  ∃ J24 : List Value → World → Prop, (
  ∃ (I25 : List Value → World → Prop) (m26 : List Value → World → Nat), I25 [(.int .i64 (0 : Int))] w23 ∧
  ∀ _ : Env, ∀ n27 : Int, ∀ w28 : World, I25 [(.int .i64 n27)] w28 →
  bif (decide (n27 < (sl_1l : Int))) then (
  bif (decide (n27 < (50 : Int))) then (
  ldI .i64 a18 w28.drew fun n29 =>
  ldI .i64 (a18.add 1) w28.drew fun n30 =>
  ldS (a18.add 2) w28.drew fun s31b s31l s31c =>
  ldS (a18.add 3) w28.drew fun s32b s32l s32c =>
  ixS sl_1b sl_1l n27 5 fun a33 =>
  ldI .i64 a33 w28.drew fun n34 =>
  ldI .i64 (a33.add 1) w28.drew fun n35 =>
  ldI .i64 (a33.add 2) w28.drew fun n36 =>
  ldI .i64 (a33.add 3) w28.drew fun n37 =>
  ldI .i64 (a33.add 4) w28.drew fun n38 =>
  Calls Pg fn_plaitlaw14_do #[(.pointer p6), (.agg #[(.int .i64 n29), (.int .i64 n30), (.slice s31b s31l s31c), (.slice s32b s32l s32c)]), (.agg #[(.int .i64 n34), (.int .i64 n35), (.int .i64 n36), (.int .i64 n37), (.int .i64 n38)])] w28.drew fun e45 w44 => ∃ n39 : Int, ∃ n40 : Int, ∃ s41b : Option Addr, ∃ s41l : Nat, ∃ s41c : Nat, ∃ s42b : Option Addr, ∃ s42l : Nat, ∃ s42c : Nat, ∃ b43 : Bool, e45 = .returned (.tuple #[(.agg #[(.int .i64 n39), (.int .i64 n40), (.slice s41b s41l s41c), (.slice s42b s42l s42c)]), (.bool b43)]) ∧
  sto a18 (.int .i64 n39) w44 fun w46 =>
  sto (a18.add 1) (.int .i64 n40) w46 fun w47 =>
  sto (a18.add 2) (.slice s41b s41l s41c) w47 fun w48 =>
  sto (a18.add 3) (.slice s42b s42l s42c) w48 fun w49 =>
  (I25 [(.int .i64 (IntKind.wrap .i64 (n27 + (1 : Int))))] w49 ∧ m26 [(.int .i64 (IntKind.wrap .i64 (n27 + (1 : Int))))] w49 < m26 [(.int .i64 n27)] w28)) else (
  J24 [] w28)) else (
  J24 [] w28)) ∧ ∀ _ : Env, ∀ w50 : World, J24 [] w50 →
  ixA a4 2 (0 : Int) 1 fun a51 =>
  ldI .i64 a51 w50.drew fun n52 =>
  (IntKind.wrap .u64 (IntKind.wrap .i64 ((2 : Int) + (IntKind.wrap .i64 (Int.tmod (IntKind.wrap .u64 nn_0) (14 : Int)))))) ≠ 0 ∧ ixA a4 2 (1 : Int) 1 fun a53 =>
  ldI .i64 a53 w50.drew fun n54 =>
  (IntKind.wrap .u64 (IntKind.wrap .i64 ((2 : Int) + (IntKind.wrap .i64 (Int.tmod (IntKind.wrap .u64 nn_0) (14 : Int)))))) ≠ 0 ∧ Calls Pg fn_web_Web_Walk #[(.pointer p6), (.int .i64 (IntKind.wrap .i64 (Int.tmod (IntKind.wrap .u64 n52) (IntKind.wrap .u64 (IntKind.wrap .i64 ((2 : Int) + (IntKind.wrap .i64 (Int.tmod (IntKind.wrap .u64 nn_0) (14 : Int)))))))))] w50.drew fun e58 w57 => ∃ s55b : Option Addr, ∃ s55l : Nat, ∃ s55c : Nat, ∃ v56 : Value, e58 = .returned (.tuple #[(.slice s55b s55l s55c), v56]) ∧
  isI v56 ∧ bif (!(nilI v56)) then (
  R (.bool false) w57) else (
  Calls Pg fn_web_Web_Split #[(.pointer p6), (.int .i64 (IntKind.wrap .i64 (Int.tmod (IntKind.wrap .u64 n52) (IntKind.wrap .u64 (IntKind.wrap .i64 ((2 : Int) + (IntKind.wrap .i64 (Int.tmod (IntKind.wrap .u64 nn_0) (14 : Int))))))))), (.int .i64 (IntKind.wrap .i64 (Int.tmod (IntKind.wrap .u64 n54) (IntKind.wrap .u64 (IntKind.wrap .i64 ((2 : Int) + (IntKind.wrap .i64 (Int.tmod (IntKind.wrap .u64 nn_0) (14 : Int)))))))))] w57 fun e61 w60 => ∃ v59 : Value, e61 = .returned v59 ∧
  isI v59 ∧ bif (!(nilI v59)) then (
  Calls Pg fn_web_Web_Same #[(.pointer p6), (.int .i64 (IntKind.wrap .i64 (Int.tmod (IntKind.wrap .u64 n52) (IntKind.wrap .u64 (IntKind.wrap .i64 ((2 : Int) + (IntKind.wrap .i64 (Int.tmod (IntKind.wrap .u64 nn_0) (14 : Int))))))))), (.int .i64 (IntKind.wrap .i64 (Int.tmod (IntKind.wrap .u64 n54) (IntKind.wrap .u64 (IntKind.wrap .i64 ((2 : Int) + (IntKind.wrap .i64 (Int.tmod (IntKind.wrap .u64 nn_0) (14 : Int)))))))))] w60 fun e65 w64 => ∃ b62 : Bool, ∃ v63 : Value, e65 = .returned (.tuple #[(.bool b62), v63]) ∧
  ∃ J66 : List Value → World → Prop, (
  isI v63 ∧ bif (nilI v63) then (
  bif ((IntKind.wrap .i64 (Int.tmod (IntKind.wrap .u64 n52) (IntKind.wrap .u64 (IntKind.wrap .i64 ((2 : Int) + (IntKind.wrap .i64 (Int.tmod (IntKind.wrap .u64 nn_0) (14 : Int)))))))) == (IntKind.wrap .i64 (Int.tmod (IntKind.wrap .u64 n54) (IntKind.wrap .u64 (IntKind.wrap .i64 ((2 : Int) + (IntKind.wrap .i64 (Int.tmod (IntKind.wrap .u64 nn_0) (14 : Int))))))))) then (
  Calls Pg fn_plaitlaw14_num #[v59] w64 fun e69 w68 => ∃ n67 : Int, e69 = .returned (.int .i64 n67) ∧
  bif (n67 == (20 : Int)) then (
  Calls Pg fn_plaitlaw14_sure #[] w68 fun e72 w71 => ∃ b70 : Bool, e72 = .returned (.bool b70) ∧
  J66 [(.bool b70)] w71) else (
  bif ((IntKind.wrap .i64 (Int.tmod (IntKind.wrap .u64 n52) (IntKind.wrap .u64 (IntKind.wrap .i64 ((2 : Int) + (IntKind.wrap .i64 (Int.tmod (IntKind.wrap .u64 nn_0) (14 : Int)))))))) != (IntKind.wrap .i64 (Int.tmod (IntKind.wrap .u64 n54) (IntKind.wrap .u64 (IntKind.wrap .i64 ((2 : Int) + (IntKind.wrap .i64 (Int.tmod (IntKind.wrap .u64 nn_0) (14 : Int))))))))) then (
  Calls Pg fn_plaitlaw14_num #[v59] w68 fun e75 w74 => ∃ n73 : Int, e75 = .returned (.int .i64 n73) ∧
  bif (n73 == (21 : Int)) then (
  bif (!b62) then (
  Calls Pg fn_plaitlaw14_sure #[] w74 fun e78 w77 => ∃ b76 : Bool, e78 = .returned (.bool b76) ∧
  J66 [(.bool b76)] w77) else (
  J66 [(.bool false)] w74)) else (
  J66 [(.bool false)] w74)) else (
  J66 [(.bool false)] w68))) else (
  bif ((IntKind.wrap .i64 (Int.tmod (IntKind.wrap .u64 n52) (IntKind.wrap .u64 (IntKind.wrap .i64 ((2 : Int) + (IntKind.wrap .i64 (Int.tmod (IntKind.wrap .u64 nn_0) (14 : Int)))))))) != (IntKind.wrap .i64 (Int.tmod (IntKind.wrap .u64 n54) (IntKind.wrap .u64 (IntKind.wrap .i64 ((2 : Int) + (IntKind.wrap .i64 (Int.tmod (IntKind.wrap .u64 nn_0) (14 : Int))))))))) then (
  Calls Pg fn_plaitlaw14_num #[v59] w64 fun e81 w80 => ∃ n79 : Int, e81 = .returned (.int .i64 n79) ∧
  bif (n79 == (21 : Int)) then (
  bif (!b62) then (
  Calls Pg fn_plaitlaw14_sure #[] w80 fun e84 w83 => ∃ b82 : Bool, e84 = .returned (.bool b82) ∧
  J66 [(.bool b82)] w83) else (
  J66 [(.bool false)] w80)) else (
  J66 [(.bool false)] w80)) else (
  J66 [(.bool false)] w64))) else (
  J66 [(.bool false)] w64)) ∧ ∀ _ : Env, ∀ b85 : Bool, ∀ w86 : World, J66 [(.bool b85)] w86 →
  R (.bool b85) w86) else (
  Calls Pg fn_web_Web_Linked #[(.pointer p6), (.int .i64 (IntKind.wrap .i64 (Int.tmod (IntKind.wrap .u64 n52) (IntKind.wrap .u64 (IntKind.wrap .i64 ((2 : Int) + (IntKind.wrap .i64 (Int.tmod (IntKind.wrap .u64 nn_0) (14 : Int))))))))), (.int .i64 (IntKind.wrap .i64 (Int.tmod (IntKind.wrap .u64 n54) (IntKind.wrap .u64 (IntKind.wrap .i64 ((2 : Int) + (IntKind.wrap .i64 (Int.tmod (IntKind.wrap .u64 nn_0) (14 : Int)))))))))] w60 fun e90 w89 => ∃ b87 : Bool, ∃ v88 : Value, e90 = .returned (.tuple #[(.bool b87), v88]) ∧
  isI v88 ∧ bif (!(nilI v88)) then (
  R (.bool false) w89) else (
  bif b87 then (
  R (.bool false) w89) else (
  Calls Pg fn_web_Web_Merge #[(.pointer p6), (.int .i64 (IntKind.wrap .i64 (Int.tmod (IntKind.wrap .u64 n52) (IntKind.wrap .u64 (IntKind.wrap .i64 ((2 : Int) + (IntKind.wrap .i64 (Int.tmod (IntKind.wrap .u64 nn_0) (14 : Int))))))))), (.int .i64 (IntKind.wrap .i64 (Int.tmod (IntKind.wrap .u64 n54) (IntKind.wrap .u64 (IntKind.wrap .i64 ((2 : Int) + (IntKind.wrap .i64 (Int.tmod (IntKind.wrap .u64 nn_0) (14 : Int)))))))))] w89 fun e93 w92 => ∃ v91 : Value, e93 = .returned v91 ∧
  isI v91 ∧ bif (!(nilI v91)) then (
  R (.bool false) w92) else (
  Calls Pg fn_web_Web_Walk #[(.pointer p6), (.int .i64 (IntKind.wrap .i64 (Int.tmod (IntKind.wrap .u64 n52) (IntKind.wrap .u64 (IntKind.wrap .i64 ((2 : Int) + (IntKind.wrap .i64 (Int.tmod (IntKind.wrap .u64 nn_0) (14 : Int)))))))))] w92 fun e97 w96 => ∃ s94b : Option Addr, ∃ s94l : Nat, ∃ s94c : Nat, ∃ v95 : Value, e97 = .returned (.tuple #[(.slice s94b s94l s94c), v95]) ∧
  isI v95 ∧ bif (nilI v95) then (
  Calls Pg fn_plaitlaw14_ints #[(.slice s55b s55l s55c), (.slice s94b s94l s94c)] w96 fun e100 w99 => ∃ b98 : Bool, e100 = .returned (.bool b98) ∧
  bif b98 then (
  Calls Pg fn_plaitlaw14_sure #[] w99 fun e103 w102 => ∃ b101 : Bool, e103 = .returned (.bool b101) ∧
  R (.bool b101) w102) else (
  R (.bool false) w99)) else (
  R (.bool false) w96))))))
theorem eq_plaitlaw14_WebApart (nn_0 : Int) (sl_1b : Option Addr) (sl_1l : Nat) (sl_1c : Nat) (nof_2 : Int) (nof_3 : Int) (w : World) (R : Value → World → Prop) : sh_plaitlaw14_WebApart nn_0 sl_1b sl_1l sl_1c nof_2 nof_3 w R = denF Pg Eall Tryz.f5 (.seq (.leaf) (.seq (.leaf) (.seq (.leaf) (.join [] [] (.seq (.leaf) (.cond (.seq (.leaf) (.leaf)) (.leaf))) (.seq (.leaf) (.join [] [] (.seq (.leaf) (.block (.loop [11] [.one (.int .i64)] (.seq (.seq (.leaf) (.cond (.leaf) (.leaf))) (.seq (.block (.reg (.tk 0 [] [] (.tk 1 [6, 7, 8, 9, 10] [6, 10] (.tk 2 [] [] (.tk 3 [] [] (.tk 4 [] [] (.tk 5 [6, 7, 8, 9, 10] [6, 10] (.one 6 (.tk 7 [] [] (.tk 8 [] [] (.tk 9 [] [] (.one 10 (.fin)))))))))))))) (.leaf)))))) (.seq (.reg (.tk 0 [] [] (.tk 1 [] [] (.tk 2 [] [] (.tk 3 [] [] (.tk 4 [] [] (.tk 5 [] [] (.tk 6 [] [] (.tk 7 [] [] (.tk 8 [] [] (.tk 9 [] [] (.tk 10 [] [] (.tk 11 [] [] (.tk 12 [] [] (.tk 13 [] [] (.tk 14 [] [] (.tk 15 [] [] (.fin)))))))))))))))))) (.seq (.leaf) (.seq (.seq (.leaf) (.cond (.seq (.leaf) (.leaf)) (.leaf))) (.seq (.leaf) (.seq (.seq (.leaf) (.cond (.seq (.leaf) (.join [6] [.one (.bool)] (.leaf) (.leaf))) (.leaf))) (.seq (.leaf) (.seq (.seq (.leaf) (.cond (.seq (.leaf) (.leaf)) (.leaf))) (.seq (.leaf) (.seq (.leaf) (.leaf)))))))))))))))) [(.int .i64 nn_0), (.slice sl_1b sl_1l sl_1c), (.agg #[(.int .i64 nof_2), (.int .i64 nof_3)])] w R := by kernel_rfl
theorem calls_plaitlaw14_WebApart (nn_0 : Int) (sl_1b : Option Addr) (sl_1l : Nat) (sl_1c : Nat) (nof_2 : Int) (nof_3 : Int) (w : World) (R : Value → World → Prop) (h : sh_plaitlaw14_WebApart nn_0 sl_1b sl_1l sl_1c nof_2 nof_3 w R) : Calls Pg fn_plaitlaw14_WebApart #[(.int .i64 nn_0), (.slice sl_1b sl_1l sl_1c), (.agg #[(.int .i64 nof_2), (.int .i64 nof_3)])] w fun e w' => ∃ v, e = .returned v ∧ R v w' :=
  calls_of_den Eall_enter wide_mixed Tryz.func5 (by rw [← eq_plaitlaw14_WebApart]; exact h)

/-- 'plait/plaitlaw14.WebRuns' -/
def sh_plaitlaw14_WebRuns (nn_0 : Int) (sl_1b : Option Addr) (sl_1l : Nat) (sl_1c : Nat) (w : World) (R : Value → World → Prop) : Prop :=
  (14 : Int) ≠ 0 ∧ Calls Pg fn_web_New #[(.int .i64 (IntKind.wrap .i64 ((1 : Int) + (IntKind.wrap .i64 (Int.tmod (IntKind.wrap .u64 nn_0) (14 : Int)))))), (.int .i64 (8 : Int))] w fun e5 w4 => ∃ p2 : Option Addr, ∃ v3 : Value, e5 = .returned (.tuple #[(.pointer p2), v3]) ∧
  ∃ J6 : List Value → World → Prop, (
  isI v3 ∧ bif (!(nilI v3)) then (
  R (.bool false) w4) else (
  bif (Option.isNone p2) then (
  R (.bool false) w4) else (
  J6 [] w4))) ∧ ∀ _ : Env, ∀ w7 : World, J6 [] w7 →
  Calls Pg fn_plaitref14_New #[(.int .i64 (IntKind.wrap .i64 ((1 : Int) + (IntKind.wrap .i64 (Int.tmod (IntKind.wrap .u64 nn_0) (14 : Int)))))), (.int .i64 (8 : Int))] w7 fun e13 w12 => ∃ n8 : Int, ∃ n9 : Int, ∃ s10b : Option Addr, ∃ s10l : Nat, ∃ s10c : Nat, ∃ s11b : Option Addr, ∃ s11l : Nat, ∃ s11c : Nat, e13 = .returned (.agg #[(.int .i64 n8), (.int .i64 n9), (.slice s10b s10l s10c), (.slice s11b s11l s11c)]) ∧
  alo #[(.int .i64 (0 : Int)), (.int .i64 (0 : Int)), (.slice none 0 0), (.slice none 0 0)] T_plaitref14_Web w12 fun a14 w15 =>
  sto a14 (.int .i64 n8) w15 fun w16 =>
  sto (a14.add 1) (.int .i64 n9) w16 fun w17 =>
  sto (a14.add 2) (.slice s10b s10l s10c) w17 fun w18 =>
  sto (a14.add 3) (.slice s11b s11l s11c) w18 fun w19 =>
  ∃ J20 : List Value → World → Prop, (
  ∃ (I21 : List Value → World → Prop) (m22 : List Value → World → Nat), I21 [(.int .i64 (0 : Int))] w19 ∧
  ∀ _ : Env, ∀ n23 : Int, ∀ w24 : World, I21 [(.int .i64 n23)] w24 →
  ∃ J25 : List Value → World → Prop, (
  bif (decide (n23 < (sl_1l : Int))) then (
  bif (decide (n23 < (70 : Int))) then (
  J25 [] w24) else (
  J20 [] w24)) else (
  J20 [] w24)) ∧ ∀ _ : Env, ∀ w26 : World, J25 [] w26 →
  ldI .i64 a14 w26.drew fun n27 =>
  ldI .i64 (a14.add 1) w26.drew fun n28 =>
  ldS (a14.add 2) w26.drew fun s29b s29l s29c =>
  ldS (a14.add 3) w26.drew fun s30b s30l s30c =>
  ixS sl_1b sl_1l n23 5 fun a31 =>
  ldI .i64 a31 w26.drew fun n32 =>
  ldI .i64 (a31.add 1) w26.drew fun n33 =>
  ldI .i64 (a31.add 2) w26.drew fun n34 =>
  ldI .i64 (a31.add 3) w26.drew fun n35 =>
  ldI .i64 (a31.add 4) w26.drew fun n36 =>
  (Calls Pg fn_plaitlaw14_do #[(.pointer p2), (.agg #[(.int .i64 n27), (.int .i64 n28), (.slice s29b s29l s29c), (.slice s30b s30l s30c)]), (.agg #[(.int .i64 n32), (.int .i64 n33), (.int .i64 n34), (.int .i64 n35), (.int .i64 n36)])] w26.drew fun e43 w42 => ∃ n37 : Int, ∃ n38 : Int, ∃ s39b : Option Addr, ∃ s39l : Nat, ∃ s39c : Nat, ∃ s40b : Option Addr, ∃ s40l : Nat, ∃ s40c : Nat, ∃ b41 : Bool, e43 = .returned (.tuple #[(.agg #[(.int .i64 n37), (.int .i64 n38), (.slice s39b s39l s39c), (.slice s40b s40l s40c)]), (.bool b41)]) ∧
  alo #[(.int .i64 (0 : Int)), (.int .i64 (0 : Int)), (.slice none 0 0), (.slice none 0 0)] T_plaitref14_Web w42 fun a44 w45 =>
  sto a44 (.int .i64 n37) w45 fun w46 =>
  sto (a44.add 1) (.int .i64 n38) w46 fun w47 =>
  sto (a44.add 2) (.slice s39b s39l s39c) w47 fun w48 =>
  sto (a44.add 3) (.slice s40b s40l s40c) w48 fun w49 =>
  ldI .i64 a44 w49 fun n50 =>
  ldI .i64 (a44.add 1) w49 fun n51 =>
  ldS (a44.add 2) w49 fun s52b s52l s52c =>
  ldS (a44.add 3) w49 fun s53b s53l s53c =>
  sto a14 (.int .i64 n50) w49 fun w54 =>
  sto (a14.add 1) (.int .i64 n51) w54 fun w55 =>
  sto (a14.add 2) (.slice s52b s52l s52c) w55 fun w56 =>
  sto (a14.add 3) (.slice s53b s53l s53c) w56 fun w57 =>
  bif (!b41) then (
  R (.bool false) w57.drew) else (
  ldI .i64 a14 w57.drew fun n58 =>
  ldI .i64 (a14.add 1) w57.drew fun n59 =>
  ldS (a14.add 2) w57.drew fun s60b s60l s60c =>
  ldS (a14.add 3) w57.drew fun s61b s61l s61c =>
  ixS sl_1b sl_1l n23 5 fun a62 =>
  ldI .i64 (a62.add 2) w57.drew fun n63 =>
  ixS sl_1b sl_1l n23 5 fun a64 =>
  ldI .i64 (a64.add 1) w57.drew fun n65 =>
  Calls Pg fn_plaitlaw14_told #[(.pointer p2), (.agg #[(.int .i64 n58), (.int .i64 n59), (.slice s60b s60l s60c), (.slice s61b s61l s61c)]), (.int .i64 n63), (.int .i64 n65)] w57.drew fun e68 w67 => ∃ b66 : Bool, e68 = .returned (.bool b66) ∧
  bif (!b66) then (
  R (.bool false) w67) else (
  ixS sl_1b sl_1l n23 5 fun a69 =>
  ldI .i64 (a69.add 3) w67 fun n70 =>
  ldI .i64 a14 w67 fun n71 =>
  ldI .i64 (a14.add 1) w67 fun n72 =>
  ldS (a14.add 2) w67 fun s73b s73l s73c =>
  ldS (a14.add 3) w67 fun s74b s74l s74c =>
  ixS sl_1b sl_1l n23 5 fun a75 =>
  ldI .i64 (a75.add 3) w67 fun n76 =>
  Calls Pg fn_web_Web_Tied #[(.pointer p2), (.int .i64 n70)] w67 fun e79 w78 => ∃ b77 : Bool, e79 = .returned (.bool b77) ∧
  w78.cell? (a75.add 3) = some (.int .i64 n76) ∧ w78.cell? a14 = some (.int .i64 n71) ∧ w78.cell? (a14.add 1) = some (.int .i64 n72) ∧ w78.cell? (a14.add 2) = some (.slice s73b s73l s73c) ∧ w78.cell? (a14.add 3) = some (.slice s74b s74l s74c) ∧ Calls Pg fn_plaitref14_At #[(.agg #[(.int .i64 n71), (.int .i64 n72), (.slice s73b s73l s73c), (.slice s74b s74l s74c)]), (.int .i64 n76)] w78 fun e82 w81 => ∃ n80 : Int, e82 = .returned (.int .i64 n80) ∧
  bif (!(b77 == (decide (n80 ≥ (0 : Int))))) then (
  R (.bool false) w81) else (
  (I21 [(.int .i64 (IntKind.wrap .i64 (n23 + (1 : Int))))] w81 ∧ m22 [(.int .i64 (IntKind.wrap .i64 (n23 + (1 : Int))))] w81 < m22 [(.int .i64 n23)] w24))))) ∧ (
  alo #[(.int .i64 (0 : Int)), (.int .i64 (0 : Int)), (.slice none 0 0), (.slice none 0 0)] T_plaitref14_Web w26.drew fun a83 w84 =>
  w84.cell? a31 = some (.int .i64 n32) ∧ w84.cell? (a31.add 1) = some (.int .i64 n33) ∧ w84.cell? (a31.add 2) = some (.int .i64 n34) ∧ w84.cell? (a31.add 3) = some (.int .i64 n35) ∧ w84.cell? (a31.add 4) = some (.int .i64 n36) ∧ w84.cell? a14 = some (.int .i64 n27) ∧ w84.cell? (a14.add 1) = some (.int .i64 n28) ∧ w84.cell? (a14.add 2) = some (.slice s29b s29l s29c) ∧ w84.cell? (a14.add 3) = some (.slice s30b s30l s30c) ∧ Calls Pg fn_plaitlaw14_do #[(.pointer p2), (.agg #[(.int .i64 n27), (.int .i64 n28), (.slice s29b s29l s29c), (.slice s30b s30l s30c)]), (.agg #[(.int .i64 n32), (.int .i64 n33), (.int .i64 n34), (.int .i64 n35), (.int .i64 n36)])] w84 fun e91 w90 => ∃ n85 : Int, ∃ n86 : Int, ∃ s87b : Option Addr, ∃ s87l : Nat, ∃ s87c : Nat, ∃ s88b : Option Addr, ∃ s88l : Nat, ∃ s88c : Nat, ∃ b89 : Bool, e91 = .returned (.tuple #[(.agg #[(.int .i64 n85), (.int .i64 n86), (.slice s87b s87l s87c), (.slice s88b s88l s88c)]), (.bool b89)]) ∧
  sto a83 (.int .i64 n85) w90 fun w92 =>
  sto (a83.add 1) (.int .i64 n86) w92 fun w93 =>
  sto (a83.add 2) (.slice s87b s87l s87c) w93 fun w94 =>
  sto (a83.add 3) (.slice s88b s88l s88c) w94 fun w95 =>
  ldI .i64 a83 w95 fun n96 =>
  ldI .i64 (a83.add 1) w95 fun n97 =>
  ldS (a83.add 2) w95 fun s98b s98l s98c =>
  ldS (a83.add 3) w95 fun s99b s99l s99c =>
  sto a14 (.int .i64 n96) w95 fun w100 =>
  sto (a14.add 1) (.int .i64 n97) w100 fun w101 =>
  sto (a14.add 2) (.slice s98b s98l s98c) w101 fun w102 =>
  sto (a14.add 3) (.slice s99b s99l s99c) w102 fun w103 =>
  bif (!b89) then (
  R (.bool false) w103.drew) else (
  ldI .i64 a14 w103.drew fun n104 =>
  ldI .i64 (a14.add 1) w103.drew fun n105 =>
  ldS (a14.add 2) w103.drew fun s106b s106l s106c =>
  ldS (a14.add 3) w103.drew fun s107b s107l s107c =>
  ixS sl_1b sl_1l n23 5 fun a108 =>
  ldI .i64 (a108.add 2) w103.drew fun n109 =>
  ixS sl_1b sl_1l n23 5 fun a110 =>
  ldI .i64 (a110.add 1) w103.drew fun n111 =>
  Calls Pg fn_plaitlaw14_told #[(.pointer p2), (.agg #[(.int .i64 n104), (.int .i64 n105), (.slice s106b s106l s106c), (.slice s107b s107l s107c)]), (.int .i64 n109), (.int .i64 n111)] w103.drew fun e114 w113 => ∃ b112 : Bool, e114 = .returned (.bool b112) ∧
  bif (!b112) then (
  R (.bool false) w113) else (
  ixS sl_1b sl_1l n23 5 fun a115 =>
  ldI .i64 (a115.add 3) w113 fun n116 =>
  ldI .i64 a14 w113 fun n117 =>
  ldI .i64 (a14.add 1) w113 fun n118 =>
  ldS (a14.add 2) w113 fun s119b s119l s119c =>
  ldS (a14.add 3) w113 fun s120b s120l s120c =>
  ixS sl_1b sl_1l n23 5 fun a121 =>
  ldI .i64 (a121.add 3) w113 fun n122 =>
  Calls Pg fn_web_Web_Tied #[(.pointer p2), (.int .i64 n116)] w113 fun e125 w124 => ∃ b123 : Bool, e125 = .returned (.bool b123) ∧
  w124.cell? (a121.add 3) = some (.int .i64 n122) ∧ w124.cell? a14 = some (.int .i64 n117) ∧ w124.cell? (a14.add 1) = some (.int .i64 n118) ∧ w124.cell? (a14.add 2) = some (.slice s119b s119l s119c) ∧ w124.cell? (a14.add 3) = some (.slice s120b s120l s120c) ∧ Calls Pg fn_plaitref14_At #[(.agg #[(.int .i64 n117), (.int .i64 n118), (.slice s119b s119l s119c), (.slice s120b s120l s120c)]), (.int .i64 n122)] w124 fun e128 w127 => ∃ n126 : Int, e128 = .returned (.int .i64 n126) ∧
  bif (!(b123 == (decide (n126 ≥ (0 : Int))))) then (
  R (.bool false) w127) else (
  (I21 [(.int .i64 (IntKind.wrap .i64 (n23 + (1 : Int))))] w127 ∧ m22 [(.int .i64 (IntKind.wrap .i64 (n23 + (1 : Int))))] w127 < m22 [(.int .i64 n23)] w24)))))) ∧ ∀ _ : Env, ∀ w129 : World, J20 [] w129 →
  ∃ (I130 : List Value → World → Prop) (m131 : List Value → World → Nat), I130 [(.int .i64 (0 : Int))] w129 ∧
  ∀ _ : Env, ∀ n132 : Int, ∀ w133 : World, I130 [(.int .i64 n132)] w133 →
  bif (decide (n132 < (IntKind.wrap .i64 ((1 : Int) + (IntKind.wrap .i64 (Int.tmod (IntKind.wrap .u64 nn_0) (14 : Int))))))) then (
  ldI .i64 a14 w133 fun n134 =>
  ldI .i64 (a14.add 1) w133 fun n135 =>
  ldS (a14.add 2) w133 fun s136b s136l s136c =>
  ldS (a14.add 3) w133 fun s137b s137l s137c =>
  Calls Pg fn_plaitlaw14_told #[(.pointer p2), (.agg #[(.int .i64 n134), (.int .i64 n135), (.slice s136b s136l s136c), (.slice s137b s137l s137c)]), (.int .i64 (0 : Int)), (.int .i64 n132)] w133 fun e140 w139 => ∃ b138 : Bool, e140 = .returned (.bool b138) ∧
  bif (!b138) then (
  R (.bool false) w139) else (
  (I130 [(.int .i64 (IntKind.wrap .i64 (n132 + (1 : Int))))] w139 ∧ m131 [(.int .i64 (IntKind.wrap .i64 (n132 + (1 : Int))))] w139 < m131 [(.int .i64 n132)] w133))) else (
  Calls Pg fn_plaitlaw14_sure #[] w133 fun e143 w142 => ∃ b141 : Bool, e143 = .returned (.bool b141) ∧
  R (.bool b141) w142)
theorem eq_plaitlaw14_WebRuns (nn_0 : Int) (sl_1b : Option Addr) (sl_1l : Nat) (sl_1c : Nat) (w : World) (R : Value → World → Prop) : sh_plaitlaw14_WebRuns nn_0 sl_1b sl_1l sl_1c w R = denF Pg Eall Tryz.f6 (.seq (.leaf) (.seq (.leaf) (.seq (.leaf) (.join [] [] (.seq (.leaf) (.cond (.seq (.leaf) (.leaf)) (.leaf))) (.seq (.leaf) (.join [] [] (.seq (.leaf) (.block (.loop [9] [.one (.int .i64)] (.join [] [] (.seq (.leaf) (.cond (.leaf) (.leaf))) (.seq (.block (.seq (.reg (.tk 0 [] [] (.tk 1 [6, 7, 8, 9, 11, 12] [6, 11] (.tk 2 [] [] (.tk 3 [] [] (.tk 4 [] [] (.tk 5 [6, 7, 8, 9, 11, 12] [6, 11] (.two 6 (.tk 7 [] [] (.tk 8 [] [] (.tk 9 [] [] (.one 10 (.one 11 (.tk 12 [] [] (.fin))))))) 10 (.one 6 (.tk 7 [] [] (.tk 8 [] [] (.tk 9 [] [] (.one 11 (.tk 12 [] [] (.fin))))))))))))))) (.seq (.leaf) (.seq (.reg (.tk 0 [] [] (.tk 1 [] [] (.tk 2 [] [] (.tk 3 [] [] (.tk 4 [15, 16, 17, 18, 19, 20, 21, 22, 23, 24, 25, 26, 27, 28, 29, 30, 31, 32, 33, 34, 35] [15, 25, 32] (.tk 5 [] [] (.tk 6 [] [] (.tk 7 [] [] (.tk 8 [] [] (.tk 9 [15, 16, 17, 18, 19, 20, 21, 22, 23, 24, 25, 26, 27, 28, 29, 30, 31, 32, 33, 34, 35] [15, 25, 32] (.tk 10 [] [] (.tk 11 [] [] (.tk 12 [] [] (.tk 13 [] [] (.tk 14 [15, 16, 17, 18, 19, 20, 21, 22, 23, 24, 25, 26, 27, 28, 29, 30, 31, 32, 33, 34, 35] [15, 25, 32] (.one 15 (.tk 16 [] [] (.tk 17 [] [] (.tk 18 [] [] (.tk 19 [] [] (.tk 20 [] [] (.tk 21 [] [] (.tk 22 [] [] (.tk 23 [] [] (.tk 24 [25, 32, 33, 34, 35] [25, 32] (.tk 26 [32, 33, 34, 35] [32] (.tk 27 [] [] (.tk 28 [] [] (.tk 29 [] [] (.tk 30 [] [] (.tk 31 [32, 33, 34, 35] [32] (.one 25 (.one 32 (.tk 33 [] [] (.tk 34 [] [] (.tk 35 [] [] (.fin)))))))))))))))))))))))))))))))))))))) (.cond (.seq (.leaf) (.leaf)) (.leaf)))))) (.leaf)))))) (.seq (.seq (.leaf) (.block (.loop [12] [.one (.int .i64)] (.seq (.seq (.leaf) (.cond (.leaf) (.leaf))) (.seq (.block (.seq (.leaf) (.cond (.seq (.leaf) (.leaf)) (.leaf)))) (.leaf)))))) (.seq (.leaf) (.leaf))))))))) [(.int .i64 nn_0), (.slice sl_1b sl_1l sl_1c)] w R := by kernel_rfl
theorem calls_plaitlaw14_WebRuns (nn_0 : Int) (sl_1b : Option Addr) (sl_1l : Nat) (sl_1c : Nat) (w : World) (R : Value → World → Prop) (h : sh_plaitlaw14_WebRuns nn_0 sl_1b sl_1l sl_1c w R) : Calls Pg fn_plaitlaw14_WebRuns #[(.int .i64 nn_0), (.slice sl_1b sl_1l sl_1c)] w fun e w' => ∃ v, e = .returned v ∧ R v w' :=
  calls_of_den Eall_enter wide_mixed Tryz.func6 (by rw [← eq_plaitlaw14_WebRuns]; exact h)

/-- 'plait/plaitlaw14.grown' -/
def sh_plaitlaw14_grown (nm_0 : Int) (sl_1b : Option Addr) (sl_1l : Nat) (sl_1c : Nat) (w : World) (R : Value → World → Prop) : Prop :=
  alo #[(.int .i64 (0 : Int)), (.int .i64 (0 : Int)), (.slice none 0 0), (.slice none 0 0)] T_plaitref14_Web w fun a2 w3 =>
  Calls Pg fn_web_New #[(.int .i64 nm_0), (.int .i64 (8 : Int))] w3 fun e7 w6 => ∃ p4 : Option Addr, ∃ v5 : Value, e7 = .returned (.tuple #[(.pointer p4), v5]) ∧
  Calls Pg fn_plaitref14_New #[(.int .i64 nm_0), (.int .i64 (8 : Int))] w6 fun e13 w12 => ∃ n8 : Int, ∃ n9 : Int, ∃ s10b : Option Addr, ∃ s10l : Nat, ∃ s10c : Nat, ∃ s11b : Option Addr, ∃ s11l : Nat, ∃ s11c : Nat, e13 = .returned (.agg #[(.int .i64 n8), (.int .i64 n9), (.slice s10b s10l s10c), (.slice s11b s11l s11c)]) ∧
  alo #[(.int .i64 (0 : Int)), (.int .i64 (0 : Int)), (.slice none 0 0), (.slice none 0 0)] T_plaitref14_Web w12 fun a14 w15 =>
  sto a14 (.int .i64 n8) w15 fun w16 =>
  sto (a14.add 1) (.int .i64 n9) w16 fun w17 =>
  sto (a14.add 2) (.slice s10b s10l s10c) w17 fun w18 =>
  sto (a14.add 3) (.slice s11b s11l s11c) w18 fun w19 =>
  ∃ J20 : List Value → World → Prop, (
  isI v5 ∧ bif (!(nilI v5)) then (
  ldI .i64 a14 w19.drew fun n21 =>
  ldI .i64 (a14.add 1) w19.drew fun n22 =>
  ldS (a14.add 2) w19.drew fun s23b s23l s23c =>
  ldS (a14.add 3) w19.drew fun s24b s24l s24c =>
  sto a2 (.int .i64 n21) w19.drew fun w25 =>
  sto (a2.add 1) (.int .i64 n22) w25 fun w26 =>
  sto (a2.add 2) (.slice s23b s23l s23c) w26 fun w27 =>
  sto (a2.add 3) (.slice s24b s24l s24c) w27 fun w28 =>
  ldI .i64 a2 w28 fun nr_29 =>
  ldI .i64 (a2.add 1) w28 fun nr_30 =>
  ldS (a2.add 2) w28 fun sr_31b sr_31l sr_31c =>
  ldS (a2.add 3) w28 fun sr_32b sr_32l sr_32c =>
  R (.tuple #[(.pointer none), (.agg #[(.int .i64 nr_29), (.int .i64 nr_30), (.slice sr_31b sr_31l sr_31c), (.slice sr_32b sr_32l sr_32c)])]) w28) else (
  bif (Option.isNone p4) then (
  ldI .i64 a14 w19.drew fun n33 =>
  ldI .i64 (a14.add 1) w19.drew fun n34 =>
  ldS (a14.add 2) w19.drew fun s35b s35l s35c =>
  ldS (a14.add 3) w19.drew fun s36b s36l s36c =>
  sto a2 (.int .i64 n33) w19.drew fun w37 =>
  sto (a2.add 1) (.int .i64 n34) w37 fun w38 =>
  sto (a2.add 2) (.slice s35b s35l s35c) w38 fun w39 =>
  sto (a2.add 3) (.slice s36b s36l s36c) w39 fun w40 =>
  ldI .i64 a2 w40 fun nr_41 =>
  ldI .i64 (a2.add 1) w40 fun nr_42 =>
  ldS (a2.add 2) w40 fun sr_43b sr_43l sr_43c =>
  ldS (a2.add 3) w40 fun sr_44b sr_44l sr_44c =>
  R (.tuple #[(.pointer none), (.agg #[(.int .i64 nr_41), (.int .i64 nr_42), (.slice sr_43b sr_43l sr_43c), (.slice sr_44b sr_44l sr_44c)])]) w40) else (
  J20 [] w19))) ∧ ∀ _ : Env, ∀ w45 : World, J20 [] w45 →
  ∃ (I46 : List Value → World → Prop) (m47 : List Value → World → Nat), I46 [(.int .i64 (0 : Int))] w45 ∧
  ∀ _ : Env, ∀ n48 : Int, ∀ w49 : World, I46 [(.int .i64 n48)] w49 →
  bif (decide (n48 < (sl_1l : Int))) then (
  bif (decide (n48 < (50 : Int))) then (
  ldI .i64 a14 w49.drew fun n50 =>
  ldI .i64 (a14.add 1) w49.drew fun n51 =>
  ldS (a14.add 2) w49.drew fun s52b s52l s52c =>
  ldS (a14.add 3) w49.drew fun s53b s53l s53c =>
  ixS sl_1b sl_1l n48 5 fun a54 =>
  ldI .i64 a54 w49.drew fun n55 =>
  ldI .i64 (a54.add 1) w49.drew fun n56 =>
  ldI .i64 (a54.add 2) w49.drew fun n57 =>
  ldI .i64 (a54.add 3) w49.drew fun n58 =>
  ldI .i64 (a54.add 4) w49.drew fun n59 =>
  Calls Pg fn_plaitlaw14_do #[(.pointer p4), (.agg #[(.int .i64 n50), (.int .i64 n51), (.slice s52b s52l s52c), (.slice s53b s53l s53c)]), (.agg #[(.int .i64 n55), (.int .i64 n56), (.int .i64 n57), (.int .i64 n58), (.int .i64 n59)])] w49.drew fun e66 w65 => ∃ n60 : Int, ∃ n61 : Int, ∃ s62b : Option Addr, ∃ s62l : Nat, ∃ s62c : Nat, ∃ s63b : Option Addr, ∃ s63l : Nat, ∃ s63c : Nat, ∃ b64 : Bool, e66 = .returned (.tuple #[(.agg #[(.int .i64 n60), (.int .i64 n61), (.slice s62b s62l s62c), (.slice s63b s63l s63c)]), (.bool b64)]) ∧
  sto a14 (.int .i64 n60) w65 fun w67 =>
  sto (a14.add 1) (.int .i64 n61) w67 fun w68 =>
  sto (a14.add 2) (.slice s62b s62l s62c) w68 fun w69 =>
  sto (a14.add 3) (.slice s63b s63l s63c) w69 fun w70 =>
  (I46 [(.int .i64 (IntKind.wrap .i64 (n48 + (1 : Int))))] w70 ∧ m47 [(.int .i64 (IntKind.wrap .i64 (n48 + (1 : Int))))] w70 < m47 [(.int .i64 n48)] w49)) else (
  ldI .i64 a14 w49.drew fun n71 =>
  ldI .i64 (a14.add 1) w49.drew fun n72 =>
  ldS (a14.add 2) w49.drew fun s73b s73l s73c =>
  ldS (a14.add 3) w49.drew fun s74b s74l s74c =>
  sto a2 (.int .i64 n71) w49.drew fun w75 =>
  sto (a2.add 1) (.int .i64 n72) w75 fun w76 =>
  sto (a2.add 2) (.slice s73b s73l s73c) w76 fun w77 =>
  sto (a2.add 3) (.slice s74b s74l s74c) w77 fun w78 =>
  ldI .i64 a2 w78 fun nr_79 =>
  ldI .i64 (a2.add 1) w78 fun nr_80 =>
  ldS (a2.add 2) w78 fun sr_81b sr_81l sr_81c =>
  ldS (a2.add 3) w78 fun sr_82b sr_82l sr_82c =>
  R (.tuple #[(.pointer p4), (.agg #[(.int .i64 nr_79), (.int .i64 nr_80), (.slice sr_81b sr_81l sr_81c), (.slice sr_82b sr_82l sr_82c)])]) w78)) else (
  ldI .i64 a14 w49.drew fun n83 =>
  ldI .i64 (a14.add 1) w49.drew fun n84 =>
  ldS (a14.add 2) w49.drew fun s85b s85l s85c =>
  ldS (a14.add 3) w49.drew fun s86b s86l s86c =>
  sto a2 (.int .i64 n83) w49.drew fun w87 =>
  sto (a2.add 1) (.int .i64 n84) w87 fun w88 =>
  sto (a2.add 2) (.slice s85b s85l s85c) w88 fun w89 =>
  sto (a2.add 3) (.slice s86b s86l s86c) w89 fun w90 =>
  ldI .i64 a2 w90 fun nr_91 =>
  ldI .i64 (a2.add 1) w90 fun nr_92 =>
  ldS (a2.add 2) w90 fun sr_93b sr_93l sr_93c =>
  ldS (a2.add 3) w90 fun sr_94b sr_94l sr_94c =>
  R (.tuple #[(.pointer p4), (.agg #[(.int .i64 nr_91), (.int .i64 nr_92), (.slice sr_93b sr_93l sr_93c), (.slice sr_94b sr_94l sr_94c)])]) w90)
theorem eq_plaitlaw14_grown (nm_0 : Int) (sl_1b : Option Addr) (sl_1l : Nat) (sl_1c : Nat) (w : World) (R : Value → World → Prop) : sh_plaitlaw14_grown nm_0 sl_1b sl_1l sl_1c w R = denR Pg Eall Tryz.f7 (.seq (.leaf) (.seq (.leaf) (.seq (.leaf) (.join [] [] (.seq (.leaf) (.cond (.seq (.reg (.tk 0 [2] [2] (.tk 1 [] [] (.one 2 (.fin))))) (.leaf)) (.leaf))) (.seq (.seq (.leaf) (.block (.loop [9] [.one (.int .i64)] (.seq (.seq (.leaf) (.cond (.leaf) (.leaf))) (.seq (.block (.reg (.tk 0 [] [] (.tk 1 [6, 7, 8, 9, 10] [6, 10] (.tk 2 [] [] (.tk 3 [] [] (.tk 4 [] [] (.tk 5 [6, 7, 8, 9, 10] [6, 10] (.one 6 (.tk 7 [] [] (.tk 8 [] [] (.tk 9 [] [] (.one 10 (.fin)))))))))))))) (.leaf)))))) (.seq (.reg (.tk 0 [] [] (.tk 1 [3] [3] (.tk 2 [] [] (.one 3 (.fin)))))) (.leaf))))))) [(.int .i64 nm_0), (.slice sl_1b sl_1l sl_1c)] w R := by kernel_rfl
theorem calls_plaitlaw14_grown (nm_0 : Int) (sl_1b : Option Addr) (sl_1l : Nat) (sl_1c : Nat) (w : World) (R : Value → World → Prop) (h : sh_plaitlaw14_grown nm_0 sl_1b sl_1l sl_1c w R) : Calls Pg fn_plaitlaw14_grown #[(.int .i64 nm_0), (.slice sl_1b sl_1l sl_1c)] w fun e w' => ∃ v, e = .returned v ∧ R v w' :=
  calls_of_denR Eall_enter wide_mixed Tryz.func7 (by rw [← eq_plaitlaw14_grown]; exact h)

/-- 'plait/plaitlaw14.sure' -/
def sh_plaitlaw14_sure (w : World) (R : Value → World → Prop) : Prop :=
  Calls Pg fn_web_New #[(.int .i64 (3 : Int)), (.int .i64 (2 : Int))] w fun e3 w2 => ∃ p0 : Option Addr, ∃ v1 : Value, e3 = .returned (.tuple #[(.pointer p0), v1]) ∧
  ∃ J4 : List Value → World → Prop, (
  isI v1 ∧ bif (!(nilI v1)) then (
  R (.bool false) w2) else (
  bif (Option.isNone p0) then (
  R (.bool false) w2) else (
  Calls Pg fn_web_Web_Merge #[(.pointer p0), (.int .i64 (0 : Int)), (.int .i64 (1 : Int))] w2 fun e7 w6 => ∃ v5 : Value, e7 = .returned v5 ∧
  isI v5 ∧ bif (!(nilI v5)) then (
  R (.bool false) w6) else (
  Calls Pg fn_web_Web_Tie #[(.pointer p0), (.int .i64 (0 : Int)), (.int .i64 (1 : Int)), (.int .i64 (2 : Int)), (.int .i64 (7 : Int))] w6 fun e10 w9 => ∃ v8 : Value, e10 = .returned v8 ∧
  isI v8 ∧ bif (!(nilI v8)) then (
  R (.bool false) w9) else (
  J4 [] w9))))) ∧ ∀ _ : Env, ∀ w11 : World, J4 [] w11 →
  Calls Pg fn_web_Web_Weakest #[(.pointer p0), (.int .i64 (0 : Int)), (.int .i64 (2 : Int))] w11 fun e15 w14 => ∃ n12 : Int, ∃ v13 : Value, e15 = .returned (.tuple #[(.int .i64 n12), v13]) ∧
  isI v13 ∧ bif (nilI v13) then (
  bif (n12 == (0 : Int)) then (
  Calls Pg fn_web_Web_Merge #[(.pointer p0), (.int .i64 (0 : Int)), (.int .i64 (2 : Int))] w14 fun e18 w17 => ∃ v16 : Value, e18 = .returned v16 ∧
  Calls Pg fn_plaitlaw14_num #[v16] w17 fun e21 w20 => ∃ n19 : Int, e21 = .returned (.int .i64 n19) ∧
  bif (n19 == (20 : Int)) then (
  Calls Pg fn_web_Web_Tied #[(.pointer p0), (.int .i64 (0 : Int))] w20 fun e24 w23 => ∃ b22 : Bool, e24 = .returned (.bool b22) ∧
  R (.bool b22) w23) else (
  R (.bool false) w20)) else (
  R (.bool false) w14)) else (
  R (.bool false) w14)
theorem eq_plaitlaw14_sure (w : World) (R : Value → World → Prop) : sh_plaitlaw14_sure w R = denF Pg Eall Tryz.f10 (.seq (.leaf) (.seq (.leaf) (.join [] [] (.seq (.leaf) (.cond (.seq (.leaf) (.leaf)) (.leaf))) (.seq (.leaf) (.seq (.leaf) (.leaf)))))) [] w R := by kernel_rfl
theorem calls_plaitlaw14_sure (w : World) (R : Value → World → Prop) (h : sh_plaitlaw14_sure w R) : Calls Pg fn_plaitlaw14_sure #[] w fun e w' => ∃ v, e = .returned v ∧ R v w' :=
  calls_of_den Eall_enter wide_mixed Tryz.func10 (by rw [← eq_plaitlaw14_sure]; exact h)

/-- 'plait/plaitlaw14.num' -/
def sh_plaitlaw14_num (ve_0 : Value) (w : World) (R : Value → World → Prop) : Prop :=
  alo #[(.int .i64 (0 : Int))] T_api_Errno w fun a1 w2 =>
  isI ve_0 ∧ bif (nilI ve_0) then (
  R (.int .i64 (0 : Int)) w2) else (
  Calls Pg fn_errors_As #[ve_0, (.iface T_p_api_Errno (.pointer (some a1)))] w2 fun e5 w4 => ∃ b3 : Bool, e5 = .returned (.bool b3) ∧
  bif b3 then (
  ldI .i64 a1 w4 fun n6 =>
  R (.int .i64 n6) w4) else (
  R (.int .i64 (-1 : Int)) w4))
theorem eq_plaitlaw14_num (ve_0 : Value) (w : World) (R : Value → World → Prop) : sh_plaitlaw14_num ve_0 w R = denF Pg Eall Tryz.f11 (.seq (.leaf) (.seq (.leaf) (.seq (.seq (.leaf) (.cond (.seq (.leaf) (.leaf)) (.leaf))) (.seq (.seq (.leaf) (.cond (.seq (.leaf) (.leaf)) (.leaf))) (.seq (.leaf) (.leaf)))))) [ve_0] w R := by kernel_rfl
theorem calls_plaitlaw14_num (ve_0 : Value) (w : World) (R : Value → World → Prop) (h : sh_plaitlaw14_num ve_0 w R) : Calls Pg fn_plaitlaw14_num #[ve_0] w fun e w' => ∃ v, e = .returned v ∧ R v w' :=
  calls_of_den Eall_enter wide_mixed Tryz.func11 (by rw [← eq_plaitlaw14_num]; exact h)

/-- 'plait/plaitlaw14.do' -/
def sh_plaitlaw14_do (pw_0 : Option Addr) (nx_1 : Int) (nx_2 : Int) (sx_3b : Option Addr) (sx_3l : Nat) (sx_3c : Nat) (sx_4b : Option Addr) (sx_4l : Nat) (sx_4c : Nat) (na_5 : Int) (na_6 : Int) (na_7 : Int) (na_8 : Int) (na_9 : Int) (w : World) (R : Value → World → Prop) : Prop :=
  alo #[(.int .i64 nx_1), (.int .i64 nx_2), (.slice sx_3b sx_3l sx_3c), (.slice sx_4b sx_4l sx_4c)] T_plaitref14_Web w fun a10 w11 =>
  alo #[(.int .i64 na_5), (.int .i64 na_6), (.int .i64 na_7), (.int .i64 na_8), (.int .i64 na_9)] T_plaitlaw14_Act w11 fun a12 w13 =>
  alo #[(.int .i64 (0 : Int)), (.int .i64 (0 : Int)), (.slice none 0 0), (.slice none 0 0)] T_plaitref14_Web w13 fun a14 w15 =>
  ∃ J16 : List Value → World → Prop, (
  ldI .i64 a12 w15 fun n17 =>
  (8 : Int) ≠ 0 ∧ ∃ J18 : List Value → World → Prop, (
  bif ((IntKind.wrap .i64 (Int.tmod (IntKind.wrap .u64 n17) (8 : Int))) == (2 : Int)) then (
  J18 [(.bool ((IntKind.wrap .i64 (Int.tmod (IntKind.wrap .u64 n17) (8 : Int))) == (2 : Int)))] w15) else (
  J18 [(.bool ((IntKind.wrap .i64 (Int.tmod (IntKind.wrap .u64 n17) (8 : Int))) == (3 : Int)))] w15)) ∧ ∀ _ : Env, ∀ b19 : Bool, ∀ w20 : World, J18 [(.bool b19)] w20 →
  bif b19 then (
  ldI .i64 a10 w20 fun n21 =>
  ldI .i64 (a10.add 1) w20 fun n22 =>
  ldS (a10.add 2) w20 fun s23b s23l s23c =>
  ldS (a10.add 3) w20 fun s24b s24l s24c =>
  ldI .i64 (a12.add 1) w20 fun n25 =>
  ldI .i64 (a12.add 2) w20 fun n26 =>
  Calls Pg fn_plaitref14_Split #[(.agg #[(.int .i64 n21), (.int .i64 n22), (.slice s23b s23l s23c), (.slice s24b s24l s24c)]), (.int .i64 n25), (.int .i64 n26)] w20 fun e33 w32 => ∃ n27 : Int, ∃ n28 : Int, ∃ s29b : Option Addr, ∃ s29l : Nat, ∃ s29c : Nat, ∃ s30b : Option Addr, ∃ s30l : Nat, ∃ s30c : Nat, ∃ n31 : Int, e33 = .returned (.tuple #[(.agg #[(.int .i64 n27), (.int .i64 n28), (.slice s29b s29l s29c), (.slice s30b s30l s30c)]), (.int .i64 n31)]) ∧
  alo #[(.int .i64 (0 : Int)), (.int .i64 (0 : Int)), (.slice none 0 0), (.slice none 0 0)] T_plaitref14_Web w32 fun a34 w35 =>
  sto a34 (.int .i64 n27) w35 fun w36 =>
  sto (a34.add 1) (.int .i64 n28) w36 fun w37 =>
  sto (a34.add 2) (.slice s29b s29l s29c) w37 fun w38 =>
  sto (a34.add 3) (.slice s30b s30l s30c) w38 fun w39 =>
  ldI .i64 a34 w39.drew fun n40 =>
  ldI .i64 (a34.add 1) w39.drew fun n41 =>
  ldS (a34.add 2) w39.drew fun s42b s42l s42c =>
  ldS (a34.add 3) w39.drew fun s43b s43l s43c =>
  ldI .i64 (a12.add 1) w39.drew fun n44 =>
  ldI .i64 (a12.add 2) w39.drew fun n45 =>
  Calls Pg fn_web_Web_Split #[(.pointer pw_0), (.int .i64 n44), (.int .i64 n45)] w39.drew fun e48 w47 => ∃ v46 : Value, e48 = .returned v46 ∧
  w47.cell? a34 = some (.int .i64 n40) ∧ w47.cell? (a34.add 1) = some (.int .i64 n41) ∧ w47.cell? (a34.add 2) = some (.slice s42b s42l s42c) ∧ w47.cell? (a34.add 3) = some (.slice s43b s43l s43c) ∧ Calls Pg fn_plaitlaw14_num #[v46] w47 fun e51 w50 => ∃ n49 : Int, e51 = .returned (.int .i64 n49) ∧
  w50.cell? a34 = some (.int .i64 n40) ∧ w50.cell? (a34.add 1) = some (.int .i64 n41) ∧ w50.cell? (a34.add 2) = some (.slice s42b s42l s42c) ∧ w50.cell? (a34.add 3) = some (.slice s43b s43l s43c) ∧ sto a14 (.int .i64 n40) w50 fun w52 =>
  sto (a14.add 1) (.int .i64 n41) w52 fun w53 =>
  sto (a14.add 2) (.slice s42b s42l s42c) w53 fun w54 =>
  sto (a14.add 3) (.slice s43b s43l s43c) w54 fun w55 =>
  ldI .i64 a14 w55 fun nr_56 =>
  ldI .i64 (a14.add 1) w55 fun nr_57 =>
  ldS (a14.add 2) w55 fun sr_58b sr_58l sr_58c =>
  ldS (a14.add 3) w55 fun sr_59b sr_59l sr_59c =>
  R (.tuple #[(.agg #[(.int .i64 nr_56), (.int .i64 nr_57), (.slice sr_58b sr_58l sr_58c), (.slice sr_59b sr_59l sr_59c)]), (.bool (n49 == n31))]) w55) else (
  bif ((IntKind.wrap .i64 (Int.tmod (IntKind.wrap .u64 n17) (8 : Int))) == (4 : Int)) then (
  ldI .i64 a10 w20 fun n60 =>
  ldI .i64 (a10.add 1) w20 fun n61 =>
  ldS (a10.add 2) w20 fun s62b s62l s62c =>
  ldS (a10.add 3) w20 fun s63b s63l s63c =>
  ldI .i64 (a12.add 1) w20 fun n64 =>
  Calls Pg fn_plaitref14_Apart #[(.agg #[(.int .i64 n60), (.int .i64 n61), (.slice s62b s62l s62c), (.slice s63b s63l s63c)]), (.int .i64 n64)] w20 fun e71 w70 => ∃ n65 : Int, ∃ n66 : Int, ∃ s67b : Option Addr, ∃ s67l : Nat, ∃ s67c : Nat, ∃ s68b : Option Addr, ∃ s68l : Nat, ∃ s68c : Nat, ∃ n69 : Int, e71 = .returned (.tuple #[(.agg #[(.int .i64 n65), (.int .i64 n66), (.slice s67b s67l s67c), (.slice s68b s68l s68c)]), (.int .i64 n69)]) ∧
  alo #[(.int .i64 (0 : Int)), (.int .i64 (0 : Int)), (.slice none 0 0), (.slice none 0 0)] T_plaitref14_Web w70 fun a72 w73 =>
  sto a72 (.int .i64 n65) w73 fun w74 =>
  sto (a72.add 1) (.int .i64 n66) w74 fun w75 =>
  sto (a72.add 2) (.slice s67b s67l s67c) w75 fun w76 =>
  sto (a72.add 3) (.slice s68b s68l s68c) w76 fun w77 =>
  ldI .i64 a72 w77.drew fun n78 =>
  ldI .i64 (a72.add 1) w77.drew fun n79 =>
  ldS (a72.add 2) w77.drew fun s80b s80l s80c =>
  ldS (a72.add 3) w77.drew fun s81b s81l s81c =>
  ldI .i64 (a12.add 1) w77.drew fun n82 =>
  Calls Pg fn_web_Web_Apart #[(.pointer pw_0), (.int .i64 n82)] w77.drew fun e85 w84 => ∃ v83 : Value, e85 = .returned v83 ∧
  w84.cell? a72 = some (.int .i64 n78) ∧ w84.cell? (a72.add 1) = some (.int .i64 n79) ∧ w84.cell? (a72.add 2) = some (.slice s80b s80l s80c) ∧ w84.cell? (a72.add 3) = some (.slice s81b s81l s81c) ∧ Calls Pg fn_plaitlaw14_num #[v83] w84 fun e88 w87 => ∃ n86 : Int, e88 = .returned (.int .i64 n86) ∧
  w87.cell? a72 = some (.int .i64 n78) ∧ w87.cell? (a72.add 1) = some (.int .i64 n79) ∧ w87.cell? (a72.add 2) = some (.slice s80b s80l s80c) ∧ w87.cell? (a72.add 3) = some (.slice s81b s81l s81c) ∧ sto a14 (.int .i64 n78) w87 fun w89 =>
  sto (a14.add 1) (.int .i64 n79) w89 fun w90 =>
  sto (a14.add 2) (.slice s80b s80l s80c) w90 fun w91 =>
  sto (a14.add 3) (.slice s81b s81l s81c) w91 fun w92 =>
  ldI .i64 a14 w92 fun nr_93 =>
  ldI .i64 (a14.add 1) w92 fun nr_94 =>
  ldS (a14.add 2) w92 fun sr_95b sr_95l sr_95c =>
  ldS (a14.add 3) w92 fun sr_96b sr_96l sr_96c =>
  R (.tuple #[(.agg #[(.int .i64 nr_93), (.int .i64 nr_94), (.slice sr_95b sr_95l sr_95c), (.slice sr_96b sr_96l sr_96c)]), (.bool (n86 == n69))]) w92) else (
  ∃ J97 : List Value → World → Prop, (
  bif ((IntKind.wrap .i64 (Int.tmod (IntKind.wrap .u64 n17) (8 : Int))) == (5 : Int)) then (
  J97 [(.bool ((IntKind.wrap .i64 (Int.tmod (IntKind.wrap .u64 n17) (8 : Int))) == (5 : Int)))] w20) else (
  J97 [(.bool ((IntKind.wrap .i64 (Int.tmod (IntKind.wrap .u64 n17) (8 : Int))) == (6 : Int)))] w20)) ∧ ∀ _ : Env, ∀ b98 : Bool, ∀ w99 : World, J97 [(.bool b98)] w99 →
  bif b98 then (
  ldI .i64 a10 w99 fun n100 =>
  ldI .i64 (a10.add 1) w99 fun n101 =>
  ldS (a10.add 2) w99 fun s102b s102l s102c =>
  ldS (a10.add 3) w99 fun s103b s103l s103c =>
  ldI .i64 (a12.add 3) w99 fun n104 =>
  ldI .i64 (a12.add 1) w99 fun n105 =>
  ldI .i64 (a12.add 2) w99 fun n106 =>
  ldI .i64 (a12.add 4) w99 fun n107 =>
  Calls Pg fn_plaitref14_Add #[(.agg #[(.int .i64 n100), (.int .i64 n101), (.slice s102b s102l s102c), (.slice s103b s103l s103c)]), (.agg #[(.int .i64 n104), (.int .i64 n105), (.int .i64 n106), (.int .i64 n107)])] w99 fun e114 w113 => ∃ n108 : Int, ∃ n109 : Int, ∃ s110b : Option Addr, ∃ s110l : Nat, ∃ s110c : Nat, ∃ s111b : Option Addr, ∃ s111l : Nat, ∃ s111c : Nat, ∃ n112 : Int, e114 = .returned (.tuple #[(.agg #[(.int .i64 n108), (.int .i64 n109), (.slice s110b s110l s110c), (.slice s111b s111l s111c)]), (.int .i64 n112)]) ∧
  alo #[(.int .i64 (0 : Int)), (.int .i64 (0 : Int)), (.slice none 0 0), (.slice none 0 0)] T_plaitref14_Web w113 fun a115 w116 =>
  sto a115 (.int .i64 n108) w116 fun w117 =>
  sto (a115.add 1) (.int .i64 n109) w117 fun w118 =>
  sto (a115.add 2) (.slice s110b s110l s110c) w118 fun w119 =>
  sto (a115.add 3) (.slice s111b s111l s111c) w119 fun w120 =>
  ldI .i64 a115 w120.drew fun n121 =>
  ldI .i64 (a115.add 1) w120.drew fun n122 =>
  ldS (a115.add 2) w120.drew fun s123b s123l s123c =>
  ldS (a115.add 3) w120.drew fun s124b s124l s124c =>
  ldI .i64 (a12.add 3) w120.drew fun n125 =>
  ldI .i64 (a12.add 1) w120.drew fun n126 =>
  ldI .i64 (a12.add 2) w120.drew fun n127 =>
  ldI .i64 (a12.add 4) w120.drew fun n128 =>
  Calls Pg fn_web_Web_Tie #[(.pointer pw_0), (.int .i64 n125), (.int .i64 n126), (.int .i64 n127), (.int .i64 n128)] w120.drew fun e131 w130 => ∃ v129 : Value, e131 = .returned v129 ∧
  w130.cell? a115 = some (.int .i64 n121) ∧ w130.cell? (a115.add 1) = some (.int .i64 n122) ∧ w130.cell? (a115.add 2) = some (.slice s123b s123l s123c) ∧ w130.cell? (a115.add 3) = some (.slice s124b s124l s124c) ∧ Calls Pg fn_plaitlaw14_num #[v129] w130 fun e134 w133 => ∃ n132 : Int, e134 = .returned (.int .i64 n132) ∧
  w133.cell? a115 = some (.int .i64 n121) ∧ w133.cell? (a115.add 1) = some (.int .i64 n122) ∧ w133.cell? (a115.add 2) = some (.slice s123b s123l s123c) ∧ w133.cell? (a115.add 3) = some (.slice s124b s124l s124c) ∧ sto a14 (.int .i64 n121) w133 fun w135 =>
  sto (a14.add 1) (.int .i64 n122) w135 fun w136 =>
  sto (a14.add 2) (.slice s123b s123l s123c) w136 fun w137 =>
  sto (a14.add 3) (.slice s124b s124l s124c) w137 fun w138 =>
  ldI .i64 a14 w138 fun nr_139 =>
  ldI .i64 (a14.add 1) w138 fun nr_140 =>
  ldS (a14.add 2) w138 fun sr_141b sr_141l sr_141c =>
  ldS (a14.add 3) w138 fun sr_142b sr_142l sr_142c =>
  R (.tuple #[(.agg #[(.int .i64 nr_139), (.int .i64 nr_140), (.slice sr_141b sr_141l sr_141c), (.slice sr_142b sr_142l sr_142c)]), (.bool (n132 == n112))]) w138) else (
  bif ((IntKind.wrap .i64 (Int.tmod (IntKind.wrap .u64 n17) (8 : Int))) == (7 : Int)) then (
  ldI .i64 a10 w99 fun n143 =>
  ldI .i64 (a10.add 1) w99 fun n144 =>
  ldS (a10.add 2) w99 fun s145b s145l s145c =>
  ldS (a10.add 3) w99 fun s146b s146l s146c =>
  ldI .i64 (a12.add 3) w99 fun n147 =>
  Calls Pg fn_plaitref14_Drop #[(.agg #[(.int .i64 n143), (.int .i64 n144), (.slice s145b s145l s145c), (.slice s146b s146l s146c)]), (.int .i64 n147)] w99 fun e154 w153 => ∃ n148 : Int, ∃ n149 : Int, ∃ s150b : Option Addr, ∃ s150l : Nat, ∃ s150c : Nat, ∃ s151b : Option Addr, ∃ s151l : Nat, ∃ s151c : Nat, ∃ n152 : Int, e154 = .returned (.tuple #[(.agg #[(.int .i64 n148), (.int .i64 n149), (.slice s150b s150l s150c), (.slice s151b s151l s151c)]), (.int .i64 n152)]) ∧
  alo #[(.int .i64 (0 : Int)), (.int .i64 (0 : Int)), (.slice none 0 0), (.slice none 0 0)] T_plaitref14_Web w153 fun a155 w156 =>
  sto a155 (.int .i64 n148) w156 fun w157 =>
  sto (a155.add 1) (.int .i64 n149) w157 fun w158 =>
  sto (a155.add 2) (.slice s150b s150l s150c) w158 fun w159 =>
  sto (a155.add 3) (.slice s151b s151l s151c) w159 fun w160 =>
  ldI .i64 a155 w160.drew fun n161 =>
  ldI .i64 (a155.add 1) w160.drew fun n162 =>
  ldS (a155.add 2) w160.drew fun s163b s163l s163c =>
  ldS (a155.add 3) w160.drew fun s164b s164l s164c =>
  ldI .i64 (a12.add 3) w160.drew fun n165 =>
  Calls Pg fn_web_Web_Untie #[(.pointer pw_0), (.int .i64 n165)] w160.drew fun e168 w167 => ∃ v166 : Value, e168 = .returned v166 ∧
  w167.cell? a155 = some (.int .i64 n161) ∧ w167.cell? (a155.add 1) = some (.int .i64 n162) ∧ w167.cell? (a155.add 2) = some (.slice s163b s163l s163c) ∧ w167.cell? (a155.add 3) = some (.slice s164b s164l s164c) ∧ Calls Pg fn_plaitlaw14_num #[v166] w167 fun e171 w170 => ∃ n169 : Int, e171 = .returned (.int .i64 n169) ∧
  w170.cell? a155 = some (.int .i64 n161) ∧ w170.cell? (a155.add 1) = some (.int .i64 n162) ∧ w170.cell? (a155.add 2) = some (.slice s163b s163l s163c) ∧ w170.cell? (a155.add 3) = some (.slice s164b s164l s164c) ∧ sto a14 (.int .i64 n161) w170 fun w172 =>
  sto (a14.add 1) (.int .i64 n162) w172 fun w173 =>
  sto (a14.add 2) (.slice s163b s163l s163c) w173 fun w174 =>
  sto (a14.add 3) (.slice s164b s164l s164c) w174 fun w175 =>
  ldI .i64 a14 w175 fun nr_176 =>
  ldI .i64 (a14.add 1) w175 fun nr_177 =>
  ldS (a14.add 2) w175 fun sr_178b sr_178l sr_178c =>
  ldS (a14.add 3) w175 fun sr_179b sr_179l sr_179c =>
  R (.tuple #[(.agg #[(.int .i64 nr_176), (.int .i64 nr_177), (.slice sr_178b sr_178l sr_178c), (.slice sr_179b sr_179l sr_179c)]), (.bool (n169 == n152))]) w175) else (
  J16 [] w99))))) ∧ ∀ _ : Env, ∀ w180 : World, J16 [] w180 →
  ldI .i64 a10 w180 fun n181 =>
  ldI .i64 (a10.add 1) w180 fun n182 =>
  ldS (a10.add 2) w180 fun s183b s183l s183c =>
  ldS (a10.add 3) w180 fun s184b s184l s184c =>
  ldI .i64 (a12.add 1) w180 fun n185 =>
  ldI .i64 (a12.add 2) w180 fun n186 =>
  Calls Pg fn_plaitref14_Merge #[(.agg #[(.int .i64 n181), (.int .i64 n182), (.slice s183b s183l s183c), (.slice s184b s184l s184c)]), (.int .i64 n185), (.int .i64 n186)] w180 fun e193 w192 => ∃ n187 : Int, ∃ n188 : Int, ∃ s189b : Option Addr, ∃ s189l : Nat, ∃ s189c : Nat, ∃ s190b : Option Addr, ∃ s190l : Nat, ∃ s190c : Nat, ∃ n191 : Int, e193 = .returned (.tuple #[(.agg #[(.int .i64 n187), (.int .i64 n188), (.slice s189b s189l s189c), (.slice s190b s190l s190c)]), (.int .i64 n191)]) ∧
  alo #[(.int .i64 (0 : Int)), (.int .i64 (0 : Int)), (.slice none 0 0), (.slice none 0 0)] T_plaitref14_Web w192 fun a194 w195 =>
  sto a194 (.int .i64 n187) w195 fun w196 =>
  sto (a194.add 1) (.int .i64 n188) w196 fun w197 =>
  sto (a194.add 2) (.slice s189b s189l s189c) w197 fun w198 =>
  sto (a194.add 3) (.slice s190b s190l s190c) w198 fun w199 =>
  ldI .i64 a194 w199.drew fun n200 =>
  ldI .i64 (a194.add 1) w199.drew fun n201 =>
  ldS (a194.add 2) w199.drew fun s202b s202l s202c =>
  ldS (a194.add 3) w199.drew fun s203b s203l s203c =>
  ldI .i64 (a12.add 1) w199.drew fun n204 =>
  ldI .i64 (a12.add 2) w199.drew fun n205 =>
  Calls Pg fn_web_Web_Merge #[(.pointer pw_0), (.int .i64 n204), (.int .i64 n205)] w199.drew fun e208 w207 => ∃ v206 : Value, e208 = .returned v206 ∧
  w207.cell? a194 = some (.int .i64 n200) ∧ w207.cell? (a194.add 1) = some (.int .i64 n201) ∧ w207.cell? (a194.add 2) = some (.slice s202b s202l s202c) ∧ w207.cell? (a194.add 3) = some (.slice s203b s203l s203c) ∧ Calls Pg fn_plaitlaw14_num #[v206] w207 fun e211 w210 => ∃ n209 : Int, e211 = .returned (.int .i64 n209) ∧
  w210.cell? a194 = some (.int .i64 n200) ∧ w210.cell? (a194.add 1) = some (.int .i64 n201) ∧ w210.cell? (a194.add 2) = some (.slice s202b s202l s202c) ∧ w210.cell? (a194.add 3) = some (.slice s203b s203l s203c) ∧ sto a14 (.int .i64 n200) w210 fun w212 =>
  sto (a14.add 1) (.int .i64 n201) w212 fun w213 =>
  sto (a14.add 2) (.slice s202b s202l s202c) w213 fun w214 =>
  sto (a14.add 3) (.slice s203b s203l s203c) w214 fun w215 =>
  ldI .i64 a14 w215 fun nr_216 =>
  ldI .i64 (a14.add 1) w215 fun nr_217 =>
  ldS (a14.add 2) w215 fun sr_218b sr_218l sr_218c =>
  ldS (a14.add 3) w215 fun sr_219b sr_219l sr_219c =>
  R (.tuple #[(.agg #[(.int .i64 nr_216), (.int .i64 nr_217), (.slice sr_218b sr_218l sr_218c), (.slice sr_219b sr_219l sr_219c)]), (.bool (n209 == n191))]) w215
theorem eq_plaitlaw14_do (pw_0 : Option Addr) (nx_1 : Int) (nx_2 : Int) (sx_3b : Option Addr) (sx_3l : Nat) (sx_3c : Nat) (sx_4b : Option Addr) (sx_4l : Nat) (sx_4c : Nat) (na_5 : Int) (na_6 : Int) (na_7 : Int) (na_8 : Int) (na_9 : Int) (w : World) (R : Value → World → Prop) : sh_plaitlaw14_do pw_0 nx_1 nx_2 sx_3b sx_3l sx_3c sx_4b sx_4l sx_4c na_5 na_6 na_7 na_8 na_9 w R = denR Pg Eall Tryz.f19 (.seq (.leaf) (.join [] [] (.seq (.leaf) (.block (.join [23] [.one (.bool)] (.seq (.leaf) (.cond (.leaf) (.leaf))) (.cond (.seq (.leaf) (.seq (.reg (.tk 0 [10, 11] [10] (.tk 1 [] [] (.tk 2 [] [] (.tk 3 [6, 7, 9, 10, 11] [6, 7, 10] (.tk 4 [] [] (.tk 5 [6, 7, 9, 10, 11] [6, 7, 10] (.tk 8 [] [] (.one 6 (.one 7 (.tk 9 [] [] (.one 10 (.tk 11 [] [] (.fin)))))))))))))) (.leaf))) (.seq (.leaf) (.cond (.seq (.leaf) (.seq (.reg (.tk 0 [8, 9] [8] (.tk 1 [] [] (.tk 2 [] [] (.tk 3 [4, 5, 7, 8, 9] [4, 5, 8] (.tk 6 [] [] (.one 4 (.one 5 (.tk 7 [] [] (.one 8 (.tk 9 [] [] (.fin)))))))))))) (.leaf))) (.join [62] [.one (.bool)] (.seq (.leaf) (.cond (.leaf) (.leaf))) (.cond (.seq (.leaf) (.seq (.reg (.tk 0 [14, 15] [14] (.tk 1 [] [] (.tk 2 [] [] (.tk 3 [10, 11, 13, 14, 15] [10, 11, 14] (.tk 4 [] [] (.tk 5 [10, 11, 13, 14, 15] [10, 11, 14] (.tk 6 [] [] (.tk 7 [10, 11, 13, 14, 15] [10, 11, 14] (.tk 8 [] [] (.tk 9 [10, 11, 13, 14, 15] [10, 11, 14] (.tk 12 [] [] (.one 10 (.one 11 (.tk 13 [] [] (.one 14 (.tk 15 [] [] (.fin)))))))))))))))))) (.leaf))) (.seq (.leaf) (.cond (.seq (.leaf) (.seq (.reg (.tk 0 [8, 9] [8] (.tk 1 [] [] (.tk 2 [] [] (.tk 3 [4, 5, 7, 8, 9] [4, 5, 8] (.tk 6 [] [] (.one 4 (.one 5 (.tk 7 [] [] (.one 8 (.tk 9 [] [] (.fin)))))))))))) (.leaf))) (.leaf))))))))))) (.seq (.leaf) (.seq (.reg (.tk 0 [10, 11] [10] (.tk 1 [] [] (.tk 2 [] [] (.tk 3 [6, 7, 9, 10, 11] [6, 7, 10] (.tk 4 [] [] (.tk 5 [6, 7, 9, 10, 11] [6, 7, 10] (.tk 8 [] [] (.one 6 (.one 7 (.tk 9 [] [] (.one 10 (.tk 11 [] [] (.fin)))))))))))))) (.leaf))))) [(.pointer pw_0), (.agg #[(.int .i64 nx_1), (.int .i64 nx_2), (.slice sx_3b sx_3l sx_3c), (.slice sx_4b sx_4l sx_4c)]), (.agg #[(.int .i64 na_5), (.int .i64 na_6), (.int .i64 na_7), (.int .i64 na_8), (.int .i64 na_9)])] w R := by kernel_rfl
theorem calls_plaitlaw14_do (pw_0 : Option Addr) (nx_1 : Int) (nx_2 : Int) (sx_3b : Option Addr) (sx_3l : Nat) (sx_3c : Nat) (sx_4b : Option Addr) (sx_4l : Nat) (sx_4c : Nat) (na_5 : Int) (na_6 : Int) (na_7 : Int) (na_8 : Int) (na_9 : Int) (w : World) (R : Value → World → Prop) (h : sh_plaitlaw14_do pw_0 nx_1 nx_2 sx_3b sx_3l sx_3c sx_4b sx_4l sx_4c na_5 na_6 na_7 na_8 na_9 w R) : Calls Pg fn_plaitlaw14_do #[(.pointer pw_0), (.agg #[(.int .i64 nx_1), (.int .i64 nx_2), (.slice sx_3b sx_3l sx_3c), (.slice sx_4b sx_4l sx_4c)]), (.agg #[(.int .i64 na_5), (.int .i64 na_6), (.int .i64 na_7), (.int .i64 na_8), (.int .i64 na_9)])] w fun e w' => ∃ v, e = .returned v ∧ R v w' :=
  calls_of_denR Eall_enter wide_mixed Tryz.func19 (by rw [← eq_plaitlaw14_do]; exact h)

/-- 'plait/plaitlaw14.ints' -/
def sh_plaitlaw14_ints (sa_0b : Option Addr) (sa_0l : Nat) (sa_0c : Nat) (sb_1b : Option Addr) (sb_1l : Nat) (sb_1c : Nat) (w : World) (R : Value → World → Prop) : Prop :=
  bif ((sa_0l : Int) != (sb_1l : Int)) then (
  R (.bool false) w) else (
  ∃ (I2 : List Value → World → Prop) (m3 : List Value → World → Nat), I2 [(.int .i64 (0 : Int))] w ∧
  ∀ _ : Env, ∀ n4 : Int, ∀ w5 : World, I2 [(.int .i64 n4)] w5 →
  bif (decide (n4 < (sa_0l : Int))) then (
  ixS sa_0b sa_0l n4 1 fun a6 =>
  ldI .i64 a6 w5.drew fun n7 =>
  ixS sb_1b sb_1l n4 1 fun a8 =>
  ldI .i64 a8 w5.drew fun n9 =>
  bif (n7 != n9) then (
  R (.bool false) w5.drew) else (
  (I2 [(.int .i64 (IntKind.wrap .i64 (n4 + (1 : Int))))] w5.drew ∧ m3 [(.int .i64 (IntKind.wrap .i64 (n4 + (1 : Int))))] w5.drew < m3 [(.int .i64 n4)] w5))) else (
  R (.bool true) w5))
theorem eq_plaitlaw14_ints (sa_0b : Option Addr) (sa_0l : Nat) (sa_0c : Nat) (sb_1b : Option Addr) (sb_1l : Nat) (sb_1c : Nat) (w : World) (R : Value → World → Prop) : sh_plaitlaw14_ints sa_0b sa_0l sa_0c sb_1b sb_1l sb_1c w R = denF Pg Eall Tryz.f23 (.seq (.leaf) (.seq (.seq (.leaf) (.cond (.seq (.leaf) (.leaf)) (.leaf))) (.seq (.seq (.leaf) (.block (.loop [5] [.one (.int .i64)] (.seq (.seq (.leaf) (.cond (.leaf) (.leaf))) (.seq (.block (.seq (.reg (.tk 0 [] [] (.tk 1 [] [] (.tk 2 [] [] (.tk 3 [] [] (.tk 4 [] [] (.tk 5 [] [] (.tk 6 [] [] (.tk 7 [] [] (.tk 8 [] [] (.fin))))))))))) (.cond (.seq (.leaf) (.leaf)) (.leaf)))) (.leaf)))))) (.seq (.leaf) (.leaf))))) [(.slice sa_0b sa_0l sa_0c), (.slice sb_1b sb_1l sb_1c)] w R := by kernel_rfl
theorem calls_plaitlaw14_ints (sa_0b : Option Addr) (sa_0l : Nat) (sa_0c : Nat) (sb_1b : Option Addr) (sb_1l : Nat) (sb_1c : Nat) (w : World) (R : Value → World → Prop) (h : sh_plaitlaw14_ints sa_0b sa_0l sa_0c sb_1b sb_1l sb_1c w R) : Calls Pg fn_plaitlaw14_ints #[(.slice sa_0b sa_0l sa_0c), (.slice sb_1b sb_1l sb_1c)] w fun e w' => ∃ v, e = .returned v ∧ R v w' :=
  calls_of_den Eall_enter wide_mixed Tryz.func23 (by rw [← eq_plaitlaw14_ints]; exact h)

/-- 'plait/plaitlaw14.told' -/
def sh_plaitlaw14_told (pw_0 : Option Addr) (nx_1 : Int) (nx_2 : Int) (sx_3b : Option Addr) (sx_3l : Nat) (sx_3c : Nat) (sx_4b : Option Addr) (sx_4l : Nat) (sx_4c : Nat) (na_5 : Int) (nb_6 : Int) (w : World) (R : Value → World → Prop) : Prop :=
  alo #[(.int .i64 nx_1), (.int .i64 nx_2), (.slice sx_3b sx_3l sx_3c), (.slice sx_4b sx_4l sx_4c)] T_plaitref14_Web w fun a7 w8 =>
  Calls Pg fn_web_Web_Linked #[(.pointer pw_0), (.int .i64 na_5), (.int .i64 nb_6)] w8 fun e12 w11 => ∃ b9 : Bool, ∃ v10 : Value, e12 = .returned (.tuple #[(.bool b9), v10]) ∧
  Calls Pg fn_web_Web_Weakest #[(.pointer pw_0), (.int .i64 na_5), (.int .i64 nb_6)] w11 fun e16 w15 => ∃ n13 : Int, ∃ v14 : Value, e16 = .returned (.tuple #[(.int .i64 n13), v14]) ∧
  ldI .i64 a7 w15 fun n17 =>
  ldI .i64 (a7.add 1) w15 fun n18 =>
  ldS (a7.add 2) w15 fun s19b s19l s19c =>
  ldS (a7.add 3) w15 fun s20b s20l s20c =>
  Calls Pg fn_plaitref14_Weakest #[(.agg #[(.int .i64 n17), (.int .i64 n18), (.slice s19b s19l s19c), (.slice s20b s20l s20c)]), (.int .i64 na_5), (.int .i64 nb_6)] w15 fun e24 w23 => ∃ n21 : Int, ∃ n22 : Int, e24 = .returned (.tuple #[(.int .i64 n21), (.int .i64 n22)]) ∧
  ∃ J25 : List Value → World → Prop, (
  Calls Pg fn_plaitlaw14_num #[v14] w23 fun e28 w27 => ∃ n26 : Int, e28 = .returned (.int .i64 n26) ∧
  bif (n26 != n22) then (
  R (.bool false) w27) else (
  bif (n13 != n21) then (
  R (.bool false) w27) else (
  J25 [] w27))) ∧ ∀ _ : Env, ∀ w29 : World, J25 [] w29 →
  bif (n22 == (12 : Int)) then (
  Calls Pg fn_plaitlaw14_num #[v10] w29 fun e32 w31 => ∃ n30 : Int, e32 = .returned (.int .i64 n30) ∧
  R (.bool (n30 == (12 : Int))) w31) else (
  Calls Pg fn_web_Web_Walk #[(.pointer pw_0), (.int .i64 na_5)] w29 fun e36 w35 => ∃ s33b : Option Addr, ∃ s33l : Nat, ∃ s33c : Nat, ∃ v34 : Value, e36 = .returned (.tuple #[(.slice s33b s33l s33c), v34]) ∧
  Calls Pg fn_web_Web_Len #[(.pointer pw_0), (.int .i64 na_5)] w35 fun e40 w39 => ∃ n37 : Int, ∃ v38 : Value, e40 = .returned (.tuple #[(.int .i64 n37), v38]) ∧
  Calls Pg fn_web_Web_Same #[(.pointer pw_0), (.int .i64 na_5), (.int .i64 nb_6)] w39 fun e44 w43 => ∃ b41 : Bool, ∃ v42 : Value, e44 = .returned (.tuple #[(.bool b41), v42]) ∧
  ldS (a7.add 2) w43 fun s45b s45l s45c =>
  Calls Pg fn_plaitref04_Find #[(.slice s45b s45l s45c), (.int .i64 na_5)] w43 fun e49 w48 => ∃ n46 : Int, ∃ n47 : Int, e49 = .returned (.tuple #[(.int .i64 n46), (.int .i64 n47)]) ∧
  ldS (a7.add 2) w48 fun s50b s50l s50c =>
  Calls Pg fn_plaitref04_Find #[(.slice s50b s50l s50c), (.int .i64 nb_6)] w48 fun e54 w53 => ∃ n51 : Int, ∃ n52 : Int, e54 = .returned (.tuple #[(.int .i64 n51), (.int .i64 n52)]) ∧
  isI v10 ∧ bif (nilI v10) then (
  isI v34 ∧ bif (nilI v34) then (
  isI v38 ∧ bif (nilI v38) then (
  isI v42 ∧ bif (nilI v42) then (
  bif (b9 == (n22 == (0 : Int))) then (
  ldS (a7.add 2) w53 fun s55b s55l s55c =>
  Calls Pg fn_plaitref05_Walk #[(.slice s55b s55l s55c), (.int .i64 na_5)] w53 fun e58 w57 => ∃ s56b : Option Addr, ∃ s56l : Nat, ∃ s56c : Nat, e58 = .returned (.slice s56b s56l s56c) ∧
  Calls Pg fn_plaitlaw14_ints #[(.slice s33b s33l s33c), (.slice s56b s56l s56c)] w57 fun e61 w60 => ∃ b59 : Bool, e61 = .returned (.bool b59) ∧
  bif b59 then (
  ldS (a7.add 2) w60 fun s62b s62l s62c =>
  ixS s62b s62l n46 1 fun a63 =>
  ldS a63 w60 fun s64b s64l s64c =>
  bif (n37 == (s64l : Int)) then (
  R (.bool (b41 == (n46 == n51))) w60) else (
  R (.bool false) w60)) else (
  R (.bool false) w60)) else (
  R (.bool false) w53)) else (
  R (.bool false) w53)) else (
  R (.bool false) w53)) else (
  R (.bool false) w53)) else (
  R (.bool false) w53))
theorem eq_plaitlaw14_told (pw_0 : Option Addr) (nx_1 : Int) (nx_2 : Int) (sx_3b : Option Addr) (sx_3l : Nat) (sx_3c : Nat) (sx_4b : Option Addr) (sx_4l : Nat) (sx_4c : Nat) (na_5 : Int) (nb_6 : Int) (w : World) (R : Value → World → Prop) : sh_plaitlaw14_told pw_0 nx_1 nx_2 sx_3b sx_3l sx_3c sx_4b sx_4l sx_4c na_5 nb_6 w R = denF Pg Eall Tryz.f24 (.seq (.leaf) (.seq (.leaf) (.seq (.leaf) (.seq (.leaf) (.join [] [] (.seq (.leaf) (.cond (.seq (.leaf) (.leaf)) (.leaf))) (.seq (.seq (.leaf) (.cond (.seq (.leaf) (.leaf)) (.leaf))) (.seq (.leaf) (.seq (.leaf) (.seq (.leaf) (.seq (.leaf) (.seq (.leaf) (.seq (.leaf) (.leaf))))))))))))) [(.pointer pw_0), (.agg #[(.int .i64 nx_1), (.int .i64 nx_2), (.slice sx_3b sx_3l sx_3c), (.slice sx_4b sx_4l sx_4c)]), (.int .i64 na_5), (.int .i64 nb_6)] w R := by kernel_rfl
theorem calls_plaitlaw14_told (pw_0 : Option Addr) (nx_1 : Int) (nx_2 : Int) (sx_3b : Option Addr) (sx_3l : Nat) (sx_3c : Nat) (sx_4b : Option Addr) (sx_4l : Nat) (sx_4c : Nat) (na_5 : Int) (nb_6 : Int) (w : World) (R : Value → World → Prop) (h : sh_plaitlaw14_told pw_0 nx_1 nx_2 sx_3b sx_3l sx_3c sx_4b sx_4l sx_4c na_5 nb_6 w R) : Calls Pg fn_plaitlaw14_told #[(.pointer pw_0), (.agg #[(.int .i64 nx_1), (.int .i64 nx_2), (.slice sx_3b sx_3l sx_3c), (.slice sx_4b sx_4l sx_4c)]), (.int .i64 na_5), (.int .i64 nb_6)] w fun e w' => ∃ v, e = .returned v ∧ R v w' :=
  calls_of_den Eall_enter wide_mixed Tryz.func24 (by rw [← eq_plaitlaw14_told]; exact h)

end Go.Proofs.YtaoemljoiahapaaGreatDoor
