/-
What each function does, as one formula, printed by a program of this session out of the translation; the kernel holds each print against the translation.
Conditions: none.
-/
import Derived.Test.YtaoemljoiahapaaGreatDoorSn
import Derived.Test.YtaoemljoiahapaaGreatDoorLexE
namespace Go.Proofs.YtaoemljoiahapaaGreatDoor
open Go
set_option linter.unusedVariables false
set_option maxRecDepth 100000
/-- 'plait/plaitref14.At' -/
def sh_plaitref14_At (nw_0 : Int) (nw_1 : Int) (sw_2b : Option Addr) (sw_2l : Nat) (sw_2c : Nat) (sw_3b : Option Addr) (sw_3l : Nat) (sw_3c : Nat) (ne_4 : Int) (w : World) (R : Value → World → Prop) : Prop :=
  alo #[(.int .i64 nw_0), (.int .i64 nw_1), (.slice sw_2b sw_2l sw_2c), (.slice sw_3b sw_3l sw_3c)] T_plaitref14_Web w fun a5 w6 =>
  ∃ (I7 : List Value → World → Prop) (m8 : List Value → World → Nat), I7 [(.int .i64 (0 : Int))] w6 ∧
  ∀ _ : Env, ∀ n9 : Int, ∀ w10 : World, I7 [(.int .i64 n9)] w10 →
  ldS (a5.add 3) w10 fun s11b s11l s11c =>
  bif (decide (n9 < (s11l : Int))) then (
  ldS (a5.add 3) w10 fun s12b s12l s12c =>
  ixS s12b s12l n9 4 fun a13 =>
  ldI .i64 a13 w10 fun n14 =>
  bif (n14 == ne_4) then (
  R (.int .i64 n9) w10) else (
  (I7 [(.int .i64 (IntKind.wrap .i64 (n9 + (1 : Int))))] w10 ∧ m8 [(.int .i64 (IntKind.wrap .i64 (n9 + (1 : Int))))] w10 < m8 [(.int .i64 n9)] w10))) else (
  R (.int .i64 (-1 : Int)) w10)
theorem eq_plaitref14_At (nw_0 : Int) (nw_1 : Int) (sw_2b : Option Addr) (sw_2l : Nat) (sw_2c : Nat) (sw_3b : Option Addr) (sw_3l : Nat) (sw_3c : Nat) (ne_4 : Int) (w : World) (R : Value → World → Prop) : sh_plaitref14_At nw_0 nw_1 sw_2b sw_2l sw_2c sw_3b sw_3l sw_3c ne_4 w R = denF Pg Eall Tryz.f16 (.seq (.leaf) (.seq (.seq (.leaf) (.block (.loop [5] [.one (.int .i64)] (.seq (.seq (.leaf) (.cond (.leaf) (.leaf))) (.seq (.block (.seq (.leaf) (.cond (.seq (.leaf) (.leaf)) (.leaf)))) (.leaf)))))) (.seq (.leaf) (.leaf)))) [(.agg #[(.int .i64 nw_0), (.int .i64 nw_1), (.slice sw_2b sw_2l sw_2c), (.slice sw_3b sw_3l sw_3c)]), (.int .i64 ne_4)] w R := by kernel_rfl
theorem calls_plaitref14_At (nw_0 : Int) (nw_1 : Int) (sw_2b : Option Addr) (sw_2l : Nat) (sw_2c : Nat) (sw_3b : Option Addr) (sw_3l : Nat) (sw_3c : Nat) (ne_4 : Int) (w : World) (R : Value → World → Prop) (h : sh_plaitref14_At nw_0 nw_1 sw_2b sw_2l sw_2c sw_3b sw_3l sw_3c ne_4 w R) : Calls Pg fn_plaitref14_At #[(.agg #[(.int .i64 nw_0), (.int .i64 nw_1), (.slice sw_2b sw_2l sw_2c), (.slice sw_3b sw_3l sw_3c)]), (.int .i64 ne_4)] w fun e w' => ∃ v, e = .returned v ∧ R v w' :=
  calls_of_den Eall_enter wide_mixed Tryz.func16 (by rw [← eq_plaitref14_At]; exact h)

/-- 'plait/plaitref14.New' -/
def sh_plaitref14_New (nn_0 : Int) (nm_1 : Int) (w : World) (R : Value → World → Prop) : Prop :=
  alo #[(.int .i64 (0 : Int)), (.int .i64 (0 : Int)), (.slice none 0 0), (.slice none 0 0)] T_plaitref14_Web w fun a2 w3 =>
  Calls Pg fn_plaitref04_New #[(.int .i64 nn_0)] w3 fun e6 w5 => ∃ s4b : Option Addr, ∃ s4l : Nat, ∃ s4c : Nat, e6 = .returned (.slice s4b s4l s4c) ∧
  sto a2 (.int .i64 nn_0) w5 fun w7 =>
  sto (a2.add 1) (.int .i64 nm_1) w7 fun w8 =>
  sto (a2.add 2) (.slice s4b s4l s4c) w8 fun w9 =>
  sto (a2.add 3) (.slice none 0 0) w9 fun w10 =>
  ldI .i64 a2 w10 fun nr_11 =>
  ldI .i64 (a2.add 1) w10 fun nr_12 =>
  ldS (a2.add 2) w10 fun sr_13b sr_13l sr_13c =>
  ldS (a2.add 3) w10 fun sr_14b sr_14l sr_14c =>
  R (.agg #[(.int .i64 nr_11), (.int .i64 nr_12), (.slice sr_13b sr_13l sr_13c), (.slice sr_14b sr_14l sr_14c)]) w10
theorem eq_plaitref14_New (nn_0 : Int) (nm_1 : Int) (w : World) (R : Value → World → Prop) : sh_plaitref14_New nn_0 nm_1 w R = denR Pg Eall Tryz.f18 (.seq (.leaf) (.seq (.leaf) (.leaf))) [(.int .i64 nn_0), (.int .i64 nm_1)] w R := by kernel_rfl
theorem calls_plaitref14_New (nn_0 : Int) (nm_1 : Int) (w : World) (R : Value → World → Prop) (h : sh_plaitref14_New nn_0 nm_1 w R) : Calls Pg fn_plaitref14_New #[(.int .i64 nn_0), (.int .i64 nm_1)] w fun e w' => ∃ v, e = .returned v ∧ R v w' :=
  calls_of_denR Eall_enter wide_mixed Tryz.func18 (by rw [← eq_plaitref14_New]; exact h)

/-- 'plait/plaitref14.Split' -/
def sh_plaitref14_Split (nw_0 : Int) (nw_1 : Int) (sw_2b : Option Addr) (sw_2l : Nat) (sw_2c : Nat) (sw_3b : Option Addr) (sw_3l : Nat) (sw_3c : Nat) (na_4 : Int) (nb_5 : Int) (w : World) (R : Value → World → Prop) : Prop :=
  alo #[(.int .i64 nw_0), (.int .i64 nw_1), (.slice sw_2b sw_2l sw_2c), (.slice sw_3b sw_3l sw_3c)] T_plaitref14_Web w fun a6 w7 =>
  alo #[(.int .i64 (0 : Int)), (.int .i64 (0 : Int)), (.slice none 0 0), (.slice none 0 0)] T_plaitref14_Web w7 fun a8 w9 =>
  ldI .i64 a6 w9 fun n10 =>
  ldI .i64 (a6.add 1) w9 fun n11 =>
  ldS (a6.add 2) w9 fun s12b s12l s12c =>
  ldS (a6.add 3) w9 fun s13b s13l s13c =>
  Calls Pg fn_plaitref14_In #[(.agg #[(.int .i64 n10), (.int .i64 n11), (.slice s12b s12l s12c), (.slice s13b s13l s13c)]), (.int .i64 na_4), (.int .i64 nb_5)] w9 fun e16 w15 => ∃ b14 : Bool, e16 = .returned (.bool b14) ∧
  bif (!b14) then (
  ldI .i64 a6 w15 fun n17 =>
  ldI .i64 (a6.add 1) w15 fun n18 =>
  ldS (a6.add 2) w15 fun s19b s19l s19c =>
  ldS (a6.add 3) w15 fun s20b s20l s20c =>
  sto a8 (.int .i64 n17) w15 fun w21 =>
  sto (a8.add 1) (.int .i64 n18) w21 fun w22 =>
  sto (a8.add 2) (.slice s19b s19l s19c) w22 fun w23 =>
  sto (a8.add 3) (.slice s20b s20l s20c) w23 fun w24 =>
  ldI .i64 a8 w24 fun nr_25 =>
  ldI .i64 (a8.add 1) w24 fun nr_26 =>
  ldS (a8.add 2) w24 fun sr_27b sr_27l sr_27c =>
  ldS (a8.add 3) w24 fun sr_28b sr_28l sr_28c =>
  R (.tuple #[(.agg #[(.int .i64 nr_25), (.int .i64 nr_26), (.slice sr_27b sr_27l sr_27c), (.slice sr_28b sr_28l sr_28c)]), (.int .i64 (12 : Int))]) w24) else (
  ldS (a6.add 2) w15 fun s29b s29l s29c =>
  Calls Pg fn_plaitref05_Split #[(.slice s29b s29l s29c), (.int .i64 na_4), (.int .i64 nb_5)] w15 fun e33 w32 => ∃ s30b : Option Addr, ∃ s30l : Nat, ∃ s30c : Nat, ∃ n31 : Int, e33 = .returned (.tuple #[(.slice s30b s30l s30c), (.int .i64 n31)]) ∧
  sto (a6.add 2) (.slice s30b s30l s30c) w32 fun w34 =>
  ldI .i64 a6 w34 fun n35 =>
  ldI .i64 (a6.add 1) w34 fun n36 =>
  ldS (a6.add 2) w34 fun s37b s37l s37c =>
  ldS (a6.add 3) w34 fun s38b s38l s38c =>
  sto a8 (.int .i64 n35) w34 fun w39 =>
  sto (a8.add 1) (.int .i64 n36) w39 fun w40 =>
  sto (a8.add 2) (.slice s37b s37l s37c) w40 fun w41 =>
  sto (a8.add 3) (.slice s38b s38l s38c) w41 fun w42 =>
  ldI .i64 a8 w42 fun nr_43 =>
  ldI .i64 (a8.add 1) w42 fun nr_44 =>
  ldS (a8.add 2) w42 fun sr_45b sr_45l sr_45c =>
  ldS (a8.add 3) w42 fun sr_46b sr_46l sr_46c =>
  R (.tuple #[(.agg #[(.int .i64 nr_43), (.int .i64 nr_44), (.slice sr_45b sr_45l sr_45c), (.slice sr_46b sr_46l sr_46c)]), (.int .i64 n31)]) w42)
theorem eq_plaitref14_Split (nw_0 : Int) (nw_1 : Int) (sw_2b : Option Addr) (sw_2l : Nat) (sw_2c : Nat) (sw_3b : Option Addr) (sw_3l : Nat) (sw_3c : Nat) (na_4 : Int) (nb_5 : Int) (w : World) (R : Value → World → Prop) : sh_plaitref14_Split nw_0 nw_1 sw_2b sw_2l sw_2c sw_3b sw_3l sw_3c na_4 nb_5 w R = denR Pg Eall Tryz.f38 (.seq (.leaf) (.seq (.seq (.leaf) (.cond (.seq (.leaf) (.leaf)) (.leaf))) (.seq (.leaf) (.seq (.leaf) (.seq (.leaf) (.leaf)))))) [(.agg #[(.int .i64 nw_0), (.int .i64 nw_1), (.slice sw_2b sw_2l sw_2c), (.slice sw_3b sw_3l sw_3c)]), (.int .i64 na_4), (.int .i64 nb_5)] w R := by kernel_rfl
theorem calls_plaitref14_Split (nw_0 : Int) (nw_1 : Int) (sw_2b : Option Addr) (sw_2l : Nat) (sw_2c : Nat) (sw_3b : Option Addr) (sw_3l : Nat) (sw_3c : Nat) (na_4 : Int) (nb_5 : Int) (w : World) (R : Value → World → Prop) (h : sh_plaitref14_Split nw_0 nw_1 sw_2b sw_2l sw_2c sw_3b sw_3l sw_3c na_4 nb_5 w R) : Calls Pg fn_plaitref14_Split #[(.agg #[(.int .i64 nw_0), (.int .i64 nw_1), (.slice sw_2b sw_2l sw_2c), (.slice sw_3b sw_3l sw_3c)]), (.int .i64 na_4), (.int .i64 nb_5)] w fun e w' => ∃ v, e = .returned v ∧ R v w' :=
  calls_of_denR Eall_enter wide_mixed Tryz.func38 (by rw [← eq_plaitref14_Split]; exact h)

/-- 'plait/plaitref14.Apart' -/
def sh_plaitref14_Apart (nw_0 : Int) (nw_1 : Int) (sw_2b : Option Addr) (sw_2l : Nat) (sw_2c : Nat) (sw_3b : Option Addr) (sw_3l : Nat) (sw_3c : Nat) (nx_4 : Int) (w : World) (R : Value → World → Prop) : Prop :=
  alo #[(.int .i64 nw_0), (.int .i64 nw_1), (.slice sw_2b sw_2l sw_2c), (.slice sw_3b sw_3l sw_3c)] T_plaitref14_Web w fun a5 w6 =>
  alo #[(.int .i64 (0 : Int)), (.int .i64 (0 : Int)), (.slice none 0 0), (.slice none 0 0)] T_plaitref14_Web w6 fun a7 w8 =>
  ldI .i64 a5 w8 fun n9 =>
  ldI .i64 (a5.add 1) w8 fun n10 =>
  ldS (a5.add 2) w8 fun s11b s11l s11c =>
  ldS (a5.add 3) w8 fun s12b s12l s12c =>
  Calls Pg fn_plaitref14_In #[(.agg #[(.int .i64 n9), (.int .i64 n10), (.slice s11b s11l s11c), (.slice s12b s12l s12c)]), (.int .i64 nx_4), (.int .i64 nx_4)] w8 fun e15 w14 => ∃ b13 : Bool, e15 = .returned (.bool b13) ∧
  bif (!b13) then (
  ldI .i64 a5 w14 fun n16 =>
  ldI .i64 (a5.add 1) w14 fun n17 =>
  ldS (a5.add 2) w14 fun s18b s18l s18c =>
  ldS (a5.add 3) w14 fun s19b s19l s19c =>
  sto a7 (.int .i64 n16) w14 fun w20 =>
  sto (a7.add 1) (.int .i64 n17) w20 fun w21 =>
  sto (a7.add 2) (.slice s18b s18l s18c) w21 fun w22 =>
  sto (a7.add 3) (.slice s19b s19l s19c) w22 fun w23 =>
  ldI .i64 a7 w23 fun nr_24 =>
  ldI .i64 (a7.add 1) w23 fun nr_25 =>
  ldS (a7.add 2) w23 fun sr_26b sr_26l sr_26c =>
  ldS (a7.add 3) w23 fun sr_27b sr_27l sr_27c =>
  R (.tuple #[(.agg #[(.int .i64 nr_24), (.int .i64 nr_25), (.slice sr_26b sr_26l sr_26c), (.slice sr_27b sr_27l sr_27c)]), (.int .i64 (12 : Int))]) w23) else (
  ldS (a5.add 2) w14 fun s28b s28l s28c =>
  Calls Pg fn_plaitref05_Apart #[(.slice s28b s28l s28c), (.int .i64 nx_4)] w14 fun e32 w31 => ∃ s29b : Option Addr, ∃ s29l : Nat, ∃ s29c : Nat, ∃ n30 : Int, e32 = .returned (.tuple #[(.slice s29b s29l s29c), (.int .i64 n30)]) ∧
  sto (a5.add 2) (.slice s29b s29l s29c) w31 fun w33 =>
  ldI .i64 a5 w33 fun n34 =>
  ldI .i64 (a5.add 1) w33 fun n35 =>
  ldS (a5.add 2) w33 fun s36b s36l s36c =>
  ldS (a5.add 3) w33 fun s37b s37l s37c =>
  sto a7 (.int .i64 n34) w33 fun w38 =>
  sto (a7.add 1) (.int .i64 n35) w38 fun w39 =>
  sto (a7.add 2) (.slice s36b s36l s36c) w39 fun w40 =>
  sto (a7.add 3) (.slice s37b s37l s37c) w40 fun w41 =>
  ldI .i64 a7 w41 fun nr_42 =>
  ldI .i64 (a7.add 1) w41 fun nr_43 =>
  ldS (a7.add 2) w41 fun sr_44b sr_44l sr_44c =>
  ldS (a7.add 3) w41 fun sr_45b sr_45l sr_45c =>
  R (.tuple #[(.agg #[(.int .i64 nr_42), (.int .i64 nr_43), (.slice sr_44b sr_44l sr_44c), (.slice sr_45b sr_45l sr_45c)]), (.int .i64 n30)]) w41)
theorem eq_plaitref14_Apart (nw_0 : Int) (nw_1 : Int) (sw_2b : Option Addr) (sw_2l : Nat) (sw_2c : Nat) (sw_3b : Option Addr) (sw_3l : Nat) (sw_3c : Nat) (nx_4 : Int) (w : World) (R : Value → World → Prop) : sh_plaitref14_Apart nw_0 nw_1 sw_2b sw_2l sw_2c sw_3b sw_3l sw_3c nx_4 w R = denR Pg Eall Tryz.f39 (.seq (.leaf) (.seq (.seq (.leaf) (.cond (.seq (.leaf) (.leaf)) (.leaf))) (.seq (.leaf) (.seq (.leaf) (.seq (.leaf) (.leaf)))))) [(.agg #[(.int .i64 nw_0), (.int .i64 nw_1), (.slice sw_2b sw_2l sw_2c), (.slice sw_3b sw_3l sw_3c)]), (.int .i64 nx_4)] w R := by kernel_rfl
theorem calls_plaitref14_Apart (nw_0 : Int) (nw_1 : Int) (sw_2b : Option Addr) (sw_2l : Nat) (sw_2c : Nat) (sw_3b : Option Addr) (sw_3l : Nat) (sw_3c : Nat) (nx_4 : Int) (w : World) (R : Value → World → Prop) (h : sh_plaitref14_Apart nw_0 nw_1 sw_2b sw_2l sw_2c sw_3b sw_3l sw_3c nx_4 w R) : Calls Pg fn_plaitref14_Apart #[(.agg #[(.int .i64 nw_0), (.int .i64 nw_1), (.slice sw_2b sw_2l sw_2c), (.slice sw_3b sw_3l sw_3c)]), (.int .i64 nx_4)] w fun e w' => ∃ v, e = .returned v ∧ R v w' :=
  calls_of_denR Eall_enter wide_mixed Tryz.func39 (by rw [← eq_plaitref14_Apart]; exact h)

/-- 'plait/plaitref14.Add' -/
def sh_plaitref14_Add (nw_0 : Int) (nw_1 : Int) (sw_2b : Option Addr) (sw_2l : Nat) (sw_2c : Nat) (sw_3b : Option Addr) (sw_3l : Nat) (sw_3c : Nat) (nt_4 : Int) (nt_5 : Int) (nt_6 : Int) (nt_7 : Int) (w : World) (R : Value → World → Prop) : Prop :=
  alo #[(.int .i64 nw_0), (.int .i64 nw_1), (.slice sw_2b sw_2l sw_2c), (.slice sw_3b sw_3l sw_3c)] T_plaitref14_Web w fun a8 w9 =>
  alo #[(.int .i64 nt_4), (.int .i64 nt_5), (.int .i64 nt_6), (.int .i64 nt_7)] T_plaitref14_Tie w9 fun a10 w11 =>
  alo #[(.int .i64 (0 : Int)), (.int .i64 (0 : Int)), (.slice none 0 0), (.slice none 0 0)] T_plaitref14_Web w11 fun a12 w13 =>
  ldI .i64 a10 w13 fun n14 =>
  bif (decide (n14 < (0 : Int))) then (
  ldI .i64 a8 w13 fun n15 =>
  ldI .i64 (a8.add 1) w13 fun n16 =>
  ldS (a8.add 2) w13 fun s17b s17l s17c =>
  ldS (a8.add 3) w13 fun s18b s18l s18c =>
  sto a12 (.int .i64 n15) w13 fun w19 =>
  sto (a12.add 1) (.int .i64 n16) w19 fun w20 =>
  sto (a12.add 2) (.slice s17b s17l s17c) w20 fun w21 =>
  sto (a12.add 3) (.slice s18b s18l s18c) w21 fun w22 =>
  ldI .i64 a12 w22 fun nr_23 =>
  ldI .i64 (a12.add 1) w22 fun nr_24 =>
  ldS (a12.add 2) w22 fun sr_25b sr_25l sr_25c =>
  ldS (a12.add 3) w22 fun sr_26b sr_26l sr_26c =>
  R (.tuple #[(.agg #[(.int .i64 nr_23), (.int .i64 nr_24), (.slice sr_25b sr_25l sr_25c), (.slice sr_26b sr_26l sr_26c)]), (.int .i64 (12 : Int))]) w22) else (
  ldI .i64 a10 w13 fun n27 =>
  ldI .i64 (a8.add 1) w13 fun n28 =>
  bif (decide (n27 ≥ n28)) then (
  ldI .i64 a8 w13 fun n29 =>
  ldI .i64 (a8.add 1) w13 fun n30 =>
  ldS (a8.add 2) w13 fun s31b s31l s31c =>
  ldS (a8.add 3) w13 fun s32b s32l s32c =>
  sto a12 (.int .i64 n29) w13 fun w33 =>
  sto (a12.add 1) (.int .i64 n30) w33 fun w34 =>
  sto (a12.add 2) (.slice s31b s31l s31c) w34 fun w35 =>
  sto (a12.add 3) (.slice s32b s32l s32c) w35 fun w36 =>
  ldI .i64 a12 w36 fun nr_37 =>
  ldI .i64 (a12.add 1) w36 fun nr_38 =>
  ldS (a12.add 2) w36 fun sr_39b sr_39l sr_39c =>
  ldS (a12.add 3) w36 fun sr_40b sr_40l sr_40c =>
  R (.tuple #[(.agg #[(.int .i64 nr_37), (.int .i64 nr_38), (.slice sr_39b sr_39l sr_39c), (.slice sr_40b sr_40l sr_40c)]), (.int .i64 (12 : Int))]) w36) else (
  ldI .i64 a8 w13 fun n41 =>
  ldI .i64 (a8.add 1) w13 fun n42 =>
  ldS (a8.add 2) w13 fun s43b s43l s43c =>
  ldS (a8.add 3) w13 fun s44b s44l s44c =>
  ldI .i64 (a10.add 1) w13 fun n45 =>
  ldI .i64 (a10.add 2) w13 fun n46 =>
  Calls Pg fn_plaitref14_In #[(.agg #[(.int .i64 n41), (.int .i64 n42), (.slice s43b s43l s43c), (.slice s44b s44l s44c)]), (.int .i64 n45), (.int .i64 n46)] w13 fun e49 w48 => ∃ b47 : Bool, e49 = .returned (.bool b47) ∧
  bif (!b47) then (
  ldI .i64 a8 w48 fun n50 =>
  ldI .i64 (a8.add 1) w48 fun n51 =>
  ldS (a8.add 2) w48 fun s52b s52l s52c =>
  ldS (a8.add 3) w48 fun s53b s53l s53c =>
  sto a12 (.int .i64 n50) w48 fun w54 =>
  sto (a12.add 1) (.int .i64 n51) w54 fun w55 =>
  sto (a12.add 2) (.slice s52b s52l s52c) w55 fun w56 =>
  sto (a12.add 3) (.slice s53b s53l s53c) w56 fun w57 =>
  ldI .i64 a12 w57 fun nr_58 =>
  ldI .i64 (a12.add 1) w57 fun nr_59 =>
  ldS (a12.add 2) w57 fun sr_60b sr_60l sr_60c =>
  ldS (a12.add 3) w57 fun sr_61b sr_61l sr_61c =>
  R (.tuple #[(.agg #[(.int .i64 nr_58), (.int .i64 nr_59), (.slice sr_60b sr_60l sr_60c), (.slice sr_61b sr_61l sr_61c)]), (.int .i64 (12 : Int))]) w57) else (
  ldI .i64 (a10.add 3) w48 fun n62 =>
  bif (n62 == (9223372036854775807 : Int)) then (
  ldI .i64 a8 w48 fun n63 =>
  ldI .i64 (a8.add 1) w48 fun n64 =>
  ldS (a8.add 2) w48 fun s65b s65l s65c =>
  ldS (a8.add 3) w48 fun s66b s66l s66c =>
  sto a12 (.int .i64 n63) w48 fun w67 =>
  sto (a12.add 1) (.int .i64 n64) w67 fun w68 =>
  sto (a12.add 2) (.slice s65b s65l s65c) w68 fun w69 =>
  sto (a12.add 3) (.slice s66b s66l s66c) w69 fun w70 =>
  ldI .i64 a12 w70 fun nr_71 =>
  ldI .i64 (a12.add 1) w70 fun nr_72 =>
  ldS (a12.add 2) w70 fun sr_73b sr_73l sr_73c =>
  ldS (a12.add 3) w70 fun sr_74b sr_74l sr_74c =>
  R (.tuple #[(.agg #[(.int .i64 nr_71), (.int .i64 nr_72), (.slice sr_73b sr_73l sr_73c), (.slice sr_74b sr_74l sr_74c)]), (.int .i64 (1 : Int))]) w70) else (
  ldI .i64 a8 w48 fun n75 =>
  ldI .i64 (a8.add 1) w48 fun n76 =>
  ldS (a8.add 2) w48 fun s77b s77l s77c =>
  ldS (a8.add 3) w48 fun s78b s78l s78c =>
  ldI .i64 (a10.add 1) w48 fun n79 =>
  ldI .i64 (a10.add 2) w48 fun n80 =>
  Calls Pg fn_plaitref14_Road #[(.agg #[(.int .i64 n75), (.int .i64 n76), (.slice s77b s77l s77c), (.slice s78b s78l s78c)]), (.int .i64 n79), (.int .i64 n80)] w48 fun e84 w83 => ∃ s81b : Option Addr, ∃ s81l : Nat, ∃ s81c : Nat, ∃ b82 : Bool, e84 = .returned (.tuple #[(.slice s81b s81l s81c), (.bool b82)]) ∧
  bif b82 then (
  ldI .i64 a8 w83 fun n85 =>
  ldI .i64 (a8.add 1) w83 fun n86 =>
  ldS (a8.add 2) w83 fun s87b s87l s87c =>
  ldS (a8.add 3) w83 fun s88b s88l s88c =>
  sto a12 (.int .i64 n85) w83 fun w89 =>
  sto (a12.add 1) (.int .i64 n86) w89 fun w90 =>
  sto (a12.add 2) (.slice s87b s87l s87c) w90 fun w91 =>
  sto (a12.add 3) (.slice s88b s88l s88c) w91 fun w92 =>
  ldI .i64 a12 w92 fun nr_93 =>
  ldI .i64 (a12.add 1) w92 fun nr_94 =>
  ldS (a12.add 2) w92 fun sr_95b sr_95l sr_95c =>
  ldS (a12.add 3) w92 fun sr_96b sr_96l sr_96c =>
  R (.tuple #[(.agg #[(.int .i64 nr_93), (.int .i64 nr_94), (.slice sr_95b sr_95l sr_95c), (.slice sr_96b sr_96l sr_96c)]), (.int .i64 (20 : Int))]) w92) else (
  ldI .i64 a8 w83 fun n97 =>
  ldI .i64 (a8.add 1) w83 fun n98 =>
  ldS (a8.add 2) w83 fun s99b s99l s99c =>
  ldS (a8.add 3) w83 fun s100b s100l s100c =>
  ldI .i64 a10 w83 fun n101 =>
  Calls Pg fn_plaitref14_At #[(.agg #[(.int .i64 n97), (.int .i64 n98), (.slice s99b s99l s99c), (.slice s100b s100l s100c)]), (.int .i64 n101)] w83 fun e104 w103 => ∃ n102 : Int, e104 = .returned (.int .i64 n102) ∧
  bif (decide (n102 ≥ (0 : Int))) then (
  ldI .i64 a8 w103 fun n105 =>
  ldI .i64 (a8.add 1) w103 fun n106 =>
  ldS (a8.add 2) w103 fun s107b s107l s107c =>
  ldS (a8.add 3) w103 fun s108b s108l s108c =>
  sto a12 (.int .i64 n105) w103 fun w109 =>
  sto (a12.add 1) (.int .i64 n106) w109 fun w110 =>
  sto (a12.add 2) (.slice s107b s107l s107c) w110 fun w111 =>
  sto (a12.add 3) (.slice s108b s108l s108c) w111 fun w112 =>
  ldI .i64 a12 w112 fun nr_113 =>
  ldI .i64 (a12.add 1) w112 fun nr_114 =>
  ldS (a12.add 2) w112 fun sr_115b sr_115l sr_115c =>
  ldS (a12.add 3) w112 fun sr_116b sr_116l sr_116c =>
  R (.tuple #[(.agg #[(.int .i64 nr_113), (.int .i64 nr_114), (.slice sr_115b sr_115l sr_115c), (.slice sr_116b sr_116l sr_116c)]), (.int .i64 (20 : Int))]) w112) else (
  ldS (a8.add 3) w103.drew fun s117b s117l s117c =>
  ldI .i64 a10 w103.drew fun n118 =>
  ldI .i64 (a10.add 1) w103.drew fun n119 =>
  ldI .i64 (a10.add 2) w103.drew fun n120 =>
  ldI .i64 (a10.add 3) w103.drew fun n121 =>
  (∃ s122b : Option Addr, ∃ s122l : Nat, ∃ s122c : Nat, ∃ w123 : World, (Builtin.append_ #[T_sl_plaitref14_Tie, T_sl_plaitref14_Tie] T_sl_plaitref14_Tie #[(.slice none 0 0), (.slice s117b s117l s117c)]).run Pg w103.drew = .ok (.slice s122b s122l s122c) w123 ∧
  w123.cell? a10 = some (.int .i64 n118) ∧ w123.cell? (a10.add 1) = some (.int .i64 n119) ∧ w123.cell? (a10.add 2) = some (.int .i64 n120) ∧ w123.cell? (a10.add 3) = some (.int .i64 n121) ∧ alo #[(.int .i64 n118), (.int .i64 n119), (.int .i64 n120), (.int .i64 n121)] T_plaitref14_Tie w123 fun a124 w125 =>
  ∃ s126b : Option Addr, ∃ s126l : Nat, ∃ s126c : Nat, ∃ w127 : World, (Builtin.append_ #[T_sl_plaitref14_Tie, T_sl_plaitref14_Tie] T_sl_plaitref14_Tie #[(.slice s122b s122l s122c), (.slice (some a124) 1 1)]).run Pg w125 = .ok (.slice s126b s126l s126c) w127 ∧
  sto (a8.add 3) (.slice s126b s126l s126c) w127 fun w128 =>
  ldI .i64 a8 w128 fun n129 =>
  ldI .i64 (a8.add 1) w128 fun n130 =>
  ldS (a8.add 2) w128 fun s131b s131l s131c =>
  ldS (a8.add 3) w128 fun s132b s132l s132c =>
  sto a12 (.int .i64 n129) w128 fun w133 =>
  sto (a12.add 1) (.int .i64 n130) w133 fun w134 =>
  sto (a12.add 2) (.slice s131b s131l s131c) w134 fun w135 =>
  sto (a12.add 3) (.slice s132b s132l s132c) w135 fun w136 =>
  ldI .i64 a12 w136 fun nr_137 =>
  ldI .i64 (a12.add 1) w136 fun nr_138 =>
  ldS (a12.add 2) w136 fun sr_139b sr_139l sr_139c =>
  ldS (a12.add 3) w136 fun sr_140b sr_140l sr_140c =>
  R (.tuple #[(.agg #[(.int .i64 nr_137), (.int .i64 nr_138), (.slice sr_139b sr_139l sr_139c), (.slice sr_140b sr_140l sr_140c)]), (.int .i64 (0 : Int))]) w136) ∧ (
  alo #[(.int .i64 n118), (.int .i64 n119), (.int .i64 n120), (.int .i64 n121)] T_plaitref14_Tie w103.drew fun a141 w142 =>
  w142.cell? (a8.add 3) = some (.slice s117b s117l s117c) ∧ ∃ s143b : Option Addr, ∃ s143l : Nat, ∃ s143c : Nat, ∃ w144 : World, (Builtin.append_ #[T_sl_plaitref14_Tie, T_sl_plaitref14_Tie] T_sl_plaitref14_Tie #[(.slice none 0 0), (.slice s117b s117l s117c)]).run Pg w142 = .ok (.slice s143b s143l s143c) w144 ∧
  ∃ s145b : Option Addr, ∃ s145l : Nat, ∃ s145c : Nat, ∃ w146 : World, (Builtin.append_ #[T_sl_plaitref14_Tie, T_sl_plaitref14_Tie] T_sl_plaitref14_Tie #[(.slice s143b s143l s143c), (.slice (some a141) 1 1)]).run Pg w144 = .ok (.slice s145b s145l s145c) w146 ∧
  sto (a8.add 3) (.slice s145b s145l s145c) w146 fun w147 =>
  ldI .i64 a8 w147 fun n148 =>
  ldI .i64 (a8.add 1) w147 fun n149 =>
  ldS (a8.add 2) w147 fun s150b s150l s150c =>
  ldS (a8.add 3) w147 fun s151b s151l s151c =>
  sto a12 (.int .i64 n148) w147 fun w152 =>
  sto (a12.add 1) (.int .i64 n149) w152 fun w153 =>
  sto (a12.add 2) (.slice s150b s150l s150c) w153 fun w154 =>
  sto (a12.add 3) (.slice s151b s151l s151c) w154 fun w155 =>
  ldI .i64 a12 w155 fun nr_156 =>
  ldI .i64 (a12.add 1) w155 fun nr_157 =>
  ldS (a12.add 2) w155 fun sr_158b sr_158l sr_158c =>
  ldS (a12.add 3) w155 fun sr_159b sr_159l sr_159c =>
  R (.tuple #[(.agg #[(.int .i64 nr_156), (.int .i64 nr_157), (.slice sr_158b sr_158l sr_158c), (.slice sr_159b sr_159l sr_159c)]), (.int .i64 (0 : Int))]) w155)))))))
theorem eq_plaitref14_Add (nw_0 : Int) (nw_1 : Int) (sw_2b : Option Addr) (sw_2l : Nat) (sw_2c : Nat) (sw_3b : Option Addr) (sw_3l : Nat) (sw_3c : Nat) (nt_4 : Int) (nt_5 : Int) (nt_6 : Int) (nt_7 : Int) (w : World) (R : Value → World → Prop) : sh_plaitref14_Add nw_0 nw_1 sw_2b sw_2l sw_2c sw_3b sw_3l sw_3c nt_4 nt_5 nt_6 nt_7 w R = denR Pg Eall Tryz.f41 (.seq (.leaf) (.seq (.seq (.leaf) (.cond (.seq (.leaf) (.leaf)) (.leaf))) (.seq (.seq (.leaf) (.cond (.seq (.leaf) (.leaf)) (.leaf))) (.seq (.leaf) (.seq (.seq (.leaf) (.cond (.seq (.leaf) (.leaf)) (.leaf))) (.seq (.leaf) (.seq (.reg (.tk 0 [] [] (.tk 1 [] [] (.tk 2 [3, 6, 7, 8] [3, 6, 8] (.tk 4 [5, 6, 7, 8] [5, 6, 8] (.two 3 (.one 5 (.one 6 (.tk 7 [] [] (.one 8 (.fin))))) 5 (.one 3 (.one 6 (.tk 7 [] [] (.one 8 (.fin))))))))))) (.seq (.leaf) (.leaf))))))))) [(.agg #[(.int .i64 nw_0), (.int .i64 nw_1), (.slice sw_2b sw_2l sw_2c), (.slice sw_3b sw_3l sw_3c)]), (.agg #[(.int .i64 nt_4), (.int .i64 nt_5), (.int .i64 nt_6), (.int .i64 nt_7)])] w R := by kernel_rfl
theorem calls_plaitref14_Add (nw_0 : Int) (nw_1 : Int) (sw_2b : Option Addr) (sw_2l : Nat) (sw_2c : Nat) (sw_3b : Option Addr) (sw_3l : Nat) (sw_3c : Nat) (nt_4 : Int) (nt_5 : Int) (nt_6 : Int) (nt_7 : Int) (w : World) (R : Value → World → Prop) (h : sh_plaitref14_Add nw_0 nw_1 sw_2b sw_2l sw_2c sw_3b sw_3l sw_3c nt_4 nt_5 nt_6 nt_7 w R) : Calls Pg fn_plaitref14_Add #[(.agg #[(.int .i64 nw_0), (.int .i64 nw_1), (.slice sw_2b sw_2l sw_2c), (.slice sw_3b sw_3l sw_3c)]), (.agg #[(.int .i64 nt_4), (.int .i64 nt_5), (.int .i64 nt_6), (.int .i64 nt_7)])] w fun e w' => ∃ v, e = .returned v ∧ R v w' :=
  calls_of_denR Eall_enter wide_mixed Tryz.func41 (by rw [← eq_plaitref14_Add]; exact h)

/-- 'plait/plaitref14.Drop' -/
def sh_plaitref14_Drop (nw_0 : Int) (nw_1 : Int) (sw_2b : Option Addr) (sw_2l : Nat) (sw_2c : Nat) (sw_3b : Option Addr) (sw_3l : Nat) (sw_3c : Nat) (ne_4 : Int) (w : World) (R : Value → World → Prop) : Prop :=
  alo #[(.int .i64 nw_0), (.int .i64 nw_1), (.slice sw_2b sw_2l sw_2c), (.slice sw_3b sw_3l sw_3c)] T_plaitref14_Web w fun a5 w6 =>
  alo #[(.int .i64 (0 : Int)), (.int .i64 (0 : Int)), (.slice none 0 0), (.slice none 0 0)] T_plaitref14_Web w6 fun a7 w8 =>
  bif (decide (ne_4 < (0 : Int))) then (
  ldI .i64 a5 w8 fun n9 =>
  ldI .i64 (a5.add 1) w8 fun n10 =>
  ldS (a5.add 2) w8 fun s11b s11l s11c =>
  ldS (a5.add 3) w8 fun s12b s12l s12c =>
  sto a7 (.int .i64 n9) w8 fun w13 =>
  sto (a7.add 1) (.int .i64 n10) w13 fun w14 =>
  sto (a7.add 2) (.slice s11b s11l s11c) w14 fun w15 =>
  sto (a7.add 3) (.slice s12b s12l s12c) w15 fun w16 =>
  ldI .i64 a7 w16 fun nr_17 =>
  ldI .i64 (a7.add 1) w16 fun nr_18 =>
  ldS (a7.add 2) w16 fun sr_19b sr_19l sr_19c =>
  ldS (a7.add 3) w16 fun sr_20b sr_20l sr_20c =>
  R (.tuple #[(.agg #[(.int .i64 nr_17), (.int .i64 nr_18), (.slice sr_19b sr_19l sr_19c), (.slice sr_20b sr_20l sr_20c)]), (.int .i64 (12 : Int))]) w16) else (
  ldI .i64 (a5.add 1) w8 fun n21 =>
  bif (decide (ne_4 ≥ n21)) then (
  ldI .i64 a5 w8 fun n22 =>
  ldI .i64 (a5.add 1) w8 fun n23 =>
  ldS (a5.add 2) w8 fun s24b s24l s24c =>
  ldS (a5.add 3) w8 fun s25b s25l s25c =>
  sto a7 (.int .i64 n22) w8 fun w26 =>
  sto (a7.add 1) (.int .i64 n23) w26 fun w27 =>
  sto (a7.add 2) (.slice s24b s24l s24c) w27 fun w28 =>
  sto (a7.add 3) (.slice s25b s25l s25c) w28 fun w29 =>
  ldI .i64 a7 w29 fun nr_30 =>
  ldI .i64 (a7.add 1) w29 fun nr_31 =>
  ldS (a7.add 2) w29 fun sr_32b sr_32l sr_32c =>
  ldS (a7.add 3) w29 fun sr_33b sr_33l sr_33c =>
  R (.tuple #[(.agg #[(.int .i64 nr_30), (.int .i64 nr_31), (.slice sr_32b sr_32l sr_32c), (.slice sr_33b sr_33l sr_33c)]), (.int .i64 (12 : Int))]) w29) else (
  ldI .i64 a5 w8 fun n34 =>
  ldI .i64 (a5.add 1) w8 fun n35 =>
  ldS (a5.add 2) w8 fun s36b s36l s36c =>
  ldS (a5.add 3) w8 fun s37b s37l s37c =>
  Calls Pg fn_plaitref14_At #[(.agg #[(.int .i64 n34), (.int .i64 n35), (.slice s36b s36l s36c), (.slice s37b s37l s37c)]), (.int .i64 ne_4)] w8 fun e40 w39 => ∃ n38 : Int, e40 = .returned (.int .i64 n38) ∧
  bif (decide (n38 < (0 : Int))) then (
  ldI .i64 a5 w39 fun n41 =>
  ldI .i64 (a5.add 1) w39 fun n42 =>
  ldS (a5.add 2) w39 fun s43b s43l s43c =>
  ldS (a5.add 3) w39 fun s44b s44l s44c =>
  sto a7 (.int .i64 n41) w39 fun w45 =>
  sto (a7.add 1) (.int .i64 n42) w45 fun w46 =>
  sto (a7.add 2) (.slice s43b s43l s43c) w46 fun w47 =>
  sto (a7.add 3) (.slice s44b s44l s44c) w47 fun w48 =>
  ldI .i64 a7 w48 fun nr_49 =>
  ldI .i64 (a7.add 1) w48 fun nr_50 =>
  ldS (a7.add 2) w48 fun sr_51b sr_51l sr_51c =>
  ldS (a7.add 3) w48 fun sr_52b sr_52l sr_52c =>
  R (.tuple #[(.agg #[(.int .i64 nr_49), (.int .i64 nr_50), (.slice sr_51b sr_51l sr_51c), (.slice sr_52b sr_52l sr_52c)]), (.int .i64 (21 : Int))]) w48) else (
  ldS (a5.add 3) w39.drew fun s53b s53l s53c =>
  0 ≤ n38 ∧ n38 ≤ ((s53c : Nat) : Int) ∧ ldS (a5.add 3) w39.drew fun s54b s54l s54c =>
  0 ≤ (IntKind.wrap .i64 (n38 + (1 : Int))) ∧ (IntKind.wrap .i64 (n38 + (1 : Int))) ≤ ((s54l : Nat) : Int) ∧ ∃ s55b : Option Addr, ∃ s55l : Nat, ∃ s55c : Nat, ∃ w56 : World, (Builtin.append_ #[T_sl_plaitref14_Tie, T_sl_plaitref14_Tie] T_sl_plaitref14_Tie #[(.slice none 0 0), (.slice (if s53c = 0 then s53b else Option.map (fun a => Addr.add a (0 * 4)) s53b) ((Int.toNat n38) - 0) (s53c - 0))]).run Pg w39.drew = .ok (.slice s55b s55l s55c) w56 ∧
  w56.cell? (a5.add 3) = some (.slice s54b s54l s54c) ∧ ∃ s57b : Option Addr, ∃ s57l : Nat, ∃ s57c : Nat, ∃ w58 : World, (Builtin.append_ #[T_sl_plaitref14_Tie, T_sl_plaitref14_Tie] T_sl_plaitref14_Tie #[(.slice s55b s55l s55c), (.slice (if s54c = (Int.toNat (IntKind.wrap .i64 (n38 + (1 : Int)))) then s54b else Option.map (fun a => Addr.add a ((Int.toNat (IntKind.wrap .i64 (n38 + (1 : Int)))) * 4)) s54b) (s54l - (Int.toNat (IntKind.wrap .i64 (n38 + (1 : Int))))) (s54c - (Int.toNat (IntKind.wrap .i64 (n38 + (1 : Int))))))]).run Pg w56 = .ok (.slice s57b s57l s57c) w58 ∧
  sto (a5.add 3) (.slice s57b s57l s57c) w58 fun w59 =>
  ldI .i64 a5 w59 fun n60 =>
  ldI .i64 (a5.add 1) w59 fun n61 =>
  ldS (a5.add 2) w59 fun s62b s62l s62c =>
  ldS (a5.add 3) w59 fun s63b s63l s63c =>
  sto a7 (.int .i64 n60) w59 fun w64 =>
  sto (a7.add 1) (.int .i64 n61) w64 fun w65 =>
  sto (a7.add 2) (.slice s62b s62l s62c) w65 fun w66 =>
  sto (a7.add 3) (.slice s63b s63l s63c) w66 fun w67 =>
  ldI .i64 a7 w67 fun nr_68 =>
  ldI .i64 (a7.add 1) w67 fun nr_69 =>
  ldS (a7.add 2) w67 fun sr_70b sr_70l sr_70c =>
  ldS (a7.add 3) w67 fun sr_71b sr_71l sr_71c =>
  R (.tuple #[(.agg #[(.int .i64 nr_68), (.int .i64 nr_69), (.slice sr_70b sr_70l sr_70c), (.slice sr_71b sr_71l sr_71c)]), (.int .i64 (0 : Int))]) w67)))
theorem eq_plaitref14_Drop (nw_0 : Int) (nw_1 : Int) (sw_2b : Option Addr) (sw_2l : Nat) (sw_2c : Nat) (sw_3b : Option Addr) (sw_3l : Nat) (sw_3c : Nat) (ne_4 : Int) (w : World) (R : Value → World → Prop) : sh_plaitref14_Drop nw_0 nw_1 sw_2b sw_2l sw_2c sw_3b sw_3l sw_3c ne_4 w R = denR Pg Eall Tryz.f42 (.seq (.leaf) (.seq (.seq (.leaf) (.cond (.seq (.leaf) (.leaf)) (.leaf))) (.seq (.leaf) (.seq (.seq (.leaf) (.cond (.seq (.leaf) (.leaf)) (.leaf))) (.seq (.leaf) (.seq (.reg (.tk 0 [] [] (.tk 1 [] [] (.tk 2 [4, 5, 11, 12, 13] [5, 11, 13] (.tk 3 [] [] (.tk 4 [] [] (.tk 6 [] [] (.tk 7 [10, 11, 12, 13] [11, 13] (.tk 8 [] [] (.tk 9 [] [] (.tk 10 [] [] (.one 5 (.one 11 (.tk 12 [] [] (.one 13 (.fin)))))))))))))))) (.seq (.leaf) (.leaf)))))))) [(.agg #[(.int .i64 nw_0), (.int .i64 nw_1), (.slice sw_2b sw_2l sw_2c), (.slice sw_3b sw_3l sw_3c)]), (.int .i64 ne_4)] w R := by kernel_rfl
theorem calls_plaitref14_Drop (nw_0 : Int) (nw_1 : Int) (sw_2b : Option Addr) (sw_2l : Nat) (sw_2c : Nat) (sw_3b : Option Addr) (sw_3l : Nat) (sw_3c : Nat) (ne_4 : Int) (w : World) (R : Value → World → Prop) (h : sh_plaitref14_Drop nw_0 nw_1 sw_2b sw_2l sw_2c sw_3b sw_3l sw_3c ne_4 w R) : Calls Pg fn_plaitref14_Drop #[(.agg #[(.int .i64 nw_0), (.int .i64 nw_1), (.slice sw_2b sw_2l sw_2c), (.slice sw_3b sw_3l sw_3c)]), (.int .i64 ne_4)] w fun e w' => ∃ v, e = .returned v ∧ R v w' :=
  calls_of_denR Eall_enter wide_mixed Tryz.func42 (by rw [← eq_plaitref14_Drop]; exact h)

/-- 'plait/plaitref14.Merge' -/
def sh_plaitref14_Merge (nw_0 : Int) (nw_1 : Int) (sw_2b : Option Addr) (sw_2l : Nat) (sw_2c : Nat) (sw_3b : Option Addr) (sw_3l : Nat) (sw_3c : Nat) (na_4 : Int) (nb_5 : Int) (w : World) (R : Value → World → Prop) : Prop :=
  alo #[(.int .i64 nw_0), (.int .i64 nw_1), (.slice sw_2b sw_2l sw_2c), (.slice sw_3b sw_3l sw_3c)] T_plaitref14_Web w fun a6 w7 =>
  alo #[(.int .i64 (0 : Int)), (.int .i64 (0 : Int)), (.slice none 0 0), (.slice none 0 0)] T_plaitref14_Web w7 fun a8 w9 =>
  ldI .i64 a6 w9 fun n10 =>
  ldI .i64 (a6.add 1) w9 fun n11 =>
  ldS (a6.add 2) w9 fun s12b s12l s12c =>
  ldS (a6.add 3) w9 fun s13b s13l s13c =>
  Calls Pg fn_plaitref14_In #[(.agg #[(.int .i64 n10), (.int .i64 n11), (.slice s12b s12l s12c), (.slice s13b s13l s13c)]), (.int .i64 na_4), (.int .i64 nb_5)] w9 fun e16 w15 => ∃ b14 : Bool, e16 = .returned (.bool b14) ∧
  bif (!b14) then (
  ldI .i64 a6 w15 fun n17 =>
  ldI .i64 (a6.add 1) w15 fun n18 =>
  ldS (a6.add 2) w15 fun s19b s19l s19c =>
  ldS (a6.add 3) w15 fun s20b s20l s20c =>
  sto a8 (.int .i64 n17) w15 fun w21 =>
  sto (a8.add 1) (.int .i64 n18) w21 fun w22 =>
  sto (a8.add 2) (.slice s19b s19l s19c) w22 fun w23 =>
  sto (a8.add 3) (.slice s20b s20l s20c) w23 fun w24 =>
  ldI .i64 a8 w24 fun nr_25 =>
  ldI .i64 (a8.add 1) w24 fun nr_26 =>
  ldS (a8.add 2) w24 fun sr_27b sr_27l sr_27c =>
  ldS (a8.add 3) w24 fun sr_28b sr_28l sr_28c =>
  R (.tuple #[(.agg #[(.int .i64 nr_25), (.int .i64 nr_26), (.slice sr_27b sr_27l sr_27c), (.slice sr_28b sr_28l sr_28c)]), (.int .i64 (12 : Int))]) w24) else (
  ldI .i64 a6 w15 fun n29 =>
  ldI .i64 (a6.add 1) w15 fun n30 =>
  ldS (a6.add 2) w15 fun s31b s31l s31c =>
  ldS (a6.add 3) w15 fun s32b s32l s32c =>
  Calls Pg fn_plaitref14_Road #[(.agg #[(.int .i64 n29), (.int .i64 n30), (.slice s31b s31l s31c), (.slice s32b s32l s32c)]), (.int .i64 na_4), (.int .i64 nb_5)] w15 fun e36 w35 => ∃ s33b : Option Addr, ∃ s33l : Nat, ∃ s33c : Nat, ∃ b34 : Bool, e36 = .returned (.tuple #[(.slice s33b s33l s33c), (.bool b34)]) ∧
  bif b34 then (
  ldI .i64 a6 w35 fun n37 =>
  ldI .i64 (a6.add 1) w35 fun n38 =>
  ldS (a6.add 2) w35 fun s39b s39l s39c =>
  ldS (a6.add 3) w35 fun s40b s40l s40c =>
  sto a8 (.int .i64 n37) w35 fun w41 =>
  sto (a8.add 1) (.int .i64 n38) w41 fun w42 =>
  sto (a8.add 2) (.slice s39b s39l s39c) w42 fun w43 =>
  sto (a8.add 3) (.slice s40b s40l s40c) w43 fun w44 =>
  ldI .i64 a8 w44 fun nr_45 =>
  ldI .i64 (a8.add 1) w44 fun nr_46 =>
  ldS (a8.add 2) w44 fun sr_47b sr_47l sr_47c =>
  ldS (a8.add 3) w44 fun sr_48b sr_48l sr_48c =>
  R (.tuple #[(.agg #[(.int .i64 nr_45), (.int .i64 nr_46), (.slice sr_47b sr_47l sr_47c), (.slice sr_48b sr_48l sr_48c)]), (.int .i64 (20 : Int))]) w44) else (
  ldS (a6.add 2) w35 fun s49b s49l s49c =>
  Calls Pg fn_plaitref05_Merge #[(.slice s49b s49l s49c), (.int .i64 na_4), (.int .i64 nb_5)] w35 fun e53 w52 => ∃ s50b : Option Addr, ∃ s50l : Nat, ∃ s50c : Nat, ∃ n51 : Int, e53 = .returned (.tuple #[(.slice s50b s50l s50c), (.int .i64 n51)]) ∧
  sto (a6.add 2) (.slice s50b s50l s50c) w52 fun w54 =>
  ldI .i64 a6 w54 fun n55 =>
  ldI .i64 (a6.add 1) w54 fun n56 =>
  ldS (a6.add 2) w54 fun s57b s57l s57c =>
  ldS (a6.add 3) w54 fun s58b s58l s58c =>
  sto a8 (.int .i64 n55) w54 fun w59 =>
  sto (a8.add 1) (.int .i64 n56) w59 fun w60 =>
  sto (a8.add 2) (.slice s57b s57l s57c) w60 fun w61 =>
  sto (a8.add 3) (.slice s58b s58l s58c) w61 fun w62 =>
  ldI .i64 a8 w62 fun nr_63 =>
  ldI .i64 (a8.add 1) w62 fun nr_64 =>
  ldS (a8.add 2) w62 fun sr_65b sr_65l sr_65c =>
  ldS (a8.add 3) w62 fun sr_66b sr_66l sr_66c =>
  R (.tuple #[(.agg #[(.int .i64 nr_63), (.int .i64 nr_64), (.slice sr_65b sr_65l sr_65c), (.slice sr_66b sr_66l sr_66c)]), (.int .i64 (0 : Int))]) w62))
theorem eq_plaitref14_Merge (nw_0 : Int) (nw_1 : Int) (sw_2b : Option Addr) (sw_2l : Nat) (sw_2c : Nat) (sw_3b : Option Addr) (sw_3l : Nat) (sw_3c : Nat) (na_4 : Int) (nb_5 : Int) (w : World) (R : Value → World → Prop) : sh_plaitref14_Merge nw_0 nw_1 sw_2b sw_2l sw_2c sw_3b sw_3l sw_3c na_4 nb_5 w R = denR Pg Eall Tryz.f43 (.seq (.leaf) (.seq (.seq (.leaf) (.cond (.seq (.leaf) (.leaf)) (.leaf))) (.seq (.leaf) (.seq (.seq (.leaf) (.cond (.seq (.leaf) (.leaf)) (.leaf))) (.seq (.leaf) (.seq (.leaf) (.leaf))))))) [(.agg #[(.int .i64 nw_0), (.int .i64 nw_1), (.slice sw_2b sw_2l sw_2c), (.slice sw_3b sw_3l sw_3c)]), (.int .i64 na_4), (.int .i64 nb_5)] w R := by kernel_rfl
theorem calls_plaitref14_Merge (nw_0 : Int) (nw_1 : Int) (sw_2b : Option Addr) (sw_2l : Nat) (sw_2c : Nat) (sw_3b : Option Addr) (sw_3l : Nat) (sw_3c : Nat) (na_4 : Int) (nb_5 : Int) (w : World) (R : Value → World → Prop) (h : sh_plaitref14_Merge nw_0 nw_1 sw_2b sw_2l sw_2c sw_3b sw_3l sw_3c na_4 nb_5 w R) : Calls Pg fn_plaitref14_Merge #[(.agg #[(.int .i64 nw_0), (.int .i64 nw_1), (.slice sw_2b sw_2l sw_2c), (.slice sw_3b sw_3l sw_3c)]), (.int .i64 na_4), (.int .i64 nb_5)] w fun e w' => ∃ v, e = .returned v ∧ R v w' :=
  calls_of_denR Eall_enter wide_mixed Tryz.func43 (by rw [← eq_plaitref14_Merge]; exact h)

/-- 'plait/plaitref14.Weakest' -/
def sh_plaitref14_Weakest (nw_0 : Int) (nw_1 : Int) (sw_2b : Option Addr) (sw_2l : Nat) (sw_2c : Nat) (sw_3b : Option Addr) (sw_3l : Nat) (sw_3c : Nat) (na_4 : Int) (nb_5 : Int) (w : World) (R : Value → World → Prop) : Prop :=
  alo #[(.int .i64 nw_0), (.int .i64 nw_1), (.slice sw_2b sw_2l sw_2c), (.slice sw_3b sw_3l sw_3c)] T_plaitref14_Web w fun a6 w7 =>
  ldI .i64 a6 w7 fun n8 =>
  ldI .i64 (a6.add 1) w7 fun n9 =>
  ldS (a6.add 2) w7 fun s10b s10l s10c =>
  ldS (a6.add 3) w7 fun s11b s11l s11c =>
  Calls Pg fn_plaitref14_In #[(.agg #[(.int .i64 n8), (.int .i64 n9), (.slice s10b s10l s10c), (.slice s11b s11l s11c)]), (.int .i64 na_4), (.int .i64 nb_5)] w7 fun e14 w13 => ∃ b12 : Bool, e14 = .returned (.bool b12) ∧
  bif (!b12) then (
  R (.tuple #[(.int .i64 (0 : Int)), (.int .i64 (12 : Int))]) w13) else (
  ldI .i64 a6 w13 fun n15 =>
  ldI .i64 (a6.add 1) w13 fun n16 =>
  ldS (a6.add 2) w13 fun s17b s17l s17c =>
  ldS (a6.add 3) w13 fun s18b s18l s18c =>
  Calls Pg fn_plaitref14_Road #[(.agg #[(.int .i64 n15), (.int .i64 n16), (.slice s17b s17l s17c), (.slice s18b s18l s18c)]), (.int .i64 na_4), (.int .i64 nb_5)] w13 fun e22 w21 => ∃ s19b : Option Addr, ∃ s19l : Nat, ∃ s19c : Nat, ∃ b20 : Bool, e22 = .returned (.tuple #[(.slice s19b s19l s19c), (.bool b20)]) ∧
  bif (!b20) then (
  R (.tuple #[(.int .i64 (0 : Int)), (.int .i64 (21 : Int))]) w21) else (
  ∃ (I23 : List Value → World → Prop) (m24 : List Value → World → Nat), I23 [(.int .i64 (-1 : Int)), (.int .i64 (0 : Int))] w21 ∧
  ∀ _ : Env, ∀ n25 : Int, ∀ n26 : Int, ∀ w27 : World, I23 [(.int .i64 n25), (.int .i64 n26)] w27 →
  bif (decide (n26 < (s19l : Int))) then (
  bif (decide (n25 < (0 : Int))) then (
  (I23 [(.int .i64 n26), (.int .i64 (IntKind.wrap .i64 (n26 + (1 : Int))))] w27.drew ∧ m24 [(.int .i64 n26), (.int .i64 (IntKind.wrap .i64 (n26 + (1 : Int))))] w27.drew < m24 [(.int .i64 n25), (.int .i64 n26)] w27)) else (
  ixS s19b s19l n26 4 fun a28 =>
  ldI .i64 (a28.add 3) w27.drew fun n29 =>
  ixS s19b s19l n25 4 fun a30 =>
  ldI .i64 (a30.add 3) w27.drew fun n31 =>
  bif (decide (n29 < n31)) then (
  (I23 [(.int .i64 n26), (.int .i64 (IntKind.wrap .i64 (n26 + (1 : Int))))] w27.drew ∧ m24 [(.int .i64 n26), (.int .i64 (IntKind.wrap .i64 (n26 + (1 : Int))))] w27.drew < m24 [(.int .i64 n25), (.int .i64 n26)] w27)) else (
  (I23 [(.int .i64 n25), (.int .i64 (IntKind.wrap .i64 (n26 + (1 : Int))))] w27.drew ∧ m24 [(.int .i64 n25), (.int .i64 (IntKind.wrap .i64 (n26 + (1 : Int))))] w27.drew < m24 [(.int .i64 n25), (.int .i64 n26)] w27)))) else (
  bif (decide (n25 < (0 : Int))) then (
  R (.tuple #[(.int .i64 (-1 : Int)), (.int .i64 (0 : Int))]) w27) else (
  ixS s19b s19l n25 4 fun a32 =>
  ldI .i64 a32 w27 fun n33 =>
  R (.tuple #[(.int .i64 n33), (.int .i64 (0 : Int))]) w27))))
theorem eq_plaitref14_Weakest (nw_0 : Int) (nw_1 : Int) (sw_2b : Option Addr) (sw_2l : Nat) (sw_2c : Nat) (sw_3b : Option Addr) (sw_3l : Nat) (sw_3c : Nat) (na_4 : Int) (nb_5 : Int) (w : World) (R : Value → World → Prop) : sh_plaitref14_Weakest nw_0 nw_1 sw_2b sw_2l sw_2c sw_3b sw_3l sw_3c na_4 nb_5 w R = denF Pg Eall Tryz.f49 (.seq (.leaf) (.seq (.seq (.leaf) (.cond (.seq (.leaf) (.leaf)) (.leaf))) (.seq (.leaf) (.seq (.seq (.leaf) (.cond (.seq (.leaf) (.leaf)) (.leaf))) (.seq (.leaf) (.seq (.seq (.leaf) (.block (.loop [10, 11] [.one (.int .i64), .one (.int .i64)] (.seq (.seq (.leaf) (.cond (.leaf) (.leaf))) (.seq (.block (.seq (.reg (.tk 0 [] [] (.tk 1 [] [] (.tk 2 [] [] (.tk 3 [] [] (.tk 4 [] [] (.tk 5 [] [] (.tk 6 [] [] (.tk 7 [] [] (.tk 8 [] [] (.tk 9 [] [] (.tk 10 [] [] (.tk 11 [] [] (.tk 12 [] [] (.tk 13 [] [] (.tk 14 [] [] (.fin))))))))))))))))) (.cond (.leaf) (.leaf)))) (.leaf)))))) (.seq (.seq (.leaf) (.cond (.seq (.leaf) (.leaf)) (.leaf))) (.seq (.leaf) (.leaf))))))))) [(.agg #[(.int .i64 nw_0), (.int .i64 nw_1), (.slice sw_2b sw_2l sw_2c), (.slice sw_3b sw_3l sw_3c)]), (.int .i64 na_4), (.int .i64 nb_5)] w R := by kernel_rfl
theorem calls_plaitref14_Weakest (nw_0 : Int) (nw_1 : Int) (sw_2b : Option Addr) (sw_2l : Nat) (sw_2c : Nat) (sw_3b : Option Addr) (sw_3l : Nat) (sw_3c : Nat) (na_4 : Int) (nb_5 : Int) (w : World) (R : Value → World → Prop) (h : sh_plaitref14_Weakest nw_0 nw_1 sw_2b sw_2l sw_2c sw_3b sw_3l sw_3c na_4 nb_5 w R) : Calls Pg fn_plaitref14_Weakest #[(.agg #[(.int .i64 nw_0), (.int .i64 nw_1), (.slice sw_2b sw_2l sw_2c), (.slice sw_3b sw_3l sw_3c)]), (.int .i64 na_4), (.int .i64 nb_5)] w fun e w' => ∃ v, e = .returned v ∧ R v w' :=
  calls_of_den Eall_enter wide_mixed Tryz.func49 (by rw [← eq_plaitref14_Weakest]; exact h)

/-- 'plait/plaitref14.In' -/
def sh_plaitref14_In (nw_0 : Int) (nw_1 : Int) (sw_2b : Option Addr) (sw_2l : Nat) (sw_2c : Nat) (sw_3b : Option Addr) (sw_3l : Nat) (sw_3c : Nat) (na_4 : Int) (nb_5 : Int) (w : World) (R : Value → World → Prop) : Prop :=
  alo #[(.int .i64 nw_0), (.int .i64 nw_1), (.slice sw_2b sw_2l sw_2c), (.slice sw_3b sw_3l sw_3c)] T_plaitref14_Web w fun a6 w7 =>
  bif (decide (na_4 ≥ (0 : Int))) then (
  ldI .i64 a6 w7 fun n8 =>
  bif (decide (na_4 < n8)) then (
  bif (decide (nb_5 ≥ (0 : Int))) then (
  ldI .i64 a6 w7 fun n9 =>
  R (.bool (decide (nb_5 < n9))) w7) else (
  R (.bool false) w7)) else (
  R (.bool false) w7)) else (
  R (.bool false) w7)
theorem eq_plaitref14_In (nw_0 : Int) (nw_1 : Int) (sw_2b : Option Addr) (sw_2l : Nat) (sw_2c : Nat) (sw_3b : Option Addr) (sw_3l : Nat) (sw_3c : Nat) (na_4 : Int) (nb_5 : Int) (w : World) (R : Value → World → Prop) : sh_plaitref14_In nw_0 nw_1 sw_2b sw_2l sw_2c sw_3b sw_3l sw_3c na_4 nb_5 w R = denF Pg Eall Tryz.f69 (.seq (.leaf) (.seq (.leaf) (.leaf))) [(.agg #[(.int .i64 nw_0), (.int .i64 nw_1), (.slice sw_2b sw_2l sw_2c), (.slice sw_3b sw_3l sw_3c)]), (.int .i64 na_4), (.int .i64 nb_5)] w R := by kernel_rfl
theorem calls_plaitref14_In (nw_0 : Int) (nw_1 : Int) (sw_2b : Option Addr) (sw_2l : Nat) (sw_2c : Nat) (sw_3b : Option Addr) (sw_3l : Nat) (sw_3c : Nat) (na_4 : Int) (nb_5 : Int) (w : World) (R : Value → World → Prop) (h : sh_plaitref14_In nw_0 nw_1 sw_2b sw_2l sw_2c sw_3b sw_3l sw_3c na_4 nb_5 w R) : Calls Pg fn_plaitref14_In #[(.agg #[(.int .i64 nw_0), (.int .i64 nw_1), (.slice sw_2b sw_2l sw_2c), (.slice sw_3b sw_3l sw_3c)]), (.int .i64 na_4), (.int .i64 nb_5)] w fun e w' => ∃ v, e = .returned v ∧ R v w' :=
  calls_of_den Eall_enter wide_mixed Tryz.func69 (by rw [← eq_plaitref14_In]; exact h)

/-- 'plait/plaitref14.Road' -/
def sh_plaitref14_Road (nw_0 : Int) (nw_1 : Int) (sw_2b : Option Addr) (sw_2l : Nat) (sw_2c : Nat) (sw_3b : Option Addr) (sw_3l : Nat) (sw_3c : Nat) (na_4 : Int) (nb_5 : Int) (w : World) (R : Value → World → Prop) : Prop :=
  alo #[(.int .i64 nw_0), (.int .i64 nw_1), (.slice sw_2b sw_2l sw_2c), (.slice sw_3b sw_3l sw_3c)] T_plaitref14_Web w fun a6 w7 =>
  ldS (a6.add 2) w7 fun s8b s8l s8c =>
  Calls Pg fn_plaitref04_Find #[(.slice s8b s8l s8c), (.int .i64 na_4)] w7 fun e12 w11 => ∃ n9 : Int, ∃ n10 : Int, e12 = .returned (.tuple #[(.int .i64 n9), (.int .i64 n10)]) ∧
  ldS (a6.add 2) w11 fun s13b s13l s13c =>
  Calls Pg fn_plaitref04_Find #[(.slice s13b s13l s13c), (.int .i64 nb_5)] w11 fun e17 w16 => ∃ n14 : Int, ∃ n15 : Int, e17 = .returned (.tuple #[(.int .i64 n14), (.int .i64 n15)]) ∧
  ldS (a6.add 2) w16 fun s18b s18l s18c =>
  0 ≤ (s18l : Int) ∧ (s18l : Int) ≤ (s18l : Int) ∧ (24 : Int) * (s18l : Int) ≤ 140737488355328 ∧ alo (zerosOf #[(.slice none 0 0)] (Int.toNat (s18l : Int))) T_sl_plaitref14_Tie w16 fun a19 w20 =>
  ldS (a6.add 2) w20 fun s21b s21l s21c =>
  0 ≤ (s21l : Int) ∧ (s21l : Int) ≤ (s21l : Int) ∧ (1 : Int) * (s21l : Int) ≤ 140737488355328 ∧ alo (zerosOf #[(.bool false)] (Int.toNat (s21l : Int))) T_bool w20 fun a22 w23 =>
  ixS (some a22) (Int.toNat (s21l : Int)) n9 1 fun a24 =>
  sto a24 (.bool true) w23 fun w25 =>
  alo #[(.int .i64 n9)] T_int w25 fun a26 w27 =>
  ∃ (I28 : List Value → World → Prop) (m29 : List Value → World → Nat), I28 [(.slice (some a26) 1 1), (.int .i64 (0 : Int))] w27 ∧
  ∀ _ : Env, ∀ s30b : Option Addr, ∀ s30l : Nat, ∀ s30c : Nat, ∀ n31 : Int, ∀ w32 : World, I28 [(.slice s30b s30l s30c), (.int .i64 n31)] w32 →
  bif (decide (n31 < (s30l : Int))) then (
  ∃ (I33 : List Value → World → Prop) (m34 : List Value → World → Nat), I33 [(.slice s30b s30l s30c), (.int .i64 (0 : Int))] w32 ∧
  ∀ _ : Env, ∀ s35b : Option Addr, ∀ s35l : Nat, ∀ s35c : Nat, ∀ n36 : Int, ∀ w37 : World, I33 [(.slice s35b s35l s35c), (.int .i64 n36)] w37 →
  ldS (a6.add 3) w37 fun s38b s38l s38c =>
  bif (decide (n36 < (s38l : Int))) then (
  ldS (a6.add 2) w37.drew fun s39b s39l s39c =>
  ldS (a6.add 3) w37.drew fun s40b s40l s40c =>
  ixS s40b s40l n36 4 fun a41 =>
  ldI .i64 (a41.add 1) w37.drew fun n42 =>
  Calls Pg fn_plaitref04_Find #[(.slice s39b s39l s39c), (.int .i64 n42)] w37.drew fun e46 w45 => ∃ n43 : Int, ∃ n44 : Int, e46 = .returned (.tuple #[(.int .i64 n43), (.int .i64 n44)]) ∧
  ldS (a6.add 2) w45.drew fun s47b s47l s47c =>
  ldS (a6.add 3) w45.drew fun s48b s48l s48c =>
  ixS s48b s48l n36 4 fun a49 =>
  ldI .i64 (a49.add 2) w45.drew fun n50 =>
  Calls Pg fn_plaitref04_Find #[(.slice s47b s47l s47c), (.int .i64 n50)] w45.drew fun e54 w53 => ∃ n51 : Int, ∃ n52 : Int, e54 = .returned (.tuple #[(.int .i64 n51), (.int .i64 n52)]) ∧
  ixS s35b s35l n31 1 fun a55 =>
  ldI .i64 a55 w53 fun n56 =>
  bif (n51 == n56) then (
  ixS s35b s35l n31 1 fun a57 =>
  ldI .i64 a57 w53 fun n58 =>
  bif (n51 != n58) then (
  (I33 [(.slice s35b s35l s35c), (.int .i64 (IntKind.wrap .i64 (n36 + (1 : Int))))] w53 ∧ m34 [(.slice s35b s35l s35c), (.int .i64 (IntKind.wrap .i64 (n36 + (1 : Int))))] w53 < m34 [(.slice s35b s35l s35c), (.int .i64 n36)] w37)) else (
  ixS (some a22) (Int.toNat (s21l : Int)) n43 1 fun a59 =>
  ldB a59 w53 fun b60 =>
  bif b60 then (
  (I33 [(.slice s35b s35l s35c), (.int .i64 (IntKind.wrap .i64 (n36 + (1 : Int))))] w53 ∧ m34 [(.slice s35b s35l s35c), (.int .i64 (IntKind.wrap .i64 (n36 + (1 : Int))))] w53 < m34 [(.slice s35b s35l s35c), (.int .i64 n36)] w37)) else (
  ixS (some a22) (Int.toNat (s21l : Int)) n43 1 fun a61 =>
  sto a61 (.bool true) w53 fun w62 =>
  ixS (some a19) (Int.toNat (s18l : Int)) n51 1 fun a63 =>
  ldS a63 w62.drew fun s64b s64l s64c =>
  ldS (a6.add 3) w62.drew fun s65b s65l s65c =>
  ixS s65b s65l n36 4 fun a66 =>
  ldI .i64 a66 w62.drew fun n67 =>
  ldI .i64 (a66.add 1) w62.drew fun n68 =>
  ldI .i64 (a66.add 2) w62.drew fun n69 =>
  ldI .i64 (a66.add 3) w62.drew fun n70 =>
  (∃ s71b : Option Addr, ∃ s71l : Nat, ∃ s71c : Nat, ∃ w72 : World, (Builtin.append_ #[T_sl_plaitref14_Tie, T_sl_plaitref14_Tie] T_sl_plaitref14_Tie #[(.slice none 0 0), (.slice s64b s64l s64c)]).run Pg w62.drew = .ok (.slice s71b s71l s71c) w72 ∧
  w72.cell? a66 = some (.int .i64 n67) ∧ w72.cell? (a66.add 1) = some (.int .i64 n68) ∧ w72.cell? (a66.add 2) = some (.int .i64 n69) ∧ w72.cell? (a66.add 3) = some (.int .i64 n70) ∧ w72.cell? (a6.add 3) = some (.slice s65b s65l s65c) ∧ alo #[(.int .i64 n67), (.int .i64 n68), (.int .i64 n69), (.int .i64 n70)] T_plaitref14_Tie w72 fun a73 w74 =>
  ∃ s75b : Option Addr, ∃ s75l : Nat, ∃ s75c : Nat, ∃ w76 : World, (Builtin.append_ #[T_sl_plaitref14_Tie, T_sl_plaitref14_Tie] T_sl_plaitref14_Tie #[(.slice s71b s71l s71c), (.slice (some a73) 1 1)]).run Pg w74 = .ok (.slice s75b s75l s75c) w76 ∧
  ixS (some a19) (Int.toNat (s18l : Int)) n43 1 fun a77 =>
  sto a77 (.slice s75b s75l s75c) w76 fun w78 =>
  alo #[(.int .i64 n43)] T_int w78 fun a79 w80 =>
  ∃ s81b : Option Addr, ∃ s81l : Nat, ∃ s81c : Nat, ∃ w82 : World, (Builtin.append_ #[T_sl_int, T_sl_int] T_sl_int #[(.slice s35b s35l s35c), (.slice (some a79) 1 1)]).run Pg w80 = .ok (.slice s81b s81l s81c) w82 ∧
  (I33 [(.slice s81b s81l s81c), (.int .i64 (IntKind.wrap .i64 (n36 + (1 : Int))))] w82 ∧ m34 [(.slice s81b s81l s81c), (.int .i64 (IntKind.wrap .i64 (n36 + (1 : Int))))] w82 < m34 [(.slice s35b s35l s35c), (.int .i64 n36)] w37)) ∧ (
  alo #[(.int .i64 n67), (.int .i64 n68), (.int .i64 n69), (.int .i64 n70)] T_plaitref14_Tie w62.drew fun a83 w84 =>
  w84.cell? a63 = some (.slice s64b s64l s64c) ∧ ∃ s85b : Option Addr, ∃ s85l : Nat, ∃ s85c : Nat, ∃ w86 : World, (Builtin.append_ #[T_sl_plaitref14_Tie, T_sl_plaitref14_Tie] T_sl_plaitref14_Tie #[(.slice none 0 0), (.slice s64b s64l s64c)]).run Pg w84 = .ok (.slice s85b s85l s85c) w86 ∧
  ∃ s87b : Option Addr, ∃ s87l : Nat, ∃ s87c : Nat, ∃ w88 : World, (Builtin.append_ #[T_sl_plaitref14_Tie, T_sl_plaitref14_Tie] T_sl_plaitref14_Tie #[(.slice s85b s85l s85c), (.slice (some a83) 1 1)]).run Pg w86 = .ok (.slice s87b s87l s87c) w88 ∧
  ixS (some a19) (Int.toNat (s18l : Int)) n43 1 fun a89 =>
  sto a89 (.slice s87b s87l s87c) w88 fun w90 =>
  alo #[(.int .i64 n43)] T_int w90 fun a91 w92 =>
  ∃ s93b : Option Addr, ∃ s93l : Nat, ∃ s93c : Nat, ∃ w94 : World, (Builtin.append_ #[T_sl_int, T_sl_int] T_sl_int #[(.slice s35b s35l s35c), (.slice (some a91) 1 1)]).run Pg w92 = .ok (.slice s93b s93l s93c) w94 ∧
  (I33 [(.slice s93b s93l s93c), (.int .i64 (IntKind.wrap .i64 (n36 + (1 : Int))))] w94 ∧ m34 [(.slice s93b s93l s93c), (.int .i64 (IntKind.wrap .i64 (n36 + (1 : Int))))] w94 < m34 [(.slice s35b s35l s35c), (.int .i64 n36)] w37))))) else (
  ixS s35b s35l n31 1 fun a95 =>
  ldI .i64 a95 w53 fun n96 =>
  bif (n43 != n96) then (
  (I33 [(.slice s35b s35l s35c), (.int .i64 (IntKind.wrap .i64 (n36 + (1 : Int))))] w53 ∧ m34 [(.slice s35b s35l s35c), (.int .i64 (IntKind.wrap .i64 (n36 + (1 : Int))))] w53 < m34 [(.slice s35b s35l s35c), (.int .i64 n36)] w37)) else (
  ixS (some a22) (Int.toNat (s21l : Int)) n51 1 fun a97 =>
  ldB a97 w53 fun b98 =>
  bif b98 then (
  (I33 [(.slice s35b s35l s35c), (.int .i64 (IntKind.wrap .i64 (n36 + (1 : Int))))] w53 ∧ m34 [(.slice s35b s35l s35c), (.int .i64 (IntKind.wrap .i64 (n36 + (1 : Int))))] w53 < m34 [(.slice s35b s35l s35c), (.int .i64 n36)] w37)) else (
  ixS (some a22) (Int.toNat (s21l : Int)) n51 1 fun a99 =>
  sto a99 (.bool true) w53 fun w100 =>
  ixS (some a19) (Int.toNat (s18l : Int)) n43 1 fun a101 =>
  ldS a101 w100.drew fun s102b s102l s102c =>
  ldS (a6.add 3) w100.drew fun s103b s103l s103c =>
  ixS s103b s103l n36 4 fun a104 =>
  ldI .i64 a104 w100.drew fun n105 =>
  ldI .i64 (a104.add 1) w100.drew fun n106 =>
  ldI .i64 (a104.add 2) w100.drew fun n107 =>
  ldI .i64 (a104.add 3) w100.drew fun n108 =>
  (∃ s109b : Option Addr, ∃ s109l : Nat, ∃ s109c : Nat, ∃ w110 : World, (Builtin.append_ #[T_sl_plaitref14_Tie, T_sl_plaitref14_Tie] T_sl_plaitref14_Tie #[(.slice none 0 0), (.slice s102b s102l s102c)]).run Pg w100.drew = .ok (.slice s109b s109l s109c) w110 ∧
  w110.cell? a104 = some (.int .i64 n105) ∧ w110.cell? (a104.add 1) = some (.int .i64 n106) ∧ w110.cell? (a104.add 2) = some (.int .i64 n107) ∧ w110.cell? (a104.add 3) = some (.int .i64 n108) ∧ w110.cell? (a6.add 3) = some (.slice s103b s103l s103c) ∧ alo #[(.int .i64 n105), (.int .i64 n106), (.int .i64 n107), (.int .i64 n108)] T_plaitref14_Tie w110 fun a111 w112 =>
  ∃ s113b : Option Addr, ∃ s113l : Nat, ∃ s113c : Nat, ∃ w114 : World, (Builtin.append_ #[T_sl_plaitref14_Tie, T_sl_plaitref14_Tie] T_sl_plaitref14_Tie #[(.slice s109b s109l s109c), (.slice (some a111) 1 1)]).run Pg w112 = .ok (.slice s113b s113l s113c) w114 ∧
  ixS (some a19) (Int.toNat (s18l : Int)) n51 1 fun a115 =>
  sto a115 (.slice s113b s113l s113c) w114 fun w116 =>
  alo #[(.int .i64 n51)] T_int w116 fun a117 w118 =>
  ∃ s119b : Option Addr, ∃ s119l : Nat, ∃ s119c : Nat, ∃ w120 : World, (Builtin.append_ #[T_sl_int, T_sl_int] T_sl_int #[(.slice s35b s35l s35c), (.slice (some a117) 1 1)]).run Pg w118 = .ok (.slice s119b s119l s119c) w120 ∧
  (I33 [(.slice s119b s119l s119c), (.int .i64 (IntKind.wrap .i64 (n36 + (1 : Int))))] w120 ∧ m34 [(.slice s119b s119l s119c), (.int .i64 (IntKind.wrap .i64 (n36 + (1 : Int))))] w120 < m34 [(.slice s35b s35l s35c), (.int .i64 n36)] w37)) ∧ (
  alo #[(.int .i64 n105), (.int .i64 n106), (.int .i64 n107), (.int .i64 n108)] T_plaitref14_Tie w100.drew fun a121 w122 =>
  w122.cell? a101 = some (.slice s102b s102l s102c) ∧ ∃ s123b : Option Addr, ∃ s123l : Nat, ∃ s123c : Nat, ∃ w124 : World, (Builtin.append_ #[T_sl_plaitref14_Tie, T_sl_plaitref14_Tie] T_sl_plaitref14_Tie #[(.slice none 0 0), (.slice s102b s102l s102c)]).run Pg w122 = .ok (.slice s123b s123l s123c) w124 ∧
  ∃ s125b : Option Addr, ∃ s125l : Nat, ∃ s125c : Nat, ∃ w126 : World, (Builtin.append_ #[T_sl_plaitref14_Tie, T_sl_plaitref14_Tie] T_sl_plaitref14_Tie #[(.slice s123b s123l s123c), (.slice (some a121) 1 1)]).run Pg w124 = .ok (.slice s125b s125l s125c) w126 ∧
  ixS (some a19) (Int.toNat (s18l : Int)) n51 1 fun a127 =>
  sto a127 (.slice s125b s125l s125c) w126 fun w128 =>
  alo #[(.int .i64 n51)] T_int w128 fun a129 w130 =>
  ∃ s131b : Option Addr, ∃ s131l : Nat, ∃ s131c : Nat, ∃ w132 : World, (Builtin.append_ #[T_sl_int, T_sl_int] T_sl_int #[(.slice s35b s35l s35c), (.slice (some a129) 1 1)]).run Pg w130 = .ok (.slice s131b s131l s131c) w132 ∧
  (I33 [(.slice s131b s131l s131c), (.int .i64 (IntKind.wrap .i64 (n36 + (1 : Int))))] w132 ∧ m34 [(.slice s131b s131l s131c), (.int .i64 (IntKind.wrap .i64 (n36 + (1 : Int))))] w132 < m34 [(.slice s35b s35l s35c), (.int .i64 n36)] w37)))))) else (
  (I28 [(.slice s35b s35l s35c), (.int .i64 (IntKind.wrap .i64 (n31 + (1 : Int))))] w37 ∧ m29 [(.slice s35b s35l s35c), (.int .i64 (IntKind.wrap .i64 (n31 + (1 : Int))))] w37 < m29 [(.slice s30b s30l s30c), (.int .i64 n31)] w32))) else (
  ixS (some a19) (Int.toNat (s18l : Int)) n14 1 fun a133 =>
  ldS a133 w32.drew fun s134b s134l s134c =>
  ixS (some a22) (Int.toNat (s21l : Int)) n14 1 fun a135 =>
  ldB a135 w32.drew fun b136 =>
  R (.tuple #[(.slice s134b s134l s134c), (.bool b136)]) w32.drew)
theorem eq_plaitref14_Road (nw_0 : Int) (nw_1 : Int) (sw_2b : Option Addr) (sw_2l : Nat) (sw_2c : Nat) (sw_3b : Option Addr) (sw_3l : Nat) (sw_3c : Nat) (na_4 : Int) (nb_5 : Int) (w : World) (R : Value → World → Prop) : sh_plaitref14_Road nw_0 nw_1 sw_2b sw_2l sw_2c sw_3b sw_3l sw_3c na_4 nb_5 w R = denF Pg Eall Tryz.f73 (.seq (.leaf) (.seq (.leaf) (.seq (.leaf) (.seq (.leaf) (.seq (.leaf) (.seq (.leaf) (.seq (.leaf) (.seq (.seq (.leaf) (.block (.loop [14, 15] [.one (.slc), .one (.int .i64)] (.seq (.seq (.leaf) (.cond (.leaf) (.leaf))) (.seq (.block (.seq (.leaf) (.block (.loop [14, 16] [.one (.slc), .one (.int .i64)] (.seq (.seq (.leaf) (.cond (.leaf) (.leaf))) (.seq (.block (.seq (.reg (.tk 0 [] [] (.tk 1 [8, 9, 10, 11, 12, 13] [8] (.tk 2 [] [] (.tk 3 [5, 6, 7, 8, 9, 10, 11, 12, 13] [8] (.tk 4 [] [] (.tk 5 [] [] (.tk 6 [] [] (.tk 7 [8, 9, 10, 11, 12, 13] [8] (.one 8 (.tk 9 [] [] (.tk 10 [] [] (.tk 11 [] [] (.tk 12 [] [] (.tk 13 [] [] (.fin)))))))))))))))) (.seq (.reg (.tk 0 [] [] (.tk 1 [8, 9, 10, 11, 12, 13] [8] (.tk 2 [] [] (.tk 3 [5, 6, 7, 8, 9, 10, 11, 12, 13] [8] (.tk 4 [] [] (.tk 5 [] [] (.tk 6 [] [] (.tk 7 [8, 9, 10, 11, 12, 13] [8] (.one 8 (.tk 9 [] [] (.tk 10 [] [] (.tk 11 [] [] (.tk 12 [] [] (.tk 13 [] [] (.fin)))))))))))))))) (.seq (.seq (.leaf) (.cond (.leaf) (.leaf))) (.seq (.seq (.leaf) (.cond (.leaf) (.leaf))) (.seq (.leaf) (.seq (.leaf) (.seq (.reg (.tk 0 [] [] (.tk 1 [] [] (.tk 2 [] [] (.tk 3 [] [] (.tk 4 [] [] (.tk 5 [] [] (.tk 6 [7, 14, 15, 16] [7, 14, 16] (.tk 8 [] [] (.tk 9 [11, 12, 13, 14, 15, 16] [13, 14, 16] (.tk 10 [] [] (.tk 11 [] [] (.tk 12 [13, 14, 15, 16] [13, 14, 16] (.two 7 (.one 13 (.one 14 (.tk 15 [] [] (.one 16 (.fin))))) 13 (.one 7 (.one 14 (.tk 15 [] [] (.one 16 (.fin))))))))))))))))))) (.leaf))))))))) (.leaf))))))) (.leaf)))))) (.seq (.reg (.tk 0 [] [] (.tk 1 [] [] (.tk 2 [] [] (.tk 3 [] [] (.tk 4 [] [] (.tk 5 [] [] (.tk 6 [] [] (.tk 7 [] [] (.tk 8 [] [] (.tk 9 [] [] (.fin)))))))))))) (.leaf)))))))))) [(.agg #[(.int .i64 nw_0), (.int .i64 nw_1), (.slice sw_2b sw_2l sw_2c), (.slice sw_3b sw_3l sw_3c)]), (.int .i64 na_4), (.int .i64 nb_5)] w R := by kernel_rfl
theorem calls_plaitref14_Road (nw_0 : Int) (nw_1 : Int) (sw_2b : Option Addr) (sw_2l : Nat) (sw_2c : Nat) (sw_3b : Option Addr) (sw_3l : Nat) (sw_3c : Nat) (na_4 : Int) (nb_5 : Int) (w : World) (R : Value → World → Prop) (h : sh_plaitref14_Road nw_0 nw_1 sw_2b sw_2l sw_2c sw_3b sw_3l sw_3c na_4 nb_5 w R) : Calls Pg fn_plaitref14_Road #[(.agg #[(.int .i64 nw_0), (.int .i64 nw_1), (.slice sw_2b sw_2l sw_2c), (.slice sw_3b sw_3l sw_3c)]), (.int .i64 na_4), (.int .i64 nb_5)] w fun e w' => ∃ v, e = .returned v ∧ R v w' :=
  calls_of_den Eall_enter wide_mixed Tryz.func73 (by rw [← eq_plaitref14_Road]; exact h)

end Go.Proofs.YtaoemljoiahapaaGreatDoor
