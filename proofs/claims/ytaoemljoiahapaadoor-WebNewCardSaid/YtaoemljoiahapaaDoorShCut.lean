/-
What each function does, as one formula, printed by a program of this session out of the translation; the kernel holds each print against the translation.
Conditions: none.
-/
import Derived.Test.YtaoemljoiahapaaDoorSn
namespace Go.Proofs.YtaoemljoiahapaaDoor
open Go
set_option linter.unusedVariables false
set_option maxRecDepth 100000
/-- '(*plait/cut.Forest).Same' -/
def sh_cut_Forest_Same (pf_0 : Option Addr) (na_1 : Int) (nb_2 : Int) (w : World) (R : Value → World → Prop) : Prop :=
  alo #[(.int .i64 na_1), (.int .i64 nb_2)] T_int w fun a3 w4 =>
  Calls Pg fn_cut_Forest_check #[(.pointer pf_0), (.slice (some a3) 2 2)] w4 fun e7 w6 => ∃ v5 : Value, e7 = .returned v5 ∧
  isI v5 ∧ bif (!(nilI v5)) then (
  R (.tuple #[(.bool false), v5]) w6) else (
  Calls Pg fn_cut_Forest_same #[(.pointer pf_0), (.int .i32 (IntKind.wrap .i32 na_1)), (.int .i32 (IntKind.wrap .i32 nb_2))] w6 fun e10 w9 => ∃ b8 : Bool, e10 = .returned (.bool b8) ∧
  R (.tuple #[(.bool b8), .nilIface]) w9)
theorem eq_cut_Forest_Same (pf_0 : Option Addr) (na_1 : Int) (nb_2 : Int) (w : World) (R : Value → World → Prop) : sh_cut_Forest_Same pf_0 na_1 nb_2 w R = denF Pg Eall Tryd.f21 (.seq (.leaf) (.seq (.seq (.leaf) (.seq (.leaf) (.cond (.seq (.leaf) (.leaf)) (.leaf)))) (.seq (.leaf) (.leaf)))) [(.pointer pf_0), (.int .i64 na_1), (.int .i64 nb_2)] w R := by kernel_rfl
theorem calls_cut_Forest_Same (pf_0 : Option Addr) (na_1 : Int) (nb_2 : Int) (w : World) (R : Value → World → Prop) (h : sh_cut_Forest_Same pf_0 na_1 nb_2 w R) : Calls Pg fn_cut_Forest_Same #[(.pointer pf_0), (.int .i64 na_1), (.int .i64 nb_2)] w fun e w' => ∃ v, e = .returned v ∧ R v w' :=
  calls_of_den Eall_enter wide_mixed Tryd.func21 (by rw [← eq_cut_Forest_Same]; exact h)

/-- '(*plait/cut.Forest).Least' -/
def sh_cut_Forest_Least (pf_0 : Option Addr) (na_1 : Int) (nb_2 : Int) (w : World) (R : Value → World → Prop) : Prop :=
  Calls Pg fn_cut_Forest_road #[(.pointer pf_0), (.int .i64 na_1), (.int .i64 nb_2)] w fun e6 w5 => ∃ p3 : Option Addr, ∃ v4 : Value, e6 = .returned (.tuple #[(.pointer p3), v4]) ∧
  isI v4 ∧ bif (!(nilI v4)) then (
  R (.tuple #[(.int .i64 (0 : Int)), v4]) w5) else (
  pt p3 fun a7 =>
  ldI .i64 (a7.add 7) w5 fun n8 =>
  alo #[(.int .i64 (0 : Int))] T_int64 w5 fun a9 w10 =>
  sto a9 (.int .i64 n8) w10 fun w11 =>
  ldI .i64 a9 w11 fun n12 =>
  Calls Pg fn_cut_Forest_first #[(.pointer pf_0), (.int .i32 (IntKind.wrap .i32 nb_2)), (.int .i64 n12), (.func (.func fn_cut_Forest_Least_1) #[] #[(.pointer (some a9))])] w11 fun e15 w14 => ∃ n13 : Int, e15 = .returned (.int .i64 n13) ∧
  R (.tuple #[(.int .i64 n13), .nilIface]) w14)
theorem eq_cut_Forest_Least (pf_0 : Option Addr) (na_1 : Int) (nb_2 : Int) (w : World) (R : Value → World → Prop) : sh_cut_Forest_Least pf_0 na_1 nb_2 w R = denF Pg Eall Tryd.f22 (.seq (.leaf) (.seq (.leaf) (.seq (.seq (.leaf) (.cond (.seq (.leaf) (.leaf)) (.leaf))) (.seq (.leaf) (.seq (.leaf) (.leaf)))))) [(.pointer pf_0), (.int .i64 na_1), (.int .i64 nb_2)] w R := by kernel_rfl
theorem calls_cut_Forest_Least (pf_0 : Option Addr) (na_1 : Int) (nb_2 : Int) (w : World) (R : Value → World → Prop) (h : sh_cut_Forest_Least pf_0 na_1 nb_2 w R) : Calls Pg fn_cut_Forest_Least #[(.pointer pf_0), (.int .i64 na_1), (.int .i64 nb_2)] w fun e w' => ∃ v, e = .returned v ∧ R v w' :=
  calls_of_den Eall_enter wide_mixed Tryd.func22 (by rw [← eq_cut_Forest_Least]; exact h)

/-- '(*plait/cut.Forest).Cut' -/
def sh_cut_Forest_Cut (pf_0 : Option Addr) (na_1 : Int) (nb_2 : Int) (w : World) (R : Value → World → Prop) : Prop :=
  alo #[(.int .i64 na_1), (.int .i64 nb_2)] T_int w fun a3 w4 =>
  Calls Pg fn_cut_Forest_check #[(.pointer pf_0), (.slice (some a3) 2 2)] w4 fun e7 w6 => ∃ v5 : Value, e7 = .returned v5 ∧
  isI v5 ∧ bif (!(nilI v5)) then (
  R v5 w6) else (
  Calls Pg fn_cut_Forest_near #[(.pointer pf_0), (.int .i32 (IntKind.wrap .i32 na_1)), (.int .i32 (IntKind.wrap .i32 nb_2))] w6 fun e10 w9 => ∃ b8 : Bool, e10 = .returned (.bool b8) ∧
  bif (!b8) then (
  R (.iface T_api_Errno (.int .i64 (21 : Int))) w9) else (
  pt pf_0 fun a11 =>
  ldS a11 w9.drew fun s12b s12l s12c =>
  pt pf_0 fun a13 =>
  ldS a13 w9.drew fun s14b s14l s14c =>
  ixS s14b s14l nb_2 9 fun a15 =>
  ixA (a15.add 1) 2 (0 : Int) 1 fun a16 =>
  ldI .i32 a16 w9.drew fun n17 =>
  ixS s12b s12l n17 9 fun a18 =>
  sto a18 (.int .i32 (-1 : Int)) w9.drew fun w19 =>
  pt pf_0 fun a20 =>
  ldS a20 w19 fun s21b s21l s21c =>
  ixS s21b s21l nb_2 9 fun a22 =>
  ixA (a22.add 1) 2 (0 : Int) 1 fun a23 =>
  sto a23 (.int .i32 (-1 : Int)) w19 fun w24 =>
  Calls Pg fn_cut_Forest_pull #[(.pointer pf_0), (.int .i32 (IntKind.wrap .i32 nb_2))] w24 fun e26 w25 => e26 = .returned (.tuple #[]) ∧
  R .nilIface w25))
theorem eq_cut_Forest_Cut (pf_0 : Option Addr) (na_1 : Int) (nb_2 : Int) (w : World) (R : Value → World → Prop) : sh_cut_Forest_Cut pf_0 na_1 nb_2 w R = denF Pg Eall Tryd.f27 (.seq (.leaf) (.seq (.seq (.leaf) (.seq (.leaf) (.cond (.seq (.leaf) (.leaf)) (.leaf)))) (.seq (.seq (.leaf) (.cond (.seq (.leaf) (.leaf)) (.leaf))) (.seq (.reg (.tk 0 [] [] (.tk 1 [] [] (.tk 2 [] [] (.tk 3 [13, 14, 15] [15] (.tk 4 [] [] (.tk 5 [] [] (.tk 6 [] [] (.tk 7 [9, 10, 11, 12, 13, 14, 15] [15] (.tk 8 [] [] (.tk 9 [] [] (.tk 10 [] [] (.tk 11 [] [] (.tk 12 [13, 14, 15] [15] (.tk 13 [] [] (.tk 14 [] [] (.one 15 (.fin)))))))))))))))))) (.seq (.leaf) (.seq (.leaf) (.seq (.leaf) (.leaf)))))))) [(.pointer pf_0), (.int .i64 na_1), (.int .i64 nb_2)] w R := by kernel_rfl
theorem calls_cut_Forest_Cut (pf_0 : Option Addr) (na_1 : Int) (nb_2 : Int) (w : World) (R : Value → World → Prop) (h : sh_cut_Forest_Cut pf_0 na_1 nb_2 w R) : Calls Pg fn_cut_Forest_Cut #[(.pointer pf_0), (.int .i64 na_1), (.int .i64 nb_2)] w fun e w' => ∃ v, e = .returned v ∧ R v w' :=
  calls_of_den Eall_enter wide_mixed Tryd.func27 (by rw [← eq_cut_Forest_Cut]; exact h)

/-- '(*plait/cut.Forest).Link' -/
def sh_cut_Forest_Link (pf_0 : Option Addr) (na_1 : Int) (nb_2 : Int) (w : World) (R : Value → World → Prop) : Prop :=
  alo #[(.int .i64 na_1), (.int .i64 nb_2)] T_int w fun a3 w4 =>
  Calls Pg fn_cut_Forest_check #[(.pointer pf_0), (.slice (some a3) 2 2)] w4 fun e7 w6 => ∃ v5 : Value, e7 = .returned v5 ∧
  isI v5 ∧ bif (!(nilI v5)) then (
  R v5 w6) else (
  Calls Pg fn_cut_Forest_same #[(.pointer pf_0), (.int .i32 (IntKind.wrap .i32 na_1)), (.int .i32 (IntKind.wrap .i32 nb_2))] w6 fun e10 w9 => ∃ b8 : Bool, e10 = .returned (.bool b8) ∧
  bif b8 then (
  R (.iface T_api_Errno (.int .i64 (20 : Int))) w9) else (
  Calls Pg fn_cut_Forest_root #[(.pointer pf_0), (.int .i32 (IntKind.wrap .i32 na_1))] w9 fun e12 w11 => e12 = .returned (.tuple #[]) ∧
  pt pf_0 fun a13 =>
  ldS a13 w11 fun s14b s14l s14c =>
  ixS s14b s14l na_1 9 fun a15 =>
  sto a15 (.int .i32 (IntKind.wrap .i32 nb_2)) w11 fun w16 =>
  R .nilIface w16))
theorem eq_cut_Forest_Link (pf_0 : Option Addr) (na_1 : Int) (nb_2 : Int) (w : World) (R : Value → World → Prop) : sh_cut_Forest_Link pf_0 na_1 nb_2 w R = denF Pg Eall Tryd.f29 (.seq (.leaf) (.seq (.seq (.leaf) (.seq (.leaf) (.cond (.seq (.leaf) (.leaf)) (.leaf)))) (.seq (.seq (.leaf) (.cond (.seq (.leaf) (.leaf)) (.leaf))) (.seq (.leaf) (.seq (.leaf) (.seq (.leaf) (.leaf))))))) [(.pointer pf_0), (.int .i64 na_1), (.int .i64 nb_2)] w R := by kernel_rfl
theorem calls_cut_Forest_Link (pf_0 : Option Addr) (na_1 : Int) (nb_2 : Int) (w : World) (R : Value → World → Prop) (h : sh_cut_Forest_Link pf_0 na_1 nb_2 w R) : Calls Pg fn_cut_Forest_Link #[(.pointer pf_0), (.int .i64 na_1), (.int .i64 nb_2)] w fun e w' => ∃ v, e = .returned v ∧ R v w' :=
  calls_of_den Eall_enter wide_mixed Tryd.func29 (by rw [← eq_cut_Forest_Link]; exact h)

/-- '(*plait/cut.Forest).Set' -/
def sh_cut_Forest_Set (pf_0 : Option Addr) (nx_1 : Int) (nv_2 : Int) (w : World) (R : Value → World → Prop) : Prop :=
  alo #[(.int .i64 nx_1)] T_int w fun a3 w4 =>
  Calls Pg fn_cut_Forest_check #[(.pointer pf_0), (.slice (some a3) 1 1)] w4 fun e7 w6 => ∃ v5 : Value, e7 = .returned v5 ∧
  isI v5 ∧ bif (!(nilI v5)) then (
  R v5 w6) else (
  Calls Pg fn_cut_Forest_access #[(.pointer pf_0), (.int .i32 (IntKind.wrap .i32 nx_1))] w6 fun e9 w8 => e9 = .returned (.tuple #[]) ∧
  pt pf_0 fun a10 =>
  ldS a10 w8 fun s11b s11l s11c =>
  ixS s11b s11l nx_1 9 fun a12 =>
  sto (a12.add 5) (.int .i64 nv_2) w8 fun w13 =>
  Calls Pg fn_cut_Forest_pull #[(.pointer pf_0), (.int .i32 (IntKind.wrap .i32 nx_1))] w13 fun e15 w14 => e15 = .returned (.tuple #[]) ∧
  R .nilIface w14)
theorem eq_cut_Forest_Set (pf_0 : Option Addr) (nx_1 : Int) (nv_2 : Int) (w : World) (R : Value → World → Prop) : sh_cut_Forest_Set pf_0 nx_1 nv_2 w R = denF Pg Eall Tryd.f33 (.seq (.leaf) (.seq (.seq (.leaf) (.seq (.leaf) (.cond (.seq (.leaf) (.leaf)) (.leaf)))) (.seq (.leaf) (.seq (.leaf) (.seq (.leaf) (.seq (.leaf) (.leaf))))))) [(.pointer pf_0), (.int .i64 nx_1), (.int .i64 nv_2)] w R := by kernel_rfl
theorem calls_cut_Forest_Set (pf_0 : Option Addr) (nx_1 : Int) (nv_2 : Int) (w : World) (R : Value → World → Prop) (h : sh_cut_Forest_Set pf_0 nx_1 nv_2 w R) : Calls Pg fn_cut_Forest_Set #[(.pointer pf_0), (.int .i64 nx_1), (.int .i64 nv_2)] w fun e w' => ∃ v, e = .returned v ∧ R v w' :=
  calls_of_den Eall_enter wide_mixed Tryd.func33 (by rw [← eq_cut_Forest_Set]; exact h)

/-- 'plait/cut.New' -/
def sh_cut_New (nn_0 : Int) (w : World) (R : Value → World → Prop) : Prop :=
  ∃ J1 : List Value → World → Prop, (
  bif (decide (nn_0 < (1 : Int))) then (
  R (.tuple #[(.pointer none), (.iface T_api_Errno (.int .i64 (1 : Int)))]) w) else (
  bif (decide (nn_0 > (8388608 : Int))) then (
  R (.tuple #[(.pointer none), (.iface T_api_Errno (.int .i64 (1 : Int)))]) w) else (
  J1 [] w))) ∧ ∀ _ : Env, ∀ w2 : World, J1 [] w2 →
  0 ≤ nn_0 ∧ nn_0 ≤ nn_0 ∧ (56 : Int) * nn_0 ≤ 140737488355328 ∧ alo (zerosOf #[(.int .i32 (0 : Int)), (.int .i32 (0 : Int)), (.int .i32 (0 : Int)), (.bool false), (.int .i32 (0 : Int)), (.int .i64 (0 : Int)), (.int .i64 (0 : Int)), (.int .i64 (0 : Int)), (.int .i64 (0 : Int))] (Int.toNat nn_0)) T_cut_node w2 fun a3 w4 =>
  alo #[(.slice (some a3) (Int.toNat nn_0) (Int.toNat nn_0))] T_cut_Forest w4 fun a5 w6 =>
  ldS a5 w6 fun s7b s7l s7c =>
  ∃ (I8 : List Value → World → Prop) (m9 : List Value → World → Nat), I8 [(.int .i64 (0 : Int))] w6 ∧
  ∀ _ : Env, ∀ n10 : Int, ∀ w11 : World, I8 [(.int .i64 n10)] w11 →
  bif (decide (n10 < (s7l : Int))) then (
  ldS a5 w11 fun s12b s12l s12c =>
  ixS s12b s12l n10 9 fun a13 =>
  sto a13 (.int .i32 (-1 : Int)) w11 fun w14 =>
  sto (a13.add 1) (.int .i32 (-1 : Int)) w14 fun w15 =>
  sto (a13.add 2) (.int .i32 (-1 : Int)) w15 fun w16 =>
  sto (a13.add 3) (.bool false) w16 fun w17 =>
  sto (a13.add 4) (.int .i32 (1 : Int)) w17 fun w18 =>
  sto (a13.add 5) (.int .i64 (0 : Int)) w18 fun w19 =>
  sto (a13.add 6) (.int .i64 (0 : Int)) w19 fun w20 =>
  sto (a13.add 7) (.int .i64 (0 : Int)) w20 fun w21 =>
  sto (a13.add 8) (.int .i64 (0 : Int)) w21 fun w22 =>
  (I8 [(.int .i64 (IntKind.wrap .i64 (n10 + (1 : Int))))] w22 ∧ m9 [(.int .i64 (IntKind.wrap .i64 (n10 + (1 : Int))))] w22 < m9 [(.int .i64 n10)] w11)) else (
  R (.tuple #[(.pointer (some a5)), .nilIface]) w11)
theorem eq_cut_New (nn_0 : Int) (w : World) (R : Value → World → Prop) : sh_cut_New nn_0 w R = denF Pg Eall Tryd.f35 (.seq (.leaf) (.join [] [] (.seq (.leaf) (.cond (.seq (.leaf) (.leaf)) (.leaf))) (.seq (.leaf) (.seq (.seq (.leaf) (.block (.loop [22] [.one (.int .i64)] (.seq (.leaf) (.seq (.cond (.leaf) (.leaf)) (.seq (.block (.seq (.leaf) (.leaf))) (.leaf))))))) (.seq (.leaf) (.leaf)))))) [(.int .i64 nn_0)] w R := by kernel_rfl
theorem calls_cut_New (nn_0 : Int) (w : World) (R : Value → World → Prop) (h : sh_cut_New nn_0 w R) : Calls Pg fn_cut_New #[(.int .i64 nn_0)] w fun e w' => ∃ v, e = .returned v ∧ R v w' :=
  calls_of_den Eall_enter wide_mixed Tryd.func35 (by rw [← eq_cut_New]; exact h)

/-- '(*plait/cut.Forest).check' -/
def sh_cut_Forest_check (pf_0 : Option Addr) (sl_1b : Option Addr) (sl_1l : Nat) (sl_1c : Nat) (w : World) (R : Value → World → Prop) : Prop :=
  bif (Option.isNone pf_0) then (
  R (.iface T_api_Errno (.int .i64 (1 : Int))) w) else (
  ∃ (I2 : List Value → World → Prop) (m3 : List Value → World → Nat), I2 [(.int .i64 (0 : Int))] w ∧
  ∀ _ : Env, ∀ n4 : Int, ∀ w5 : World, I2 [(.int .i64 n4)] w5 →
  bif (decide (n4 < (sl_1l : Int))) then (
  ixS sl_1b sl_1l n4 1 fun a6 =>
  ldI .i64 a6 w5 fun n7 =>
  bif (decide (n7 < (0 : Int))) then (
  R (.iface T_api_Errno (.int .i64 (12 : Int))) w5) else (
  pt pf_0 fun a8 =>
  ldS a8 w5 fun s9b s9l s9c =>
  bif (decide (n7 ≥ (s9l : Int))) then (
  R (.iface T_api_Errno (.int .i64 (12 : Int))) w5) else (
  (I2 [(.int .i64 (IntKind.wrap .i64 (n4 + (1 : Int))))] w5 ∧ m3 [(.int .i64 (IntKind.wrap .i64 (n4 + (1 : Int))))] w5 < m3 [(.int .i64 n4)] w5)))) else (
  R .nilIface w5))
theorem eq_cut_Forest_check (pf_0 : Option Addr) (sl_1b : Option Addr) (sl_1l : Nat) (sl_1c : Nat) (w : World) (R : Value → World → Prop) : sh_cut_Forest_check pf_0 sl_1b sl_1l sl_1c w R = denF Pg Eall Tryd.f38 (.seq (.leaf) (.seq (.seq (.leaf) (.cond (.seq (.leaf) (.leaf)) (.leaf))) (.seq (.seq (.leaf) (.block (.loop [12] [.one (.int .i64)] (.seq (.leaf) (.seq (.cond (.leaf) (.leaf)) (.seq (.block (.seq (.leaf) (.seq (.leaf) (.cond (.seq (.leaf) (.leaf)) (.leaf))))) (.leaf))))))) (.seq (.leaf) (.leaf))))) [(.pointer pf_0), (.slice sl_1b sl_1l sl_1c)] w R := by kernel_rfl
theorem calls_cut_Forest_check (pf_0 : Option Addr) (sl_1b : Option Addr) (sl_1l : Nat) (sl_1c : Nat) (w : World) (R : Value → World → Prop) (h : sh_cut_Forest_check pf_0 sl_1b sl_1l sl_1c w R) : Calls Pg fn_cut_Forest_check #[(.pointer pf_0), (.slice sl_1b sl_1l sl_1c)] w fun e w' => ∃ v, e = .returned v ∧ R v w' :=
  calls_of_den Eall_enter wide_mixed Tryd.func38 (by rw [← eq_cut_Forest_check]; exact h)

/-- '(*plait/cut.Forest).same' -/
def sh_cut_Forest_same (pf_0 : Option Addr) (na_1 : Int) (nb_2 : Int) (w : World) (R : Value → World → Prop) : Prop :=
  bif (na_1 == nb_2) then (
  R (.bool true) w) else (
  Calls Pg fn_cut_Forest_access #[(.pointer pf_0), (.int .i32 na_1)] w fun e4 w3 => e4 = .returned (.tuple #[]) ∧
  Calls Pg fn_cut_Forest_access #[(.pointer pf_0), (.int .i32 nb_2)] w3 fun e6 w5 => e6 = .returned (.tuple #[]) ∧
  pt pf_0 fun a7 =>
  ldS a7 w5 fun s8b s8l s8c =>
  ixS s8b s8l na_1 9 fun a9 =>
  ldI .i32 a9 w5 fun n10 =>
  R (.bool (n10 != (-1 : Int))) w5)
theorem eq_cut_Forest_same (pf_0 : Option Addr) (na_1 : Int) (nb_2 : Int) (w : World) (R : Value → World → Prop) : sh_cut_Forest_same pf_0 na_1 nb_2 w R = denF Pg Eall Tryd.f39 (.seq (.leaf) (.seq (.seq (.leaf) (.cond (.seq (.leaf) (.leaf)) (.leaf))) (.seq (.leaf) (.seq (.leaf) (.seq (.leaf) (.leaf)))))) [(.pointer pf_0), (.int .i32 na_1), (.int .i32 nb_2)] w R := by kernel_rfl
theorem calls_cut_Forest_same (pf_0 : Option Addr) (na_1 : Int) (nb_2 : Int) (w : World) (R : Value → World → Prop) (h : sh_cut_Forest_same pf_0 na_1 nb_2 w R) : Calls Pg fn_cut_Forest_same #[(.pointer pf_0), (.int .i32 na_1), (.int .i32 nb_2)] w fun e w' => ∃ v, e = .returned v ∧ R v w' :=
  calls_of_den Eall_enter wide_mixed Tryd.func39 (by rw [← eq_cut_Forest_same]; exact h)

/-- '(*plait/cut.Forest).road' -/
def sh_cut_Forest_road (pf_0 : Option Addr) (na_1 : Int) (nb_2 : Int) (w : World) (R : Value → World → Prop) : Prop :=
  alo #[(.int .i64 na_1), (.int .i64 nb_2)] T_int w fun a3 w4 =>
  Calls Pg fn_cut_Forest_check #[(.pointer pf_0), (.slice (some a3) 2 2)] w4 fun e7 w6 => ∃ v5 : Value, e7 = .returned v5 ∧
  isI v5 ∧ bif (!(nilI v5)) then (
  R (.tuple #[(.pointer none), v5]) w6) else (
  Calls Pg fn_cut_Forest_same #[(.pointer pf_0), (.int .i32 (IntKind.wrap .i32 na_1)), (.int .i32 (IntKind.wrap .i32 nb_2))] w6 fun e10 w9 => ∃ b8 : Bool, e10 = .returned (.bool b8) ∧
  bif (!b8) then (
  R (.tuple #[(.pointer none), (.iface T_api_Errno (.int .i64 (21 : Int)))]) w9) else (
  Calls Pg fn_cut_Forest_root #[(.pointer pf_0), (.int .i32 (IntKind.wrap .i32 na_1))] w9 fun e12 w11 => e12 = .returned (.tuple #[]) ∧
  Calls Pg fn_cut_Forest_access #[(.pointer pf_0), (.int .i32 (IntKind.wrap .i32 nb_2))] w11 fun e14 w13 => e14 = .returned (.tuple #[]) ∧
  pt pf_0 fun a15 =>
  ldS a15 w13 fun s16b s16l s16c =>
  ixS s16b s16l nb_2 9 fun a17 =>
  R (.tuple #[(.pointer (some a17)), .nilIface]) w13))
theorem eq_cut_Forest_road (pf_0 : Option Addr) (na_1 : Int) (nb_2 : Int) (w : World) (R : Value → World → Prop) : sh_cut_Forest_road pf_0 na_1 nb_2 w R = denF Pg Eall Tryd.f40 (.seq (.leaf) (.seq (.seq (.leaf) (.seq (.leaf) (.cond (.seq (.leaf) (.leaf)) (.leaf)))) (.seq (.seq (.leaf) (.cond (.seq (.leaf) (.leaf)) (.leaf))) (.seq (.leaf) (.seq (.leaf) (.seq (.leaf) (.leaf))))))) [(.pointer pf_0), (.int .i64 na_1), (.int .i64 nb_2)] w R := by kernel_rfl
theorem calls_cut_Forest_road (pf_0 : Option Addr) (na_1 : Int) (nb_2 : Int) (w : World) (R : Value → World → Prop) (h : sh_cut_Forest_road pf_0 na_1 nb_2 w R) : Calls Pg fn_cut_Forest_road #[(.pointer pf_0), (.int .i64 na_1), (.int .i64 nb_2)] w fun e w' => ∃ v, e = .returned v ∧ R v w' :=
  calls_of_den Eall_enter wide_mixed Tryd.func40 (by rw [← eq_cut_Forest_road]; exact h)

/-- '(*plait/cut.Forest).first' -/
def sh_cut_Forest_first (pf_0 : Option Addr) (nx_1 : Int) (nv_2 : Int) (fhas_3 : Value) (w : World) (R : Value → World → Prop) : Prop :=
  ∃ (I4 : List Value → World → Prop) (m5 : List Value → World → Nat), I4 [(.int .i32 nx_1)] w ∧
  ∀ _ : Env, ∀ n6 : Int, ∀ w7 : World, I4 [(.int .i32 n6)] w7 →
  Calls Pg fn_cut_Forest_push #[(.pointer pf_0), (.int .i32 n6)] w7 fun e9 w8 => e9 = .returned (.tuple #[]) ∧
  pt pf_0 fun a10 =>
  ldS a10 w8 fun s11b s11l s11c =>
  ixS s11b s11l n6 9 fun a12 =>
  ldI .i32 a12 w8 fun n13 =>
  ldI .i32 (a12.add 1) w8 fun n14 =>
  ldI .i32 (a12.add 2) w8 fun n15 =>
  ldB (a12.add 3) w8 fun b16 =>
  ldI .i32 (a12.add 4) w8 fun n17 =>
  ldI .i64 (a12.add 5) w8 fun n18 =>
  ldI .i64 (a12.add 6) w8 fun n19 =>
  ldI .i64 (a12.add 7) w8 fun n20 =>
  ldI .i64 (a12.add 8) w8 fun n21 =>
  alo #[(.int .i32 (0 : Int)), (.int .i32 (0 : Int)), (.int .i32 (0 : Int)), (.bool false), (.int .i32 (0 : Int)), (.int .i64 (0 : Int)), (.int .i64 (0 : Int)), (.int .i64 (0 : Int)), (.int .i64 (0 : Int))] T_cut_node w8 fun a22 w23 =>
  sto a22 (.int .i32 n13) w23 fun w24 =>
  sto (a22.add 1) (.int .i32 n14) w24 fun w25 =>
  sto (a22.add 2) (.int .i32 n15) w25 fun w26 =>
  sto (a22.add 3) (.bool b16) w26 fun w27 =>
  sto (a22.add 4) (.int .i32 n17) w27 fun w28 =>
  sto (a22.add 5) (.int .i64 n18) w28 fun w29 =>
  sto (a22.add 6) (.int .i64 n19) w29 fun w30 =>
  sto (a22.add 7) (.int .i64 n20) w30 fun w31 =>
  sto (a22.add 8) (.int .i64 n21) w31 fun w32 =>
  ixA (a22.add 1) 2 (0 : Int) 1 fun a33 =>
  ldI .i32 a33 w32 fun n34 =>
  bif (n34 != (-1 : Int)) then (
  pt pf_0 fun a35 =>
  ldS a35 w32 fun s36b s36l s36c =>
  ixS s36b s36l n34 9 fun a37 =>
  ldI .i32 a37 w32 fun n38 =>
  ldI .i32 (a37.add 1) w32 fun n39 =>
  ldI .i32 (a37.add 2) w32 fun n40 =>
  ldB (a37.add 3) w32 fun b41 =>
  ldI .i32 (a37.add 4) w32 fun n42 =>
  ldI .i64 (a37.add 5) w32 fun n43 =>
  ldI .i64 (a37.add 6) w32 fun n44 =>
  ldI .i64 (a37.add 7) w32 fun n45 =>
  ldI .i64 (a37.add 8) w32 fun n46 =>
  dcv Pg Eall fhas_3 [(.agg #[(.int .i32 n38), (.int .i32 n39), (.int .i32 n40), (.bool b41), (.int .i32 n42), (.int .i64 n43), (.int .i64 n44), (.int .i64 n45), (.int .i64 n46)])] w32 fun e49 w48 => ∃ b47 : Bool, e49 = .returned (.bool b47) ∧
  bif b47 then (
  (I4 [(.int .i32 n34)] w48 ∧ m5 [(.int .i32 n34)] w48 < m5 [(.int .i32 n6)] w7)) else (
  ldI .i64 (a22.add 5) w48 fun n50 =>
  bif (n50 == nv_2) then (
  Calls Pg fn_cut_Forest_lift #[(.pointer pf_0), (.int .i32 n6)] w48 fun e52 w51 => e52 = .returned (.tuple #[]) ∧
  R (.int .i64 (IntKind.wrap .i64 n6)) w51) else (
  ixA (a22.add 1) 2 (1 : Int) 1 fun a53 =>
  ldI .i32 a53 w48 fun n54 =>
  (I4 [(.int .i32 n54)] w48 ∧ m5 [(.int .i32 n54)] w48 < m5 [(.int .i32 n6)] w7)))) else (
  ldI .i64 (a22.add 5) w32 fun n55 =>
  bif (n55 == nv_2) then (
  Calls Pg fn_cut_Forest_lift #[(.pointer pf_0), (.int .i32 n6)] w32 fun e57 w56 => e57 = .returned (.tuple #[]) ∧
  R (.int .i64 (IntKind.wrap .i64 n6)) w56) else (
  ixA (a22.add 1) 2 (1 : Int) 1 fun a58 =>
  ldI .i32 a58 w32 fun n59 =>
  (I4 [(.int .i32 n59)] w32 ∧ m5 [(.int .i32 n59)] w32 < m5 [(.int .i32 n6)] w7)))
theorem eq_cut_Forest_first (pf_0 : Option Addr) (nx_1 : Int) (nv_2 : Int) (fhas_3 : Value) (w : World) (R : Value → World → Prop) : sh_cut_Forest_first pf_0 nx_1 nv_2 fhas_3 w R = denF Pg Eall Tryd.f41 (.seq (.leaf) (.block (.loop [1] [.one (.int .i32)] (.block (.seq (.leaf) (.seq (.leaf) (.seq (.leaf) (.block (.seq (.leaf) (.cond (.leaf) (.seq (.leaf) (.cond (.seq (.leaf) (.seq (.leaf) (.leaf))) (.leaf))))))))))))) [(.pointer pf_0), (.int .i32 nx_1), (.int .i64 nv_2), fhas_3] w R := by kernel_rfl
theorem calls_cut_Forest_first (pf_0 : Option Addr) (nx_1 : Int) (nv_2 : Int) (fhas_3 : Value) (w : World) (R : Value → World → Prop) (h : sh_cut_Forest_first pf_0 nx_1 nv_2 fhas_3 w R) : Calls Pg fn_cut_Forest_first #[(.pointer pf_0), (.int .i32 nx_1), (.int .i64 nv_2), fhas_3] w fun e w' => ∃ v, e = .returned v ∧ R v w' :=
  calls_of_den Eall_enter wide_mixed Tryd.func41 (by rw [← eq_cut_Forest_first]; exact h)

/-- '(*plait/cut.Forest).Least$1' -/
def sh_cut_Forest_Least_1 (nm_0 : Int) (nm_1 : Int) (nm_2 : Int) (bm_3 : Bool) (nm_4 : Int) (nm_5 : Int) (nm_6 : Int) (nm_7 : Int) (nm_8 : Int) (q9 : Option Addr) (w : World) (R : Value → World → Prop) : Prop :=
  alo #[(.int .i32 nm_0), (.int .i32 nm_1), (.int .i32 nm_2), (.bool bm_3), (.int .i32 nm_4), (.int .i64 nm_5), (.int .i64 nm_6), (.int .i64 nm_7), (.int .i64 nm_8)] T_cut_node w fun a10 w11 =>
  ldI .i64 (a10.add 7) w11 fun n12 =>
  pt q9 fun a13 =>
  ldI .i64 a13 w11 fun n14 =>
  R (.bool (n12 == n14)) w11
theorem eq_cut_Forest_Least_1 (nm_0 : Int) (nm_1 : Int) (nm_2 : Int) (bm_3 : Bool) (nm_4 : Int) (nm_5 : Int) (nm_6 : Int) (nm_7 : Int) (nm_8 : Int) (q9 : Option Addr) (w : World) (R : Value → World → Prop) : sh_cut_Forest_Least_1 nm_0 nm_1 nm_2 bm_3 nm_4 nm_5 nm_6 nm_7 nm_8 q9 w R = denF Pg Eall Tryd.f42 (.seq (.leaf) (.seq (.leaf) (.leaf))) [(.agg #[(.int .i32 nm_0), (.int .i32 nm_1), (.int .i32 nm_2), (.bool bm_3), (.int .i32 nm_4), (.int .i64 nm_5), (.int .i64 nm_6), (.int .i64 nm_7), (.int .i64 nm_8)]), (.pointer q9)] w R := by kernel_rfl
theorem calls_cut_Forest_Least_1 (nm_0 : Int) (nm_1 : Int) (nm_2 : Int) (bm_3 : Bool) (nm_4 : Int) (nm_5 : Int) (nm_6 : Int) (nm_7 : Int) (nm_8 : Int) (q9 : Option Addr) (w : World) (R : Value → World → Prop) (h : sh_cut_Forest_Least_1 nm_0 nm_1 nm_2 bm_3 nm_4 nm_5 nm_6 nm_7 nm_8 q9 w R) : Calls Pg fn_cut_Forest_Least_1 #[(.agg #[(.int .i32 nm_0), (.int .i32 nm_1), (.int .i32 nm_2), (.bool bm_3), (.int .i32 nm_4), (.int .i64 nm_5), (.int .i64 nm_6), (.int .i64 nm_7), (.int .i64 nm_8)]), (.pointer q9)] w fun e w' => ∃ v, e = .returned v ∧ R v w' :=
  calls_of_den Eall_enter wide_mixed Tryd.func42 (by rw [← eq_cut_Forest_Least_1]; exact h)

/-- '(*plait/cut.Forest).near' -/
def sh_cut_Forest_near (pf_0 : Option Addr) (na_1 : Int) (nb_2 : Int) (w : World) (R : Value → World → Prop) : Prop :=
  bif (na_1 == nb_2) then (
  R (.bool false) w) else (
  Calls Pg fn_cut_Forest_same #[(.pointer pf_0), (.int .i32 na_1), (.int .i32 nb_2)] w fun e5 w4 => ∃ b3 : Bool, e5 = .returned (.bool b3) ∧
  bif (!b3) then (
  R (.bool false) w4) else (
  Calls Pg fn_cut_Forest_root #[(.pointer pf_0), (.int .i32 na_1)] w4 fun e7 w6 => e7 = .returned (.tuple #[]) ∧
  Calls Pg fn_cut_Forest_access #[(.pointer pf_0), (.int .i32 nb_2)] w6 fun e9 w8 => e9 = .returned (.tuple #[]) ∧
  pt pf_0 fun a10 =>
  ldS a10 w8 fun s11b s11l s11c =>
  ixS s11b s11l nb_2 9 fun a12 =>
  ldI .i32 (a12.add 4) w8 fun n13 =>
  R (.bool (n13 == (2 : Int))) w8))
theorem eq_cut_Forest_near (pf_0 : Option Addr) (na_1 : Int) (nb_2 : Int) (w : World) (R : Value → World → Prop) : sh_cut_Forest_near pf_0 na_1 nb_2 w R = denF Pg Eall Tryd.f53 (.seq (.leaf) (.seq (.seq (.leaf) (.cond (.seq (.leaf) (.leaf)) (.leaf))) (.seq (.leaf) (.seq (.leaf) (.seq (.leaf) (.leaf)))))) [(.pointer pf_0), (.int .i32 na_1), (.int .i32 nb_2)] w R := by kernel_rfl
theorem calls_cut_Forest_near (pf_0 : Option Addr) (na_1 : Int) (nb_2 : Int) (w : World) (R : Value → World → Prop) (h : sh_cut_Forest_near pf_0 na_1 nb_2 w R) : Calls Pg fn_cut_Forest_near #[(.pointer pf_0), (.int .i32 na_1), (.int .i32 nb_2)] w fun e w' => ∃ v, e = .returned v ∧ R v w' :=
  calls_of_den Eall_enter wide_mixed Tryd.func53 (by rw [← eq_cut_Forest_near]; exact h)

/-- '(*plait/cut.Forest).pull' -/
def sh_cut_Forest_pull (pf_0 : Option Addr) (nx_1 : Int) (w : World) (R : Value → World → Prop) : Prop :=
  pt pf_0 fun a2 =>
  ldS a2 w fun s3b s3l s3c =>
  ixS s3b s3l nx_1 9 fun a4 =>
  ldI .i64 (a4.add 5) w.drew fun n5 =>
  ldI .i64 (a4.add 5) w.drew fun n6 =>
  ldI .i64 (a4.add 5) w.drew fun n7 =>
  sto (a4.add 4) (.int .i32 (1 : Int)) w.drew fun w8 =>
  sto (a4.add 6) (.int .i64 n5) w8 fun w9 =>
  sto (a4.add 7) (.int .i64 n6) w9 fun w10 =>
  sto (a4.add 8) (.int .i64 n7) w10 fun w11 =>
  ldI .i32 (a4.add 1) w11 fun n12 =>
  ldI .i32 ((a4.add 1).add 1) w11 fun n13 =>
  ∃ n14 : Int, 0 ≤ (0 : Int) ∧ (0 : Int) < ((2 : Nat) : Int) ∧ #[(Value.int .i32 n12), (Value.int .i32 n13)][(Int.toNat (0 : Int)) * 1]? = some (Value.int .i32 n14) ∧
  bif (n14 != (-1 : Int)) then (
  pt pf_0 fun a15 =>
  ldS a15 w11 fun s16b s16l s16c =>
  ixS s16b s16l n14 9 fun a17 =>
  ldI .i32 a17 w11 fun n18 =>
  ldI .i32 (a17.add 1) w11 fun n19 =>
  ldI .i32 (a17.add 2) w11 fun n20 =>
  ldB (a17.add 3) w11 fun b21 =>
  ldI .i32 (a17.add 4) w11 fun n22 =>
  ldI .i64 (a17.add 5) w11 fun n23 =>
  ldI .i64 (a17.add 6) w11 fun n24 =>
  ldI .i64 (a17.add 7) w11 fun n25 =>
  ldI .i64 (a17.add 8) w11 fun n26 =>
  alo #[(.int .i32 (0 : Int)), (.int .i32 (0 : Int)), (.int .i32 (0 : Int)), (.bool false), (.int .i32 (0 : Int)), (.int .i64 (0 : Int)), (.int .i64 (0 : Int)), (.int .i64 (0 : Int)), (.int .i64 (0 : Int))] T_cut_node w11 fun a27 w28 =>
  sto a27 (.int .i32 n18) w28 fun w29 =>
  sto (a27.add 1) (.int .i32 n19) w29 fun w30 =>
  sto (a27.add 2) (.int .i32 n20) w30 fun w31 =>
  sto (a27.add 3) (.bool b21) w31 fun w32 =>
  sto (a27.add 4) (.int .i32 n22) w32 fun w33 =>
  sto (a27.add 5) (.int .i64 n23) w33 fun w34 =>
  sto (a27.add 6) (.int .i64 n24) w34 fun w35 =>
  sto (a27.add 7) (.int .i64 n25) w35 fun w36 =>
  sto (a27.add 8) (.int .i64 n26) w36 fun w37 =>
  ldI .i32 (a4.add 4) w37.drew fun n38 =>
  ldI .i32 (a27.add 4) w37.drew fun n39 =>
  ldI .i64 (a4.add 6) w37.drew fun n40 =>
  ldI .i64 (a27.add 6) w37.drew fun n41 =>
  sto (a4.add 4) (.int .i32 (IntKind.wrap .i32 (n38 + n39))) w37.drew fun w42 =>
  w42.cell? (a27.add 6) = some (.int .i64 n41) ∧ sto (a4.add 6) (.int .i64 (IntKind.wrap .i64 (n40 + n41))) w42 fun w43 =>
  ldI .i64 (a4.add 7) w43.drew fun n44 =>
  ldI .i64 (a27.add 7) w43.drew fun n45 =>
  ldI .i64 (a4.add 8) w43.drew fun n46 =>
  ldI .i64 (a27.add 8) w43.drew fun n47 =>
  sto (a4.add 7) (.int .i64 (if n45 < n44 then n45 else n44)) w43.drew fun w48 =>
  w48.cell? (a27.add 8) = some (.int .i64 n47) ∧ sto (a4.add 8) (.int .i64 (if n47 > n46 then n47 else n46)) w48 fun w49 =>
  ∃ n50 : Int, 0 ≤ (1 : Int) ∧ (1 : Int) < ((2 : Nat) : Int) ∧ #[(Value.int .i32 n12), (Value.int .i32 n13)][(Int.toNat (1 : Int)) * 1]? = some (Value.int .i32 n50) ∧
  bif (n50 != (-1 : Int)) then (
  pt pf_0 fun a51 =>
  ldS a51 w49 fun s52b s52l s52c =>
  ixS s52b s52l n50 9 fun a53 =>
  ldI .i32 a53 w49 fun n54 =>
  ldI .i32 (a53.add 1) w49 fun n55 =>
  ldI .i32 (a53.add 2) w49 fun n56 =>
  ldB (a53.add 3) w49 fun b57 =>
  ldI .i32 (a53.add 4) w49 fun n58 =>
  ldI .i64 (a53.add 5) w49 fun n59 =>
  ldI .i64 (a53.add 6) w49 fun n60 =>
  ldI .i64 (a53.add 7) w49 fun n61 =>
  ldI .i64 (a53.add 8) w49 fun n62 =>
  alo #[(.int .i32 (0 : Int)), (.int .i32 (0 : Int)), (.int .i32 (0 : Int)), (.bool false), (.int .i32 (0 : Int)), (.int .i64 (0 : Int)), (.int .i64 (0 : Int)), (.int .i64 (0 : Int)), (.int .i64 (0 : Int))] T_cut_node w49 fun a63 w64 =>
  sto a63 (.int .i32 n54) w64 fun w65 =>
  sto (a63.add 1) (.int .i32 n55) w65 fun w66 =>
  sto (a63.add 2) (.int .i32 n56) w66 fun w67 =>
  sto (a63.add 3) (.bool b57) w67 fun w68 =>
  sto (a63.add 4) (.int .i32 n58) w68 fun w69 =>
  sto (a63.add 5) (.int .i64 n59) w69 fun w70 =>
  sto (a63.add 6) (.int .i64 n60) w70 fun w71 =>
  sto (a63.add 7) (.int .i64 n61) w71 fun w72 =>
  sto (a63.add 8) (.int .i64 n62) w72 fun w73 =>
  ldI .i32 (a4.add 4) w73.drew fun n74 =>
  ldI .i32 (a63.add 4) w73.drew fun n75 =>
  ldI .i64 (a4.add 6) w73.drew fun n76 =>
  ldI .i64 (a63.add 6) w73.drew fun n77 =>
  sto (a4.add 4) (.int .i32 (IntKind.wrap .i32 (n74 + n75))) w73.drew fun w78 =>
  w78.cell? (a63.add 6) = some (.int .i64 n77) ∧ sto (a4.add 6) (.int .i64 (IntKind.wrap .i64 (n76 + n77))) w78 fun w79 =>
  ldI .i64 (a4.add 7) w79.drew fun n80 =>
  ldI .i64 (a63.add 7) w79.drew fun n81 =>
  ldI .i64 (a4.add 8) w79.drew fun n82 =>
  ldI .i64 (a63.add 8) w79.drew fun n83 =>
  sto (a4.add 7) (.int .i64 (if n81 < n80 then n81 else n80)) w79.drew fun w84 =>
  w84.cell? (a63.add 8) = some (.int .i64 n83) ∧ sto (a4.add 8) (.int .i64 (if n83 > n82 then n83 else n82)) w84 fun w85 =>
  R (.tuple #[]) w85) else (
  R (.tuple #[]) w49)) else (
  ∃ n86 : Int, 0 ≤ (1 : Int) ∧ (1 : Int) < ((2 : Nat) : Int) ∧ #[(Value.int .i32 n12), (Value.int .i32 n13)][(Int.toNat (1 : Int)) * 1]? = some (Value.int .i32 n86) ∧
  bif (n86 != (-1 : Int)) then (
  pt pf_0 fun a87 =>
  ldS a87 w11 fun s88b s88l s88c =>
  ixS s88b s88l n86 9 fun a89 =>
  ldI .i32 a89 w11 fun n90 =>
  ldI .i32 (a89.add 1) w11 fun n91 =>
  ldI .i32 (a89.add 2) w11 fun n92 =>
  ldB (a89.add 3) w11 fun b93 =>
  ldI .i32 (a89.add 4) w11 fun n94 =>
  ldI .i64 (a89.add 5) w11 fun n95 =>
  ldI .i64 (a89.add 6) w11 fun n96 =>
  ldI .i64 (a89.add 7) w11 fun n97 =>
  ldI .i64 (a89.add 8) w11 fun n98 =>
  alo #[(.int .i32 (0 : Int)), (.int .i32 (0 : Int)), (.int .i32 (0 : Int)), (.bool false), (.int .i32 (0 : Int)), (.int .i64 (0 : Int)), (.int .i64 (0 : Int)), (.int .i64 (0 : Int)), (.int .i64 (0 : Int))] T_cut_node w11 fun a99 w100 =>
  sto a99 (.int .i32 n90) w100 fun w101 =>
  sto (a99.add 1) (.int .i32 n91) w101 fun w102 =>
  sto (a99.add 2) (.int .i32 n92) w102 fun w103 =>
  sto (a99.add 3) (.bool b93) w103 fun w104 =>
  sto (a99.add 4) (.int .i32 n94) w104 fun w105 =>
  sto (a99.add 5) (.int .i64 n95) w105 fun w106 =>
  sto (a99.add 6) (.int .i64 n96) w106 fun w107 =>
  sto (a99.add 7) (.int .i64 n97) w107 fun w108 =>
  sto (a99.add 8) (.int .i64 n98) w108 fun w109 =>
  ldI .i32 (a4.add 4) w109.drew fun n110 =>
  ldI .i32 (a99.add 4) w109.drew fun n111 =>
  ldI .i64 (a4.add 6) w109.drew fun n112 =>
  ldI .i64 (a99.add 6) w109.drew fun n113 =>
  sto (a4.add 4) (.int .i32 (IntKind.wrap .i32 (n110 + n111))) w109.drew fun w114 =>
  w114.cell? (a99.add 6) = some (.int .i64 n113) ∧ sto (a4.add 6) (.int .i64 (IntKind.wrap .i64 (n112 + n113))) w114 fun w115 =>
  ldI .i64 (a4.add 7) w115.drew fun n116 =>
  ldI .i64 (a99.add 7) w115.drew fun n117 =>
  ldI .i64 (a4.add 8) w115.drew fun n118 =>
  ldI .i64 (a99.add 8) w115.drew fun n119 =>
  sto (a4.add 7) (.int .i64 (if n117 < n116 then n117 else n116)) w115.drew fun w120 =>
  w120.cell? (a99.add 8) = some (.int .i64 n119) ∧ sto (a4.add 8) (.int .i64 (if n119 > n118 then n119 else n118)) w120 fun w121 =>
  R (.tuple #[]) w121) else (
  R (.tuple #[]) w11))
theorem eq_cut_Forest_pull (pf_0 : Option Addr) (nx_1 : Int) (w : World) (R : Value → World → Prop) : sh_cut_Forest_pull pf_0 nx_1 w R = denF Pg Eall Tryd.f54 (.seq (.leaf) (.seq (.reg (.tk 0 [] [] (.tk 1 [] [] (.tk 2 [] [] (.tk 3 [] [] (.tk 4 [] [] (.tk 5 [] [] (.tk 6 [] [] (.tk 7 [16, 17, 18, 19, 20, 21, 22, 23, 24, 25, 26, 27] [18, 21, 24, 27] (.tk 8 [] [] (.tk 9 [] [] (.tk 10 [] [] (.tk 11 [16, 17, 18, 19, 20, 21, 22, 23, 24, 25, 26, 27] [18, 21, 24, 27] (.tk 12 [] [] (.tk 13 [] [] (.tk 14 [] [] (.tk 15 [16, 17, 18, 19, 20, 21, 22, 23, 24, 25, 26, 27] [18, 21, 24, 27] (.tk 16 [] [] (.tk 17 [] [] (.one 18 (.tk 19 [] [] (.tk 20 [] [] (.one 21 (.tk 22 [] [] (.tk 23 [] [] (.one 24 (.tk 25 [] [] (.tk 26 [] [] (.one 27 (.fin)))))))))))))))))))))))))))))) (.seq (.leaf) (.block (.unr 3 (.seq (.leaf) (.seq (.cond (.leaf) (.leaf)) (.seq (.block (.seq (.leaf) (.seq (.leaf) (.cond (.seq (.leaf) (.seq (.reg (.tk 0 [] [] (.tk 1 [] [] (.tk 2 [] [] (.tk 3 [] [] (.tk 4 [] [] (.tk 5 [8, 16, 17, 18, 19, 20, 21] [18, 21] (.tk 6 [] [] (.tk 7 [8, 16, 17, 18, 19, 20, 21] [18, 21] (.tk 8 [] [] (.tk 9 [] [] (.tk 10 [] [] (.tk 11 [] [] (.tk 12 [15, 16, 17, 18, 19, 20, 21] [18, 21] (.tk 13 [] [] (.tk 14 [15, 19, 20, 21] [21] (.tk 15 [] [] (.tk 16 [] [] (.tk 17 [] [] (.one 18 (.tk 19 [] [] (.tk 20 [] [] (.one 21 (.fin)))))))))))))))))))))))) (.reg (.tk 0 [] [] (.tk 1 [] [] (.tk 2 [] [] (.tk 3 [] [] (.tk 4 [] [] (.tk 5 [8, 16, 17, 18, 19, 20, 21] [18, 21] (.tk 6 [] [] (.tk 7 [8, 16, 17, 18, 19, 20, 21] [18, 21] (.tk 8 [] [] (.tk 9 [] [] (.tk 10 [] [] (.tk 11 [] [] (.tk 12 [15, 16, 17, 18, 19, 20, 21] [18, 21] (.tk 13 [] [] (.tk 14 [15, 19, 20, 21] [21] (.tk 15 [] [] (.tk 16 [] [] (.tk 17 [] [] (.one 18 (.tk 19 [] [] (.tk 20 [] [] (.one 21 (.fin)))))))))))))))))))))))))) (.leaf))))) (.leaf))))))))) [(.pointer pf_0), (.int .i32 nx_1)] w R := by kernel_rfl
theorem calls_cut_Forest_pull (pf_0 : Option Addr) (nx_1 : Int) (w : World) (R : Value → World → Prop) (h : sh_cut_Forest_pull pf_0 nx_1 w R) : Calls Pg fn_cut_Forest_pull #[(.pointer pf_0), (.int .i32 nx_1)] w fun e w' => ∃ v, e = .returned v ∧ R v w' :=
  calls_of_den Eall_enter wide_mixed Tryd.func54 (by rw [← eq_cut_Forest_pull]; exact h)

/-- '(*plait/cut.Forest).root' -/
def sh_cut_Forest_root (pf_0 : Option Addr) (nx_1 : Int) (w : World) (R : Value → World → Prop) : Prop :=
  Calls Pg fn_cut_Forest_access #[(.pointer pf_0), (.int .i32 nx_1)] w fun e3 w2 => e3 = .returned (.tuple #[]) ∧
  pt pf_0 fun a4 =>
  ldS a4 w2.drew fun s5b s5l s5c =>
  pt pf_0 fun a6 =>
  ldS a6 w2.drew fun s7b s7l s7c =>
  ixS s7b s7l nx_1 9 fun a8 =>
  ldB (a8.add 3) w2.drew fun b9 =>
  ixS s5b s5l nx_1 9 fun a10 =>
  sto (a10.add 3) (.bool (!b9)) w2.drew fun w11 =>
  Calls Pg fn_cut_Forest_push #[(.pointer pf_0), (.int .i32 nx_1)] w11 fun e13 w12 => e13 = .returned (.tuple #[]) ∧
  R (.tuple #[]) w12
theorem eq_cut_Forest_root (pf_0 : Option Addr) (nx_1 : Int) (w : World) (R : Value → World → Prop) : sh_cut_Forest_root pf_0 nx_1 w R = denF Pg Eall Tryd.f56 (.seq (.leaf) (.seq (.reg (.tk 0 [] [] (.tk 1 [] [] (.tk 2 [] [] (.tk 3 [14, 15, 16] [16] (.tk 4 [] [] (.tk 5 [] [] (.tk 6 [] [] (.tk 7 [] [] (.tk 8 [10, 11, 12, 13, 14, 15, 16] [16] (.tk 9 [] [] (.tk 10 [] [] (.tk 11 [] [] (.tk 12 [13, 14, 15, 16] [16] (.tk 13 [] [] (.tk 14 [] [] (.tk 15 [] [] (.one 16 (.fin))))))))))))))))))) (.leaf))) [(.pointer pf_0), (.int .i32 nx_1)] w R := by kernel_rfl
theorem calls_cut_Forest_root (pf_0 : Option Addr) (nx_1 : Int) (w : World) (R : Value → World → Prop) (h : sh_cut_Forest_root pf_0 nx_1 w R) : Calls Pg fn_cut_Forest_root #[(.pointer pf_0), (.int .i32 nx_1)] w fun e w' => ∃ v, e = .returned v ∧ R v w' :=
  calls_of_den Eall_enter wide_mixed Tryd.func56 (by rw [← eq_cut_Forest_root]; exact h)

/-- '(*plait/cut.Forest).access' -/
def sh_cut_Forest_access (pf_0 : Option Addr) (nx_1 : Int) (w : World) (R : Value → World → Prop) : Prop :=
  ∃ (I2 : List Value → World → Prop) (m3 : List Value → World → Nat), I2 [(.int .i32 (-1 : Int)), (.int .i32 nx_1)] w ∧
  ∀ _ : Env, ∀ n4 : Int, ∀ n5 : Int, ∀ w6 : World, I2 [(.int .i32 n4), (.int .i32 n5)] w6 →
  bif (n5 != (-1 : Int)) then (
  Calls Pg fn_cut_Forest_lift #[(.pointer pf_0), (.int .i32 n5)] w6 fun e8 w7 => e8 = .returned (.tuple #[]) ∧
  pt pf_0 fun a9 =>
  ldS a9 w7 fun s10b s10l s10c =>
  ixS s10b s10l n5 9 fun a11 =>
  ixA (a11.add 1) 2 (1 : Int) 1 fun a12 =>
  sto a12 (.int .i32 n4) w7 fun w13 =>
  Calls Pg fn_cut_Forest_pull #[(.pointer pf_0), (.int .i32 n5)] w13 fun e15 w14 => e15 = .returned (.tuple #[]) ∧
  pt pf_0 fun a16 =>
  ldS a16 w14 fun s17b s17l s17c =>
  ixS s17b s17l n5 9 fun a18 =>
  ldI .i32 a18 w14 fun n19 =>
  (I2 [(.int .i32 n5), (.int .i32 n19)] w14 ∧ m3 [(.int .i32 n5), (.int .i32 n19)] w14 < m3 [(.int .i32 n4), (.int .i32 n5)] w6)) else (
  Calls Pg fn_cut_Forest_lift #[(.pointer pf_0), (.int .i32 nx_1)] w6 fun e21 w20 => e21 = .returned (.tuple #[]) ∧
  R (.tuple #[]) w20)
theorem eq_cut_Forest_access (pf_0 : Option Addr) (nx_1 : Int) (w : World) (R : Value → World → Prop) : sh_cut_Forest_access pf_0 nx_1 w R = denF Pg Eall Tryd.f58 (.seq (.leaf) (.seq (.seq (.leaf) (.block (.loop [4, 5] [.one (.int .i32), .one (.int .i32)] (.seq (.seq (.leaf) (.cond (.leaf) (.leaf))) (.seq (.block (.seq (.leaf) (.seq (.leaf) (.seq (.leaf) (.leaf))))) (.leaf)))))) (.leaf))) [(.pointer pf_0), (.int .i32 nx_1)] w R := by kernel_rfl
theorem calls_cut_Forest_access (pf_0 : Option Addr) (nx_1 : Int) (w : World) (R : Value → World → Prop) (h : sh_cut_Forest_access pf_0 nx_1 w R) : Calls Pg fn_cut_Forest_access #[(.pointer pf_0), (.int .i32 nx_1)] w fun e w' => ∃ v, e = .returned v ∧ R v w' :=
  calls_of_den Eall_enter wide_mixed Tryd.func58 (by rw [← eq_cut_Forest_access]; exact h)

/-- '(*plait/cut.Forest).push' -/
def sh_cut_Forest_push (pf_0 : Option Addr) (nx_1 : Int) (w : World) (R : Value → World → Prop) : Prop :=
  pt pf_0 fun a2 =>
  ldS a2 w fun s3b s3l s3c =>
  ixS s3b s3l nx_1 9 fun a4 =>
  ldB (a4.add 3) w fun b5 =>
  bif (!b5) then (
  R (.tuple #[]) w) else (
  sto (a4.add 3) (.bool false) w fun w6 =>
  ixA (a4.add 1) 2 (1 : Int) 1 fun a7 =>
  ldI .i32 a7 w6.drew fun n8 =>
  ixA (a4.add 1) 2 (0 : Int) 1 fun a9 =>
  ldI .i32 a9 w6.drew fun n10 =>
  ixA (a4.add 1) 2 (0 : Int) 1 fun a11 =>
  sto a11 (.int .i32 n8) w6.drew fun w12 =>
  ixA (a4.add 1) 2 (1 : Int) 1 fun a13 =>
  sto a13 (.int .i32 n10) w12 fun w14 =>
  ldI .i32 (a4.add 1) w14 fun n15 =>
  ldI .i32 ((a4.add 1).add 1) w14 fun n16 =>
  ∃ n17 : Int, 0 ≤ (0 : Int) ∧ (0 : Int) < ((2 : Nat) : Int) ∧ #[(Value.int .i32 n15), (Value.int .i32 n16)][(Int.toNat (0 : Int)) * 1]? = some (Value.int .i32 n17) ∧
  bif (n17 != (-1 : Int)) then (
  pt pf_0 fun a18 =>
  ldS a18 w14.drew fun s19b s19l s19c =>
  pt pf_0 fun a20 =>
  ldS a20 w14.drew fun s21b s21l s21c =>
  ixS s21b s21l n17 9 fun a22 =>
  ldB (a22.add 3) w14.drew fun b23 =>
  ixS s19b s19l n17 9 fun a24 =>
  sto (a24.add 3) (.bool (!b23)) w14.drew fun w25 =>
  ∃ n26 : Int, 0 ≤ (1 : Int) ∧ (1 : Int) < ((2 : Nat) : Int) ∧ #[(Value.int .i32 n15), (Value.int .i32 n16)][(Int.toNat (1 : Int)) * 1]? = some (Value.int .i32 n26) ∧
  bif (n26 != (-1 : Int)) then (
  pt pf_0 fun a27 =>
  ldS a27 w25.drew fun s28b s28l s28c =>
  pt pf_0 fun a29 =>
  ldS a29 w25.drew fun s30b s30l s30c =>
  ixS s30b s30l n26 9 fun a31 =>
  ldB (a31.add 3) w25.drew fun b32 =>
  ixS s28b s28l n26 9 fun a33 =>
  sto (a33.add 3) (.bool (!b32)) w25.drew fun w34 =>
  R (.tuple #[]) w34) else (
  R (.tuple #[]) w25)) else (
  ∃ n35 : Int, 0 ≤ (1 : Int) ∧ (1 : Int) < ((2 : Nat) : Int) ∧ #[(Value.int .i32 n15), (Value.int .i32 n16)][(Int.toNat (1 : Int)) * 1]? = some (Value.int .i32 n35) ∧
  bif (n35 != (-1 : Int)) then (
  pt pf_0 fun a36 =>
  ldS a36 w14.drew fun s37b s37l s37c =>
  pt pf_0 fun a38 =>
  ldS a38 w14.drew fun s39b s39l s39c =>
  ixS s39b s39l n35 9 fun a40 =>
  ldB (a40.add 3) w14.drew fun b41 =>
  ixS s37b s37l n35 9 fun a42 =>
  sto (a42.add 3) (.bool (!b41)) w14.drew fun w43 =>
  R (.tuple #[]) w43) else (
  R (.tuple #[]) w14)))
theorem eq_cut_Forest_push (pf_0 : Option Addr) (nx_1 : Int) (w : World) (R : Value → World → Prop) : sh_cut_Forest_push pf_0 nx_1 w R = denF Pg Eall Tryd.f62 (.seq (.leaf) (.seq (.seq (.leaf) (.cond (.leaf) (.leaf))) (.seq (.leaf) (.seq (.reg (.tk 0 [] [] (.tk 1 [] [] (.tk 2 [] [] (.tk 3 [] [] (.tk 4 [] [] (.tk 5 [] [] (.tk 6 [14, 15, 18, 19] [15, 19] (.tk 7 [] [] (.tk 8 [] [] (.tk 9 [] [] (.tk 10 [] [] (.tk 11 [14, 15, 18, 19] [15, 19] (.tk 12 [] [] (.tk 13 [] [] (.tk 14 [] [] (.tk 16 [] [] (.tk 17 [] [] (.one 15 (.tk 18 [] [] (.one 19 (.fin)))))))))))))))))))))) (.seq (.leaf) (.block (.unr 3 (.seq (.leaf) (.seq (.cond (.leaf) (.leaf)) (.seq (.block (.seq (.leaf) (.seq (.leaf) (.cond (.reg (.tk 0 [] [] (.tk 1 [] [] (.tk 2 [] [] (.tk 3 [14, 15, 16] [16] (.tk 4 [] [] (.tk 5 [] [] (.tk 6 [] [] (.tk 7 [] [] (.tk 8 [10, 11, 12, 13, 14, 15, 16] [16] (.tk 9 [] [] (.tk 10 [] [] (.tk 11 [] [] (.tk 12 [13, 14, 15, 16] [16] (.tk 13 [] [] (.tk 14 [] [] (.tk 15 [] [] (.one 16 (.fin))))))))))))))))))) (.leaf))))) (.leaf))))))))))) [(.pointer pf_0), (.int .i32 nx_1)] w R := by kernel_rfl
theorem calls_cut_Forest_push (pf_0 : Option Addr) (nx_1 : Int) (w : World) (R : Value → World → Prop) (h : sh_cut_Forest_push pf_0 nx_1 w R) : Calls Pg fn_cut_Forest_push #[(.pointer pf_0), (.int .i32 nx_1)] w fun e w' => ∃ v, e = .returned v ∧ R v w' :=
  calls_of_den Eall_enter wide_mixed Tryd.func62 (by rw [← eq_cut_Forest_push]; exact h)

/-- '(*plait/cut.Forest).top' -/
def sh_cut_Forest_top (pf_0 : Option Addr) (nx_1 : Int) (w : World) (R : Value → World → Prop) : Prop :=
  pt pf_0 fun a2 =>
  ldS a2 w fun s3b s3l s3c =>
  ixS s3b s3l nx_1 9 fun a4 =>
  ldI .i32 a4 w fun n5 =>
  bif (n5 == (-1 : Int)) then (
  R (.bool true) w) else (
  pt pf_0 fun a6 =>
  ldS a6 w fun s7b s7l s7c =>
  ixS s7b s7l n5 9 fun a8 =>
  ixA (a8.add 1) 2 (0 : Int) 1 fun a9 =>
  ldI .i32 a9 w fun n10 =>
  bif (n10 != nx_1) then (
  pt pf_0 fun a11 =>
  ldS a11 w fun s12b s12l s12c =>
  ixS s12b s12l n5 9 fun a13 =>
  ixA (a13.add 1) 2 (1 : Int) 1 fun a14 =>
  ldI .i32 a14 w fun n15 =>
  R (.bool (n15 != nx_1)) w) else (
  R (.bool false) w))
theorem eq_cut_Forest_top (pf_0 : Option Addr) (nx_1 : Int) (w : World) (R : Value → World → Prop) : sh_cut_Forest_top pf_0 nx_1 w R = denF Pg Eall Tryd.f77 (.seq (.leaf) (.seq (.leaf) (.seq (.leaf) (.leaf)))) [(.pointer pf_0), (.int .i32 nx_1)] w R := by kernel_rfl
theorem calls_cut_Forest_top (pf_0 : Option Addr) (nx_1 : Int) (w : World) (R : Value → World → Prop) (h : sh_cut_Forest_top pf_0 nx_1 w R) : Calls Pg fn_cut_Forest_top #[(.pointer pf_0), (.int .i32 nx_1)] w fun e w' => ∃ v, e = .returned v ∧ R v w' :=
  calls_of_den Eall_enter wide_mixed Tryd.func77 (by rw [← eq_cut_Forest_top]; exact h)

/-- '(*plait/cut.Forest).side' -/
def sh_cut_Forest_side (pf_0 : Option Addr) (nx_1 : Int) (w : World) (R : Value → World → Prop) : Prop :=
  pt pf_0 fun a2 =>
  ldS a2 w.drew fun s3b s3l s3c =>
  pt pf_0 fun a4 =>
  ldS a4 w.drew fun s5b s5l s5c =>
  ixS s5b s5l nx_1 9 fun a6 =>
  ldI .i32 a6 w.drew fun n7 =>
  ixS s3b s3l n7 9 fun a8 =>
  ixA (a8.add 1) 2 (1 : Int) 1 fun a9 =>
  ldI .i32 a9 w.drew fun n10 =>
  bif (n10 == nx_1) then (
  R (.int .i64 (1 : Int)) w.drew) else (
  R (.int .i64 (0 : Int)) w.drew)
theorem eq_cut_Forest_side (pf_0 : Option Addr) (nx_1 : Int) (w : World) (R : Value → World → Prop) : sh_cut_Forest_side pf_0 nx_1 w R = denF Pg Eall Tryd.f79 (.seq (.leaf) (.seq (.seq (.reg (.tk 0 [] [] (.tk 1 [] [] (.tk 2 [] [] (.tk 3 [] [] (.tk 4 [] [] (.tk 5 [] [] (.tk 6 [] [] (.tk 7 [] [] (.tk 8 [] [] (.tk 9 [] [] (.tk 10 [] [] (.tk 11 [] [] (.tk 12 [] [] (.tk 13 [] [] (.tk 14 [] [] (.tk 15 [] [] (.tk 16 [] [] (.tk 17 [] [] (.fin)))))))))))))))))))) (.cond (.seq (.leaf) (.leaf)) (.leaf))) (.seq (.leaf) (.leaf)))) [(.pointer pf_0), (.int .i32 nx_1)] w R := by kernel_rfl
theorem calls_cut_Forest_side (pf_0 : Option Addr) (nx_1 : Int) (w : World) (R : Value → World → Prop) (h : sh_cut_Forest_side pf_0 nx_1 w R) : Calls Pg fn_cut_Forest_side #[(.pointer pf_0), (.int .i32 nx_1)] w fun e w' => ∃ v, e = .returned v ∧ R v w' :=
  calls_of_den Eall_enter wide_mixed Tryd.func79 (by rw [← eq_cut_Forest_side]; exact h)

/-- '(*plait/cut.Forest).rotate' -/
def sh_cut_Forest_rotate (pf_0 : Option Addr) (nx_1 : Int) (w : World) (R : Value → World → Prop) : Prop :=
  pt pf_0 fun a2 =>
  ldS a2 w fun s3b s3l s3c =>
  ixS s3b s3l nx_1 9 fun a4 =>
  ldI .i32 a4 w fun n5 =>
  pt pf_0 fun a6 =>
  ldS a6 w fun s7b s7l s7c =>
  ixS s7b s7l n5 9 fun a8 =>
  ldI .i32 a8 w fun n9 =>
  Calls Pg fn_cut_Forest_side #[(.pointer pf_0), (.int .i32 nx_1)] w fun e12 w11 => ∃ n10 : Int, e12 = .returned (.int .i64 n10) ∧
  ∃ J13 : List Value → World → Prop, (
  Calls Pg fn_cut_Forest_top #[(.pointer pf_0), (.int .i32 n5)] w11 fun e16 w15 => ∃ b14 : Bool, e16 = .returned (.bool b14) ∧
  bif (!b14) then (
  pt pf_0 fun a17 =>
  ldS a17 w15.drew fun s18b s18l s18c =>
  ixS s18b s18l n9 9 fun a19 =>
  Calls Pg fn_cut_Forest_side #[(.pointer pf_0), (.int .i32 n5)] w15.drew fun e22 w21 => ∃ n20 : Int, e22 = .returned (.int .i64 n20) ∧
  w21.cell? a17 = some (.slice s18b s18l s18c) ∧ ixA (a19.add 1) 2 n20 1 fun a23 =>
  sto a23 (.int .i32 nx_1) w21 fun w24 =>
  J13 [] w24) else (
  J13 [] w15)) ∧ ∀ _ : Env, ∀ w25 : World, J13 [] w25 →
  pt pf_0 fun a26 =>
  ldS a26 w25 fun s27b s27l s27c =>
  ixS s27b s27l nx_1 9 fun a28 =>
  ixA (a28.add 1) 2 (IntKind.wrap .i64 ((1 : Int) - n10)) 1 fun a29 =>
  ldI .i32 a29 w25 fun n30 =>
  pt pf_0 fun a31 =>
  ldS a31 w25 fun s32b s32l s32c =>
  ixS s32b s32l n5 9 fun a33 =>
  ixA (a33.add 1) 2 n10 1 fun a34 =>
  sto a34 (.int .i32 n30) w25 fun w35 =>
  bif (n30 != (-1 : Int)) then (
  pt pf_0 fun a36 =>
  ldS a36 w35 fun s37b s37l s37c =>
  ixS s37b s37l n30 9 fun a38 =>
  sto a38 (.int .i32 n5) w35 fun w39 =>
  pt pf_0 fun a40 =>
  ldS a40 w39 fun s41b s41l s41c =>
  ixS s41b s41l nx_1 9 fun a42 =>
  ixA (a42.add 1) 2 (IntKind.wrap .i64 ((1 : Int) - n10)) 1 fun a43 =>
  sto a43 (.int .i32 n5) w39 fun w44 =>
  pt pf_0 fun a45 =>
  ldS a45 w44.drew fun s46b s46l s46c =>
  pt pf_0 fun a47 =>
  ldS a47 w44.drew fun s48b s48l s48c =>
  ixS s46b s46l n5 9 fun a49 =>
  sto a49 (.int .i32 nx_1) w44.drew fun w50 =>
  ixS s48b s48l nx_1 9 fun a51 =>
  sto a51 (.int .i32 n9) w50 fun w52 =>
  Calls Pg fn_cut_Forest_pull #[(.pointer pf_0), (.int .i32 n5)] w52 fun e54 w53 => e54 = .returned (.tuple #[]) ∧
  Calls Pg fn_cut_Forest_pull #[(.pointer pf_0), (.int .i32 nx_1)] w53 fun e56 w55 => e56 = .returned (.tuple #[]) ∧
  R (.tuple #[]) w55) else (
  pt pf_0 fun a57 =>
  ldS a57 w35 fun s58b s58l s58c =>
  ixS s58b s58l nx_1 9 fun a59 =>
  ixA (a59.add 1) 2 (IntKind.wrap .i64 ((1 : Int) - n10)) 1 fun a60 =>
  sto a60 (.int .i32 n5) w35 fun w61 =>
  pt pf_0 fun a62 =>
  ldS a62 w61.drew fun s63b s63l s63c =>
  pt pf_0 fun a64 =>
  ldS a64 w61.drew fun s65b s65l s65c =>
  ixS s63b s63l n5 9 fun a66 =>
  sto a66 (.int .i32 nx_1) w61.drew fun w67 =>
  ixS s65b s65l nx_1 9 fun a68 =>
  sto a68 (.int .i32 n9) w67 fun w69 =>
  Calls Pg fn_cut_Forest_pull #[(.pointer pf_0), (.int .i32 n5)] w69 fun e71 w70 => e71 = .returned (.tuple #[]) ∧
  Calls Pg fn_cut_Forest_pull #[(.pointer pf_0), (.int .i32 nx_1)] w70 fun e73 w72 => e73 = .returned (.tuple #[]) ∧
  R (.tuple #[]) w72)
theorem eq_cut_Forest_rotate (pf_0 : Option Addr) (nx_1 : Int) (w : World) (R : Value → World → Prop) : sh_cut_Forest_rotate pf_0 nx_1 w R = denF Pg Eall Tryd.f80 (.seq (.leaf) (.seq (.leaf) (.seq (.leaf) (.join [] [] (.seq (.leaf) (.cond (.reg (.tk 0 [] [] (.tk 1 [] [] (.tk 2 [] [] (.tk 3 [9, 10, 11, 12] [12] (.tk 4 [] [] (.tk 5 [] [] (.tk 6 [] [] (.tk 8 [] [] (.tk 9 [] [] (.tk 10 [] [] (.one 7 (.tk 11 [] [] (.one 12 (.fin))))))))))))))) (.leaf))) (.seq (.leaf) (.seq (.leaf) (.seq (.seq (.leaf) (.cond (.leaf) (.leaf))) (.seq (.leaf) (.seq (.reg (.tk 0 [] [] (.tk 1 [] [] (.tk 2 [] [] (.tk 3 [12, 13, 14, 15, 16, 17] [14, 17] (.tk 4 [] [] (.tk 5 [] [] (.tk 6 [] [] (.tk 7 [] [] (.tk 8 [12, 13, 14, 15, 16, 17] [14, 17] (.tk 9 [] [] (.tk 10 [] [] (.tk 11 [] [] (.tk 12 [] [] (.tk 13 [] [] (.one 14 (.tk 15 [] [] (.tk 16 [] [] (.one 17 (.fin)))))))))))))))))))) (.seq (.leaf) (.leaf))))))))))) [(.pointer pf_0), (.int .i32 nx_1)] w R := by kernel_rfl
theorem calls_cut_Forest_rotate (pf_0 : Option Addr) (nx_1 : Int) (w : World) (R : Value → World → Prop) (h : sh_cut_Forest_rotate pf_0 nx_1 w R) : Calls Pg fn_cut_Forest_rotate #[(.pointer pf_0), (.int .i32 nx_1)] w fun e w' => ∃ v, e = .returned v ∧ R v w' :=
  calls_of_den Eall_enter wide_mixed Tryd.func80 (by rw [← eq_cut_Forest_rotate]; exact h)

end Go.Proofs.YtaoemljoiahapaaDoor
