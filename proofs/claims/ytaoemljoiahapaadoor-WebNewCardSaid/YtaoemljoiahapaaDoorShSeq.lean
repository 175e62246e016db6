/-
What each function does, as one formula, printed by a program of this session out of the translation; the kernel holds each print against the translation.
Conditions: none.
-/
import Derived.Test.YtaoemljoiahapaaDoorSn
namespace Go.Proofs.YtaoemljoiahapaaDoor
open Go
set_option linter.unusedVariables false
set_option maxRecDepth 100000
/-- '(*plait/seq.Forest).Same' -/
def sh_seq_Forest_Same (pf_0 : Option Addr) (na_1 : Int) (nb_2 : Int) (w : World) (R : Value → World → Prop) : Prop :=
  alo #[(.int .i64 na_1), (.int .i64 nb_2)] T_int w fun a3 w4 =>
  Calls Pg fn_seq_Forest_check #[(.pointer pf_0), (.slice (some a3) 2 2)] w4 fun e7 w6 => ∃ v5 : Value, e7 = .returned v5 ∧
  isI v5 ∧ bif (!(nilI v5)) then (
  R (.tuple #[(.bool false), v5]) w6) else (
  Calls Pg fn_seq_Forest_same #[(.pointer pf_0), (.int .i32 (IntKind.wrap .i32 na_1)), (.int .i32 (IntKind.wrap .i32 nb_2))] w6 fun e10 w9 => ∃ b8 : Bool, e10 = .returned (.bool b8) ∧
  R (.tuple #[(.bool b8), .nilIface]) w9)
theorem eq_seq_Forest_Same (pf_0 : Option Addr) (na_1 : Int) (nb_2 : Int) (w : World) (R : Value → World → Prop) : sh_seq_Forest_Same pf_0 na_1 nb_2 w R = denF Pg Eall Tryd.f37 (.seq (.leaf) (.seq (.seq (.leaf) (.seq (.leaf) (.cond (.seq (.leaf) (.leaf)) (.leaf)))) (.seq (.leaf) (.leaf)))) [(.pointer pf_0), (.int .i64 na_1), (.int .i64 nb_2)] w R := by kernel_rfl
theorem calls_seq_Forest_Same (pf_0 : Option Addr) (na_1 : Int) (nb_2 : Int) (w : World) (R : Value → World → Prop) (h : sh_seq_Forest_Same pf_0 na_1 nb_2 w R) : Calls Pg fn_seq_Forest_Same #[(.pointer pf_0), (.int .i64 na_1), (.int .i64 nb_2)] w fun e w' => ∃ v, e = .returned v ∧ R v w' :=
  calls_of_den Eall_enter wide_mixed Tryd.func37 (by rw [← eq_seq_Forest_Same]; exact h)

/-- '(*plait/seq.Forest).List' -/
def sh_seq_Forest_List (pf_0 : Option Addr) (nx_1 : Int) (w : World) (R : Value → World → Prop) : Prop :=
  Calls Pg fn_seq_Forest_top #[(.pointer pf_0), (.int .i64 nx_1)] w fun e5 w4 => ∃ p2 : Option Addr, ∃ v3 : Value, e5 = .returned (.tuple #[(.pointer p2), v3]) ∧
  isI v3 ∧ bif (!(nilI v3)) then (
  R (.tuple #[(.slice none 0 0), v3]) w4) else (
  ∃ (I6 : List Value → World → Prop) (m7 : List Value → World → Nat), I6 [(.slice none 0 0), (.int .i32 (IntKind.wrap .i32 nx_1)), (.slice none 0 0)] w4 ∧
  ∀ _ : Env, ∀ s8b : Option Addr, ∀ s8l : Nat, ∀ s8c : Nat, ∀ n9 : Int, ∀ s10b : Option Addr, ∀ s10l : Nat, ∀ s10c : Nat, ∀ w11 : World, I6 [(.slice s8b s8l s8c), (.int .i32 n9), (.slice s10b s10l s10c)] w11 →
  ∃ J12 : List Value → World → Prop, (
  bif (n9 != (-1 : Int)) then (
  J12 [] w11) else (
  bif (decide ((s8l : Int) > (0 : Int))) then (
  J12 [] w11) else (
  R (.tuple #[(.slice s10b s10l s10c), .nilIface]) w11))) ∧ ∀ _ : Env, ∀ w13 : World, J12 [] w13 →
  ∃ (I14 : List Value → World → Prop) (m15 : List Value → World → Nat), I14 [(.slice s8b s8l s8c), (.int .i32 n9)] w13 ∧
  ∀ _ : Env, ∀ s16b : Option Addr, ∀ s16l : Nat, ∀ s16c : Nat, ∀ n17 : Int, ∀ w18 : World, I14 [(.slice s16b s16l s16c), (.int .i32 n17)] w18 →
  bif (n17 != (-1 : Int)) then (
  Calls Pg fn_seq_Forest_push #[(.pointer pf_0), (.int .i32 n17)] w18 fun e20 w19 => e20 = .returned (.tuple #[]) ∧
  alo #[(.int .i32 n17)] T_int32 w19 fun a21 w22 =>
  ∃ s23b : Option Addr, ∃ s23l : Nat, ∃ s23c : Nat, ∃ w24 : World, (Builtin.append_ #[T_sl_int32, T_sl_int32] T_sl_int32 #[(.slice s16b s16l s16c), (.slice (some a21) 1 1)]).run Pg w22 = .ok (.slice s23b s23l s23c) w24 ∧
  pt pf_0 fun a25 =>
  ldS a25 w24 fun s26b s26l s26c =>
  ixS s26b s26l n17 9 fun a27 =>
  ldI .i32 (a27.add 1) w24 fun n28 =>
  (I14 [(.slice s23b s23l s23c), (.int .i32 n28)] w24 ∧ m15 [(.slice s23b s23l s23c), (.int .i32 n28)] w24 < m15 [(.slice s16b s16l s16c), (.int .i32 n17)] w18)) else (
  ixS s16b s16l (IntKind.wrap .i64 ((s16l : Int) - (1 : Int))) 1 fun a29 =>
  ldI .i32 a29 w18 fun n30 =>
  0 ≤ (IntKind.wrap .i64 ((s16l : Int) - (1 : Int))) ∧ (IntKind.wrap .i64 ((s16l : Int) - (1 : Int))) ≤ ((s16c : Nat) : Int) ∧ alo #[(.int .i64 (IntKind.wrap .i64 n30))] T_int w18 fun a31 w32 =>
  ∃ s33b : Option Addr, ∃ s33l : Nat, ∃ s33c : Nat, ∃ w34 : World, (Builtin.append_ #[T_sl_int, T_sl_int] T_sl_int #[(.slice s10b s10l s10c), (.slice (some a31) 1 1)]).run Pg w32 = .ok (.slice s33b s33l s33c) w34 ∧
  pt pf_0 fun a35 =>
  ldS a35 w34 fun s36b s36l s36c =>
  ixS s36b s36l n30 9 fun a37 =>
  ldI .i32 (a37.add 2) w34 fun n38 =>
  (I6 [(.slice (if s16c = 0 then s16b else Option.map (fun a => Addr.add a (0 * 1)) s16b) ((Int.toNat (IntKind.wrap .i64 ((s16l : Int) - (1 : Int)))) - 0) (s16c - 0)), (.int .i32 n38), (.slice s33b s33l s33c)] w34 ∧ m7 [(.slice (if s16c = 0 then s16b else Option.map (fun a => Addr.add a (0 * 1)) s16b) ((Int.toNat (IntKind.wrap .i64 ((s16l : Int) - (1 : Int)))) - 0) (s16c - 0)), (.int .i32 n38), (.slice s33b s33l s33c)] w34 < m7 [(.slice s8b s8l s8c), (.int .i32 n9), (.slice s10b s10l s10c)] w11)))
theorem eq_seq_Forest_List (pf_0 : Option Addr) (nx_1 : Int) (w : World) (R : Value → World → Prop) : sh_seq_Forest_List pf_0 nx_1 w R = denF Pg Eall Tryd.f43 (.seq (.leaf) (.seq (.seq (.leaf) (.seq (.leaf) (.cond (.seq (.leaf) (.leaf)) (.leaf)))) (.seq (.leaf) (.seq (.leaf) (.seq (.leaf) (.seq (.block (.loop [9, 10, 8] [.one (.slc), .one (.int .i32), .one (.slc)] (.join [] [] (.seq (.leaf) (.cond (.leaf) (.leaf))) (.block (.seq (.block (.loop [9, 10] [.one (.slc), .one (.int .i32)] (.seq (.seq (.leaf) (.cond (.leaf) (.leaf))) (.seq (.block (.seq (.leaf) (.leaf))) (.leaf))))) (.seq (.leaf) (.seq (.leaf) (.seq (.leaf) (.leaf))))))))) (.seq (.leaf) (.leaf)))))))) [(.pointer pf_0), (.int .i64 nx_1)] w R := by kernel_rfl
theorem calls_seq_Forest_List (pf_0 : Option Addr) (nx_1 : Int) (w : World) (R : Value → World → Prop) (h : sh_seq_Forest_List pf_0 nx_1 w R) : Calls Pg fn_seq_Forest_List #[(.pointer pf_0), (.int .i64 nx_1)] w fun e w' => ∃ v, e = .returned v ∧ R v w' :=
  calls_of_den Eall_enter wide_mixed Tryd.func43 (by rw [← eq_seq_Forest_List]; exact h)

/-- '(*plait/seq.Forest).Cut' -/
def sh_seq_Forest_Cut (pf_0 : Option Addr) (nx_1 : Int) (w : World) (R : Value → World → Prop) : Prop :=
  alo #[(.int .i64 nx_1)] T_int w fun a2 w3 =>
  Calls Pg fn_seq_Forest_check #[(.pointer pf_0), (.slice (some a2) 1 1)] w3 fun e6 w5 => ∃ v4 : Value, e6 = .returned v4 ∧
  isI v4 ∧ bif (!(nilI v4)) then (
  R (.tuple #[(.bool false), v4]) w5) else (
  Calls Pg fn_seq_Forest_lift #[(.pointer pf_0), (.int .i32 (IntKind.wrap .i32 nx_1))] w5 fun e8 w7 => e8 = .returned (.tuple #[]) ∧
  pt pf_0 fun a9 =>
  ldS a9 w7 fun s10b s10l s10c =>
  ixS s10b s10l (IntKind.wrap .i32 nx_1) 9 fun a11 =>
  ldI .i32 (a11.add 1) w7 fun n12 =>
  bif (n12 == (-1 : Int)) then (
  R (.tuple #[(.bool false), .nilIface]) w7) else (
  pt pf_0 fun a13 =>
  ldS a13 w7.drew fun s14b s14l s14c =>
  pt pf_0 fun a15 =>
  ldS a15 w7.drew fun s16b s16l s16c =>
  ixS s14b s14l n12 9 fun a17 =>
  sto a17 (.int .i32 (-1 : Int)) w7.drew fun w18 =>
  ixS s16b s16l (IntKind.wrap .i32 nx_1) 9 fun a19 =>
  sto (a19.add 1) (.int .i32 (-1 : Int)) w18 fun w20 =>
  Calls Pg fn_seq_Forest_pull #[(.pointer pf_0), (.int .i32 (IntKind.wrap .i32 nx_1))] w20 fun e22 w21 => e22 = .returned (.tuple #[]) ∧
  R (.tuple #[(.bool true), .nilIface]) w21))
theorem eq_seq_Forest_Cut (pf_0 : Option Addr) (nx_1 : Int) (w : World) (R : Value → World → Prop) : sh_seq_Forest_Cut pf_0 nx_1 w R = denF Pg Eall Tryd.f55 (.seq (.leaf) (.seq (.seq (.leaf) (.seq (.leaf) (.cond (.seq (.leaf) (.leaf)) (.leaf)))) (.seq (.leaf) (.seq (.leaf) (.seq (.leaf) (.seq (.seq (.leaf) (.cond (.seq (.leaf) (.leaf)) (.leaf))) (.seq (.reg (.tk 0 [] [] (.tk 1 [] [] (.tk 2 [] [] (.tk 3 [10, 11, 12, 13, 14, 15] [12, 15] (.tk 4 [] [] (.tk 5 [] [] (.tk 6 [] [] (.tk 7 [] [] (.tk 8 [10, 11, 12, 13, 14, 15] [12, 15] (.tk 9 [] [] (.tk 10 [] [] (.tk 11 [] [] (.one 12 (.tk 13 [] [] (.tk 14 [] [] (.one 15 (.fin)))))))))))))))))) (.seq (.leaf) (.seq (.leaf) (.leaf)))))))))) [(.pointer pf_0), (.int .i64 nx_1)] w R := by kernel_rfl
theorem calls_seq_Forest_Cut (pf_0 : Option Addr) (nx_1 : Int) (w : World) (R : Value → World → Prop) (h : sh_seq_Forest_Cut pf_0 nx_1 w R) : Calls Pg fn_seq_Forest_Cut #[(.pointer pf_0), (.int .i64 nx_1)] w fun e w' => ∃ v, e = .returned v ∧ R v w' :=
  calls_of_den Eall_enter wide_mixed Tryd.func55 (by rw [← eq_seq_Forest_Cut]; exact h)

/-- '(*plait/seq.Forest).Join' -/
def sh_seq_Forest_Join (pf_0 : Option Addr) (na_1 : Int) (nb_2 : Int) (w : World) (R : Value → World → Prop) : Prop :=
  alo #[(.int .i64 na_1), (.int .i64 nb_2)] T_int w fun a3 w4 =>
  Calls Pg fn_seq_Forest_check #[(.pointer pf_0), (.slice (some a3) 2 2)] w4 fun e7 w6 => ∃ v5 : Value, e7 = .returned v5 ∧
  isI v5 ∧ bif (!(nilI v5)) then (
  R v5 w6) else (
  Calls Pg fn_seq_Forest_same #[(.pointer pf_0), (.int .i32 (IntKind.wrap .i32 na_1)), (.int .i32 (IntKind.wrap .i32 nb_2))] w6 fun e10 w9 => ∃ b8 : Bool, e10 = .returned (.bool b8) ∧
  bif b8 then (
  R (.iface T_api_Errno (.int .i64 (20 : Int))) w9) else (
  Calls Pg fn_seq_Forest_end #[(.pointer pf_0), (.int .i32 (IntKind.wrap .i32 na_1)), (.bool false)] w9 fun e13 w12 => ∃ n11 : Int, e13 = .returned (.int .i32 n11) ∧
  Calls Pg fn_seq_Forest_lift #[(.pointer pf_0), (.int .i32 (IntKind.wrap .i32 nb_2))] w12 fun e15 w14 => e15 = .returned (.tuple #[]) ∧
  Calls Pg fn_seq_Forest_hang #[(.pointer pf_0), (.int .i32 (IntKind.wrap .i32 nb_2)), (.int .i32 n11), (.bool false)] w14 fun e17 w16 => e17 = .returned (.tuple #[]) ∧
  Calls Pg fn_seq_Forest_pull #[(.pointer pf_0), (.int .i32 n11)] w16 fun e19 w18 => e19 = .returned (.tuple #[]) ∧
  R .nilIface w18))
theorem eq_seq_Forest_Join (pf_0 : Option Addr) (na_1 : Int) (nb_2 : Int) (w : World) (R : Value → World → Prop) : sh_seq_Forest_Join pf_0 na_1 nb_2 w R = denF Pg Eall Tryd.f57 (.seq (.leaf) (.seq (.seq (.leaf) (.seq (.leaf) (.cond (.seq (.leaf) (.leaf)) (.leaf)))) (.seq (.leaf) (.seq (.seq (.leaf) (.cond (.seq (.leaf) (.leaf)) (.leaf))) (.seq (.leaf) (.seq (.leaf) (.seq (.leaf) (.seq (.leaf) (.seq (.leaf) (.leaf)))))))))) [(.pointer pf_0), (.int .i64 na_1), (.int .i64 nb_2)] w R := by kernel_rfl
theorem calls_seq_Forest_Join (pf_0 : Option Addr) (na_1 : Int) (nb_2 : Int) (w : World) (R : Value → World → Prop) (h : sh_seq_Forest_Join pf_0 na_1 nb_2 w R) : Calls Pg fn_seq_Forest_Join #[(.pointer pf_0), (.int .i64 na_1), (.int .i64 nb_2)] w fun e w' => ∃ v, e = .returned v ∧ R v w' :=
  calls_of_den Eall_enter wide_mixed Tryd.func57 (by rw [← eq_seq_Forest_Join]; exact h)

/-- 'plait/seq.New' -/
def sh_seq_New (nn_0 : Int) (w : World) (R : Value → World → Prop) : Prop :=
  ∃ J1 : List Value → World → Prop, (
  bif (decide (nn_0 < (1 : Int))) then (
  R (.tuple #[(.pointer none), (.iface T_api_Errno (.int .i64 (1 : Int)))]) w) else (
  bif (decide (nn_0 > (8388608 : Int))) then (
  R (.tuple #[(.pointer none), (.iface T_api_Errno (.int .i64 (1 : Int)))]) w) else (
  J1 [] w))) ∧ ∀ _ : Env, ∀ w2 : World, J1 [] w2 →
  0 ≤ nn_0 ∧ nn_0 ≤ nn_0 ∧ (56 : Int) * nn_0 ≤ 140737488355328 ∧ alo (zerosOf #[(.int .i32 (0 : Int)), (.int .i32 (0 : Int)), (.int .i32 (0 : Int)), (.bool false), (.int .i32 (0 : Int)), (.int .i64 (0 : Int)), (.int .i64 (0 : Int)), (.int .i64 (0 : Int)), (.int .i64 (0 : Int))] (Int.toNat nn_0)) T_seq_node w2 fun a3 w4 =>
  alo #[(.slice (some a3) (Int.toNat nn_0) (Int.toNat nn_0))] T_seq_Forest w4 fun a5 w6 =>
  ldS a5 w6 fun s7b s7l s7c =>
  ∃ (I8 : List Value → World → Prop) (m9 : List Value → World → Nat), I8 [(.int .i64 (0 : Int))] w6 ∧
  ∀ _ : Env, ∀ n10 : Int, ∀ w11 : World, I8 [(.int .i64 n10)] w11 →
  bif (decide (n10 < (s7l : Int))) then (
  ldS a5 w11 fun s12b s12l s12c =>
  ixS s12b s12l n10 9 fun a13 =>
  sto a13 (.int .i32 (-1 : Int)) w11 fun w14 =>
  sto (a13.add 1) (.int .i32 (-1 : Int)) w14 fun w15 =>
  sto (a13.add 2) (.int .i32 (-1 : Int)) w15 fun w16 =>
  sto (a13.add 3) (.bool false) w16 fun w17 =>
  sto (a13.add 4) (.int .i32 (1 : Int)) w17 fun w18 =>
  sto (a13.add 5) (.int .i64 (0 : Int)) w18 fun w19 =>
  sto (a13.add 6) (.int .i64 (0 : Int)) w19 fun w20 =>
  sto (a13.add 7) (.int .i64 (0 : Int)) w20 fun w21 =>
  sto (a13.add 8) (.int .i64 (0 : Int)) w21 fun w22 =>
  (I8 [(.int .i64 (IntKind.wrap .i64 (n10 + (1 : Int))))] w22 ∧ m9 [(.int .i64 (IntKind.wrap .i64 (n10 + (1 : Int))))] w22 < m9 [(.int .i64 n10)] w11)) else (
  R (.tuple #[(.pointer (some a5)), .nilIface]) w11)
theorem eq_seq_New (nn_0 : Int) (w : World) (R : Value → World → Prop) : sh_seq_New nn_0 w R = denF Pg Eall Tryd.f59 (.seq (.leaf) (.join [] [] (.seq (.leaf) (.cond (.seq (.leaf) (.leaf)) (.leaf))) (.seq (.leaf) (.seq (.seq (.leaf) (.block (.loop [22] [.one (.int .i64)] (.seq (.leaf) (.seq (.cond (.leaf) (.leaf)) (.seq (.block (.seq (.leaf) (.leaf))) (.leaf))))))) (.seq (.leaf) (.leaf)))))) [(.int .i64 nn_0)] w R := by kernel_rfl
theorem calls_seq_New (nn_0 : Int) (w : World) (R : Value → World → Prop) (h : sh_seq_New nn_0 w R) : Calls Pg fn_seq_New #[(.int .i64 nn_0)] w fun e w' => ∃ v, e = .returned v ∧ R v w' :=
  calls_of_den Eall_enter wide_mixed Tryd.func59 (by rw [← eq_seq_New]; exact h)

/-- '(*plait/seq.Forest).check' -/
def sh_seq_Forest_check (pf_0 : Option Addr) (sl_1b : Option Addr) (sl_1l : Nat) (sl_1c : Nat) (w : World) (R : Value → World → Prop) : Prop :=
  bif (Option.isNone pf_0) then (
  R (.iface T_api_Errno (.int .i64 (1 : Int))) w) else (
  ∃ (I2 : List Value → World → Prop) (m3 : List Value → World → Nat), I2 [(.int .i64 (0 : Int))] w ∧
  ∀ _ : Env, ∀ n4 : Int, ∀ w5 : World, I2 [(.int .i64 n4)] w5 →
  bif (decide (n4 < (sl_1l : Int))) then (
  ixS sl_1b sl_1l n4 1 fun a6 =>
  ldI .i64 a6 w5 fun n7 =>
  bif (decide (n7 < (0 : Int))) then (
  R (.iface T_api_Errno (.int .i64 (12 : Int))) w5) else (
  pt pf_0 fun a8 =>
  ldS a8 w5 fun s9b s9l s9c =>
  bif (decide (n7 ≥ (s9l : Int))) then (
  R (.iface T_api_Errno (.int .i64 (12 : Int))) w5) else (
  (I2 [(.int .i64 (IntKind.wrap .i64 (n4 + (1 : Int))))] w5 ∧ m3 [(.int .i64 (IntKind.wrap .i64 (n4 + (1 : Int))))] w5 < m3 [(.int .i64 n4)] w5)))) else (
  R .nilIface w5))
theorem eq_seq_Forest_check (pf_0 : Option Addr) (sl_1b : Option Addr) (sl_1l : Nat) (sl_1c : Nat) (w : World) (R : Value → World → Prop) : sh_seq_Forest_check pf_0 sl_1b sl_1l sl_1c w R = denF Pg Eall Tryd.f60 (.seq (.leaf) (.seq (.seq (.leaf) (.cond (.seq (.leaf) (.leaf)) (.leaf))) (.seq (.seq (.leaf) (.block (.loop [12] [.one (.int .i64)] (.seq (.leaf) (.seq (.cond (.leaf) (.leaf)) (.seq (.block (.seq (.leaf) (.seq (.leaf) (.cond (.seq (.leaf) (.leaf)) (.leaf))))) (.leaf))))))) (.seq (.leaf) (.leaf))))) [(.pointer pf_0), (.slice sl_1b sl_1l sl_1c)] w R := by kernel_rfl
theorem calls_seq_Forest_check (pf_0 : Option Addr) (sl_1b : Option Addr) (sl_1l : Nat) (sl_1c : Nat) (w : World) (R : Value → World → Prop) (h : sh_seq_Forest_check pf_0 sl_1b sl_1l sl_1c w R) : Calls Pg fn_seq_Forest_check #[(.pointer pf_0), (.slice sl_1b sl_1l sl_1c)] w fun e w' => ∃ v, e = .returned v ∧ R v w' :=
  calls_of_den Eall_enter wide_mixed Tryd.func60 (by rw [← eq_seq_Forest_check]; exact h)

/-- '(*plait/seq.Forest).same' -/
def sh_seq_Forest_same (pf_0 : Option Addr) (na_1 : Int) (nb_2 : Int) (w : World) (R : Value → World → Prop) : Prop :=
  bif (na_1 == nb_2) then (
  R (.bool true) w) else (
  Calls Pg fn_seq_Forest_lift #[(.pointer pf_0), (.int .i32 na_1)] w fun e4 w3 => e4 = .returned (.tuple #[]) ∧
  Calls Pg fn_seq_Forest_lift #[(.pointer pf_0), (.int .i32 nb_2)] w3 fun e6 w5 => e6 = .returned (.tuple #[]) ∧
  pt pf_0 fun a7 =>
  ldS a7 w5 fun s8b s8l s8c =>
  ixS s8b s8l na_1 9 fun a9 =>
  ldI .i32 a9 w5 fun n10 =>
  R (.bool (n10 != (-1 : Int))) w5)
theorem eq_seq_Forest_same (pf_0 : Option Addr) (na_1 : Int) (nb_2 : Int) (w : World) (R : Value → World → Prop) : sh_seq_Forest_same pf_0 na_1 nb_2 w R = denF Pg Eall Tryd.f61 (.seq (.leaf) (.seq (.seq (.leaf) (.cond (.seq (.leaf) (.leaf)) (.leaf))) (.seq (.leaf) (.seq (.leaf) (.seq (.leaf) (.leaf)))))) [(.pointer pf_0), (.int .i32 na_1), (.int .i32 nb_2)] w R := by kernel_rfl
theorem calls_seq_Forest_same (pf_0 : Option Addr) (na_1 : Int) (nb_2 : Int) (w : World) (R : Value → World → Prop) (h : sh_seq_Forest_same pf_0 na_1 nb_2 w R) : Calls Pg fn_seq_Forest_same #[(.pointer pf_0), (.int .i32 na_1), (.int .i32 nb_2)] w fun e w' => ∃ v, e = .returned v ∧ R v w' :=
  calls_of_den Eall_enter wide_mixed Tryd.func61 (by rw [← eq_seq_Forest_same]; exact h)

/-- '(*plait/seq.Forest).top' -/
def sh_seq_Forest_top (pf_0 : Option Addr) (nx_1 : Int) (w : World) (R : Value → World → Prop) : Prop :=
  alo #[(.int .i64 nx_1)] T_int w fun a2 w3 =>
  Calls Pg fn_seq_Forest_check #[(.pointer pf_0), (.slice (some a2) 1 1)] w3 fun e6 w5 => ∃ v4 : Value, e6 = .returned v4 ∧
  isI v4 ∧ bif (!(nilI v4)) then (
  R (.tuple #[(.pointer none), v4]) w5) else (
  Calls Pg fn_seq_Forest_lift #[(.pointer pf_0), (.int .i32 (IntKind.wrap .i32 nx_1))] w5 fun e8 w7 => e8 = .returned (.tuple #[]) ∧
  Calls Pg fn_seq_Forest_push #[(.pointer pf_0), (.int .i32 (IntKind.wrap .i32 nx_1))] w7 fun e10 w9 => e10 = .returned (.tuple #[]) ∧
  pt pf_0 fun a11 =>
  ldS a11 w9 fun s12b s12l s12c =>
  ixS s12b s12l nx_1 9 fun a13 =>
  R (.tuple #[(.pointer (some a13)), .nilIface]) w9)
theorem eq_seq_Forest_top (pf_0 : Option Addr) (nx_1 : Int) (w : World) (R : Value → World → Prop) : sh_seq_Forest_top pf_0 nx_1 w R = denF Pg Eall Tryd.f64 (.seq (.leaf) (.seq (.seq (.leaf) (.seq (.leaf) (.cond (.seq (.leaf) (.leaf)) (.leaf)))) (.seq (.leaf) (.seq (.leaf) (.seq (.leaf) (.leaf)))))) [(.pointer pf_0), (.int .i64 nx_1)] w R := by kernel_rfl
theorem calls_seq_Forest_top (pf_0 : Option Addr) (nx_1 : Int) (w : World) (R : Value → World → Prop) (h : sh_seq_Forest_top pf_0 nx_1 w R) : Calls Pg fn_seq_Forest_top #[(.pointer pf_0), (.int .i64 nx_1)] w fun e w' => ∃ v, e = .returned v ∧ R v w' :=
  calls_of_den Eall_enter wide_mixed Tryd.func64 (by rw [← eq_seq_Forest_top]; exact h)

/-- '(*plait/seq.Forest).push' -/
def sh_seq_Forest_push (pf_0 : Option Addr) (nx_1 : Int) (w : World) (R : Value → World → Prop) : Prop :=
  pt pf_0 fun a2 =>
  ldS a2 w fun s3b s3l s3c =>
  ixS s3b s3l nx_1 9 fun a4 =>
  ldB (a4.add 3) w fun b5 =>
  bif (!b5) then (
  R (.tuple #[]) w) else (
  sto (a4.add 3) (.bool false) w fun w6 =>
  ldI .i32 (a4.add 2) w6.drew fun n7 =>
  ldI .i32 (a4.add 1) w6.drew fun n8 =>
  sto (a4.add 1) (.int .i32 n7) w6.drew fun w9 =>
  sto (a4.add 2) (.int .i32 n8) w9 fun w10 =>
  ldI .i32 (a4.add 1) w10.drew fun n11 =>
  ldI .i32 (a4.add 2) w10.drew fun n12 =>
  ∃ n13 : Int, 0 ≤ (0 : Int) ∧ (0 : Int) < ((2 : Nat) : Int) ∧ #[(Value.int .i32 n11), (Value.int .i32 n12)][(Int.toNat (0 : Int)) * 1]? = some (Value.int .i32 n13) ∧
  bif (n13 != (-1 : Int)) then (
  pt pf_0 fun a14 =>
  ldS a14 (World.drew w10.drew) fun s15b s15l s15c =>
  pt pf_0 fun a16 =>
  ldS a16 (World.drew w10.drew) fun s17b s17l s17c =>
  ixS s17b s17l n13 9 fun a18 =>
  ldB (a18.add 3) (World.drew w10.drew) fun b19 =>
  ixS s15b s15l n13 9 fun a20 =>
  sto (a20.add 3) (.bool (!b19)) (World.drew w10.drew) fun w21 =>
  ∃ n22 : Int, 0 ≤ (1 : Int) ∧ (1 : Int) < ((2 : Nat) : Int) ∧ #[(Value.int .i32 n11), (Value.int .i32 n12)][(Int.toNat (1 : Int)) * 1]? = some (Value.int .i32 n22) ∧
  bif (n22 != (-1 : Int)) then (
  pt pf_0 fun a23 =>
  ldS a23 w21.drew fun s24b s24l s24c =>
  pt pf_0 fun a25 =>
  ldS a25 w21.drew fun s26b s26l s26c =>
  ixS s26b s26l n22 9 fun a27 =>
  ldB (a27.add 3) w21.drew fun b28 =>
  ixS s24b s24l n22 9 fun a29 =>
  sto (a29.add 3) (.bool (!b28)) w21.drew fun w30 =>
  R (.tuple #[]) w30) else (
  R (.tuple #[]) w21)) else (
  ∃ n31 : Int, 0 ≤ (1 : Int) ∧ (1 : Int) < ((2 : Nat) : Int) ∧ #[(Value.int .i32 n11), (Value.int .i32 n12)][(Int.toNat (1 : Int)) * 1]? = some (Value.int .i32 n31) ∧
  bif (n31 != (-1 : Int)) then (
  pt pf_0 fun a32 =>
  ldS a32 (World.drew w10.drew) fun s33b s33l s33c =>
  pt pf_0 fun a34 =>
  ldS a34 (World.drew w10.drew) fun s35b s35l s35c =>
  ixS s35b s35l n31 9 fun a36 =>
  ldB (a36.add 3) (World.drew w10.drew) fun b37 =>
  ixS s33b s33l n31 9 fun a38 =>
  sto (a38.add 3) (.bool (!b37)) (World.drew w10.drew) fun w39 =>
  R (.tuple #[]) w39) else (
  R (.tuple #[]) w10.drew)))
theorem eq_seq_Forest_push (pf_0 : Option Addr) (nx_1 : Int) (w : World) (R : Value → World → Prop) : sh_seq_Forest_push pf_0 nx_1 w R = denF Pg Eall Tryd.f65 (.seq (.leaf) (.seq (.seq (.leaf) (.cond (.leaf) (.leaf))) (.seq (.leaf) (.seq (.reg (.tk 0 [] [] (.tk 1 [] [] (.tk 2 [] [] (.tk 3 [] [] (.tk 4 [] [] (.tk 5 [10, 11, 12, 13, 14, 15] [12, 15] (.tk 6 [] [] (.tk 7 [] [] (.tk 8 [] [] (.tk 9 [10, 11, 12, 13, 14, 15] [12, 15] (.tk 10 [] [] (.tk 11 [] [] (.one 12 (.tk 13 [] [] (.tk 14 [] [] (.one 15 (.fin)))))))))))))))))) (.seq (.reg (.tk 0 [] [] (.tk 1 [] [] (.tk 2 [] [] (.tk 3 [] [] (.tk 4 [] [] (.tk 5 [] [] (.tk 6 [] [] (.tk 7 [] [] (.tk 8 [] [] (.tk 9 [] [] (.fin)))))))))))) (.block (.unr 3 (.seq (.leaf) (.seq (.cond (.leaf) (.leaf)) (.seq (.block (.seq (.leaf) (.seq (.leaf) (.cond (.reg (.tk 0 [] [] (.tk 1 [] [] (.tk 2 [] [] (.tk 3 [14, 15, 16] [16] (.tk 4 [] [] (.tk 5 [] [] (.tk 6 [] [] (.tk 7 [] [] (.tk 8 [10, 11, 12, 13, 14, 15, 16] [16] (.tk 9 [] [] (.tk 10 [] [] (.tk 11 [] [] (.tk 12 [13, 14, 15, 16] [16] (.tk 13 [] [] (.tk 14 [] [] (.tk 15 [] [] (.one 16 (.fin))))))))))))))))))) (.leaf))))) (.leaf))))))))))) [(.pointer pf_0), (.int .i32 nx_1)] w R := by kernel_rfl
theorem calls_seq_Forest_push (pf_0 : Option Addr) (nx_1 : Int) (w : World) (R : Value → World → Prop) (h : sh_seq_Forest_push pf_0 nx_1 w R) : Calls Pg fn_seq_Forest_push #[(.pointer pf_0), (.int .i32 nx_1)] w fun e w' => ∃ v, e = .returned v ∧ R v w' :=
  calls_of_den Eall_enter wide_mixed Tryd.func65 (by rw [← eq_seq_Forest_push]; exact h)

/-- '(*plait/seq.Forest).At' -/
def sh_seq_Forest_At (pf_0 : Option Addr) (nx_1 : Int) (nk_2 : Int) (w : World) (R : Value → World → Prop) : Prop :=
  alo #[(.pointer pf_0)] T_p_seq_Forest w fun a3 w4 =>
  alo #[(.int .i64 nk_2)] T_int w4 fun a5 w6 =>
  ldP a3 w6 fun p7 =>
  Calls Pg fn_seq_Forest_top #[(.pointer p7), (.int .i64 nx_1)] w6 fun e11 w10 => ∃ p8 : Option Addr, ∃ v9 : Value, e11 = .returned (.tuple #[(.pointer p8), v9]) ∧
  isI v9 ∧ bif (!(nilI v9)) then (
  R (.tuple #[(.int .i64 (0 : Int)), v9]) w10) else (
  ldI .i64 a5 w10.drew fun n12 =>
  bif (decide (n12 < (0 : Int))) then (
  R (.tuple #[(.int .i64 (0 : Int)), (.iface T_api_Errno (.int .i64 (1 : Int)))]) w10.drew) else (
  ldI .i64 a5 w10.drew fun n13 =>
  pt p8 fun a14 =>
  ldI .i32 (a14.add 4) w10.drew fun n15 =>
  bif (decide (n13 ≥ (IntKind.wrap .i64 n15))) then (
  R (.tuple #[(.int .i64 (0 : Int)), (.iface T_api_Errno (.int .i64 (1 : Int)))]) w10.drew) else (
  ldP a3 w10.drew fun p16 =>
  Calls Pg fn_seq_Forest_down #[(.pointer p16), (.int .i32 (IntKind.wrap .i32 nx_1)), (.func (.func fn_seq_Forest_At_1) #[] #[(.pointer (some a3)), (.pointer (some a5))])] w10.drew fun e19 w18 => ∃ n17 : Int, e19 = .returned (.int .i64 n17) ∧
  R (.tuple #[(.int .i64 n17), .nilIface]) w18)))
theorem eq_seq_Forest_At (pf_0 : Option Addr) (nx_1 : Int) (nk_2 : Int) (w : World) (R : Value → World → Prop) : sh_seq_Forest_At pf_0 nx_1 nk_2 w R = denF Pg Eall Tryd.f70 (.seq (.leaf) (.seq (.leaf) (.seq (.block (.seq (.leaf) (.cond (.seq (.leaf) (.leaf)) (.seq (.reg (.tk 0 [] [] (.tk 1 [] [] (.tk 2 [] [] (.tk 3 [] [] (.tk 4 [] [] (.tk 5 [] [] (.tk 6 [] [] (.tk 7 [] [] (.tk 8 [] [] (.tk 9 [] [] (.tk 10 [] [] (.tk 11 [] [] (.fin)))))))))))))) (.cond (.seq (.leaf) (.leaf)) (.leaf)))))) (.seq (.leaf) (.leaf))))) [(.pointer pf_0), (.int .i64 nx_1), (.int .i64 nk_2)] w R := by kernel_rfl
theorem calls_seq_Forest_At (pf_0 : Option Addr) (nx_1 : Int) (nk_2 : Int) (w : World) (R : Value → World → Prop) (h : sh_seq_Forest_At pf_0 nx_1 nk_2 w R) : Calls Pg fn_seq_Forest_At #[(.pointer pf_0), (.int .i64 nx_1), (.int .i64 nk_2)] w fun e w' => ∃ v, e = .returned v ∧ R v w' :=
  calls_of_den Eall_enter wide_mixed Tryd.func70 (by rw [← eq_seq_Forest_At]; exact h)

/-- '(*plait/seq.Forest).Rank' -/
def sh_seq_Forest_Rank (pf_0 : Option Addr) (nx_1 : Int) (w : World) (R : Value → World → Prop) : Prop :=
  Calls Pg fn_seq_Forest_top #[(.pointer pf_0), (.int .i64 nx_1)] w fun e5 w4 => ∃ p2 : Option Addr, ∃ v3 : Value, e5 = .returned (.tuple #[(.pointer p2), v3]) ∧
  isI v3 ∧ bif (!(nilI v3)) then (
  R (.tuple #[(.int .i64 (0 : Int)), v3]) w4) else (
  pt p2 fun a6 =>
  ldI .i32 (a6.add 1) w4 fun n7 =>
  bif (n7 == (-1 : Int)) then (
  R (.tuple #[(.int .i64 (0 : Int)), v3]) w4) else (
  pt pf_0 fun a8 =>
  ldS a8 w4.drew fun s9b s9l s9c =>
  pt p2 fun a10 =>
  ldI .i32 (a10.add 1) w4.drew fun n11 =>
  ixS s9b s9l n11 9 fun a12 =>
  ldI .i32 (a12.add 4) w4.drew fun n13 =>
  R (.tuple #[(.int .i64 (IntKind.wrap .i64 n13)), .nilIface]) w4.drew))
theorem eq_seq_Forest_Rank (pf_0 : Option Addr) (nx_1 : Int) (w : World) (R : Value → World → Prop) : sh_seq_Forest_Rank pf_0 nx_1 w R = denF Pg Eall Tryd.f72 (.seq (.leaf) (.seq (.leaf) (.seq (.seq (.leaf) (.cond (.seq (.leaf) (.leaf)) (.leaf))) (.seq (.reg (.tk 0 [] [] (.tk 1 [] [] (.tk 2 [] [] (.tk 3 [] [] (.tk 4 [] [] (.tk 5 [] [] (.tk 6 [] [] (.tk 7 [] [] (.tk 8 [] [] (.tk 9 [] [] (.tk 10 [] [] (.tk 11 [] [] (.tk 12 [] [] (.tk 13 [] [] (.fin)))))))))))))))) (.leaf))))) [(.pointer pf_0), (.int .i64 nx_1)] w R := by kernel_rfl
theorem calls_seq_Forest_Rank (pf_0 : Option Addr) (nx_1 : Int) (w : World) (R : Value → World → Prop) (h : sh_seq_Forest_Rank pf_0 nx_1 w R) : Calls Pg fn_seq_Forest_Rank #[(.pointer pf_0), (.int .i64 nx_1)] w fun e w' => ∃ v, e = .returned v ∧ R v w' :=
  calls_of_den Eall_enter wide_mixed Tryd.func72 (by rw [← eq_seq_Forest_Rank]; exact h)

/-- '(*plait/seq.Forest).lift' -/
def sh_seq_Forest_lift (pf_0 : Option Addr) (nx_1 : Int) (w : World) (R : Value → World → Prop) : Prop :=
  ∃ (I2 : List Value → World → Prop) (m3 : List Value → World → Nat), I2 [(.slice none 0 0), (.int .i32 nx_1)] w ∧
  ∀ _ : Env, ∀ s4b : Option Addr, ∀ s4l : Nat, ∀ s4c : Nat, ∀ n5 : Int, ∀ w6 : World, I2 [(.slice s4b s4l s4c), (.int .i32 n5)] w6 →
  bif (n5 != (-1 : Int)) then (
  alo #[(.int .i32 n5)] T_int32 w6 fun a7 w8 =>
  ∃ s9b : Option Addr, ∃ s9l : Nat, ∃ s9c : Nat, ∃ w10 : World, (Builtin.append_ #[T_sl_int32, T_sl_int32] T_sl_int32 #[(.slice s4b s4l s4c), (.slice (some a7) 1 1)]).run Pg w8 = .ok (.slice s9b s9l s9c) w10 ∧
  pt pf_0 fun a11 =>
  ldS a11 w10 fun s12b s12l s12c =>
  ixS s12b s12l n5 9 fun a13 =>
  ldI .i32 a13 w10 fun n14 =>
  (I2 [(.slice s9b s9l s9c), (.int .i32 n14)] w10 ∧ m3 [(.slice s9b s9l s9c), (.int .i32 n14)] w10 < m3 [(.slice s4b s4l s4c), (.int .i32 n5)] w6)) else (
  ∃ (I15 : List Value → World → Prop) (m16 : List Value → World → Nat), I15 [(.int .i64 (IntKind.wrap .i64 ((s4l : Int) - (1 : Int))))] w6 ∧
  ∀ _ : Env, ∀ n17 : Int, ∀ w18 : World, I15 [(.int .i64 n17)] w18 →
  bif (decide (n17 ≥ (0 : Int))) then (
  ixS s4b s4l n17 1 fun a19 =>
  ldI .i32 a19 w18 fun n20 =>
  Calls Pg fn_seq_Forest_push #[(.pointer pf_0), (.int .i32 n20)] w18 fun e22 w21 => e22 = .returned (.tuple #[]) ∧
  (I15 [(.int .i64 (IntKind.wrap .i64 (n17 - (1 : Int))))] w21 ∧ m16 [(.int .i64 (IntKind.wrap .i64 (n17 - (1 : Int))))] w21 < m16 [(.int .i64 n17)] w18)) else (
  ∃ (I23 : List Value → World → Prop) (m24 : List Value → World → Nat), I23 [] w18 ∧
  ∀ _ : Env, ∀ w25 : World, I23 [] w25 →
  pt pf_0 fun a26 =>
  ldS a26 w25 fun s27b s27l s27c =>
  ixS s27b s27l nx_1 9 fun a28 =>
  ldI .i32 a28 w25 fun n29 =>
  bif (n29 != (-1 : Int)) then (
  pt pf_0 fun a30 =>
  ldS a30 w25 fun s31b s31l s31c =>
  ixS s31b s31l nx_1 9 fun a32 =>
  ldI .i32 a32 w25 fun n33 =>
  pt pf_0 fun a34 =>
  ldS a34 w25 fun s35b s35l s35c =>
  ixS s35b s35l n33 9 fun a36 =>
  ldI .i32 a36 w25 fun n37 =>
  bif (n37 != (-1 : Int)) then (
  pt pf_0 fun a38 =>
  ldS a38 w25.drew fun s39b s39l s39c =>
  ixS s39b s39l n37 9 fun a40 =>
  ldI .i32 (a40.add 1) w25.drew fun n41 =>
  pt pf_0 fun a42 =>
  ldS a42 w25.drew fun s43b s43l s43c =>
  ixS s43b s43l n33 9 fun a44 =>
  ldI .i32 (a44.add 1) w25.drew fun n45 =>
  bif ((n41 == n33) == (n45 == nx_1)) then (
  Calls Pg fn_seq_Forest_rotate #[(.pointer pf_0), (.int .i32 n33)] w25.drew fun e47 w46 => e47 = .returned (.tuple #[]) ∧
  Calls Pg fn_seq_Forest_rotate #[(.pointer pf_0), (.int .i32 nx_1)] w46 fun e49 w48 => e49 = .returned (.tuple #[]) ∧
  (I23 [] w48 ∧ m24 [] w48 < m24 [] w25)) else (
  Calls Pg fn_seq_Forest_rotate #[(.pointer pf_0), (.int .i32 nx_1)] w25.drew fun e51 w50 => e51 = .returned (.tuple #[]) ∧
  Calls Pg fn_seq_Forest_rotate #[(.pointer pf_0), (.int .i32 nx_1)] w50 fun e53 w52 => e53 = .returned (.tuple #[]) ∧
  (I23 [] w52 ∧ m24 [] w52 < m24 [] w25))) else (
  Calls Pg fn_seq_Forest_rotate #[(.pointer pf_0), (.int .i32 nx_1)] w25 fun e55 w54 => e55 = .returned (.tuple #[]) ∧
  (I23 [] w54 ∧ m24 [] w54 < m24 [] w25))) else (
  R (.tuple #[]) w25)))
theorem eq_seq_Forest_lift (pf_0 : Option Addr) (nx_1 : Int) (w : World) (R : Value → World → Prop) : sh_seq_Forest_lift pf_0 nx_1 w R = denF Pg Eall Tryd.f73 (.seq (.leaf) (.seq (.seq (.leaf) (.block (.loop [4, 5] [.one (.slc), .one (.int .i32)] (.seq (.seq (.leaf) (.cond (.leaf) (.leaf))) (.seq (.block (.leaf)) (.leaf)))))) (.seq (.seq (.leaf) (.block (.loop [6] [.one (.int .i64)] (.seq (.seq (.leaf) (.cond (.leaf) (.leaf))) (.seq (.block (.leaf)) (.leaf)))))) (.block (.loop [] [] (.seq (.seq (.leaf) (.cond (.leaf) (.leaf))) (.block (.seq (.leaf) (.seq (.seq (.leaf) (.seq (.leaf) (.cond (.seq (.reg (.tk 0 [] [] (.tk 1 [] [] (.tk 2 [] [] (.tk 3 [] [] (.tk 4 [] [] (.tk 5 [] [] (.tk 6 [] [] (.tk 7 [] [] (.tk 8 [] [] (.tk 9 [] [] (.tk 10 [] [] (.tk 11 [] [] (.tk 12 [] [] (.tk 13 [] [] (.tk 14 [] [] (.tk 15 [] [] (.tk 16 [] [] (.tk 17 [] [] (.tk 18 [] [] (.tk 19 [] [] (.tk 20 [] [] (.fin))))))))))))))))))))))) (.cond (.leaf) (.leaf))) (.leaf)))) (.leaf)))))))))) [(.pointer pf_0), (.int .i32 nx_1)] w R := by kernel_rfl
theorem calls_seq_Forest_lift (pf_0 : Option Addr) (nx_1 : Int) (w : World) (R : Value → World → Prop) (h : sh_seq_Forest_lift pf_0 nx_1 w R) : Calls Pg fn_seq_Forest_lift #[(.pointer pf_0), (.int .i32 nx_1)] w fun e w' => ∃ v, e = .returned v ∧ R v w' :=
  calls_of_den Eall_enter wide_mixed Tryd.func73 (by rw [← eq_seq_Forest_lift]; exact h)

/-- '(*plait/seq.Forest).pull' -/
def sh_seq_Forest_pull (pf_0 : Option Addr) (nx_1 : Int) (w : World) (R : Value → World → Prop) : Prop :=
  pt pf_0 fun a2 =>
  ldS a2 w fun s3b s3l s3c =>
  ixS s3b s3l nx_1 9 fun a4 =>
  ldI .i64 (a4.add 5) w.drew fun n5 =>
  ldI .i64 (a4.add 5) w.drew fun n6 =>
  ldI .i64 (a4.add 5) w.drew fun n7 =>
  sto (a4.add 4) (.int .i32 (1 : Int)) w.drew fun w8 =>
  sto (a4.add 6) (.int .i64 n5) w8 fun w9 =>
  sto (a4.add 7) (.int .i64 n6) w9 fun w10 =>
  sto (a4.add 8) (.int .i64 n7) w10 fun w11 =>
  ldI .i32 (a4.add 1) w11.drew fun n12 =>
  ldI .i32 (a4.add 2) w11.drew fun n13 =>
  ∃ n14 : Int, 0 ≤ (0 : Int) ∧ (0 : Int) < ((2 : Nat) : Int) ∧ #[(Value.int .i32 n12), (Value.int .i32 n13)][(Int.toNat (0 : Int)) * 1]? = some (Value.int .i32 n14) ∧
  bif (n14 == (-1 : Int)) then (
  ∃ n15 : Int, 0 ≤ (1 : Int) ∧ (1 : Int) < ((2 : Nat) : Int) ∧ #[(Value.int .i32 n12), (Value.int .i32 n13)][(Int.toNat (1 : Int)) * 1]? = some (Value.int .i32 n15) ∧
  bif (n15 == (-1 : Int)) then (
  R (.tuple #[]) w11.drew) else (
  pt pf_0 fun a16 =>
  ldS a16 w11.drew fun s17b s17l s17c =>
  ixS s17b s17l n15 9 fun a18 =>
  ldI .i32 (a4.add 4) (World.drew w11.drew) fun n19 =>
  ldI .i32 (a18.add 4) (World.drew w11.drew) fun n20 =>
  sto (a4.add 4) (.int .i32 (IntKind.wrap .i32 (n19 + n20))) (World.drew w11.drew) fun w21 =>
  ldI .i64 (a4.add 6) w21.drew fun n22 =>
  ldI .i64 (a18.add 6) w21.drew fun n23 =>
  sto (a4.add 6) (.int .i64 (IntKind.wrap .i64 (n22 + n23))) w21.drew fun w24 =>
  ldI .i64 (a4.add 7) w24.drew fun n25 =>
  ldI .i64 (a18.add 7) w24.drew fun n26 =>
  ldI .i64 (a4.add 8) w24.drew fun n27 =>
  ldI .i64 (a18.add 8) w24.drew fun n28 =>
  sto (a4.add 7) (.int .i64 (if n26 < n25 then n26 else n25)) w24.drew fun w29 =>
  sto (a4.add 8) (.int .i64 (if n28 > n27 then n28 else n27)) w29 fun w30 =>
  R (.tuple #[]) w30)) else (
  pt pf_0 fun a31 =>
  ldS a31 w11.drew fun s32b s32l s32c =>
  ixS s32b s32l n14 9 fun a33 =>
  ldI .i32 (a4.add 4) (World.drew w11.drew) fun n34 =>
  ldI .i32 (a33.add 4) (World.drew w11.drew) fun n35 =>
  sto (a4.add 4) (.int .i32 (IntKind.wrap .i32 (n34 + n35))) (World.drew w11.drew) fun w36 =>
  ldI .i64 (a4.add 6) w36.drew fun n37 =>
  ldI .i64 (a33.add 6) w36.drew fun n38 =>
  sto (a4.add 6) (.int .i64 (IntKind.wrap .i64 (n37 + n38))) w36.drew fun w39 =>
  ldI .i64 (a4.add 7) w39.drew fun n40 =>
  ldI .i64 (a33.add 7) w39.drew fun n41 =>
  ldI .i64 (a4.add 8) w39.drew fun n42 =>
  ldI .i64 (a33.add 8) w39.drew fun n43 =>
  sto (a4.add 7) (.int .i64 (if n41 < n40 then n41 else n40)) w39.drew fun w44 =>
  sto (a4.add 8) (.int .i64 (if n43 > n42 then n43 else n42)) w44 fun w45 =>
  ∃ n46 : Int, 0 ≤ (1 : Int) ∧ (1 : Int) < ((2 : Nat) : Int) ∧ #[(Value.int .i32 n12), (Value.int .i32 n13)][(Int.toNat (1 : Int)) * 1]? = some (Value.int .i32 n46) ∧
  bif (n46 == (-1 : Int)) then (
  R (.tuple #[]) w45) else (
  pt pf_0 fun a47 =>
  ldS a47 w45 fun s48b s48l s48c =>
  ixS s48b s48l n46 9 fun a49 =>
  ldI .i32 (a4.add 4) w45.drew fun n50 =>
  ldI .i32 (a49.add 4) w45.drew fun n51 =>
  sto (a4.add 4) (.int .i32 (IntKind.wrap .i32 (n50 + n51))) w45.drew fun w52 =>
  ldI .i64 (a4.add 6) w52.drew fun n53 =>
  ldI .i64 (a49.add 6) w52.drew fun n54 =>
  sto (a4.add 6) (.int .i64 (IntKind.wrap .i64 (n53 + n54))) w52.drew fun w55 =>
  ldI .i64 (a4.add 7) w55.drew fun n56 =>
  ldI .i64 (a49.add 7) w55.drew fun n57 =>
  ldI .i64 (a4.add 8) w55.drew fun n58 =>
  ldI .i64 (a49.add 8) w55.drew fun n59 =>
  sto (a4.add 7) (.int .i64 (if n57 < n56 then n57 else n56)) w55.drew fun w60 =>
  sto (a4.add 8) (.int .i64 (if n59 > n58 then n59 else n58)) w60 fun w61 =>
  R (.tuple #[]) w61))
theorem eq_seq_Forest_pull (pf_0 : Option Addr) (nx_1 : Int) (w : World) (R : Value → World → Prop) : sh_seq_Forest_pull pf_0 nx_1 w R = denF Pg Eall Tryd.f74 (.seq (.leaf) (.seq (.reg (.tk 0 [] [] (.tk 1 [] [] (.tk 2 [] [] (.tk 3 [] [] (.tk 4 [] [] (.tk 5 [] [] (.tk 6 [] [] (.tk 7 [16, 17, 18, 19, 20, 21, 22, 23, 24, 25, 26, 27] [18, 21, 24, 27] (.tk 8 [] [] (.tk 9 [] [] (.tk 10 [] [] (.tk 11 [16, 17, 18, 19, 20, 21, 22, 23, 24, 25, 26, 27] [18, 21, 24, 27] (.tk 12 [] [] (.tk 13 [] [] (.tk 14 [] [] (.tk 15 [16, 17, 18, 19, 20, 21, 22, 23, 24, 25, 26, 27] [18, 21, 24, 27] (.tk 16 [] [] (.tk 17 [] [] (.one 18 (.tk 19 [] [] (.tk 20 [] [] (.one 21 (.tk 22 [] [] (.tk 23 [] [] (.one 24 (.tk 25 [] [] (.tk 26 [] [] (.one 27 (.fin)))))))))))))))))))))))))))))) (.seq (.reg (.tk 0 [] [] (.tk 1 [] [] (.tk 2 [] [] (.tk 3 [] [] (.tk 4 [] [] (.tk 5 [] [] (.tk 6 [] [] (.tk 7 [] [] (.tk 8 [] [] (.tk 9 [] [] (.fin)))))))))))) (.block (.unr 3 (.seq (.leaf) (.seq (.cond (.leaf) (.leaf)) (.seq (.block (.seq (.leaf) (.seq (.seq (.leaf) (.cond (.leaf) (.leaf))) (.seq (.leaf) (.seq (.reg (.tk 0 [] [] (.tk 1 [] [] (.tk 2 [] [] (.tk 3 [8, 9, 10, 11] [11] (.tk 4 [] [] (.tk 5 [] [] (.tk 6 [] [] (.tk 7 [8, 9, 10, 11] [11] (.tk 8 [] [] (.tk 9 [] [] (.tk 10 [] [] (.one 11 (.fin)))))))))))))) (.seq (.reg (.tk 0 [] [] (.tk 1 [] [] (.tk 2 [] [] (.tk 3 [8, 9, 10, 11] [11] (.tk 4 [] [] (.tk 5 [] [] (.tk 6 [] [] (.tk 7 [8, 9, 10, 11] [11] (.tk 8 [] [] (.tk 9 [] [] (.tk 10 [] [] (.one 11 (.fin)))))))))))))) (.reg (.tk 0 [] [] (.tk 1 [] [] (.tk 2 [] [] (.tk 3 [] [] (.tk 4 [] [] (.tk 5 [10, 20, 21, 22, 23, 24, 25] [22, 25] (.tk 6 [] [] (.tk 7 [] [] (.tk 8 [] [] (.tk 9 [10, 20, 21, 22, 23, 24, 25] [22, 25] (.tk 10 [] [] (.tk 11 [] [] (.tk 12 [] [] (.tk 13 [] [] (.tk 14 [19, 20, 21, 22, 23, 24, 25] [22, 25] (.tk 15 [] [] (.tk 16 [] [] (.tk 17 [] [] (.tk 18 [19, 20, 21, 22, 23, 24, 25] [22, 25] (.tk 19 [] [] (.tk 20 [] [] (.tk 21 [] [] (.one 22 (.tk 23 [] [] (.tk 24 [] [] (.one 25 (.fin)))))))))))))))))))))))))))))))))) (.leaf))))))))) [(.pointer pf_0), (.int .i32 nx_1)] w R := by kernel_rfl
theorem calls_seq_Forest_pull (pf_0 : Option Addr) (nx_1 : Int) (w : World) (R : Value → World → Prop) (h : sh_seq_Forest_pull pf_0 nx_1 w R) : Calls Pg fn_seq_Forest_pull #[(.pointer pf_0), (.int .i32 nx_1)] w fun e w' => ∃ v, e = .returned v ∧ R v w' :=
  calls_of_den Eall_enter wide_mixed Tryd.func74 (by rw [← eq_seq_Forest_pull]; exact h)

/-- '(*plait/seq.Forest).end' -/
def sh_seq_Forest_end (pf_0 : Option Addr) (nx_1 : Int) (bfirst_2 : Bool) (w : World) (R : Value → World → Prop) : Prop :=
  Calls Pg fn_seq_Forest_lift #[(.pointer pf_0), (.int .i32 nx_1)] w fun e4 w3 => e4 = .returned (.tuple #[]) ∧
  ∃ (I5 : List Value → World → Prop) (m6 : List Value → World → Nat), I5 [(.int .i32 nx_1)] w3 ∧
  ∀ _ : Env, ∀ n7 : Int, ∀ w8 : World, I5 [(.int .i32 n7)] w8 →
  Calls Pg fn_seq_Forest_push #[(.pointer pf_0), (.int .i32 n7)] w8 fun e10 w9 => e10 = .returned (.tuple #[]) ∧
  pt pf_0 fun a11 =>
  ldS a11 w9 fun s12b s12l s12c =>
  ixS s12b s12l n7 9 fun a13 =>
  ldI .i32 (a13.add 2) w9 fun n14 =>
  bif bfirst_2 then (
  pt pf_0 fun a15 =>
  ldS a15 w9 fun s16b s16l s16c =>
  ixS s16b s16l n7 9 fun a17 =>
  ldI .i32 (a17.add 1) w9 fun n18 =>
  bif (n18 == (-1 : Int)) then (
  Calls Pg fn_seq_Forest_lift #[(.pointer pf_0), (.int .i32 n7)] w9 fun e20 w19 => e20 = .returned (.tuple #[]) ∧
  R (.int .i32 n7) w19) else (
  (I5 [(.int .i32 n18)] w9 ∧ m6 [(.int .i32 n18)] w9 < m6 [(.int .i32 n7)] w8))) else (
  bif (n14 == (-1 : Int)) then (
  Calls Pg fn_seq_Forest_lift #[(.pointer pf_0), (.int .i32 n7)] w9 fun e22 w21 => e22 = .returned (.tuple #[]) ∧
  R (.int .i32 n7) w21) else (
  (I5 [(.int .i32 n14)] w9 ∧ m6 [(.int .i32 n14)] w9 < m6 [(.int .i32 n7)] w8)))
theorem eq_seq_Forest_end (pf_0 : Option Addr) (nx_1 : Int) (bfirst_2 : Bool) (w : World) (R : Value → World → Prop) : sh_seq_Forest_end pf_0 nx_1 bfirst_2 w R = denF Pg Eall Tryd.f75 (.seq (.leaf) (.seq (.leaf) (.block (.loop [1] [.one (.int .i32)] (.block (.seq (.leaf) (.seq (.leaf) (.seq (.seq (.leaf) (.cond (.leaf) (.leaf))) (.seq (.seq (.leaf) (.cond (.seq (.leaf) (.seq (.leaf) (.leaf))) (.leaf))) (.leaf)))))))))) [(.pointer pf_0), (.int .i32 nx_1), (.bool bfirst_2)] w R := by kernel_rfl
theorem calls_seq_Forest_end (pf_0 : Option Addr) (nx_1 : Int) (bfirst_2 : Bool) (w : World) (R : Value → World → Prop) (h : sh_seq_Forest_end pf_0 nx_1 bfirst_2 w R) : Calls Pg fn_seq_Forest_end #[(.pointer pf_0), (.int .i32 nx_1), (.bool bfirst_2)] w fun e w' => ∃ v, e = .returned v ∧ R v w' :=
  calls_of_den Eall_enter wide_mixed Tryd.func75 (by rw [← eq_seq_Forest_end]; exact h)

/-- '(*plait/seq.Forest).hang' -/
def sh_seq_Forest_hang (pf_0 : Option Addr) (nc_1 : Int) (nx_2 : Int) (bleft_3 : Bool) (w : World) (R : Value → World → Prop) : Prop :=
  bif bleft_3 then (
  pt pf_0 fun a4 =>
  ldS a4 w fun s5b s5l s5c =>
  ixS s5b s5l nx_2 9 fun a6 =>
  sto (a6.add 1) (.int .i32 nc_1) w fun w7 =>
  bif (nc_1 != (-1 : Int)) then (
  pt pf_0 fun a8 =>
  ldS a8 w7 fun s9b s9l s9c =>
  ixS s9b s9l nc_1 9 fun a10 =>
  sto a10 (.int .i32 nx_2) w7 fun w11 =>
  R (.tuple #[]) w11) else (
  R (.tuple #[]) w7)) else (
  pt pf_0 fun a12 =>
  ldS a12 w fun s13b s13l s13c =>
  ixS s13b s13l nx_2 9 fun a14 =>
  sto (a14.add 2) (.int .i32 nc_1) w fun w15 =>
  bif (nc_1 != (-1 : Int)) then (
  pt pf_0 fun a16 =>
  ldS a16 w15 fun s17b s17l s17c =>
  ixS s17b s17l nc_1 9 fun a18 =>
  sto a18 (.int .i32 nx_2) w15 fun w19 =>
  R (.tuple #[]) w19) else (
  R (.tuple #[]) w15))
theorem eq_seq_Forest_hang (pf_0 : Option Addr) (nc_1 : Int) (nx_2 : Int) (bleft_3 : Bool) (w : World) (R : Value → World → Prop) : sh_seq_Forest_hang pf_0 nc_1 nx_2 bleft_3 w R = denF Pg Eall Tryd.f76 (.seq (.seq (.leaf) (.cond (.leaf) (.leaf))) (.seq (.leaf) (.cond (.leaf) (.leaf)))) [(.pointer pf_0), (.int .i32 nc_1), (.int .i32 nx_2), (.bool bleft_3)] w R := by kernel_rfl
theorem calls_seq_Forest_hang (pf_0 : Option Addr) (nc_1 : Int) (nx_2 : Int) (bleft_3 : Bool) (w : World) (R : Value → World → Prop) (h : sh_seq_Forest_hang pf_0 nc_1 nx_2 bleft_3 w R) : Calls Pg fn_seq_Forest_hang #[(.pointer pf_0), (.int .i32 nc_1), (.int .i32 nx_2), (.bool bleft_3)] w fun e w' => ∃ v, e = .returned v ∧ R v w' :=
  calls_of_den Eall_enter wide_mixed Tryd.func76 (by rw [← eq_seq_Forest_hang]; exact h)

/-- '(*plait/seq.Forest).down' -/
def sh_seq_Forest_down (pf_0 : Option Addr) (nx_1 : Int) (fto_2 : Value) (w : World) (R : Value → World → Prop) : Prop :=
  ∃ (I3 : List Value → World → Prop) (m4 : List Value → World → Nat), I3 [(.int .i32 nx_1)] w ∧
  ∀ _ : Env, ∀ n5 : Int, ∀ w6 : World, I3 [(.int .i32 n5)] w6 →
  Calls Pg fn_seq_Forest_push #[(.pointer pf_0), (.int .i32 n5)] w6 fun e8 w7 => e8 = .returned (.tuple #[]) ∧
  pt pf_0 fun a9 =>
  ldS a9 w7 fun s10b s10l s10c =>
  ixS s10b s10l n5 9 fun a11 =>
  ldI .i32 a11 w7 fun n12 =>
  ldI .i32 (a11.add 1) w7 fun n13 =>
  ldI .i32 (a11.add 2) w7 fun n14 =>
  ldB (a11.add 3) w7 fun b15 =>
  ldI .i32 (a11.add 4) w7 fun n16 =>
  ldI .i64 (a11.add 5) w7 fun n17 =>
  ldI .i64 (a11.add 6) w7 fun n18 =>
  ldI .i64 (a11.add 7) w7 fun n19 =>
  ldI .i64 (a11.add 8) w7 fun n20 =>
  dcv Pg Eall fto_2 [(.agg #[(.int .i32 n12), (.int .i32 n13), (.int .i32 n14), (.bool b15), (.int .i32 n16), (.int .i64 n17), (.int .i64 n18), (.int .i64 n19), (.int .i64 n20)])] w7 fun e23 w22 => ∃ n21 : Int, e23 = .returned (.int .i64 n21) ∧
  bif (decide (n21 < (0 : Int))) then (
  pt pf_0 fun a24 =>
  ldS a24 w22 fun s25b s25l s25c =>
  ixS s25b s25l n5 9 fun a26 =>
  ldI .i32 (a26.add 1) w22 fun n27 =>
  (I3 [(.int .i32 n27)] w22 ∧ m4 [(.int .i32 n27)] w22 < m4 [(.int .i32 n5)] w6)) else (
  bif (decide (n21 > (0 : Int))) then (
  pt pf_0 fun a28 =>
  ldS a28 w22 fun s29b s29l s29c =>
  ixS s29b s29l n5 9 fun a30 =>
  ldI .i32 (a30.add 2) w22 fun n31 =>
  (I3 [(.int .i32 n31)] w22 ∧ m4 [(.int .i32 n31)] w22 < m4 [(.int .i32 n5)] w6)) else (
  Calls Pg fn_seq_Forest_lift #[(.pointer pf_0), (.int .i32 n5)] w22 fun e33 w32 => e33 = .returned (.tuple #[]) ∧
  R (.int .i64 (IntKind.wrap .i64 n5)) w32))
theorem eq_seq_Forest_down (pf_0 : Option Addr) (nx_1 : Int) (fto_2 : Value) (w : World) (R : Value → World → Prop) : sh_seq_Forest_down pf_0 nx_1 fto_2 w R = denF Pg Eall Tryd.f81 (.seq (.leaf) (.block (.loop [1] [.one (.int .i32)] (.block (.seq (.leaf) (.seq (.leaf) (.block (.seq (.leaf) (.cond (.leaf) (.seq (.leaf) (.cond (.leaf) (.seq (.leaf) (.seq (.leaf) (.leaf)))))))))))))) [(.pointer pf_0), (.int .i32 nx_1), fto_2] w R := by kernel_rfl
theorem calls_seq_Forest_down (pf_0 : Option Addr) (nx_1 : Int) (fto_2 : Value) (w : World) (R : Value → World → Prop) (h : sh_seq_Forest_down pf_0 nx_1 fto_2 w R) : Calls Pg fn_seq_Forest_down #[(.pointer pf_0), (.int .i32 nx_1), fto_2] w fun e w' => ∃ v, e = .returned v ∧ R v w' :=
  calls_of_den Eall_enter wide_mixed Tryd.func81 (by rw [← eq_seq_Forest_down]; exact h)

/-- '(*plait/seq.Forest).At$1' -/
def sh_seq_Forest_At_1 (nn_0 : Int) (nn_1 : Int) (nn_2 : Int) (bn_3 : Bool) (nn_4 : Int) (nn_5 : Int) (nn_6 : Int) (nn_7 : Int) (nn_8 : Int) (q9 : Option Addr) (q10 : Option Addr) (w : World) (R : Value → World → Prop) : Prop :=
  alo #[(.int .i32 nn_0), (.int .i32 nn_1), (.int .i32 nn_2), (.bool bn_3), (.int .i32 nn_4), (.int .i64 nn_5), (.int .i64 nn_6), (.int .i64 nn_7), (.int .i64 nn_8)] T_seq_node w fun a11 w12 =>
  ldI .i32 (a11.add 1) w12 fun n13 =>
  bif (n13 != (-1 : Int)) then (
  pt q9 fun a14 =>
  ldP a14 w12.drew fun p15 =>
  pt p15 fun a16 =>
  ldS a16 w12.drew fun s17b s17l s17c =>
  ldI .i32 (a11.add 1) w12.drew fun n18 =>
  ixS s17b s17l n18 9 fun a19 =>
  ldI .i32 (a19.add 4) w12.drew fun n20 =>
  pt q10 fun a21 =>
  ldI .i64 a21 w12.drew fun n22 =>
  bif (decide (n22 ≤ (IntKind.wrap .i64 n20))) then (
  pt q10 fun a23 =>
  ldI .i64 a23 w12.drew fun n24 =>
  R (.int .i64 (IntKind.wrap .i64 (n24 - (IntKind.wrap .i64 n20)))) w12.drew) else (
  pt q10 fun a25 =>
  ldI .i64 a25 w12.drew fun n26 =>
  pt q10 fun a27 =>
  sto a27 (.int .i64 (IntKind.wrap .i64 (n26 - (IntKind.wrap .i64 ((IntKind.wrap .i64 n20) + (1 : Int)))))) w12.drew fun w28 =>
  R (.int .i64 (1 : Int)) w28)) else (
  pt q10 fun a29 =>
  ldI .i64 a29 w12 fun n30 =>
  bif (decide (n30 ≤ (0 : Int))) then (
  pt q10 fun a31 =>
  ldI .i64 a31 w12 fun n32 =>
  R (.int .i64 (IntKind.wrap .i64 (n32 - (0 : Int)))) w12) else (
  pt q10 fun a33 =>
  ldI .i64 a33 w12 fun n34 =>
  pt q10 fun a35 =>
  sto a35 (.int .i64 (IntKind.wrap .i64 (n34 - (1 : Int)))) w12 fun w36 =>
  R (.int .i64 (1 : Int)) w36))
theorem eq_seq_Forest_At_1 (nn_0 : Int) (nn_1 : Int) (nn_2 : Int) (bn_3 : Bool) (nn_4 : Int) (nn_5 : Int) (nn_6 : Int) (nn_7 : Int) (nn_8 : Int) (q9 : Option Addr) (q10 : Option Addr) (w : World) (R : Value → World → Prop) : sh_seq_Forest_At_1 nn_0 nn_1 nn_2 bn_3 nn_4 nn_5 nn_6 nn_7 nn_8 q9 q10 w R = denF Pg Eall Tryd.f82 (.seq (.leaf) (.seq (.leaf) (.seq (.seq (.leaf) (.cond (.reg (.tk 0 [] [] (.tk 1 [] [] (.tk 2 [] [] (.tk 3 [] [] (.tk 4 [] [] (.tk 5 [] [] (.tk 6 [] [] (.tk 7 [] [] (.tk 8 [] [] (.tk 9 [] [] (.tk 10 [] [] (.fin))))))))))))) (.leaf))) (.seq (.seq (.leaf) (.cond (.seq (.leaf) (.leaf)) (.leaf))) (.seq (.leaf) (.seq (.leaf) (.leaf))))))) [(.agg #[(.int .i32 nn_0), (.int .i32 nn_1), (.int .i32 nn_2), (.bool bn_3), (.int .i32 nn_4), (.int .i64 nn_5), (.int .i64 nn_6), (.int .i64 nn_7), (.int .i64 nn_8)]), (.pointer q9), (.pointer q10)] w R := by kernel_rfl
theorem calls_seq_Forest_At_1 (nn_0 : Int) (nn_1 : Int) (nn_2 : Int) (bn_3 : Bool) (nn_4 : Int) (nn_5 : Int) (nn_6 : Int) (nn_7 : Int) (nn_8 : Int) (q9 : Option Addr) (q10 : Option Addr) (w : World) (R : Value → World → Prop) (h : sh_seq_Forest_At_1 nn_0 nn_1 nn_2 bn_3 nn_4 nn_5 nn_6 nn_7 nn_8 q9 q10 w R) : Calls Pg fn_seq_Forest_At_1 #[(.agg #[(.int .i32 nn_0), (.int .i32 nn_1), (.int .i32 nn_2), (.bool bn_3), (.int .i32 nn_4), (.int .i64 nn_5), (.int .i64 nn_6), (.int .i64 nn_7), (.int .i64 nn_8)]), (.pointer q9), (.pointer q10)] w fun e w' => ∃ v, e = .returned v ∧ R v w' :=
  calls_of_den Eall_enter wide_mixed Tryd.func82 (by rw [← eq_seq_Forest_At_1]; exact h)

/-- '(*plait/seq.Forest).Size' -/
def sh_seq_Forest_Size (pf_0 : Option Addr) (nx_1 : Int) (w : World) (R : Value → World → Prop) : Prop :=
  Calls Pg fn_seq_Forest_top #[(.pointer pf_0), (.int .i64 nx_1)] w fun e5 w4 => ∃ p2 : Option Addr, ∃ v3 : Value, e5 = .returned (.tuple #[(.pointer p2), v3]) ∧
  isI v3 ∧ bif (!(nilI v3)) then (
  R (.tuple #[(.int .i64 (0 : Int)), v3]) w4) else (
  pt p2 fun a6 =>
  ldI .i32 (a6.add 4) w4 fun n7 =>
  R (.tuple #[(.int .i64 (IntKind.wrap .i64 n7)), .nilIface]) w4)
theorem eq_seq_Forest_Size (pf_0 : Option Addr) (nx_1 : Int) (w : World) (R : Value → World → Prop) : sh_seq_Forest_Size pf_0 nx_1 w R = denF Pg Eall Tryd.f83 (.seq (.leaf) (.seq (.leaf) (.seq (.seq (.leaf) (.cond (.seq (.leaf) (.leaf)) (.leaf))) (.seq (.leaf) (.leaf))))) [(.pointer pf_0), (.int .i64 nx_1)] w R := by kernel_rfl
theorem calls_seq_Forest_Size (pf_0 : Option Addr) (nx_1 : Int) (w : World) (R : Value → World → Prop) (h : sh_seq_Forest_Size pf_0 nx_1 w R) : Calls Pg fn_seq_Forest_Size #[(.pointer pf_0), (.int .i64 nx_1)] w fun e w' => ∃ v, e = .returned v ∧ R v w' :=
  calls_of_den Eall_enter wide_mixed Tryd.func83 (by rw [← eq_seq_Forest_Size]; exact h)

/-- '(*plait/seq.Forest).rotate' -/
def sh_seq_Forest_rotate (pf_0 : Option Addr) (nx_1 : Int) (w : World) (R : Value → World → Prop) : Prop :=
  pt pf_0 fun a2 =>
  ldS a2 w fun s3b s3l s3c =>
  ixS s3b s3l nx_1 9 fun a4 =>
  ldI .i32 a4 w fun n5 =>
  pt pf_0 fun a6 =>
  ldS a6 w fun s7b s7l s7c =>
  ixS s7b s7l n5 9 fun a8 =>
  ldI .i32 a8 w fun n9 =>
  pt pf_0 fun a10 =>
  ldS a10 w fun s11b s11l s11c =>
  ixS s11b s11l n5 9 fun a12 =>
  ldI .i32 (a12.add 1) w fun n13 =>
  bif (n13 == nx_1) then (
  pt pf_0 fun a14 =>
  ldS a14 w fun s15b s15l s15c =>
  ixS s15b s15l nx_1 9 fun a16 =>
  ldI .i32 (a16.add 2) w fun n17 =>
  Calls Pg fn_seq_Forest_hang #[(.pointer pf_0), (.int .i32 n17), (.int .i32 n5), (.bool true)] w fun e19 w18 => e19 = .returned (.tuple #[]) ∧
  bif (n9 != (-1 : Int)) then (
  pt pf_0 fun a20 =>
  ldS a20 w18 fun s21b s21l s21c =>
  ixS s21b s21l n9 9 fun a22 =>
  ldI .i32 (a22.add 1) w18 fun n23 =>
  Calls Pg fn_seq_Forest_hang #[(.pointer pf_0), (.int .i32 n5), (.int .i32 nx_1), (.bool (!(n13 == nx_1)))] w18 fun e25 w24 => e25 = .returned (.tuple #[]) ∧
  pt pf_0 fun a26 =>
  ldS a26 w24 fun s27b s27l s27c =>
  ixS s27b s27l nx_1 9 fun a28 =>
  sto a28 (.int .i32 n9) w24 fun w29 =>
  bif (n9 != (-1 : Int)) then (
  Calls Pg fn_seq_Forest_hang #[(.pointer pf_0), (.int .i32 nx_1), (.int .i32 n9), (.bool (n23 == n5))] w29 fun e31 w30 => e31 = .returned (.tuple #[]) ∧
  Calls Pg fn_seq_Forest_pull #[(.pointer pf_0), (.int .i32 n5)] w30 fun e33 w32 => e33 = .returned (.tuple #[]) ∧
  Calls Pg fn_seq_Forest_pull #[(.pointer pf_0), (.int .i32 nx_1)] w32 fun e35 w34 => e35 = .returned (.tuple #[]) ∧
  R (.tuple #[]) w34) else (
  Calls Pg fn_seq_Forest_pull #[(.pointer pf_0), (.int .i32 n5)] w29 fun e37 w36 => e37 = .returned (.tuple #[]) ∧
  Calls Pg fn_seq_Forest_pull #[(.pointer pf_0), (.int .i32 nx_1)] w36 fun e39 w38 => e39 = .returned (.tuple #[]) ∧
  R (.tuple #[]) w38)) else (
  Calls Pg fn_seq_Forest_hang #[(.pointer pf_0), (.int .i32 n5), (.int .i32 nx_1), (.bool (!(n13 == nx_1)))] w18 fun e41 w40 => e41 = .returned (.tuple #[]) ∧
  pt pf_0 fun a42 =>
  ldS a42 w40 fun s43b s43l s43c =>
  ixS s43b s43l nx_1 9 fun a44 =>
  sto a44 (.int .i32 n9) w40 fun w45 =>
  bif (n9 != (-1 : Int)) then (
  Calls Pg fn_seq_Forest_hang #[(.pointer pf_0), (.int .i32 nx_1), (.int .i32 n9), (.bool false)] w45 fun e47 w46 => e47 = .returned (.tuple #[]) ∧
  Calls Pg fn_seq_Forest_pull #[(.pointer pf_0), (.int .i32 n5)] w46 fun e49 w48 => e49 = .returned (.tuple #[]) ∧
  Calls Pg fn_seq_Forest_pull #[(.pointer pf_0), (.int .i32 nx_1)] w48 fun e51 w50 => e51 = .returned (.tuple #[]) ∧
  R (.tuple #[]) w50) else (
  Calls Pg fn_seq_Forest_pull #[(.pointer pf_0), (.int .i32 n5)] w45 fun e53 w52 => e53 = .returned (.tuple #[]) ∧
  Calls Pg fn_seq_Forest_pull #[(.pointer pf_0), (.int .i32 nx_1)] w52 fun e55 w54 => e55 = .returned (.tuple #[]) ∧
  R (.tuple #[]) w54))) else (
  pt pf_0 fun a56 =>
  ldS a56 w fun s57b s57l s57c =>
  ixS s57b s57l nx_1 9 fun a58 =>
  ldI .i32 (a58.add 1) w fun n59 =>
  Calls Pg fn_seq_Forest_hang #[(.pointer pf_0), (.int .i32 n59), (.int .i32 n5), (.bool false)] w fun e61 w60 => e61 = .returned (.tuple #[]) ∧
  bif (n9 != (-1 : Int)) then (
  pt pf_0 fun a62 =>
  ldS a62 w60 fun s63b s63l s63c =>
  ixS s63b s63l n9 9 fun a64 =>
  ldI .i32 (a64.add 1) w60 fun n65 =>
  Calls Pg fn_seq_Forest_hang #[(.pointer pf_0), (.int .i32 n5), (.int .i32 nx_1), (.bool (!(n13 == nx_1)))] w60 fun e67 w66 => e67 = .returned (.tuple #[]) ∧
  pt pf_0 fun a68 =>
  ldS a68 w66 fun s69b s69l s69c =>
  ixS s69b s69l nx_1 9 fun a70 =>
  sto a70 (.int .i32 n9) w66 fun w71 =>
  bif (n9 != (-1 : Int)) then (
  Calls Pg fn_seq_Forest_hang #[(.pointer pf_0), (.int .i32 nx_1), (.int .i32 n9), (.bool (n65 == n5))] w71 fun e73 w72 => e73 = .returned (.tuple #[]) ∧
  Calls Pg fn_seq_Forest_pull #[(.pointer pf_0), (.int .i32 n5)] w72 fun e75 w74 => e75 = .returned (.tuple #[]) ∧
  Calls Pg fn_seq_Forest_pull #[(.pointer pf_0), (.int .i32 nx_1)] w74 fun e77 w76 => e77 = .returned (.tuple #[]) ∧
  R (.tuple #[]) w76) else (
  Calls Pg fn_seq_Forest_pull #[(.pointer pf_0), (.int .i32 n5)] w71 fun e79 w78 => e79 = .returned (.tuple #[]) ∧
  Calls Pg fn_seq_Forest_pull #[(.pointer pf_0), (.int .i32 nx_1)] w78 fun e81 w80 => e81 = .returned (.tuple #[]) ∧
  R (.tuple #[]) w80)) else (
  Calls Pg fn_seq_Forest_hang #[(.pointer pf_0), (.int .i32 n5), (.int .i32 nx_1), (.bool (!(n13 == nx_1)))] w60 fun e83 w82 => e83 = .returned (.tuple #[]) ∧
  pt pf_0 fun a84 =>
  ldS a84 w82 fun s85b s85l s85c =>
  ixS s85b s85l nx_1 9 fun a86 =>
  sto a86 (.int .i32 n9) w82 fun w87 =>
  bif (n9 != (-1 : Int)) then (
  Calls Pg fn_seq_Forest_hang #[(.pointer pf_0), (.int .i32 nx_1), (.int .i32 n9), (.bool false)] w87 fun e89 w88 => e89 = .returned (.tuple #[]) ∧
  Calls Pg fn_seq_Forest_pull #[(.pointer pf_0), (.int .i32 n5)] w88 fun e91 w90 => e91 = .returned (.tuple #[]) ∧
  Calls Pg fn_seq_Forest_pull #[(.pointer pf_0), (.int .i32 nx_1)] w90 fun e93 w92 => e93 = .returned (.tuple #[]) ∧
  R (.tuple #[]) w92) else (
  Calls Pg fn_seq_Forest_pull #[(.pointer pf_0), (.int .i32 n5)] w87 fun e95 w94 => e95 = .returned (.tuple #[]) ∧
  Calls Pg fn_seq_Forest_pull #[(.pointer pf_0), (.int .i32 nx_1)] w94 fun e97 w96 => e97 = .returned (.tuple #[]) ∧
  R (.tuple #[]) w96)))
theorem eq_seq_Forest_rotate (pf_0 : Option Addr) (nx_1 : Int) (w : World) (R : Value → World → Prop) : sh_seq_Forest_rotate pf_0 nx_1 w R = denF Pg Eall Tryd.f84 (.seq (.leaf) (.seq (.leaf) (.seq (.leaf) (.seq (.seq (.leaf) (.cond (.leaf) (.leaf))) (.seq (.leaf) (.seq (.leaf) (.seq (.leaf) (.seq (.seq (.leaf) (.cond (.leaf) (.leaf))) (.seq (.leaf) (.leaf)))))))))) [(.pointer pf_0), (.int .i32 nx_1)] w R := by kernel_rfl
theorem calls_seq_Forest_rotate (pf_0 : Option Addr) (nx_1 : Int) (w : World) (R : Value → World → Prop) (h : sh_seq_Forest_rotate pf_0 nx_1 w R) : Calls Pg fn_seq_Forest_rotate #[(.pointer pf_0), (.int .i32 nx_1)] w fun e w' => ∃ v, e = .returned v ∧ R v w' :=
  calls_of_den Eall_enter wide_mixed Tryd.func84 (by rw [← eq_seq_Forest_rotate]; exact h)

end Go.Proofs.YtaoemljoiahapaaDoor
