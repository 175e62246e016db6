/-
What each function does, as one formula, printed by a program of this session out of the translation; the kernel holds each print against the translation.
Conditions: none.
-/
import Derived.Test.YtledchlbmilneaaSn
namespace Go.Proofs.Ytledchlbmilneaa
open Go
set_option linter.unusedVariables false
set_option maxRecDepth 100000
/-- 'plait/seq.New' -/
def sh_seq_New (nn_0 : Int) (w : World) (R : Value → World → Prop) : Prop :=
  ∃ J1 : List Value → World → Prop, (
  bif (decide (nn_0 < (1 : Int))) then (
  R (Value.tuple #[(Value.pointer none), (Value.iface T_api_Errno (Value.int .i64 (1 : Int)))]) w) else (
  bif (decide (nn_0 > (8388608 : Int))) then (
  R (Value.tuple #[(Value.pointer none), (Value.iface T_api_Errno (Value.int .i64 (1 : Int)))]) w) else (
  J1 [] w))) ∧ ∀ _ : Env, ∀ w2 : World, J1 [] w2 →
  0 ≤ nn_0 ∧ nn_0 ≤ nn_0 ∧ (56 : Int) * nn_0 ≤ 140737488355328 ∧ alo (zerosOf #[(Value.int .i32 (0 : Int)), (Value.int .i32 (0 : Int)), (Value.int .i32 (0 : Int)), (Value.bool false), (Value.int .i32 (0 : Int)), (Value.int .i64 (0 : Int)), (Value.int .i64 (0 : Int)), (Value.int .i64 (0 : Int)), (Value.int .i64 (0 : Int))] (Int.toNat nn_0)) T_seq_node w2 fun a3 w4 =>
  alo #[(Value.slice (some a3) (Int.toNat nn_0) (Int.toNat nn_0))] T_seq_Forest w4 fun a5 w6 =>
  ldS a5 w6 fun s20_7b s20_7l s20_7c =>
  ∃ (I8 : List Value → World → Prop) (m9 : List Value → World → Nat), I8 [(Value.int .i64 (0 : Int))] w6 ∧
  ∀ _ : Env, ∀ n10 : Int, ∀ w11 : World, I8 [(Value.int .i64 n10)] w11 →
  bif (decide (n10 < (s20_7l : Int))) then (
  ldS a5 w11 fun s28_12b s28_12l s28_12c =>
  ixS s28_12b s28_12l n10 9 fun a31_13 =>
  sto a31_13 (Value.int .i32 (-1 : Int)) w11 fun w14 =>
  sto (a31_13.add 1) (Value.int .i32 (-1 : Int)) w14 fun w15 =>
  sto (a31_13.add 2) (Value.int .i32 (-1 : Int)) w15 fun w16 =>
  sto (a31_13.add 3) (Value.bool false) w16 fun w17 =>
  sto (a31_13.add 4) (Value.int .i32 (1 : Int)) w17 fun w18 =>
  sto (a31_13.add 5) (Value.int .i64 (0 : Int)) w18 fun w19 =>
  sto (a31_13.add 6) (Value.int .i64 (0 : Int)) w19 fun w20 =>
  sto (a31_13.add 7) (Value.int .i64 (0 : Int)) w20 fun w21 =>
  sto (a31_13.add 8) (Value.int .i64 (0 : Int)) w21 fun w22 =>
  (I8 [(Value.int .i64 (IntKind.wrap .i64 (n10 + (1 : Int))))] w22 ∧ m9 [(Value.int .i64 (IntKind.wrap .i64 (n10 + (1 : Int))))] w22 < m9 [(Value.int .i64 n10)] w11)) else (
  R (Value.tuple #[(Value.pointer (some a5)), Value.nilIface]) w11)
theorem eq_seq_New (nn_0 : Int) (w : World) (R : Value → World → Prop) : sh_seq_New nn_0 w R = denF Pg Eall Try.f15 (.seq (.leaf) (.join [] [] (.seq (.leaf) (.cond (.seq (.leaf) (.leaf)) (.leaf))) (.seq (.leaf) (.seq (.seq (.leaf) (.block (.loop [22] [.one (.int .i64)] (.seq (.leaf) (.seq (.cond (.leaf) (.leaf)) (.seq (.block (.seq (.leaf) (.leaf))) (.leaf))))))) (.seq (.leaf) (.leaf)))))) [(Value.int .i64 nn_0)] w R := by kernel_rfl
theorem calls_seq_New (nn_0 : Int) (w : World) (R : Value → World → Prop) (h : sh_seq_New nn_0 w R) : Calls Pg fn_seq_New #[(Value.int .i64 nn_0)] w fun e w' => ∃ v, e = .returned v ∧ R v w' :=
  calls_of_den Eall_enter wide_mixed Try.func15 (by rw [← eq_seq_New]; exact h)

/-- '(*plait/seq.Forest).Cut' -/
def sh_seq_Forest_Cut (pf_0 : Option Addr) (nx_1 : Int) (w : World) (R : Value → World → Prop) : Prop :=
  alo #[(Value.int .i64 nx_1)] T_int w fun a2 w3 =>
  Calls Pg fn_seq_Forest_check #[(Value.pointer pf_0), (Value.slice (some a2) 1 1)] w3 fun e6 w5 => ∃ v12_4 : Value, e6 = .returned v12_4 ∧
  isI v12_4 ∧ bif (!(nilI v12_4)) then (
  R (Value.tuple #[(Value.bool false), v12_4]) w5) else (
  Calls Pg fn_seq_Forest_lift #[(Value.pointer pf_0), (Value.int .i32 (IntKind.wrap .i32 nx_1))] w5 fun e8 w7 => e8 = .returned (Value.tuple #[]) ∧
  pt pf_0 fun a22_9 =>
  ldS a22_9 w7 fun s24_10b s24_10l s24_10c =>
  ixS s24_10b s24_10l (IntKind.wrap .i32 nx_1) 9 fun a26_11 =>
  ldI .i32 (a26_11.add 1) w7 fun n28_12 =>
  bif (n28_12 == (-1 : Int)) then (
  R (Value.tuple #[(Value.bool false), Value.nilIface]) w7) else (
  pt pf_0 fun a32_13 =>
  ldS a32_13 (World.drew w7) fun s34_14b s34_14l s34_14c =>
  pt pf_0 fun a37_15 =>
  ldS a37_15 (World.drew w7) fun s39_16b s39_16l s39_16c =>
  ixS s34_14b s34_14l n28_12 9 fun a41_17 =>
  sto a41_17 (Value.int .i32 (-1 : Int)) (World.drew w7) fun w18 =>
  ixS s39_16b s39_16l (IntKind.wrap .i32 nx_1) 9 fun a43_19 =>
  sto (a43_19.add 1) (Value.int .i32 (-1 : Int)) w18 fun w20 =>
  Calls Pg fn_seq_Forest_pull #[(Value.pointer pf_0), (Value.int .i32 (IntKind.wrap .i32 nx_1))] w20 fun e22 w21 => e22 = .returned (Value.tuple #[]) ∧
  R (Value.tuple #[(Value.bool true), Value.nilIface]) w21))
theorem eq_seq_Forest_Cut (pf_0 : Option Addr) (nx_1 : Int) (w : World) (R : Value → World → Prop) : sh_seq_Forest_Cut pf_0 nx_1 w R = denF Pg Eall Try.f17 (.seq (.leaf) (.seq (.seq (.leaf) (.seq (.leaf) (.cond (.seq (.leaf) (.leaf)) (.leaf)))) (.seq (.leaf) (.seq (.leaf) (.seq (.leaf) (.seq (.seq (.leaf) (.cond (.seq (.leaf) (.leaf)) (.leaf))) (.seq (.reg (.tk 0 [] [] (.tk 1 [] [] (.tk 2 [] [] (.tk 3 [10, 11, 12, 13, 14, 15] [12, 15] (.tk 4 [] [] (.tk 5 [] [] (.tk 6 [] [] (.tk 7 [] [] (.tk 8 [10, 11, 12, 13, 14, 15] [12, 15] (.tk 9 [] [] (.tk 10 [] [] (.tk 11 [] [] (.one 12 (.tk 13 [] [] (.tk 14 [] [] (.one 15 (.fin)))))))))))))))))) (.seq (.leaf) (.seq (.leaf) (.leaf)))))))))) [(Value.pointer pf_0), (Value.int .i64 nx_1)] w R := by kernel_rfl
theorem calls_seq_Forest_Cut (pf_0 : Option Addr) (nx_1 : Int) (w : World) (R : Value → World → Prop) (h : sh_seq_Forest_Cut pf_0 nx_1 w R) : Calls Pg fn_seq_Forest_Cut #[(Value.pointer pf_0), (Value.int .i64 nx_1)] w fun e w' => ∃ v, e = .returned v ∧ R v w' :=
  calls_of_den Eall_enter wide_mixed Try.func17 (by rw [← eq_seq_Forest_Cut]; exact h)

/-- '(*plait/seq.Forest).Join' -/
def sh_seq_Forest_Join (pf_0 : Option Addr) (na_1 : Int) (nb_2 : Int) (w : World) (R : Value → World → Prop) : Prop :=
  alo #[(Value.int .i64 na_1), (Value.int .i64 nb_2)] T_int w fun a3 w4 =>
  Calls Pg fn_seq_Forest_check #[(Value.pointer pf_0), (Value.slice (some a3) 2 2)] w4 fun e7 w6 => ∃ v14_5 : Value, e7 = .returned v14_5 ∧
  isI v14_5 ∧ bif (!(nilI v14_5)) then (
  R v14_5 w6) else (
  Calls Pg fn_seq_Forest_same #[(Value.pointer pf_0), (Value.int .i32 (IntKind.wrap .i32 na_1)), (Value.int .i32 (IntKind.wrap .i32 nb_2))] w6 fun e10 w9 => ∃ b25_8 : Bool, e10 = .returned (Value.bool b25_8) ∧
  bif b25_8 then (
  R (Value.iface T_api_Errno (Value.int .i64 (20 : Int))) w9) else (
  Calls Pg fn_seq_Forest_end #[(Value.pointer pf_0), (Value.int .i32 (IntKind.wrap .i32 na_1)), (Value.bool false)] w9 fun e13 w12 => ∃ n29_11 : Int, e13 = .returned (Value.int .i32 n29_11) ∧
  Calls Pg fn_seq_Forest_lift #[(Value.pointer pf_0), (Value.int .i32 (IntKind.wrap .i32 nb_2))] w12 fun e15 w14 => e15 = .returned (Value.tuple #[]) ∧
  Calls Pg fn_seq_Forest_hang #[(Value.pointer pf_0), (Value.int .i32 (IntKind.wrap .i32 nb_2)), (Value.int .i32 n29_11), (Value.bool false)] w14 fun e17 w16 => e17 = .returned (Value.tuple #[]) ∧
  Calls Pg fn_seq_Forest_pull #[(Value.pointer pf_0), (Value.int .i32 n29_11)] w16 fun e19 w18 => e19 = .returned (Value.tuple #[]) ∧
  R Value.nilIface w18))
theorem eq_seq_Forest_Join (pf_0 : Option Addr) (na_1 : Int) (nb_2 : Int) (w : World) (R : Value → World → Prop) : sh_seq_Forest_Join pf_0 na_1 nb_2 w R = denF Pg Eall Try.f18 (.seq (.leaf) (.seq (.seq (.leaf) (.seq (.leaf) (.cond (.seq (.leaf) (.leaf)) (.leaf)))) (.seq (.leaf) (.seq (.seq (.leaf) (.cond (.seq (.leaf) (.leaf)) (.leaf))) (.seq (.leaf) (.seq (.leaf) (.seq (.leaf) (.seq (.leaf) (.seq (.leaf) (.leaf)))))))))) [(Value.pointer pf_0), (Value.int .i64 na_1), (Value.int .i64 nb_2)] w R := by kernel_rfl
theorem calls_seq_Forest_Join (pf_0 : Option Addr) (na_1 : Int) (nb_2 : Int) (w : World) (R : Value → World → Prop) (h : sh_seq_Forest_Join pf_0 na_1 nb_2 w R) : Calls Pg fn_seq_Forest_Join #[(Value.pointer pf_0), (Value.int .i64 na_1), (Value.int .i64 nb_2)] w fun e w' => ∃ v, e = .returned v ∧ R v w' :=
  calls_of_den Eall_enter wide_mixed Try.func18 (by rw [← eq_seq_Forest_Join]; exact h)

/-- '(*plait/seq.Forest).List' -/
def sh_seq_Forest_List (pf_0 : Option Addr) (nx_1 : Int) (w : World) (R : Value → World → Prop) : Prop :=
  Calls Pg fn_seq_Forest_top #[(Value.pointer pf_0), (Value.int .i64 nx_1)] w fun e5 w4 => ∃ p14_2 : Option Addr, ∃ v14_3 : Value, e5 = .returned (Value.tuple #[(Value.pointer p14_2), v14_3]) ∧
  isI v14_3 ∧ bif (!(nilI v14_3)) then (
  R (Value.tuple #[(Value.slice none 0 0), v14_3]) w4) else (
  ∃ (I6 : List Value → World → Prop) (m7 : List Value → World → Nat), I6 [(Value.slice none 0 0), (Value.int .i32 (IntKind.wrap .i32 nx_1)), (Value.slice none 0 0)] w4 ∧
  ∀ _ : Env, ∀ s8b : Option Addr, ∀ s8l : Nat, ∀ s8c : Nat, ∀ n9 : Int, ∀ s10b : Option Addr, ∀ s10l : Nat, ∀ s10c : Nat, ∀ w11 : World, I6 [(Value.slice s8b s8l s8c), (Value.int .i32 n9), (Value.slice s10b s10l s10c)] w11 →
  ∃ J12 : List Value → World → Prop, (
  bif (n9 != (-1 : Int)) then (
  J12 [] w11) else (
  bif (decide ((s8l : Int) > (0 : Int))) then (
  J12 [] w11) else (
  R (Value.tuple #[(Value.slice s10b s10l s10c), Value.nilIface]) w11))) ∧ ∀ _ : Env, ∀ w13 : World, J12 [] w13 →
  ∃ (I14 : List Value → World → Prop) (m15 : List Value → World → Nat), I14 [(Value.slice s8b s8l s8c), (Value.int .i32 n9)] w13 ∧
  ∀ _ : Env, ∀ s16b : Option Addr, ∀ s16l : Nat, ∀ s16c : Nat, ∀ n17 : Int, ∀ w18 : World, I14 [(Value.slice s16b s16l s16c), (Value.int .i32 n17)] w18 →
  bif (n17 != (-1 : Int)) then (
  Calls Pg fn_seq_Forest_push #[(Value.pointer pf_0), (Value.int .i32 n17)] w18 fun e20 w19 => e20 = .returned (Value.tuple #[]) ∧
  alo #[(Value.int .i32 n17)] T_int32 w19 fun a21 w22 =>
  ∃ s45_23b : Option Addr, ∃ s45_23l : Nat, ∃ s45_23c : Nat, ∃ w24 : World, (Builtin.append_ #[T_sl_int32, T_sl_int32] T_sl_int32 #[(Value.slice s16b s16l s16c), (Value.slice (some a21) 1 1)]).run Pg w22 = .ok (Value.slice s45_23b s45_23l s45_23c) w24 ∧
  pt pf_0 fun a32_25 =>
  ldS a32_25 w24 fun s34_26b s34_26l s34_26c =>
  ixS s34_26b s34_26l n17 9 fun a36_27 =>
  ldI .i32 (a36_27.add 1) w24 fun n38_28 =>
  (I14 [(Value.slice s45_23b s45_23l s45_23c), (Value.int .i32 n38_28)] w24 ∧ m15 [(Value.slice s45_23b s45_23l s45_23c), (Value.int .i32 n38_28)] w24 < m15 [(Value.slice s16b s16l s16c), (Value.int .i32 n17)] w18)) else (
  ixS s16b s16l (IntKind.wrap .i64 ((s16l : Int) - (1 : Int))) 1 fun a50_29 =>
  ldI .i32 a50_29 w18 fun n51_30 =>
  0 ≤ (IntKind.wrap .i64 ((s16l : Int) - (1 : Int))) ∧ (IntKind.wrap .i64 ((s16l : Int) - (1 : Int))) ≤ ((s16c : Nat) : Int) ∧ alo #[(Value.int .i64 (IntKind.wrap .i64 n51_30))] T_int w18 fun a31 w32 =>
  ∃ s61_33b : Option Addr, ∃ s61_33l : Nat, ∃ s61_33c : Nat, ∃ w34 : World, (Builtin.append_ #[T_sl_int, T_sl_int] T_sl_int #[(Value.slice s10b s10l s10c), (Value.slice (some a31) 1 1)]).run Pg w32 = .ok (Value.slice s61_33b s61_33l s61_33c) w34 ∧
  pt pf_0 fun a63_35 =>
  ldS a63_35 w34 fun s65_36b s65_36l s65_36c =>
  ixS s65_36b s65_36l n51_30 9 fun a67_37 =>
  ldI .i32 (a67_37.add 2) w34 fun n69_38 =>
  (I6 [(Value.slice (if s16c = 0 then s16b else Option.map (fun a => Addr.add a (0 * 1)) s16b) ((Int.toNat (IntKind.wrap .i64 ((s16l : Int) - (1 : Int)))) - 0) (s16c - 0)), (Value.int .i32 n69_38), (Value.slice s61_33b s61_33l s61_33c)] w34 ∧ m7 [(Value.slice (if s16c = 0 then s16b else Option.map (fun a => Addr.add a (0 * 1)) s16b) ((Int.toNat (IntKind.wrap .i64 ((s16l : Int) - (1 : Int)))) - 0) (s16c - 0)), (Value.int .i32 n69_38), (Value.slice s61_33b s61_33l s61_33c)] w34 < m7 [(Value.slice s8b s8l s8c), (Value.int .i32 n9), (Value.slice s10b s10l s10c)] w11)))
theorem eq_seq_Forest_List (pf_0 : Option Addr) (nx_1 : Int) (w : World) (R : Value → World → Prop) : sh_seq_Forest_List pf_0 nx_1 w R = denF Pg Eall Try.f20 (.seq (.leaf) (.seq (.seq (.leaf) (.seq (.leaf) (.cond (.seq (.leaf) (.leaf)) (.leaf)))) (.seq (.leaf) (.seq (.leaf) (.seq (.leaf) (.seq (.block (.loop [9, 10, 8] [.one (.slc), .one (.int .i32), .one (.slc)] (.join [] [] (.seq (.leaf) (.cond (.leaf) (.leaf))) (.block (.seq (.block (.loop [9, 10] [.one (.slc), .one (.int .i32)] (.seq (.seq (.leaf) (.cond (.leaf) (.leaf))) (.seq (.block (.seq (.leaf) (.leaf))) (.leaf))))) (.seq (.leaf) (.seq (.leaf) (.seq (.leaf) (.leaf))))))))) (.seq (.leaf) (.leaf)))))))) [(Value.pointer pf_0), (Value.int .i64 nx_1)] w R := by kernel_rfl
theorem calls_seq_Forest_List (pf_0 : Option Addr) (nx_1 : Int) (w : World) (R : Value → World → Prop) (h : sh_seq_Forest_List pf_0 nx_1 w R) : Calls Pg fn_seq_Forest_List #[(Value.pointer pf_0), (Value.int .i64 nx_1)] w fun e w' => ∃ v, e = .returned v ∧ R v w' :=
  calls_of_den Eall_enter wide_mixed Try.func20 (by rw [← eq_seq_Forest_List]; exact h)

/-- '(*plait/seq.Forest).Same' -/
def sh_seq_Forest_Same (pf_0 : Option Addr) (na_1 : Int) (nb_2 : Int) (w : World) (R : Value → World → Prop) : Prop :=
  alo #[(Value.int .i64 na_1), (Value.int .i64 nb_2)] T_int w fun a3 w4 =>
  Calls Pg fn_seq_Forest_check #[(Value.pointer pf_0), (Value.slice (some a3) 2 2)] w4 fun e7 w6 => ∃ v13_5 : Value, e7 = .returned v13_5 ∧
  isI v13_5 ∧ bif (!(nilI v13_5)) then (
  R (Value.tuple #[(Value.bool false), v13_5]) w6) else (
  Calls Pg fn_seq_Forest_same #[(Value.pointer pf_0), (Value.int .i32 (IntKind.wrap .i32 na_1)), (Value.int .i32 (IntKind.wrap .i32 nb_2))] w6 fun e10 w9 => ∃ b22_8 : Bool, e10 = .returned (Value.bool b22_8) ∧
  R (Value.tuple #[(Value.bool b22_8), Value.nilIface]) w9)
theorem eq_seq_Forest_Same (pf_0 : Option Addr) (na_1 : Int) (nb_2 : Int) (w : World) (R : Value → World → Prop) : sh_seq_Forest_Same pf_0 na_1 nb_2 w R = denF Pg Eall Try.f23 (.seq (.leaf) (.seq (.seq (.leaf) (.seq (.leaf) (.cond (.seq (.leaf) (.leaf)) (.leaf)))) (.seq (.leaf) (.leaf)))) [(Value.pointer pf_0), (Value.int .i64 na_1), (Value.int .i64 nb_2)] w R := by kernel_rfl
theorem calls_seq_Forest_Same (pf_0 : Option Addr) (na_1 : Int) (nb_2 : Int) (w : World) (R : Value → World → Prop) (h : sh_seq_Forest_Same pf_0 na_1 nb_2 w R) : Calls Pg fn_seq_Forest_Same #[(Value.pointer pf_0), (Value.int .i64 na_1), (Value.int .i64 nb_2)] w fun e w' => ∃ v, e = .returned v ∧ R v w' :=
  calls_of_den Eall_enter wide_mixed Try.func23 (by rw [← eq_seq_Forest_Same]; exact h)

/-- '(*plait/seq.Forest).Size' -/
def sh_seq_Forest_Size (pf_0 : Option Addr) (nx_1 : Int) (w : World) (R : Value → World → Prop) : Prop :=
  Calls Pg fn_seq_Forest_top #[(Value.pointer pf_0), (Value.int .i64 nx_1)] w fun e5 w4 => ∃ p11_2 : Option Addr, ∃ v11_3 : Value, e5 = .returned (Value.tuple #[(Value.pointer p11_2), v11_3]) ∧
  isI v11_3 ∧ bif (!(nilI v11_3)) then (
  R (Value.tuple #[(Value.int .i64 (0 : Int)), v11_3]) w4) else (
  pt p11_2 fun a18_6 =>
  ldI .i32 (a18_6.add 4) w4 fun n20_7 =>
  R (Value.tuple #[(Value.int .i64 (IntKind.wrap .i64 n20_7)), Value.nilIface]) w4)
theorem eq_seq_Forest_Size (pf_0 : Option Addr) (nx_1 : Int) (w : World) (R : Value → World → Prop) : sh_seq_Forest_Size pf_0 nx_1 w R = denF Pg Eall Try.f24 (.seq (.leaf) (.seq (.leaf) (.seq (.seq (.leaf) (.cond (.seq (.leaf) (.leaf)) (.leaf))) (.seq (.leaf) (.leaf))))) [(Value.pointer pf_0), (Value.int .i64 nx_1)] w R := by kernel_rfl
theorem calls_seq_Forest_Size (pf_0 : Option Addr) (nx_1 : Int) (w : World) (R : Value → World → Prop) (h : sh_seq_Forest_Size pf_0 nx_1 w R) : Calls Pg fn_seq_Forest_Size #[(Value.pointer pf_0), (Value.int .i64 nx_1)] w fun e w' => ∃ v, e = .returned v ∧ R v w' :=
  calls_of_den Eall_enter wide_mixed Try.func24 (by rw [← eq_seq_Forest_Size]; exact h)

/-- '(*plait/seq.Forest).check' -/
def sh_seq_Forest_check (pf_0 : Option Addr) (sl_1b : Option Addr) (sl_1l : Nat) (sl_1c : Nat) (w : World) (R : Value → World → Prop) : Prop :=
  bif (Option.isNone pf_0) then (
  R (Value.iface T_api_Errno (Value.int .i64 (1 : Int))) w) else (
  ∃ (I2 : List Value → World → Prop) (m3 : List Value → World → Nat), I2 [(Value.int .i64 (0 : Int))] w ∧
  ∀ _ : Env, ∀ n4 : Int, ∀ w5 : World, I2 [(Value.int .i64 n4)] w5 →
  bif (decide (n4 < (sl_1l : Int))) then (
  ixS sl_1b sl_1l n4 1 fun a14_6 =>
  ldI .i64 a14_6 w5 fun n15_7 =>
  bif (decide (n15_7 < (0 : Int))) then (
  R (Value.iface T_api_Errno (Value.int .i64 (12 : Int))) w5) else (
  pt pf_0 fun a21_8 =>
  ldS a21_8 w5 fun s23_9b s23_9l s23_9c =>
  bif (decide (n15_7 ≥ (s23_9l : Int))) then (
  R (Value.iface T_api_Errno (Value.int .i64 (12 : Int))) w5) else (
  (I2 [(Value.int .i64 (IntKind.wrap .i64 (n4 + (1 : Int))))] w5 ∧ m3 [(Value.int .i64 (IntKind.wrap .i64 (n4 + (1 : Int))))] w5 < m3 [(Value.int .i64 n4)] w5)))) else (
  R Value.nilIface w5))
theorem eq_seq_Forest_check (pf_0 : Option Addr) (sl_1b : Option Addr) (sl_1l : Nat) (sl_1c : Nat) (w : World) (R : Value → World → Prop) : sh_seq_Forest_check pf_0 sl_1b sl_1l sl_1c w R = denF Pg Eall Try.f27 (.seq (.leaf) (.seq (.seq (.leaf) (.cond (.seq (.leaf) (.leaf)) (.leaf))) (.seq (.seq (.leaf) (.block (.loop [12] [.one (.int .i64)] (.seq (.leaf) (.seq (.cond (.leaf) (.leaf)) (.seq (.block (.seq (.leaf) (.seq (.leaf) (.cond (.seq (.leaf) (.leaf)) (.leaf))))) (.leaf))))))) (.seq (.leaf) (.leaf))))) [(Value.pointer pf_0), (Value.slice sl_1b sl_1l sl_1c)] w R := by kernel_rfl
theorem calls_seq_Forest_check (pf_0 : Option Addr) (sl_1b : Option Addr) (sl_1l : Nat) (sl_1c : Nat) (w : World) (R : Value → World → Prop) (h : sh_seq_Forest_check pf_0 sl_1b sl_1l sl_1c w R) : Calls Pg fn_seq_Forest_check #[(Value.pointer pf_0), (Value.slice sl_1b sl_1l sl_1c)] w fun e w' => ∃ v, e = .returned v ∧ R v w' :=
  calls_of_den Eall_enter wide_mixed Try.func27 (by rw [← eq_seq_Forest_check]; exact h)

/-- '(*plait/seq.Forest).lift' -/
def sh_seq_Forest_lift (pf_0 : Option Addr) (nx_1 : Int) (w : World) (R : Value → World → Prop) : Prop :=
  ∃ (I2 : List Value → World → Prop) (m3 : List Value → World → Nat), I2 [(Value.slice none 0 0), (Value.int .i32 nx_1)] w ∧
  ∀ _ : Env, ∀ s4b : Option Addr, ∀ s4l : Nat, ∀ s4c : Nat, ∀ n5 : Int, ∀ w6 : World, I2 [(Value.slice s4b s4l s4c), (Value.int .i32 n5)] w6 →
  bif (n5 != (-1 : Int)) then (
  alo #[(Value.int .i32 n5)] T_int32 w6 fun a7 w8 =>
  ∃ s23_9b : Option Addr, ∃ s23_9l : Nat, ∃ s23_9c : Nat, ∃ w10 : World, (Builtin.append_ #[T_sl_int32, T_sl_int32] T_sl_int32 #[(Value.slice s4b s4l s4c), (Value.slice (some a7) 1 1)]).run Pg w8 = .ok (Value.slice s23_9b s23_9l s23_9c) w10 ∧
  pt pf_0 fun a13_11 =>
  ldS a13_11 w10 fun s15_12b s15_12l s15_12c =>
  ixS s15_12b s15_12l n5 9 fun a17_13 =>
  ldI .i32 a17_13 w10 fun n19_14 =>
  (I2 [(Value.slice s23_9b s23_9l s23_9c), (Value.int .i32 n19_14)] w10 ∧ m3 [(Value.slice s23_9b s23_9l s23_9c), (Value.int .i32 n19_14)] w10 < m3 [(Value.slice s4b s4l s4c), (Value.int .i32 n5)] w6)) else (
  ∃ (I15 : List Value → World → Prop) (m16 : List Value → World → Nat), I15 [(Value.int .i64 (IntKind.wrap .i64 ((s4l : Int) - (1 : Int))))] w6 ∧
  ∀ _ : Env, ∀ n17 : Int, ∀ w18 : World, I15 [(Value.int .i64 n17)] w18 →
  bif (decide (n17 ≥ (0 : Int))) then (
  ixS s4b s4l n17 1 fun a34_19 =>
  ldI .i32 a34_19 w18 fun n35_20 =>
  Calls Pg fn_seq_Forest_push #[(Value.pointer pf_0), (Value.int .i32 n35_20)] w18 fun e22 w21 => e22 = .returned (Value.tuple #[]) ∧
  (I15 [(Value.int .i64 (IntKind.wrap .i64 (n17 - (1 : Int))))] w21 ∧ m16 [(Value.int .i64 (IntKind.wrap .i64 (n17 - (1 : Int))))] w21 < m16 [(Value.int .i64 n17)] w18)) else (
  ∃ (I23 : List Value → World → Prop) (m24 : List Value → World → Nat), I23 [] w18 ∧
  ∀ _ : Env, ∀ w25 : World, I23 [] w25 →
  pt pf_0 fun a38_26 =>
  ldS a38_26 w25 fun s40_27b s40_27l s40_27c =>
  ixS s40_27b s40_27l nx_1 9 fun a42_28 =>
  ldI .i32 a42_28 w25 fun n44_29 =>
  bif (n44_29 != (-1 : Int)) then (
  pt pf_0 fun a47_30 =>
  ldS a47_30 w25 fun s49_31b s49_31l s49_31c =>
  ixS s49_31b s49_31l nx_1 9 fun a51_32 =>
  ldI .i32 a51_32 w25 fun n53_33 =>
  pt pf_0 fun a55_34 =>
  ldS a55_34 w25 fun s57_35b s57_35l s57_35c =>
  ixS s57_35b s57_35l n53_33 9 fun a59_36 =>
  ldI .i32 a59_36 w25 fun n61_37 =>
  bif (n61_37 != (-1 : Int)) then (
  pt pf_0 fun a65_38 =>
  ldS a65_38 (World.drew w25) fun s67_39b s67_39l s67_39c =>
  ixS s67_39b s67_39l n61_37 9 fun a69_40 =>
  ldI .i32 (a69_40.add 1) (World.drew w25) fun n71_41 =>
  pt pf_0 fun a75_42 =>
  ldS a75_42 (World.drew w25) fun s77_43b s77_43l s77_43c =>
  ixS s77_43b s77_43l n53_33 9 fun a79_44 =>
  ldI .i32 (a79_44.add 1) (World.drew w25) fun n81_45 =>
  bif ((n71_41 == n53_33) == (n81_45 == nx_1)) then (
  Calls Pg fn_seq_Forest_rotate #[(Value.pointer pf_0), (Value.int .i32 n53_33)] (World.drew w25) fun e47 w46 => e47 = .returned (Value.tuple #[]) ∧
  Calls Pg fn_seq_Forest_rotate #[(Value.pointer pf_0), (Value.int .i32 nx_1)] w46 fun e49 w48 => e49 = .returned (Value.tuple #[]) ∧
  (I23 [] w48 ∧ m24 [] w48 < m24 [] w25)) else (
  Calls Pg fn_seq_Forest_rotate #[(Value.pointer pf_0), (Value.int .i32 nx_1)] (World.drew w25) fun e51 w50 => e51 = .returned (Value.tuple #[]) ∧
  Calls Pg fn_seq_Forest_rotate #[(Value.pointer pf_0), (Value.int .i32 nx_1)] w50 fun e53 w52 => e53 = .returned (Value.tuple #[]) ∧
  (I23 [] w52 ∧ m24 [] w52 < m24 [] w25))) else (
  Calls Pg fn_seq_Forest_rotate #[(Value.pointer pf_0), (Value.int .i32 nx_1)] w25 fun e55 w54 => e55 = .returned (Value.tuple #[]) ∧
  (I23 [] w54 ∧ m24 [] w54 < m24 [] w25))) else (
  R (Value.tuple #[]) w25)))
theorem eq_seq_Forest_lift (pf_0 : Option Addr) (nx_1 : Int) (w : World) (R : Value → World → Prop) : sh_seq_Forest_lift pf_0 nx_1 w R = denF Pg Eall Try.f28 (.seq (.leaf) (.seq (.seq (.leaf) (.block (.loop [4, 5] [.one (.slc), .one (.int .i32)] (.seq (.seq (.leaf) (.cond (.leaf) (.leaf))) (.seq (.block (.leaf)) (.leaf)))))) (.seq (.seq (.leaf) (.block (.loop [6] [.one (.int .i64)] (.seq (.seq (.leaf) (.cond (.leaf) (.leaf))) (.seq (.block (.leaf)) (.leaf)))))) (.block (.loop [] [] (.seq (.seq (.leaf) (.cond (.leaf) (.leaf))) (.block (.seq (.leaf) (.seq (.seq (.leaf) (.seq (.leaf) (.cond (.seq (.reg (.tk 0 [] [] (.tk 1 [] [] (.tk 2 [] [] (.tk 3 [] [] (.tk 4 [] [] (.tk 5 [] [] (.tk 6 [] [] (.tk 7 [] [] (.tk 8 [] [] (.tk 9 [] [] (.tk 10 [] [] (.tk 11 [] [] (.tk 12 [] [] (.tk 13 [] [] (.tk 14 [] [] (.tk 15 [] [] (.tk 16 [] [] (.tk 17 [] [] (.tk 18 [] [] (.tk 19 [] [] (.tk 20 [] [] (.fin))))))))))))))))))))))) (.cond (.leaf) (.leaf))) (.leaf)))) (.leaf)))))))))) [(Value.pointer pf_0), (Value.int .i32 nx_1)] w R := by kernel_rfl
theorem calls_seq_Forest_lift (pf_0 : Option Addr) (nx_1 : Int) (w : World) (R : Value → World → Prop) (h : sh_seq_Forest_lift pf_0 nx_1 w R) : Calls Pg fn_seq_Forest_lift #[(Value.pointer pf_0), (Value.int .i32 nx_1)] w fun e w' => ∃ v, e = .returned v ∧ R v w' :=
  calls_of_den Eall_enter wide_mixed Try.func28 (by rw [← eq_seq_Forest_lift]; exact h)

/-- '(*plait/seq.Forest).pull' -/
def sh_seq_Forest_pull (pf_0 : Option Addr) (nx_1 : Int) (w : World) (R : Value → World → Prop) : Prop :=
  pt pf_0 fun a9_2 =>
  ldS a9_2 w fun s11_3b s11_3l s11_3c =>
  ixS s11_3b s11_3l nx_1 9 fun a13_4 =>
  ldI .i64 (a13_4.add 5) (World.drew w) fun n21_5 =>
  ldI .i64 (a13_4.add 5) (World.drew w) fun n25_6 =>
  ldI .i64 (a13_4.add 5) (World.drew w) fun n29_7 =>
  sto (a13_4.add 4) (Value.int .i32 (1 : Int)) (World.drew w) fun w8 =>
  sto (a13_4.add 6) (Value.int .i64 n21_5) w8 fun w9 =>
  sto (a13_4.add 7) (Value.int .i64 n25_6) w9 fun w10 =>
  sto (a13_4.add 8) (Value.int .i64 n29_7) w10 fun w11 =>
  ldI .i32 (a13_4.add 1) (World.drew w11) fun n41_12 =>
  ldI .i32 (a13_4.add 2) (World.drew w11) fun n45_13 =>
  ∃ n49_14 : Int, 0 ≤ (0 : Int) ∧ (0 : Int) < ((2 : Nat) : Int) ∧ #[(Value.int .i32 n41_12), (Value.int .i32 n45_13)][(Int.toNat (0 : Int)) * 1]? = some (Value.int .i32 n49_14) ∧
  bif (n49_14 == (-1 : Int)) then (
  ∃ n49_15 : Int, 0 ≤ (1 : Int) ∧ (1 : Int) < ((2 : Nat) : Int) ∧ #[(Value.int .i32 n41_12), (Value.int .i32 n45_13)][(Int.toNat (1 : Int)) * 1]? = some (Value.int .i32 n49_15) ∧
  bif (n49_15 == (-1 : Int)) then (
  R (Value.tuple #[]) (World.drew w11)) else (
  pt pf_0 fun a53_16 =>
  ldS a53_16 (World.drew w11) fun s55_17b s55_17l s55_17c =>
  ixS s55_17b s55_17l n49_15 9 fun a57_18 =>
  ldI .i32 (a13_4.add 4) (World.drew (World.drew w11)) fun n61_19 =>
  ldI .i32 (a57_18.add 4) (World.drew (World.drew w11)) fun n65_20 =>
  sto (a13_4.add 4) (Value.int .i32 (IntKind.wrap .i32 (n61_19 + n65_20))) (World.drew (World.drew w11)) fun w21 =>
  ldI .i64 (a13_4.add 6) (World.drew w21) fun n72_22 =>
  ldI .i64 (a57_18.add 6) (World.drew w21) fun n76_23 =>
  sto (a13_4.add 6) (Value.int .i64 (IntKind.wrap .i64 (n72_22 + n76_23))) (World.drew w21) fun w24 =>
  ldI .i64 (a13_4.add 7) (World.drew w24) fun n85_25 =>
  ldI .i64 (a57_18.add 7) (World.drew w24) fun n89_26 =>
  ldI .i64 (a13_4.add 8) (World.drew w24) fun n94_27 =>
  ldI .i64 (a57_18.add 8) (World.drew w24) fun n98_28 =>
  sto (a13_4.add 7) (Value.int .i64 (if n89_26 < n85_25 then n89_26 else n85_25)) (World.drew w24) fun w29 =>
  sto (a13_4.add 8) (Value.int .i64 (if n98_28 > n94_27 then n98_28 else n94_27)) w29 fun w30 =>
  R (Value.tuple #[]) w30)) else (
  pt pf_0 fun a53_31 =>
  ldS a53_31 (World.drew w11) fun s55_32b s55_32l s55_32c =>
  ixS s55_32b s55_32l n49_14 9 fun a57_33 =>
  ldI .i32 (a13_4.add 4) (World.drew (World.drew w11)) fun n61_34 =>
  ldI .i32 (a57_33.add 4) (World.drew (World.drew w11)) fun n65_35 =>
  sto (a13_4.add 4) (Value.int .i32 (IntKind.wrap .i32 (n61_34 + n65_35))) (World.drew (World.drew w11)) fun w36 =>
  ldI .i64 (a13_4.add 6) (World.drew w36) fun n72_37 =>
  ldI .i64 (a57_33.add 6) (World.drew w36) fun n76_38 =>
  sto (a13_4.add 6) (Value.int .i64 (IntKind.wrap .i64 (n72_37 + n76_38))) (World.drew w36) fun w39 =>
  ldI .i64 (a13_4.add 7) (World.drew w39) fun n85_40 =>
  ldI .i64 (a57_33.add 7) (World.drew w39) fun n89_41 =>
  ldI .i64 (a13_4.add 8) (World.drew w39) fun n94_42 =>
  ldI .i64 (a57_33.add 8) (World.drew w39) fun n98_43 =>
  sto (a13_4.add 7) (Value.int .i64 (if n89_41 < n85_40 then n89_41 else n85_40)) (World.drew w39) fun w44 =>
  sto (a13_4.add 8) (Value.int .i64 (if n98_43 > n94_42 then n98_43 else n94_42)) w44 fun w45 =>
  ∃ n49_46 : Int, 0 ≤ (1 : Int) ∧ (1 : Int) < ((2 : Nat) : Int) ∧ #[(Value.int .i32 n41_12), (Value.int .i32 n45_13)][(Int.toNat (1 : Int)) * 1]? = some (Value.int .i32 n49_46) ∧
  bif (n49_46 == (-1 : Int)) then (
  R (Value.tuple #[]) w45) else (
  pt pf_0 fun a53_47 =>
  ldS a53_47 w45 fun s55_48b s55_48l s55_48c =>
  ixS s55_48b s55_48l n49_46 9 fun a57_49 =>
  ldI .i32 (a13_4.add 4) (World.drew w45) fun n61_50 =>
  ldI .i32 (a57_49.add 4) (World.drew w45) fun n65_51 =>
  sto (a13_4.add 4) (Value.int .i32 (IntKind.wrap .i32 (n61_50 + n65_51))) (World.drew w45) fun w52 =>
  ldI .i64 (a13_4.add 6) (World.drew w52) fun n72_53 =>
  ldI .i64 (a57_49.add 6) (World.drew w52) fun n76_54 =>
  sto (a13_4.add 6) (Value.int .i64 (IntKind.wrap .i64 (n72_53 + n76_54))) (World.drew w52) fun w55 =>
  ldI .i64 (a13_4.add 7) (World.drew w55) fun n85_56 =>
  ldI .i64 (a57_49.add 7) (World.drew w55) fun n89_57 =>
  ldI .i64 (a13_4.add 8) (World.drew w55) fun n94_58 =>
  ldI .i64 (a57_49.add 8) (World.drew w55) fun n98_59 =>
  sto (a13_4.add 7) (Value.int .i64 (if n89_57 < n85_56 then n89_57 else n85_56)) (World.drew w55) fun w60 =>
  sto (a13_4.add 8) (Value.int .i64 (if n98_59 > n94_58 then n98_59 else n94_58)) w60 fun w61 =>
  R (Value.tuple #[]) w61))
theorem eq_seq_Forest_pull (pf_0 : Option Addr) (nx_1 : Int) (w : World) (R : Value → World → Prop) : sh_seq_Forest_pull pf_0 nx_1 w R = denF Pg Eall Try.f29 (.seq (.leaf) (.seq (.reg (.tk 0 [] [] (.tk 1 [] [] (.tk 2 [] [] (.tk 3 [] [] (.tk 4 [] [] (.tk 5 [] [] (.tk 6 [] [] (.tk 7 [16, 17, 18, 19, 20, 21, 22, 23, 24, 25, 26, 27] [18, 21, 24, 27] (.tk 8 [] [] (.tk 9 [] [] (.tk 10 [] [] (.tk 11 [16, 17, 18, 19, 20, 21, 22, 23, 24, 25, 26, 27] [18, 21, 24, 27] (.tk 12 [] [] (.tk 13 [] [] (.tk 14 [] [] (.tk 15 [16, 17, 18, 19, 20, 21, 22, 23, 24, 25, 26, 27] [18, 21, 24, 27] (.tk 16 [] [] (.tk 17 [] [] (.one 18 (.tk 19 [] [] (.tk 20 [] [] (.one 21 (.tk 22 [] [] (.tk 23 [] [] (.one 24 (.tk 25 [] [] (.tk 26 [] [] (.one 27 (.fin)))))))))))))))))))))))))))))) (.seq (.reg (.tk 0 [] [] (.tk 1 [] [] (.tk 2 [] [] (.tk 3 [] [] (.tk 4 [] [] (.tk 5 [] [] (.tk 6 [] [] (.tk 7 [] [] (.tk 8 [] [] (.tk 9 [] [] (.fin)))))))))))) (.block (.unr 3 (.seq (.leaf) (.seq (.cond (.leaf) (.leaf)) (.seq (.block (.seq (.leaf) (.seq (.seq (.leaf) (.cond (.leaf) (.leaf))) (.seq (.leaf) (.seq (.reg (.tk 0 [] [] (.tk 1 [] [] (.tk 2 [] [] (.tk 3 [8, 9, 10, 11] [11] (.tk 4 [] [] (.tk 5 [] [] (.tk 6 [] [] (.tk 7 [8, 9, 10, 11] [11] (.tk 8 [] [] (.tk 9 [] [] (.tk 10 [] [] (.one 11 (.fin)))))))))))))) (.seq (.reg (.tk 0 [] [] (.tk 1 [] [] (.tk 2 [] [] (.tk 3 [8, 9, 10, 11] [11] (.tk 4 [] [] (.tk 5 [] [] (.tk 6 [] [] (.tk 7 [8, 9, 10, 11] [11] (.tk 8 [] [] (.tk 9 [] [] (.tk 10 [] [] (.one 11 (.fin)))))))))))))) (.reg (.tk 0 [] [] (.tk 1 [] [] (.tk 2 [] [] (.tk 3 [] [] (.tk 4 [] [] (.tk 5 [10, 20, 21, 22, 23, 24, 25] [22, 25] (.tk 6 [] [] (.tk 7 [] [] (.tk 8 [] [] (.tk 9 [10, 20, 21, 22, 23, 24, 25] [22, 25] (.tk 10 [] [] (.tk 11 [] [] (.tk 12 [] [] (.tk 13 [] [] (.tk 14 [19, 20, 21, 22, 23, 24, 25] [22, 25] (.tk 15 [] [] (.tk 16 [] [] (.tk 17 [] [] (.tk 18 [19, 20, 21, 22, 23, 24, 25] [22, 25] (.tk 19 [] [] (.tk 20 [] [] (.tk 21 [] [] (.one 22 (.tk 23 [] [] (.tk 24 [] [] (.one 25 (.fin)))))))))))))))))))))))))))))))))) (.leaf))))))))) [(Value.pointer pf_0), (Value.int .i32 nx_1)] w R := by kernel_rfl
theorem calls_seq_Forest_pull (pf_0 : Option Addr) (nx_1 : Int) (w : World) (R : Value → World → Prop) (h : sh_seq_Forest_pull pf_0 nx_1 w R) : Calls Pg fn_seq_Forest_pull #[(Value.pointer pf_0), (Value.int .i32 nx_1)] w fun e w' => ∃ v, e = .returned v ∧ R v w' :=
  calls_of_den Eall_enter wide_mixed Try.func29 (by rw [← eq_seq_Forest_pull]; exact h)

/-- '(*plait/seq.Forest).same' -/
def sh_seq_Forest_same (pf_0 : Option Addr) (na_1 : Int) (nb_2 : Int) (w : World) (R : Value → World → Prop) : Prop :=
  bif (na_1 == nb_2) then (
  R (Value.bool true) w) else (
  Calls Pg fn_seq_Forest_lift #[(Value.pointer pf_0), (Value.int .i32 na_1)] w fun e4 w3 => e4 = .returned (Value.tuple #[]) ∧
  Calls Pg fn_seq_Forest_lift #[(Value.pointer pf_0), (Value.int .i32 nb_2)] w3 fun e6 w5 => e6 = .returned (Value.tuple #[]) ∧
  pt pf_0 fun a17_7 =>
  ldS a17_7 w5 fun s19_8b s19_8l s19_8c =>
  ixS s19_8b s19_8l na_1 9 fun a21_9 =>
  ldI .i32 a21_9 w5 fun n23_10 =>
  R (Value.bool (n23_10 != (-1 : Int))) w5)
theorem eq_seq_Forest_same (pf_0 : Option Addr) (na_1 : Int) (nb_2 : Int) (w : World) (R : Value → World → Prop) : sh_seq_Forest_same pf_0 na_1 nb_2 w R = denF Pg Eall Try.f30 (.seq (.leaf) (.seq (.seq (.leaf) (.cond (.seq (.leaf) (.leaf)) (.leaf))) (.seq (.leaf) (.seq (.leaf) (.seq (.leaf) (.leaf)))))) [(Value.pointer pf_0), (Value.int .i32 na_1), (Value.int .i32 nb_2)] w R := by kernel_rfl
theorem calls_seq_Forest_same (pf_0 : Option Addr) (na_1 : Int) (nb_2 : Int) (w : World) (R : Value → World → Prop) (h : sh_seq_Forest_same pf_0 na_1 nb_2 w R) : Calls Pg fn_seq_Forest_same #[(Value.pointer pf_0), (Value.int .i32 na_1), (Value.int .i32 nb_2)] w fun e w' => ∃ v, e = .returned v ∧ R v w' :=
  calls_of_den Eall_enter wide_mixed Try.func30 (by rw [← eq_seq_Forest_same]; exact h)

/-- '(*plait/seq.Forest).end' -/
def sh_seq_Forest_end (pf_0 : Option Addr) (nx_1 : Int) (bfirst_2 : Bool) (w : World) (R : Value → World → Prop) : Prop :=
  Calls Pg fn_seq_Forest_lift #[(Value.pointer pf_0), (Value.int .i32 nx_1)] w fun e4 w3 => e4 = .returned (Value.tuple #[]) ∧
  ∃ (I5 : List Value → World → Prop) (m6 : List Value → World → Nat), I5 [(Value.int .i32 nx_1)] w3 ∧
  ∀ _ : Env, ∀ n7 : Int, ∀ w8 : World, I5 [(Value.int .i32 n7)] w8 →
  Calls Pg fn_seq_Forest_push #[(Value.pointer pf_0), (Value.int .i32 n7)] w8 fun e10 w9 => e10 = .returned (Value.tuple #[]) ∧
  pt pf_0 fun a15_11 =>
  ldS a15_11 w9 fun s17_12b s17_12l s17_12c =>
  ixS s17_12b s17_12l n7 9 fun a19_13 =>
  ldI .i32 (a19_13.add 2) w9 fun n21_14 =>
  bif bfirst_2 then (
  pt pf_0 fun a24_15 =>
  ldS a24_15 w9 fun s26_16b s26_16l s26_16c =>
  ixS s26_16b s26_16l n7 9 fun a28_17 =>
  ldI .i32 (a28_17.add 1) w9 fun n30_18 =>
  bif (n30_18 == (-1 : Int)) then (
  Calls Pg fn_seq_Forest_lift #[(Value.pointer pf_0), (Value.int .i32 n7)] w9 fun e20 w19 => e20 = .returned (Value.tuple #[]) ∧
  R (Value.int .i32 n7) w19) else (
  (I5 [(Value.int .i32 n30_18)] w9 ∧ m6 [(Value.int .i32 n30_18)] w9 < m6 [(Value.int .i32 n7)] w8))) else (
  bif (n21_14 == (-1 : Int)) then (
  Calls Pg fn_seq_Forest_lift #[(Value.pointer pf_0), (Value.int .i32 n7)] w9 fun e22 w21 => e22 = .returned (Value.tuple #[]) ∧
  R (Value.int .i32 n7) w21) else (
  (I5 [(Value.int .i32 n21_14)] w9 ∧ m6 [(Value.int .i32 n21_14)] w9 < m6 [(Value.int .i32 n7)] w8)))
theorem eq_seq_Forest_end (pf_0 : Option Addr) (nx_1 : Int) (bfirst_2 : Bool) (w : World) (R : Value → World → Prop) : sh_seq_Forest_end pf_0 nx_1 bfirst_2 w R = denF Pg Eall Try.f31 (.seq (.leaf) (.seq (.leaf) (.block (.loop [1] [.one (.int .i32)] (.block (.seq (.leaf) (.seq (.leaf) (.seq (.seq (.leaf) (.cond (.leaf) (.leaf))) (.seq (.seq (.leaf) (.cond (.seq (.leaf) (.seq (.leaf) (.leaf))) (.leaf))) (.leaf)))))))))) [(Value.pointer pf_0), (Value.int .i32 nx_1), (Value.bool bfirst_2)] w R := by kernel_rfl
theorem calls_seq_Forest_end (pf_0 : Option Addr) (nx_1 : Int) (bfirst_2 : Bool) (w : World) (R : Value → World → Prop) (h : sh_seq_Forest_end pf_0 nx_1 bfirst_2 w R) : Calls Pg fn_seq_Forest_end #[(Value.pointer pf_0), (Value.int .i32 nx_1), (Value.bool bfirst_2)] w fun e w' => ∃ v, e = .returned v ∧ R v w' :=
  calls_of_den Eall_enter wide_mixed Try.func31 (by rw [← eq_seq_Forest_end]; exact h)

/-- '(*plait/seq.Forest).hang' -/
def sh_seq_Forest_hang (pf_0 : Option Addr) (nc_1 : Int) (nx_2 : Int) (bleft_3 : Bool) (w : World) (R : Value → World → Prop) : Prop :=
  bif bleft_3 then (
  pt pf_0 fun a10_4 =>
  ldS a10_4 w fun s12_5b s12_5l s12_5c =>
  ixS s12_5b s12_5l nx_2 9 fun a15_6 =>
  sto (a15_6.add 1) (Value.int .i32 nc_1) w fun w7 =>
  bif (nc_1 != (-1 : Int)) then (
  pt pf_0 fun a28_8 =>
  ldS a28_8 w7 fun s30_9b s30_9l s30_9c =>
  ixS s30_9b s30_9l nc_1 9 fun a33_10 =>
  sto a33_10 (Value.int .i32 nx_2) w7 fun w11 =>
  R (Value.tuple #[]) w11) else (
  R (Value.tuple #[]) w7)) else (
  pt pf_0 fun a18_12 =>
  ldS a18_12 w fun s20_13b s20_13l s20_13c =>
  ixS s20_13b s20_13l nx_2 9 fun a23_14 =>
  sto (a23_14.add 2) (Value.int .i32 nc_1) w fun w15 =>
  bif (nc_1 != (-1 : Int)) then (
  pt pf_0 fun a28_16 =>
  ldS a28_16 w15 fun s30_17b s30_17l s30_17c =>
  ixS s30_17b s30_17l nc_1 9 fun a33_18 =>
  sto a33_18 (Value.int .i32 nx_2) w15 fun w19 =>
  R (Value.tuple #[]) w19) else (
  R (Value.tuple #[]) w15))
theorem eq_seq_Forest_hang (pf_0 : Option Addr) (nc_1 : Int) (nx_2 : Int) (bleft_3 : Bool) (w : World) (R : Value → World → Prop) : sh_seq_Forest_hang pf_0 nc_1 nx_2 bleft_3 w R = denF Pg Eall Try.f32 (.seq (.seq (.leaf) (.cond (.leaf) (.leaf))) (.seq (.leaf) (.cond (.leaf) (.leaf)))) [(Value.pointer pf_0), (Value.int .i32 nc_1), (Value.int .i32 nx_2), (Value.bool bleft_3)] w R := by kernel_rfl
theorem calls_seq_Forest_hang (pf_0 : Option Addr) (nc_1 : Int) (nx_2 : Int) (bleft_3 : Bool) (w : World) (R : Value → World → Prop) (h : sh_seq_Forest_hang pf_0 nc_1 nx_2 bleft_3 w R) : Calls Pg fn_seq_Forest_hang #[(Value.pointer pf_0), (Value.int .i32 nc_1), (Value.int .i32 nx_2), (Value.bool bleft_3)] w fun e w' => ∃ v, e = .returned v ∧ R v w' :=
  calls_of_den Eall_enter wide_mixed Try.func32 (by rw [← eq_seq_Forest_hang]; exact h)

/-- '(*plait/seq.Forest).top' -/
def sh_seq_Forest_top (pf_0 : Option Addr) (nx_1 : Int) (w : World) (R : Value → World → Prop) : Prop :=
  alo #[(Value.int .i64 nx_1)] T_int w fun a2 w3 =>
  Calls Pg fn_seq_Forest_check #[(Value.pointer pf_0), (Value.slice (some a2) 1 1)] w3 fun e6 w5 => ∃ v10_4 : Value, e6 = .returned v10_4 ∧
  isI v10_4 ∧ bif (!(nilI v10_4)) then (
  R (Value.tuple #[(Value.pointer none), v10_4]) w5) else (
  Calls Pg fn_seq_Forest_lift #[(Value.pointer pf_0), (Value.int .i32 (IntKind.wrap .i32 nx_1))] w5 fun e8 w7 => e8 = .returned (Value.tuple #[]) ∧
  Calls Pg fn_seq_Forest_push #[(Value.pointer pf_0), (Value.int .i32 (IntKind.wrap .i32 nx_1))] w7 fun e10 w9 => e10 = .returned (Value.tuple #[]) ∧
  pt pf_0 fun a23_11 =>
  ldS a23_11 w9 fun s25_12b s25_12l s25_12c =>
  ixS s25_12b s25_12l nx_1 9 fun a27_13 =>
  R (Value.tuple #[(Value.pointer (some a27_13)), Value.nilIface]) w9)
theorem eq_seq_Forest_top (pf_0 : Option Addr) (nx_1 : Int) (w : World) (R : Value → World → Prop) : sh_seq_Forest_top pf_0 nx_1 w R = denF Pg Eall Try.f33 (.seq (.leaf) (.seq (.seq (.leaf) (.seq (.leaf) (.cond (.seq (.leaf) (.leaf)) (.leaf)))) (.seq (.leaf) (.seq (.leaf) (.seq (.leaf) (.leaf)))))) [(Value.pointer pf_0), (Value.int .i64 nx_1)] w R := by kernel_rfl
theorem calls_seq_Forest_top (pf_0 : Option Addr) (nx_1 : Int) (w : World) (R : Value → World → Prop) (h : sh_seq_Forest_top pf_0 nx_1 w R) : Calls Pg fn_seq_Forest_top #[(Value.pointer pf_0), (Value.int .i64 nx_1)] w fun e w' => ∃ v, e = .returned v ∧ R v w' :=
  calls_of_den Eall_enter wide_mixed Try.func33 (by rw [← eq_seq_Forest_top]; exact h)

/-- '(*plait/seq.Forest).push' -/
def sh_seq_Forest_push (pf_0 : Option Addr) (nx_1 : Int) (w : World) (R : Value → World → Prop) : Prop :=
  pt pf_0 fun a8_2 =>
  ldS a8_2 w fun s10_3b s10_3l s10_3c =>
  ixS s10_3b s10_3l nx_1 9 fun a12_4 =>
  ldB (a12_4.add 3) w fun b16_5 =>
  bif (!b16_5) then (
  R (Value.tuple #[]) w) else (
  sto (a12_4.add 3) (Value.bool false) w fun w6 =>
  ldI .i32 (a12_4.add 2) (World.drew w6) fun n26_7 =>
  ldI .i32 (a12_4.add 1) (World.drew w6) fun n30_8 =>
  sto (a12_4.add 1) (Value.int .i32 n26_7) (World.drew w6) fun w9 =>
  sto (a12_4.add 2) (Value.int .i32 n30_8) w9 fun w10 =>
  ldI .i32 (a12_4.add 1) (World.drew w10) fun n38_11 =>
  ldI .i32 (a12_4.add 2) (World.drew w10) fun n42_12 =>
  ∃ n46_13 : Int, 0 ≤ (0 : Int) ∧ (0 : Int) < ((2 : Nat) : Int) ∧ #[(Value.int .i32 n38_11), (Value.int .i32 n42_12)][(Int.toNat (0 : Int)) * 1]? = some (Value.int .i32 n46_13) ∧
  bif (n46_13 != (-1 : Int)) then (
  pt pf_0 fun a50_14 =>
  ldS a50_14 (World.drew (World.drew w10)) fun s52_15b s52_15l s52_15c =>
  pt pf_0 fun a55_16 =>
  ldS a55_16 (World.drew (World.drew w10)) fun s57_17b s57_17l s57_17c =>
  ixS s57_17b s57_17l n46_13 9 fun a59_18 =>
  ldB (a59_18.add 3) (World.drew (World.drew w10)) fun b61_19 =>
  ixS s52_15b s52_15l n46_13 9 fun a63_20 =>
  sto (a63_20.add 3) (Value.bool (!b61_19)) (World.drew (World.drew w10)) fun w21 =>
  ∃ n46_22 : Int, 0 ≤ (1 : Int) ∧ (1 : Int) < ((2 : Nat) : Int) ∧ #[(Value.int .i32 n38_11), (Value.int .i32 n42_12)][(Int.toNat (1 : Int)) * 1]? = some (Value.int .i32 n46_22) ∧
  bif (n46_22 != (-1 : Int)) then (
  pt pf_0 fun a50_23 =>
  ldS a50_23 (World.drew w21) fun s52_24b s52_24l s52_24c =>
  pt pf_0 fun a55_25 =>
  ldS a55_25 (World.drew w21) fun s57_26b s57_26l s57_26c =>
  ixS s57_26b s57_26l n46_22 9 fun a59_27 =>
  ldB (a59_27.add 3) (World.drew w21) fun b61_28 =>
  ixS s52_24b s52_24l n46_22 9 fun a63_29 =>
  sto (a63_29.add 3) (Value.bool (!b61_28)) (World.drew w21) fun w30 =>
  R (Value.tuple #[]) w30) else (
  R (Value.tuple #[]) w21)) else (
  ∃ n46_31 : Int, 0 ≤ (1 : Int) ∧ (1 : Int) < ((2 : Nat) : Int) ∧ #[(Value.int .i32 n38_11), (Value.int .i32 n42_12)][(Int.toNat (1 : Int)) * 1]? = some (Value.int .i32 n46_31) ∧
  bif (n46_31 != (-1 : Int)) then (
  pt pf_0 fun a50_32 =>
  ldS a50_32 (World.drew (World.drew w10)) fun s52_33b s52_33l s52_33c =>
  pt pf_0 fun a55_34 =>
  ldS a55_34 (World.drew (World.drew w10)) fun s57_35b s57_35l s57_35c =>
  ixS s57_35b s57_35l n46_31 9 fun a59_36 =>
  ldB (a59_36.add 3) (World.drew (World.drew w10)) fun b61_37 =>
  ixS s52_33b s52_33l n46_31 9 fun a63_38 =>
  sto (a63_38.add 3) (Value.bool (!b61_37)) (World.drew (World.drew w10)) fun w39 =>
  R (Value.tuple #[]) w39) else (
  R (Value.tuple #[]) (World.drew w10))))
theorem eq_seq_Forest_push (pf_0 : Option Addr) (nx_1 : Int) (w : World) (R : Value → World → Prop) : sh_seq_Forest_push pf_0 nx_1 w R = denF Pg Eall Try.f34 (.seq (.leaf) (.seq (.seq (.leaf) (.cond (.leaf) (.leaf))) (.seq (.leaf) (.seq (.reg (.tk 0 [] [] (.tk 1 [] [] (.tk 2 [] [] (.tk 3 [] [] (.tk 4 [] [] (.tk 5 [10, 11, 12, 13, 14, 15] [12, 15] (.tk 6 [] [] (.tk 7 [] [] (.tk 8 [] [] (.tk 9 [10, 11, 12, 13, 14, 15] [12, 15] (.tk 10 [] [] (.tk 11 [] [] (.one 12 (.tk 13 [] [] (.tk 14 [] [] (.one 15 (.fin)))))))))))))))))) (.seq (.reg (.tk 0 [] [] (.tk 1 [] [] (.tk 2 [] [] (.tk 3 [] [] (.tk 4 [] [] (.tk 5 [] [] (.tk 6 [] [] (.tk 7 [] [] (.tk 8 [] [] (.tk 9 [] [] (.fin)))))))))))) (.block (.unr 3 (.seq (.leaf) (.seq (.cond (.leaf) (.leaf)) (.seq (.block (.seq (.leaf) (.seq (.leaf) (.cond (.reg (.tk 0 [] [] (.tk 1 [] [] (.tk 2 [] [] (.tk 3 [14, 15, 16] [16] (.tk 4 [] [] (.tk 5 [] [] (.tk 6 [] [] (.tk 7 [] [] (.tk 8 [10, 11, 12, 13, 14, 15, 16] [16] (.tk 9 [] [] (.tk 10 [] [] (.tk 11 [] [] (.tk 12 [13, 14, 15, 16] [16] (.tk 13 [] [] (.tk 14 [] [] (.tk 15 [] [] (.one 16 (.fin))))))))))))))))))) (.leaf))))) (.leaf))))))))))) [(Value.pointer pf_0), (Value.int .i32 nx_1)] w R := by kernel_rfl
theorem calls_seq_Forest_push (pf_0 : Option Addr) (nx_1 : Int) (w : World) (R : Value → World → Prop) (h : sh_seq_Forest_push pf_0 nx_1 w R) : Calls Pg fn_seq_Forest_push #[(Value.pointer pf_0), (Value.int .i32 nx_1)] w fun e w' => ∃ v, e = .returned v ∧ R v w' :=
  calls_of_den Eall_enter wide_mixed Try.func34 (by rw [← eq_seq_Forest_push]; exact h)

/-- '(*plait/seq.Forest).Rank' -/
def sh_seq_Forest_Rank (pf_0 : Option Addr) (nx_1 : Int) (w : World) (R : Value → World → Prop) : Prop :=
  Calls Pg fn_seq_Forest_top #[(Value.pointer pf_0), (Value.int .i64 nx_1)] w fun e5 w4 => ∃ p11_2 : Option Addr, ∃ v11_3 : Value, e5 = .returned (Value.tuple #[(Value.pointer p11_2), v11_3]) ∧
  isI v11_3 ∧ bif (!(nilI v11_3)) then (
  R (Value.tuple #[(Value.int .i64 (0 : Int)), v11_3]) w4) else (
  pt p11_2 fun a18_6 =>
  ldI .i32 (a18_6.add 1) w4 fun n20_7 =>
  bif (n20_7 == (-1 : Int)) then (
  R (Value.tuple #[(Value.int .i64 (0 : Int)), v11_3]) w4) else (
  pt pf_0 fun a25_8 =>
  ldS a25_8 (World.drew w4) fun s27_9b s27_9l s27_9c =>
  pt p11_2 fun a29_10 =>
  ldI .i32 (a29_10.add 1) (World.drew w4) fun n31_11 =>
  ixS s27_9b s27_9l n31_11 9 fun a32_12 =>
  ldI .i32 (a32_12.add 4) (World.drew w4) fun n34_13 =>
  R (Value.tuple #[(Value.int .i64 (IntKind.wrap .i64 n34_13)), Value.nilIface]) (World.drew w4)))
theorem eq_seq_Forest_Rank (pf_0 : Option Addr) (nx_1 : Int) (w : World) (R : Value → World → Prop) : sh_seq_Forest_Rank pf_0 nx_1 w R = denF Pg Eall Try.f36 (.seq (.leaf) (.seq (.leaf) (.seq (.seq (.leaf) (.cond (.seq (.leaf) (.leaf)) (.leaf))) (.seq (.reg (.tk 0 [] [] (.tk 1 [] [] (.tk 2 [] [] (.tk 3 [] [] (.tk 4 [] [] (.tk 5 [] [] (.tk 6 [] [] (.tk 7 [] [] (.tk 8 [] [] (.tk 9 [] [] (.tk 10 [] [] (.tk 11 [] [] (.tk 12 [] [] (.tk 13 [] [] (.fin)))))))))))))))) (.leaf))))) [(Value.pointer pf_0), (Value.int .i64 nx_1)] w R := by kernel_rfl
theorem calls_seq_Forest_Rank (pf_0 : Option Addr) (nx_1 : Int) (w : World) (R : Value → World → Prop) (h : sh_seq_Forest_Rank pf_0 nx_1 w R) : Calls Pg fn_seq_Forest_Rank #[(Value.pointer pf_0), (Value.int .i64 nx_1)] w fun e w' => ∃ v, e = .returned v ∧ R v w' :=
  calls_of_den Eall_enter wide_mixed Try.func36 (by rw [← eq_seq_Forest_Rank]; exact h)

/-- '(*plait/seq.Forest).At' -/
def sh_seq_Forest_At (pf_0 : Option Addr) (nx_1 : Int) (nk_2 : Int) (w : World) (R : Value → World → Prop) : Prop :=
  alo #[(Value.pointer pf_0)] T_p_seq_Forest w fun a3 w4 =>
  alo #[(Value.int .i64 nk_2)] T_int w4 fun a5 w6 =>
  ldP a3 w6 fun p11_7 =>
  Calls Pg fn_seq_Forest_top #[(Value.pointer p11_7), (Value.int .i64 nx_1)] w6 fun e11 w10 => ∃ p13_8 : Option Addr, ∃ v13_9 : Value, e11 = .returned (Value.tuple #[(Value.pointer p13_8), v13_9]) ∧
  isI v13_9 ∧ bif (!(nilI v13_9)) then (
  R (Value.tuple #[(Value.int .i64 (0 : Int)), v13_9]) w10) else (
  ldI .i64 a5 (World.drew w10) fun n21_12 =>
  bif (decide (n21_12 < (0 : Int))) then (
  R (Value.tuple #[(Value.int .i64 (0 : Int)), (Value.iface T_api_Errno (Value.int .i64 (1 : Int)))]) (World.drew w10)) else (
  ldI .i64 a5 (World.drew w10) fun n24_13 =>
  pt p13_8 fun a26_14 =>
  ldI .i32 (a26_14.add 4) (World.drew w10) fun n28_15 =>
  bif (decide (n24_13 ≥ (IntKind.wrap .i64 n28_15))) then (
  R (Value.tuple #[(Value.int .i64 (0 : Int)), (Value.iface T_api_Errno (Value.int .i64 (1 : Int)))]) (World.drew w10)) else (
  ldP a3 (World.drew w10) fun p33_16 =>
  Calls Pg fn_seq_Forest_down #[(Value.pointer p33_16), (Value.int .i32 (IntKind.wrap .i32 nx_1)), (Value.func (.func fn_seq_Forest_At_1) #[] #[(Value.pointer (some a3)), (Value.pointer (some a5))])] (World.drew w10) fun e19 w18 => ∃ n37_17 : Int, e19 = .returned (Value.int .i64 n37_17) ∧
  R (Value.tuple #[(Value.int .i64 n37_17), Value.nilIface]) w18)))
theorem eq_seq_Forest_At (pf_0 : Option Addr) (nx_1 : Int) (nk_2 : Int) (w : World) (R : Value → World → Prop) : sh_seq_Forest_At pf_0 nx_1 nk_2 w R = denF Pg Eall Try.f37 (.seq (.leaf) (.seq (.leaf) (.seq (.block (.seq (.leaf) (.cond (.seq (.leaf) (.leaf)) (.seq (.reg (.tk 0 [] [] (.tk 1 [] [] (.tk 2 [] [] (.tk 3 [] [] (.tk 4 [] [] (.tk 5 [] [] (.tk 6 [] [] (.tk 7 [] [] (.tk 8 [] [] (.tk 9 [] [] (.tk 10 [] [] (.tk 11 [] [] (.fin)))))))))))))) (.cond (.seq (.leaf) (.leaf)) (.leaf)))))) (.seq (.leaf) (.leaf))))) [(Value.pointer pf_0), (Value.int .i64 nx_1), (Value.int .i64 nk_2)] w R := by kernel_rfl
theorem calls_seq_Forest_At (pf_0 : Option Addr) (nx_1 : Int) (nk_2 : Int) (w : World) (R : Value → World → Prop) (h : sh_seq_Forest_At pf_0 nx_1 nk_2 w R) : Calls Pg fn_seq_Forest_At #[(Value.pointer pf_0), (Value.int .i64 nx_1), (Value.int .i64 nk_2)] w fun e w' => ∃ v, e = .returned v ∧ R v w' :=
  calls_of_den Eall_enter wide_mixed Try.func37 (by rw [← eq_seq_Forest_At]; exact h)

/-- '(*plait/seq.Forest).rotate' -/
def sh_seq_Forest_rotate (pf_0 : Option Addr) (nx_1 : Int) (w : World) (R : Value → World → Prop) : Prop :=
  pt pf_0 fun a9_2 =>
  ldS a9_2 w fun s11_3b s11_3l s11_3c =>
  ixS s11_3b s11_3l nx_1 9 fun a13_4 =>
  ldI .i32 a13_4 w fun n15_5 =>
  pt pf_0 fun a17_6 =>
  ldS a17_6 w fun s19_7b s19_7l s19_7c =>
  ixS s19_7b s19_7l n15_5 9 fun a21_8 =>
  ldI .i32 a21_8 w fun n23_9 =>
  pt pf_0 fun a25_10 =>
  ldS a25_10 w fun s27_11b s27_11l s27_11c =>
  ixS s27_11b s27_11l n15_5 9 fun a29_12 =>
  ldI .i32 (a29_12.add 1) w fun n31_13 =>
  bif (n31_13 == nx_1) then (
  pt pf_0 fun a37_14 =>
  ldS a37_14 w fun s39_15b s39_15l s39_15c =>
  ixS s39_15b s39_15l nx_1 9 fun a41_16 =>
  ldI .i32 (a41_16.add 2) w fun n43_17 =>
  Calls Pg fn_seq_Forest_hang #[(Value.pointer pf_0), (Value.int .i32 n43_17), (Value.int .i32 n15_5), (Value.bool true)] w fun e19 w18 => e19 = .returned (Value.tuple #[]) ∧
  bif (n23_9 != (-1 : Int)) then (
  pt pf_0 fun a61_20 =>
  ldS a61_20 w18 fun s63_21b s63_21l s63_21c =>
  ixS s63_21b s63_21l n23_9 9 fun a65_22 =>
  ldI .i32 (a65_22.add 1) w18 fun n67_23 =>
  Calls Pg fn_seq_Forest_hang #[(Value.pointer pf_0), (Value.int .i32 n15_5), (Value.int .i32 nx_1), (Value.bool (!(n31_13 == nx_1)))] w18 fun e25 w24 => e25 = .returned (Value.tuple #[]) ∧
  pt pf_0 fun a78_26 =>
  ldS a78_26 w24 fun s80_27b s80_27l s80_27c =>
  ixS s80_27b s80_27l nx_1 9 fun a83_28 =>
  sto a83_28 (Value.int .i32 n23_9) w24 fun w29 =>
  bif (n23_9 != (-1 : Int)) then (
  Calls Pg fn_seq_Forest_hang #[(Value.pointer pf_0), (Value.int .i32 nx_1), (Value.int .i32 n23_9), (Value.bool (n67_23 == n15_5))] w29 fun e31 w30 => e31 = .returned (Value.tuple #[]) ∧
  Calls Pg fn_seq_Forest_pull #[(Value.pointer pf_0), (Value.int .i32 n15_5)] w30 fun e33 w32 => e33 = .returned (Value.tuple #[]) ∧
  Calls Pg fn_seq_Forest_pull #[(Value.pointer pf_0), (Value.int .i32 nx_1)] w32 fun e35 w34 => e35 = .returned (Value.tuple #[]) ∧
  R (Value.tuple #[]) w34) else (
  Calls Pg fn_seq_Forest_pull #[(Value.pointer pf_0), (Value.int .i32 n15_5)] w29 fun e37 w36 => e37 = .returned (Value.tuple #[]) ∧
  Calls Pg fn_seq_Forest_pull #[(Value.pointer pf_0), (Value.int .i32 nx_1)] w36 fun e39 w38 => e39 = .returned (Value.tuple #[]) ∧
  R (Value.tuple #[]) w38)) else (
  Calls Pg fn_seq_Forest_hang #[(Value.pointer pf_0), (Value.int .i32 n15_5), (Value.int .i32 nx_1), (Value.bool (!(n31_13 == nx_1)))] w18 fun e41 w40 => e41 = .returned (Value.tuple #[]) ∧
  pt pf_0 fun a78_42 =>
  ldS a78_42 w40 fun s80_43b s80_43l s80_43c =>
  ixS s80_43b s80_43l nx_1 9 fun a83_44 =>
  sto a83_44 (Value.int .i32 n23_9) w40 fun w45 =>
  bif (n23_9 != (-1 : Int)) then (
  Calls Pg fn_seq_Forest_hang #[(Value.pointer pf_0), (Value.int .i32 nx_1), (Value.int .i32 n23_9), (Value.bool false)] w45 fun e47 w46 => e47 = .returned (Value.tuple #[]) ∧
  Calls Pg fn_seq_Forest_pull #[(Value.pointer pf_0), (Value.int .i32 n15_5)] w46 fun e49 w48 => e49 = .returned (Value.tuple #[]) ∧
  Calls Pg fn_seq_Forest_pull #[(Value.pointer pf_0), (Value.int .i32 nx_1)] w48 fun e51 w50 => e51 = .returned (Value.tuple #[]) ∧
  R (Value.tuple #[]) w50) else (
  Calls Pg fn_seq_Forest_pull #[(Value.pointer pf_0), (Value.int .i32 n15_5)] w45 fun e53 w52 => e53 = .returned (Value.tuple #[]) ∧
  Calls Pg fn_seq_Forest_pull #[(Value.pointer pf_0), (Value.int .i32 nx_1)] w52 fun e55 w54 => e55 = .returned (Value.tuple #[]) ∧
  R (Value.tuple #[]) w54))) else (
  pt pf_0 fun a48_56 =>
  ldS a48_56 w fun s50_57b s50_57l s50_57c =>
  ixS s50_57b s50_57l nx_1 9 fun a52_58 =>
  ldI .i32 (a52_58.add 1) w fun n54_59 =>
  Calls Pg fn_seq_Forest_hang #[(Value.pointer pf_0), (Value.int .i32 n54_59), (Value.int .i32 n15_5), (Value.bool false)] w fun e61 w60 => e61 = .returned (Value.tuple #[]) ∧
  bif (n23_9 != (-1 : Int)) then (
  pt pf_0 fun a61_62 =>
  ldS a61_62 w60 fun s63_63b s63_63l s63_63c =>
  ixS s63_63b s63_63l n23_9 9 fun a65_64 =>
  ldI .i32 (a65_64.add 1) w60 fun n67_65 =>
  Calls Pg fn_seq_Forest_hang #[(Value.pointer pf_0), (Value.int .i32 n15_5), (Value.int .i32 nx_1), (Value.bool (!(n31_13 == nx_1)))] w60 fun e67 w66 => e67 = .returned (Value.tuple #[]) ∧
  pt pf_0 fun a78_68 =>
  ldS a78_68 w66 fun s80_69b s80_69l s80_69c =>
  ixS s80_69b s80_69l nx_1 9 fun a83_70 =>
  sto a83_70 (Value.int .i32 n23_9) w66 fun w71 =>
  bif (n23_9 != (-1 : Int)) then (
  Calls Pg fn_seq_Forest_hang #[(Value.pointer pf_0), (Value.int .i32 nx_1), (Value.int .i32 n23_9), (Value.bool (n67_65 == n15_5))] w71 fun e73 w72 => e73 = .returned (Value.tuple #[]) ∧
  Calls Pg fn_seq_Forest_pull #[(Value.pointer pf_0), (Value.int .i32 n15_5)] w72 fun e75 w74 => e75 = .returned (Value.tuple #[]) ∧
  Calls Pg fn_seq_Forest_pull #[(Value.pointer pf_0), (Value.int .i32 nx_1)] w74 fun e77 w76 => e77 = .returned (Value.tuple #[]) ∧
  R (Value.tuple #[]) w76) else (
  Calls Pg fn_seq_Forest_pull #[(Value.pointer pf_0), (Value.int .i32 n15_5)] w71 fun e79 w78 => e79 = .returned (Value.tuple #[]) ∧
  Calls Pg fn_seq_Forest_pull #[(Value.pointer pf_0), (Value.int .i32 nx_1)] w78 fun e81 w80 => e81 = .returned (Value.tuple #[]) ∧
  R (Value.tuple #[]) w80)) else (
  Calls Pg fn_seq_Forest_hang #[(Value.pointer pf_0), (Value.int .i32 n15_5), (Value.int .i32 nx_1), (Value.bool (!(n31_13 == nx_1)))] w60 fun e83 w82 => e83 = .returned (Value.tuple #[]) ∧
  pt pf_0 fun a78_84 =>
  ldS a78_84 w82 fun s80_85b s80_85l s80_85c =>
  ixS s80_85b s80_85l nx_1 9 fun a83_86 =>
  sto a83_86 (Value.int .i32 n23_9) w82 fun w87 =>
  bif (n23_9 != (-1 : Int)) then (
  Calls Pg fn_seq_Forest_hang #[(Value.pointer pf_0), (Value.int .i32 nx_1), (Value.int .i32 n23_9), (Value.bool false)] w87 fun e89 w88 => e89 = .returned (Value.tuple #[]) ∧
  Calls Pg fn_seq_Forest_pull #[(Value.pointer pf_0), (Value.int .i32 n15_5)] w88 fun e91 w90 => e91 = .returned (Value.tuple #[]) ∧
  Calls Pg fn_seq_Forest_pull #[(Value.pointer pf_0), (Value.int .i32 nx_1)] w90 fun e93 w92 => e93 = .returned (Value.tuple #[]) ∧
  R (Value.tuple #[]) w92) else (
  Calls Pg fn_seq_Forest_pull #[(Value.pointer pf_0), (Value.int .i32 n15_5)] w87 fun e95 w94 => e95 = .returned (Value.tuple #[]) ∧
  Calls Pg fn_seq_Forest_pull #[(Value.pointer pf_0), (Value.int .i32 nx_1)] w94 fun e97 w96 => e97 = .returned (Value.tuple #[]) ∧
  R (Value.tuple #[]) w96)))
theorem eq_seq_Forest_rotate (pf_0 : Option Addr) (nx_1 : Int) (w : World) (R : Value → World → Prop) : sh_seq_Forest_rotate pf_0 nx_1 w R = denF Pg Eall Try.f38 (.seq (.leaf) (.seq (.leaf) (.seq (.leaf) (.seq (.seq (.leaf) (.cond (.leaf) (.leaf))) (.seq (.leaf) (.seq (.leaf) (.seq (.leaf) (.seq (.seq (.leaf) (.cond (.leaf) (.leaf))) (.seq (.leaf) (.leaf)))))))))) [(Value.pointer pf_0), (Value.int .i32 nx_1)] w R := by kernel_rfl
theorem calls_seq_Forest_rotate (pf_0 : Option Addr) (nx_1 : Int) (w : World) (R : Value → World → Prop) (h : sh_seq_Forest_rotate pf_0 nx_1 w R) : Calls Pg fn_seq_Forest_rotate #[(Value.pointer pf_0), (Value.int .i32 nx_1)] w fun e w' => ∃ v, e = .returned v ∧ R v w' :=
  calls_of_den Eall_enter wide_mixed Try.func38 (by rw [← eq_seq_Forest_rotate]; exact h)

/-- '(*plait/seq.Forest).down' -/
def sh_seq_Forest_down (pf_0 : Option Addr) (nx_1 : Int) (fto_2 : Value) (w : World) (R : Value → World → Prop) : Prop :=
  ∃ (I3 : List Value → World → Prop) (m4 : List Value → World → Nat), I3 [(Value.int .i32 nx_1)] w ∧
  ∀ _ : Env, ∀ n5 : Int, ∀ w6 : World, I3 [(Value.int .i32 n5)] w6 →
  Calls Pg fn_seq_Forest_push #[(Value.pointer pf_0), (Value.int .i32 n5)] w6 fun e8 w7 => e8 = .returned (Value.tuple #[]) ∧
  pt pf_0 fun a13_9 =>
  ldS a13_9 w7 fun s15_10b s15_10l s15_10c =>
  ixS s15_10b s15_10l n5 9 fun a17_11 =>
  ldI .i32 a17_11 w7 fun n18_12 =>
  ldI .i32 (a17_11.add 1) w7 fun n18_13 =>
  ldI .i32 (a17_11.add 2) w7 fun n18_14 =>
  ldB (a17_11.add 3) w7 fun b18_15 =>
  ldI .i32 (a17_11.add 4) w7 fun n18_16 =>
  ldI .i64 (a17_11.add 5) w7 fun n18_17 =>
  ldI .i64 (a17_11.add 6) w7 fun n18_18 =>
  ldI .i64 (a17_11.add 7) w7 fun n18_19 =>
  ldI .i64 (a17_11.add 8) w7 fun n18_20 =>
  dcv Pg Eall fto_2 [(Value.agg #[(Value.int .i32 n18_12), (Value.int .i32 n18_13), (Value.int .i32 n18_14), (Value.bool b18_15), (Value.int .i32 n18_16), (Value.int .i64 n18_17), (Value.int .i64 n18_18), (Value.int .i64 n18_19), (Value.int .i64 n18_20)])] w7 fun e23 w22 => ∃ n19_21 : Int, e23 = .returned (Value.int .i64 n19_21) ∧
  bif (decide (n19_21 < (0 : Int))) then (
  pt pf_0 fun a29_24 =>
  ldS a29_24 w22 fun s31_25b s31_25l s31_25c =>
  ixS s31_25b s31_25l n5 9 fun a33_26 =>
  ldI .i32 (a33_26.add 1) w22 fun n35_27 =>
  (I3 [(Value.int .i32 n35_27)] w22 ∧ m4 [(Value.int .i32 n35_27)] w22 < m4 [(Value.int .i32 n5)] w6)) else (
  bif (decide (n19_21 > (0 : Int))) then (
  pt pf_0 fun a40_28 =>
  ldS a40_28 w22 fun s42_29b s42_29l s42_29c =>
  ixS s42_29b s42_29l n5 9 fun a44_30 =>
  ldI .i32 (a44_30.add 2) w22 fun n46_31 =>
  (I3 [(Value.int .i32 n46_31)] w22 ∧ m4 [(Value.int .i32 n46_31)] w22 < m4 [(Value.int .i32 n5)] w6)) else (
  Calls Pg fn_seq_Forest_lift #[(Value.pointer pf_0), (Value.int .i32 n5)] w22 fun e33 w32 => e33 = .returned (Value.tuple #[]) ∧
  R (Value.int .i64 (IntKind.wrap .i64 n5)) w32))
theorem eq_seq_Forest_down (pf_0 : Option Addr) (nx_1 : Int) (fto_2 : Value) (w : World) (R : Value → World → Prop) : sh_seq_Forest_down pf_0 nx_1 fto_2 w R = denF Pg Eall Try.f39 (.seq (.leaf) (.block (.loop [1] [.one (.int .i32)] (.block (.seq (.leaf) (.seq (.leaf) (.block (.seq (.leaf) (.cond (.leaf) (.seq (.leaf) (.cond (.leaf) (.seq (.leaf) (.seq (.leaf) (.leaf)))))))))))))) [(Value.pointer pf_0), (Value.int .i32 nx_1), fto_2] w R := by kernel_rfl
theorem calls_seq_Forest_down (pf_0 : Option Addr) (nx_1 : Int) (fto_2 : Value) (w : World) (R : Value → World → Prop) (h : sh_seq_Forest_down pf_0 nx_1 fto_2 w R) : Calls Pg fn_seq_Forest_down #[(Value.pointer pf_0), (Value.int .i32 nx_1), fto_2] w fun e w' => ∃ v, e = .returned v ∧ R v w' :=
  calls_of_den Eall_enter wide_mixed Try.func39 (by rw [← eq_seq_Forest_down]; exact h)

/-- '(*plait/seq.Forest).At$1' -/
def sh_seq_Forest_At_1 (nn_0 : Int) (nn_1 : Int) (nn_2 : Int) (bn_3 : Bool) (nn_4 : Int) (nn_5 : Int) (nn_6 : Int) (nn_7 : Int) (nn_8 : Int) (q9 : Option Addr) (q10 : Option Addr) (w : World) (R : Value → World → Prop) : Prop :=
  alo #[(Value.int .i32 nn_0), (Value.int .i32 nn_1), (Value.int .i32 nn_2), (Value.bool bn_3), (Value.int .i32 nn_4), (Value.int .i64 nn_5), (Value.int .i64 nn_6), (Value.int .i64 nn_7), (Value.int .i64 nn_8)] T_seq_node w fun a11 w12 =>
  ldI .i32 (a11.add 1) w12 fun n7_13 =>
  bif (n7_13 != (-1 : Int)) then (
  pt q9 fun a14 =>
  ldP a14 (World.drew w12) fun p9_15 =>
  pt p9_15 fun a10_16 =>
  ldS a10_16 (World.drew w12) fun s12_17b s12_17l s12_17c =>
  ldI .i32 (a11.add 1) (World.drew w12) fun n14_18 =>
  ixS s12_17b s12_17l n14_18 9 fun a15_19 =>
  ldI .i32 (a15_19.add 4) (World.drew w12) fun n17_20 =>
  pt q10 fun a21 =>
  ldI .i64 a21 (World.drew w12) fun n19_22 =>
  bif (decide (n19_22 ≤ (IntKind.wrap .i64 n17_20))) then (
  pt q10 fun a23 =>
  ldI .i64 a23 (World.drew w12) fun n22_24 =>
  R (Value.int .i64 (IntKind.wrap .i64 (n22_24 - (IntKind.wrap .i64 n17_20)))) (World.drew w12)) else (
  pt q10 fun a25 =>
  ldI .i64 a25 (World.drew w12) fun n25_26 =>
  pt q10 fun a27 =>
  sto a27 (Value.int .i64 (IntKind.wrap .i64 (n25_26 - (IntKind.wrap .i64 ((IntKind.wrap .i64 n17_20) + (1 : Int)))))) (World.drew w12) fun w28 =>
  R (Value.int .i64 (1 : Int)) w28)) else (
  pt q10 fun a29 =>
  ldI .i64 a29 w12 fun n19_30 =>
  bif (decide (n19_30 ≤ (0 : Int))) then (
  pt q10 fun a31 =>
  ldI .i64 a31 w12 fun n22_32 =>
  R (Value.int .i64 (IntKind.wrap .i64 (n22_32 - (0 : Int)))) w12) else (
  pt q10 fun a33 =>
  ldI .i64 a33 w12 fun n25_34 =>
  pt q10 fun a35 =>
  sto a35 (Value.int .i64 (IntKind.wrap .i64 (n25_34 - (1 : Int)))) w12 fun w36 =>
  R (Value.int .i64 (1 : Int)) w36))
theorem eq_seq_Forest_At_1 (nn_0 : Int) (nn_1 : Int) (nn_2 : Int) (bn_3 : Bool) (nn_4 : Int) (nn_5 : Int) (nn_6 : Int) (nn_7 : Int) (nn_8 : Int) (q9 : Option Addr) (q10 : Option Addr) (w : World) (R : Value → World → Prop) : sh_seq_Forest_At_1 nn_0 nn_1 nn_2 bn_3 nn_4 nn_5 nn_6 nn_7 nn_8 q9 q10 w R = denF Pg Eall Try.f40 (.seq (.leaf) (.seq (.leaf) (.seq (.seq (.leaf) (.cond (.reg (.tk 0 [] [] (.tk 1 [] [] (.tk 2 [] [] (.tk 3 [] [] (.tk 4 [] [] (.tk 5 [] [] (.tk 6 [] [] (.tk 7 [] [] (.tk 8 [] [] (.tk 9 [] [] (.tk 10 [] [] (.fin))))))))))))) (.leaf))) (.seq (.seq (.leaf) (.cond (.seq (.leaf) (.leaf)) (.leaf))) (.seq (.leaf) (.seq (.leaf) (.leaf))))))) [(Value.agg #[(Value.int .i32 nn_0), (Value.int .i32 nn_1), (Value.int .i32 nn_2), (Value.bool bn_3), (Value.int .i32 nn_4), (Value.int .i64 nn_5), (Value.int .i64 nn_6), (Value.int .i64 nn_7), (Value.int .i64 nn_8)]), (Value.pointer q9), (Value.pointer q10)] w R := by kernel_rfl
theorem calls_seq_Forest_At_1 (nn_0 : Int) (nn_1 : Int) (nn_2 : Int) (bn_3 : Bool) (nn_4 : Int) (nn_5 : Int) (nn_6 : Int) (nn_7 : Int) (nn_8 : Int) (q9 : Option Addr) (q10 : Option Addr) (w : World) (R : Value → World → Prop) (h : sh_seq_Forest_At_1 nn_0 nn_1 nn_2 bn_3 nn_4 nn_5 nn_6 nn_7 nn_8 q9 q10 w R) : Calls Pg fn_seq_Forest_At_1 #[(Value.agg #[(Value.int .i32 nn_0), (Value.int .i32 nn_1), (Value.int .i32 nn_2), (Value.bool bn_3), (Value.int .i32 nn_4), (Value.int .i64 nn_5), (Value.int .i64 nn_6), (Value.int .i64 nn_7), (Value.int .i64 nn_8)]), (Value.pointer q9), (Value.pointer q10)] w fun e w' => ∃ v, e = .returned v ∧ R v w' :=
  calls_of_den Eall_enter wide_mixed Try.func40 (by rw [← eq_seq_Forest_At_1]; exact h)

end Go.Proofs.Ytledchlbmilneaa
