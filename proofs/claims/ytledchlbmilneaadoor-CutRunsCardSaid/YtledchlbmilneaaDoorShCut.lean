/-
What each function does, as one formula, printed by a program of this session out of the translation; the kernel holds each print against the translation.
Conditions: none.
-/
import Derived.Test.YtledchlbmilneaaDoorSn
namespace Go.Proofs.YtledchlbmilneaaDoor
open Go
set_option linter.unusedVariables false
set_option maxRecDepth 100000
/-- 'plait/cut.New' -/
def sh_cut_New (nn_0 : Int) (w : World) (R : Value → World → Prop) : Prop :=
  ∃ J1 : List Value → World → Prop, (
  bif (decide (nn_0 < (1 : Int))) then (
  R (Value.tuple #[(Value.pointer none), (Value.iface T_api_Errno (Value.int .i64 (1 : Int)))]) w) else (
  bif (decide (nn_0 > (8388608 : Int))) then (
  R (Value.tuple #[(Value.pointer none), (Value.iface T_api_Errno (Value.int .i64 (1 : Int)))]) w) else (
  J1 [] w))) ∧ ∀ _ : Env, ∀ w2 : World, J1 [] w2 →
  0 ≤ nn_0 ∧ nn_0 ≤ nn_0 ∧ (56 : Int) * nn_0 ≤ 140737488355328 ∧ alo (zerosOf #[(Value.int .i32 (0 : Int)), (Value.int .i32 (0 : Int)), (Value.int .i32 (0 : Int)), (Value.bool false), (Value.int .i32 (0 : Int)), (Value.int .i64 (0 : Int)), (Value.int .i64 (0 : Int)), (Value.int .i64 (0 : Int)), (Value.int .i64 (0 : Int))] (Int.toNat nn_0)) T_cut_node w2 fun a3 w4 =>
  alo #[(Value.slice (some a3) (Int.toNat nn_0) (Int.toNat nn_0))] T_cut_Forest w4 fun a5 w6 =>
  ldS a5 w6 fun s20_7b s20_7l s20_7c =>
  ∃ (I8 : List Value → World → Prop) (m9 : List Value → World → Nat), I8 [(Value.int .i64 (0 : Int))] w6 ∧
  ∀ _ : Env, ∀ n10 : Int, ∀ w11 : World, I8 [(Value.int .i64 n10)] w11 →
  bif (decide (n10 < (s20_7l : Int))) then (
  ldS a5 w11 fun s28_12b s28_12l s28_12c =>
  ixS s28_12b s28_12l n10 9 fun a32_13 =>
  sto a32_13 (Value.int .i32 (-1 : Int)) w11 fun w14 =>
  sto (a32_13.add 1) (Value.int .i32 (-1 : Int)) w14 fun w15 =>
  sto (a32_13.add 2) (Value.int .i32 (-1 : Int)) w15 fun w16 =>
  sto (a32_13.add 3) (Value.bool false) w16 fun w17 =>
  sto (a32_13.add 4) (Value.int .i32 (1 : Int)) w17 fun w18 =>
  sto (a32_13.add 5) (Value.int .i64 (0 : Int)) w18 fun w19 =>
  sto (a32_13.add 6) (Value.int .i64 (0 : Int)) w19 fun w20 =>
  sto (a32_13.add 7) (Value.int .i64 (0 : Int)) w20 fun w21 =>
  sto (a32_13.add 8) (Value.int .i64 (0 : Int)) w21 fun w22 =>
  (I8 [(Value.int .i64 (IntKind.wrap .i64 (n10 + (1 : Int))))] w22 ∧ m9 [(Value.int .i64 (IntKind.wrap .i64 (n10 + (1 : Int))))] w22 < m9 [(Value.int .i64 n10)] w11)) else (
  R (Value.tuple #[(Value.pointer (some a5)), Value.nilIface]) w11)
theorem eq_cut_New (nn_0 : Int) (w : World) (R : Value → World → Prop) : sh_cut_New nn_0 w R = denF Pg Eall Tryd.f51 (.seq (.leaf) (.join [] [] (.seq (.leaf) (.cond (.seq (.leaf) (.leaf)) (.leaf))) (.seq (.leaf) (.seq (.seq (.leaf) (.block (.loop [22] [.one (.int .i64)] (.seq (.leaf) (.seq (.cond (.leaf) (.leaf)) (.seq (.block (.seq (.leaf) (.leaf))) (.leaf))))))) (.seq (.leaf) (.leaf)))))) [(Value.int .i64 nn_0)] w R := by kernel_rfl
theorem calls_cut_New (nn_0 : Int) (w : World) (R : Value → World → Prop) (h : sh_cut_New nn_0 w R) : Calls Pg fn_cut_New #[(Value.int .i64 nn_0)] w fun e w' => ∃ v, e = .returned v ∧ R v w' :=
  calls_of_den Eall_enter wide_mixed Tryd.func51 (by rw [← eq_cut_New]; exact h)

/-- '(*plait/cut.Forest).Link' -/
def sh_cut_Forest_Link (pf_0 : Option Addr) (na_1 : Int) (nb_2 : Int) (w : World) (R : Value → World → Prop) : Prop :=
  alo #[(Value.int .i64 na_1), (Value.int .i64 nb_2)] T_int w fun a3 w4 =>
  Calls Pg fn_cut_Forest_check #[(Value.pointer pf_0), (Value.slice (some a3) 2 2)] w4 fun e7 w6 => ∃ v12_5 : Value, e7 = .returned v12_5 ∧
  isI v12_5 ∧ bif (!(nilI v12_5)) then (
  R v12_5 w6) else (
  Calls Pg fn_cut_Forest_same #[(Value.pointer pf_0), (Value.int .i32 (IntKind.wrap .i32 na_1)), (Value.int .i32 (IntKind.wrap .i32 nb_2))] w6 fun e10 w9 => ∃ b21_8 : Bool, e10 = .returned (Value.bool b21_8) ∧
  bif b21_8 then (
  R (Value.iface T_api_Errno (Value.int .i64 (20 : Int))) w9) else (
  Calls Pg fn_cut_Forest_root #[(Value.pointer pf_0), (Value.int .i32 (IntKind.wrap .i32 na_1))] w9 fun e12 w11 => e12 = .returned (Value.tuple #[]) ∧
  pt pf_0 fun a28_13 =>
  ldS a28_13 w11 fun s30_14b s30_14l s30_14c =>
  ixS s30_14b s30_14l na_1 9 fun a34_15 =>
  sto a34_15 (Value.int .i32 (IntKind.wrap .i32 nb_2)) w11 fun w16 =>
  R Value.nilIface w16))
theorem eq_cut_Forest_Link (pf_0 : Option Addr) (na_1 : Int) (nb_2 : Int) (w : World) (R : Value → World → Prop) : sh_cut_Forest_Link pf_0 na_1 nb_2 w R = denF Pg Eall Tryd.f52 (.seq (.leaf) (.seq (.seq (.leaf) (.seq (.leaf) (.cond (.seq (.leaf) (.leaf)) (.leaf)))) (.seq (.seq (.leaf) (.cond (.seq (.leaf) (.leaf)) (.leaf))) (.seq (.leaf) (.seq (.leaf) (.seq (.leaf) (.leaf))))))) [(Value.pointer pf_0), (Value.int .i64 na_1), (Value.int .i64 nb_2)] w R := by kernel_rfl
theorem calls_cut_Forest_Link (pf_0 : Option Addr) (na_1 : Int) (nb_2 : Int) (w : World) (R : Value → World → Prop) (h : sh_cut_Forest_Link pf_0 na_1 nb_2 w R) : Calls Pg fn_cut_Forest_Link #[(Value.pointer pf_0), (Value.int .i64 na_1), (Value.int .i64 nb_2)] w fun e w' => ∃ v, e = .returned v ∧ R v w' :=
  calls_of_den Eall_enter wide_mixed Tryd.func52 (by rw [← eq_cut_Forest_Link]; exact h)

/-- '(*plait/cut.Forest).Road' -/
def sh_cut_Forest_Road (pf_0 : Option Addr) (na_1 : Int) (nb_2 : Int) (w : World) (R : Value → World → Prop) : Prop :=
  Calls Pg fn_cut_Forest_road #[(Value.pointer pf_0), (Value.int .i64 na_1), (Value.int .i64 nb_2)] w fun e6 w5 => ∃ p17_3 : Option Addr, ∃ v17_4 : Value, e6 = .returned (Value.tuple #[(Value.pointer p17_3), v17_4]) ∧
  isI v17_4 ∧ bif (!(nilI v17_4)) then (
  R (Value.tuple #[(Value.slice none 0 0), v17_4]) w5) else (
  ∃ (I7 : List Value → World → Prop) (m8 : List Value → World → Nat), I7 [(Value.slice none 0 0), (Value.int .i32 (IntKind.wrap .i32 nb_2)), (Value.slice none 0 0)] w5 ∧
  ∀ _ : Env, ∀ s9b : Option Addr, ∀ s9l : Nat, ∀ s9c : Nat, ∀ n10 : Int, ∀ s11b : Option Addr, ∀ s11l : Nat, ∀ s11c : Nat, ∀ w12 : World, I7 [(Value.slice s9b s9l s9c), (Value.int .i32 n10), (Value.slice s11b s11l s11c)] w12 →
  ∃ J13 : List Value → World → Prop, (
  bif (n10 != (-1 : Int)) then (
  J13 [] w12) else (
  bif (decide ((s9l : Int) > (0 : Int))) then (
  J13 [] w12) else (
  R (Value.tuple #[(Value.slice s11b s11l s11c), Value.nilIface]) w12))) ∧ ∀ _ : Env, ∀ w14 : World, J13 [] w14 →
  ∃ (I15 : List Value → World → Prop) (m16 : List Value → World → Nat), I15 [(Value.slice s9b s9l s9c), (Value.int .i32 n10)] w14 ∧
  ∀ _ : Env, ∀ s17b : Option Addr, ∀ s17l : Nat, ∀ s17c : Nat, ∀ n18 : Int, ∀ w19 : World, I15 [(Value.slice s17b s17l s17c), (Value.int .i32 n18)] w19 →
  bif (n18 != (-1 : Int)) then (
  Calls Pg fn_cut_Forest_push #[(Value.pointer pf_0), (Value.int .i32 n18)] w19 fun e21 w20 => e21 = .returned (Value.tuple #[]) ∧
  alo #[(Value.int .i32 n18)] T_int32 w20 fun a22 w23 =>
  ∃ s49_24b : Option Addr, ∃ s49_24l : Nat, ∃ s49_24c : Nat, ∃ w25 : World, (Builtin.append_ #[T_sl_int32, T_sl_int32] T_sl_int32 #[(Value.slice s17b s17l s17c), (Value.slice (some a22) 1 1)]).run Pg w23 = .ok (Value.slice s49_24b s49_24l s49_24c) w25 ∧
  pt pf_0 fun a35_26 =>
  ldS a35_26 w25 fun s37_27b s37_27l s37_27c =>
  ixS s37_27b s37_27l n18 9 fun a39_28 =>
  ixA (a39_28.add 1) 2 (0 : Int) 1 fun a41_29 =>
  ldI .i32 a41_29 w25 fun n42_30 =>
  (I15 [(Value.slice s49_24b s49_24l s49_24c), (Value.int .i32 n42_30)] w25 ∧ m16 [(Value.slice s49_24b s49_24l s49_24c), (Value.int .i32 n42_30)] w25 < m16 [(Value.slice s17b s17l s17c), (Value.int .i32 n18)] w19)) else (
  ixS s17b s17l (IntKind.wrap .i64 ((s17l : Int) - (1 : Int))) 1 fun a54_31 =>
  ldI .i32 a54_31 w19 fun n55_32 =>
  0 ≤ (IntKind.wrap .i64 ((s17l : Int) - (1 : Int))) ∧ (IntKind.wrap .i64 ((s17l : Int) - (1 : Int))) ≤ ((s17c : Nat) : Int) ∧ alo #[(Value.int .i64 (IntKind.wrap .i64 n55_32))] T_int w19 fun a33 w34 =>
  ∃ s65_35b : Option Addr, ∃ s65_35l : Nat, ∃ s65_35c : Nat, ∃ w36 : World, (Builtin.append_ #[T_sl_int, T_sl_int] T_sl_int #[(Value.slice s11b s11l s11c), (Value.slice (some a33) 1 1)]).run Pg w34 = .ok (Value.slice s65_35b s65_35l s65_35c) w36 ∧
  pt pf_0 fun a67_37 =>
  ldS a67_37 w36 fun s69_38b s69_38l s69_38c =>
  ixS s69_38b s69_38l n55_32 9 fun a71_39 =>
  ixA (a71_39.add 1) 2 (1 : Int) 1 fun a73_40 =>
  ldI .i32 a73_40 w36 fun n74_41 =>
  (I7 [(Value.slice (if s17c = 0 then s17b else Option.map (fun a => Addr.add a (0 * 1)) s17b) ((Int.toNat (IntKind.wrap .i64 ((s17l : Int) - (1 : Int)))) - 0) (s17c - 0)), (Value.int .i32 n74_41), (Value.slice s65_35b s65_35l s65_35c)] w36 ∧ m8 [(Value.slice (if s17c = 0 then s17b else Option.map (fun a => Addr.add a (0 * 1)) s17b) ((Int.toNat (IntKind.wrap .i64 ((s17l : Int) - (1 : Int)))) - 0) (s17c - 0)), (Value.int .i32 n74_41), (Value.slice s65_35b s65_35l s65_35c)] w36 < m8 [(Value.slice s9b s9l s9c), (Value.int .i32 n10), (Value.slice s11b s11l s11c)] w12)))
theorem eq_cut_Forest_Road (pf_0 : Option Addr) (na_1 : Int) (nb_2 : Int) (w : World) (R : Value → World → Prop) : sh_cut_Forest_Road pf_0 na_1 nb_2 w R = denF Pg Eall Tryd.f53 (.seq (.leaf) (.seq (.seq (.leaf) (.seq (.leaf) (.cond (.seq (.leaf) (.leaf)) (.leaf)))) (.seq (.leaf) (.seq (.leaf) (.seq (.leaf) (.seq (.block (.loop [11, 12, 10] [.one (.slc), .one (.int .i32), .one (.slc)] (.join [] [] (.seq (.leaf) (.cond (.leaf) (.leaf))) (.block (.seq (.block (.loop [11, 12] [.one (.slc), .one (.int .i32)] (.seq (.seq (.leaf) (.cond (.leaf) (.leaf))) (.seq (.block (.seq (.leaf) (.leaf))) (.leaf))))) (.seq (.leaf) (.seq (.leaf) (.seq (.leaf) (.leaf))))))))) (.seq (.leaf) (.leaf)))))))) [(Value.pointer pf_0), (Value.int .i64 na_1), (Value.int .i64 nb_2)] w R := by kernel_rfl
theorem calls_cut_Forest_Road (pf_0 : Option Addr) (na_1 : Int) (nb_2 : Int) (w : World) (R : Value → World → Prop) (h : sh_cut_Forest_Road pf_0 na_1 nb_2 w R) : Calls Pg fn_cut_Forest_Road #[(Value.pointer pf_0), (Value.int .i64 na_1), (Value.int .i64 nb_2)] w fun e w' => ∃ v, e = .returned v ∧ R v w' :=
  calls_of_den Eall_enter wide_mixed Tryd.func53 (by rw [← eq_cut_Forest_Road]; exact h)

/-- '(*plait/cut.Forest).Cut' -/
def sh_cut_Forest_Cut (pf_0 : Option Addr) (na_1 : Int) (nb_2 : Int) (w : World) (R : Value → World → Prop) : Prop :=
  alo #[(Value.int .i64 na_1), (Value.int .i64 nb_2)] T_int w fun a3 w4 =>
  Calls Pg fn_cut_Forest_check #[(Value.pointer pf_0), (Value.slice (some a3) 2 2)] w4 fun e7 w6 => ∃ v12_5 : Value, e7 = .returned v12_5 ∧
  isI v12_5 ∧ bif (!(nilI v12_5)) then (
  R v12_5 w6) else (
  Calls Pg fn_cut_Forest_near #[(Value.pointer pf_0), (Value.int .i32 (IntKind.wrap .i32 na_1)), (Value.int .i32 (IntKind.wrap .i32 nb_2))] w6 fun e10 w9 => ∃ b21_8 : Bool, e10 = .returned (Value.bool b21_8) ∧
  bif (!b21_8) then (
  R (Value.iface T_api_Errno (Value.int .i64 (21 : Int))) w9) else (
  pt pf_0 fun a25_11 =>
  ldS a25_11 (World.drew w9) fun s27_12b s27_12l s27_12c =>
  pt pf_0 fun a29_13 =>
  ldS a29_13 (World.drew w9) fun s31_14b s31_14l s31_14c =>
  ixS s31_14b s31_14l nb_2 9 fun a33_15 =>
  ixA (a33_15.add 1) 2 (0 : Int) 1 fun a35_16 =>
  ldI .i32 a35_16 (World.drew w9) fun n36_17 =>
  ixS s27_12b s27_12l n36_17 9 fun a37_18 =>
  sto a37_18 (Value.int .i32 (-1 : Int)) (World.drew w9) fun w19 =>
  pt pf_0 fun a40_20 =>
  ldS a40_20 w19 fun s42_21b s42_21l s42_21c =>
  ixS s42_21b s42_21l nb_2 9 fun a44_22 =>
  ixA (a44_22.add 1) 2 (0 : Int) 1 fun a46_23 =>
  sto a46_23 (Value.int .i32 (-1 : Int)) w19 fun w24 =>
  Calls Pg fn_cut_Forest_pull #[(Value.pointer pf_0), (Value.int .i32 (IntKind.wrap .i32 nb_2))] w24 fun e26 w25 => e26 = .returned (Value.tuple #[]) ∧
  R Value.nilIface w25))
theorem eq_cut_Forest_Cut (pf_0 : Option Addr) (na_1 : Int) (nb_2 : Int) (w : World) (R : Value → World → Prop) : sh_cut_Forest_Cut pf_0 na_1 nb_2 w R = denF Pg Eall Tryd.f54 (.seq (.leaf) (.seq (.seq (.leaf) (.seq (.leaf) (.cond (.seq (.leaf) (.leaf)) (.leaf)))) (.seq (.seq (.leaf) (.cond (.seq (.leaf) (.leaf)) (.leaf))) (.seq (.reg (.tk 0 [] [] (.tk 1 [] [] (.tk 2 [] [] (.tk 3 [13, 14, 15] [15] (.tk 4 [] [] (.tk 5 [] [] (.tk 6 [] [] (.tk 7 [9, 10, 11, 12, 13, 14, 15] [15] (.tk 8 [] [] (.tk 9 [] [] (.tk 10 [] [] (.tk 11 [] [] (.tk 12 [13, 14, 15] [15] (.tk 13 [] [] (.tk 14 [] [] (.one 15 (.fin)))))))))))))))))) (.seq (.leaf) (.seq (.leaf) (.seq (.leaf) (.leaf)))))))) [(Value.pointer pf_0), (Value.int .i64 na_1), (Value.int .i64 nb_2)] w R := by kernel_rfl
theorem calls_cut_Forest_Cut (pf_0 : Option Addr) (na_1 : Int) (nb_2 : Int) (w : World) (R : Value → World → Prop) (h : sh_cut_Forest_Cut pf_0 na_1 nb_2 w R) : Calls Pg fn_cut_Forest_Cut #[(Value.pointer pf_0), (Value.int .i64 na_1), (Value.int .i64 nb_2)] w fun e w' => ∃ v, e = .returned v ∧ R v w' :=
  calls_of_den Eall_enter wide_mixed Tryd.func54 (by rw [← eq_cut_Forest_Cut]; exact h)

/-- '(*plait/cut.Forest).Same' -/
def sh_cut_Forest_Same (pf_0 : Option Addr) (na_1 : Int) (nb_2 : Int) (w : World) (R : Value → World → Prop) : Prop :=
  alo #[(Value.int .i64 na_1), (Value.int .i64 nb_2)] T_int w fun a3 w4 =>
  Calls Pg fn_cut_Forest_check #[(Value.pointer pf_0), (Value.slice (some a3) 2 2)] w4 fun e7 w6 => ∃ v13_5 : Value, e7 = .returned v13_5 ∧
  isI v13_5 ∧ bif (!(nilI v13_5)) then (
  R (Value.tuple #[(Value.bool false), v13_5]) w6) else (
  Calls Pg fn_cut_Forest_same #[(Value.pointer pf_0), (Value.int .i32 (IntKind.wrap .i32 na_1)), (Value.int .i32 (IntKind.wrap .i32 nb_2))] w6 fun e10 w9 => ∃ b22_8 : Bool, e10 = .returned (Value.bool b22_8) ∧
  R (Value.tuple #[(Value.bool b22_8), Value.nilIface]) w9)
theorem eq_cut_Forest_Same (pf_0 : Option Addr) (na_1 : Int) (nb_2 : Int) (w : World) (R : Value → World → Prop) : sh_cut_Forest_Same pf_0 na_1 nb_2 w R = denF Pg Eall Tryd.f55 (.seq (.leaf) (.seq (.seq (.leaf) (.seq (.leaf) (.cond (.seq (.leaf) (.leaf)) (.leaf)))) (.seq (.leaf) (.leaf)))) [(Value.pointer pf_0), (Value.int .i64 na_1), (Value.int .i64 nb_2)] w R := by kernel_rfl
theorem calls_cut_Forest_Same (pf_0 : Option Addr) (na_1 : Int) (nb_2 : Int) (w : World) (R : Value → World → Prop) (h : sh_cut_Forest_Same pf_0 na_1 nb_2 w R) : Calls Pg fn_cut_Forest_Same #[(Value.pointer pf_0), (Value.int .i64 na_1), (Value.int .i64 nb_2)] w fun e w' => ∃ v, e = .returned v ∧ R v w' :=
  calls_of_den Eall_enter wide_mixed Tryd.func55 (by rw [← eq_cut_Forest_Same]; exact h)

/-- '(*plait/cut.Forest).Len' -/
def sh_cut_Forest_Len (pf_0 : Option Addr) (na_1 : Int) (nb_2 : Int) (w : World) (R : Value → World → Prop) : Prop :=
  Calls Pg fn_cut_Forest_road #[(Value.pointer pf_0), (Value.int .i64 na_1), (Value.int .i64 nb_2)] w fun e6 w5 => ∃ p14_3 : Option Addr, ∃ v14_4 : Value, e6 = .returned (Value.tuple #[(Value.pointer p14_3), v14_4]) ∧
  isI v14_4 ∧ bif (!(nilI v14_4)) then (
  R (Value.tuple #[(Value.int .i64 (0 : Int)), v14_4]) w5) else (
  pt p14_3 fun a21_7 =>
  ldI .i32 (a21_7.add 4) w5 fun n23_8 =>
  R (Value.tuple #[(Value.int .i64 (IntKind.wrap .i64 n23_8)), Value.nilIface]) w5)
theorem eq_cut_Forest_Len (pf_0 : Option Addr) (na_1 : Int) (nb_2 : Int) (w : World) (R : Value → World → Prop) : sh_cut_Forest_Len pf_0 na_1 nb_2 w R = denF Pg Eall Tryd.f60 (.seq (.leaf) (.seq (.leaf) (.seq (.seq (.leaf) (.cond (.seq (.leaf) (.leaf)) (.leaf))) (.seq (.leaf) (.leaf))))) [(Value.pointer pf_0), (Value.int .i64 na_1), (Value.int .i64 nb_2)] w R := by kernel_rfl
theorem calls_cut_Forest_Len (pf_0 : Option Addr) (na_1 : Int) (nb_2 : Int) (w : World) (R : Value → World → Prop) (h : sh_cut_Forest_Len pf_0 na_1 nb_2 w R) : Calls Pg fn_cut_Forest_Len #[(Value.pointer pf_0), (Value.int .i64 na_1), (Value.int .i64 nb_2)] w fun e w' => ∃ v, e = .returned v ∧ R v w' :=
  calls_of_den Eall_enter wide_mixed Tryd.func60 (by rw [← eq_cut_Forest_Len]; exact h)

/-- '(*plait/cut.Forest).Near' -/
def sh_cut_Forest_Near (pf_0 : Option Addr) (na_1 : Int) (nb_2 : Int) (w : World) (R : Value → World → Prop) : Prop :=
  alo #[(Value.int .i64 na_1), (Value.int .i64 nb_2)] T_int w fun a3 w4 =>
  Calls Pg fn_cut_Forest_check #[(Value.pointer pf_0), (Value.slice (some a3) 2 2)] w4 fun e7 w6 => ∃ v13_5 : Value, e7 = .returned v13_5 ∧
  isI v13_5 ∧ bif (!(nilI v13_5)) then (
  R (Value.tuple #[(Value.bool false), v13_5]) w6) else (
  Calls Pg fn_cut_Forest_near #[(Value.pointer pf_0), (Value.int .i32 (IntKind.wrap .i32 na_1)), (Value.int .i32 (IntKind.wrap .i32 nb_2))] w6 fun e10 w9 => ∃ b22_8 : Bool, e10 = .returned (Value.bool b22_8) ∧
  R (Value.tuple #[(Value.bool b22_8), Value.nilIface]) w9)
theorem eq_cut_Forest_Near (pf_0 : Option Addr) (na_1 : Int) (nb_2 : Int) (w : World) (R : Value → World → Prop) : sh_cut_Forest_Near pf_0 na_1 nb_2 w R = denF Pg Eall Tryd.f61 (.seq (.leaf) (.seq (.seq (.leaf) (.seq (.leaf) (.cond (.seq (.leaf) (.leaf)) (.leaf)))) (.seq (.leaf) (.leaf)))) [(Value.pointer pf_0), (Value.int .i64 na_1), (Value.int .i64 nb_2)] w R := by kernel_rfl
theorem calls_cut_Forest_Near (pf_0 : Option Addr) (na_1 : Int) (nb_2 : Int) (w : World) (R : Value → World → Prop) (h : sh_cut_Forest_Near pf_0 na_1 nb_2 w R) : Calls Pg fn_cut_Forest_Near #[(Value.pointer pf_0), (Value.int .i64 na_1), (Value.int .i64 nb_2)] w fun e w' => ∃ v, e = .returned v ∧ R v w' :=
  calls_of_den Eall_enter wide_mixed Tryd.func61 (by rw [← eq_cut_Forest_Near]; exact h)

/-- '(*plait/cut.Forest).Least' -/
def sh_cut_Forest_Least (pf_0 : Option Addr) (na_1 : Int) (nb_2 : Int) (w : World) (R : Value → World → Prop) : Prop :=
  Calls Pg fn_cut_Forest_road #[(Value.pointer pf_0), (Value.int .i64 na_1), (Value.int .i64 nb_2)] w fun e6 w5 => ∃ p15_3 : Option Addr, ∃ v15_4 : Value, e6 = .returned (Value.tuple #[(Value.pointer p15_3), v15_4]) ∧
  isI v15_4 ∧ bif (!(nilI v15_4)) then (
  R (Value.tuple #[(Value.int .i64 (0 : Int)), v15_4]) w5) else (
  pt p15_3 fun a22_7 =>
  ldI .i64 (a22_7.add 7) w5 fun n24_8 =>
  alo #[(Value.int .i64 (0 : Int))] T_int64 w5 fun a9 w10 =>
  sto a9 (Value.int .i64 n24_8) w10 fun w11 =>
  ldI .i64 a9 w11 fun n28_12 =>
  Calls Pg fn_cut_Forest_first #[(Value.pointer pf_0), (Value.int .i32 (IntKind.wrap .i32 nb_2)), (Value.int .i64 n28_12), (Value.func (.func fn_cut_Forest_Least_1) #[] #[(Value.pointer (some a9))])] w11 fun e15 w14 => ∃ n30_13 : Int, e15 = .returned (Value.int .i64 n30_13) ∧
  R (Value.tuple #[(Value.int .i64 n30_13), Value.nilIface]) w14)
theorem eq_cut_Forest_Least (pf_0 : Option Addr) (na_1 : Int) (nb_2 : Int) (w : World) (R : Value → World → Prop) : sh_cut_Forest_Least pf_0 na_1 nb_2 w R = denF Pg Eall Tryd.f62 (.seq (.leaf) (.seq (.leaf) (.seq (.seq (.leaf) (.cond (.seq (.leaf) (.leaf)) (.leaf))) (.seq (.leaf) (.seq (.leaf) (.leaf)))))) [(Value.pointer pf_0), (Value.int .i64 na_1), (Value.int .i64 nb_2)] w R := by kernel_rfl
theorem calls_cut_Forest_Least (pf_0 : Option Addr) (na_1 : Int) (nb_2 : Int) (w : World) (R : Value → World → Prop) (h : sh_cut_Forest_Least pf_0 na_1 nb_2 w R) : Calls Pg fn_cut_Forest_Least #[(Value.pointer pf_0), (Value.int .i64 na_1), (Value.int .i64 nb_2)] w fun e w' => ∃ v, e = .returned v ∧ R v w' :=
  calls_of_den Eall_enter wide_mixed Tryd.func62 (by rw [← eq_cut_Forest_Least]; exact h)

/-- '(*plait/cut.Forest).Set' -/
def sh_cut_Forest_Set (pf_0 : Option Addr) (nx_1 : Int) (nv_2 : Int) (w : World) (R : Value → World → Prop) : Prop :=
  alo #[(Value.int .i64 nx_1)] T_int w fun a3 w4 =>
  Calls Pg fn_cut_Forest_check #[(Value.pointer pf_0), (Value.slice (some a3) 1 1)] w4 fun e7 w6 => ∃ v11_5 : Value, e7 = .returned v11_5 ∧
  isI v11_5 ∧ bif (!(nilI v11_5)) then (
  R v11_5 w6) else (
  Calls Pg fn_cut_Forest_access #[(Value.pointer pf_0), (Value.int .i32 (IntKind.wrap .i32 nx_1))] w6 fun e9 w8 => e9 = .returned (Value.tuple #[]) ∧
  pt pf_0 fun a20_10 =>
  ldS a20_10 w8 fun s22_11b s22_11l s22_11c =>
  ixS s22_11b s22_11l nx_1 9 fun a25_12 =>
  sto (a25_12.add 5) (Value.int .i64 nv_2) w8 fun w13 =>
  Calls Pg fn_cut_Forest_pull #[(Value.pointer pf_0), (Value.int .i32 (IntKind.wrap .i32 nx_1))] w13 fun e15 w14 => e15 = .returned (Value.tuple #[]) ∧
  R Value.nilIface w14)
theorem eq_cut_Forest_Set (pf_0 : Option Addr) (nx_1 : Int) (nv_2 : Int) (w : World) (R : Value → World → Prop) : sh_cut_Forest_Set pf_0 nx_1 nv_2 w R = denF Pg Eall Tryd.f63 (.seq (.leaf) (.seq (.seq (.leaf) (.seq (.leaf) (.cond (.seq (.leaf) (.leaf)) (.leaf)))) (.seq (.leaf) (.seq (.leaf) (.seq (.leaf) (.seq (.leaf) (.leaf))))))) [(Value.pointer pf_0), (Value.int .i64 nx_1), (Value.int .i64 nv_2)] w R := by kernel_rfl
theorem calls_cut_Forest_Set (pf_0 : Option Addr) (nx_1 : Int) (nv_2 : Int) (w : World) (R : Value → World → Prop) (h : sh_cut_Forest_Set pf_0 nx_1 nv_2 w R) : Calls Pg fn_cut_Forest_Set #[(Value.pointer pf_0), (Value.int .i64 nx_1), (Value.int .i64 nv_2)] w fun e w' => ∃ v, e = .returned v ∧ R v w' :=
  calls_of_den Eall_enter wide_mixed Tryd.func63 (by rw [← eq_cut_Forest_Set]; exact h)

/-- '(*plait/cut.Forest).Sum' -/
def sh_cut_Forest_Sum (pf_0 : Option Addr) (na_1 : Int) (nb_2 : Int) (w : World) (R : Value → World → Prop) : Prop :=
  Calls Pg fn_cut_Forest_road #[(Value.pointer pf_0), (Value.int .i64 na_1), (Value.int .i64 nb_2)] w fun e6 w5 => ∃ p14_3 : Option Addr, ∃ v14_4 : Value, e6 = .returned (Value.tuple #[(Value.pointer p14_3), v14_4]) ∧
  isI v14_4 ∧ bif (!(nilI v14_4)) then (
  R (Value.tuple #[(Value.int .i64 (0 : Int)), v14_4]) w5) else (
  pt p14_3 fun a21_7 =>
  ldI .i64 (a21_7.add 6) w5 fun n23_8 =>
  R (Value.tuple #[(Value.int .i64 n23_8), Value.nilIface]) w5)
theorem eq_cut_Forest_Sum (pf_0 : Option Addr) (na_1 : Int) (nb_2 : Int) (w : World) (R : Value → World → Prop) : sh_cut_Forest_Sum pf_0 na_1 nb_2 w R = denF Pg Eall Tryd.f64 (.seq (.leaf) (.seq (.leaf) (.seq (.seq (.leaf) (.cond (.seq (.leaf) (.leaf)) (.leaf))) (.seq (.leaf) (.leaf))))) [(Value.pointer pf_0), (Value.int .i64 na_1), (Value.int .i64 nb_2)] w R := by kernel_rfl
theorem calls_cut_Forest_Sum (pf_0 : Option Addr) (na_1 : Int) (nb_2 : Int) (w : World) (R : Value → World → Prop) (h : sh_cut_Forest_Sum pf_0 na_1 nb_2 w R) : Calls Pg fn_cut_Forest_Sum #[(Value.pointer pf_0), (Value.int .i64 na_1), (Value.int .i64 nb_2)] w fun e w' => ∃ v, e = .returned v ∧ R v w' :=
  calls_of_den Eall_enter wide_mixed Tryd.func64 (by rw [← eq_cut_Forest_Sum]; exact h)

/-- '(*plait/cut.Forest).Most' -/
def sh_cut_Forest_Most (pf_0 : Option Addr) (na_1 : Int) (nb_2 : Int) (w : World) (R : Value → World → Prop) : Prop :=
  Calls Pg fn_cut_Forest_road #[(Value.pointer pf_0), (Value.int .i64 na_1), (Value.int .i64 nb_2)] w fun e6 w5 => ∃ p15_3 : Option Addr, ∃ v15_4 : Value, e6 = .returned (Value.tuple #[(Value.pointer p15_3), v15_4]) ∧
  isI v15_4 ∧ bif (!(nilI v15_4)) then (
  R (Value.tuple #[(Value.int .i64 (0 : Int)), v15_4]) w5) else (
  pt p15_3 fun a22_7 =>
  ldI .i64 (a22_7.add 8) w5 fun n24_8 =>
  alo #[(Value.int .i64 (0 : Int))] T_int64 w5 fun a9 w10 =>
  sto a9 (Value.int .i64 n24_8) w10 fun w11 =>
  ldI .i64 a9 w11 fun n28_12 =>
  Calls Pg fn_cut_Forest_first #[(Value.pointer pf_0), (Value.int .i32 (IntKind.wrap .i32 nb_2)), (Value.int .i64 n28_12), (Value.func (.func fn_cut_Forest_Most_1) #[] #[(Value.pointer (some a9))])] w11 fun e15 w14 => ∃ n30_13 : Int, e15 = .returned (Value.int .i64 n30_13) ∧
  R (Value.tuple #[(Value.int .i64 n30_13), Value.nilIface]) w14)
theorem eq_cut_Forest_Most (pf_0 : Option Addr) (na_1 : Int) (nb_2 : Int) (w : World) (R : Value → World → Prop) : sh_cut_Forest_Most pf_0 na_1 nb_2 w R = denF Pg Eall Tryd.f65 (.seq (.leaf) (.seq (.leaf) (.seq (.seq (.leaf) (.cond (.seq (.leaf) (.leaf)) (.leaf))) (.seq (.leaf) (.seq (.leaf) (.leaf)))))) [(Value.pointer pf_0), (Value.int .i64 na_1), (Value.int .i64 nb_2)] w R := by kernel_rfl
theorem calls_cut_Forest_Most (pf_0 : Option Addr) (na_1 : Int) (nb_2 : Int) (w : World) (R : Value → World → Prop) (h : sh_cut_Forest_Most pf_0 na_1 nb_2 w R) : Calls Pg fn_cut_Forest_Most #[(Value.pointer pf_0), (Value.int .i64 na_1), (Value.int .i64 nb_2)] w fun e w' => ∃ v, e = .returned v ∧ R v w' :=
  calls_of_den Eall_enter wide_mixed Tryd.func65 (by rw [← eq_cut_Forest_Most]; exact h)

/-- '(*plait/cut.Forest).check' -/
def sh_cut_Forest_check (pf_0 : Option Addr) (sl_1b : Option Addr) (sl_1l : Nat) (sl_1c : Nat) (w : World) (R : Value → World → Prop) : Prop :=
  bif (Option.isNone pf_0) then (
  R (Value.iface T_api_Errno (Value.int .i64 (1 : Int))) w) else (
  ∃ (I2 : List Value → World → Prop) (m3 : List Value → World → Nat), I2 [(Value.int .i64 (0 : Int))] w ∧
  ∀ _ : Env, ∀ n4 : Int, ∀ w5 : World, I2 [(Value.int .i64 n4)] w5 →
  bif (decide (n4 < (sl_1l : Int))) then (
  ixS sl_1b sl_1l n4 1 fun a14_6 =>
  ldI .i64 a14_6 w5 fun n15_7 =>
  bif (decide (n15_7 < (0 : Int))) then (
  R (Value.iface T_api_Errno (Value.int .i64 (12 : Int))) w5) else (
  pt pf_0 fun a21_8 =>
  ldS a21_8 w5 fun s23_9b s23_9l s23_9c =>
  bif (decide (n15_7 ≥ (s23_9l : Int))) then (
  R (Value.iface T_api_Errno (Value.int .i64 (12 : Int))) w5) else (
  (I2 [(Value.int .i64 (IntKind.wrap .i64 (n4 + (1 : Int))))] w5 ∧ m3 [(Value.int .i64 (IntKind.wrap .i64 (n4 + (1 : Int))))] w5 < m3 [(Value.int .i64 n4)] w5)))) else (
  R Value.nilIface w5))
theorem eq_cut_Forest_check (pf_0 : Option Addr) (sl_1b : Option Addr) (sl_1l : Nat) (sl_1c : Nat) (w : World) (R : Value → World → Prop) : sh_cut_Forest_check pf_0 sl_1b sl_1l sl_1c w R = denF Pg Eall Tryd.f110 (.seq (.leaf) (.seq (.seq (.leaf) (.cond (.seq (.leaf) (.leaf)) (.leaf))) (.seq (.seq (.leaf) (.block (.loop [12] [.one (.int .i64)] (.seq (.leaf) (.seq (.cond (.leaf) (.leaf)) (.seq (.block (.seq (.leaf) (.seq (.leaf) (.cond (.seq (.leaf) (.leaf)) (.leaf))))) (.leaf))))))) (.seq (.leaf) (.leaf))))) [(Value.pointer pf_0), (Value.slice sl_1b sl_1l sl_1c)] w R := by kernel_rfl
theorem calls_cut_Forest_check (pf_0 : Option Addr) (sl_1b : Option Addr) (sl_1l : Nat) (sl_1c : Nat) (w : World) (R : Value → World → Prop) (h : sh_cut_Forest_check pf_0 sl_1b sl_1l sl_1c w R) : Calls Pg fn_cut_Forest_check #[(Value.pointer pf_0), (Value.slice sl_1b sl_1l sl_1c)] w fun e w' => ∃ v, e = .returned v ∧ R v w' :=
  calls_of_den Eall_enter wide_mixed Tryd.func110 (by rw [← eq_cut_Forest_check]; exact h)

/-- '(*plait/cut.Forest).same' -/
def sh_cut_Forest_same (pf_0 : Option Addr) (na_1 : Int) (nb_2 : Int) (w : World) (R : Value → World → Prop) : Prop :=
  bif (na_1 == nb_2) then (
  R (Value.bool true) w) else (
  Calls Pg fn_cut_Forest_access #[(Value.pointer pf_0), (Value.int .i32 na_1)] w fun e4 w3 => e4 = .returned (Value.tuple #[]) ∧
  Calls Pg fn_cut_Forest_access #[(Value.pointer pf_0), (Value.int .i32 nb_2)] w3 fun e6 w5 => e6 = .returned (Value.tuple #[]) ∧
  pt pf_0 fun a17_7 =>
  ldS a17_7 w5 fun s19_8b s19_8l s19_8c =>
  ixS s19_8b s19_8l na_1 9 fun a21_9 =>
  ldI .i32 a21_9 w5 fun n23_10 =>
  R (Value.bool (n23_10 != (-1 : Int))) w5)
theorem eq_cut_Forest_same (pf_0 : Option Addr) (na_1 : Int) (nb_2 : Int) (w : World) (R : Value → World → Prop) : sh_cut_Forest_same pf_0 na_1 nb_2 w R = denF Pg Eall Tryd.f111 (.seq (.leaf) (.seq (.seq (.leaf) (.cond (.seq (.leaf) (.leaf)) (.leaf))) (.seq (.leaf) (.seq (.leaf) (.seq (.leaf) (.leaf)))))) [(Value.pointer pf_0), (Value.int .i32 na_1), (Value.int .i32 nb_2)] w R := by kernel_rfl
theorem calls_cut_Forest_same (pf_0 : Option Addr) (na_1 : Int) (nb_2 : Int) (w : World) (R : Value → World → Prop) (h : sh_cut_Forest_same pf_0 na_1 nb_2 w R) : Calls Pg fn_cut_Forest_same #[(Value.pointer pf_0), (Value.int .i32 na_1), (Value.int .i32 nb_2)] w fun e w' => ∃ v, e = .returned v ∧ R v w' :=
  calls_of_den Eall_enter wide_mixed Tryd.func111 (by rw [← eq_cut_Forest_same]; exact h)

/-- '(*plait/cut.Forest).root' -/
def sh_cut_Forest_root (pf_0 : Option Addr) (nx_1 : Int) (w : World) (R : Value → World → Prop) : Prop :=
  Calls Pg fn_cut_Forest_access #[(Value.pointer pf_0), (Value.int .i32 nx_1)] w fun e3 w2 => e3 = .returned (Value.tuple #[]) ∧
  pt pf_0 fun a8_4 =>
  ldS a8_4 (World.drew w2) fun s10_5b s10_5l s10_5c =>
  pt pf_0 fun a13_6 =>
  ldS a13_6 (World.drew w2) fun s15_7b s15_7l s15_7c =>
  ixS s15_7b s15_7l nx_1 9 fun a17_8 =>
  ldB (a17_8.add 3) (World.drew w2) fun b19_9 =>
  ixS s10_5b s10_5l nx_1 9 fun a21_10 =>
  sto (a21_10.add 3) (Value.bool (!b19_9)) (World.drew w2) fun w11 =>
  Calls Pg fn_cut_Forest_push #[(Value.pointer pf_0), (Value.int .i32 nx_1)] w11 fun e13 w12 => e13 = .returned (Value.tuple #[]) ∧
  R (Value.tuple #[]) w12
theorem eq_cut_Forest_root (pf_0 : Option Addr) (nx_1 : Int) (w : World) (R : Value → World → Prop) : sh_cut_Forest_root pf_0 nx_1 w R = denF Pg Eall Tryd.f112 (.seq (.leaf) (.seq (.reg (.tk 0 [] [] (.tk 1 [] [] (.tk 2 [] [] (.tk 3 [14, 15, 16] [16] (.tk 4 [] [] (.tk 5 [] [] (.tk 6 [] [] (.tk 7 [] [] (.tk 8 [10, 11, 12, 13, 14, 15, 16] [16] (.tk 9 [] [] (.tk 10 [] [] (.tk 11 [] [] (.tk 12 [13, 14, 15, 16] [16] (.tk 13 [] [] (.tk 14 [] [] (.tk 15 [] [] (.one 16 (.fin))))))))))))))))))) (.leaf))) [(Value.pointer pf_0), (Value.int .i32 nx_1)] w R := by kernel_rfl
theorem calls_cut_Forest_root (pf_0 : Option Addr) (nx_1 : Int) (w : World) (R : Value → World → Prop) (h : sh_cut_Forest_root pf_0 nx_1 w R) : Calls Pg fn_cut_Forest_root #[(Value.pointer pf_0), (Value.int .i32 nx_1)] w fun e w' => ∃ v, e = .returned v ∧ R v w' :=
  calls_of_den Eall_enter wide_mixed Tryd.func112 (by rw [← eq_cut_Forest_root]; exact h)

/-- '(*plait/cut.Forest).road' -/
def sh_cut_Forest_road (pf_0 : Option Addr) (na_1 : Int) (nb_2 : Int) (w : World) (R : Value → World → Prop) : Prop :=
  alo #[(Value.int .i64 na_1), (Value.int .i64 nb_2)] T_int w fun a3 w4 =>
  Calls Pg fn_cut_Forest_check #[(Value.pointer pf_0), (Value.slice (some a3) 2 2)] w4 fun e7 w6 => ∃ v13_5 : Value, e7 = .returned v13_5 ∧
  isI v13_5 ∧ bif (!(nilI v13_5)) then (
  R (Value.tuple #[(Value.pointer none), v13_5]) w6) else (
  Calls Pg fn_cut_Forest_same #[(Value.pointer pf_0), (Value.int .i32 (IntKind.wrap .i32 na_1)), (Value.int .i32 (IntKind.wrap .i32 nb_2))] w6 fun e10 w9 => ∃ b22_8 : Bool, e10 = .returned (Value.bool b22_8) ∧
  bif (!b22_8) then (
  R (Value.tuple #[(Value.pointer none), (Value.iface T_api_Errno (Value.int .i64 (21 : Int)))]) w9) else (
  Calls Pg fn_cut_Forest_root #[(Value.pointer pf_0), (Value.int .i32 (IntKind.wrap .i32 na_1))] w9 fun e12 w11 => e12 = .returned (Value.tuple #[]) ∧
  Calls Pg fn_cut_Forest_access #[(Value.pointer pf_0), (Value.int .i32 (IntKind.wrap .i32 nb_2))] w11 fun e14 w13 => e14 = .returned (Value.tuple #[]) ∧
  pt pf_0 fun a34_15 =>
  ldS a34_15 w13 fun s36_16b s36_16l s36_16c =>
  ixS s36_16b s36_16l nb_2 9 fun a38_17 =>
  R (Value.tuple #[(Value.pointer (some a38_17)), Value.nilIface]) w13))
theorem eq_cut_Forest_road (pf_0 : Option Addr) (na_1 : Int) (nb_2 : Int) (w : World) (R : Value → World → Prop) : sh_cut_Forest_road pf_0 na_1 nb_2 w R = denF Pg Eall Tryd.f113 (.seq (.leaf) (.seq (.seq (.leaf) (.seq (.leaf) (.cond (.seq (.leaf) (.leaf)) (.leaf)))) (.seq (.seq (.leaf) (.cond (.seq (.leaf) (.leaf)) (.leaf))) (.seq (.leaf) (.seq (.leaf) (.seq (.leaf) (.leaf))))))) [(Value.pointer pf_0), (Value.int .i64 na_1), (Value.int .i64 nb_2)] w R := by kernel_rfl
theorem calls_cut_Forest_road (pf_0 : Option Addr) (na_1 : Int) (nb_2 : Int) (w : World) (R : Value → World → Prop) (h : sh_cut_Forest_road pf_0 na_1 nb_2 w R) : Calls Pg fn_cut_Forest_road #[(Value.pointer pf_0), (Value.int .i64 na_1), (Value.int .i64 nb_2)] w fun e w' => ∃ v, e = .returned v ∧ R v w' :=
  calls_of_den Eall_enter wide_mixed Tryd.func113 (by rw [← eq_cut_Forest_road]; exact h)

/-- '(*plait/cut.Forest).push' -/
def sh_cut_Forest_push (pf_0 : Option Addr) (nx_1 : Int) (w : World) (R : Value → World → Prop) : Prop :=
  pt pf_0 fun a8_2 =>
  ldS a8_2 w fun s10_3b s10_3l s10_3c =>
  ixS s10_3b s10_3l nx_1 9 fun a12_4 =>
  ldB (a12_4.add 3) w fun b16_5 =>
  bif (!b16_5) then (
  R (Value.tuple #[]) w) else (
  sto (a12_4.add 3) (Value.bool false) w fun w6 =>
  ixA (a12_4.add 1) 2 (1 : Int) 1 fun a26_7 =>
  ldI .i32 a26_7 (World.drew w6) fun n27_8 =>
  ixA (a12_4.add 1) 2 (0 : Int) 1 fun a31_9 =>
  ldI .i32 a31_9 (World.drew w6) fun n32_10 =>
  ixA (a12_4.add 1) 2 (0 : Int) 1 fun a35_11 =>
  sto a35_11 (Value.int .i32 n27_8) (World.drew w6) fun w12 =>
  ixA (a12_4.add 1) 2 (1 : Int) 1 fun a38_13 =>
  sto a38_13 (Value.int .i32 n32_10) w12 fun w14 =>
  ldI .i32 (a12_4.add 1) w14 fun n42_15 =>
  ldI .i32 ((a12_4.add 1).add 1) w14 fun n42_16 =>
  ∃ n45_17 : Int, 0 ≤ (0 : Int) ∧ (0 : Int) < ((2 : Nat) : Int) ∧ #[(Value.int .i32 n42_15), (Value.int .i32 n42_16)][(Int.toNat (0 : Int)) * 1]? = some (Value.int .i32 n45_17) ∧
  bif (n45_17 != (-1 : Int)) then (
  pt pf_0 fun a49_18 =>
  ldS a49_18 (World.drew w14) fun s51_19b s51_19l s51_19c =>
  pt pf_0 fun a54_20 =>
  ldS a54_20 (World.drew w14) fun s56_21b s56_21l s56_21c =>
  ixS s56_21b s56_21l n45_17 9 fun a58_22 =>
  ldB (a58_22.add 3) (World.drew w14) fun b60_23 =>
  ixS s51_19b s51_19l n45_17 9 fun a62_24 =>
  sto (a62_24.add 3) (Value.bool (!b60_23)) (World.drew w14) fun w25 =>
  ∃ n45_26 : Int, 0 ≤ (1 : Int) ∧ (1 : Int) < ((2 : Nat) : Int) ∧ #[(Value.int .i32 n42_15), (Value.int .i32 n42_16)][(Int.toNat (1 : Int)) * 1]? = some (Value.int .i32 n45_26) ∧
  bif (n45_26 != (-1 : Int)) then (
  pt pf_0 fun a49_27 =>
  ldS a49_27 (World.drew w25) fun s51_28b s51_28l s51_28c =>
  pt pf_0 fun a54_29 =>
  ldS a54_29 (World.drew w25) fun s56_30b s56_30l s56_30c =>
  ixS s56_30b s56_30l n45_26 9 fun a58_31 =>
  ldB (a58_31.add 3) (World.drew w25) fun b60_32 =>
  ixS s51_28b s51_28l n45_26 9 fun a62_33 =>
  sto (a62_33.add 3) (Value.bool (!b60_32)) (World.drew w25) fun w34 =>
  R (Value.tuple #[]) w34) else (
  R (Value.tuple #[]) w25)) else (
  ∃ n45_35 : Int, 0 ≤ (1 : Int) ∧ (1 : Int) < ((2 : Nat) : Int) ∧ #[(Value.int .i32 n42_15), (Value.int .i32 n42_16)][(Int.toNat (1 : Int)) * 1]? = some (Value.int .i32 n45_35) ∧
  bif (n45_35 != (-1 : Int)) then (
  pt pf_0 fun a49_36 =>
  ldS a49_36 (World.drew w14) fun s51_37b s51_37l s51_37c =>
  pt pf_0 fun a54_38 =>
  ldS a54_38 (World.drew w14) fun s56_39b s56_39l s56_39c =>
  ixS s56_39b s56_39l n45_35 9 fun a58_40 =>
  ldB (a58_40.add 3) (World.drew w14) fun b60_41 =>
  ixS s51_37b s51_37l n45_35 9 fun a62_42 =>
  sto (a62_42.add 3) (Value.bool (!b60_41)) (World.drew w14) fun w43 =>
  R (Value.tuple #[]) w43) else (
  R (Value.tuple #[]) w14)))
theorem eq_cut_Forest_push (pf_0 : Option Addr) (nx_1 : Int) (w : World) (R : Value → World → Prop) : sh_cut_Forest_push pf_0 nx_1 w R = denF Pg Eall Tryd.f114 (.seq (.leaf) (.seq (.seq (.leaf) (.cond (.leaf) (.leaf))) (.seq (.leaf) (.seq (.reg (.tk 0 [] [] (.tk 1 [] [] (.tk 2 [] [] (.tk 3 [] [] (.tk 4 [] [] (.tk 5 [] [] (.tk 6 [14, 15, 18, 19] [15, 19] (.tk 7 [] [] (.tk 8 [] [] (.tk 9 [] [] (.tk 10 [] [] (.tk 11 [14, 15, 18, 19] [15, 19] (.tk 12 [] [] (.tk 13 [] [] (.tk 14 [] [] (.tk 16 [] [] (.tk 17 [] [] (.one 15 (.tk 18 [] [] (.one 19 (.fin)))))))))))))))))))))) (.seq (.leaf) (.block (.unr 3 (.seq (.leaf) (.seq (.cond (.leaf) (.leaf)) (.seq (.block (.seq (.leaf) (.seq (.leaf) (.cond (.reg (.tk 0 [] [] (.tk 1 [] [] (.tk 2 [] [] (.tk 3 [14, 15, 16] [16] (.tk 4 [] [] (.tk 5 [] [] (.tk 6 [] [] (.tk 7 [] [] (.tk 8 [10, 11, 12, 13, 14, 15, 16] [16] (.tk 9 [] [] (.tk 10 [] [] (.tk 11 [] [] (.tk 12 [13, 14, 15, 16] [16] (.tk 13 [] [] (.tk 14 [] [] (.tk 15 [] [] (.one 16 (.fin))))))))))))))))))) (.leaf))))) (.leaf))))))))))) [(Value.pointer pf_0), (Value.int .i32 nx_1)] w R := by kernel_rfl
theorem calls_cut_Forest_push (pf_0 : Option Addr) (nx_1 : Int) (w : World) (R : Value → World → Prop) (h : sh_cut_Forest_push pf_0 nx_1 w R) : Calls Pg fn_cut_Forest_push #[(Value.pointer pf_0), (Value.int .i32 nx_1)] w fun e w' => ∃ v, e = .returned v ∧ R v w' :=
  calls_of_den Eall_enter wide_mixed Tryd.func114 (by rw [← eq_cut_Forest_push]; exact h)

/-- '(*plait/cut.Forest).near' -/
def sh_cut_Forest_near (pf_0 : Option Addr) (na_1 : Int) (nb_2 : Int) (w : World) (R : Value → World → Prop) : Prop :=
  bif (na_1 == nb_2) then (
  R (Value.bool false) w) else (
  Calls Pg fn_cut_Forest_same #[(Value.pointer pf_0), (Value.int .i32 na_1), (Value.int .i32 nb_2)] w fun e5 w4 => ∃ b14_3 : Bool, e5 = .returned (Value.bool b14_3) ∧
  bif (!b14_3) then (
  R (Value.bool false) w4) else (
  Calls Pg fn_cut_Forest_root #[(Value.pointer pf_0), (Value.int .i32 na_1)] w4 fun e7 w6 => e7 = .returned (Value.tuple #[]) ∧
  Calls Pg fn_cut_Forest_access #[(Value.pointer pf_0), (Value.int .i32 nb_2)] w6 fun e9 w8 => e9 = .returned (Value.tuple #[]) ∧
  pt pf_0 fun a24_10 =>
  ldS a24_10 w8 fun s26_11b s26_11l s26_11c =>
  ixS s26_11b s26_11l nb_2 9 fun a28_12 =>
  ldI .i32 (a28_12.add 4) w8 fun n30_13 =>
  R (Value.bool (n30_13 == (2 : Int))) w8))
theorem eq_cut_Forest_near (pf_0 : Option Addr) (na_1 : Int) (nb_2 : Int) (w : World) (R : Value → World → Prop) : sh_cut_Forest_near pf_0 na_1 nb_2 w R = denF Pg Eall Tryd.f115 (.seq (.leaf) (.seq (.seq (.leaf) (.cond (.seq (.leaf) (.leaf)) (.leaf))) (.seq (.leaf) (.seq (.leaf) (.seq (.leaf) (.leaf)))))) [(Value.pointer pf_0), (Value.int .i32 na_1), (Value.int .i32 nb_2)] w R := by kernel_rfl
theorem calls_cut_Forest_near (pf_0 : Option Addr) (na_1 : Int) (nb_2 : Int) (w : World) (R : Value → World → Prop) (h : sh_cut_Forest_near pf_0 na_1 nb_2 w R) : Calls Pg fn_cut_Forest_near #[(Value.pointer pf_0), (Value.int .i32 na_1), (Value.int .i32 nb_2)] w fun e w' => ∃ v, e = .returned v ∧ R v w' :=
  calls_of_den Eall_enter wide_mixed Tryd.func115 (by rw [← eq_cut_Forest_near]; exact h)

/-- '(*plait/cut.Forest).pull' -/
def sh_cut_Forest_pull (pf_0 : Option Addr) (nx_1 : Int) (w : World) (R : Value → World → Prop) : Prop :=
  pt pf_0 fun a9_2 =>
  ldS a9_2 w fun s11_3b s11_3l s11_3c =>
  ixS s11_3b s11_3l nx_1 9 fun a13_4 =>
  ldI .i64 (a13_4.add 5) (World.drew w) fun n21_5 =>
  ldI .i64 (a13_4.add 5) (World.drew w) fun n25_6 =>
  ldI .i64 (a13_4.add 5) (World.drew w) fun n29_7 =>
  sto (a13_4.add 4) (Value.int .i32 (1 : Int)) (World.drew w) fun w8 =>
  sto (a13_4.add 6) (Value.int .i64 n21_5) w8 fun w9 =>
  sto (a13_4.add 7) (Value.int .i64 n25_6) w9 fun w10 =>
  sto (a13_4.add 8) (Value.int .i64 n29_7) w10 fun w11 =>
  ldI .i32 (a13_4.add 1) w11 fun n41_12 =>
  ldI .i32 ((a13_4.add 1).add 1) w11 fun n41_13 =>
  ∃ n44_14 : Int, 0 ≤ (0 : Int) ∧ (0 : Int) < ((2 : Nat) : Int) ∧ #[(Value.int .i32 n41_12), (Value.int .i32 n41_13)][(Int.toNat (0 : Int)) * 1]? = some (Value.int .i32 n44_14) ∧
  bif (n44_14 != (-1 : Int)) then (
  pt pf_0 fun a48_15 =>
  ldS a48_15 w11 fun s50_16b s50_16l s50_16c =>
  ixS s50_16b s50_16l n44_14 9 fun a52_17 =>
  ldI .i32 a52_17 w11 fun n53_18 =>
  ldI .i32 (a52_17.add 1) w11 fun n53_19 =>
  ldI .i32 (a52_17.add 2) w11 fun n53_20 =>
  ldB (a52_17.add 3) w11 fun b53_21 =>
  ldI .i32 (a52_17.add 4) w11 fun n53_22 =>
  ldI .i64 (a52_17.add 5) w11 fun n53_23 =>
  ldI .i64 (a52_17.add 6) w11 fun n53_24 =>
  ldI .i64 (a52_17.add 7) w11 fun n53_25 =>
  ldI .i64 (a52_17.add 8) w11 fun n53_26 =>
  alo #[(Value.int .i32 (0 : Int)), (Value.int .i32 (0 : Int)), (Value.int .i32 (0 : Int)), (Value.bool false), (Value.int .i32 (0 : Int)), (Value.int .i64 (0 : Int)), (Value.int .i64 (0 : Int)), (Value.int .i64 (0 : Int)), (Value.int .i64 (0 : Int))] T_cut_node w11 fun a27 w28 =>
  sto a27 (Value.int .i32 n53_18) w28 fun w29 =>
  sto (a27.add 1) (Value.int .i32 n53_19) w29 fun w30 =>
  sto (a27.add 2) (Value.int .i32 n53_20) w30 fun w31 =>
  sto (a27.add 3) (Value.bool b53_21) w31 fun w32 =>
  sto (a27.add 4) (Value.int .i32 n53_22) w32 fun w33 =>
  sto (a27.add 5) (Value.int .i64 n53_23) w33 fun w34 =>
  sto (a27.add 6) (Value.int .i64 n53_24) w34 fun w35 =>
  sto (a27.add 7) (Value.int .i64 n53_25) w35 fun w36 =>
  sto (a27.add 8) (Value.int .i64 n53_26) w36 fun w37 =>
  ldI .i32 (a13_4.add 4) (World.drew w37) fun n59_38 =>
  ldI .i32 (a27.add 4) (World.drew w37) fun n61_39 =>
  ldI .i64 (a13_4.add 6) (World.drew w37) fun n66_40 =>
  ldI .i64 (a27.add 6) (World.drew w37) fun n68_41 =>
  sto (a13_4.add 4) (Value.int .i32 (IntKind.wrap .i32 (n59_38 + n61_39))) (World.drew w37) fun w42 =>
  World.cell? w42 (a27.add 6) = some (Value.int .i64 n68_41) ∧ sto (a13_4.add 6) (Value.int .i64 (IntKind.wrap .i64 (n66_40 + n68_41))) w42 fun w43 =>
  ldI .i64 (a13_4.add 7) (World.drew w43) fun n79_44 =>
  ldI .i64 (a27.add 7) (World.drew w43) fun n81_45 =>
  ldI .i64 (a13_4.add 8) (World.drew w43) fun n86_46 =>
  ldI .i64 (a27.add 8) (World.drew w43) fun n88_47 =>
  sto (a13_4.add 7) (Value.int .i64 (if n81_45 < n79_44 then n81_45 else n79_44)) (World.drew w43) fun w48 =>
  World.cell? w48 (a27.add 8) = some (Value.int .i64 n88_47) ∧ sto (a13_4.add 8) (Value.int .i64 (if n88_47 > n86_46 then n88_47 else n86_46)) w48 fun w49 =>
  ∃ n44_50 : Int, 0 ≤ (1 : Int) ∧ (1 : Int) < ((2 : Nat) : Int) ∧ #[(Value.int .i32 n41_12), (Value.int .i32 n41_13)][(Int.toNat (1 : Int)) * 1]? = some (Value.int .i32 n44_50) ∧
  bif (n44_50 != (-1 : Int)) then (
  pt pf_0 fun a48_51 =>
  ldS a48_51 w49 fun s50_52b s50_52l s50_52c =>
  ixS s50_52b s50_52l n44_50 9 fun a52_53 =>
  ldI .i32 a52_53 w49 fun n53_54 =>
  ldI .i32 (a52_53.add 1) w49 fun n53_55 =>
  ldI .i32 (a52_53.add 2) w49 fun n53_56 =>
  ldB (a52_53.add 3) w49 fun b53_57 =>
  ldI .i32 (a52_53.add 4) w49 fun n53_58 =>
  ldI .i64 (a52_53.add 5) w49 fun n53_59 =>
  ldI .i64 (a52_53.add 6) w49 fun n53_60 =>
  ldI .i64 (a52_53.add 7) w49 fun n53_61 =>
  ldI .i64 (a52_53.add 8) w49 fun n53_62 =>
  alo #[(Value.int .i32 (0 : Int)), (Value.int .i32 (0 : Int)), (Value.int .i32 (0 : Int)), (Value.bool false), (Value.int .i32 (0 : Int)), (Value.int .i64 (0 : Int)), (Value.int .i64 (0 : Int)), (Value.int .i64 (0 : Int)), (Value.int .i64 (0 : Int))] T_cut_node w49 fun a63 w64 =>
  sto a63 (Value.int .i32 n53_54) w64 fun w65 =>
  sto (a63.add 1) (Value.int .i32 n53_55) w65 fun w66 =>
  sto (a63.add 2) (Value.int .i32 n53_56) w66 fun w67 =>
  sto (a63.add 3) (Value.bool b53_57) w67 fun w68 =>
  sto (a63.add 4) (Value.int .i32 n53_58) w68 fun w69 =>
  sto (a63.add 5) (Value.int .i64 n53_59) w69 fun w70 =>
  sto (a63.add 6) (Value.int .i64 n53_60) w70 fun w71 =>
  sto (a63.add 7) (Value.int .i64 n53_61) w71 fun w72 =>
  sto (a63.add 8) (Value.int .i64 n53_62) w72 fun w73 =>
  ldI .i32 (a13_4.add 4) (World.drew w73) fun n59_74 =>
  ldI .i32 (a63.add 4) (World.drew w73) fun n61_75 =>
  ldI .i64 (a13_4.add 6) (World.drew w73) fun n66_76 =>
  ldI .i64 (a63.add 6) (World.drew w73) fun n68_77 =>
  sto (a13_4.add 4) (Value.int .i32 (IntKind.wrap .i32 (n59_74 + n61_75))) (World.drew w73) fun w78 =>
  World.cell? w78 (a63.add 6) = some (Value.int .i64 n68_77) ∧ sto (a13_4.add 6) (Value.int .i64 (IntKind.wrap .i64 (n66_76 + n68_77))) w78 fun w79 =>
  ldI .i64 (a13_4.add 7) (World.drew w79) fun n79_80 =>
  ldI .i64 (a63.add 7) (World.drew w79) fun n81_81 =>
  ldI .i64 (a13_4.add 8) (World.drew w79) fun n86_82 =>
  ldI .i64 (a63.add 8) (World.drew w79) fun n88_83 =>
  sto (a13_4.add 7) (Value.int .i64 (if n81_81 < n79_80 then n81_81 else n79_80)) (World.drew w79) fun w84 =>
  World.cell? w84 (a63.add 8) = some (Value.int .i64 n88_83) ∧ sto (a13_4.add 8) (Value.int .i64 (if n88_83 > n86_82 then n88_83 else n86_82)) w84 fun w85 =>
  R (Value.tuple #[]) w85) else (
  R (Value.tuple #[]) w49)) else (
  ∃ n44_86 : Int, 0 ≤ (1 : Int) ∧ (1 : Int) < ((2 : Nat) : Int) ∧ #[(Value.int .i32 n41_12), (Value.int .i32 n41_13)][(Int.toNat (1 : Int)) * 1]? = some (Value.int .i32 n44_86) ∧
  bif (n44_86 != (-1 : Int)) then (
  pt pf_0 fun a48_87 =>
  ldS a48_87 w11 fun s50_88b s50_88l s50_88c =>
  ixS s50_88b s50_88l n44_86 9 fun a52_89 =>
  ldI .i32 a52_89 w11 fun n53_90 =>
  ldI .i32 (a52_89.add 1) w11 fun n53_91 =>
  ldI .i32 (a52_89.add 2) w11 fun n53_92 =>
  ldB (a52_89.add 3) w11 fun b53_93 =>
  ldI .i32 (a52_89.add 4) w11 fun n53_94 =>
  ldI .i64 (a52_89.add 5) w11 fun n53_95 =>
  ldI .i64 (a52_89.add 6) w11 fun n53_96 =>
  ldI .i64 (a52_89.add 7) w11 fun n53_97 =>
  ldI .i64 (a52_89.add 8) w11 fun n53_98 =>
  alo #[(Value.int .i32 (0 : Int)), (Value.int .i32 (0 : Int)), (Value.int .i32 (0 : Int)), (Value.bool false), (Value.int .i32 (0 : Int)), (Value.int .i64 (0 : Int)), (Value.int .i64 (0 : Int)), (Value.int .i64 (0 : Int)), (Value.int .i64 (0 : Int))] T_cut_node w11 fun a99 w100 =>
  sto a99 (Value.int .i32 n53_90) w100 fun w101 =>
  sto (a99.add 1) (Value.int .i32 n53_91) w101 fun w102 =>
  sto (a99.add 2) (Value.int .i32 n53_92) w102 fun w103 =>
  sto (a99.add 3) (Value.bool b53_93) w103 fun w104 =>
  sto (a99.add 4) (Value.int .i32 n53_94) w104 fun w105 =>
  sto (a99.add 5) (Value.int .i64 n53_95) w105 fun w106 =>
  sto (a99.add 6) (Value.int .i64 n53_96) w106 fun w107 =>
  sto (a99.add 7) (Value.int .i64 n53_97) w107 fun w108 =>
  sto (a99.add 8) (Value.int .i64 n53_98) w108 fun w109 =>
  ldI .i32 (a13_4.add 4) (World.drew w109) fun n59_110 =>
  ldI .i32 (a99.add 4) (World.drew w109) fun n61_111 =>
  ldI .i64 (a13_4.add 6) (World.drew w109) fun n66_112 =>
  ldI .i64 (a99.add 6) (World.drew w109) fun n68_113 =>
  sto (a13_4.add 4) (Value.int .i32 (IntKind.wrap .i32 (n59_110 + n61_111))) (World.drew w109) fun w114 =>
  World.cell? w114 (a99.add 6) = some (Value.int .i64 n68_113) ∧ sto (a13_4.add 6) (Value.int .i64 (IntKind.wrap .i64 (n66_112 + n68_113))) w114 fun w115 =>
  ldI .i64 (a13_4.add 7) (World.drew w115) fun n79_116 =>
  ldI .i64 (a99.add 7) (World.drew w115) fun n81_117 =>
  ldI .i64 (a13_4.add 8) (World.drew w115) fun n86_118 =>
  ldI .i64 (a99.add 8) (World.drew w115) fun n88_119 =>
  sto (a13_4.add 7) (Value.int .i64 (if n81_117 < n79_116 then n81_117 else n79_116)) (World.drew w115) fun w120 =>
  World.cell? w120 (a99.add 8) = some (Value.int .i64 n88_119) ∧ sto (a13_4.add 8) (Value.int .i64 (if n88_119 > n86_118 then n88_119 else n86_118)) w120 fun w121 =>
  R (Value.tuple #[]) w121) else (
  R (Value.tuple #[]) w11))
theorem eq_cut_Forest_pull (pf_0 : Option Addr) (nx_1 : Int) (w : World) (R : Value → World → Prop) : sh_cut_Forest_pull pf_0 nx_1 w R = denF Pg Eall Tryd.f116 (.seq (.leaf) (.seq (.reg (.tk 0 [] [] (.tk 1 [] [] (.tk 2 [] [] (.tk 3 [] [] (.tk 4 [] [] (.tk 5 [] [] (.tk 6 [] [] (.tk 7 [16, 17, 18, 19, 20, 21, 22, 23, 24, 25, 26, 27] [18, 21, 24, 27] (.tk 8 [] [] (.tk 9 [] [] (.tk 10 [] [] (.tk 11 [16, 17, 18, 19, 20, 21, 22, 23, 24, 25, 26, 27] [18, 21, 24, 27] (.tk 12 [] [] (.tk 13 [] [] (.tk 14 [] [] (.tk 15 [16, 17, 18, 19, 20, 21, 22, 23, 24, 25, 26, 27] [18, 21, 24, 27] (.tk 16 [] [] (.tk 17 [] [] (.one 18 (.tk 19 [] [] (.tk 20 [] [] (.one 21 (.tk 22 [] [] (.tk 23 [] [] (.one 24 (.tk 25 [] [] (.tk 26 [] [] (.one 27 (.fin)))))))))))))))))))))))))))))) (.seq (.leaf) (.block (.unr 3 (.seq (.leaf) (.seq (.cond (.leaf) (.leaf)) (.seq (.block (.seq (.leaf) (.seq (.leaf) (.cond (.seq (.leaf) (.seq (.reg (.tk 0 [] [] (.tk 1 [] [] (.tk 2 [] [] (.tk 3 [] [] (.tk 4 [] [] (.tk 5 [8, 16, 17, 18, 19, 20, 21] [18, 21] (.tk 6 [] [] (.tk 7 [8, 16, 17, 18, 19, 20, 21] [18, 21] (.tk 8 [] [] (.tk 9 [] [] (.tk 10 [] [] (.tk 11 [] [] (.tk 12 [15, 16, 17, 18, 19, 20, 21] [18, 21] (.tk 13 [] [] (.tk 14 [15, 19, 20, 21] [21] (.tk 15 [] [] (.tk 16 [] [] (.tk 17 [] [] (.one 18 (.tk 19 [] [] (.tk 20 [] [] (.one 21 (.fin)))))))))))))))))))))))) (.reg (.tk 0 [] [] (.tk 1 [] [] (.tk 2 [] [] (.tk 3 [] [] (.tk 4 [] [] (.tk 5 [8, 16, 17, 18, 19, 20, 21] [18, 21] (.tk 6 [] [] (.tk 7 [8, 16, 17, 18, 19, 20, 21] [18, 21] (.tk 8 [] [] (.tk 9 [] [] (.tk 10 [] [] (.tk 11 [] [] (.tk 12 [15, 16, 17, 18, 19, 20, 21] [18, 21] (.tk 13 [] [] (.tk 14 [15, 19, 20, 21] [21] (.tk 15 [] [] (.tk 16 [] [] (.tk 17 [] [] (.one 18 (.tk 19 [] [] (.tk 20 [] [] (.one 21 (.fin)))))))))))))))))))))))))) (.leaf))))) (.leaf))))))))) [(Value.pointer pf_0), (Value.int .i32 nx_1)] w R := by kernel_rfl
theorem calls_cut_Forest_pull (pf_0 : Option Addr) (nx_1 : Int) (w : World) (R : Value → World → Prop) (h : sh_cut_Forest_pull pf_0 nx_1 w R) : Calls Pg fn_cut_Forest_pull #[(Value.pointer pf_0), (Value.int .i32 nx_1)] w fun e w' => ∃ v, e = .returned v ∧ R v w' :=
  calls_of_den Eall_enter wide_mixed Tryd.func116 (by rw [← eq_cut_Forest_pull]; exact h)

/-- '(*plait/cut.Forest).first' -/
def sh_cut_Forest_first (pf_0 : Option Addr) (nx_1 : Int) (nv_2 : Int) (fhas_3 : Value) (w : World) (R : Value → World → Prop) : Prop :=
  ∃ (I4 : List Value → World → Prop) (m5 : List Value → World → Nat), I4 [(Value.int .i32 nx_1)] w ∧
  ∀ _ : Env, ∀ n6 : Int, ∀ w7 : World, I4 [(Value.int .i32 n6)] w7 →
  Calls Pg fn_cut_Forest_push #[(Value.pointer pf_0), (Value.int .i32 n6)] w7 fun e9 w8 => e9 = .returned (Value.tuple #[]) ∧
  pt pf_0 fun a15_10 =>
  ldS a15_10 w8 fun s17_11b s17_11l s17_11c =>
  ixS s17_11b s17_11l n6 9 fun a19_12 =>
  ldI .i32 a19_12 w8 fun n20_13 =>
  ldI .i32 (a19_12.add 1) w8 fun n20_14 =>
  ldI .i32 (a19_12.add 2) w8 fun n20_15 =>
  ldB (a19_12.add 3) w8 fun b20_16 =>
  ldI .i32 (a19_12.add 4) w8 fun n20_17 =>
  ldI .i64 (a19_12.add 5) w8 fun n20_18 =>
  ldI .i64 (a19_12.add 6) w8 fun n20_19 =>
  ldI .i64 (a19_12.add 7) w8 fun n20_20 =>
  ldI .i64 (a19_12.add 8) w8 fun n20_21 =>
  alo #[(Value.int .i32 (0 : Int)), (Value.int .i32 (0 : Int)), (Value.int .i32 (0 : Int)), (Value.bool false), (Value.int .i32 (0 : Int)), (Value.int .i64 (0 : Int)), (Value.int .i64 (0 : Int)), (Value.int .i64 (0 : Int)), (Value.int .i64 (0 : Int))] T_cut_node w8 fun a22 w23 =>
  sto a22 (Value.int .i32 n20_13) w23 fun w24 =>
  sto (a22.add 1) (Value.int .i32 n20_14) w24 fun w25 =>
  sto (a22.add 2) (Value.int .i32 n20_15) w25 fun w26 =>
  sto (a22.add 3) (Value.bool b20_16) w26 fun w27 =>
  sto (a22.add 4) (Value.int .i32 n20_17) w27 fun w28 =>
  sto (a22.add 5) (Value.int .i64 n20_18) w28 fun w29 =>
  sto (a22.add 6) (Value.int .i64 n20_19) w29 fun w30 =>
  sto (a22.add 7) (Value.int .i64 n20_20) w30 fun w31 =>
  sto (a22.add 8) (Value.int .i64 n20_21) w31 fun w32 =>
  ixA (a22.add 1) 2 (0 : Int) 1 fun a22_33 =>
  ldI .i32 a22_33 w32 fun n23_34 =>
  bif (n23_34 != (-1 : Int)) then (
  pt pf_0 fun a33_35 =>
  ldS a33_35 w32 fun s35_36b s35_36l s35_36c =>
  ixS s35_36b s35_36l n23_34 9 fun a37_37 =>
  ldI .i32 a37_37 w32 fun n38_38 =>
  ldI .i32 (a37_37.add 1) w32 fun n38_39 =>
  ldI .i32 (a37_37.add 2) w32 fun n38_40 =>
  ldB (a37_37.add 3) w32 fun b38_41 =>
  ldI .i32 (a37_37.add 4) w32 fun n38_42 =>
  ldI .i64 (a37_37.add 5) w32 fun n38_43 =>
  ldI .i64 (a37_37.add 6) w32 fun n38_44 =>
  ldI .i64 (a37_37.add 7) w32 fun n38_45 =>
  ldI .i64 (a37_37.add 8) w32 fun n38_46 =>
  dcv Pg Eall fhas_3 [(Value.agg #[(Value.int .i32 n38_38), (Value.int .i32 n38_39), (Value.int .i32 n38_40), (Value.bool b38_41), (Value.int .i32 n38_42), (Value.int .i64 n38_43), (Value.int .i64 n38_44), (Value.int .i64 n38_45), (Value.int .i64 n38_46)])] w32 fun e49 w48 => ∃ b39_47 : Bool, e49 = .returned (Value.bool b39_47) ∧
  bif b39_47 then (
  (I4 [(Value.int .i32 n23_34)] w48 ∧ m5 [(Value.int .i32 n23_34)] w48 < m5 [(Value.int .i32 n6)] w7)) else (
  ldI .i64 (a22.add 5) w48 fun n44_50 =>
  bif (n44_50 == nv_2) then (
  Calls Pg fn_cut_Forest_lift #[(Value.pointer pf_0), (Value.int .i32 n6)] w48 fun e52 w51 => e52 = .returned (Value.tuple #[]) ∧
  R (Value.int .i64 (IntKind.wrap .i64 n6)) w51) else (
  ixA (a22.add 1) 2 (1 : Int) 1 fun a25_53 =>
  ldI .i32 a25_53 w48 fun n26_54 =>
  (I4 [(Value.int .i32 n26_54)] w48 ∧ m5 [(Value.int .i32 n26_54)] w48 < m5 [(Value.int .i32 n6)] w7)))) else (
  ldI .i64 (a22.add 5) w32 fun n44_55 =>
  bif (n44_55 == nv_2) then (
  Calls Pg fn_cut_Forest_lift #[(Value.pointer pf_0), (Value.int .i32 n6)] w32 fun e57 w56 => e57 = .returned (Value.tuple #[]) ∧
  R (Value.int .i64 (IntKind.wrap .i64 n6)) w56) else (
  ixA (a22.add 1) 2 (1 : Int) 1 fun a25_58 =>
  ldI .i32 a25_58 w32 fun n26_59 =>
  (I4 [(Value.int .i32 n26_59)] w32 ∧ m5 [(Value.int .i32 n26_59)] w32 < m5 [(Value.int .i32 n6)] w7)))
theorem eq_cut_Forest_first (pf_0 : Option Addr) (nx_1 : Int) (nv_2 : Int) (fhas_3 : Value) (w : World) (R : Value → World → Prop) : sh_cut_Forest_first pf_0 nx_1 nv_2 fhas_3 w R = denF Pg Eall Tryd.f117 (.seq (.leaf) (.block (.loop [1] [.one (.int .i32)] (.block (.seq (.leaf) (.seq (.leaf) (.seq (.leaf) (.block (.seq (.leaf) (.cond (.leaf) (.seq (.leaf) (.cond (.seq (.leaf) (.seq (.leaf) (.leaf))) (.leaf))))))))))))) [(Value.pointer pf_0), (Value.int .i32 nx_1), (Value.int .i64 nv_2), fhas_3] w R := by kernel_rfl
theorem calls_cut_Forest_first (pf_0 : Option Addr) (nx_1 : Int) (nv_2 : Int) (fhas_3 : Value) (w : World) (R : Value → World → Prop) (h : sh_cut_Forest_first pf_0 nx_1 nv_2 fhas_3 w R) : Calls Pg fn_cut_Forest_first #[(Value.pointer pf_0), (Value.int .i32 nx_1), (Value.int .i64 nv_2), fhas_3] w fun e w' => ∃ v, e = .returned v ∧ R v w' :=
  calls_of_den Eall_enter wide_mixed Tryd.func117 (by rw [← eq_cut_Forest_first]; exact h)

/-- '(*plait/cut.Forest).Least$1' -/
def sh_cut_Forest_Least_1 (nm_0 : Int) (nm_1 : Int) (nm_2 : Int) (bm_3 : Bool) (nm_4 : Int) (nm_5 : Int) (nm_6 : Int) (nm_7 : Int) (nm_8 : Int) (q9 : Option Addr) (w : World) (R : Value → World → Prop) : Prop :=
  alo #[(Value.int .i32 nm_0), (Value.int .i32 nm_1), (Value.int .i32 nm_2), (Value.bool bm_3), (Value.int .i32 nm_4), (Value.int .i64 nm_5), (Value.int .i64 nm_6), (Value.int .i64 nm_7), (Value.int .i64 nm_8)] T_cut_node w fun a10 w11 =>
  ldI .i64 (a10.add 7) w11 fun n5_12 =>
  pt q9 fun a13 =>
  ldI .i64 a13 w11 fun n6_14 =>
  R (Value.bool (n5_12 == n6_14)) w11
theorem eq_cut_Forest_Least_1 (nm_0 : Int) (nm_1 : Int) (nm_2 : Int) (bm_3 : Bool) (nm_4 : Int) (nm_5 : Int) (nm_6 : Int) (nm_7 : Int) (nm_8 : Int) (q9 : Option Addr) (w : World) (R : Value → World → Prop) : sh_cut_Forest_Least_1 nm_0 nm_1 nm_2 bm_3 nm_4 nm_5 nm_6 nm_7 nm_8 q9 w R = denF Pg Eall Tryd.f118 (.seq (.leaf) (.seq (.leaf) (.leaf))) [(Value.agg #[(Value.int .i32 nm_0), (Value.int .i32 nm_1), (Value.int .i32 nm_2), (Value.bool bm_3), (Value.int .i32 nm_4), (Value.int .i64 nm_5), (Value.int .i64 nm_6), (Value.int .i64 nm_7), (Value.int .i64 nm_8)]), (Value.pointer q9)] w R := by kernel_rfl
theorem calls_cut_Forest_Least_1 (nm_0 : Int) (nm_1 : Int) (nm_2 : Int) (bm_3 : Bool) (nm_4 : Int) (nm_5 : Int) (nm_6 : Int) (nm_7 : Int) (nm_8 : Int) (q9 : Option Addr) (w : World) (R : Value → World → Prop) (h : sh_cut_Forest_Least_1 nm_0 nm_1 nm_2 bm_3 nm_4 nm_5 nm_6 nm_7 nm_8 q9 w R) : Calls Pg fn_cut_Forest_Least_1 #[(Value.agg #[(Value.int .i32 nm_0), (Value.int .i32 nm_1), (Value.int .i32 nm_2), (Value.bool bm_3), (Value.int .i32 nm_4), (Value.int .i64 nm_5), (Value.int .i64 nm_6), (Value.int .i64 nm_7), (Value.int .i64 nm_8)]), (Value.pointer q9)] w fun e w' => ∃ v, e = .returned v ∧ R v w' :=
  calls_of_den Eall_enter wide_mixed Tryd.func118 (by rw [← eq_cut_Forest_Least_1]; exact h)

/-- '(*plait/cut.Forest).access' -/
def sh_cut_Forest_access (pf_0 : Option Addr) (nx_1 : Int) (w : World) (R : Value → World → Prop) : Prop :=
  ∃ (I2 : List Value → World → Prop) (m3 : List Value → World → Nat), I2 [(Value.int .i32 (-1 : Int)), (Value.int .i32 nx_1)] w ∧
  ∀ _ : Env, ∀ n4 : Int, ∀ n5 : Int, ∀ w6 : World, I2 [(Value.int .i32 n4), (Value.int .i32 n5)] w6 →
  bif (n5 != (-1 : Int)) then (
  Calls Pg fn_cut_Forest_lift #[(Value.pointer pf_0), (Value.int .i32 n5)] w6 fun e8 w7 => e8 = .returned (Value.tuple #[]) ∧
  pt pf_0 fun a21_9 =>
  ldS a21_9 w7 fun s23_10b s23_10l s23_10c =>
  ixS s23_10b s23_10l n5 9 fun a26_11 =>
  ixA (a26_11.add 1) 2 (1 : Int) 1 fun a28_12 =>
  sto a28_12 (Value.int .i32 n4) w7 fun w13 =>
  Calls Pg fn_cut_Forest_pull #[(Value.pointer pf_0), (Value.int .i32 n5)] w13 fun e15 w14 => e15 = .returned (Value.tuple #[]) ∧
  pt pf_0 fun a10_16 =>
  ldS a10_16 w14 fun s12_17b s12_17l s12_17c =>
  ixS s12_17b s12_17l n5 9 fun a14_18 =>
  ldI .i32 a14_18 w14 fun n16_19 =>
  (I2 [(Value.int .i32 n5), (Value.int .i32 n16_19)] w14 ∧ m3 [(Value.int .i32 n5), (Value.int .i32 n16_19)] w14 < m3 [(Value.int .i32 n4), (Value.int .i32 n5)] w6)) else (
  Calls Pg fn_cut_Forest_lift #[(Value.pointer pf_0), (Value.int .i32 nx_1)] w6 fun e21 w20 => e21 = .returned (Value.tuple #[]) ∧
  R (Value.tuple #[]) w20)
theorem eq_cut_Forest_access (pf_0 : Option Addr) (nx_1 : Int) (w : World) (R : Value → World → Prop) : sh_cut_Forest_access pf_0 nx_1 w R = denF Pg Eall Tryd.f119 (.seq (.leaf) (.seq (.seq (.leaf) (.block (.loop [4, 5] [.one (.int .i32), .one (.int .i32)] (.seq (.seq (.leaf) (.cond (.leaf) (.leaf))) (.seq (.block (.seq (.leaf) (.seq (.leaf) (.seq (.leaf) (.leaf))))) (.leaf)))))) (.leaf))) [(Value.pointer pf_0), (Value.int .i32 nx_1)] w R := by kernel_rfl
theorem calls_cut_Forest_access (pf_0 : Option Addr) (nx_1 : Int) (w : World) (R : Value → World → Prop) (h : sh_cut_Forest_access pf_0 nx_1 w R) : Calls Pg fn_cut_Forest_access #[(Value.pointer pf_0), (Value.int .i32 nx_1)] w fun e w' => ∃ v, e = .returned v ∧ R v w' :=
  calls_of_den Eall_enter wide_mixed Tryd.func119 (by rw [← eq_cut_Forest_access]; exact h)

/-- '(*plait/cut.Forest).Most$1' -/
def sh_cut_Forest_Most_1 (nm_0 : Int) (nm_1 : Int) (nm_2 : Int) (bm_3 : Bool) (nm_4 : Int) (nm_5 : Int) (nm_6 : Int) (nm_7 : Int) (nm_8 : Int) (q9 : Option Addr) (w : World) (R : Value → World → Prop) : Prop :=
  alo #[(Value.int .i32 nm_0), (Value.int .i32 nm_1), (Value.int .i32 nm_2), (Value.bool bm_3), (Value.int .i32 nm_4), (Value.int .i64 nm_5), (Value.int .i64 nm_6), (Value.int .i64 nm_7), (Value.int .i64 nm_8)] T_cut_node w fun a10 w11 =>
  ldI .i64 (a10.add 8) w11 fun n5_12 =>
  pt q9 fun a13 =>
  ldI .i64 a13 w11 fun n6_14 =>
  R (Value.bool (n5_12 == n6_14)) w11
theorem eq_cut_Forest_Most_1 (nm_0 : Int) (nm_1 : Int) (nm_2 : Int) (bm_3 : Bool) (nm_4 : Int) (nm_5 : Int) (nm_6 : Int) (nm_7 : Int) (nm_8 : Int) (q9 : Option Addr) (w : World) (R : Value → World → Prop) : sh_cut_Forest_Most_1 nm_0 nm_1 nm_2 bm_3 nm_4 nm_5 nm_6 nm_7 nm_8 q9 w R = denF Pg Eall Tryd.f120 (.seq (.leaf) (.seq (.leaf) (.leaf))) [(Value.agg #[(Value.int .i32 nm_0), (Value.int .i32 nm_1), (Value.int .i32 nm_2), (Value.bool bm_3), (Value.int .i32 nm_4), (Value.int .i64 nm_5), (Value.int .i64 nm_6), (Value.int .i64 nm_7), (Value.int .i64 nm_8)]), (Value.pointer q9)] w R := by kernel_rfl
theorem calls_cut_Forest_Most_1 (nm_0 : Int) (nm_1 : Int) (nm_2 : Int) (bm_3 : Bool) (nm_4 : Int) (nm_5 : Int) (nm_6 : Int) (nm_7 : Int) (nm_8 : Int) (q9 : Option Addr) (w : World) (R : Value → World → Prop) (h : sh_cut_Forest_Most_1 nm_0 nm_1 nm_2 bm_3 nm_4 nm_5 nm_6 nm_7 nm_8 q9 w R) : Calls Pg fn_cut_Forest_Most_1 #[(Value.agg #[(Value.int .i32 nm_0), (Value.int .i32 nm_1), (Value.int .i32 nm_2), (Value.bool bm_3), (Value.int .i32 nm_4), (Value.int .i64 nm_5), (Value.int .i64 nm_6), (Value.int .i64 nm_7), (Value.int .i64 nm_8)]), (Value.pointer q9)] w fun e w' => ∃ v, e = .returned v ∧ R v w' :=
  calls_of_den Eall_enter wide_mixed Tryd.func120 (by rw [← eq_cut_Forest_Most_1]; exact h)

/-- '(*plait/cut.Forest).top' -/
def sh_cut_Forest_top (pf_0 : Option Addr) (nx_1 : Int) (w : World) (R : Value → World → Prop) : Prop :=
  pt pf_0 fun a7_2 =>
  ldS a7_2 w fun s9_3b s9_3l s9_3c =>
  ixS s9_3b s9_3l nx_1 9 fun a11_4 =>
  ldI .i32 a11_4 w fun n13_5 =>
  bif (n13_5 == (-1 : Int)) then (
  R (Value.bool true) w) else (
  pt pf_0 fun a18_6 =>
  ldS a18_6 w fun s20_7b s20_7l s20_7c =>
  ixS s20_7b s20_7l n13_5 9 fun a22_8 =>
  ixA (a22_8.add 1) 2 (0 : Int) 1 fun a24_9 =>
  ldI .i32 a24_9 w fun n25_10 =>
  bif (n25_10 != nx_1) then (
  pt pf_0 fun a30_11 =>
  ldS a30_11 w fun s32_12b s32_12l s32_12c =>
  ixS s32_12b s32_12l n13_5 9 fun a34_13 =>
  ixA (a34_13.add 1) 2 (1 : Int) 1 fun a36_14 =>
  ldI .i32 a36_14 w fun n37_15 =>
  R (Value.bool (n37_15 != nx_1)) w) else (
  R (Value.bool false) w))
theorem eq_cut_Forest_top (pf_0 : Option Addr) (nx_1 : Int) (w : World) (R : Value → World → Prop) : sh_cut_Forest_top pf_0 nx_1 w R = denF Pg Eall Tryd.f141 (.seq (.leaf) (.seq (.leaf) (.seq (.leaf) (.leaf)))) [(Value.pointer pf_0), (Value.int .i32 nx_1)] w R := by kernel_rfl
theorem calls_cut_Forest_top (pf_0 : Option Addr) (nx_1 : Int) (w : World) (R : Value → World → Prop) (h : sh_cut_Forest_top pf_0 nx_1 w R) : Calls Pg fn_cut_Forest_top #[(Value.pointer pf_0), (Value.int .i32 nx_1)] w fun e w' => ∃ v, e = .returned v ∧ R v w' :=
  calls_of_den Eall_enter wide_mixed Tryd.func141 (by rw [← eq_cut_Forest_top]; exact h)

/-- '(*plait/cut.Forest).side' -/
def sh_cut_Forest_side (pf_0 : Option Addr) (nx_1 : Int) (w : World) (R : Value → World → Prop) : Prop :=
  pt pf_0 fun a6_2 =>
  ldS a6_2 (World.drew w) fun s8_3b s8_3l s8_3c =>
  pt pf_0 fun a10_4 =>
  ldS a10_4 (World.drew w) fun s12_5b s12_5l s12_5c =>
  ixS s12_5b s12_5l nx_1 9 fun a14_6 =>
  ldI .i32 a14_6 (World.drew w) fun n16_7 =>
  ixS s8_3b s8_3l n16_7 9 fun a17_8 =>
  ixA (a17_8.add 1) 2 (1 : Int) 1 fun a19_9 =>
  ldI .i32 a19_9 (World.drew w) fun n20_10 =>
  bif (n20_10 == nx_1) then (
  R (Value.int .i64 (1 : Int)) (World.drew w)) else (
  R (Value.int .i64 (0 : Int)) (World.drew w))
theorem eq_cut_Forest_side (pf_0 : Option Addr) (nx_1 : Int) (w : World) (R : Value → World → Prop) : sh_cut_Forest_side pf_0 nx_1 w R = denF Pg Eall Tryd.f143 (.seq (.leaf) (.seq (.seq (.reg (.tk 0 [] [] (.tk 1 [] [] (.tk 2 [] [] (.tk 3 [] [] (.tk 4 [] [] (.tk 5 [] [] (.tk 6 [] [] (.tk 7 [] [] (.tk 8 [] [] (.tk 9 [] [] (.tk 10 [] [] (.tk 11 [] [] (.tk 12 [] [] (.tk 13 [] [] (.tk 14 [] [] (.tk 15 [] [] (.tk 16 [] [] (.tk 17 [] [] (.fin)))))))))))))))))))) (.cond (.seq (.leaf) (.leaf)) (.leaf))) (.seq (.leaf) (.leaf)))) [(Value.pointer pf_0), (Value.int .i32 nx_1)] w R := by kernel_rfl
theorem calls_cut_Forest_side (pf_0 : Option Addr) (nx_1 : Int) (w : World) (R : Value → World → Prop) (h : sh_cut_Forest_side pf_0 nx_1 w R) : Calls Pg fn_cut_Forest_side #[(Value.pointer pf_0), (Value.int .i32 nx_1)] w fun e w' => ∃ v, e = .returned v ∧ R v w' :=
  calls_of_den Eall_enter wide_mixed Tryd.func143 (by rw [← eq_cut_Forest_side]; exact h)

/-- '(*plait/cut.Forest).rotate' -/
def sh_cut_Forest_rotate (pf_0 : Option Addr) (nx_1 : Int) (w : World) (R : Value → World → Prop) : Prop :=
  pt pf_0 fun a9_2 =>
  ldS a9_2 w fun s11_3b s11_3l s11_3c =>
  ixS s11_3b s11_3l nx_1 9 fun a13_4 =>
  ldI .i32 a13_4 w fun n15_5 =>
  pt pf_0 fun a17_6 =>
  ldS a17_6 w fun s19_7b s19_7l s19_7c =>
  ixS s19_7b s19_7l n15_5 9 fun a21_8 =>
  ldI .i32 a21_8 w fun n23_9 =>
  Calls Pg fn_cut_Forest_side #[(Value.pointer pf_0), (Value.int .i32 nx_1)] w fun e12 w11 => ∃ n26_10 : Int, e12 = .returned (Value.int .i64 n26_10) ∧
  ∃ J13 : List Value → World → Prop, (
  Calls Pg fn_cut_Forest_top #[(Value.pointer pf_0), (Value.int .i32 n15_5)] w11 fun e16 w15 => ∃ b29_14 : Bool, e16 = .returned (Value.bool b29_14) ∧
  bif (!b29_14) then (
  pt pf_0 fun a32_17 =>
  ldS a32_17 (World.drew w15) fun s34_18b s34_18l s34_18c =>
  ixS s34_18b s34_18l n23_9 9 fun a40_19 =>
  Calls Pg fn_cut_Forest_side #[(Value.pointer pf_0), (Value.int .i32 n15_5)] (World.drew w15) fun e22 w21 => ∃ n38_20 : Int, e22 = .returned (Value.int .i64 n38_20) ∧
  World.cell? w21 a32_17 = some (Value.slice s34_18b s34_18l s34_18c) ∧ ixA (a40_19.add 1) 2 n38_20 1 fun a42_23 =>
  sto a42_23 (Value.int .i32 nx_1) w21 fun w24 =>
  J13 [] w24) else (
  J13 [] w15)) ∧ ∀ _ : Env, ∀ w25 : World, J13 [] w25 →
  pt pf_0 fun a44_26 =>
  ldS a44_26 w25 fun s46_27b s46_27l s46_27c =>
  ixS s46_27b s46_27l nx_1 9 fun a50_28 =>
  ixA (a50_28.add 1) 2 (IntKind.wrap .i64 ((1 : Int) - n26_10)) 1 fun a52_29 =>
  ldI .i32 a52_29 w25 fun n53_30 =>
  pt pf_0 fun a55_31 =>
  ldS a55_31 w25 fun s57_32b s57_32l s57_32c =>
  ixS s57_32b s57_32l n15_5 9 fun a61_33 =>
  ixA (a61_33.add 1) 2 n26_10 1 fun a63_34 =>
  sto a63_34 (Value.int .i32 n53_30) w25 fun w35 =>
  bif (n53_30 != (-1 : Int)) then (
  pt pf_0 fun a67_36 =>
  ldS a67_36 w35 fun s69_37b s69_37l s69_37c =>
  ixS s69_37b s69_37l n53_30 9 fun a72_38 =>
  sto a72_38 (Value.int .i32 n15_5) w35 fun w39 =>
  pt pf_0 fun a75_40 =>
  ldS a75_40 w39 fun s77_41b s77_41l s77_41c =>
  ixS s77_41b s77_41l nx_1 9 fun a82_42 =>
  ixA (a82_42.add 1) 2 (IntKind.wrap .i64 ((1 : Int) - n26_10)) 1 fun a84_43 =>
  sto a84_43 (Value.int .i32 n15_5) w39 fun w44 =>
  pt pf_0 fun a86_45 =>
  ldS a86_45 (World.drew w44) fun s88_46b s88_46l s88_46c =>
  pt pf_0 fun a91_47 =>
  ldS a91_47 (World.drew w44) fun s93_48b s93_48l s93_48c =>
  ixS s88_46b s88_46l n15_5 9 fun a97_49 =>
  sto a97_49 (Value.int .i32 nx_1) (World.drew w44) fun w50 =>
  ixS s93_48b s93_48l nx_1 9 fun a99_51 =>
  sto a99_51 (Value.int .i32 n23_9) w50 fun w52 =>
  Calls Pg fn_cut_Forest_pull #[(Value.pointer pf_0), (Value.int .i32 n15_5)] w52 fun e54 w53 => e54 = .returned (Value.tuple #[]) ∧
  Calls Pg fn_cut_Forest_pull #[(Value.pointer pf_0), (Value.int .i32 nx_1)] w53 fun e56 w55 => e56 = .returned (Value.tuple #[]) ∧
  R (Value.tuple #[]) w55) else (
  pt pf_0 fun a75_57 =>
  ldS a75_57 w35 fun s77_58b s77_58l s77_58c =>
  ixS s77_58b s77_58l nx_1 9 fun a82_59 =>
  ixA (a82_59.add 1) 2 (IntKind.wrap .i64 ((1 : Int) - n26_10)) 1 fun a84_60 =>
  sto a84_60 (Value.int .i32 n15_5) w35 fun w61 =>
  pt pf_0 fun a86_62 =>
  ldS a86_62 (World.drew w61) fun s88_63b s88_63l s88_63c =>
  pt pf_0 fun a91_64 =>
  ldS a91_64 (World.drew w61) fun s93_65b s93_65l s93_65c =>
  ixS s88_63b s88_63l n15_5 9 fun a97_66 =>
  sto a97_66 (Value.int .i32 nx_1) (World.drew w61) fun w67 =>
  ixS s93_65b s93_65l nx_1 9 fun a99_68 =>
  sto a99_68 (Value.int .i32 n23_9) w67 fun w69 =>
  Calls Pg fn_cut_Forest_pull #[(Value.pointer pf_0), (Value.int .i32 n15_5)] w69 fun e71 w70 => e71 = .returned (Value.tuple #[]) ∧
  Calls Pg fn_cut_Forest_pull #[(Value.pointer pf_0), (Value.int .i32 nx_1)] w70 fun e73 w72 => e73 = .returned (Value.tuple #[]) ∧
  R (Value.tuple #[]) w72)
theorem eq_cut_Forest_rotate (pf_0 : Option Addr) (nx_1 : Int) (w : World) (R : Value → World → Prop) : sh_cut_Forest_rotate pf_0 nx_1 w R = denF Pg Eall Tryd.f144 (.seq (.leaf) (.seq (.leaf) (.seq (.leaf) (.join [] [] (.seq (.leaf) (.cond (.reg (.tk 0 [] [] (.tk 1 [] [] (.tk 2 [] [] (.tk 3 [9, 10, 11, 12] [12] (.tk 4 [] [] (.tk 5 [] [] (.tk 6 [] [] (.tk 8 [] [] (.tk 9 [] [] (.tk 10 [] [] (.one 7 (.tk 11 [] [] (.one 12 (.fin))))))))))))))) (.leaf))) (.seq (.leaf) (.seq (.leaf) (.seq (.seq (.leaf) (.cond (.leaf) (.leaf))) (.seq (.leaf) (.seq (.reg (.tk 0 [] [] (.tk 1 [] [] (.tk 2 [] [] (.tk 3 [12, 13, 14, 15, 16, 17] [14, 17] (.tk 4 [] [] (.tk 5 [] [] (.tk 6 [] [] (.tk 7 [] [] (.tk 8 [12, 13, 14, 15, 16, 17] [14, 17] (.tk 9 [] [] (.tk 10 [] [] (.tk 11 [] [] (.tk 12 [] [] (.tk 13 [] [] (.one 14 (.tk 15 [] [] (.tk 16 [] [] (.one 17 (.fin)))))))))))))))))))) (.seq (.leaf) (.leaf))))))))))) [(Value.pointer pf_0), (Value.int .i32 nx_1)] w R := by kernel_rfl
theorem calls_cut_Forest_rotate (pf_0 : Option Addr) (nx_1 : Int) (w : World) (R : Value → World → Prop) (h : sh_cut_Forest_rotate pf_0 nx_1 w R) : Calls Pg fn_cut_Forest_rotate #[(Value.pointer pf_0), (Value.int .i32 nx_1)] w fun e w' => ∃ v, e = .returned v ∧ R v w' :=
  calls_of_den Eall_enter wide_mixed Tryd.func144 (by rw [← eq_cut_Forest_rotate]; exact h)

end Go.Proofs.YtledchlbmilneaaDoor
