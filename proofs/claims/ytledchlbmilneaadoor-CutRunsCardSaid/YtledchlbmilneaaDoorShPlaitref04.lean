/-
What each function does, as one formula, printed by a program of this session out of the translation; the kernel holds each print against the translation.
Conditions: none.
-/
import Derived.Test.YtledchlbmilneaaDoorSn
namespace Go.Proofs.YtledchlbmilneaaDoor
open Go
set_option linter.unusedVariables false
set_option maxRecDepth 100000
/-- 'plait/plaitref04.New' -/
def sh_plaitref04_New (nn_0 : Int) (w : World) (R : Value → World → Prop) : Prop :=
  ∃ (I1 : List Value → World → Prop) (m2 : List Value → World → Nat), I1 [(Value.slice none 0 0), (Value.int .i64 (0 : Int))] w ∧
  ∀ _ : Env, ∀ s3b : Option Addr, ∀ s3l : Nat, ∀ s3c : Nat, ∀ n4 : Int, ∀ w5 : World, I1 [(Value.slice s3b s3l s3c), (Value.int .i64 n4)] w5 →
  bif (decide (n4 < nn_0)) then (
  alo #[(Value.int .i64 n4)] T_int w5 fun a6 w7 =>
  alo #[(Value.slice (some a6) 1 1)] T_sl_int w7 fun a8 w9 =>
  ∃ s14_10b : Option Addr, ∃ s14_10l : Nat, ∃ s14_10c : Nat, ∃ w11 : World, (Builtin.append_ #[T_sl_sl_int, T_sl_sl_int] T_sl_sl_int #[(Value.slice s3b s3l s3c), (Value.slice (some a8) 1 1)]).run Pg w9 = .ok (Value.slice s14_10b s14_10l s14_10c) w11 ∧
  (I1 [(Value.slice s14_10b s14_10l s14_10c), (Value.int .i64 (IntKind.wrap .i64 (n4 + (1 : Int))))] w11 ∧ m2 [(Value.slice s14_10b s14_10l s14_10c), (Value.int .i64 (IntKind.wrap .i64 (n4 + (1 : Int))))] w11 < m2 [(Value.slice s3b s3l s3c), (Value.int .i64 n4)] w5)) else (
  R (Value.slice s3b s3l s3c) w5)
theorem eq_plaitref04_New (nn_0 : Int) (w : World) (R : Value → World → Prop) : sh_plaitref04_New nn_0 w R = denF Pg Eall Tryd.f18 (.seq (.leaf) (.seq (.leaf) (.seq (.seq (.leaf) (.block (.loop [3, 4] [.one (.slc), .one (.int .i64)] (.seq (.seq (.leaf) (.cond (.leaf) (.leaf))) (.seq (.block (.leaf)) (.leaf)))))) (.seq (.leaf) (.leaf))))) [(Value.int .i64 nn_0)] w R := by kernel_rfl
theorem calls_plaitref04_New (nn_0 : Int) (w : World) (R : Value → World → Prop) (h : sh_plaitref04_New nn_0 w R) : Calls Pg fn_plaitref04_New #[(Value.int .i64 nn_0)] w fun e w' => ∃ v, e = .returned v ∧ R v w' :=
  calls_of_den Eall_enter wide_mixed Tryd.func18 (by rw [← eq_plaitref04_New]; exact h)

/-- 'plait/plaitref04.Cut' -/
def sh_plaitref04_Cut (sl_0b : Option Addr) (sl_0l : Nat) (sl_0c : Nat) (nx_1 : Int) (w : World) (R : Value → World → Prop) : Prop :=
  Calls Pg fn_plaitref04_Find #[(Value.slice sl_0b sl_0l sl_0c), (Value.int .i64 nx_1)] w fun e5 w4 => ∃ n11_2 : Int, ∃ n11_3 : Int, e5 = .returned (Value.tuple #[(Value.int .i64 n11_2), (Value.int .i64 n11_3)]) ∧
  bif (n11_3 == (0 : Int)) then (
  R (Value.tuple #[(Value.slice sl_0b sl_0l sl_0c), (Value.bool false)]) w4) else (
  ixS sl_0b sl_0l n11_2 1 fun a23_6 =>
  ldS a23_6 (World.drew w4) fun s24_7b s24_7l s24_7c =>
  0 ≤ n11_3 ∧ n11_3 ≤ ((s24_7c : Nat) : Int) ∧ 0 ≤ n11_3 ∧ n11_3 ≤ (((Int.toNat n11_3) : Nat) : Int) ∧ ixS sl_0b sl_0l n11_2 1 fun a30_8 =>
  ldS a30_8 (World.drew w4) fun s31_9b s31_9l s31_9c =>
  0 ≤ n11_3 ∧ n11_3 ≤ ((s31_9l : Nat) : Int) ∧ (Calls Pg fn_plaitref04_without #[(Value.slice sl_0b sl_0l sl_0c), (Value.int .i64 n11_2), (Value.int .i64 n11_2)] (World.drew w4) fun e12 w11 => ∃ s20_10b : Option Addr, ∃ s20_10l : Nat, ∃ s20_10c : Nat, e12 = .returned (Value.slice s20_10b s20_10l s20_10c) ∧
  World.cell? w11 a30_8 = some (Value.slice s31_9b s31_9l s31_9c) ∧ World.cell? w11 a23_6 = some (Value.slice s24_7b s24_7l s24_7c) ∧ alo #[(Value.slice (if (Int.toNat n11_3) = 0 then s24_7b else Option.map (fun a => Addr.add a (0 * 1)) s24_7b) ((Int.toNat n11_3) - 0) ((Int.toNat n11_3) - 0)), (Value.slice (if s31_9c = (Int.toNat n11_3) then s31_9b else Option.map (fun a => Addr.add a ((Int.toNat n11_3) * 1)) s31_9b) (s31_9l - (Int.toNat n11_3)) (s31_9c - (Int.toNat n11_3)))] T_sl_int w11 fun a13 w14 =>
  ∃ s35_15b : Option Addr, ∃ s35_15l : Nat, ∃ s35_15c : Nat, ∃ w16 : World, (Builtin.append_ #[T_sl_sl_int, T_sl_sl_int] T_sl_sl_int #[(Value.slice s20_10b s20_10l s20_10c), (Value.slice (some a13) 2 2)]).run Pg w14 = .ok (Value.slice s35_15b s35_15l s35_15c) w16 ∧
  R (Value.tuple #[(Value.slice s35_15b s35_15l s35_15c), (Value.bool true)]) w16) ∧ (
  alo #[(Value.slice (if (Int.toNat n11_3) = 0 then s24_7b else Option.map (fun a => Addr.add a (0 * 1)) s24_7b) ((Int.toNat n11_3) - 0) ((Int.toNat n11_3) - 0)), (Value.slice (if s31_9c = (Int.toNat n11_3) then s31_9b else Option.map (fun a => Addr.add a ((Int.toNat n11_3) * 1)) s31_9b) (s31_9l - (Int.toNat n11_3)) (s31_9c - (Int.toNat n11_3)))] T_sl_int (World.drew w4) fun a17 w18 =>
  Calls Pg fn_plaitref04_without #[(Value.slice sl_0b sl_0l sl_0c), (Value.int .i64 n11_2), (Value.int .i64 n11_2)] w18 fun e21 w20 => ∃ s20_19b : Option Addr, ∃ s20_19l : Nat, ∃ s20_19c : Nat, e21 = .returned (Value.slice s20_19b s20_19l s20_19c) ∧
  ∃ s35_22b : Option Addr, ∃ s35_22l : Nat, ∃ s35_22c : Nat, ∃ w23 : World, (Builtin.append_ #[T_sl_sl_int, T_sl_sl_int] T_sl_sl_int #[(Value.slice s20_19b s20_19l s20_19c), (Value.slice (some a17) 2 2)]).run Pg w20 = .ok (Value.slice s35_22b s35_22l s35_22c) w23 ∧
  R (Value.tuple #[(Value.slice s35_22b s35_22l s35_22c), (Value.bool true)]) w23))
theorem eq_plaitref04_Cut (sl_0b : Option Addr) (sl_0l : Nat) (sl_0c : Nat) (nx_1 : Int) (w : World) (R : Value → World → Prop) : sh_plaitref04_Cut sl_0b sl_0l sl_0c nx_1 w R = denF Pg Eall Tryd.f23 (.seq (.leaf) (.seq (.leaf) (.seq (.seq (.leaf) (.cond (.seq (.leaf) (.leaf)) (.leaf))) (.seq (.reg (.tk 0 [] [] (.tk 1 [] [] (.tk 2 [] [] (.tk 4 [] [] (.tk 5 [] [] (.tk 6 [] [] (.tk 7 [10, 17, 18, 19, 20] [17, 18] (.tk 8 [] [] (.tk 9 [] [] (.tk 10 [] [] (.tk 11 [] [] (.tk 12 [] [] (.tk 13 [] [] (.tk 14 [16, 17, 18, 19, 20] [17, 18] (.tk 15 [] [] (.tk 16 [] [] (.two 3 (.one 17 (.one 18 (.tk 19 [] [] (.tk 20 [] [] (.fin))))) 17 (.one 3 (.one 18 (.tk 19 [] [] (.tk 20 [] [] (.fin))))))))))))))))))))))) (.leaf))))) [(Value.slice sl_0b sl_0l sl_0c), (Value.int .i64 nx_1)] w R := by kernel_rfl
theorem calls_plaitref04_Cut (sl_0b : Option Addr) (sl_0l : Nat) (sl_0c : Nat) (nx_1 : Int) (w : World) (R : Value → World → Prop) (h : sh_plaitref04_Cut sl_0b sl_0l sl_0c nx_1 w R) : Calls Pg fn_plaitref04_Cut #[(Value.slice sl_0b sl_0l sl_0c), (Value.int .i64 nx_1)] w fun e w' => ∃ v, e = .returned v ∧ R v w' :=
  calls_of_den Eall_enter wide_mixed Tryd.func23 (by rw [← eq_plaitref04_Cut]; exact h)

/-- 'plait/plaitref04.Reverse' -/
def sh_plaitref04_Reverse (sl_0b : Option Addr) (sl_0l : Nat) (sl_0c : Nat) (nx_1 : Int) (w : World) (R : Value → World → Prop) : Prop :=
  Calls Pg fn_plaitref04_Find #[(Value.slice sl_0b sl_0l sl_0c), (Value.int .i64 nx_1)] w fun e5 w4 => ∃ n12_2 : Int, ∃ n12_3 : Int, e5 = .returned (Value.tuple #[(Value.int .i64 n12_2), (Value.int .i64 n12_3)]) ∧
  ixS sl_0b sl_0l n12_2 1 fun a17_6 =>
  ldS a17_6 w4 fun s18_7b s18_7l s18_7c =>
  ∃ (I8 : List Value → World → Prop) (m9 : List Value → World → Nat), I8 [(Value.slice none 0 0), (Value.int .i64 (IntKind.wrap .i64 ((s18_7l : Int) - (1 : Int))))] w4 ∧
  ∀ _ : Env, ∀ s10b : Option Addr, ∀ s10l : Nat, ∀ s10c : Nat, ∀ n11 : Int, ∀ w12 : World, I8 [(Value.slice s10b s10l s10c), (Value.int .i64 n11)] w12 →
  bif (decide (n11 ≥ (0 : Int))) then (
  ixS sl_0b sl_0l n12_2 1 fun a28_13 =>
  ldS a28_13 w12 fun s29_14b s29_14l s29_14c =>
  ixS s29_14b s29_14l n11 1 fun a31_15 =>
  ldI .i64 a31_15 w12 fun n32_16 =>
  alo #[(Value.int .i64 n32_16)] T_int w12 fun a17 w18 =>
  ∃ s34_19b : Option Addr, ∃ s34_19l : Nat, ∃ s34_19c : Nat, ∃ w20 : World, (Builtin.append_ #[T_sl_int, T_sl_int] T_sl_int #[(Value.slice s10b s10l s10c), (Value.slice (some a17) 1 1)]).run Pg w18 = .ok (Value.slice s34_19b s34_19l s34_19c) w20 ∧
  (I8 [(Value.slice s34_19b s34_19l s34_19c), (Value.int .i64 (IntKind.wrap .i64 (n11 - (1 : Int))))] w20 ∧ m9 [(Value.slice s34_19b s34_19l s34_19c), (Value.int .i64 (IntKind.wrap .i64 (n11 - (1 : Int))))] w20 < m9 [(Value.slice s10b s10l s10c), (Value.int .i64 n11)] w12)) else (
  Calls Pg fn_plaitref04_without #[(Value.slice sl_0b sl_0l sl_0c), (Value.int .i64 n12_2), (Value.int .i64 n12_2)] w12 fun e23 w22 => ∃ s38_21b : Option Addr, ∃ s38_21l : Nat, ∃ s38_21c : Nat, e23 = .returned (Value.slice s38_21b s38_21l s38_21c) ∧
  alo #[(Value.slice s10b s10l s10c)] T_sl_int w22 fun a24 w25 =>
  ∃ s41_26b : Option Addr, ∃ s41_26l : Nat, ∃ s41_26c : Nat, ∃ w27 : World, (Builtin.append_ #[T_sl_sl_int, T_sl_sl_int] T_sl_sl_int #[(Value.slice s38_21b s38_21l s38_21c), (Value.slice (some a24) 1 1)]).run Pg w25 = .ok (Value.slice s41_26b s41_26l s41_26c) w27 ∧
  R (Value.slice s41_26b s41_26l s41_26c) w27)
theorem eq_plaitref04_Reverse (sl_0b : Option Addr) (sl_0l : Nat) (sl_0c : Nat) (nx_1 : Int) (w : World) (R : Value → World → Prop) : sh_plaitref04_Reverse sl_0b sl_0l sl_0c nx_1 w R = denF Pg Eall Tryd.f24 (.seq (.leaf) (.seq (.leaf) (.seq (.leaf) (.seq (.seq (.leaf) (.block (.loop [7, 8] [.one (.slc), .one (.int .i64)] (.seq (.seq (.leaf) (.cond (.leaf) (.leaf))) (.seq (.block (.leaf)) (.leaf)))))) (.seq (.leaf) (.leaf)))))) [(Value.slice sl_0b sl_0l sl_0c), (Value.int .i64 nx_1)] w R := by kernel_rfl
theorem calls_plaitref04_Reverse (sl_0b : Option Addr) (sl_0l : Nat) (sl_0c : Nat) (nx_1 : Int) (w : World) (R : Value → World → Prop) (h : sh_plaitref04_Reverse sl_0b sl_0l sl_0c nx_1 w R) : Calls Pg fn_plaitref04_Reverse #[(Value.slice sl_0b sl_0l sl_0c), (Value.int .i64 nx_1)] w fun e w' => ∃ v, e = .returned v ∧ R v w' :=
  calls_of_den Eall_enter wide_mixed Tryd.func24 (by rw [← eq_plaitref04_Reverse]; exact h)

/-- 'plait/plaitref04.Join' -/
def sh_plaitref04_Join (sl_0b : Option Addr) (sl_0l : Nat) (sl_0c : Nat) (na_1 : Int) (nb_2 : Int) (w : World) (R : Value → World → Prop) : Prop :=
  Calls Pg fn_plaitref04_Find #[(Value.slice sl_0b sl_0l sl_0c), (Value.int .i64 na_1)] w fun e6 w5 => ∃ n16_3 : Int, ∃ n16_4 : Int, e6 = .returned (Value.tuple #[(Value.int .i64 n16_3), (Value.int .i64 n16_4)]) ∧
  Calls Pg fn_plaitref04_Find #[(Value.slice sl_0b sl_0l sl_0c), (Value.int .i64 nb_2)] w5 fun e10 w9 => ∃ n22_7 : Int, ∃ n22_8 : Int, e10 = .returned (Value.tuple #[(Value.int .i64 n22_7), (Value.int .i64 n22_8)]) ∧
  bif (n16_3 == n22_7) then (
  R (Value.tuple #[(Value.slice sl_0b sl_0l sl_0c), (Value.bool false)]) w9) else (
  ixS sl_0b sl_0l n16_3 1 fun a36_11 =>
  ldS a36_11 (World.drew w9) fun s37_12b s37_12l s37_12c =>
  ixS sl_0b sl_0l n22_7 1 fun a41_13 =>
  ldS a41_13 (World.drew w9) fun s42_14b s42_14l s42_14c =>
  Calls Pg fn_plaitref04_without #[(Value.slice sl_0b sl_0l sl_0c), (Value.int .i64 n16_3), (Value.int .i64 n22_7)] (World.drew w9) fun e17 w16 => ∃ s32_15b : Option Addr, ∃ s32_15l : Nat, ∃ s32_15c : Nat, e17 = .returned (Value.slice s32_15b s32_15l s32_15c) ∧
  World.cell? w16 a41_13 = some (Value.slice s42_14b s42_14l s42_14c) ∧ World.cell? w16 a36_11 = some (Value.slice s37_12b s37_12l s37_12c) ∧ ∃ s38_18b : Option Addr, ∃ s38_18l : Nat, ∃ s38_18c : Nat, ∃ w19 : World, (Builtin.append_ #[T_sl_int, T_sl_int] T_sl_int #[(Value.slice none 0 0), (Value.slice s37_12b s37_12l s37_12c)]).run Pg w16 = .ok (Value.slice s38_18b s38_18l s38_18c) w19 ∧
  World.cell? w19 a41_13 = some (Value.slice s42_14b s42_14l s42_14c) ∧ ∃ s43_20b : Option Addr, ∃ s43_20l : Nat, ∃ s43_20c : Nat, ∃ w21 : World, (Builtin.append_ #[T_sl_int, T_sl_int] T_sl_int #[(Value.slice s38_18b s38_18l s38_18c), (Value.slice s42_14b s42_14l s42_14c)]).run Pg w19 = .ok (Value.slice s43_20b s43_20l s43_20c) w21 ∧
  alo #[(Value.slice s43_20b s43_20l s43_20c)] T_sl_int w21 fun a22 w23 =>
  ∃ s45_24b : Option Addr, ∃ s45_24l : Nat, ∃ s45_24c : Nat, ∃ w25 : World, (Builtin.append_ #[T_sl_sl_int, T_sl_sl_int] T_sl_sl_int #[(Value.slice s32_15b s32_15l s32_15c), (Value.slice (some a22) 1 1)]).run Pg w23 = .ok (Value.slice s45_24b s45_24l s45_24c) w25 ∧
  R (Value.tuple #[(Value.slice s45_24b s45_24l s45_24c), (Value.bool true)]) w25)
theorem eq_plaitref04_Join (sl_0b : Option Addr) (sl_0l : Nat) (sl_0c : Nat) (na_1 : Int) (nb_2 : Int) (w : World) (R : Value → World → Prop) : sh_plaitref04_Join sl_0b sl_0l sl_0c na_1 nb_2 w R = denF Pg Eall Tryd.f27 (.seq (.leaf) (.seq (.leaf) (.seq (.leaf) (.seq (.seq (.leaf) (.cond (.seq (.leaf) (.leaf)) (.leaf))) (.seq (.leaf) (.seq (.reg (.tk 0 [] [] (.tk 1 [] [] (.tk 2 [] [] (.tk 4 [] [] (.tk 5 [] [] (.tk 6 [] [] (.tk 7 [] [] (.tk 8 [9, 14, 15, 16, 17, 18] [9, 14, 15, 16] (.tk 10 [] [] (.tk 11 [] [] (.tk 12 [] [] (.tk 13 [14, 15, 16, 17, 18] [14, 15, 16] (.one 3 (.one 9 (.one 14 (.one 15 (.one 16 (.tk 17 [] [] (.tk 18 [] [] (.fin))))))))))))))))))))) (.leaf))))))) [(Value.slice sl_0b sl_0l sl_0c), (Value.int .i64 na_1), (Value.int .i64 nb_2)] w R := by kernel_rfl
theorem calls_plaitref04_Join (sl_0b : Option Addr) (sl_0l : Nat) (sl_0c : Nat) (na_1 : Int) (nb_2 : Int) (w : World) (R : Value → World → Prop) (h : sh_plaitref04_Join sl_0b sl_0l sl_0c na_1 nb_2 w R) : Calls Pg fn_plaitref04_Join #[(Value.slice sl_0b sl_0l sl_0c), (Value.int .i64 na_1), (Value.int .i64 nb_2)] w fun e w' => ∃ v, e = .returned v ∧ R v w' :=
  calls_of_den Eall_enter wide_mixed Tryd.func27 (by rw [← eq_plaitref04_Join]; exact h)

/-- 'plait/plaitref04.Find' -/
def sh_plaitref04_Find (sl_0b : Option Addr) (sl_0l : Nat) (sl_0c : Nat) (nx_1 : Int) (w : World) (R : Value → World → Prop) : Prop :=
  ∃ (I2 : List Value → World → Prop) (m3 : List Value → World → Nat), I2 [(Value.int .i64 (0 : Int))] w ∧
  ∀ _ : Env, ∀ n4 : Int, ∀ w5 : World, I2 [(Value.int .i64 n4)] w5 →
  bif (decide (n4 < (sl_0l : Int))) then (
  ∃ (I6 : List Value → World → Prop) (m7 : List Value → World → Nat), I6 [(Value.int .i64 (0 : Int))] w5 ∧
  ∀ _ : Env, ∀ n8 : Int, ∀ w9 : World, I6 [(Value.int .i64 n8)] w9 →
  ixS sl_0b sl_0l n4 1 fun a17_10 =>
  ldS a17_10 w9 fun s18_11b s18_11l s18_11c =>
  bif (decide (n8 < (s18_11l : Int))) then (
  ixS sl_0b sl_0l n4 1 fun a25_12 =>
  ldS a25_12 w9 fun s26_13b s26_13l s26_13c =>
  ixS s26_13b s26_13l n8 1 fun a28_14 =>
  ldI .i64 a28_14 w9 fun n29_15 =>
  bif (n29_15 == nx_1) then (
  R (Value.tuple #[(Value.int .i64 n4), (Value.int .i64 n8)]) w9) else (
  (I6 [(Value.int .i64 (IntKind.wrap .i64 (n8 + (1 : Int))))] w9 ∧ m7 [(Value.int .i64 (IntKind.wrap .i64 (n8 + (1 : Int))))] w9 < m7 [(Value.int .i64 n8)] w9))) else (
  (I2 [(Value.int .i64 (IntKind.wrap .i64 (n4 + (1 : Int))))] w9 ∧ m3 [(Value.int .i64 (IntKind.wrap .i64 (n4 + (1 : Int))))] w9 < m3 [(Value.int .i64 n4)] w5))) else (
  R (Value.tuple #[(Value.int .i64 (-1 : Int)), (Value.int .i64 (-1 : Int))]) w5)
theorem eq_plaitref04_Find (sl_0b : Option Addr) (sl_0l : Nat) (sl_0c : Nat) (nx_1 : Int) (w : World) (R : Value → World → Prop) : sh_plaitref04_Find sl_0b sl_0l sl_0c nx_1 w R = denF Pg Eall Tryd.f28 (.seq (.leaf) (.seq (.seq (.leaf) (.block (.loop [6] [.one (.int .i64)] (.seq (.seq (.leaf) (.cond (.leaf) (.leaf))) (.seq (.block (.seq (.leaf) (.block (.loop [7] [.one (.int .i64)] (.seq (.seq (.leaf) (.cond (.leaf) (.leaf))) (.seq (.block (.seq (.leaf) (.cond (.seq (.leaf) (.leaf)) (.leaf)))) (.leaf))))))) (.leaf)))))) (.seq (.leaf) (.leaf)))) [(Value.slice sl_0b sl_0l sl_0c), (Value.int .i64 nx_1)] w R := by kernel_rfl
theorem calls_plaitref04_Find (sl_0b : Option Addr) (sl_0l : Nat) (sl_0c : Nat) (nx_1 : Int) (w : World) (R : Value → World → Prop) (h : sh_plaitref04_Find sl_0b sl_0l sl_0c nx_1 w R) : Calls Pg fn_plaitref04_Find #[(Value.slice sl_0b sl_0l sl_0c), (Value.int .i64 nx_1)] w fun e w' => ∃ v, e = .returned v ∧ R v w' :=
  calls_of_den Eall_enter wide_mixed Tryd.func28 (by rw [← eq_plaitref04_Find]; exact h)

/-- 'plait/plaitref04.Sum' -/
def sh_plaitref04_Sum (sl_0b : Option Addr) (sl_0l : Nat) (sl_0c : Nat) (sv_1b : Option Addr) (sv_1l : Nat) (sv_1c : Nat) (w : World) (R : Value → World → Prop) : Prop :=
  ∃ (I2 : List Value → World → Prop) (m3 : List Value → World → Nat), I2 [(Value.int .i64 (0 : Int)), (Value.int .i64 (0 : Int))] w ∧
  ∀ _ : Env, ∀ n4 : Int, ∀ n5 : Int, ∀ w6 : World, I2 [(Value.int .i64 n4), (Value.int .i64 n5)] w6 →
  bif (decide (n5 < (sl_0l : Int))) then (
  ixS sl_0b sl_0l n5 1 fun a17_7 =>
  ldI .i64 a17_7 w6 fun n18_8 =>
  ixS sv_1b sv_1l n18_8 1 fun a19_9 =>
  ldI .i64 a19_9 w6 fun n20_10 =>
  (I2 [(Value.int .i64 (IntKind.wrap .i64 (n4 + n20_10))), (Value.int .i64 (IntKind.wrap .i64 (n5 + (1 : Int))))] w6 ∧ m3 [(Value.int .i64 (IntKind.wrap .i64 (n4 + n20_10))), (Value.int .i64 (IntKind.wrap .i64 (n5 + (1 : Int))))] w6 < m3 [(Value.int .i64 n4), (Value.int .i64 n5)] w6)) else (
  R (Value.int .i64 n4) w6)
theorem eq_plaitref04_Sum (sl_0b : Option Addr) (sl_0l : Nat) (sl_0c : Nat) (sv_1b : Option Addr) (sv_1l : Nat) (sv_1c : Nat) (w : World) (R : Value → World → Prop) : sh_plaitref04_Sum sl_0b sl_0l sl_0c sv_1b sv_1l sv_1c w R = denF Pg Eall Tryd.f70 (.seq (.leaf) (.seq (.leaf) (.seq (.seq (.leaf) (.block (.loop [5, 6] [.one (.int .i64), .one (.int .i64)] (.seq (.seq (.leaf) (.cond (.leaf) (.leaf))) (.seq (.block (.leaf)) (.leaf)))))) (.seq (.leaf) (.leaf))))) [(Value.slice sl_0b sl_0l sl_0c), (Value.slice sv_1b sv_1l sv_1c)] w R := by kernel_rfl
theorem calls_plaitref04_Sum (sl_0b : Option Addr) (sl_0l : Nat) (sl_0c : Nat) (sv_1b : Option Addr) (sv_1l : Nat) (sv_1c : Nat) (w : World) (R : Value → World → Prop) (h : sh_plaitref04_Sum sl_0b sl_0l sl_0c sv_1b sv_1l sv_1c w R) : Calls Pg fn_plaitref04_Sum #[(Value.slice sl_0b sl_0l sl_0c), (Value.slice sv_1b sv_1l sv_1c)] w fun e w' => ∃ v, e = .returned v ∧ R v w' :=
  calls_of_den Eall_enter wide_mixed Tryd.func70 (by rw [← eq_plaitref04_Sum]; exact h)

/-- 'plait/plaitref04.Least' -/
def sh_plaitref04_Least (sl_0b : Option Addr) (sl_0l : Nat) (sl_0c : Nat) (sv_1b : Option Addr) (sv_1l : Nat) (sv_1c : Nat) (w : World) (R : Value → World → Prop) : Prop :=
  ixS sl_0b sl_0l (0 : Int) 1 fun a8_2 =>
  ldI .i64 a8_2 w fun n9_3 =>
  ∃ (I4 : List Value → World → Prop) (m5 : List Value → World → Nat), I4 [(Value.int .i64 n9_3), (Value.int .i64 (0 : Int))] w ∧
  ∀ _ : Env, ∀ n6 : Int, ∀ n7 : Int, ∀ w8 : World, I4 [(Value.int .i64 n6), (Value.int .i64 n7)] w8 →
  bif (decide (n7 < (sl_0l : Int))) then (
  ixS sl_0b sl_0l n7 1 fun a19_9 =>
  ldI .i64 a19_9 (World.drew w8) fun n20_10 =>
  ixS sv_1b sv_1l n20_10 1 fun a21_11 =>
  ldI .i64 a21_11 (World.drew w8) fun n22_12 =>
  ixS sv_1b sv_1l n6 1 fun a25_13 =>
  ldI .i64 a25_13 (World.drew w8) fun n26_14 =>
  bif (decide (n22_12 < n26_14)) then (
  ixS sl_0b sl_0l n7 1 fun a30_15 =>
  ldI .i64 a30_15 (World.drew w8) fun n31_16 =>
  (I4 [(Value.int .i64 n31_16), (Value.int .i64 (IntKind.wrap .i64 (n7 + (1 : Int))))] (World.drew w8) ∧ m5 [(Value.int .i64 n31_16), (Value.int .i64 (IntKind.wrap .i64 (n7 + (1 : Int))))] (World.drew w8) < m5 [(Value.int .i64 n6), (Value.int .i64 n7)] w8)) else (
  (I4 [(Value.int .i64 n6), (Value.int .i64 (IntKind.wrap .i64 (n7 + (1 : Int))))] (World.drew w8) ∧ m5 [(Value.int .i64 n6), (Value.int .i64 (IntKind.wrap .i64 (n7 + (1 : Int))))] (World.drew w8) < m5 [(Value.int .i64 n6), (Value.int .i64 n7)] w8))) else (
  R (Value.int .i64 n6) w8)
theorem eq_plaitref04_Least (sl_0b : Option Addr) (sl_0l : Nat) (sl_0c : Nat) (sv_1b : Option Addr) (sv_1l : Nat) (sv_1c : Nat) (w : World) (R : Value → World → Prop) : sh_plaitref04_Least sl_0b sl_0l sl_0c sv_1b sv_1l sv_1c w R = denF Pg Eall Tryd.f71 (.seq (.leaf) (.seq (.leaf) (.seq (.seq (.leaf) (.block (.loop [5, 6] [.one (.int .i64), .one (.int .i64)] (.seq (.seq (.leaf) (.cond (.leaf) (.leaf))) (.seq (.block (.seq (.reg (.tk 0 [] [] (.tk 1 [] [] (.tk 2 [] [] (.tk 3 [] [] (.tk 4 [] [] (.tk 5 [] [] (.tk 6 [] [] (.tk 7 [] [] (.tk 8 [] [] (.tk 9 [] [] (.tk 10 [] [] (.tk 11 [] [] (.fin)))))))))))))) (.cond (.leaf) (.leaf)))) (.leaf)))))) (.seq (.leaf) (.leaf))))) [(Value.slice sl_0b sl_0l sl_0c), (Value.slice sv_1b sv_1l sv_1c)] w R := by kernel_rfl
theorem calls_plaitref04_Least (sl_0b : Option Addr) (sl_0l : Nat) (sl_0c : Nat) (sv_1b : Option Addr) (sv_1l : Nat) (sv_1c : Nat) (w : World) (R : Value → World → Prop) (h : sh_plaitref04_Least sl_0b sl_0l sl_0c sv_1b sv_1l sv_1c w R) : Calls Pg fn_plaitref04_Least #[(Value.slice sl_0b sl_0l sl_0c), (Value.slice sv_1b sv_1l sv_1c)] w fun e w' => ∃ v, e = .returned v ∧ R v w' :=
  calls_of_den Eall_enter wide_mixed Tryd.func71 (by rw [← eq_plaitref04_Least]; exact h)

/-- 'plait/plaitref04.Most' -/
def sh_plaitref04_Most (sl_0b : Option Addr) (sl_0l : Nat) (sl_0c : Nat) (sv_1b : Option Addr) (sv_1l : Nat) (sv_1c : Nat) (w : World) (R : Value → World → Prop) : Prop :=
  ixS sl_0b sl_0l (0 : Int) 1 fun a8_2 =>
  ldI .i64 a8_2 w fun n9_3 =>
  ∃ (I4 : List Value → World → Prop) (m5 : List Value → World → Nat), I4 [(Value.int .i64 n9_3), (Value.int .i64 (0 : Int))] w ∧
  ∀ _ : Env, ∀ n6 : Int, ∀ n7 : Int, ∀ w8 : World, I4 [(Value.int .i64 n6), (Value.int .i64 n7)] w8 →
  bif (decide (n7 < (sl_0l : Int))) then (
  ixS sl_0b sl_0l n7 1 fun a19_9 =>
  ldI .i64 a19_9 (World.drew w8) fun n20_10 =>
  ixS sv_1b sv_1l n20_10 1 fun a21_11 =>
  ldI .i64 a21_11 (World.drew w8) fun n22_12 =>
  ixS sv_1b sv_1l n6 1 fun a25_13 =>
  ldI .i64 a25_13 (World.drew w8) fun n26_14 =>
  bif (decide (n22_12 > n26_14)) then (
  ixS sl_0b sl_0l n7 1 fun a30_15 =>
  ldI .i64 a30_15 (World.drew w8) fun n31_16 =>
  (I4 [(Value.int .i64 n31_16), (Value.int .i64 (IntKind.wrap .i64 (n7 + (1 : Int))))] (World.drew w8) ∧ m5 [(Value.int .i64 n31_16), (Value.int .i64 (IntKind.wrap .i64 (n7 + (1 : Int))))] (World.drew w8) < m5 [(Value.int .i64 n6), (Value.int .i64 n7)] w8)) else (
  (I4 [(Value.int .i64 n6), (Value.int .i64 (IntKind.wrap .i64 (n7 + (1 : Int))))] (World.drew w8) ∧ m5 [(Value.int .i64 n6), (Value.int .i64 (IntKind.wrap .i64 (n7 + (1 : Int))))] (World.drew w8) < m5 [(Value.int .i64 n6), (Value.int .i64 n7)] w8))) else (
  R (Value.int .i64 n6) w8)
theorem eq_plaitref04_Most (sl_0b : Option Addr) (sl_0l : Nat) (sl_0c : Nat) (sv_1b : Option Addr) (sv_1l : Nat) (sv_1c : Nat) (w : World) (R : Value → World → Prop) : sh_plaitref04_Most sl_0b sl_0l sl_0c sv_1b sv_1l sv_1c w R = denF Pg Eall Tryd.f72 (.seq (.leaf) (.seq (.leaf) (.seq (.seq (.leaf) (.block (.loop [5, 6] [.one (.int .i64), .one (.int .i64)] (.seq (.seq (.leaf) (.cond (.leaf) (.leaf))) (.seq (.block (.seq (.reg (.tk 0 [] [] (.tk 1 [] [] (.tk 2 [] [] (.tk 3 [] [] (.tk 4 [] [] (.tk 5 [] [] (.tk 6 [] [] (.tk 7 [] [] (.tk 8 [] [] (.tk 9 [] [] (.tk 10 [] [] (.tk 11 [] [] (.fin)))))))))))))) (.cond (.leaf) (.leaf)))) (.leaf)))))) (.seq (.leaf) (.leaf))))) [(Value.slice sl_0b sl_0l sl_0c), (Value.slice sv_1b sv_1l sv_1c)] w R := by kernel_rfl
theorem calls_plaitref04_Most (sl_0b : Option Addr) (sl_0l : Nat) (sl_0c : Nat) (sv_1b : Option Addr) (sv_1l : Nat) (sv_1c : Nat) (w : World) (R : Value → World → Prop) (h : sh_plaitref04_Most sl_0b sl_0l sl_0c sv_1b sv_1l sv_1c w R) : Calls Pg fn_plaitref04_Most #[(Value.slice sl_0b sl_0l sl_0c), (Value.slice sv_1b sv_1l sv_1c)] w fun e w' => ∃ v, e = .returned v ∧ R v w' :=
  calls_of_den Eall_enter wide_mixed Tryd.func72 (by rw [← eq_plaitref04_Most]; exact h)

/-- 'plait/plaitref04.without' -/
def sh_plaitref04_without (sl_0b : Option Addr) (sl_0l : Nat) (sl_0c : Nat) (na_1 : Int) (nb_2 : Int) (w : World) (R : Value → World → Prop) : Prop :=
  ∃ (I3 : List Value → World → Prop) (m4 : List Value → World → Nat), I3 [(Value.slice none 0 0), (Value.int .i64 (0 : Int))] w ∧
  ∀ _ : Env, ∀ s5b : Option Addr, ∀ s5l : Nat, ∀ s5c : Nat, ∀ n6 : Int, ∀ w7 : World, I3 [(Value.slice s5b s5l s5c), (Value.int .i64 n6)] w7 →
  bif (decide (n6 < (sl_0l : Int))) then (
  bif (n6 != na_1) then (
  bif (n6 != nb_2) then (
  ixS sl_0b sl_0l n6 1 fun a26_8 =>
  ldS a26_8 w7 fun s27_9b s27_9l s27_9c =>
  alo #[(Value.slice s27_9b s27_9l s27_9c)] T_sl_int w7 fun a10 w11 =>
  ∃ s29_12b : Option Addr, ∃ s29_12l : Nat, ∃ s29_12c : Nat, ∃ w13 : World, (Builtin.append_ #[T_sl_sl_int, T_sl_sl_int] T_sl_sl_int #[(Value.slice s5b s5l s5c), (Value.slice (some a10) 1 1)]).run Pg w11 = .ok (Value.slice s29_12b s29_12l s29_12c) w13 ∧
  (I3 [(Value.slice s29_12b s29_12l s29_12c), (Value.int .i64 (IntKind.wrap .i64 (n6 + (1 : Int))))] w13 ∧ m4 [(Value.slice s29_12b s29_12l s29_12c), (Value.int .i64 (IntKind.wrap .i64 (n6 + (1 : Int))))] w13 < m4 [(Value.slice s5b s5l s5c), (Value.int .i64 n6)] w7)) else (
  (I3 [(Value.slice s5b s5l s5c), (Value.int .i64 (IntKind.wrap .i64 (n6 + (1 : Int))))] w7 ∧ m4 [(Value.slice s5b s5l s5c), (Value.int .i64 (IntKind.wrap .i64 (n6 + (1 : Int))))] w7 < m4 [(Value.slice s5b s5l s5c), (Value.int .i64 n6)] w7))) else (
  (I3 [(Value.slice s5b s5l s5c), (Value.int .i64 (IntKind.wrap .i64 (n6 + (1 : Int))))] w7 ∧ m4 [(Value.slice s5b s5l s5c), (Value.int .i64 (IntKind.wrap .i64 (n6 + (1 : Int))))] w7 < m4 [(Value.slice s5b s5l s5c), (Value.int .i64 n6)] w7))) else (
  R (Value.slice s5b s5l s5c) w7)
theorem eq_plaitref04_without (sl_0b : Option Addr) (sl_0l : Nat) (sl_0c : Nat) (na_1 : Int) (nb_2 : Int) (w : World) (R : Value → World → Prop) : sh_plaitref04_without sl_0b sl_0l sl_0c na_1 nb_2 w R = denF Pg Eall Tryd.f94 (.seq (.leaf) (.seq (.leaf) (.seq (.seq (.leaf) (.block (.loop [7, 8] [.one (.slc), .one (.int .i64)] (.seq (.seq (.leaf) (.cond (.leaf) (.leaf))) (.seq (.block (.seq (.leaf) (.cond (.leaf) (.leaf)))) (.leaf)))))) (.seq (.leaf) (.leaf))))) [(Value.slice sl_0b sl_0l sl_0c), (Value.int .i64 na_1), (Value.int .i64 nb_2)] w R := by kernel_rfl
theorem calls_plaitref04_without (sl_0b : Option Addr) (sl_0l : Nat) (sl_0c : Nat) (na_1 : Int) (nb_2 : Int) (w : World) (R : Value → World → Prop) (h : sh_plaitref04_without sl_0b sl_0l sl_0c na_1 nb_2 w R) : Calls Pg fn_plaitref04_without #[(Value.slice sl_0b sl_0l sl_0c), (Value.int .i64 na_1), (Value.int .i64 nb_2)] w fun e w' => ∃ v, e = .returned v ∧ R v w' :=
  calls_of_den Eall_enter wide_mixed Tryd.func94 (by rw [← eq_plaitref04_without]; exact h)

end Go.Proofs.YtledchlbmilneaaDoor
