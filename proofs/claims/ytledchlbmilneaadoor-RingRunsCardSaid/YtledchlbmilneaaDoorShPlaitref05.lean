/-
What each function does, as one formula, printed by a program of this session out of the translation; the kernel holds each print against the translation.
Conditions: none.
-/
import Derived.Test.YtledchlbmilneaaDoorSn
namespace Go.Proofs.YtledchlbmilneaaDoor
open Go
set_option linter.unusedVariables false
set_option maxRecDepth 100000
/-- 'plait/plaitref05.Split' -/
def sh_plaitref05_Split (sl_0b : Option Addr) (sl_0l : Nat) (sl_0c : Nat) (na_1 : Int) (nb_2 : Int) (w : World) (R : Value → World → Prop) : Prop :=
  Calls Pg fn_plaitref04_Find #[(Value.slice sl_0b sl_0l sl_0c), (Value.int .i64 na_1)] w fun e6 w5 => ∃ n17_3 : Int, ∃ n17_4 : Int, e6 = .returned (Value.tuple #[(Value.int .i64 n17_3), (Value.int .i64 n17_4)]) ∧
  Calls Pg fn_plaitref04_Find #[(Value.slice sl_0b sl_0l sl_0c), (Value.int .i64 nb_2)] w5 fun e10 w9 => ∃ n23_7 : Int, ∃ n23_8 : Int, e10 = .returned (Value.tuple #[(Value.int .i64 n23_7), (Value.int .i64 n23_8)]) ∧
  bif (na_1 == nb_2) then (
  R (Value.tuple #[(Value.slice sl_0b sl_0l sl_0c), (Value.int .i64 (20 : Int))]) w9) else (
  bif (n17_3 != n23_7) then (
  R (Value.tuple #[(Value.slice sl_0b sl_0l sl_0c), (Value.int .i64 (21 : Int))]) w9) else (
  ixS sl_0b sl_0l n17_3 1 fun a36_11 =>
  ldS a36_11 w9 fun s37_12b s37_12l s37_12c =>
  Calls Pg fn_plaitref05_from #[(Value.slice s37_12b s37_12l s37_12c), (Value.int .i64 n17_4)] w9 fun e15 w14 => ∃ s39_13b : Option Addr, ∃ s39_13l : Nat, ∃ s39_13c : Nat, e15 = .returned (Value.slice s39_13b s39_13l s39_13c) ∧
  ∃ (I16 : List Value → World → Prop) (m17 : List Value → World → Nat), I16 [(Value.int .i64 (0 : Int))] w14 ∧
  ∀ _ : Env, ∀ n18 : Int, ∀ w19 : World, I16 [(Value.int .i64 n18)] w19 →
  ixS s39_13b s39_13l n18 1 fun a42_20 =>
  ldI .i64 a42_20 w19 fun n43_21 =>
  bif (n43_21 != nb_2) then (
  (I16 [(Value.int .i64 (IntKind.wrap .i64 (n18 + (1 : Int))))] w19 ∧ m17 [(Value.int .i64 (IntKind.wrap .i64 (n18 + (1 : Int))))] w19 < m17 [(Value.int .i64 n18)] w19)) else (
  0 ≤ n18 ∧ n18 ≤ ((s39_13c : Nat) : Int) ∧ 0 ≤ n18 ∧ n18 ≤ (((Int.toNat n18) : Nat) : Int) ∧ 0 ≤ n18 ∧ n18 ≤ ((s39_13l : Nat) : Int) ∧ (Calls Pg fn_plaitref05_without #[(Value.slice sl_0b sl_0l sl_0c), (Value.int .i64 n17_3), (Value.int .i64 n17_3)] (World.drew w19) fun e24 w23 => ∃ s51_22b : Option Addr, ∃ s51_22l : Nat, ∃ s51_22c : Nat, e24 = .returned (Value.slice s51_22b s51_22l s51_22c) ∧
  alo #[(Value.slice (if (Int.toNat n18) = 0 then s39_13b else Option.map (fun a => Addr.add a (0 * 1)) s39_13b) ((Int.toNat n18) - 0) ((Int.toNat n18) - 0)), (Value.slice (if s39_13c = (Int.toNat n18) then s39_13b else Option.map (fun a => Addr.add a ((Int.toNat n18) * 1)) s39_13b) (s39_13l - (Int.toNat n18)) (s39_13c - (Int.toNat n18)))] T_sl_int w23 fun a25 w26 =>
  ∃ s60_27b : Option Addr, ∃ s60_27l : Nat, ∃ s60_27c : Nat, ∃ w28 : World, (Builtin.append_ #[T_sl_sl_int, T_sl_sl_int] T_sl_sl_int #[(Value.slice s51_22b s51_22l s51_22c), (Value.slice (some a25) 2 2)]).run Pg w26 = .ok (Value.slice s60_27b s60_27l s60_27c) w28 ∧
  R (Value.tuple #[(Value.slice s60_27b s60_27l s60_27c), (Value.int .i64 (0 : Int))]) w28) ∧ (
  alo #[(Value.slice (if (Int.toNat n18) = 0 then s39_13b else Option.map (fun a => Addr.add a (0 * 1)) s39_13b) ((Int.toNat n18) - 0) ((Int.toNat n18) - 0)), (Value.slice (if s39_13c = (Int.toNat n18) then s39_13b else Option.map (fun a => Addr.add a ((Int.toNat n18) * 1)) s39_13b) (s39_13l - (Int.toNat n18)) (s39_13c - (Int.toNat n18)))] T_sl_int (World.drew w19) fun a29 w30 =>
  Calls Pg fn_plaitref05_without #[(Value.slice sl_0b sl_0l sl_0c), (Value.int .i64 n17_3), (Value.int .i64 n17_3)] w30 fun e33 w32 => ∃ s51_31b : Option Addr, ∃ s51_31l : Nat, ∃ s51_31c : Nat, e33 = .returned (Value.slice s51_31b s51_31l s51_31c) ∧
  ∃ s60_34b : Option Addr, ∃ s60_34l : Nat, ∃ s60_34c : Nat, ∃ w35 : World, (Builtin.append_ #[T_sl_sl_int, T_sl_sl_int] T_sl_sl_int #[(Value.slice s51_31b s51_31l s51_31c), (Value.slice (some a29) 2 2)]).run Pg w32 = .ok (Value.slice s60_34b s60_34l s60_34c) w35 ∧
  R (Value.tuple #[(Value.slice s60_34b s60_34l s60_34c), (Value.int .i64 (0 : Int))]) w35))))
theorem eq_plaitref05_Split (sl_0b : Option Addr) (sl_0l : Nat) (sl_0c : Nat) (na_1 : Int) (nb_2 : Int) (w : World) (R : Value → World → Prop) : sh_plaitref05_Split sl_0b sl_0l sl_0c na_1 nb_2 w R = denF Pg Eall Tryd.f46 (.seq (.leaf) (.seq (.leaf) (.seq (.leaf) (.seq (.seq (.leaf) (.cond (.seq (.leaf) (.leaf)) (.leaf))) (.seq (.seq (.leaf) (.cond (.seq (.leaf) (.leaf)) (.leaf))) (.seq (.leaf) (.seq (.leaf) (.seq (.block (.loop [13] [.one (.int .i64)] (.seq (.seq (.leaf) (.cond (.leaf) (.leaf))) (.block (.leaf))))) (.seq (.reg (.tk 0 [] [] (.tk 1 [] [] (.tk 2 [] [] (.tk 4 [] [] (.tk 5 [] [] (.tk 6 [] [] (.tk 7 [] [] (.tk 8 [] [] (.tk 9 [] [] (.tk 10 [] [] (.two 3 (.one 11 (.one 12 (.tk 13 [] [] (.tk 14 [] [] (.fin))))) 11 (.one 3 (.one 12 (.tk 13 [] [] (.tk 14 [] [] (.fin))))))))))))))))) (.leaf)))))))))) [(Value.slice sl_0b sl_0l sl_0c), (Value.int .i64 na_1), (Value.int .i64 nb_2)] w R := by kernel_rfl
theorem calls_plaitref05_Split (sl_0b : Option Addr) (sl_0l : Nat) (sl_0c : Nat) (na_1 : Int) (nb_2 : Int) (w : World) (R : Value → World → Prop) (h : sh_plaitref05_Split sl_0b sl_0l sl_0c na_1 nb_2 w R) : Calls Pg fn_plaitref05_Split #[(Value.slice sl_0b sl_0l sl_0c), (Value.int .i64 na_1), (Value.int .i64 nb_2)] w fun e w' => ∃ v, e = .returned v ∧ R v w' :=
  calls_of_den Eall_enter wide_mixed Tryd.func46 (by rw [← eq_plaitref05_Split]; exact h)

/-- 'plait/plaitref05.Apart' -/
def sh_plaitref05_Apart (sl_0b : Option Addr) (sl_0l : Nat) (sl_0c : Nat) (nx_1 : Int) (w : World) (R : Value → World → Prop) : Prop :=
  Calls Pg fn_plaitref04_Find #[(Value.slice sl_0b sl_0l sl_0c), (Value.int .i64 nx_1)] w fun e5 w4 => ∃ n12_2 : Int, ∃ n12_3 : Int, e5 = .returned (Value.tuple #[(Value.int .i64 n12_2), (Value.int .i64 n12_3)]) ∧
  ixS sl_0b sl_0l n12_2 1 fun a17_6 =>
  ldS a17_6 w4 fun s18_7b s18_7l s18_7c =>
  bif ((s18_7l : Int) == (1 : Int)) then (
  R (Value.tuple #[(Value.slice sl_0b sl_0l sl_0c), (Value.int .i64 (20 : Int))]) w4) else (
  ixS sl_0b sl_0l n12_2 1 fun a24_8 =>
  ldS a24_8 w4 fun s25_9b s25_9l s25_9c =>
  Calls Pg fn_plaitref05_from #[(Value.slice s25_9b s25_9l s25_9c), (Value.int .i64 n12_3)] w4 fun e12 w11 => ∃ s27_10b : Option Addr, ∃ s27_10l : Nat, ∃ s27_10c : Nat, e12 = .returned (Value.slice s27_10b s27_10l s27_10c) ∧
  0 ≤ (1 : Int) ∧ (1 : Int) ≤ ((s27_10l : Nat) : Int) ∧ (Calls Pg fn_plaitref05_without #[(Value.slice sl_0b sl_0l sl_0c), (Value.int .i64 n12_2), (Value.int .i64 n12_2)] (World.drew w11) fun e15 w14 => ∃ s31_13b : Option Addr, ∃ s31_13l : Nat, ∃ s31_13c : Nat, e15 = .returned (Value.slice s31_13b s31_13l s31_13c) ∧
  alo #[(Value.int .i64 nx_1)] T_int w14 fun a16 w17 =>
  alo #[(Value.slice (some a16) 1 1), (Value.slice (if s27_10c = (Int.toNat (1 : Int)) then s27_10b else Option.map (fun a => Addr.add a ((Int.toNat (1 : Int)) * 1)) s27_10b) (s27_10l - (Int.toNat (1 : Int))) (s27_10c - (Int.toNat (1 : Int))))] T_sl_int w17 fun a18 w19 =>
  ∃ s37_20b : Option Addr, ∃ s37_20l : Nat, ∃ s37_20c : Nat, ∃ w21 : World, (Builtin.append_ #[T_sl_sl_int, T_sl_sl_int] T_sl_sl_int #[(Value.slice s31_13b s31_13l s31_13c), (Value.slice (some a18) 2 2)]).run Pg w19 = .ok (Value.slice s37_20b s37_20l s37_20c) w21 ∧
  R (Value.tuple #[(Value.slice s37_20b s37_20l s37_20c), (Value.int .i64 (0 : Int))]) w21) ∧ (
  alo #[(Value.int .i64 nx_1)] T_int (World.drew w11) fun a22 w23 =>
  (Calls Pg fn_plaitref05_without #[(Value.slice sl_0b sl_0l sl_0c), (Value.int .i64 n12_2), (Value.int .i64 n12_2)] w23 fun e26 w25 => ∃ s31_24b : Option Addr, ∃ s31_24l : Nat, ∃ s31_24c : Nat, e26 = .returned (Value.slice s31_24b s31_24l s31_24c) ∧
  alo #[(Value.slice (some a22) 1 1), (Value.slice (if s27_10c = (Int.toNat (1 : Int)) then s27_10b else Option.map (fun a => Addr.add a ((Int.toNat (1 : Int)) * 1)) s27_10b) (s27_10l - (Int.toNat (1 : Int))) (s27_10c - (Int.toNat (1 : Int))))] T_sl_int w25 fun a27 w28 =>
  ∃ s37_29b : Option Addr, ∃ s37_29l : Nat, ∃ s37_29c : Nat, ∃ w30 : World, (Builtin.append_ #[T_sl_sl_int, T_sl_sl_int] T_sl_sl_int #[(Value.slice s31_24b s31_24l s31_24c), (Value.slice (some a27) 2 2)]).run Pg w28 = .ok (Value.slice s37_29b s37_29l s37_29c) w30 ∧
  R (Value.tuple #[(Value.slice s37_29b s37_29l s37_29c), (Value.int .i64 (0 : Int))]) w30) ∧ (
  alo #[(Value.slice (some a22) 1 1), (Value.slice (if s27_10c = (Int.toNat (1 : Int)) then s27_10b else Option.map (fun a => Addr.add a ((Int.toNat (1 : Int)) * 1)) s27_10b) (s27_10l - (Int.toNat (1 : Int))) (s27_10c - (Int.toNat (1 : Int))))] T_sl_int w23 fun a31 w32 =>
  Calls Pg fn_plaitref05_without #[(Value.slice sl_0b sl_0l sl_0c), (Value.int .i64 n12_2), (Value.int .i64 n12_2)] w32 fun e35 w34 => ∃ s31_33b : Option Addr, ∃ s31_33l : Nat, ∃ s31_33c : Nat, e35 = .returned (Value.slice s31_33b s31_33l s31_33c) ∧
  ∃ s37_36b : Option Addr, ∃ s37_36l : Nat, ∃ s37_36c : Nat, ∃ w37 : World, (Builtin.append_ #[T_sl_sl_int, T_sl_sl_int] T_sl_sl_int #[(Value.slice s31_33b s31_33l s31_33c), (Value.slice (some a31) 2 2)]).run Pg w34 = .ok (Value.slice s37_36b s37_36l s37_36c) w37 ∧
  R (Value.tuple #[(Value.slice s37_36b s37_36l s37_36c), (Value.int .i64 (0 : Int))]) w37)))
theorem eq_plaitref05_Apart (sl_0b : Option Addr) (sl_0l : Nat) (sl_0c : Nat) (nx_1 : Int) (w : World) (R : Value → World → Prop) : sh_plaitref05_Apart sl_0b sl_0l sl_0c nx_1 w R = denF Pg Eall Tryd.f47 (.seq (.leaf) (.seq (.leaf) (.seq (.seq (.leaf) (.cond (.seq (.leaf) (.leaf)) (.leaf))) (.seq (.leaf) (.seq (.reg (.tk 0 [] [] (.tk 1 [] [] (.tk 2 [] [] (.tk 4 [] [] (.tk 6 [] [] (.tk 7 [] [] (.two 3 (.one 5 (.one 8 (.one 9 (.tk 10 [] [] (.tk 11 [] [] (.fin)))))) 5 (.two 3 (.one 8 (.one 9 (.tk 10 [] [] (.tk 11 [] [] (.fin))))) 8 (.one 3 (.one 9 (.tk 10 [] [] (.tk 11 [] [] (.fin)))))))))))))) (.leaf)))))) [(Value.slice sl_0b sl_0l sl_0c), (Value.int .i64 nx_1)] w R := by kernel_rfl
theorem calls_plaitref05_Apart (sl_0b : Option Addr) (sl_0l : Nat) (sl_0c : Nat) (nx_1 : Int) (w : World) (R : Value → World → Prop) (h : sh_plaitref05_Apart sl_0b sl_0l sl_0c nx_1 w R) : Calls Pg fn_plaitref05_Apart #[(Value.slice sl_0b sl_0l sl_0c), (Value.int .i64 nx_1)] w fun e w' => ∃ v, e = .returned v ∧ R v w' :=
  calls_of_den Eall_enter wide_mixed Tryd.func47 (by rw [← eq_plaitref05_Apart]; exact h)

/-- 'plait/plaitref05.Turn' -/
def sh_plaitref05_Turn (sl_0b : Option Addr) (sl_0l : Nat) (sl_0c : Nat) (nx_1 : Int) (w : World) (R : Value → World → Prop) : Prop :=
  Calls Pg fn_plaitref04_Find #[(Value.slice sl_0b sl_0l sl_0c), (Value.int .i64 nx_1)] w fun e5 w4 => ∃ n10_2 : Int, ∃ n10_3 : Int, e5 = .returned (Value.tuple #[(Value.int .i64 n10_2), (Value.int .i64 n10_3)]) ∧
  ixS sl_0b sl_0l n10_2 1 fun a19_6 =>
  ldS a19_6 (World.drew w4) fun s20_7b s20_7l s20_7c =>
  Calls Pg fn_plaitref05_without #[(Value.slice sl_0b sl_0l sl_0c), (Value.int .i64 n10_2), (Value.int .i64 n10_2)] (World.drew w4) fun e10 w9 => ∃ s16_8b : Option Addr, ∃ s16_8l : Nat, ∃ s16_8c : Nat, e10 = .returned (Value.slice s16_8b s16_8l s16_8c) ∧
  World.cell? w9 a19_6 = some (Value.slice s20_7b s20_7l s20_7c) ∧ Calls Pg fn_plaitref05_from #[(Value.slice s20_7b s20_7l s20_7c), (Value.int .i64 n10_3)] w9 fun e13 w12 => ∃ s22_11b : Option Addr, ∃ s22_11l : Nat, ∃ s22_11c : Nat, e13 = .returned (Value.slice s22_11b s22_11l s22_11c) ∧
  alo #[(Value.slice s22_11b s22_11l s22_11c)] T_sl_int w12 fun a14 w15 =>
  ∃ s24_16b : Option Addr, ∃ s24_16l : Nat, ∃ s24_16c : Nat, ∃ w17 : World, (Builtin.append_ #[T_sl_sl_int, T_sl_sl_int] T_sl_sl_int #[(Value.slice s16_8b s16_8l s16_8c), (Value.slice (some a14) 1 1)]).run Pg w15 = .ok (Value.slice s24_16b s24_16l s24_16c) w17 ∧
  R (Value.slice s24_16b s24_16l s24_16c) w17
theorem eq_plaitref05_Turn (sl_0b : Option Addr) (sl_0l : Nat) (sl_0c : Nat) (nx_1 : Int) (w : World) (R : Value → World → Prop) : sh_plaitref05_Turn sl_0b sl_0l sl_0c nx_1 w R = denF Pg Eall Tryd.f48 (.seq (.leaf) (.seq (.leaf) (.seq (.reg (.tk 0 [] [] (.tk 1 [] [] (.tk 2 [] [] (.tk 4 [] [] (.tk 5 [] [] (.tk 6 [] [] (.tk 7 [9, 10, 11, 12] [9, 10, 11] (.tk 8 [] [] (.one 3 (.one 9 (.one 10 (.one 11 (.tk 12 [] [] (.fin))))))))))))))) (.leaf)))) [(Value.slice sl_0b sl_0l sl_0c), (Value.int .i64 nx_1)] w R := by kernel_rfl
theorem calls_plaitref05_Turn (sl_0b : Option Addr) (sl_0l : Nat) (sl_0c : Nat) (nx_1 : Int) (w : World) (R : Value → World → Prop) (h : sh_plaitref05_Turn sl_0b sl_0l sl_0c nx_1 w R) : Calls Pg fn_plaitref05_Turn #[(Value.slice sl_0b sl_0l sl_0c), (Value.int .i64 nx_1)] w fun e w' => ∃ v, e = .returned v ∧ R v w' :=
  calls_of_den Eall_enter wide_mixed Tryd.func48 (by rw [← eq_plaitref05_Turn]; exact h)

/-- 'plait/plaitref05.Merge' -/
def sh_plaitref05_Merge (sl_0b : Option Addr) (sl_0l : Nat) (sl_0c : Nat) (na_1 : Int) (nb_2 : Int) (w : World) (R : Value → World → Prop) : Prop :=
  Calls Pg fn_plaitref04_Find #[(Value.slice sl_0b sl_0l sl_0c), (Value.int .i64 na_1)] w fun e6 w5 => ∃ n15_3 : Int, ∃ n15_4 : Int, e6 = .returned (Value.tuple #[(Value.int .i64 n15_3), (Value.int .i64 n15_4)]) ∧
  Calls Pg fn_plaitref04_Find #[(Value.slice sl_0b sl_0l sl_0c), (Value.int .i64 nb_2)] w5 fun e10 w9 => ∃ n21_7 : Int, ∃ n21_8 : Int, e10 = .returned (Value.tuple #[(Value.int .i64 n21_7), (Value.int .i64 n21_8)]) ∧
  bif (n15_3 == n21_7) then (
  R (Value.tuple #[(Value.slice sl_0b sl_0l sl_0c), (Value.int .i64 (20 : Int))]) w9) else (
  ixS sl_0b sl_0l n15_3 1 fun a34_11 =>
  ldS a34_11 (World.drew w9) fun s35_12b s35_12l s35_12c =>
  ixS sl_0b sl_0l n21_7 1 fun a40_13 =>
  ldS a40_13 (World.drew w9) fun s41_14b s41_14l s41_14c =>
  Calls Pg fn_plaitref05_without #[(Value.slice sl_0b sl_0l sl_0c), (Value.int .i64 n15_3), (Value.int .i64 n21_7)] (World.drew w9) fun e17 w16 => ∃ s31_15b : Option Addr, ∃ s31_15l : Nat, ∃ s31_15c : Nat, e17 = .returned (Value.slice s31_15b s31_15l s31_15c) ∧
  World.cell? w16 a40_13 = some (Value.slice s41_14b s41_14l s41_14c) ∧ World.cell? w16 a34_11 = some (Value.slice s35_12b s35_12l s35_12c) ∧ Calls Pg fn_plaitref05_from #[(Value.slice s35_12b s35_12l s35_12c), (Value.int .i64 n15_4)] w16 fun e20 w19 => ∃ s37_18b : Option Addr, ∃ s37_18l : Nat, ∃ s37_18c : Nat, e20 = .returned (Value.slice s37_18b s37_18l s37_18c) ∧
  World.cell? w19 a40_13 = some (Value.slice s41_14b s41_14l s41_14c) ∧ Calls Pg fn_plaitref05_from #[(Value.slice s41_14b s41_14l s41_14c), (Value.int .i64 n21_8)] w19 fun e23 w22 => ∃ s43_21b : Option Addr, ∃ s43_21l : Nat, ∃ s43_21c : Nat, e23 = .returned (Value.slice s43_21b s43_21l s43_21c) ∧
  ∃ s44_24b : Option Addr, ∃ s44_24l : Nat, ∃ s44_24c : Nat, ∃ w25 : World, (Builtin.append_ #[T_sl_int, T_sl_int] T_sl_int #[(Value.slice s37_18b s37_18l s37_18c), (Value.slice s43_21b s43_21l s43_21c)]).run Pg w22 = .ok (Value.slice s44_24b s44_24l s44_24c) w25 ∧
  alo #[(Value.slice s44_24b s44_24l s44_24c)] T_sl_int w25 fun a26 w27 =>
  ∃ s46_28b : Option Addr, ∃ s46_28l : Nat, ∃ s46_28c : Nat, ∃ w29 : World, (Builtin.append_ #[T_sl_sl_int, T_sl_sl_int] T_sl_sl_int #[(Value.slice s31_15b s31_15l s31_15c), (Value.slice (some a26) 1 1)]).run Pg w27 = .ok (Value.slice s46_28b s46_28l s46_28c) w29 ∧
  R (Value.tuple #[(Value.slice s46_28b s46_28l s46_28c), (Value.int .i64 (0 : Int))]) w29)
theorem eq_plaitref05_Merge (sl_0b : Option Addr) (sl_0l : Nat) (sl_0c : Nat) (na_1 : Int) (nb_2 : Int) (w : World) (R : Value → World → Prop) : sh_plaitref05_Merge sl_0b sl_0l sl_0c na_1 nb_2 w R = denF Pg Eall Tryd.f49 (.seq (.leaf) (.seq (.leaf) (.seq (.leaf) (.seq (.seq (.leaf) (.cond (.seq (.leaf) (.leaf)) (.leaf))) (.seq (.reg (.tk 0 [] [] (.tk 1 [] [] (.tk 2 [] [] (.tk 4 [] [] (.tk 5 [] [] (.tk 6 [] [] (.tk 7 [9, 15, 16, 17, 18, 19, 20] [9, 15, 16, 17, 18] (.tk 8 [] [] (.tk 10 [] [] (.tk 11 [] [] (.tk 12 [] [] (.tk 13 [15, 16, 17, 18, 19, 20] [15, 16, 17, 18] (.tk 14 [] [] (.one 3 (.one 9 (.one 15 (.one 16 (.one 17 (.one 18 (.tk 19 [] [] (.tk 20 [] [] (.fin))))))))))))))))))))))) (.leaf)))))) [(Value.slice sl_0b sl_0l sl_0c), (Value.int .i64 na_1), (Value.int .i64 nb_2)] w R := by kernel_rfl
theorem calls_plaitref05_Merge (sl_0b : Option Addr) (sl_0l : Nat) (sl_0c : Nat) (na_1 : Int) (nb_2 : Int) (w : World) (R : Value → World → Prop) (h : sh_plaitref05_Merge sl_0b sl_0l sl_0c na_1 nb_2 w R) : Calls Pg fn_plaitref05_Merge #[(Value.slice sl_0b sl_0l sl_0c), (Value.int .i64 na_1), (Value.int .i64 nb_2)] w fun e w' => ∃ v, e = .returned v ∧ R v w' :=
  calls_of_den Eall_enter wide_mixed Tryd.func49 (by rw [← eq_plaitref05_Merge]; exact h)

/-- 'plait/plaitref05.from' -/
def sh_plaitref05_from (sl_0b : Option Addr) (sl_0l : Nat) (sl_0c : Nat) (nat_1 : Int) (w : World) (R : Value → World → Prop) : Prop :=
  0 ≤ nat_1 ∧ nat_1 ≤ ((sl_0l : Nat) : Int) ∧ 0 ≤ nat_1 ∧ nat_1 ≤ ((sl_0c : Nat) : Int) ∧ ∃ s10_2b : Option Addr, ∃ s10_2l : Nat, ∃ s10_2c : Nat, ∃ w3 : World, (Builtin.append_ #[T_sl_int, T_sl_int] T_sl_int #[(Value.slice none 0 0), (Value.slice (if sl_0c = (Int.toNat nat_1) then sl_0b else Option.map (fun a => Addr.add a ((Int.toNat nat_1) * 1)) sl_0b) (sl_0l - (Int.toNat nat_1)) (sl_0c - (Int.toNat nat_1)))]).run Pg (World.drew w) = .ok (Value.slice s10_2b s10_2l s10_2c) w3 ∧
  ∃ s14_4b : Option Addr, ∃ s14_4l : Nat, ∃ s14_4c : Nat, ∃ w5 : World, (Builtin.append_ #[T_sl_int, T_sl_int] T_sl_int #[(Value.slice s10_2b s10_2l s10_2c), (Value.slice (if sl_0c = 0 then sl_0b else Option.map (fun a => Addr.add a (0 * 1)) sl_0b) ((Int.toNat nat_1) - 0) (sl_0c - 0))]).run Pg w3 = .ok (Value.slice s14_4b s14_4l s14_4c) w5 ∧
  R (Value.slice s14_4b s14_4l s14_4c) w5
theorem eq_plaitref05_from (sl_0b : Option Addr) (sl_0l : Nat) (sl_0c : Nat) (nat_1 : Int) (w : World) (R : Value → World → Prop) : sh_plaitref05_from sl_0b sl_0l sl_0c nat_1 w R = denF Pg Eall Tryd.f107 (.seq (.leaf) (.seq (.leaf) (.seq (.reg (.tk 0 [] [] (.tk 1 [] [] (.tk 2 [] [] (.tk 3 [] [] (.tk 5 [] [] (.tk 6 [] [] (.tk 7 [] [] (.one 4 (.one 8 (.tk 9 [] [] (.fin)))))))))))) (.leaf)))) [(Value.slice sl_0b sl_0l sl_0c), (Value.int .i64 nat_1)] w R := by kernel_rfl
theorem calls_plaitref05_from (sl_0b : Option Addr) (sl_0l : Nat) (sl_0c : Nat) (nat_1 : Int) (w : World) (R : Value → World → Prop) (h : sh_plaitref05_from sl_0b sl_0l sl_0c nat_1 w R) : Calls Pg fn_plaitref05_from #[(Value.slice sl_0b sl_0l sl_0c), (Value.int .i64 nat_1)] w fun e w' => ∃ v, e = .returned v ∧ R v w' :=
  calls_of_den Eall_enter wide_mixed Tryd.func107 (by rw [← eq_plaitref05_from]; exact h)

/-- 'plait/plaitref05.without' -/
def sh_plaitref05_without (sl_0b : Option Addr) (sl_0l : Nat) (sl_0c : Nat) (na_1 : Int) (nb_2 : Int) (w : World) (R : Value → World → Prop) : Prop :=
  ∃ (I3 : List Value → World → Prop) (m4 : List Value → World → Nat), I3 [(Value.slice none 0 0), (Value.int .i64 (0 : Int))] w ∧
  ∀ _ : Env, ∀ s5b : Option Addr, ∀ s5l : Nat, ∀ s5c : Nat, ∀ n6 : Int, ∀ w7 : World, I3 [(Value.slice s5b s5l s5c), (Value.int .i64 n6)] w7 →
  bif (decide (n6 < (sl_0l : Int))) then (
  bif (n6 != na_1) then (
  bif (n6 != nb_2) then (
  ixS sl_0b sl_0l n6 1 fun a26_8 =>
  ldS a26_8 w7 fun s27_9b s27_9l s27_9c =>
  alo #[(Value.slice s27_9b s27_9l s27_9c)] T_sl_int w7 fun a10 w11 =>
  ∃ s29_12b : Option Addr, ∃ s29_12l : Nat, ∃ s29_12c : Nat, ∃ w13 : World, (Builtin.append_ #[T_sl_sl_int, T_sl_sl_int] T_sl_sl_int #[(Value.slice s5b s5l s5c), (Value.slice (some a10) 1 1)]).run Pg w11 = .ok (Value.slice s29_12b s29_12l s29_12c) w13 ∧
  (I3 [(Value.slice s29_12b s29_12l s29_12c), (Value.int .i64 (IntKind.wrap .i64 (n6 + (1 : Int))))] w13 ∧ m4 [(Value.slice s29_12b s29_12l s29_12c), (Value.int .i64 (IntKind.wrap .i64 (n6 + (1 : Int))))] w13 < m4 [(Value.slice s5b s5l s5c), (Value.int .i64 n6)] w7)) else (
  (I3 [(Value.slice s5b s5l s5c), (Value.int .i64 (IntKind.wrap .i64 (n6 + (1 : Int))))] w7 ∧ m4 [(Value.slice s5b s5l s5c), (Value.int .i64 (IntKind.wrap .i64 (n6 + (1 : Int))))] w7 < m4 [(Value.slice s5b s5l s5c), (Value.int .i64 n6)] w7))) else (
  (I3 [(Value.slice s5b s5l s5c), (Value.int .i64 (IntKind.wrap .i64 (n6 + (1 : Int))))] w7 ∧ m4 [(Value.slice s5b s5l s5c), (Value.int .i64 (IntKind.wrap .i64 (n6 + (1 : Int))))] w7 < m4 [(Value.slice s5b s5l s5c), (Value.int .i64 n6)] w7))) else (
  R (Value.slice s5b s5l s5c) w7)
theorem eq_plaitref05_without (sl_0b : Option Addr) (sl_0l : Nat) (sl_0c : Nat) (na_1 : Int) (nb_2 : Int) (w : World) (R : Value → World → Prop) : sh_plaitref05_without sl_0b sl_0l sl_0c na_1 nb_2 w R = denF Pg Eall Tryd.f108 (.seq (.leaf) (.seq (.leaf) (.seq (.seq (.leaf) (.block (.loop [7, 8] [.one (.slc), .one (.int .i64)] (.seq (.seq (.leaf) (.cond (.leaf) (.leaf))) (.seq (.block (.seq (.leaf) (.cond (.leaf) (.leaf)))) (.leaf)))))) (.seq (.leaf) (.leaf))))) [(Value.slice sl_0b sl_0l sl_0c), (Value.int .i64 na_1), (Value.int .i64 nb_2)] w R := by kernel_rfl
theorem calls_plaitref05_without (sl_0b : Option Addr) (sl_0l : Nat) (sl_0c : Nat) (na_1 : Int) (nb_2 : Int) (w : World) (R : Value → World → Prop) (h : sh_plaitref05_without sl_0b sl_0l sl_0c na_1 nb_2 w R) : Calls Pg fn_plaitref05_without #[(Value.slice sl_0b sl_0l sl_0c), (Value.int .i64 na_1), (Value.int .i64 nb_2)] w fun e w' => ∃ v, e = .returned v ∧ R v w' :=
  calls_of_den Eall_enter wide_mixed Tryd.func108 (by rw [← eq_plaitref05_without]; exact h)

/-- 'plait/plaitref05.Walk' -/
def sh_plaitref05_Walk (sl_0b : Option Addr) (sl_0l : Nat) (sl_0c : Nat) (nx_1 : Int) (w : World) (R : Value → World → Prop) : Prop :=
  Calls Pg fn_plaitref04_Find #[(Value.slice sl_0b sl_0l sl_0c), (Value.int .i64 nx_1)] w fun e5 w4 => ∃ n10_2 : Int, ∃ n10_3 : Int, e5 = .returned (Value.tuple #[(Value.int .i64 n10_2), (Value.int .i64 n10_3)]) ∧
  ixS sl_0b sl_0l n10_2 1 fun a15_6 =>
  ldS a15_6 w4 fun s16_7b s16_7l s16_7c =>
  Calls Pg fn_plaitref05_from #[(Value.slice s16_7b s16_7l s16_7c), (Value.int .i64 n10_3)] w4 fun e10 w9 => ∃ s18_8b : Option Addr, ∃ s18_8l : Nat, ∃ s18_8c : Nat, e10 = .returned (Value.slice s18_8b s18_8l s18_8c) ∧
  R (Value.slice s18_8b s18_8l s18_8c) w9
theorem eq_plaitref05_Walk (sl_0b : Option Addr) (sl_0l : Nat) (sl_0c : Nat) (nx_1 : Int) (w : World) (R : Value → World → Prop) : sh_plaitref05_Walk sl_0b sl_0l sl_0c nx_1 w R = denF Pg Eall Tryd.f109 (.seq (.leaf) (.seq (.leaf) (.seq (.leaf) (.leaf)))) [(Value.slice sl_0b sl_0l sl_0c), (Value.int .i64 nx_1)] w R := by kernel_rfl
theorem calls_plaitref05_Walk (sl_0b : Option Addr) (sl_0l : Nat) (sl_0c : Nat) (nx_1 : Int) (w : World) (R : Value → World → Prop) (h : sh_plaitref05_Walk sl_0b sl_0l sl_0c nx_1 w R) : Calls Pg fn_plaitref05_Walk #[(Value.slice sl_0b sl_0l sl_0c), (Value.int .i64 nx_1)] w fun e w' => ∃ v, e = .returned v ∧ R v w' :=
  calls_of_den Eall_enter wide_mixed Tryd.func109 (by rw [← eq_plaitref05_Walk]; exact h)

end Go.Proofs.YtledchlbmilneaaDoor
