/-
What each function does, as one formula, printed by a program of this session out of the translation; the kernel holds each print against the translation.
Conditions: none.
-/
import Derived.Test.YtledchlbmilneaaDoorSn
namespace Go.Proofs.YtledchlbmilneaaDoor
open Go
set_option linter.unusedVariables false
set_option maxRecDepth 100000
/-- 'plait/plaitref06.Find' -/
def sh_plaitref06_Find (slinks_0b : Option Addr) (slinks_0l : Nat) (slinks_0c : Nat) (na_1 : Int) (nb_2 : Int) (w : World) (R : Value → World → Prop) : Prop :=
  ∃ (I3 : List Value → World → Prop) (m4 : List Value → World → Nat), I3 [(Value.int .i64 (0 : Int))] w ∧
  ∀ _ : Env, ∀ n5 : Int, ∀ w6 : World, I3 [(Value.int .i64 n5)] w6 →
  bif (decide (n5 < (slinks_0l : Int))) then (
  ixS slinks_0b slinks_0l n5 2 fun a16_7 =>
  ixA a16_7 2 (0 : Int) 1 fun a17_8 =>
  ldI .i64 a17_8 w6 fun n18_9 =>
  bif (n18_9 == na_1) then (
  ixS slinks_0b slinks_0l n5 2 fun a24_10 =>
  ixA a24_10 2 (1 : Int) 1 fun a25_11 =>
  ldI .i64 a25_11 w6 fun n26_12 =>
  bif (n26_12 == nb_2) then (
  R (Value.int .i64 n5) w6) else (
  ixS slinks_0b slinks_0l n5 2 fun a33_13 =>
  ixA a33_13 2 (0 : Int) 1 fun a34_14 =>
  ldI .i64 a34_14 w6 fun n35_15 =>
  bif (n35_15 == nb_2) then (
  ixS slinks_0b slinks_0l n5 2 fun a41_16 =>
  ixA a41_16 2 (1 : Int) 1 fun a42_17 =>
  ldI .i64 a42_17 w6 fun n43_18 =>
  bif (n43_18 == na_1) then (
  R (Value.int .i64 n5) w6) else (
  (I3 [(Value.int .i64 (IntKind.wrap .i64 (n5 + (1 : Int))))] w6 ∧ m4 [(Value.int .i64 (IntKind.wrap .i64 (n5 + (1 : Int))))] w6 < m4 [(Value.int .i64 n5)] w6))) else (
  (I3 [(Value.int .i64 (IntKind.wrap .i64 (n5 + (1 : Int))))] w6 ∧ m4 [(Value.int .i64 (IntKind.wrap .i64 (n5 + (1 : Int))))] w6 < m4 [(Value.int .i64 n5)] w6)))) else (
  ixS slinks_0b slinks_0l n5 2 fun a33_19 =>
  ixA a33_19 2 (0 : Int) 1 fun a34_20 =>
  ldI .i64 a34_20 w6 fun n35_21 =>
  bif (n35_21 == nb_2) then (
  ixS slinks_0b slinks_0l n5 2 fun a41_22 =>
  ixA a41_22 2 (1 : Int) 1 fun a42_23 =>
  ldI .i64 a42_23 w6 fun n43_24 =>
  bif (n43_24 == na_1) then (
  R (Value.int .i64 n5) w6) else (
  (I3 [(Value.int .i64 (IntKind.wrap .i64 (n5 + (1 : Int))))] w6 ∧ m4 [(Value.int .i64 (IntKind.wrap .i64 (n5 + (1 : Int))))] w6 < m4 [(Value.int .i64 n5)] w6))) else (
  (I3 [(Value.int .i64 (IntKind.wrap .i64 (n5 + (1 : Int))))] w6 ∧ m4 [(Value.int .i64 (IntKind.wrap .i64 (n5 + (1 : Int))))] w6 < m4 [(Value.int .i64 n5)] w6)))) else (
  R (Value.int .i64 (-1 : Int)) w6)
theorem eq_plaitref06_Find (slinks_0b : Option Addr) (slinks_0l : Nat) (slinks_0c : Nat) (na_1 : Int) (nb_2 : Int) (w : World) (R : Value → World → Prop) : sh_plaitref06_Find slinks_0b slinks_0l slinks_0c na_1 nb_2 w R = denF Pg Eall Tryd.f66 (.seq (.leaf) (.seq (.seq (.leaf) (.block (.loop [7] [.one (.int .i64)] (.seq (.seq (.leaf) (.cond (.leaf) (.leaf))) (.seq (.block (.seq (.leaf) (.cond (.seq (.leaf) (.leaf)) (.leaf)))) (.leaf)))))) (.seq (.leaf) (.leaf)))) [(Value.slice slinks_0b slinks_0l slinks_0c), (Value.int .i64 na_1), (Value.int .i64 nb_2)] w R := by kernel_rfl
theorem calls_plaitref06_Find (slinks_0b : Option Addr) (slinks_0l : Nat) (slinks_0c : Nat) (na_1 : Int) (nb_2 : Int) (w : World) (R : Value → World → Prop) (h : sh_plaitref06_Find slinks_0b slinks_0l slinks_0c na_1 nb_2 w R) : Calls Pg fn_plaitref06_Find #[(Value.slice slinks_0b slinks_0l slinks_0c), (Value.int .i64 na_1), (Value.int .i64 nb_2)] w fun e w' => ∃ v, e = .returned v ∧ R v w' :=
  calls_of_den Eall_enter wide_mixed Tryd.func66 (by rw [← eq_plaitref06_Find]; exact h)

/-- 'plait/plaitref06.Without' -/
def sh_plaitref06_Without (slinks_0b : Option Addr) (slinks_0l : Nat) (slinks_0c : Nat) (ni_1 : Int) (w : World) (R : Value → World → Prop) : Prop :=
  0 ≤ ni_1 ∧ ni_1 ≤ ((slinks_0c : Nat) : Int) ∧ 0 ≤ (IntKind.wrap .i64 (ni_1 + (1 : Int))) ∧ (IntKind.wrap .i64 (ni_1 + (1 : Int))) ≤ ((slinks_0l : Nat) : Int) ∧ ∃ s10_2b : Option Addr, ∃ s10_2l : Nat, ∃ s10_2c : Nat, ∃ w3 : World, (Builtin.append_ #[T_sl__2int, T_sl__2int] T_sl__2int #[(Value.slice none 0 0), (Value.slice (if slinks_0c = 0 then slinks_0b else Option.map (fun a => Addr.add a (0 * 2)) slinks_0b) ((Int.toNat ni_1) - 0) (slinks_0c - 0))]).run Pg (World.drew w) = .ok (Value.slice s10_2b s10_2l s10_2c) w3 ∧
  ∃ s15_4b : Option Addr, ∃ s15_4l : Nat, ∃ s15_4c : Nat, ∃ w5 : World, (Builtin.append_ #[T_sl__2int, T_sl__2int] T_sl__2int #[(Value.slice s10_2b s10_2l s10_2c), (Value.slice (if slinks_0c = (Int.toNat (IntKind.wrap .i64 (ni_1 + (1 : Int)))) then slinks_0b else Option.map (fun a => Addr.add a ((Int.toNat (IntKind.wrap .i64 (ni_1 + (1 : Int)))) * 2)) slinks_0b) (slinks_0l - (Int.toNat (IntKind.wrap .i64 (ni_1 + (1 : Int))))) (slinks_0c - (Int.toNat (IntKind.wrap .i64 (ni_1 + (1 : Int))))))]).run Pg w3 = .ok (Value.slice s15_4b s15_4l s15_4c) w5 ∧
  R (Value.slice s15_4b s15_4l s15_4c) w5
theorem eq_plaitref06_Without (slinks_0b : Option Addr) (slinks_0l : Nat) (slinks_0c : Nat) (ni_1 : Int) (w : World) (R : Value → World → Prop) : sh_plaitref06_Without slinks_0b slinks_0l slinks_0c ni_1 w R = denF Pg Eall Tryd.f67 (.seq (.leaf) (.seq (.leaf) (.seq (.reg (.tk 0 [] [] (.tk 1 [] [] (.tk 2 [] [] (.tk 3 [] [] (.tk 5 [] [] (.tk 6 [] [] (.tk 7 [] [] (.tk 8 [] [] (.one 4 (.one 9 (.tk 10 [] [] (.fin))))))))))))) (.leaf)))) [(Value.slice slinks_0b slinks_0l slinks_0c), (Value.int .i64 ni_1)] w R := by kernel_rfl
theorem calls_plaitref06_Without (slinks_0b : Option Addr) (slinks_0l : Nat) (slinks_0c : Nat) (ni_1 : Int) (w : World) (R : Value → World → Prop) (h : sh_plaitref06_Without slinks_0b slinks_0l slinks_0c ni_1 w R) : Calls Pg fn_plaitref06_Without #[(Value.slice slinks_0b slinks_0l slinks_0c), (Value.int .i64 ni_1)] w fun e w' => ∃ v, e = .returned v ∧ R v w' :=
  calls_of_den Eall_enter wide_mixed Tryd.func67 (by rw [← eq_plaitref06_Without]; exact h)

/-- 'plait/plaitref06.Road' -/
def sh_plaitref06_Road (nn_0 : Int) (slinks_1b : Option Addr) (slinks_1l : Nat) (slinks_1c : Nat) (na_2 : Int) (nb_3 : Int) (w : World) (R : Value → World → Prop) : Prop :=
  0 ≤ nn_0 ∧ nn_0 ≤ nn_0 ∧ (8 : Int) * nn_0 ≤ 140737488355328 ∧ alo (zerosOf #[(Value.int .i64 (0 : Int))] (Int.toNat nn_0)) T_int w fun a4 w5 =>
  ∃ (I6 : List Value → World → Prop) (m7 : List Value → World → Nat), I6 [(Value.int .i64 (0 : Int))] w5 ∧
  ∀ _ : Env, ∀ n8 : Int, ∀ w9 : World, I6 [(Value.int .i64 n8)] w9 →
  bif (decide (n8 < nn_0)) then (
  ixS (some a4) (Int.toNat nn_0) n8 1 fun a26_10 =>
  sto a26_10 (Value.int .i64 (-1 : Int)) w9 fun w11 =>
  (I6 [(Value.int .i64 (IntKind.wrap .i64 (n8 + (1 : Int))))] w11 ∧ m7 [(Value.int .i64 (IntKind.wrap .i64 (n8 + (1 : Int))))] w11 < m7 [(Value.int .i64 n8)] w9)) else (
  ixS (some a4) (Int.toNat nn_0) na_2 1 fun a30_12 =>
  sto a30_12 (Value.int .i64 na_2) w9 fun w13 =>
  alo #[(Value.int .i64 na_2)] T_int w13 fun a14 w15 =>
  ∃ (I16 : List Value → World → Prop) (m17 : List Value → World → Nat), I16 [(Value.slice (some a14) 1 1), (Value.int .i64 (0 : Int))] w15 ∧
  ∀ _ : Env, ∀ s18b : Option Addr, ∀ s18l : Nat, ∀ s18c : Nat, ∀ n19 : Int, ∀ w20 : World, I16 [(Value.slice s18b s18l s18c), (Value.int .i64 n19)] w20 →
  bif (decide (n19 < (s18l : Int))) then (
  ∃ (I21 : List Value → World → Prop) (m22 : List Value → World → Nat), I21 [(Value.slice s18b s18l s18c), (Value.int .i64 (0 : Int))] w20 ∧
  ∀ _ : Env, ∀ s23b : Option Addr, ∀ s23l : Nat, ∀ s23c : Nat, ∀ n24 : Int, ∀ w25 : World, I21 [(Value.slice s23b s23l s23c), (Value.int .i64 n24)] w25 →
  bif (decide (n24 < (slinks_1l : Int))) then (
  ixS slinks_1b slinks_1l n24 2 fun a47_26 =>
  ixA a47_26 2 (0 : Int) 1 fun a48_27 =>
  ldI .i64 a48_27 (World.drew w25) fun n49_28 =>
  ixS slinks_1b slinks_1l n24 2 fun a52_29 =>
  ixA a52_29 2 (1 : Int) 1 fun a53_30 =>
  ldI .i64 a53_30 (World.drew w25) fun n54_31 =>
  ixS s23b s23l n19 1 fun a58_32 =>
  ldI .i64 a58_32 (World.drew w25) fun n59_33 =>
  bif (n49_28 == n59_33) then (
  ixS (some a4) (Int.toNat nn_0) n54_31 1 fun a64_34 =>
  ldI .i64 a64_34 (World.drew w25) fun n65_35 =>
  bif (decide (n65_35 < (0 : Int))) then (
  ixS (some a4) (Int.toNat nn_0) n54_31 1 fun a71_36 =>
  sto a71_36 (Value.int .i64 n49_28) (World.drew w25) fun w37 =>
  alo #[(Value.int .i64 n54_31)] T_int w37 fun a38 w39 =>
  ∃ s75_40b : Option Addr, ∃ s75_40l : Nat, ∃ s75_40c : Nat, ∃ w41 : World, (Builtin.append_ #[T_sl_int, T_sl_int] T_sl_int #[(Value.slice s23b s23l s23c), (Value.slice (some a38) 1 1)]).run Pg w39 = .ok (Value.slice s75_40b s75_40l s75_40c) w41 ∧
  ixS s75_40b s75_40l n19 1 fun a79_42 =>
  ldI .i64 a79_42 w41 fun n80_43 =>
  bif (n54_31 == n80_43) then (
  ixS (some a4) (Int.toNat nn_0) n49_28 1 fun a85_44 =>
  ldI .i64 a85_44 w41 fun n86_45 =>
  bif (decide (n86_45 < (0 : Int))) then (
  ixS (some a4) (Int.toNat nn_0) n49_28 1 fun a92_46 =>
  sto a92_46 (Value.int .i64 n54_31) w41 fun w47 =>
  alo #[(Value.int .i64 n49_28)] T_int w47 fun a48 w49 =>
  ∃ s96_50b : Option Addr, ∃ s96_50l : Nat, ∃ s96_50c : Nat, ∃ w51 : World, (Builtin.append_ #[T_sl_int, T_sl_int] T_sl_int #[(Value.slice s75_40b s75_40l s75_40c), (Value.slice (some a48) 1 1)]).run Pg w49 = .ok (Value.slice s96_50b s96_50l s96_50c) w51 ∧
  (I21 [(Value.slice s96_50b s96_50l s96_50c), (Value.int .i64 (IntKind.wrap .i64 (n24 + (1 : Int))))] w51 ∧ m22 [(Value.slice s96_50b s96_50l s96_50c), (Value.int .i64 (IntKind.wrap .i64 (n24 + (1 : Int))))] w51 < m22 [(Value.slice s23b s23l s23c), (Value.int .i64 n24)] w25)) else (
  (I21 [(Value.slice s75_40b s75_40l s75_40c), (Value.int .i64 (IntKind.wrap .i64 (n24 + (1 : Int))))] w41 ∧ m22 [(Value.slice s75_40b s75_40l s75_40c), (Value.int .i64 (IntKind.wrap .i64 (n24 + (1 : Int))))] w41 < m22 [(Value.slice s23b s23l s23c), (Value.int .i64 n24)] w25))) else (
  (I21 [(Value.slice s75_40b s75_40l s75_40c), (Value.int .i64 (IntKind.wrap .i64 (n24 + (1 : Int))))] w41 ∧ m22 [(Value.slice s75_40b s75_40l s75_40c), (Value.int .i64 (IntKind.wrap .i64 (n24 + (1 : Int))))] w41 < m22 [(Value.slice s23b s23l s23c), (Value.int .i64 n24)] w25))) else (
  ixS s23b s23l n19 1 fun a79_52 =>
  ldI .i64 a79_52 (World.drew w25) fun n80_53 =>
  bif (n54_31 == n80_53) then (
  ixS (some a4) (Int.toNat nn_0) n49_28 1 fun a85_54 =>
  ldI .i64 a85_54 (World.drew w25) fun n86_55 =>
  bif (decide (n86_55 < (0 : Int))) then (
  ixS (some a4) (Int.toNat nn_0) n49_28 1 fun a92_56 =>
  sto a92_56 (Value.int .i64 n54_31) (World.drew w25) fun w57 =>
  alo #[(Value.int .i64 n49_28)] T_int w57 fun a58 w59 =>
  ∃ s96_60b : Option Addr, ∃ s96_60l : Nat, ∃ s96_60c : Nat, ∃ w61 : World, (Builtin.append_ #[T_sl_int, T_sl_int] T_sl_int #[(Value.slice s23b s23l s23c), (Value.slice (some a58) 1 1)]).run Pg w59 = .ok (Value.slice s96_60b s96_60l s96_60c) w61 ∧
  (I21 [(Value.slice s96_60b s96_60l s96_60c), (Value.int .i64 (IntKind.wrap .i64 (n24 + (1 : Int))))] w61 ∧ m22 [(Value.slice s96_60b s96_60l s96_60c), (Value.int .i64 (IntKind.wrap .i64 (n24 + (1 : Int))))] w61 < m22 [(Value.slice s23b s23l s23c), (Value.int .i64 n24)] w25)) else (
  (I21 [(Value.slice s23b s23l s23c), (Value.int .i64 (IntKind.wrap .i64 (n24 + (1 : Int))))] (World.drew w25) ∧ m22 [(Value.slice s23b s23l s23c), (Value.int .i64 (IntKind.wrap .i64 (n24 + (1 : Int))))] (World.drew w25) < m22 [(Value.slice s23b s23l s23c), (Value.int .i64 n24)] w25))) else (
  (I21 [(Value.slice s23b s23l s23c), (Value.int .i64 (IntKind.wrap .i64 (n24 + (1 : Int))))] (World.drew w25) ∧ m22 [(Value.slice s23b s23l s23c), (Value.int .i64 (IntKind.wrap .i64 (n24 + (1 : Int))))] (World.drew w25) < m22 [(Value.slice s23b s23l s23c), (Value.int .i64 n24)] w25)))) else (
  ixS s23b s23l n19 1 fun a79_62 =>
  ldI .i64 a79_62 (World.drew w25) fun n80_63 =>
  bif (n54_31 == n80_63) then (
  ixS (some a4) (Int.toNat nn_0) n49_28 1 fun a85_64 =>
  ldI .i64 a85_64 (World.drew w25) fun n86_65 =>
  bif (decide (n86_65 < (0 : Int))) then (
  ixS (some a4) (Int.toNat nn_0) n49_28 1 fun a92_66 =>
  sto a92_66 (Value.int .i64 n54_31) (World.drew w25) fun w67 =>
  alo #[(Value.int .i64 n49_28)] T_int w67 fun a68 w69 =>
  ∃ s96_70b : Option Addr, ∃ s96_70l : Nat, ∃ s96_70c : Nat, ∃ w71 : World, (Builtin.append_ #[T_sl_int, T_sl_int] T_sl_int #[(Value.slice s23b s23l s23c), (Value.slice (some a68) 1 1)]).run Pg w69 = .ok (Value.slice s96_70b s96_70l s96_70c) w71 ∧
  (I21 [(Value.slice s96_70b s96_70l s96_70c), (Value.int .i64 (IntKind.wrap .i64 (n24 + (1 : Int))))] w71 ∧ m22 [(Value.slice s96_70b s96_70l s96_70c), (Value.int .i64 (IntKind.wrap .i64 (n24 + (1 : Int))))] w71 < m22 [(Value.slice s23b s23l s23c), (Value.int .i64 n24)] w25)) else (
  (I21 [(Value.slice s23b s23l s23c), (Value.int .i64 (IntKind.wrap .i64 (n24 + (1 : Int))))] (World.drew w25) ∧ m22 [(Value.slice s23b s23l s23c), (Value.int .i64 (IntKind.wrap .i64 (n24 + (1 : Int))))] (World.drew w25) < m22 [(Value.slice s23b s23l s23c), (Value.int .i64 n24)] w25))) else (
  (I21 [(Value.slice s23b s23l s23c), (Value.int .i64 (IntKind.wrap .i64 (n24 + (1 : Int))))] (World.drew w25) ∧ m22 [(Value.slice s23b s23l s23c), (Value.int .i64 (IntKind.wrap .i64 (n24 + (1 : Int))))] (World.drew w25) < m22 [(Value.slice s23b s23l s23c), (Value.int .i64 n24)] w25)))) else (
  (I16 [(Value.slice s23b s23l s23c), (Value.int .i64 (IntKind.wrap .i64 (n19 + (1 : Int))))] w25 ∧ m17 [(Value.slice s23b s23l s23c), (Value.int .i64 (IntKind.wrap .i64 (n19 + (1 : Int))))] w25 < m17 [(Value.slice s18b s18l s18c), (Value.int .i64 n19)] w20))) else (
  ixS (some a4) (Int.toNat nn_0) nb_3 1 fun a99_72 =>
  ldI .i64 a99_72 w20 fun n100_73 =>
  bif (decide (n100_73 < (0 : Int))) then (
  R (Value.slice none 0 0) w20) else (
  alo #[(Value.int .i64 nb_3)] T_int w20 fun a74 w75 =>
  ∃ (I76 : List Value → World → Prop) (m77 : List Value → World → Nat), I76 [(Value.slice (some a74) 1 1)] w75 ∧
  ∀ _ : Env, ∀ s78b : Option Addr, ∀ s78l : Nat, ∀ s78c : Nat, ∀ w79 : World, I76 [(Value.slice s78b s78l s78c)] w79 →
  ixS s78b s78l (0 : Int) 1 fun a105_80 =>
  ldI .i64 a105_80 w79 fun n106_81 =>
  bif (n106_81 != na_2) then (
  ixS s78b s78l (0 : Int) 1 fun a111_82 =>
  ldI .i64 a111_82 w79 fun n112_83 =>
  ixS (some a4) (Int.toNat nn_0) n112_83 1 fun a113_84 =>
  ldI .i64 a113_84 w79 fun n114_85 =>
  alo #[(Value.int .i64 n114_85)] T_int w79 fun a86 w87 =>
  ∃ s117_88b : Option Addr, ∃ s117_88l : Nat, ∃ s117_88c : Nat, ∃ w89 : World, (Builtin.append_ #[T_sl_int, T_sl_int] T_sl_int #[(Value.slice (some a86) 1 1), (Value.slice s78b s78l s78c)]).run Pg w87 = .ok (Value.slice s117_88b s117_88l s117_88c) w89 ∧
  (I76 [(Value.slice s117_88b s117_88l s117_88c)] w89 ∧ m77 [(Value.slice s117_88b s117_88l s117_88c)] w89 < m77 [(Value.slice s78b s78l s78c)] w79)) else (
  R (Value.slice s78b s78l s78c) w79))))
theorem eq_plaitref06_Road (nn_0 : Int) (slinks_1b : Option Addr) (slinks_1l : Nat) (slinks_1c : Nat) (na_2 : Int) (nb_3 : Int) (w : World) (R : Value → World → Prop) : sh_plaitref06_Road nn_0 slinks_1b slinks_1l slinks_1c na_2 nb_3 w R = denF Pg Eall Tryd.f68 (.seq (.leaf) (.seq (.leaf) (.seq (.seq (.leaf) (.block (.loop [10] [.one (.int .i64)] (.seq (.seq (.leaf) (.cond (.leaf) (.leaf))) (.seq (.block (.leaf)) (.leaf)))))) (.seq (.leaf) (.seq (.leaf) (.seq (.seq (.leaf) (.block (.loop [11, 12] [.one (.slc), .one (.int .i64)] (.seq (.seq (.leaf) (.cond (.leaf) (.leaf))) (.seq (.block (.seq (.leaf) (.block (.loop [11, 13] [.one (.slc), .one (.int .i64)] (.seq (.seq (.leaf) (.cond (.leaf) (.leaf))) (.seq (.block (.seq (.reg (.tk 0 [] [] (.tk 1 [] [] (.tk 2 [] [] (.tk 3 [] [] (.tk 4 [] [] (.tk 5 [] [] (.tk 6 [] [] (.tk 7 [] [] (.tk 8 [] [] (.tk 9 [] [] (.tk 10 [] [] (.tk 11 [] [] (.fin)))))))))))))) (.seq (.seq (.leaf) (.cond (.seq (.leaf) (.leaf)) (.leaf))) (.seq (.leaf) (.cond (.seq (.leaf) (.leaf)) (.leaf)))))) (.leaf))))))) (.leaf)))))) (.seq (.seq (.leaf) (.cond (.seq (.leaf) (.leaf)) (.leaf))) (.seq (.leaf) (.seq (.block (.loop [16] [.one (.slc)] (.seq (.seq (.leaf) (.cond (.leaf) (.leaf))) (.block (.leaf))))) (.seq (.leaf) (.leaf))))))))))) [(Value.int .i64 nn_0), (Value.slice slinks_1b slinks_1l slinks_1c), (Value.int .i64 na_2), (Value.int .i64 nb_3)] w R := by kernel_rfl
theorem calls_plaitref06_Road (nn_0 : Int) (slinks_1b : Option Addr) (slinks_1l : Nat) (slinks_1c : Nat) (na_2 : Int) (nb_3 : Int) (w : World) (R : Value → World → Prop) (h : sh_plaitref06_Road nn_0 slinks_1b slinks_1l slinks_1c na_2 nb_3 w R) : Calls Pg fn_plaitref06_Road #[(Value.int .i64 nn_0), (Value.slice slinks_1b slinks_1l slinks_1c), (Value.int .i64 na_2), (Value.int .i64 nb_3)] w fun e w' => ∃ v, e = .returned v ∧ R v w' :=
  calls_of_den Eall_enter wide_mixed Tryd.func68 (by rw [← eq_plaitref06_Road]; exact h)

end Go.Proofs.YtledchlbmilneaaDoor
