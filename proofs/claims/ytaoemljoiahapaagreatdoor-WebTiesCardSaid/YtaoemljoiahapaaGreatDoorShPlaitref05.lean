/-
What each function does, as one formula, printed by a program of this session out of the translation; the kernel holds each print against the translation.
Conditions: none.
-/
import Derived.Test.YtaoemljoiahapaaGreatDoorSn
namespace Go.Proofs.YtaoemljoiahapaaGreatDoor
open Go
set_option linter.unusedVariables false
set_option maxRecDepth 100000
/-- 'plait/plaitref05.Walk' -/
def sh_plaitref05_Walk (sl_0b : Option Addr) (sl_0l : Nat) (sl_0c : Nat) (nx_1 : Int) (w : World) (R : Value → World → Prop) : Prop :=
  Calls Pg fn_plaitref04_Find #[(.slice sl_0b sl_0l sl_0c), (.int .i64 nx_1)] w fun e5 w4 => ∃ n2 : Int, ∃ n3 : Int, e5 = .returned (.tuple #[(.int .i64 n2), (.int .i64 n3)]) ∧
  ixS sl_0b sl_0l n2 1 fun a6 =>
  ldS a6 w4 fun s7b s7l s7c =>
  Calls Pg fn_plaitref05_from #[(.slice s7b s7l s7c), (.int .i64 n3)] w4 fun e10 w9 => ∃ s8b : Option Addr, ∃ s8l : Nat, ∃ s8c : Nat, e10 = .returned (.slice s8b s8l s8c) ∧
  R (.slice s8b s8l s8c) w9
theorem eq_plaitref05_Walk (sl_0b : Option Addr) (sl_0l : Nat) (sl_0c : Nat) (nx_1 : Int) (w : World) (R : Value → World → Prop) : sh_plaitref05_Walk sl_0b sl_0l sl_0c nx_1 w R = denF Pg Eall Tryz.f52 (.seq (.leaf) (.seq (.leaf) (.seq (.leaf) (.leaf)))) [(.slice sl_0b sl_0l sl_0c), (.int .i64 nx_1)] w R := by kernel_rfl
theorem calls_plaitref05_Walk (sl_0b : Option Addr) (sl_0l : Nat) (sl_0c : Nat) (nx_1 : Int) (w : World) (R : Value → World → Prop) (h : sh_plaitref05_Walk sl_0b sl_0l sl_0c nx_1 w R) : Calls Pg fn_plaitref05_Walk #[(.slice sl_0b sl_0l sl_0c), (.int .i64 nx_1)] w fun e w' => ∃ v, e = .returned v ∧ R v w' :=
  calls_of_den Eall_enter wide_mixed Tryz.func52 (by rw [← eq_plaitref05_Walk]; exact h)

/-- 'plait/plaitref05.Split' -/
def sh_plaitref05_Split (sl_0b : Option Addr) (sl_0l : Nat) (sl_0c : Nat) (na_1 : Int) (nb_2 : Int) (w : World) (R : Value → World → Prop) : Prop :=
  Calls Pg fn_plaitref04_Find #[(.slice sl_0b sl_0l sl_0c), (.int .i64 na_1)] w fun e6 w5 => ∃ n3 : Int, ∃ n4 : Int, e6 = .returned (.tuple #[(.int .i64 n3), (.int .i64 n4)]) ∧
  Calls Pg fn_plaitref04_Find #[(.slice sl_0b sl_0l sl_0c), (.int .i64 nb_2)] w5 fun e10 w9 => ∃ n7 : Int, ∃ n8 : Int, e10 = .returned (.tuple #[(.int .i64 n7), (.int .i64 n8)]) ∧
  bif (na_1 == nb_2) then (
  R (.tuple #[(.slice sl_0b sl_0l sl_0c), (.int .i64 (20 : Int))]) w9) else (
  bif (n3 != n7) then (
  R (.tuple #[(.slice sl_0b sl_0l sl_0c), (.int .i64 (21 : Int))]) w9) else (
  ixS sl_0b sl_0l n3 1 fun a11 =>
  ldS a11 w9 fun s12b s12l s12c =>
  Calls Pg fn_plaitref05_from #[(.slice s12b s12l s12c), (.int .i64 n4)] w9 fun e15 w14 => ∃ s13b : Option Addr, ∃ s13l : Nat, ∃ s13c : Nat, e15 = .returned (.slice s13b s13l s13c) ∧
  ∃ (I16 : List Value → World → Prop) (m17 : List Value → World → Nat), I16 [(.int .i64 (0 : Int))] w14 ∧
  ∀ _ : Env, ∀ n18 : Int, ∀ w19 : World, I16 [(.int .i64 n18)] w19 →
  ixS s13b s13l n18 1 fun a20 =>
  ldI .i64 a20 w19 fun n21 =>
  bif (n21 != nb_2) then (
  (I16 [(.int .i64 (IntKind.wrap .i64 (n18 + (1 : Int))))] w19 ∧ m17 [(.int .i64 (IntKind.wrap .i64 (n18 + (1 : Int))))] w19 < m17 [(.int .i64 n18)] w19)) else (
  0 ≤ n18 ∧ n18 ≤ ((s13c : Nat) : Int) ∧ 0 ≤ n18 ∧ n18 ≤ (((Int.toNat n18) : Nat) : Int) ∧ 0 ≤ n18 ∧ n18 ≤ ((s13l : Nat) : Int) ∧ (Calls Pg fn_plaitref05_without #[(.slice sl_0b sl_0l sl_0c), (.int .i64 n3), (.int .i64 n3)] w19.drew fun e24 w23 => ∃ s22b : Option Addr, ∃ s22l : Nat, ∃ s22c : Nat, e24 = .returned (.slice s22b s22l s22c) ∧
  alo #[(.slice (if (Int.toNat n18) = 0 then s13b else Option.map (fun a => Addr.add a (0 * 1)) s13b) ((Int.toNat n18) - 0) ((Int.toNat n18) - 0)), (.slice (if s13c = (Int.toNat n18) then s13b else Option.map (fun a => Addr.add a ((Int.toNat n18) * 1)) s13b) (s13l - (Int.toNat n18)) (s13c - (Int.toNat n18)))] T_sl_int w23 fun a25 w26 =>
  ∃ s27b : Option Addr, ∃ s27l : Nat, ∃ s27c : Nat, ∃ w28 : World, (Builtin.append_ #[T_sl_sl_int, T_sl_sl_int] T_sl_sl_int #[(.slice s22b s22l s22c), (.slice (some a25) 2 2)]).run Pg w26 = .ok (.slice s27b s27l s27c) w28 ∧
  R (.tuple #[(.slice s27b s27l s27c), (.int .i64 (0 : Int))]) w28) ∧ (
  alo #[(.slice (if (Int.toNat n18) = 0 then s13b else Option.map (fun a => Addr.add a (0 * 1)) s13b) ((Int.toNat n18) - 0) ((Int.toNat n18) - 0)), (.slice (if s13c = (Int.toNat n18) then s13b else Option.map (fun a => Addr.add a ((Int.toNat n18) * 1)) s13b) (s13l - (Int.toNat n18)) (s13c - (Int.toNat n18)))] T_sl_int w19.drew fun a29 w30 =>
  Calls Pg fn_plaitref05_without #[(.slice sl_0b sl_0l sl_0c), (.int .i64 n3), (.int .i64 n3)] w30 fun e33 w32 => ∃ s31b : Option Addr, ∃ s31l : Nat, ∃ s31c : Nat, e33 = .returned (.slice s31b s31l s31c) ∧
  ∃ s34b : Option Addr, ∃ s34l : Nat, ∃ s34c : Nat, ∃ w35 : World, (Builtin.append_ #[T_sl_sl_int, T_sl_sl_int] T_sl_sl_int #[(.slice s31b s31l s31c), (.slice (some a29) 2 2)]).run Pg w32 = .ok (.slice s34b s34l s34c) w35 ∧
  R (.tuple #[(.slice s34b s34l s34c), (.int .i64 (0 : Int))]) w35))))
theorem eq_plaitref05_Split (sl_0b : Option Addr) (sl_0l : Nat) (sl_0c : Nat) (na_1 : Int) (nb_2 : Int) (w : World) (R : Value → World → Prop) : sh_plaitref05_Split sl_0b sl_0l sl_0c na_1 nb_2 w R = denF Pg Eall Tryz.f70 (.seq (.leaf) (.seq (.leaf) (.seq (.leaf) (.seq (.seq (.leaf) (.cond (.seq (.leaf) (.leaf)) (.leaf))) (.seq (.seq (.leaf) (.cond (.seq (.leaf) (.leaf)) (.leaf))) (.seq (.leaf) (.seq (.leaf) (.seq (.block (.loop [13] [.one (.int .i64)] (.seq (.seq (.leaf) (.cond (.leaf) (.leaf))) (.block (.leaf))))) (.seq (.reg (.tk 0 [] [] (.tk 1 [] [] (.tk 2 [] [] (.tk 4 [] [] (.tk 5 [] [] (.tk 6 [] [] (.tk 7 [] [] (.tk 8 [] [] (.tk 9 [] [] (.tk 10 [] [] (.two 3 (.one 11 (.one 12 (.tk 13 [] [] (.tk 14 [] [] (.fin))))) 11 (.one 3 (.one 12 (.tk 13 [] [] (.tk 14 [] [] (.fin))))))))))))))))) (.leaf)))))))))) [(.slice sl_0b sl_0l sl_0c), (.int .i64 na_1), (.int .i64 nb_2)] w R := by kernel_rfl
theorem calls_plaitref05_Split (sl_0b : Option Addr) (sl_0l : Nat) (sl_0c : Nat) (na_1 : Int) (nb_2 : Int) (w : World) (R : Value → World → Prop) (h : sh_plaitref05_Split sl_0b sl_0l sl_0c na_1 nb_2 w R) : Calls Pg fn_plaitref05_Split #[(.slice sl_0b sl_0l sl_0c), (.int .i64 na_1), (.int .i64 nb_2)] w fun e w' => ∃ v, e = .returned v ∧ R v w' :=
  calls_of_den Eall_enter wide_mixed Tryz.func70 (by rw [← eq_plaitref05_Split]; exact h)

/-- 'plait/plaitref05.Apart' -/
def sh_plaitref05_Apart (sl_0b : Option Addr) (sl_0l : Nat) (sl_0c : Nat) (nx_1 : Int) (w : World) (R : Value → World → Prop) : Prop :=
  Calls Pg fn_plaitref04_Find #[(.slice sl_0b sl_0l sl_0c), (.int .i64 nx_1)] w fun e5 w4 => ∃ n2 : Int, ∃ n3 : Int, e5 = .returned (.tuple #[(.int .i64 n2), (.int .i64 n3)]) ∧
  ixS sl_0b sl_0l n2 1 fun a6 =>
  ldS a6 w4 fun s7b s7l s7c =>
  bif ((s7l : Int) == (1 : Int)) then (
  R (.tuple #[(.slice sl_0b sl_0l sl_0c), (.int .i64 (20 : Int))]) w4) else (
  ixS sl_0b sl_0l n2 1 fun a8 =>
  ldS a8 w4 fun s9b s9l s9c =>
  Calls Pg fn_plaitref05_from #[(.slice s9b s9l s9c), (.int .i64 n3)] w4 fun e12 w11 => ∃ s10b : Option Addr, ∃ s10l : Nat, ∃ s10c : Nat, e12 = .returned (.slice s10b s10l s10c) ∧
  0 ≤ (1 : Int) ∧ (1 : Int) ≤ ((s10l : Nat) : Int) ∧ (Calls Pg fn_plaitref05_without #[(.slice sl_0b sl_0l sl_0c), (.int .i64 n2), (.int .i64 n2)] w11.drew fun e15 w14 => ∃ s13b : Option Addr, ∃ s13l : Nat, ∃ s13c : Nat, e15 = .returned (.slice s13b s13l s13c) ∧
  alo #[(.int .i64 nx_1)] T_int w14 fun a16 w17 =>
  alo #[(.slice (some a16) 1 1), (.slice (if s10c = (Int.toNat (1 : Int)) then s10b else Option.map (fun a => Addr.add a ((Int.toNat (1 : Int)) * 1)) s10b) (s10l - (Int.toNat (1 : Int))) (s10c - (Int.toNat (1 : Int))))] T_sl_int w17 fun a18 w19 =>
  ∃ s20b : Option Addr, ∃ s20l : Nat, ∃ s20c : Nat, ∃ w21 : World, (Builtin.append_ #[T_sl_sl_int, T_sl_sl_int] T_sl_sl_int #[(.slice s13b s13l s13c), (.slice (some a18) 2 2)]).run Pg w19 = .ok (.slice s20b s20l s20c) w21 ∧
  R (.tuple #[(.slice s20b s20l s20c), (.int .i64 (0 : Int))]) w21) ∧ (
  alo #[(.int .i64 nx_1)] T_int w11.drew fun a22 w23 =>
  (Calls Pg fn_plaitref05_without #[(.slice sl_0b sl_0l sl_0c), (.int .i64 n2), (.int .i64 n2)] w23 fun e26 w25 => ∃ s24b : Option Addr, ∃ s24l : Nat, ∃ s24c : Nat, e26 = .returned (.slice s24b s24l s24c) ∧
  alo #[(.slice (some a22) 1 1), (.slice (if s10c = (Int.toNat (1 : Int)) then s10b else Option.map (fun a => Addr.add a ((Int.toNat (1 : Int)) * 1)) s10b) (s10l - (Int.toNat (1 : Int))) (s10c - (Int.toNat (1 : Int))))] T_sl_int w25 fun a27 w28 =>
  ∃ s29b : Option Addr, ∃ s29l : Nat, ∃ s29c : Nat, ∃ w30 : World, (Builtin.append_ #[T_sl_sl_int, T_sl_sl_int] T_sl_sl_int #[(.slice s24b s24l s24c), (.slice (some a27) 2 2)]).run Pg w28 = .ok (.slice s29b s29l s29c) w30 ∧
  R (.tuple #[(.slice s29b s29l s29c), (.int .i64 (0 : Int))]) w30) ∧ (
  alo #[(.slice (some a22) 1 1), (.slice (if s10c = (Int.toNat (1 : Int)) then s10b else Option.map (fun a => Addr.add a ((Int.toNat (1 : Int)) * 1)) s10b) (s10l - (Int.toNat (1 : Int))) (s10c - (Int.toNat (1 : Int))))] T_sl_int w23 fun a31 w32 =>
  Calls Pg fn_plaitref05_without #[(.slice sl_0b sl_0l sl_0c), (.int .i64 n2), (.int .i64 n2)] w32 fun e35 w34 => ∃ s33b : Option Addr, ∃ s33l : Nat, ∃ s33c : Nat, e35 = .returned (.slice s33b s33l s33c) ∧
  ∃ s36b : Option Addr, ∃ s36l : Nat, ∃ s36c : Nat, ∃ w37 : World, (Builtin.append_ #[T_sl_sl_int, T_sl_sl_int] T_sl_sl_int #[(.slice s33b s33l s33c), (.slice (some a31) 2 2)]).run Pg w34 = .ok (.slice s36b s36l s36c) w37 ∧
  R (.tuple #[(.slice s36b s36l s36c), (.int .i64 (0 : Int))]) w37)))
theorem eq_plaitref05_Apart (sl_0b : Option Addr) (sl_0l : Nat) (sl_0c : Nat) (nx_1 : Int) (w : World) (R : Value → World → Prop) : sh_plaitref05_Apart sl_0b sl_0l sl_0c nx_1 w R = denF Pg Eall Tryz.f71 (.seq (.leaf) (.seq (.leaf) (.seq (.seq (.leaf) (.cond (.seq (.leaf) (.leaf)) (.leaf))) (.seq (.leaf) (.seq (.reg (.tk 0 [] [] (.tk 1 [] [] (.tk 2 [] [] (.tk 4 [] [] (.tk 6 [] [] (.tk 7 [] [] (.two 3 (.one 5 (.one 8 (.one 9 (.tk 10 [] [] (.tk 11 [] [] (.fin)))))) 5 (.two 3 (.one 8 (.one 9 (.tk 10 [] [] (.tk 11 [] [] (.fin))))) 8 (.one 3 (.one 9 (.tk 10 [] [] (.tk 11 [] [] (.fin)))))))))))))) (.leaf)))))) [(.slice sl_0b sl_0l sl_0c), (.int .i64 nx_1)] w R := by kernel_rfl
theorem calls_plaitref05_Apart (sl_0b : Option Addr) (sl_0l : Nat) (sl_0c : Nat) (nx_1 : Int) (w : World) (R : Value → World → Prop) (h : sh_plaitref05_Apart sl_0b sl_0l sl_0c nx_1 w R) : Calls Pg fn_plaitref05_Apart #[(.slice sl_0b sl_0l sl_0c), (.int .i64 nx_1)] w fun e w' => ∃ v, e = .returned v ∧ R v w' :=
  calls_of_den Eall_enter wide_mixed Tryz.func71 (by rw [← eq_plaitref05_Apart]; exact h)

/-- 'plait/plaitref05.Merge' -/
def sh_plaitref05_Merge (sl_0b : Option Addr) (sl_0l : Nat) (sl_0c : Nat) (na_1 : Int) (nb_2 : Int) (w : World) (R : Value → World → Prop) : Prop :=
  Calls Pg fn_plaitref04_Find #[(.slice sl_0b sl_0l sl_0c), (.int .i64 na_1)] w fun e6 w5 => ∃ n3 : Int, ∃ n4 : Int, e6 = .returned (.tuple #[(.int .i64 n3), (.int .i64 n4)]) ∧
  Calls Pg fn_plaitref04_Find #[(.slice sl_0b sl_0l sl_0c), (.int .i64 nb_2)] w5 fun e10 w9 => ∃ n7 : Int, ∃ n8 : Int, e10 = .returned (.tuple #[(.int .i64 n7), (.int .i64 n8)]) ∧
  bif (n3 == n7) then (
  R (.tuple #[(.slice sl_0b sl_0l sl_0c), (.int .i64 (20 : Int))]) w9) else (
  ixS sl_0b sl_0l n3 1 fun a11 =>
  ldS a11 w9.drew fun s12b s12l s12c =>
  ixS sl_0b sl_0l n7 1 fun a13 =>
  ldS a13 w9.drew fun s14b s14l s14c =>
  Calls Pg fn_plaitref05_without #[(.slice sl_0b sl_0l sl_0c), (.int .i64 n3), (.int .i64 n7)] w9.drew fun e17 w16 => ∃ s15b : Option Addr, ∃ s15l : Nat, ∃ s15c : Nat, e17 = .returned (.slice s15b s15l s15c) ∧
  w16.cell? a13 = some (.slice s14b s14l s14c) ∧ w16.cell? a11 = some (.slice s12b s12l s12c) ∧ Calls Pg fn_plaitref05_from #[(.slice s12b s12l s12c), (.int .i64 n4)] w16 fun e20 w19 => ∃ s18b : Option Addr, ∃ s18l : Nat, ∃ s18c : Nat, e20 = .returned (.slice s18b s18l s18c) ∧
  w19.cell? a13 = some (.slice s14b s14l s14c) ∧ Calls Pg fn_plaitref05_from #[(.slice s14b s14l s14c), (.int .i64 n8)] w19 fun e23 w22 => ∃ s21b : Option Addr, ∃ s21l : Nat, ∃ s21c : Nat, e23 = .returned (.slice s21b s21l s21c) ∧
  ∃ s24b : Option Addr, ∃ s24l : Nat, ∃ s24c : Nat, ∃ w25 : World, (Builtin.append_ #[T_sl_int, T_sl_int] T_sl_int #[(.slice s18b s18l s18c), (.slice s21b s21l s21c)]).run Pg w22 = .ok (.slice s24b s24l s24c) w25 ∧
  alo #[(.slice s24b s24l s24c)] T_sl_int w25 fun a26 w27 =>
  ∃ s28b : Option Addr, ∃ s28l : Nat, ∃ s28c : Nat, ∃ w29 : World, (Builtin.append_ #[T_sl_sl_int, T_sl_sl_int] T_sl_sl_int #[(.slice s15b s15l s15c), (.slice (some a26) 1 1)]).run Pg w27 = .ok (.slice s28b s28l s28c) w29 ∧
  R (.tuple #[(.slice s28b s28l s28c), (.int .i64 (0 : Int))]) w29)
theorem eq_plaitref05_Merge (sl_0b : Option Addr) (sl_0l : Nat) (sl_0c : Nat) (na_1 : Int) (nb_2 : Int) (w : World) (R : Value → World → Prop) : sh_plaitref05_Merge sl_0b sl_0l sl_0c na_1 nb_2 w R = denF Pg Eall Tryz.f74 (.seq (.leaf) (.seq (.leaf) (.seq (.leaf) (.seq (.seq (.leaf) (.cond (.seq (.leaf) (.leaf)) (.leaf))) (.seq (.reg (.tk 0 [] [] (.tk 1 [] [] (.tk 2 [] [] (.tk 4 [] [] (.tk 5 [] [] (.tk 6 [] [] (.tk 7 [9, 15, 16, 17, 18, 19, 20] [9, 15, 16, 17, 18] (.tk 8 [] [] (.tk 10 [] [] (.tk 11 [] [] (.tk 12 [] [] (.tk 13 [15, 16, 17, 18, 19, 20] [15, 16, 17, 18] (.tk 14 [] [] (.one 3 (.one 9 (.one 15 (.one 16 (.one 17 (.one 18 (.tk 19 [] [] (.tk 20 [] [] (.fin))))))))))))))))))))))) (.leaf)))))) [(.slice sl_0b sl_0l sl_0c), (.int .i64 na_1), (.int .i64 nb_2)] w R := by kernel_rfl
theorem calls_plaitref05_Merge (sl_0b : Option Addr) (sl_0l : Nat) (sl_0c : Nat) (na_1 : Int) (nb_2 : Int) (w : World) (R : Value → World → Prop) (h : sh_plaitref05_Merge sl_0b sl_0l sl_0c na_1 nb_2 w R) : Calls Pg fn_plaitref05_Merge #[(.slice sl_0b sl_0l sl_0c), (.int .i64 na_1), (.int .i64 nb_2)] w fun e w' => ∃ v, e = .returned v ∧ R v w' :=
  calls_of_den Eall_enter wide_mixed Tryz.func74 (by rw [← eq_plaitref05_Merge]; exact h)

/-- 'plait/plaitref05.from' -/
def sh_plaitref05_from (sl_0b : Option Addr) (sl_0l : Nat) (sl_0c : Nat) (nat_1 : Int) (w : World) (R : Value → World → Prop) : Prop :=
  0 ≤ nat_1 ∧ nat_1 ≤ ((sl_0l : Nat) : Int) ∧ 0 ≤ nat_1 ∧ nat_1 ≤ ((sl_0c : Nat) : Int) ∧ ∃ s2b : Option Addr, ∃ s2l : Nat, ∃ s2c : Nat, ∃ w3 : World, (Builtin.append_ #[T_sl_int, T_sl_int] T_sl_int #[(.slice none 0 0), (.slice (if sl_0c = (Int.toNat nat_1) then sl_0b else Option.map (fun a => Addr.add a ((Int.toNat nat_1) * 1)) sl_0b) (sl_0l - (Int.toNat nat_1)) (sl_0c - (Int.toNat nat_1)))]).run Pg w.drew = .ok (.slice s2b s2l s2c) w3 ∧
  ∃ s4b : Option Addr, ∃ s4l : Nat, ∃ s4c : Nat, ∃ w5 : World, (Builtin.append_ #[T_sl_int, T_sl_int] T_sl_int #[(.slice s2b s2l s2c), (.slice (if sl_0c = 0 then sl_0b else Option.map (fun a => Addr.add a (0 * 1)) sl_0b) ((Int.toNat nat_1) - 0) (sl_0c - 0))]).run Pg w3 = .ok (.slice s4b s4l s4c) w5 ∧
  R (.slice s4b s4l s4c) w5
theorem eq_plaitref05_from (sl_0b : Option Addr) (sl_0l : Nat) (sl_0c : Nat) (nat_1 : Int) (w : World) (R : Value → World → Prop) : sh_plaitref05_from sl_0b sl_0l sl_0c nat_1 w R = denF Pg Eall Tryz.f84 (.seq (.leaf) (.seq (.leaf) (.seq (.reg (.tk 0 [] [] (.tk 1 [] [] (.tk 2 [] [] (.tk 3 [] [] (.tk 5 [] [] (.tk 6 [] [] (.tk 7 [] [] (.one 4 (.one 8 (.tk 9 [] [] (.fin)))))))))))) (.leaf)))) [(.slice sl_0b sl_0l sl_0c), (.int .i64 nat_1)] w R := by kernel_rfl
theorem calls_plaitref05_from (sl_0b : Option Addr) (sl_0l : Nat) (sl_0c : Nat) (nat_1 : Int) (w : World) (R : Value → World → Prop) (h : sh_plaitref05_from sl_0b sl_0l sl_0c nat_1 w R) : Calls Pg fn_plaitref05_from #[(.slice sl_0b sl_0l sl_0c), (.int .i64 nat_1)] w fun e w' => ∃ v, e = .returned v ∧ R v w' :=
  calls_of_den Eall_enter wide_mixed Tryz.func84 (by rw [← eq_plaitref05_from]; exact h)

/-- 'plait/plaitref05.without' -/
def sh_plaitref05_without (sl_0b : Option Addr) (sl_0l : Nat) (sl_0c : Nat) (na_1 : Int) (nb_2 : Int) (w : World) (R : Value → World → Prop) : Prop :=
  ∃ (I3 : List Value → World → Prop) (m4 : List Value → World → Nat), I3 [(.slice none 0 0), (.int .i64 (0 : Int))] w ∧
  ∀ _ : Env, ∀ s5b : Option Addr, ∀ s5l : Nat, ∀ s5c : Nat, ∀ n6 : Int, ∀ w7 : World, I3 [(.slice s5b s5l s5c), (.int .i64 n6)] w7 →
  bif (decide (n6 < (sl_0l : Int))) then (
  bif (n6 != na_1) then (
  bif (n6 != nb_2) then (
  ixS sl_0b sl_0l n6 1 fun a8 =>
  ldS a8 w7 fun s9b s9l s9c =>
  alo #[(.slice s9b s9l s9c)] T_sl_int w7 fun a10 w11 =>
  ∃ s12b : Option Addr, ∃ s12l : Nat, ∃ s12c : Nat, ∃ w13 : World, (Builtin.append_ #[T_sl_sl_int, T_sl_sl_int] T_sl_sl_int #[(.slice s5b s5l s5c), (.slice (some a10) 1 1)]).run Pg w11 = .ok (.slice s12b s12l s12c) w13 ∧
  (I3 [(.slice s12b s12l s12c), (.int .i64 (IntKind.wrap .i64 (n6 + (1 : Int))))] w13 ∧ m4 [(.slice s12b s12l s12c), (.int .i64 (IntKind.wrap .i64 (n6 + (1 : Int))))] w13 < m4 [(.slice s5b s5l s5c), (.int .i64 n6)] w7)) else (
  (I3 [(.slice s5b s5l s5c), (.int .i64 (IntKind.wrap .i64 (n6 + (1 : Int))))] w7 ∧ m4 [(.slice s5b s5l s5c), (.int .i64 (IntKind.wrap .i64 (n6 + (1 : Int))))] w7 < m4 [(.slice s5b s5l s5c), (.int .i64 n6)] w7))) else (
  (I3 [(.slice s5b s5l s5c), (.int .i64 (IntKind.wrap .i64 (n6 + (1 : Int))))] w7 ∧ m4 [(.slice s5b s5l s5c), (.int .i64 (IntKind.wrap .i64 (n6 + (1 : Int))))] w7 < m4 [(.slice s5b s5l s5c), (.int .i64 n6)] w7))) else (
  R (.slice s5b s5l s5c) w7)
theorem eq_plaitref05_without (sl_0b : Option Addr) (sl_0l : Nat) (sl_0c : Nat) (na_1 : Int) (nb_2 : Int) (w : World) (R : Value → World → Prop) : sh_plaitref05_without sl_0b sl_0l sl_0c na_1 nb_2 w R = denF Pg Eall Tryz.f92 (.seq (.leaf) (.seq (.leaf) (.seq (.seq (.leaf) (.block (.loop [7, 8] [.one (.slc), .one (.int .i64)] (.seq (.seq (.leaf) (.cond (.leaf) (.leaf))) (.seq (.block (.seq (.leaf) (.cond (.leaf) (.leaf)))) (.leaf)))))) (.seq (.leaf) (.leaf))))) [(.slice sl_0b sl_0l sl_0c), (.int .i64 na_1), (.int .i64 nb_2)] w R := by kernel_rfl
theorem calls_plaitref05_without (sl_0b : Option Addr) (sl_0l : Nat) (sl_0c : Nat) (na_1 : Int) (nb_2 : Int) (w : World) (R : Value → World → Prop) (h : sh_plaitref05_without sl_0b sl_0l sl_0c na_1 nb_2 w R) : Calls Pg fn_plaitref05_without #[(.slice sl_0b sl_0l sl_0c), (.int .i64 na_1), (.int .i64 nb_2)] w fun e w' => ∃ v, e = .returned v ∧ R v w' :=
  calls_of_den Eall_enter wide_mixed Tryz.func92 (by rw [← eq_plaitref05_without]; exact h)

end Go.Proofs.YtaoemljoiahapaaGreatDoor
