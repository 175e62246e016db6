/-
What each function does, as one formula, printed by a program of this session out of the translation; the kernel holds each print against the translation.
Conditions: none.
-/
import Derived.Test.YtaoemljoiahapaaDoorSn
namespace Go.Proofs.YtaoemljoiahapaaDoor
open Go
set_option linter.unusedVariables false
set_option maxRecDepth 100000
/-- 'slices.Index[[]int,int]' -/
def sh_slices_Index__intint (ss_0b : Option Addr) (ss_0l : Nat) (ss_0c : Nat) (nv_1 : Int) (w : World) (R : Value → World → Prop) : Prop :=
  ∃ (I2 : List Value → World → Prop) (m3 : List Value → World → Nat), I2 [(.int .i64 (0 : Int))] w ∧
  ∀ _ : Env, ∀ n4 : Int, ∀ w5 : World, I2 [(.int .i64 n4)] w5 →
  bif (decide (n4 < (ss_0l : Int))) then (
  ixS ss_0b ss_0l n4 1 fun a6 =>
  ldI .i64 a6 w5 fun n7 =>
  bif (nv_1 == n7) then (
  R (.int .i64 n4) w5) else (
  (I2 [(.int .i64 (IntKind.wrap .i64 (n4 + (1 : Int))))] w5 ∧ m3 [(.int .i64 (IntKind.wrap .i64 (n4 + (1 : Int))))] w5 < m3 [(.int .i64 n4)] w5))) else (
  R (.int .i64 (-1 : Int)) w5)
theorem eq_slices_Index__intint (ss_0b : Option Addr) (ss_0l : Nat) (ss_0c : Nat) (nv_1 : Int) (w : World) (R : Value → World → Prop) : sh_slices_Index__intint ss_0b ss_0l ss_0c nv_1 w R = denF Pg Eall Tryd.f44 (.seq (.leaf) (.seq (.seq (.leaf) (.block (.loop [8] [.one (.int .i64)] (.seq (.leaf) (.seq (.cond (.leaf) (.leaf)) (.seq (.block (.seq (.leaf) (.seq (.leaf) (.cond (.seq (.leaf) (.leaf)) (.leaf))))) (.leaf))))))) (.seq (.leaf) (.leaf)))) [(.slice ss_0b ss_0l ss_0c), (.int .i64 nv_1)] w R := by kernel_rfl
theorem calls_slices_Index__intint (ss_0b : Option Addr) (ss_0l : Nat) (ss_0c : Nat) (nv_1 : Int) (w : World) (R : Value → World → Prop) (h : sh_slices_Index__intint ss_0b ss_0l ss_0c nv_1 w R) : Calls Pg fn_slices_Index__intint #[(.slice ss_0b ss_0l ss_0c), (.int .i64 nv_1)] w fun e w' => ∃ v, e = .returned v ∧ R v w' :=
  calls_of_den Eall_enter wide_mixed Tryd.func44 (by rw [← eq_slices_Index__intint]; exact h)

/-- 'slices.Concat[[]int,int]' -/
def sh_slices_Concat__intint (sslices_0b : Option Addr) (sslices_0l : Nat) (sslices_0c : Nat) (w : World) (R : Value → World → Prop) : Prop :=
  ∃ (I1 : List Value → World → Prop) (m2 : List Value → World → Nat), I1 [(.int .i64 (0 : Int)), (.int .i64 (0 : Int))] w ∧
  ∀ _ : Env, ∀ n3 : Int, ∀ n4 : Int, ∀ w5 : World, I1 [(.int .i64 n3), (.int .i64 n4)] w5 →
  bif (decide (n4 < (sslices_0l : Int))) then (
  ixS sslices_0b sslices_0l n4 1 fun a6 =>
  ldS a6 w5 fun s7b s7l s7c =>
  bif (decide ((IntKind.wrap .i64 (n3 + (s7l : Int))) < (0 : Int))) then (
  False) else (
  (I1 [(.int .i64 (IntKind.wrap .i64 (n3 + (s7l : Int)))), (.int .i64 (IntKind.wrap .i64 (n4 + (1 : Int))))] w5 ∧ m2 [(.int .i64 (IntKind.wrap .i64 (n3 + (s7l : Int)))), (.int .i64 (IntKind.wrap .i64 (n4 + (1 : Int))))] w5 < m2 [(.int .i64 n3), (.int .i64 n4)] w5))) else (
  Calls Pg fn_slices_Grow__intint #[(.slice none 0 0), (.int .i64 n3)] w5 fun e10 w9 => ∃ s8b : Option Addr, ∃ s8l : Nat, ∃ s8c : Nat, e10 = .returned (.slice s8b s8l s8c) ∧
  ∃ (I11 : List Value → World → Prop) (m12 : List Value → World → Nat), I11 [(.slice s8b s8l s8c), (.int .i64 (0 : Int))] w9 ∧
  ∀ _ : Env, ∀ s13b : Option Addr, ∀ s13l : Nat, ∀ s13c : Nat, ∀ n14 : Int, ∀ w15 : World, I11 [(.slice s13b s13l s13c), (.int .i64 n14)] w15 →
  bif (decide (n14 < (sslices_0l : Int))) then (
  ixS sslices_0b sslices_0l n14 1 fun a16 =>
  ldS a16 w15 fun s17b s17l s17c =>
  ∃ s18b : Option Addr, ∃ s18l : Nat, ∃ s18c : Nat, ∃ w19 : World, (Builtin.append_ #[T_sl_int, T_sl_int] T_sl_int #[(.slice s13b s13l s13c), (.slice s17b s17l s17c)]).run Pg w15 = .ok (.slice s18b s18l s18c) w19 ∧
  (I11 [(.slice s18b s18l s18c), (.int .i64 (IntKind.wrap .i64 (n14 + (1 : Int))))] w19 ∧ m12 [(.slice s18b s18l s18c), (.int .i64 (IntKind.wrap .i64 (n14 + (1 : Int))))] w19 < m12 [(.slice s13b s13l s13c), (.int .i64 n14)] w15)) else (
  R (.slice s13b s13l s13c) w15))
theorem eq_slices_Concat__intint (sslices_0b : Option Addr) (sslices_0l : Nat) (sslices_0c : Nat) (w : World) (R : Value → World → Prop) : sh_slices_Concat__intint sslices_0b sslices_0l sslices_0c w R = denF Pg Eall Tryd.f45 (.seq (.leaf) (.seq (.leaf) (.seq (.seq (.leaf) (.block (.loop [3, 11] [.one (.int .i64), .one (.int .i64)] (.seq (.leaf) (.seq (.cond (.leaf) (.leaf)) (.seq (.block (.seq (.leaf) (.seq (.leaf) (.seq (.leaf) (.cond (.leaf) (.leaf)))))) (.leaf))))))) (.seq (.leaf) (.seq (.seq (.leaf) (.block (.loop [6, 27] [.one (.slc), .one (.int .i64)] (.seq (.leaf) (.seq (.cond (.leaf) (.leaf)) (.seq (.block (.seq (.leaf) (.leaf))) (.leaf))))))) (.seq (.leaf) (.leaf))))))) [(.slice sslices_0b sslices_0l sslices_0c)] w R := by kernel_rfl
theorem calls_slices_Concat__intint (sslices_0b : Option Addr) (sslices_0l : Nat) (sslices_0c : Nat) (w : World) (R : Value → World → Prop) (h : sh_slices_Concat__intint sslices_0b sslices_0l sslices_0c w R) : Calls Pg fn_slices_Concat__intint #[(.slice sslices_0b sslices_0l sslices_0c)] w fun e w' => ∃ v, e = .returned v ∧ R v w' :=
  calls_of_den Eall_enter wide_mixed Tryd.func45 (by rw [← eq_slices_Concat__intint]; exact h)

/-- 'slices.Grow[[]int,int]' -/
def sh_slices_Grow__intint (ss_0b : Option Addr) (ss_0l : Nat) (ss_0c : Nat) (nn_1 : Int) (w : World) (R : Value → World → Prop) : Prop :=
  bif (decide (nn_1 < (0 : Int))) then (
  False) else (
  bif (decide ((IntKind.wrap .i64 (nn_1 - (IntKind.wrap .i64 ((ss_0c : Int) - (ss_0l : Int))))) > (0 : Int))) then (
  0 ≤ (ss_0c : Int) ∧ (ss_0c : Int) ≤ ((ss_0c : Nat) : Int) ∧ ∃ s2b : Option Addr, ∃ s2l : Nat, ∃ s2c : Nat, ∃ w3 : World, (Builtin.append_ #[T_sl_int, T_int] T_sl_int #[(.slice (if ss_0c = 0 then ss_0b else Option.map (fun a => Addr.add a (0 * 1)) ss_0b) ((Int.toNat (ss_0c : Int)) - 0) (ss_0c - 0)), (.int .i64 (IntKind.wrap .i64 (nn_1 - (IntKind.wrap .i64 ((ss_0c : Int) - (ss_0l : Int))))))]).run Pg w = .ok (.slice s2b s2l s2c) w3 ∧
  0 ≤ (ss_0l : Int) ∧ (ss_0l : Int) ≤ ((s2c : Nat) : Int) ∧ R (.slice (if s2c = 0 then s2b else Option.map (fun a => Addr.add a (0 * 1)) s2b) ((Int.toNat (ss_0l : Int)) - 0) (s2c - 0)) w3) else (
  R (.slice ss_0b ss_0l ss_0c) w))
theorem eq_slices_Grow__intint (ss_0b : Option Addr) (ss_0l : Nat) (ss_0c : Nat) (nn_1 : Int) (w : World) (R : Value → World → Prop) : sh_slices_Grow__intint ss_0b ss_0l ss_0c nn_1 w R = denF Pg Eall Tryd.f66 (.seq (.leaf) (.seq (.seq (.leaf) (.cond (.leaf) (.leaf))) (.seq (.seq (.leaf) (.seq (.leaf) (.cond (.leaf) (.leaf)))) (.seq (.leaf) (.leaf))))) [(.slice ss_0b ss_0l ss_0c), (.int .i64 nn_1)] w R := by kernel_rfl
theorem calls_slices_Grow__intint (ss_0b : Option Addr) (ss_0l : Nat) (ss_0c : Nat) (nn_1 : Int) (w : World) (R : Value → World → Prop) (h : sh_slices_Grow__intint ss_0b ss_0l ss_0c nn_1 w R) : Calls Pg fn_slices_Grow__intint #[(.slice ss_0b ss_0l ss_0c), (.int .i64 nn_1)] w fun e w' => ∃ v, e = .returned v ∧ R v w' :=
  calls_of_den Eall_enter wide_mixed Tryd.func66 (by rw [← eq_slices_Grow__intint]; exact h)

/-- 'slices.Backward[[]int32,int32]' -/
def sh_slices_Backward__int32int32 (ss_0b : Option Addr) (ss_0l : Nat) (ss_0c : Nat) (w : World) (R : Value → World → Prop) : Prop :=
  alo #[(.slice ss_0b ss_0l ss_0c)] T_sl_int32 w fun a1 w2 =>
  R (.func (.func fn_slices_Backward__int32int32_1) #[] #[(.pointer (some a1))]) w2
theorem eq_slices_Backward__int32int32 (ss_0b : Option Addr) (ss_0l : Nat) (ss_0c : Nat) (w : World) (R : Value → World → Prop) : sh_slices_Backward__int32int32 ss_0b ss_0l ss_0c w R = denF Pg Eall Tryd.f78 (.seq (.leaf) (.seq (.leaf) (.leaf))) [(.slice ss_0b ss_0l ss_0c)] w R := by kernel_rfl
theorem calls_slices_Backward__int32int32 (ss_0b : Option Addr) (ss_0l : Nat) (ss_0c : Nat) (w : World) (R : Value → World → Prop) (h : sh_slices_Backward__int32int32 ss_0b ss_0l ss_0c w R) : Calls Pg fn_slices_Backward__int32int32 #[(.slice ss_0b ss_0l ss_0c)] w fun e w' => ∃ v, e = .returned v ∧ R v w' :=
  calls_of_den Eall_enter wide_mixed Tryd.func78 (by rw [← eq_slices_Backward__int32int32]; exact h)

end Go.Proofs.YtaoemljoiahapaaDoor
