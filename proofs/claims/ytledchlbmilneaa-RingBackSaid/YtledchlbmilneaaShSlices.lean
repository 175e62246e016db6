/-
What each function does, as one formula, printed by a program of this session out of the translation; the kernel holds each print against the translation.
Conditions: none.
-/
import Derived.Test.YtledchlbmilneaaSn
namespace Go.Proofs.Ytledchlbmilneaa
open Go
set_option linter.unusedVariables false
set_option maxRecDepth 100000
/-- 'slices.Index[[]int,int]' -/
def sh_slices_Index__intint (ss_0b : Option Addr) (ss_0l : Nat) (ss_0c : Nat) (nv_1 : Int) (w : World) (R : Value → World → Prop) : Prop :=
  ∃ (I2 : List Value → World → Prop) (m3 : List Value → World → Nat), I2 [(Value.int .i64 (0 : Int))] w ∧
  ∀ _ : Env, ∀ n4 : Int, ∀ w5 : World, I2 [(Value.int .i64 n4)] w5 →
  bif (decide (n4 < (ss_0l : Int))) then (
  ixS ss_0b ss_0l n4 1 fun a14_6 =>
  ldI .i64 a14_6 w5 fun n15_7 =>
  bif (nv_1 == n15_7) then (
  R (Value.int .i64 n4) w5) else (
  (I2 [(Value.int .i64 (IntKind.wrap .i64 (n4 + (1 : Int))))] w5 ∧ m3 [(Value.int .i64 (IntKind.wrap .i64 (n4 + (1 : Int))))] w5 < m3 [(Value.int .i64 n4)] w5))) else (
  R (Value.int .i64 (-1 : Int)) w5)
theorem eq_slices_Index__intint (ss_0b : Option Addr) (ss_0l : Nat) (ss_0c : Nat) (nv_1 : Int) (w : World) (R : Value → World → Prop) : sh_slices_Index__intint ss_0b ss_0l ss_0c nv_1 w R = denF Pg Eall Try.f21 (.seq (.leaf) (.seq (.seq (.leaf) (.block (.loop [8] [.one (.int .i64)] (.seq (.leaf) (.seq (.cond (.leaf) (.leaf)) (.seq (.block (.seq (.leaf) (.seq (.leaf) (.cond (.seq (.leaf) (.leaf)) (.leaf))))) (.leaf))))))) (.seq (.leaf) (.leaf)))) [(Value.slice ss_0b ss_0l ss_0c), (Value.int .i64 nv_1)] w R := by kernel_rfl
theorem calls_slices_Index__intint (ss_0b : Option Addr) (ss_0l : Nat) (ss_0c : Nat) (nv_1 : Int) (w : World) (R : Value → World → Prop) (h : sh_slices_Index__intint ss_0b ss_0l ss_0c nv_1 w R) : Calls Pg fn_slices_Index__intint #[(Value.slice ss_0b ss_0l ss_0c), (Value.int .i64 nv_1)] w fun e w' => ∃ v, e = .returned v ∧ R v w' :=
  calls_of_den Eall_enter wide_mixed Try.func21 (by rw [← eq_slices_Index__intint]; exact h)

/-- 'slices.Concat[[]int,int]' -/
def sh_slices_Concat__intint (sslices_0b : Option Addr) (sslices_0l : Nat) (sslices_0c : Nat) (w : World) (R : Value → World → Prop) : Prop :=
  ∃ (I1 : List Value → World → Prop) (m2 : List Value → World → Nat), I1 [(Value.int .i64 (0 : Int)), (Value.int .i64 (0 : Int))] w ∧
  ∀ _ : Env, ∀ n3 : Int, ∀ n4 : Int, ∀ w5 : World, I1 [(Value.int .i64 n3), (Value.int .i64 n4)] w5 →
  bif (decide (n4 < (sslices_0l : Int))) then (
  ixS sslices_0b sslices_0l n4 1 fun a13_6 =>
  ldS a13_6 w5 fun s14_7b s14_7l s14_7c =>
  bif (decide ((IntKind.wrap .i64 (n3 + (s14_7l : Int))) < (0 : Int))) then (
  False) else (
  (I1 [(Value.int .i64 (IntKind.wrap .i64 (n3 + (s14_7l : Int)))), (Value.int .i64 (IntKind.wrap .i64 (n4 + (1 : Int))))] w5 ∧ m2 [(Value.int .i64 (IntKind.wrap .i64 (n3 + (s14_7l : Int)))), (Value.int .i64 (IntKind.wrap .i64 (n4 + (1 : Int))))] w5 < m2 [(Value.int .i64 n3), (Value.int .i64 n4)] w5))) else (
  Calls Pg fn_slices_Grow__intint #[(Value.slice none 0 0), (Value.int .i64 n3)] w5 fun e10 w9 => ∃ s24_8b : Option Addr, ∃ s24_8l : Nat, ∃ s24_8c : Nat, e10 = .returned (Value.slice s24_8b s24_8l s24_8c) ∧
  ∃ (I11 : List Value → World → Prop) (m12 : List Value → World → Nat), I11 [(Value.slice s24_8b s24_8l s24_8c), (Value.int .i64 (0 : Int))] w9 ∧
  ∀ _ : Env, ∀ s13b : Option Addr, ∀ s13l : Nat, ∀ s13c : Nat, ∀ n14 : Int, ∀ w15 : World, I11 [(Value.slice s13b s13l s13c), (Value.int .i64 n14)] w15 →
  bif (decide (n14 < (sslices_0l : Int))) then (
  ixS sslices_0b sslices_0l n14 1 fun a29_16 =>
  ldS a29_16 w15 fun s30_17b s30_17l s30_17c =>
  ∃ s33_18b : Option Addr, ∃ s33_18l : Nat, ∃ s33_18c : Nat, ∃ w19 : World, (Builtin.append_ #[T_sl_int, T_sl_int] T_sl_int #[(Value.slice s13b s13l s13c), (Value.slice s30_17b s30_17l s30_17c)]).run Pg w15 = .ok (Value.slice s33_18b s33_18l s33_18c) w19 ∧
  (I11 [(Value.slice s33_18b s33_18l s33_18c), (Value.int .i64 (IntKind.wrap .i64 (n14 + (1 : Int))))] w19 ∧ m12 [(Value.slice s33_18b s33_18l s33_18c), (Value.int .i64 (IntKind.wrap .i64 (n14 + (1 : Int))))] w19 < m12 [(Value.slice s13b s13l s13c), (Value.int .i64 n14)] w15)) else (
  R (Value.slice s13b s13l s13c) w15))
theorem eq_slices_Concat__intint (sslices_0b : Option Addr) (sslices_0l : Nat) (sslices_0c : Nat) (w : World) (R : Value → World → Prop) : sh_slices_Concat__intint sslices_0b sslices_0l sslices_0c w R = denF Pg Eall Try.f22 (.seq (.leaf) (.seq (.leaf) (.seq (.seq (.leaf) (.block (.loop [3, 11] [.one (.int .i64), .one (.int .i64)] (.seq (.leaf) (.seq (.cond (.leaf) (.leaf)) (.seq (.block (.seq (.leaf) (.seq (.leaf) (.seq (.leaf) (.cond (.leaf) (.leaf)))))) (.leaf))))))) (.seq (.leaf) (.seq (.seq (.leaf) (.block (.loop [6, 27] [.one (.slc), .one (.int .i64)] (.seq (.leaf) (.seq (.cond (.leaf) (.leaf)) (.seq (.block (.seq (.leaf) (.leaf))) (.leaf))))))) (.seq (.leaf) (.leaf))))))) [(Value.slice sslices_0b sslices_0l sslices_0c)] w R := by kernel_rfl
theorem calls_slices_Concat__intint (sslices_0b : Option Addr) (sslices_0l : Nat) (sslices_0c : Nat) (w : World) (R : Value → World → Prop) (h : sh_slices_Concat__intint sslices_0b sslices_0l sslices_0c w R) : Calls Pg fn_slices_Concat__intint #[(Value.slice sslices_0b sslices_0l sslices_0c)] w fun e w' => ∃ v, e = .returned v ∧ R v w' :=
  calls_of_den Eall_enter wide_mixed Try.func22 (by rw [← eq_slices_Concat__intint]; exact h)

/-- 'slices.Grow[[]int,int]' -/
def sh_slices_Grow__intint (ss_0b : Option Addr) (ss_0l : Nat) (ss_0c : Nat) (nn_1 : Int) (w : World) (R : Value → World → Prop) : Prop :=
  bif (decide (nn_1 < (0 : Int))) then (
  False) else (
  bif (decide ((IntKind.wrap .i64 (nn_1 - (IntKind.wrap .i64 ((ss_0c : Int) - (ss_0l : Int))))) > (0 : Int))) then (
  0 ≤ (ss_0c : Int) ∧ (ss_0c : Int) ≤ ((ss_0c : Nat) : Int) ∧ ∃ s22_2b : Option Addr, ∃ s22_2l : Nat, ∃ s22_2c : Nat, ∃ w3 : World, (Builtin.append_ #[T_sl_int, T_int] T_sl_int #[(Value.slice (if ss_0c = 0 then ss_0b else Option.map (fun a => Addr.add a (0 * 1)) ss_0b) ((Int.toNat (ss_0c : Int)) - 0) (ss_0c - 0)), (Value.int .i64 (IntKind.wrap .i64 (nn_1 - (IntKind.wrap .i64 ((ss_0c : Int) - (ss_0l : Int))))))]).run Pg w = .ok (Value.slice s22_2b s22_2l s22_2c) w3 ∧
  0 ≤ (ss_0l : Int) ∧ (ss_0l : Int) ≤ ((s22_2c : Nat) : Int) ∧ R (Value.slice (if s22_2c = 0 then s22_2b else Option.map (fun a => Addr.add a (0 * 1)) s22_2b) ((Int.toNat (ss_0l : Int)) - 0) (s22_2c - 0)) w3) else (
  R (Value.slice ss_0b ss_0l ss_0c) w))
theorem eq_slices_Grow__intint (ss_0b : Option Addr) (ss_0l : Nat) (ss_0c : Nat) (nn_1 : Int) (w : World) (R : Value → World → Prop) : sh_slices_Grow__intint ss_0b ss_0l ss_0c nn_1 w R = denF Pg Eall Try.f35 (.seq (.leaf) (.seq (.seq (.leaf) (.cond (.leaf) (.leaf))) (.seq (.seq (.leaf) (.seq (.leaf) (.cond (.leaf) (.leaf)))) (.seq (.leaf) (.leaf))))) [(Value.slice ss_0b ss_0l ss_0c), (Value.int .i64 nn_1)] w R := by kernel_rfl
theorem calls_slices_Grow__intint (ss_0b : Option Addr) (ss_0l : Nat) (ss_0c : Nat) (nn_1 : Int) (w : World) (R : Value → World → Prop) (h : sh_slices_Grow__intint ss_0b ss_0l ss_0c nn_1 w R) : Calls Pg fn_slices_Grow__intint #[(Value.slice ss_0b ss_0l ss_0c), (Value.int .i64 nn_1)] w fun e w' => ∃ v, e = .returned v ∧ R v w' :=
  calls_of_den Eall_enter wide_mixed Try.func35 (by rw [← eq_slices_Grow__intint]; exact h)

end Go.Proofs.Ytledchlbmilneaa
