/-
What each function does, as one formula, printed by a program of this session out of the translation; the kernel holds each print against the translation.
Conditions: none.
-/
import Derived.Test.YtaoemljoiahapaaGreatDoorSn
namespace Go.Proofs.YtaoemljoiahapaaGreatDoor
open Go
set_option linter.unusedVariables false
set_option maxRecDepth 100000
/-- 'plait/plaitref04.New' -/
def sh_plaitref04_New (nn_0 : Int) (w : World) (R : Value → World → Prop) : Prop :=
  ∃ (I1 : List Value → World → Prop) (m2 : List Value → World → Nat), I1 [(.slice none 0 0), (.int .i64 (0 : Int))] w ∧
  ∀ _ : Env, ∀ s3b : Option Addr, ∀ s3l : Nat, ∀ s3c : Nat, ∀ n4 : Int, ∀ w5 : World, I1 [(.slice s3b s3l s3c), (.int .i64 n4)] w5 →
  bif (decide (n4 < nn_0)) then (
  alo #[(.int .i64 n4)] T_int w5 fun a6 w7 =>
  alo #[(.slice (some a6) 1 1)] T_sl_int w7 fun a8 w9 =>
  ∃ s10b : Option Addr, ∃ s10l : Nat, ∃ s10c : Nat, ∃ w11 : World, (Builtin.append_ #[T_sl_sl_int, T_sl_sl_int] T_sl_sl_int #[(.slice s3b s3l s3c), (.slice (some a8) 1 1)]).run Pg w9 = .ok (.slice s10b s10l s10c) w11 ∧
  (I1 [(.slice s10b s10l s10c), (.int .i64 (IntKind.wrap .i64 (n4 + (1 : Int))))] w11 ∧ m2 [(.slice s10b s10l s10c), (.int .i64 (IntKind.wrap .i64 (n4 + (1 : Int))))] w11 < m2 [(.slice s3b s3l s3c), (.int .i64 n4)] w5)) else (
  R (.slice s3b s3l s3c) w5)
theorem eq_plaitref04_New (nn_0 : Int) (w : World) (R : Value → World → Prop) : sh_plaitref04_New nn_0 w R = denF Pg Eall Tryz.f37 (.seq (.leaf) (.seq (.leaf) (.seq (.seq (.leaf) (.block (.loop [3, 4] [.one (.slc), .one (.int .i64)] (.seq (.seq (.leaf) (.cond (.leaf) (.leaf))) (.seq (.block (.leaf)) (.leaf)))))) (.seq (.leaf) (.leaf))))) [(.int .i64 nn_0)] w R := by kernel_rfl
theorem calls_plaitref04_New (nn_0 : Int) (w : World) (R : Value → World → Prop) (h : sh_plaitref04_New nn_0 w R) : Calls Pg fn_plaitref04_New #[(.int .i64 nn_0)] w fun e w' => ∃ v, e = .returned v ∧ R v w' :=
  calls_of_den Eall_enter wide_mixed Tryz.func37 (by rw [← eq_plaitref04_New]; exact h)

/-- 'plait/plaitref04.Find' -/
def sh_plaitref04_Find (sl_0b : Option Addr) (sl_0l : Nat) (sl_0c : Nat) (nx_1 : Int) (w : World) (R : Value → World → Prop) : Prop :=
  ∃ (I2 : List Value → World → Prop) (m3 : List Value → World → Nat), I2 [(.int .i64 (0 : Int))] w ∧
  ∀ _ : Env, ∀ n4 : Int, ∀ w5 : World, I2 [(.int .i64 n4)] w5 →
  bif (decide (n4 < (sl_0l : Int))) then (
  ∃ (I6 : List Value → World → Prop) (m7 : List Value → World → Nat), I6 [(.int .i64 (0 : Int))] w5 ∧
  ∀ _ : Env, ∀ n8 : Int, ∀ w9 : World, I6 [(.int .i64 n8)] w9 →
  ixS sl_0b sl_0l n4 1 fun a10 =>
  ldS a10 w9 fun s11b s11l s11c =>
  bif (decide (n8 < (s11l : Int))) then (
  ixS sl_0b sl_0l n4 1 fun a12 =>
  ldS a12 w9 fun s13b s13l s13c =>
  ixS s13b s13l n8 1 fun a14 =>
  ldI .i64 a14 w9 fun n15 =>
  bif (n15 == nx_1) then (
  R (.tuple #[(.int .i64 n4), (.int .i64 n8)]) w9) else (
  (I6 [(.int .i64 (IntKind.wrap .i64 (n8 + (1 : Int))))] w9 ∧ m7 [(.int .i64 (IntKind.wrap .i64 (n8 + (1 : Int))))] w9 < m7 [(.int .i64 n8)] w9))) else (
  (I2 [(.int .i64 (IntKind.wrap .i64 (n4 + (1 : Int))))] w9 ∧ m3 [(.int .i64 (IntKind.wrap .i64 (n4 + (1 : Int))))] w9 < m3 [(.int .i64 n4)] w5))) else (
  R (.tuple #[(.int .i64 (-1 : Int)), (.int .i64 (-1 : Int))]) w5)
theorem eq_plaitref04_Find (sl_0b : Option Addr) (sl_0l : Nat) (sl_0c : Nat) (nx_1 : Int) (w : World) (R : Value → World → Prop) : sh_plaitref04_Find sl_0b sl_0l sl_0c nx_1 w R = denF Pg Eall Tryz.f51 (.seq (.leaf) (.seq (.seq (.leaf) (.block (.loop [6] [.one (.int .i64)] (.seq (.seq (.leaf) (.cond (.leaf) (.leaf))) (.seq (.block (.seq (.leaf) (.block (.loop [7] [.one (.int .i64)] (.seq (.seq (.leaf) (.cond (.leaf) (.leaf))) (.seq (.block (.seq (.leaf) (.cond (.seq (.leaf) (.leaf)) (.leaf)))) (.leaf))))))) (.leaf)))))) (.seq (.leaf) (.leaf)))) [(.slice sl_0b sl_0l sl_0c), (.int .i64 nx_1)] w R := by kernel_rfl
theorem calls_plaitref04_Find (sl_0b : Option Addr) (sl_0l : Nat) (sl_0c : Nat) (nx_1 : Int) (w : World) (R : Value → World → Prop) (h : sh_plaitref04_Find sl_0b sl_0l sl_0c nx_1 w R) : Calls Pg fn_plaitref04_Find #[(.slice sl_0b sl_0l sl_0c), (.int .i64 nx_1)] w fun e w' => ∃ v, e = .returned v ∧ R v w' :=
  calls_of_den Eall_enter wide_mixed Tryz.func51 (by rw [← eq_plaitref04_Find]; exact h)

end Go.Proofs.YtaoemljoiahapaaGreatDoor
