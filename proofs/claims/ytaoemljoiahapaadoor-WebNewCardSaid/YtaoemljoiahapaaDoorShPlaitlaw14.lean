/-
What each function does, as one formula, printed by a program of this session out of the translation; the kernel holds each print against the translation.
Conditions: none.
-/
import Derived.Test.YtaoemljoiahapaaDoorSn
namespace Go.Proofs.YtaoemljoiahapaaDoor
open Go
set_option linter.unusedVariables false
set_option maxRecDepth 100000
/-- 'plait/plaitlaw14.WebNew' -/
def sh_plaitlaw14_WebNew (nn_0 : Int) (nm_1 : Int) (w : World) (R : Value → World → Prop) : Prop :=
  Calls Pg fn_web_Web_Same #[(.pointer none), (.int .i64 (0 : Int)), (.int .i64 (0 : Int))] w fun e5 w4 => ∃ b2 : Bool, ∃ v3 : Value, e5 = .returned (.tuple #[(.bool b2), v3]) ∧
  Calls Pg fn_web_Web_Linked #[(.pointer none), (.int .i64 (0 : Int)), (.int .i64 (0 : Int))] w4 fun e9 w8 => ∃ b6 : Bool, ∃ v7 : Value, e9 = .returned (.tuple #[(.bool b6), v7]) ∧
  Calls Pg fn_web_Web_Weakest #[(.pointer none), (.int .i64 (0 : Int)), (.int .i64 (0 : Int))] w8 fun e13 w12 => ∃ n10 : Int, ∃ v11 : Value, e13 = .returned (.tuple #[(.int .i64 n10), v11]) ∧
  Calls Pg fn_web_Web_Walk #[(.pointer none), (.int .i64 (0 : Int))] w12 fun e17 w16 => ∃ s14b : Option Addr, ∃ s14l : Nat, ∃ s14c : Nat, ∃ v15 : Value, e17 = .returned (.tuple #[(.slice s14b s14l s14c), v15]) ∧
  ∃ J18 : List Value → World → Prop, (
  Calls Pg fn_plaitlaw14_num #[v3] w16 fun e21 w20 => ∃ n19 : Int, e21 = .returned (.int .i64 n19) ∧
  bif (n19 != (1 : Int)) then (
  R (.bool false) w20) else (
  Calls Pg fn_plaitlaw14_num #[v7] w20 fun e24 w23 => ∃ n22 : Int, e24 = .returned (.int .i64 n22) ∧
  bif (n22 != (1 : Int)) then (
  R (.bool false) w23) else (
  Calls Pg fn_plaitlaw14_num #[v11] w23 fun e27 w26 => ∃ n25 : Int, e27 = .returned (.int .i64 n25) ∧
  bif (n25 != (1 : Int)) then (
  R (.bool false) w26) else (
  Calls Pg fn_plaitlaw14_num #[v15] w26 fun e30 w29 => ∃ n28 : Int, e30 = .returned (.int .i64 n28) ∧
  bif (n28 != (1 : Int)) then (
  R (.bool false) w29) else (
  Calls Pg fn_web_Web_Split #[(.pointer none), (.int .i64 (0 : Int)), (.int .i64 (1 : Int))] w29 fun e33 w32 => ∃ v31 : Value, e33 = .returned v31 ∧
  Calls Pg fn_plaitlaw14_num #[v31] w32 fun e36 w35 => ∃ n34 : Int, e36 = .returned (.int .i64 n34) ∧
  bif (n34 != (1 : Int)) then (
  R (.bool false) w35) else (
  Calls Pg fn_web_Web_Merge #[(.pointer none), (.int .i64 (0 : Int)), (.int .i64 (1 : Int))] w35 fun e39 w38 => ∃ v37 : Value, e39 = .returned v37 ∧
  Calls Pg fn_plaitlaw14_num #[v37] w38 fun e42 w41 => ∃ n40 : Int, e42 = .returned (.int .i64 n40) ∧
  bif (n40 != (1 : Int)) then (
  R (.bool false) w41) else (
  Calls Pg fn_web_Web_Apart #[(.pointer none), (.int .i64 (0 : Int))] w41 fun e45 w44 => ∃ v43 : Value, e45 = .returned v43 ∧
  Calls Pg fn_plaitlaw14_num #[v43] w44 fun e48 w47 => ∃ n46 : Int, e48 = .returned (.int .i64 n46) ∧
  bif (n46 != (1 : Int)) then (
  R (.bool false) w47) else (
  Calls Pg fn_web_Web_Tie #[(.pointer none), (.int .i64 (0 : Int)), (.int .i64 (0 : Int)), (.int .i64 (1 : Int)), (.int .i64 (0 : Int))] w47 fun e51 w50 => ∃ v49 : Value, e51 = .returned v49 ∧
  Calls Pg fn_plaitlaw14_num #[v49] w50 fun e54 w53 => ∃ n52 : Int, e54 = .returned (.int .i64 n52) ∧
  bif (n52 != (1 : Int)) then (
  R (.bool false) w53) else (
  Calls Pg fn_web_Web_Untie #[(.pointer none), (.int .i64 (0 : Int))] w53 fun e57 w56 => ∃ v55 : Value, e57 = .returned v55 ∧
  Calls Pg fn_plaitlaw14_num #[v55] w56 fun e60 w59 => ∃ n58 : Int, e60 = .returned (.int .i64 n58) ∧
  bif (n58 != (1 : Int)) then (
  R (.bool false) w59) else (
  Calls Pg fn_web_Web_Tied #[(.pointer none), (.int .i64 (0 : Int))] w59 fun e63 w62 => ∃ b61 : Bool, e63 = .returned (.bool b61) ∧
  bif b61 then (
  R (.bool false) w62) else (
  J18 [] w62))))))))))) ∧ ∀ _ : Env, ∀ w64 : World, J18 [] w64 →
  ∃ J65 : List Value → World → Prop, (
  bif (decide (nn_0 ≥ (1 : Int))) then (
  bif (decide (nn_0 ≤ (4194304 : Int))) then (
  bif (decide (nm_1 ≥ (1 : Int))) then (
  J65 [(.bool (decide (nm_1 ≤ (1048576 : Int))))] w64) else (
  J65 [(.bool false)] w64)) else (
  J65 [(.bool false)] w64)) else (
  J65 [(.bool false)] w64)) ∧ ∀ _ : Env, ∀ b66 : Bool, ∀ w67 : World, J65 [(.bool b66)] w67 →
  ∃ J68 : List Value → World → Prop, (
  bif b66 then (
  bif (decide (nn_0 > (2000 : Int))) then (
  Calls Pg fn_plaitlaw14_sure #[] w67 fun e71 w70 => ∃ b69 : Bool, e71 = .returned (.bool b69) ∧
  R (.bool b69) w70) else (
  bif (decide (nm_1 > (2000 : Int))) then (
  Calls Pg fn_plaitlaw14_sure #[] w67 fun e74 w73 => ∃ b72 : Bool, e74 = .returned (.bool b72) ∧
  R (.bool b72) w73) else (
  J68 [] w67))) else (
  J68 [] w67)) ∧ ∀ _ : Env, ∀ w75 : World, J68 [] w75 →
  Calls Pg fn_web_New #[(.int .i64 nn_0), (.int .i64 nm_1)] w75 fun e79 w78 => ∃ p76 : Option Addr, ∃ v77 : Value, e79 = .returned (.tuple #[(.pointer p76), v77]) ∧
  bif (!b66) then (
  ∃ J80 : List Value → World → Prop, (
  Calls Pg fn_plaitlaw14_num #[v77] w78 fun e83 w82 => ∃ n81 : Int, e83 = .returned (.int .i64 n81) ∧
  bif (n81 == (1 : Int)) then (
  bif (Option.isNone p76) then (
  Calls Pg fn_plaitlaw14_sure #[] w82 fun e86 w85 => ∃ b84 : Bool, e86 = .returned (.bool b84) ∧
  J80 [(.bool b84)] w85) else (
  J80 [(.bool false)] w82)) else (
  J80 [(.bool false)] w82)) ∧ ∀ _ : Env, ∀ b87 : Bool, ∀ w88 : World, J80 [(.bool b87)] w88 →
  R (.bool b87) w88) else (
  Calls Pg fn_web_Web_Walk #[(.pointer p76), (.int .i64 (IntKind.wrap .i64 (nn_0 - (1 : Int))))] w78 fun e92 w91 => ∃ s89b : Option Addr, ∃ s89l : Nat, ∃ s89c : Nat, ∃ v90 : Value, e92 = .returned (.tuple #[(.slice s89b s89l s89c), v90]) ∧
  isI v77 ∧ bif (nilI v77) then (
  isI v90 ∧ bif (nilI v90) then (
  alo #[(.int .i64 (IntKind.wrap .i64 (nn_0 - (1 : Int))))] T_int w91 fun a93 w94 =>
  Calls Pg fn_plaitlaw14_ints #[(.slice s89b s89l s89c), (.slice (some a93) 1 1)] w94 fun e97 w96 => ∃ b95 : Bool, e97 = .returned (.bool b95) ∧
  bif b95 then (
  Calls Pg fn_web_Web_Untie #[(.pointer p76), (.int .i64 (IntKind.wrap .i64 (nm_1 - (1 : Int))))] w96 fun e100 w99 => ∃ v98 : Value, e100 = .returned v98 ∧
  Calls Pg fn_plaitlaw14_num #[v98] w99 fun e103 w102 => ∃ n101 : Int, e103 = .returned (.int .i64 n101) ∧
  bif (n101 == (21 : Int)) then (
  Calls Pg fn_web_Web_Untie #[(.pointer p76), (.int .i64 nm_1)] w102 fun e106 w105 => ∃ v104 : Value, e106 = .returned v104 ∧
  Calls Pg fn_plaitlaw14_num #[v104] w105 fun e109 w108 => ∃ n107 : Int, e109 = .returned (.int .i64 n107) ∧
  bif (n107 == (12 : Int)) then (
  Calls Pg fn_plaitlaw14_sure #[] w108 fun e112 w111 => ∃ b110 : Bool, e112 = .returned (.bool b110) ∧
  R (.bool b110) w111) else (
  R (.bool false) w108)) else (
  R (.bool false) w102)) else (
  R (.bool false) w96)) else (
  R (.bool false) w91)) else (
  R (.bool false) w91))
theorem eq_plaitlaw14_WebNew (nn_0 : Int) (nm_1 : Int) (w : World) (R : Value → World → Prop) : sh_plaitlaw14_WebNew nn_0 nm_1 w R = denF Pg Eall Tryd.f3 (.seq (.leaf) (.seq (.leaf) (.seq (.leaf) (.seq (.leaf) (.seq (.leaf) (.seq (.leaf) (.join [] [] (.seq (.leaf) (.cond (.seq (.leaf) (.leaf)) (.leaf))) (.join [14] [.one (.bool)] (.leaf) (.join [] [] (.seq (.leaf) (.cond (.seq (.leaf) (.leaf)) (.leaf))) (.seq (.leaf) (.seq (.seq (.leaf) (.cond (.join [4] [.one (.bool)] (.leaf) (.leaf)) (.leaf))) (.seq (.leaf) (.seq (.leaf) (.leaf)))))))))))))) [(.int .i64 nn_0), (.int .i64 nm_1)] w R := by kernel_rfl
theorem calls_plaitlaw14_WebNew (nn_0 : Int) (nm_1 : Int) (w : World) (R : Value → World → Prop) (h : sh_plaitlaw14_WebNew nn_0 nm_1 w R) : Calls Pg fn_plaitlaw14_WebNew #[(.int .i64 nn_0), (.int .i64 nm_1)] w fun e w' => ∃ v, e = .returned v ∧ R v w' :=
  calls_of_den Eall_enter wide_mixed Tryd.func3 (by rw [← eq_plaitlaw14_WebNew]; exact h)

/-- 'plait/plaitlaw14.num' -/
def sh_plaitlaw14_num (ve_0 : Value) (w : World) (R : Value → World → Prop) : Prop :=
  alo #[(.int .i64 (0 : Int))] T_api_Errno w fun a1 w2 =>
  isI ve_0 ∧ bif (nilI ve_0) then (
  R (.int .i64 (0 : Int)) w2) else (
  Calls Pg fn_errors_As #[ve_0, (.iface T_p_api_Errno (.pointer (some a1)))] w2 fun e5 w4 => ∃ b3 : Bool, e5 = .returned (.bool b3) ∧
  bif b3 then (
  ldI .i64 a1 w4 fun n6 =>
  R (.int .i64 n6) w4) else (
  R (.int .i64 (-1 : Int)) w4))
theorem eq_plaitlaw14_num (ve_0 : Value) (w : World) (R : Value → World → Prop) : sh_plaitlaw14_num ve_0 w R = denF Pg Eall Tryd.f8 (.seq (.leaf) (.seq (.leaf) (.seq (.seq (.leaf) (.cond (.seq (.leaf) (.leaf)) (.leaf))) (.seq (.seq (.leaf) (.cond (.seq (.leaf) (.leaf)) (.leaf))) (.seq (.leaf) (.leaf)))))) [ve_0] w R := by kernel_rfl
theorem calls_plaitlaw14_num (ve_0 : Value) (w : World) (R : Value → World → Prop) (h : sh_plaitlaw14_num ve_0 w R) : Calls Pg fn_plaitlaw14_num #[ve_0] w fun e w' => ∃ v, e = .returned v ∧ R v w' :=
  calls_of_den Eall_enter wide_mixed Tryd.func8 (by rw [← eq_plaitlaw14_num]; exact h)

/-- 'plait/plaitlaw14.sure' -/
def sh_plaitlaw14_sure (w : World) (R : Value → World → Prop) : Prop :=
  Calls Pg fn_web_New #[(.int .i64 (3 : Int)), (.int .i64 (2 : Int))] w fun e3 w2 => ∃ p0 : Option Addr, ∃ v1 : Value, e3 = .returned (.tuple #[(.pointer p0), v1]) ∧
  ∃ J4 : List Value → World → Prop, (
  isI v1 ∧ bif (!(nilI v1)) then (
  R (.bool false) w2) else (
  bif (Option.isNone p0) then (
  R (.bool false) w2) else (
  Calls Pg fn_web_Web_Merge #[(.pointer p0), (.int .i64 (0 : Int)), (.int .i64 (1 : Int))] w2 fun e7 w6 => ∃ v5 : Value, e7 = .returned v5 ∧
  isI v5 ∧ bif (!(nilI v5)) then (
  R (.bool false) w6) else (
  Calls Pg fn_web_Web_Tie #[(.pointer p0), (.int .i64 (0 : Int)), (.int .i64 (1 : Int)), (.int .i64 (2 : Int)), (.int .i64 (7 : Int))] w6 fun e10 w9 => ∃ v8 : Value, e10 = .returned v8 ∧
  isI v8 ∧ bif (!(nilI v8)) then (
  R (.bool false) w9) else (
  J4 [] w9))))) ∧ ∀ _ : Env, ∀ w11 : World, J4 [] w11 →
  Calls Pg fn_web_Web_Weakest #[(.pointer p0), (.int .i64 (0 : Int)), (.int .i64 (2 : Int))] w11 fun e15 w14 => ∃ n12 : Int, ∃ v13 : Value, e15 = .returned (.tuple #[(.int .i64 n12), v13]) ∧
  isI v13 ∧ bif (nilI v13) then (
  bif (n12 == (0 : Int)) then (
  Calls Pg fn_web_Web_Merge #[(.pointer p0), (.int .i64 (0 : Int)), (.int .i64 (2 : Int))] w14 fun e18 w17 => ∃ v16 : Value, e18 = .returned v16 ∧
  Calls Pg fn_plaitlaw14_num #[v16] w17 fun e21 w20 => ∃ n19 : Int, e21 = .returned (.int .i64 n19) ∧
  bif (n19 == (20 : Int)) then (
  Calls Pg fn_web_Web_Tied #[(.pointer p0), (.int .i64 (0 : Int))] w20 fun e24 w23 => ∃ b22 : Bool, e24 = .returned (.bool b22) ∧
  R (.bool b22) w23) else (
  R (.bool false) w20)) else (
  R (.bool false) w14)) else (
  R (.bool false) w14)
theorem eq_plaitlaw14_sure (w : World) (R : Value → World → Prop) : sh_plaitlaw14_sure w R = denF Pg Eall Tryd.f15 (.seq (.leaf) (.seq (.leaf) (.join [] [] (.seq (.leaf) (.cond (.seq (.leaf) (.leaf)) (.leaf))) (.seq (.leaf) (.seq (.leaf) (.leaf)))))) [] w R := by kernel_rfl
theorem calls_plaitlaw14_sure (w : World) (R : Value → World → Prop) (h : sh_plaitlaw14_sure w R) : Calls Pg fn_plaitlaw14_sure #[] w fun e w' => ∃ v, e = .returned v ∧ R v w' :=
  calls_of_den Eall_enter wide_mixed Tryd.func15 (by rw [← eq_plaitlaw14_sure]; exact h)

/-- 'plait/plaitlaw14.ints' -/
def sh_plaitlaw14_ints (sa_0b : Option Addr) (sa_0l : Nat) (sa_0c : Nat) (sb_1b : Option Addr) (sb_1l : Nat) (sb_1c : Nat) (w : World) (R : Value → World → Prop) : Prop :=
  bif ((sa_0l : Int) != (sb_1l : Int)) then (
  R (.bool false) w) else (
  ∃ (I2 : List Value → World → Prop) (m3 : List Value → World → Nat), I2 [(.int .i64 (0 : Int))] w ∧
  ∀ _ : Env, ∀ n4 : Int, ∀ w5 : World, I2 [(.int .i64 n4)] w5 →
  bif (decide (n4 < (sa_0l : Int))) then (
  ixS sa_0b sa_0l n4 1 fun a6 =>
  ldI .i64 a6 w5.drew fun n7 =>
  ixS sb_1b sb_1l n4 1 fun a8 =>
  ldI .i64 a8 w5.drew fun n9 =>
  bif (n7 != n9) then (
  R (.bool false) w5.drew) else (
  (I2 [(.int .i64 (IntKind.wrap .i64 (n4 + (1 : Int))))] w5.drew ∧ m3 [(.int .i64 (IntKind.wrap .i64 (n4 + (1 : Int))))] w5.drew < m3 [(.int .i64 n4)] w5))) else (
  R (.bool true) w5))
theorem eq_plaitlaw14_ints (sa_0b : Option Addr) (sa_0l : Nat) (sa_0c : Nat) (sb_1b : Option Addr) (sb_1l : Nat) (sb_1c : Nat) (w : World) (R : Value → World → Prop) : sh_plaitlaw14_ints sa_0b sa_0l sa_0c sb_1b sb_1l sb_1c w R = denF Pg Eall Tryd.f17 (.seq (.leaf) (.seq (.seq (.leaf) (.cond (.seq (.leaf) (.leaf)) (.leaf))) (.seq (.seq (.leaf) (.block (.loop [5] [.one (.int .i64)] (.seq (.seq (.leaf) (.cond (.leaf) (.leaf))) (.seq (.block (.seq (.reg (.tk 0 [] [] (.tk 1 [] [] (.tk 2 [] [] (.tk 3 [] [] (.tk 4 [] [] (.tk 5 [] [] (.tk 6 [] [] (.tk 7 [] [] (.tk 8 [] [] (.fin))))))))))) (.cond (.seq (.leaf) (.leaf)) (.leaf)))) (.leaf)))))) (.seq (.leaf) (.leaf))))) [(.slice sa_0b sa_0l sa_0c), (.slice sb_1b sb_1l sb_1c)] w R := by kernel_rfl
theorem calls_plaitlaw14_ints (sa_0b : Option Addr) (sa_0l : Nat) (sa_0c : Nat) (sb_1b : Option Addr) (sb_1l : Nat) (sb_1c : Nat) (w : World) (R : Value → World → Prop) (h : sh_plaitlaw14_ints sa_0b sa_0l sa_0c sb_1b sb_1l sb_1c w R) : Calls Pg fn_plaitlaw14_ints #[(.slice sa_0b sa_0l sa_0c), (.slice sb_1b sb_1l sb_1c)] w fun e w' => ∃ v, e = .returned v ∧ R v w' :=
  calls_of_den Eall_enter wide_mixed Tryd.func17 (by rw [← eq_plaitlaw14_ints]; exact h)

end Go.Proofs.YtaoemljoiahapaaDoor
