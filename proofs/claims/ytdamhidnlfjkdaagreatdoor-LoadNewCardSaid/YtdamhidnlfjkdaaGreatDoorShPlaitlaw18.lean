/-
What each function does, as one formula, printed by a program of this session out of the translation; the kernel holds each print against the translation.
Conditions: none.
-/
import Derived.Test.YtdamhidnlfjkdaaGreatDoorSn
namespace Go.Proofs.YtdamhidnlfjkdaaGreatDoor
open Go
set_option linter.unusedVariables false
set_option maxRecDepth 100000
def sh_plaitlaw18_LoadNew (n0 : Int) (w : World) (R : RV) : Prop :=
  Calls Pg fn_load_State_Model #[.pointer none] w fun e7 w6 => ∃ n1 s2b s2l s2c s3b s3l s3c s4b s4l s4c v5, e7 = .returned (.tuple #[.agg #[.int .i64 n1, .slice s2b s2l s2c, .slice s3b s3l s3c, .slice s4b s4l s4c], v5]) ∧
 alo #[.int .i64 0, .slice none 0 0, .slice none 0 0, .slice none 0 0] T_model_Model w6 fun a8 w9 =>
 sto a8 (.int .i64 n1) w9 fun w10 =>
 sto (a8.add 1) (.slice s2b s2l s2c) w10 fun w11 =>
 sto (a8.add 2) (.slice s3b s3l s3c) w11 fun w12 =>
 sto (a8.add 3) (.slice s4b s4l s4c) w12 fun w13 =>
 Calls Pg fn_load_State_Dump #[.pointer none] w13 fun e17 w16 => ∃ s14b s14l s14c v15, e17 = .returned (.tuple #[.slice s14b s14l s14c, v15]) ∧
 alo #[.pointer none, .pointer none, .pointer none] T_load_State w16 fun a18 w19 =>
 Calls Pg fn_load_State_Model #[.pointer (some a18)] w19 fun e26 w25 => ∃ n20 s21b s21l s21c s22b s22l s22c s23b s23l s23c v24, e26 = .returned (.tuple #[.agg #[.int .i64 n20, .slice s21b s21l s21c, .slice s22b s22l s22c, .slice s23b s23l s23c], v24]) ∧
 alo #[.int .i64 0, .slice none 0 0, .slice none 0 0, .slice none 0 0] T_model_Model w25 fun a27 w28 =>
 sto a27 (.int .i64 n20) w28 fun w29 =>
 sto (a27.add 1) (.slice s21b s21l s21c) w29 fun w30 =>
 sto (a27.add 2) (.slice s22b s22l s22c) w30 fun w31 =>
 sto (a27.add 3) (.slice s23b s23l s23c) w31 fun w32 =>
 ∃ J33 : JP, (
 Calls Pg fn_plaitlaw18_num #[v5] w32 fun e36 w35 => ∃ n34, e36 = .returned (.int .i64 n34) ∧
 bif (n34 != 1) then (
 R (.bool false) w35) else (
 Calls Pg fn_plaitlaw18_num #[v15] w35 fun e39 w38 => ∃ n37, e39 = .returned (.int .i64 n37) ∧
 bif (n37 != 1) then (
 R (.bool false) w38) else (
 Calls Pg fn_plaitlaw18_num #[v24] w38 fun e42 w41 => ∃ n40, e42 = .returned (.int .i64 n40) ∧
 bif (n40 != 1) then (
 R (.bool false) w41) else (
 J33 [] w41)))) ∧ ∀ _ : Env, ∀ w43, J33 [] w43 →
 ∃ J44 : JP, (
 bif (decide (n0 < 1)) then (
 Calls Pg fn_load_New #[.int .i64 n0] w43 fun e48 w47 => ∃ p45 v46, e48 = .returned (.tuple #[.pointer p45, v46]) ∧
 Calls Pg fn_plaitlaw18_num #[v46] w47 fun e51 w50 => ∃ n49, e51 = .returned (.int .i64 n49) ∧
 bif (n49 == 1) then (
 bif (Option.isNone p45) then (
 Calls Pg fn_plaitlaw18_sure #[] w50 fun e54 w53 => ∃ b52, e54 = .returned (.bool b52) ∧
 R (.bool b52) w53) else (
 R (.bool false) w50)) else (
 R (.bool false) w50)) else (
 bif (decide (n0 > 1048576)) then (
 Calls Pg fn_load_New #[.int .i64 n0] w43 fun e58 w57 => ∃ p55 v56, e58 = .returned (.tuple #[.pointer p55, v56]) ∧
 Calls Pg fn_plaitlaw18_num #[v56] w57 fun e61 w60 => ∃ n59, e61 = .returned (.int .i64 n59) ∧
 bif (n59 == 1) then (
 bif (Option.isNone p55) then (
 Calls Pg fn_plaitlaw18_sure #[] w60 fun e64 w63 => ∃ b62, e64 = .returned (.bool b62) ∧
 R (.bool b62) w63) else (
 R (.bool false) w60)) else (
 R (.bool false) w60)) else (
 J44 [] w43))) ∧ ∀ _ : Env, ∀ w65, J44 [] w65 →
 Calls Pg fn_load_New #[.int .i64 (if (2000 : Int) < n0 then (2000 : Int) else n0)] w65 fun e69 w68 => ∃ p66 v67, e69 = .returned (.tuple #[.pointer p66, v67]) ∧
 ∃ J70 : JP, (
 isI v67 ∧ bif (!(nilI v67)) then (
 R (.bool false) w68) else (
 bif (Option.isNone p66) then (
 R (.bool false) w68) else (
 J70 [] w68))) ∧ ∀ _ : Env, ∀ w71, J70 [] w71 →
 Calls Pg fn_load_State_Model #[.pointer p66] w71 fun e78 w77 => ∃ n72 s73b s73l s73c s74b s74l s74c s75b s75l s75c v76, e78 = .returned (.tuple #[.agg #[.int .i64 n72, .slice s73b s73l s73c, .slice s74b s74l s74c, .slice s75b s75l s75c], v76]) ∧
 alo #[.int .i64 0, .slice none 0 0, .slice none 0 0, .slice none 0 0] T_model_Model w77 fun a79 w80 =>
 sto a79 (.int .i64 n72) w80 fun w81 =>
 sto (a79.add 1) (.slice s73b s73l s73c) w81 fun w82 =>
 sto (a79.add 2) (.slice s74b s74l s74c) w82 fun w83 =>
 sto (a79.add 3) (.slice s75b s75l s75c) w83 fun w84 =>
 isI v76 ∧ bif (!(nilI v76)) then (
 R (.bool false) w84) else (
 ldI .i64 a79 w84 fun n85 =>
 bif (n85 != (if (2000 : Int) < n0 then (2000 : Int) else n0)) then (
 R (.bool false) w84) else (
 ldS (a79.add 1) w84 fun s86b s86l s86c =>
 ldS (a79.add 2) w84 fun s87b s87l s87c =>
 ldS (a79.add 3) w84 fun s88b s88l s88c =>
 bif ((IntKind.wrap .i64 ((IntKind.wrap .i64 ((s86l : Int) + (s87l : Int))) + (s88l : Int))) != 0) then (
 R (.bool false) w84) else (
 pt p66 fun a89 =>
 ldP (a89.add 2) w84 fun p90 =>
 Calls Pg fn_core_Map_AddVertex #[.pointer p90, .int .i64 0] w84 fun e93 w92 => ∃ v91, e93 = .returned v91 ∧
 isI v91 ∧ bif (!(nilI v91)) then (
 R (.bool false) w92) else (
 Calls Pg fn_load_State_Model #[.pointer p66] w92 fun e100 w99 => ∃ n94 s95b s95l s95c s96b s96l s96c s97b s97l s97c v98, e100 = .returned (.tuple #[.agg #[.int .i64 n94, .slice s95b s95l s95c, .slice s96b s96l s96c, .slice s97b s97l s97c], v98]) ∧
 alo #[.int .i64 0, .slice none 0 0, .slice none 0 0, .slice none 0 0] T_model_Model w99 fun a101 w102 =>
 sto a101 (.int .i64 n94) w102 fun w103 =>
 sto (a101.add 1) (.slice s95b s95l s95c) w103 fun w104 =>
 sto (a101.add 2) (.slice s96b s96l s96c) w104 fun w105 =>
 sto (a101.add 3) (.slice s97b s97l s97c) w105 fun w106 =>
 Calls Pg fn_plaitlaw18_num #[v98] w106 fun e109 w108 => ∃ n107, e109 = .returned (.int .i64 n107) ∧
 bif (n107 == 17) then (
 Calls Pg fn_plaitlaw18_sure #[] w108 fun e112 w111 => ∃ b110, e112 = .returned (.bool b110) ∧
 R (.bool b110) w111) else (
 R (.bool false) w108)))))
theorem calls_plaitlaw18_LoadNew (n0 : Int) : SH fn_plaitlaw18_LoadNew [.int .i64 n0] (sh_plaitlaw18_LoadNew n0) := cdn Tryz.func3 (.s .L (.s .L (.s .L (.s .L (.s .L (.s .L (.j [] [] (.s .L (.c (.s .L .L) .L)) (.j [] [] (.s .L (.c (.s .L (.s .L .L)) .L)) (.s .L (.s .L (.j [] [] (.s .L (.c (.s .L .L) .L)) (.s .L (.s (.s .L (.c (.s .L .L) .L)) (.s .L (.s .L .L))))))))))))))) fun _ _ => by kernel_rfl

def sh_plaitlaw18_num (v0 : Value) (w : World) (R : RV) : Prop :=
  alo #[.int .i64 0] T_api_Errno w fun a1 w2 =>
 isI v0 ∧ bif (nilI v0) then (
 R (.int .i64 0) w2) else (
 Calls Pg fn_errors_As #[v0, .iface T_p_api_Errno (.pointer (some a1))] w2 fun e5 w4 => ∃ b3, e5 = .returned (.bool b3) ∧
 bif b3 then (
 ldI .i64 a1 w4 fun n6 =>
 R (.int .i64 n6) w4) else (
 R (.int .i64 (-1)) w4))
theorem calls_plaitlaw18_num (v0 : Value) : SH fn_plaitlaw18_num [v0] (sh_plaitlaw18_num v0) := cdn Tryz.func7 (.s .L (.s .L (.s (.s .L (.c (.s .L .L) .L)) (.s (.s .L (.c (.s .L .L) .L)) (.s .L .L))))) fun _ _ => by kernel_rfl

def sh_plaitlaw18_sure (w : World) (R : RV) : Prop :=
  Calls Pg fn_load_New #[.int .i64 1] w fun e3 w2 => ∃ p0 v1, e3 = .returned (.tuple #[.pointer p0, v1]) ∧
 isI v1 ∧ bif (!(nilI v1)) then (
 R (.bool false) w2) else (
 bif (Option.isNone p0) then (
 R (.bool false) w2) else (
 Calls Pg fn_load_State_Dump #[.pointer p0] w2 fun e7 w6 => ∃ s4b s4l s4c v5, e7 = .returned (.tuple #[.slice s4b s4l s4c, v5]) ∧
 isI v5 ∧ bif (nilI v5) then (
 ∃ s8 w9, (convert T_sl_uint8 T_string (.slice s4b s4l s4c)).run Pg w6 = .ok (.string s8) w9 ∧
 R (.bool (ByteArray.toList s8 == ByteArray.toList (ByteArray.mk #[0, 0, 0, 1, 0, 0, 0, 0, 0, 0, 0, 0]))) w9) else (
 R (.bool false) w6)))
theorem calls_plaitlaw18_sure : SH fn_plaitlaw18_sure [] (sh_plaitlaw18_sure) := cdn Tryz.func9 (.s .L (.s .L (.s (.s .L (.c (.s .L .L) .L)) (.s .L (.s .L .L))))) fun _ _ => by kernel_rfl

end Go.Proofs.YtdamhidnlfjkdaaGreatDoor
