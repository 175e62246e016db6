/-
What each function does, as one formula, printed by a program of this session out of the translation; the kernel holds each print against the translation.
Conditions: none.
-/
import Derived.Test.YtdamhidnlfjkdaaGreatDoorSn
namespace Go.Proofs.YtdamhidnlfjkdaaGreatDoor
open Go
set_option linter.unusedVariables false
set_option maxRecDepth 100000
def sh_face_All (p0 : OA) (w : World) (R : RV) : Prop :=
  Calls Pg fn_turn_Turns_Sizes #[.pointer p0] w fun e4 w3 => ∃ n1 n2, e4 = .returned (.tuple #[.int .i64 n1, .int .i64 n2]) ∧
 0 ≤ (IntKind.wrap .i64 (2 * n2)) ∧ (IntKind.wrap .i64 (2 * n2)) ≤ (IntKind.wrap .i64 (2 * n2)) ∧ (1 : Int) * (IntKind.wrap .i64 (2 * n2)) ≤ 140737488355328 ∧ alo (zerosOf #[(.bool false)] (Int.toNat (IntKind.wrap .i64 (2 * n2)))) T_bool w3 fun a5 w6 =>
 ∃ (I7 : JP) (m8 : JN), I7 [.slice none 0 0, .int .i64 0] w6 ∧
 ∀ _ : Env, ∀ s9b s9l s9c n10 w11, I7 [.slice s9b s9l s9c, .int .i64 n10] w11 →
 bif (decide (n10 < ((Int.toNat (IntKind.wrap .i64 (2 * n2))) : Int))) then (
 ixS (some a5) (Int.toNat (IntKind.wrap .i64 (2 * n2))) n10 1 fun a12 =>
 ldB a12 w11 fun b13 =>
 bif b13 then (
 (I7 [.slice s9b s9l s9c, .int .i64 (IntKind.wrap .i64 (n10 + 1))] w11 ∧ m8 [.slice s9b s9l s9c, .int .i64 (IntKind.wrap .i64 (n10 + 1))] w11 < m8 [.slice s9b s9l s9c, .int .i64 n10] w11)) else (
 Calls Pg fn_face_Walk #[.pointer p0, .int .i64 n10] w11 fun e17 w16 => ∃ s14b s14l s14c v15, e17 = .returned (.tuple #[.slice s14b s14l s14c, v15]) ∧
 isI v15 ∧ bif (!(nilI v15)) then (
 (I7 [.slice s9b s9l s9c, .int .i64 (IntKind.wrap .i64 (n10 + 1))] w16 ∧ m8 [.slice s9b s9l s9c, .int .i64 (IntKind.wrap .i64 (n10 + 1))] w16 < m8 [.slice s9b s9l s9c, .int .i64 n10] w11)) else (
 ∃ (I18 : JP) (m19 : JN), I18 [.int .i64 0] w16 ∧
 ∀ _ : Env, ∀ n20 w21, I18 [.int .i64 n20] w21 →
 bif (decide (n20 < (s14l : Int))) then (
 ixS s14b s14l n20 1 fun a22 =>
 ldI .i64 a22 w21 fun n23 =>
 ixS (some a5) (Int.toNat (IntKind.wrap .i64 (2 * n2))) n23 1 fun a24 =>
 sto a24 (.bool true) w21 fun w25 =>
 (I18 [.int .i64 (IntKind.wrap .i64 (n20 + 1))] w25 ∧ m19 [.int .i64 (IntKind.wrap .i64 (n20 + 1))] w25 < m19 [.int .i64 n20] w21)) else (
 alo #[.slice s14b s14l s14c] T_sl_int w21 fun a26 w27 =>
 ∃ s28b s28l s28c w29, (Builtin.append_ #[T_sl_sl_int, T_sl_sl_int] T_sl_sl_int #[.slice s9b s9l s9c, .slice (some a26) 1 1]).run Pg w27 = .ok (.slice s28b s28l s28c) w29 ∧
 (I7 [.slice s28b s28l s28c, .int .i64 (IntKind.wrap .i64 (n10 + 1))] w29 ∧ m8 [.slice s28b s28l s28c, .int .i64 (IntKind.wrap .i64 (n10 + 1))] w29 < m8 [.slice s9b s9l s9c, .int .i64 n10] w11))))) else (
 R (.slice s9b s9l s9c) w11)
theorem calls_face_All (p0 : OA) : SH fn_face_All [.pointer p0] (sh_face_All p0) := cdn Tryz.func188 (.s .L (.s .L (.s .L (.s .L (.s (.s .L (.b (.o [6, 22] [.one .slc, .one (.int .i64)] (.s .L (.s (.c .L .L) (.s (.b (.s .L (.s (.s .L (.c .L .L)) (.s .L (.s (.s .L (.c .L .L)) (.s (.s .L (.b (.o [39] [.one (.int .i64)] (.s .L (.s (.c .L .L) (.s (.b (.s .L .L)) .L)))))) .L)))))) .L)))))) (.s .L .L)))))) fun _ _ => by kernel_rfl

def sh_face_Walk (p0 : OA) (n1 : Int) (w : World) (R : RV) : Prop :=
  Calls Pg fn_face_Next #[.pointer p0, .int .i64 n1] w fun e5 w4 => ∃ n2 v3, e5 = .returned (.tuple #[.int .i64 n2, v3]) ∧
 isI v3 ∧ bif (!(nilI v3)) then (
 R (.tuple #[.slice none 0 0, v3]) w4) else (
 alo #[.int .i64 n1] T_int w4 fun a6 w7 =>
 ∃ (I8 : JP) (m9 : JN), I8 [.slice (some a6) 1 1, .int .i64 n2] w7 ∧
 ∀ _ : Env, ∀ s10b s10l s10c n11 w12, I8 [.slice s10b s10l s10c, .int .i64 n11] w12 →
 bif (n11 != n1) then (
 alo #[.int .i64 n11] T_int w12 fun a13 w14 =>
 ∃ s15b s15l s15c w16, (Builtin.append_ #[T_sl_int, T_sl_int] T_sl_int #[.slice s10b s10l s10c, .slice (some a13) 1 1]).run Pg w14 = .ok (.slice s15b s15l s15c) w16 ∧
 Calls Pg fn_face_Next #[.pointer p0, .int .i64 n11] w16 fun e20 w19 => ∃ n17 v18, e20 = .returned (.tuple #[.int .i64 n17, v18]) ∧
 isI v18 ∧ bif (!(nilI v18)) then (
 R (.tuple #[.slice none 0 0, v18]) w19) else (
 (I8 [.slice s15b s15l s15c, .int .i64 n17] w19 ∧ m9 [.slice s15b s15l s15c, .int .i64 n17] w19 < m9 [.slice s10b s10l s10c, .int .i64 n11] w12))) else (
 R (.tuple #[.slice s10b s10l s10c, .nilIface]) w12))
theorem calls_face_Walk (p0 : OA) (n1 : Int) : SH fn_face_Walk [.pointer p0, .int .i64 n1] (sh_face_Walk p0 n1) := cdn Tryz.func207 (.s .L (.s .L (.s (.s .L (.c (.s .L .L) .L)) (.s .L (.s (.b (.o [8, 6] [.one .slc, .one (.int .i64)] (.s (.s .L (.c .L .L)) (.b (.s .L (.s .L (.s .L (.c (.s .L .L) .L)))))))) (.s .L .L)))))) fun _ _ => by kernel_rfl

def sh_face_Next (p0 : OA) (n1 : Int) (w : World) (R : RV) : Prop :=
  Calls Pg fn_turn_Turns_Origin #[.pointer p0, .int .i64 n1] w fun e5 w4 => ∃ n2 v3, e5 = .returned (.tuple #[.int .i64 n2, v3]) ∧
 isI v3 ∧ bif (!(nilI v3)) then (
 R (.tuple #[.int .i64 0, v3]) w4) else (
 Calls Pg fn_turn_Turns_Next #[.pointer p0, .int .i64 (IntKind.wrap .i64 (((BitVec.ofInt (IntKind.bits .i64) n1 ^^^ BitVec.ofInt (IntKind.bits .i64) (1 : Int)).toNat : Int)))] w4 fun e9 w8 => ∃ n6 v7, e9 = .returned (.tuple #[.int .i64 n6, v7]) ∧
 R (.tuple #[.int .i64 n6, v7]) w8)
theorem calls_face_Next (p0 : OA) (n1 : Int) : SH fn_face_Next [.pointer p0, .int .i64 n1] (sh_face_Next p0 n1) := cdn Tryz.func216 (.s .L (.s (.s .L (.s .L (.c (.s .L .L) .L))) (.s .L .L))) fun _ _ => by kernel_rfl

end Go.Proofs.YtdamhidnlfjkdaaGreatDoor
