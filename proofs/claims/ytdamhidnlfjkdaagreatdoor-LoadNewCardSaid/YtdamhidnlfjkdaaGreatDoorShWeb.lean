/-
What each function does, as one formula, printed by a program of this session out of the translation; the kernel holds each print against the translation.
Conditions: none.
-/
import Derived.Test.YtdamhidnlfjkdaaGreatDoorSn
namespace Go.Proofs.YtdamhidnlfjkdaaGreatDoor
open Go
set_option linter.unusedVariables false
set_option maxRecDepth 100000
def sh_web_New (n0 n1 : Int) (w : World) (R : RV) : Prop :=
  ∃ J2 : JP, (
 bif (decide (n0 < 1)) then (
 R (.tuple #[.pointer none, .iface T_api_Errno (.int .i64 1)]) w) else (
 bif (decide (n0 > 4194304)) then (
 R (.tuple #[.pointer none, .iface T_api_Errno (.int .i64 1)]) w) else (
 bif (decide (n1 < 1)) then (
 R (.tuple #[.pointer none, .iface T_api_Errno (.int .i64 1)]) w) else (
 bif (decide (n1 > 1048576)) then (
 R (.tuple #[.pointer none, .iface T_api_Errno (.int .i64 1)]) w) else (
 J2 [] w))))) ∧ ∀ _ : Env, ∀ w3, J2 [] w3 →
 Calls Pg fn_ring_New #[.int .i64 n0] w3 fun e7 w6 => ∃ p4 v5, e7 = .returned (.tuple #[.pointer p4, v5]) ∧
 isI v5 ∧ bif (!(nilI v5)) then (
 R (.tuple #[.pointer none, v5]) w6) else (
 Calls Pg fn_cut_New #[.int .i64 (IntKind.wrap .i64 (n0 + n1))] w6 fun e11 w10 => ∃ p8 v9, e11 = .returned (.tuple #[.pointer p8, v9]) ∧
 isI v9 ∧ bif (!(nilI v9)) then (
 R (.tuple #[.pointer none, v9]) w10) else (
 0 ≤ n1 ∧ n1 ≤ n1 ∧ (8 : Int) * n1 ≤ 140737488355328 ∧ alo (zerosOf #[(.int .i32 0), (.int .i32 0)] (Int.toNat n1)) T__2int32 w10 fun a12 w13 =>
 alo #[.pointer p4, .pointer p8, .int .i64 n0, .slice (some a12) (Int.toNat n1) (Int.toNat n1)] T_web_Web w13 fun a14 w15 =>
 ∃ (I16 : JP) (m17 : JN), I16 [.int .i64 0] w15 ∧
 ∀ _ : Env, ∀ n18 w19, I16 [.int .i64 n18] w19 →
 bif (decide (n18 < n0)) then (
 Calls Pg fn_cut_Forest_Set #[.pointer p8, .int .i64 n18, .int .i64 9223372036854775807] w19 fun e22 w21 => ∃ v20, e22 = .returned v20 ∧
 isI v20 ∧ bif (!(nilI v20)) then (
 R (.tuple #[.pointer none, v20]) w21) else (
 (I16 [.int .i64 (IntKind.wrap .i64 (n18 + 1))] w21 ∧ m17 [.int .i64 (IntKind.wrap .i64 (n18 + 1))] w21 < m17 [.int .i64 n18] w19))) else (
 ldS (a14.add 3) w19 fun s23b s23l s23c =>
 ∃ (I24 : JP) (m25 : JN), I24 [.int .i64 0] w19 ∧
 ∀ _ : Env, ∀ n26 w27, I24 [.int .i64 n26] w27 →
 bif (decide (n26 < (s23l : Int))) then (
 ldS (a14.add 3) w27 fun s28b s28l s28c =>
 ixS s28b s28l n26 2 fun a29 =>
 sto a29 (.int .i32 (-1)) w27 fun w30 =>
 sto (a29.add 1) (.int .i32 (-1)) w30 fun w31 =>
 (I24 [.int .i64 (IntKind.wrap .i64 (n26 + 1))] w31 ∧ m25 [.int .i64 (IntKind.wrap .i64 (n26 + 1))] w31 < m25 [.int .i64 n26] w27)) else (
 R (.tuple #[.pointer (some a14), .nilIface]) w27))))
theorem calls_web_New (n0 n1 : Int) : SH fn_web_New [.int .i64 n0, .int .i64 n1] (sh_web_New n0 n1) := cdn Tryz.func46 (.s .L (.j [] [] (.s .L (.c (.s .L .L) .L)) (.s .L (.s (.s .L (.c (.s .L .L) .L)) (.s .L (.s (.s .L (.c (.s .L .L) .L)) (.s .L (.s (.s .L (.b (.o [54] [.one (.int .i64)] (.s .L (.s (.c .L .L) (.s (.b (.s .L (.s .L (.s .L (.c (.s .L .L) .L))))) .L)))))) (.s (.s .L (.b (.o [69] [.one (.int .i64)] (.s .L (.s (.c .L .L) (.s (.b (.s .L .L)) .L)))))) (.s .L .L)))))))))) fun _ _ => by kernel_rfl

end Go.Proofs.YtdamhidnlfjkdaaGreatDoor
