/-
What each function does, as one formula, printed by a program of this session out of the translation; the kernel holds each print against the translation.
Conditions: none.
-/
import Derived.Test.YtdamhidnlfjkdaaGreatDoorSn
namespace Go.Proofs.YtdamhidnlfjkdaaGreatDoor
open Go
set_option linter.unusedVariables false
set_option maxRecDepth 100000
def sh_slots_New (n0 : Int) (w : World) (R : RV) : Prop :=
  ∃ J1 : JP, (
 bif (decide (n0 < 1)) then (
 R (.tuple #[.pointer none, .iface T_api_Errno (.int .i64 1)]) w) else (
 bif (decide (n0 > 1048576)) then (
 R (.tuple #[.pointer none, .iface T_api_Errno (.int .i64 1)]) w) else (
 J1 [] w))) ∧ ∀ _ : Env, ∀ w2, J1 [] w2 →
 alo #[.int .i64 n0, .int .i64 0, .slice none 0 0] T_slots_Slots w2 fun a3 w4 =>
 ∃ (I5 : JP) (m6 : JN), I5 [.int .i64 n0] w4 ∧
 ∀ _ : Env, ∀ n7 w8, I5 [.int .i64 n7] w8 →
 Calls Pg fn_slots_words #[.int .i64 n7] w8 fun e11 w10 => ∃ n9, e11 = .returned (.int .i64 n9) ∧
 0 ≤ n9 ∧ n9 ≤ n9 ∧ (8 : Int) * n9 ≤ 140737488355328 ∧ alo (zerosOf #[(.int .u64 0)] (Int.toNat n9)) T_uint64 w10 fun a12 w13 =>
 ∃ J14 : JP, (
 (64 : Int) ≠ 0 ∧ bif (decide ((Int.tmod n7 (64 : Int)) > 0)) then (
 0 ≤ (Int.tmod n7 (64 : Int)) ∧ ixS (some a12) (Int.toNat n9) (IntKind.wrap .i64 (((Int.toNat n9) : Int) - 1)) 1 fun a15 =>
 sto a15 (.int .u64 (IntKind.wrap .u64 ((18446744073709551615 : Int) * 2 ^ (min (Int.toNat (Int.tmod n7 (64 : Int))) (IntKind.bits .u64))))) w13 fun w16 =>
 J14 [] w16) else (
 J14 [] w13)) ∧ ∀ _ : Env, ∀ w17, J14 [] w17 →
 ldS (a3.add 2) w17 fun s18b s18l s18c =>
 alo #[.slice (some a12) (Int.toNat n9) (Int.toNat n9)] T_slots_level w17 fun a19 w20 =>
 ∃ s21b s21l s21c w22, (Builtin.append_ #[T_sl_slots_level, T_sl_slots_level] T_sl_slots_level #[.slice s18b s18l s18c, .slice (some a19) 1 1]).run Pg w20 = .ok (.slice s21b s21l s21c) w22 ∧
 sto (a3.add 2) (.slice s21b s21l s21c) w22 fun w23 =>
 bif (decide (n7 ≤ 64)) then (
 R (.tuple #[.pointer (some a3), .nilIface]) w23) else (
 Calls Pg fn_slots_words #[.int .i64 n7] w23 fun e26 w25 => ∃ n24, e26 = .returned (.int .i64 n24) ∧
 (I5 [.int .i64 n24] w25 ∧ m6 [.int .i64 n24] w25 < m6 [.int .i64 n7] w8))
theorem calls_slots_New (n0 : Int) : SH fn_slots_New [.int .i64 n0] (sh_slots_New n0) := cdn Tryz.func44 (.s .L (.j [] [] (.s .L (.c (.s .L .L) .L)) (.s .L (.s .L (.b (.o [5] [.one (.int .i64)] (.s (.b (.s .L (.j [] [] (.s .L (.s .L (.c .L .L))) (.s .L (.s .L (.c (.s .L .L) .L)))))) .L))))))) fun _ _ => by kernel_rfl

def sh_slots_words (n0 : Int) (w : World) (R : RV) : Prop :=
  (64 : Int) ≠ 0 ∧ R (.int .i64 (IntKind.wrap .i64 (Int.tdiv (IntKind.wrap .i64 ((IntKind.wrap .i64 (n0 + 64)) - 1)) (64 : Int)))) w
theorem calls_slots_words (n0 : Int) : SH fn_slots_words [.int .i64 n0] (sh_slots_words n0) := cdn Tryz.func84 (.s .L (.s .L .L)) fun _ _ => by kernel_rfl

end Go.Proofs.YtdamhidnlfjkdaaGreatDoor
