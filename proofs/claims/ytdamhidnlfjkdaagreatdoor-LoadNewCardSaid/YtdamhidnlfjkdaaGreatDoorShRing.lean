/-
What each function does, as one formula, printed by a program of this session out of the translation; the kernel holds each print against the translation.
Conditions: none.
-/
import Derived.Test.YtdamhidnlfjkdaaGreatDoorSn
namespace Go.Proofs.YtdamhidnlfjkdaaGreatDoor
open Go
set_option linter.unusedVariables false
set_option maxRecDepth 100000
def sh_ring_New (n0 : Int) (w : World) (R : RV) : Prop :=
  Calls Pg fn_seq_New #[.int .i64 n0] w fun e4 w3 => ∃ p1 v2, e4 = .returned (.tuple #[.pointer p1, v2]) ∧
 isI v2 ∧ bif (!(nilI v2)) then (
 R (.tuple #[.pointer none, v2]) w3) else (
 alo #[.pointer p1] T_ring_Rings w3 fun a5 w6 =>
 R (.tuple #[.pointer (some a5), .nilIface]) w6)
theorem calls_ring_New (n0 : Int) : SH fn_ring_New [.int .i64 n0] (sh_ring_New n0) := cdn Tryz.func85 (.s .L (.s .L (.s (.s .L (.c (.s .L .L) .L)) (.s .L .L)))) fun _ _ => by kernel_rfl

end Go.Proofs.YtdamhidnlfjkdaaGreatDoor
