/-
What each function does, as one formula, printed by a program of this session out of the translation; the kernel holds each print against the translation.
Conditions: none.
-/
import Derived.Test.YtdamhidnlfjkdaaGreatDoorSn
namespace Go.Proofs.YtdamhidnlfjkdaaGreatDoor
open Go
set_option linter.unusedVariables false
set_option maxRecDepth 100000
def sh_edges_Least (w : World) (R : RV) : Prop :=
  R (.int .i64 (-9223372036854775808)) w
theorem calls_edges_Least : SH fn_edges_Least [] (sh_edges_Least) := cdn Tryz.func49 (.s .L (.s .L .L)) fun _ _ => by kernel_rfl

end Go.Proofs.YtdamhidnlfjkdaaGreatDoor
