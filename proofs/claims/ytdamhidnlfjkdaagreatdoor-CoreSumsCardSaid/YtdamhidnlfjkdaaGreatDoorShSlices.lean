/-
What each function does, as one formula, printed by a program of this session out of the translation; the kernel holds each print against the translation.
Conditions: none.
-/
import Derived.Test.YtdamhidnlfjkdaaGreatDoorSn
namespace Go.Proofs.YtdamhidnlfjkdaaGreatDoor
open Go
set_option linter.unusedVariables false
set_option maxRecDepth 100000
def sh_slices_Backward__int32int32 (s0b:OA) (s0l s0c:Nat) (w:World) (R:RV):Prop:=
  alo #[.slice s0b s0l s0c] T_sl_int32 w fun a1 w2=>
 R (.func (.func fn_slices_Backward__int32int32_1) #[] #[.pointer (some a1)]) w2
theorem calls_slices_Backward__int32int32 (s0b:OA) (s0l s0c:Nat):SH fn_slices_Backward__int32int32 [.slice s0b s0l s0c] (sh_slices_Backward__int32int32 s0b s0l s0c):=cdn Tryz.func162 (.s .L (.s .L .L)) fun _ _=>by kernel_rfl
end Go.Proofs.YtdamhidnlfjkdaaGreatDoor
