/-
What each function does, as one formula, printed by a program of this session out of the translation; the kernel holds each print against the translation.
Conditions: none.
-/
import Derived.Test.YtdamhidnlfjkdaaGreatDoorSn
namespace Go.Proofs.YtdamhidnlfjkdaaGreatDoor
open Go
set_option linter.unusedVariables false
set_option maxRecDepth 100000
def sh_edges_Weight (n0:Int) (w:World) (R:RV):Prop:=
  0≤(20:Int)∧R (.int .i32 (IntKind.wrap .i32 (Int.fdiv n0 (2 ^ (min (Int.toNat (20:Int)) (IntKind.bits .i64)))))) w
theorem calls_edges_Weight (n0:Int):SH fn_edges_Weight [.int .i64 n0] (sh_edges_Weight n0):=cdn Tryz.func32 (.s .L (.s .L .L)) fun _ _=>by kernel_rfl
def sh_edges_Least (w:World) (R:RV):Prop:=
  R (.int .i64 (-9223372036854775808)) w
theorem calls_edges_Least:SH fn_edges_Least [] (sh_edges_Least):=cdn Tryz.func49 (.s .L (.s .L .L)) fun _ _=>by kernel_rfl
def sh_edges_Key (n0 n1:Int) (w:World) (R:RV):Prop:=
  bif (decide (n1<0)) then (
 R (.tuple #[.int .i64 0,.iface T_api_Errno (.int .i64 12)]) w) else (
 bif (decide (n1 ≥ 1048576)) then (
 R (.tuple #[.int .i64 0,.iface T_api_Errno (.int .i64 12)]) w) else (
 0≤(20:Int)∧R (.tuple #[.int .i64 (IntKind.wrap .i64 ((IntKind.wrap .i64 ((IntKind.wrap .i64 n0)*2 ^ (min (Int.toNat (20:Int)) (IntKind.bits .i64))))+n1)),.nilIface]) w))
theorem calls_edges_Key (n0 n1:Int):SH fn_edges_Key [.int .i32 n0,.int .i64 n1] (sh_edges_Key n0 n1):=cdn Tryz.func63 (.s .L (.s (.s .L (.c (.s .L .L) .L)) (.s .L .L))) fun _ _=>by kernel_rfl
end Go.Proofs.YtdamhidnlfjkdaaGreatDoor
