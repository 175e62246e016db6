/-
What each function does, as one formula, printed by a program of this session out of the translation; the kernel holds each print against the translation.
Conditions: none.
-/
import Derived.Test.YtdamhidnlfjkdaaGreatDoorSn
namespace Go.Proofs.YtdamhidnlfjkdaaGreatDoor
open Go
set_option linter.unusedVariables false
set_option maxRecDepth 100000
def sh_plaitref07_New (n0:Int) (w:World) (R:RV):Prop:=
  alo #[] T_int w fun a1 w2=>
 ∃(I3:JP) (m4:JN),I3 [.slice (some a1) 0 0,.int .i64 0] w2∧
 ∀_:Env,∀s5b s5l s5c n6 w7,I3 [.slice s5b s5l s5c,.int .i64 n6] w7→
 bif (decide (n6<n0)) then (
 alo #[.int .i64 n6] T_int w7 fun a8 w9=>
 ∃s10b s10l s10c w11,(Builtin.append_ #[T_sl_int,T_sl_int] T_sl_int #[.slice s5b s5l s5c,.slice (some a8) 1 1]).run Pg w9=.ok (.slice s10b s10l s10c) w11∧
 (I3 [.slice s10b s10l s10c,.int .i64 (IntKind.wrap .i64 (n6+1))] w11∧m4 [.slice s10b s10l s10c,.int .i64 (IntKind.wrap .i64 (n6+1))] w11<m4 [.slice s5b s5l s5c,.int .i64 n6] w7)) else (
 R (.slice s5b s5l s5c) w7)
theorem calls_plaitref07_New (n0:Int):SH fn_plaitref07_New [.int .i64 n0] (sh_plaitref07_New n0):=cdn Tryz.func166 (.s .L (.s .L (.s (.s .L (.b (.o [3,4] [.one .slc,.one (.int .i64)] (.s (.s .L (.c .L .L)) (.s (.b .L) .L))))) (.s .L .L)))) fun _ _=>by kernel_rfl
def sh_plaitref07_Join (s0b:OA) (s0l s0c:Nat) (n1 n2:Int) (w:World) (R:RV):Prop:=
  ixS s0b s0l n1 1 fun a3=>
 ldI .i64 a3 w.drew fun n4=>
 ixS s0b s0l n2 1 fun a5=>
 ldI .i64 a5 w.drew fun n6=>
 bif (n4==n6) then (
 R (.tuple #[.slice s0b s0l s0c,.bool false]) w.drew) else (
 ixS s0b s0l n1 1 fun a7=>
 ldI .i64 a7 w.drew.drew fun n8=>
 ixS s0b s0l n2 1 fun a9=>
 ldI .i64 a9 w.drew.drew fun n10=>
 ixS s0b s0l n1 1 fun a11=>
 ldI .i64 a11 w.drew.drew fun n12=>
 ixS s0b s0l n2 1 fun a13=>
 ldI .i64 a13 w.drew.drew fun n14=>
 ∃(I15:JP) (m16:JN),I15 [.slice none 0 0,.int .i64 0] w.drew.drew∧
 ∀_:Env,∀s17b s17l s17c n18 w19,I15 [.slice s17b s17l s17c,.int .i64 n18] w19→
 bif (decide (n18<(s0l:Int))) then (
 ixS s0b s0l n18 1 fun a20=>
 ldI .i64 a20 w19 fun n21=>
 bif (n21==(if n14>n12 then n14 else n12)) then (
 alo #[.int .i64 (if n10<n8 then n10 else n8)] T_int w19 fun a22 w23=>
 ∃s24b s24l s24c w25,(Builtin.append_ #[T_sl_int,T_sl_int] T_sl_int #[.slice s17b s17l s17c,.slice (some a22) 1 1]).run Pg w23=.ok (.slice s24b s24l s24c) w25∧
 (I15 [.slice s24b s24l s24c,.int .i64 (IntKind.wrap .i64 (n18+1))] w25∧m16 [.slice s24b s24l s24c,.int .i64 (IntKind.wrap .i64 (n18+1))] w25<m16 [.slice s17b s17l s17c,.int .i64 n18] w19)) else (
 ixS s0b s0l n18 1 fun a26=>
 ldI .i64 a26 w19 fun n27=>
 alo #[.int .i64 n27] T_int w19 fun a28 w29=>
 ∃s30b s30l s30c w31,(Builtin.append_ #[T_sl_int,T_sl_int] T_sl_int #[.slice s17b s17l s17c,.slice (some a28) 1 1]).run Pg w29=.ok (.slice s30b s30l s30c) w31∧
 (I15 [.slice s30b s30l s30c,.int .i64 (IntKind.wrap .i64 (n18+1))] w31∧m16 [.slice s30b s30l s30c,.int .i64 (IntKind.wrap .i64 (n18+1))] w31<m16 [.slice s17b s17l s17c,.int .i64 n18] w19))) else (
 R (.tuple #[.slice s17b s17l s17c,.bool true]) w19))
theorem calls_plaitref07_Join (s0b:OA) (s0l s0c:Nat) (n1 n2:Int):SH fn_plaitref07_Join [.slice s0b s0l s0c,.int .i64 n1,.int .i64 n2] (sh_plaitref07_Join s0b s0l s0c n1 n2):=cdn Tryz.func168 (.s .L (.s (.s (.r (.t 0 9 .fin)) (.c (.s .L .L) .L)) (.s (.r (.t 0 20 .fin)) (.s .L (.s (.s .L (.b (.o [10,11] [.one .slc,.one (.int .i64)] (.s (.s .L (.c .L .L)) (.s (.b (.s .L (.c .L .L))) .L))))) (.s .L .L)))))) fun _ _=>by kernel_rfl
end Go.Proofs.YtdamhidnlfjkdaaGreatDoor
