/-
What each function does, as one formula, printed by a program of this session out of the translation; the kernel holds each print against the translation.
Conditions: none.
-/
import Derived.Test.YtdamhidnlfjkdaaGreatDoorSn
namespace Go.Proofs.YtdamhidnlfjkdaaGreatDoor
open Go
set_option linter.unusedVariables false
set_option maxRecDepth 100000
def sh_plaitref11_Same (n0:Int) (s1b:OA) (s1l s1c:Nat) (n2 n3 n4 n5:Int) (w:World) (R:RV):Prop:=
  alo #[.int .i64 n0,.slice s1b s1l s1c] T_plaitref10_Turns w fun a6 w7=>
 alo #[.int .i64 n2,.int .i64 n3] T__2int w7 fun a8 w9=>
 alo #[.int .i64 n4,.int .i64 n5] T__2int w9 fun a10 w11=>
 ld_plaitref10_Turns a6 w11.drew fun n12 s13b s13l s13c=>
 ldI .i64 a8 w11.drew fun n14=>
 ldI .i64 (a8.add 1) w11.drew fun n15=>
 ld_plaitref10_Turns a6 w11.drew fun n16 s17b s17l s17c=>
 ldI .i64 a10 w11.drew fun n18=>
 ldI .i64 (a10.add 1) w11.drew fun n19=>
 Calls Pg fn_plaitref11_At #[.agg #[.int .i64 n12,.slice s13b s13l s13c],.agg #[.int .i64 n14,.int .i64 n15]] w11.drew fun e22 w21=>∃n20,e22=.returned (.int .i64 n20)∧
 w21.cell? a10=some (.int .i64 n18)∧w21.cell? (a10.add 1)=some (.int .i64 n19)∧kps w21 a6 0 [.int .i64 n16,.slice s17b s17l s17c] (
 Calls Pg fn_plaitref11_At #[.agg #[.int .i64 n16,.slice s17b s17l s17c],.agg #[.int .i64 n18,.int .i64 n19]] w21 fun e25 w24=>∃n23,e25=.returned (.int .i64 n23)∧
 ∃J26:JP,(
 bif (decide (n20<0)) then (
 bif (n20==n23) then (
 ixA a8 2 (0:Int) 1 fun a27=>
 ldI .i64 a27 w24 fun n28=>
 ixA a10 2 (0:Int) 1 fun a29=>
 ldI .i64 a29 w24 fun n30=>
 R (.bool (n28==n30)) w24) else (
 R (.bool false) w24)) else (
 bif (decide (n23<0)) then (
 bif (n20==n23) then (
 ixA a8 2 (0:Int) 1 fun a31=>
 ldI .i64 a31 w24 fun n32=>
 ixA a10 2 (0:Int) 1 fun a33=>
 ldI .i64 a33 w24 fun n34=>
 R (.bool (n32==n34)) w24) else (
 R (.bool false) w24)) else (
 J26 [] w24)))∧∀_:Env,∀w35,J26 [] w35→
 ld_plaitref10_Turns a6 w35 fun n36 s37b s37l s37c=>
 Calls Pg fn_plaitref11_Walk #[.agg #[.int .i64 n36,.slice s37b s37l s37c],.int .i64 n20] w35 fun e40 w39=>∃s38b s38l s38c,e40=.returned (.slice s38b s38l s38c)∧
 ∃(I41:JP) (m42:JN),I41 [.int .i64 0] w39∧
 ∀_:Env,∀n43 w44,I41 [.int .i64 n43] w44→
 bif (decide (n43<(s38l:Int))) then (
 ixS s38b s38l n43 1 fun a45=>
 ldI .i64 a45 w44 fun n46=>
 bif (n46==n23) then (
 R (.bool true) w44) else (
 (I41 [.int .i64 (IntKind.wrap .i64 (n43+1))] w44∧m42 [.int .i64 (IntKind.wrap .i64 (n43+1))] w44<m42 [.int .i64 n43] w44))) else (
 R (.bool false) w44))
theorem calls_plaitref11_Same (n0:Int) (s1b:OA) (s1l s1c:Nat) (n2 n3 n4 n5:Int):SH fn_plaitref11_Same [.agg #[.int .i64 n0,.slice s1b s1l s1c],.agg #[.int .i64 n2,.int .i64 n3],.agg #[.int .i64 n4,.int .i64 n5]] (sh_plaitref11_Same n0 s1b s1l s1c n2 n3 n4 n5):=cdn Tryz.func135 (.s .L (.s (.r (.tk 0 [2,5,6,7] [2,5] (.tk 1 [2,5,6,7] [2,5] (.tk 3 [5,6,7] [5] (.tk 4 [5,6,7] [5] (.one 2 (.one 5 (.t 6 2 .fin)))))))) (.j [] [] (.s .L (.c (.s .L .L) .L)) (.s .L (.s (.s .L (.b (.o [10] [.one (.int .i64)] (.s (.s .L (.c .L .L)) (.s (.b (.s .L (.c (.s .L .L) .L))) .L))))) (.s .L .L)))))) fun _ _=>by kernel_rfl
def sh_plaitref11_At (n0:Int) (s1b:OA) (s1l s1c:Nat) (n2 n3:Int) (w:World) (R:RV):Prop:=
  alo #[.int .i64 n0,.slice s1b s1l s1c] T_plaitref10_Turns w fun a4 w5=>
 alo #[.int .i64 n2,.int .i64 n3] T__2int w5 fun a6 w7=>
 ixA a6 2 (1:Int) 1 fun a8=>
 ldI .i64 a8 w7 fun n9=>
 bif (n9==(-1)) then (
 R (.int .i64 (-1)) w7) else (
 ld_plaitref10_Turns a4 w7 fun n10 s11b s11l s11c=>
 ixA a6 2 (1:Int) 1 fun a12=>
 ldI .i64 a12 w7 fun n13=>
 Calls Pg fn_plaitref10_Next #[.agg #[.int .i64 n10,.slice s11b s11l s11c],.int .i64 n13,.int .i64 1] w7 fun e16 w15=>∃n14,e16=.returned (.int .i64 n14)∧
 R (.int .i64 n14) w15)
theorem calls_plaitref11_At (n0:Int) (s1b:OA) (s1l s1c:Nat) (n2 n3:Int):SH fn_plaitref11_At [.agg #[.int .i64 n0,.slice s1b s1l s1c],.agg #[.int .i64 n2,.int .i64 n3]] (sh_plaitref11_At n0 s1b s1l s1c n2 n3):=cdn Tryz.func169 (.s .L (.s (.s .L (.c (.s .L .L) .L)) (.s .L .L))) fun _ _=>by kernel_rfl
def sh_plaitref11_Walk (n0:Int) (s1b:OA) (s1l s1c:Nat) (n2:Int) (w:World) (R:RV):Prop:=
  alo #[.int .i64 n0,.slice s1b s1l s1c] T_plaitref10_Turns w fun a3 w4=>
 alo #[.int .i64 n2] T_int w4 fun a5 w6=>
 ∃(I7:JP) (m8:JN),I7 [.slice (some a5) 1 1,.int .i64 0] w6∧
 ∀_:Env,∀s9b s9l s9c n10 w11,I7 [.slice s9b s9l s9c,.int .i64 n10] w11→
 ldI .i64 a3 w11 fun n12=>
 bif (decide (n10<(IntKind.wrap .i64 (2*n12)))) then (
 ld_plaitref10_Turns a3 w11.drew fun n13 s14b s14l s14c=>
 ixS s9b s9l (IntKind.wrap .i64 ((s9l:Int)-1)) 1 fun a15=>
 ldI .i64 a15 w11.drew fun n16=>
 Calls Pg fn_plaitref11_Next #[.agg #[.int .i64 n13,.slice s14b s14l s14c],.int .i64 n16] w11.drew fun e19 w18=>∃n17,e19=.returned (.int .i64 n17)∧
 bif (n17==n2) then (
 R (.slice s9b s9l s9c) w18) else (
 alo #[.int .i64 n17] T_int w18 fun a20 w21=>
 ∃s22b s22l s22c w23,(Builtin.append_ #[T_sl_int,T_sl_int] T_sl_int #[.slice s9b s9l s9c,.slice (some a20) 1 1]).run Pg w21=.ok (.slice s22b s22l s22c) w23∧
 (I7 [.slice s22b s22l s22c,.int .i64 (IntKind.wrap .i64 (n10+1))] w23∧m8 [.slice s22b s22l s22c,.int .i64 (IntKind.wrap .i64 (n10+1))] w23<m8 [.slice s9b s9l s9c,.int .i64 n10] w11))) else (
 R (.slice s9b s9l s9c) w11)
theorem calls_plaitref11_Walk (n0:Int) (s1b:OA) (s1l s1c:Nat) (n2:Int):SH fn_plaitref11_Walk [.agg #[.int .i64 n0,.slice s1b s1l s1c],.int .i64 n2] (sh_plaitref11_Walk n0 s1b s1l s1c n2):=cdn Tryz.func170 (.s .L (.s .L (.s (.s .L (.b (.o [5,6] [.one .slc,.one (.int .i64)] (.s (.s .L (.c .L .L)) (.s (.b (.s (.r (.tk 0 [7,8] [7] (.t 1 5 (.tk 6 [7,8] [7] (.one 7 (.t 8 1 .fin)))))) (.s (.s .L (.c (.s .L .L) .L)) .L))) .L))))) (.s .L .L)))) fun _ _=>by kernel_rfl
def sh_plaitref11_Next (n0:Int) (s1b:OA) (s1l s1c:Nat) (n2:Int) (w:World) (R:RV):Prop:=
  alo #[.int .i64 n0,.slice s1b s1l s1c] T_plaitref10_Turns w fun a3 w4=>
 (2:Int)≠0∧bif ((Int.tmod n2 (2:Int))==1) then (
 ld_plaitref10_Turns a3 w4 fun n5 s6b s6l s6c=>
 Calls Pg fn_plaitref10_Next #[.agg #[.int .i64 n5,.slice s6b s6l s6c],.int .i64 (IntKind.wrap .i64 (n2-1)),.int .i64 1] w4 fun e9 w8=>∃n7,e9=.returned (.int .i64 n7)∧
 R (.int .i64 n7) w8) else (
 ld_plaitref10_Turns a3 w4 fun n10 s11b s11l s11c=>
 Calls Pg fn_plaitref10_Next #[.agg #[.int .i64 n10,.slice s11b s11l s11c],.int .i64 (IntKind.wrap .i64 (n2+1)),.int .i64 1] w4 fun e14 w13=>∃n12,e14=.returned (.int .i64 n12)∧
 R (.int .i64 n12) w13)
theorem calls_plaitref11_Next (n0:Int) (s1b:OA) (s1l s1c:Nat) (n2:Int):SH fn_plaitref11_Next [.agg #[.int .i64 n0,.slice s1b s1l s1c],.int .i64 n2] (sh_plaitref11_Next n0 s1b s1l s1c n2):=cdn Tryz.func191 (.s .L (.s .L (.s (.s .L (.c .L .L)) (.s .L .L)))) fun _ _=>by kernel_rfl
end Go.Proofs.YtdamhidnlfjkdaaGreatDoor
