/-
What a function does, as one formula, printed by a program of this session out of the translation; the kernel holds the print against the translation.
Conditions: none.
-/
import Derived.Test.YtpmicakdjhoafaaGreatDoorSn
set_option linter.unusedVariables false
namespace Go.Proofs.YtpmicakdjhoafaaGreatDoor
open Go
set_option maxRecDepth 100000
def Qhi (n0:Int) (s1b:OA) (s1l s1c:Nat) (w:World) (R:RV):Prop:=
 (9:Int)≠0∧Calls Pg Qdy #[.int .i64 (IntKind.wrap .i64 (1+(IntKind.wrap .i64 (Int.tmod (IntKind.wrap .u64 n0) (9:Int))))),.slice s1b s1l s1c] w fun e9 w8=>∃p2 n3 s4b s4l s4c n5 s6b s6l s6c s7b s7l s7c,e9=.returned (.tuple #[.pointer p2,.agg #[.int .i64 n3,.slice s4b s4l s4c,.int .i64 n5,.slice s6b s6l s6c,.slice s7b s7l s7c]])∧
 alo #[.int .i64 0,.slice none 0 0,.int .i64 0,.slice none 0 0,.slice none 0 0] Qal w8 fun a10 w11=>
 sts a10 0 [.int .i64 n3,.slice s4b s4l s4c,.int .i64 n5,.slice s6b s6l s6c,.slice s7b s7l s7c] w11 fun w12=>
 bif (Option.isNone p2) then (
 R (.bool false) w12) else (
 ∃(I13:JP) (m14:JN),I13 [.int .i64 0] w12∧
 ∀_:Env,∀n15 w16,I13 [.int .i64 n15] w16→
 bif (decide (n15<(IntKind.wrap .i64 (1+(IntKind.wrap .i64 (Int.tmod (IntKind.wrap .u64 n0) (9:Int))))))) then (
 Calls Pg Qgb #[.pointer p2,.int .i64 n15] w16 fun e20 w19=>∃b17 v18,e20=.returned (.tuple #[.bool b17,v18])∧
 Calls Pg Qb3 #[.pointer p2,.int .i64 n15] w19 fun e24 w23=>∃b21 v22,e24=.returned (.tuple #[.bool b21,v22])∧
 ∃J25:JP,(
 isI v18∧bif (!(nilI v18)) then (
 Calls Pg Qao #[v18] w23 fun e28 w27=>∃n26,e28=.returned (.int .i64 n26)∧
 Calls Pg Qao #[v22] w27 fun e31 w30=>∃n29,e31=.returned (.int .i64 n29)∧
 bif (n26 != n29) then (
 R (.bool false) w30) else (
 (I13 [.int .i64 (IntKind.wrap .i64 (n15+1))] w30∧m14 [.int .i64 (IntKind.wrap .i64 (n15+1))] w30<m14 [.int .i64 n15] w16))) else (
 isI v22∧bif (!(nilI v22)) then (
 Calls Pg Qao #[v18] w23 fun e34 w33=>∃n32,e34=.returned (.int .i64 n32)∧
 Calls Pg Qao #[v22] w33 fun e37 w36=>∃n35,e37=.returned (.int .i64 n35)∧
 bif (n32 != n35) then (
 R (.bool false) w36) else (
 (I13 [.int .i64 (IntKind.wrap .i64 (n15+1))] w36∧m14 [.int .i64 (IntKind.wrap .i64 (n15+1))] w36<m14 [.int .i64 n15] w16))) else (
 J25 [] w23)))∧∀_:Env,∀w38,J25 [] w38→
 Calls Pg Qdh #[.pointer p2,.int .i64 (IntKind.wrap .i64 (2*n15))] w38 fun e42 w41=>∃n39 v40,e42=.returned (.tuple #[.int .i64 n39,v40])∧
 Calls Pg Qdh #[.pointer p2,.int .i64 (IntKind.wrap .i64 ((IntKind.wrap .i64 (2*n15))+1))] w41 fun e46 w45=>∃n43 v44,e46=.returned (.tuple #[.int .i64 n43,v44])∧
 Calls Pg Qbs #[.pointer p2] w45 fun e52 w51=>∃n47 n48 n49 n50,e52=.returned (.agg #[.int .i64 n47,.int .i64 n48,.int .i64 n49,.int .i64 n50])∧
 alo #[.int .i64 0,.int .i64 0,.int .i64 0,.int .i64 0] Qav w51 fun a53 w54=>
 sto a53 (.int .i64 n47) w54 fun w55=>
 sto (a53.add 1) (.int .i64 n48) w55 fun w56=>
 sto (a53.add 2) (.int .i64 n49) w56 fun w57=>
 sto (a53.add 3) (.int .i64 n50) w57 fun w58=>
 ∃J59:JP,(
 isI v40∧bif (!(nilI v40)) then (
 R (.bool false) w58) else (
 isI v44∧bif (!(nilI v44)) then (
 R (.bool false) w58) else (
 bif b17 then (
 bif (!b21) then (
 R (.bool false) w58) else (
 bif (n39==n43) then (
 bif b21 then (
 R (.bool false) w58) else (
 Calls Pg Qbo #[.pointer p2,.int .i64 n15] w58 fun e62 w61=>∃v60,e62=.returned v60∧
 isI v60∧bif (!(nilI v60)) then (
 R (.bool false) w61) else (
 J59 [] w61))) else (
 Calls Pg Qbo #[.pointer p2,.int .i64 n15] w58 fun e65 w64=>∃v63,e65=.returned v63∧
 isI v63∧bif (!(nilI v63)) then (
 R (.bool false) w64) else (
 J59 [] w64)))) else (
 bif (n39==n43) then (
 bif b21 then (
 R (.bool false) w58) else (
 Calls Pg Qbo #[.pointer p2,.int .i64 n15] w58 fun e68 w67=>∃v66,e68=.returned v66∧
 isI v66∧bif (!(nilI v66)) then (
 R (.bool false) w67) else (
 J59 [] w67))) else (
 Calls Pg Qbo #[.pointer p2,.int .i64 n15] w58 fun e71 w70=>∃v69,e71=.returned v69∧
 isI v69∧bif (!(nilI v69)) then (
 R (.bool false) w70) else (
 J59 [] w70))))))∧∀_:Env,∀w72,J59 [] w72→
 Calls Pg Qbs #[.pointer p2] w72 fun e78 w77=>∃n73 n74 n75 n76,e78=.returned (.agg #[.int .i64 n73,.int .i64 n74,.int .i64 n75,.int .i64 n76])∧
 alo #[.int .i64 0,.int .i64 0,.int .i64 0,.int .i64 0] Qav w77 fun a79 w80=>
 sto a79 (.int .i64 n73) w80 fun w81=>
 sto (a79.add 1) (.int .i64 n74) w81 fun w82=>
 sto (a79.add 2) (.int .i64 n75) w82 fun w83=>
 sto (a79.add 3) (.int .i64 n76) w83 fun w84=>
 ldI .i64 (a79.add 3) w84 fun n85=>
 ldI .i64 (a53.add 3) w84 fun n86=>
 bif (!((n85==(IntKind.wrap .i64 (n86+1)))==b17)) then (
 R (.bool false) w84) else (
 ldI .i64 (a79.add 1) w84 fun n87=>
 ldI .i64 (a53.add 1) w84 fun n88=>
 bif (n87 != (IntKind.wrap .i64 (n88-1))) then (
 R (.bool false) w84) else (
 ldI .i64 a79 w84 fun n89=>
 ldI .i64 a53 w84 fun n90=>
 bif (n89 != n90) then (
 R (.bool false) w84) else (
 ldI .i64 (a79.add 3) w84 fun n91=>
 ldI .i64 (a53.add 3) w84 fun n92=>
 bif (n91 != n92) then (
 ldI .i64 (a79.add 3) w84 fun n93=>
 ldI .i64 (a53.add 3) w84 fun n94=>
 bif (n93 != (IntKind.wrap .i64 (n94+1))) then (
 R (.bool false) w84) else (
 (I13 [.int .i64 (IntKind.wrap .i64 (n15+1))] w84∧m14 [.int .i64 (IntKind.wrap .i64 (n15+1))] w84<m14 [.int .i64 n15] w16))) else (
 (I13 [.int .i64 (IntKind.wrap .i64 (n15+1))] w84∧m14 [.int .i64 (IntKind.wrap .i64 (n15+1))] w84<m14 [.int .i64 n15] w16)))))) else (
 Calls Pg Qbs #[.pointer p2] w16 fun e100 w99=>∃n95 n96 n97 n98,e100=.returned (.agg #[.int .i64 n95,.int .i64 n96,.int .i64 n97,.int .i64 n98])∧
 bif (n96==0) then (
 Calls Pg Qdz #[.pointer p2] w99 fun e103 w102=>∃n101,e103=.returned (.int .i64 n101)∧
 bif (n101==0) then (
 Calls Pg Qbr #[] w102 fun e106 w105=>∃b104,e106=.returned (.bool b104)∧
 R (.bool b104) w105) else (
 R (.bool false) w102)) else (
 R (.bool false) w99)))
theorem calls_plaitlaw16_CoreBridges (n0:Int) (s1b:OA) (s1l s1c:Nat):SH Qhk [.int .i64 n0,.slice s1b s1l s1c] (Qhi n0 s1b s1l s1c):=cdn Tryz.func4 (.s .L (.s .L (.s .L (.s (.s .L (.c (.s .L .L) .L)) (.s (.s .L (.b (.o [8] [.one (.int .i64)] (.s (.s .L (.c .L .L)) (.s (.b (.s .L (.s .L (.j [] [] (.s .L (.c (.s (.s .L (.c (.s .L .L) .L)) .L) .L)) (.s .L (.s .L (.s .L (.j [] [] (.s .L (.c (.s .L .L) .L)) (.s .L (.s .L (.c (.s .L .L) .L))))))))))) .L))))) (.s .L .L)))))) fun _ _=>by kernel_rfl
end Go.Proofs.YtpmicakdjhoafaaGreatDoor
