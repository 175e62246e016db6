/-
What each function does, as one formula, printed by a program of this session out of the translation; the kernel holds each print against the translation.
Conditions: none.
-/
import Derived.Test.YtdamhidnlfjkdaaGreatDoorSn
namespace Go.Proofs.YtdamhidnlfjkdaaGreatDoor
open Go
set_option linter.unusedVariables false
set_option maxRecDepth 100000
def sh_plaitref12_Legal (n0:Int) (s1b:OA) (s1l s1c:Nat) (n2 n3 n4 n5:Int) (w:World) (R:RV):Prop:=
  alo #[.int .i64 n0,.slice s1b s1l s1c] T_plaitref10_Turns w fun a6 w7=>
 alo #[.int .i64 n2,.int .i64 n3] T__2int w7 fun a8 w9=>
 alo #[.int .i64 n4,.int .i64 n5] T__2int w9 fun a10 w11=>
 ld_plaitref10_Turns a6 w11 fun n12 s13b s13l s13c=>
 Calls Pg fn_plaitref12_Groups #[.agg #[.int .i64 n12,.slice s13b s13l s13c]] w11 fun e16 w15=>∃s14b s14l s14c,e16=.returned (.slice s14b s14l s14c)∧
 ixA a8 2 (0:Int) 1 fun a17=>
 ldI .i64 a17 w15.drew fun n18=>
 ixS s14b s14l n18 1 fun a19=>
 ldI .i64 a19 w15.drew fun n20=>
 ixA a10 2 (0:Int) 1 fun a21=>
 ldI .i64 a21 w15.drew fun n22=>
 ixS s14b s14l n22 1 fun a23=>
 ldI .i64 a23 w15.drew fun n24=>
 bif (n20 != n24) then (
 R (.bool true) w15.drew) else (
 ld_plaitref10_Turns a6 w15.drew fun n25 s26b s26l s26c=>
 ldI .i64 a8 w15.drew fun n27=>
 ldI .i64 (a8.add 1) w15.drew fun n28=>
 ldI .i64 a10 w15.drew fun n29=>
 ldI .i64 (a10.add 1) w15.drew fun n30=>
 Calls Pg fn_plaitref11_Same #[.agg #[.int .i64 n25,.slice s26b s26l s26c],.agg #[.int .i64 n27,.int .i64 n28],.agg #[.int .i64 n29,.int .i64 n30]] w15.drew fun e33 w32=>∃b31,e33=.returned (.bool b31)∧
 R (.bool b31) w32)
theorem calls_plaitref12_Legal (n0:Int) (s1b:OA) (s1l s1c:Nat) (n2 n3 n4 n5:Int):SH fn_plaitref12_Legal [.agg #[.int .i64 n0,.slice s1b s1l s1c],.agg #[.int .i64 n2,.int .i64 n3],.agg #[.int .i64 n4,.int .i64 n5]] (sh_plaitref12_Legal n0 s1b s1l s1c n2 n3 n4 n5):=cdn Tryz.func96 (.s .L (.s .L (.s (.r (.t 0 2 (.tk 2 [3,4,10,11,12,13,14,15,16,17] [15] (.t 3 1 (.tk 4 [10,11,12,13,14,15,16,17] [15] (.t 5 2 (.tk 7 [8,9,10,11,12,13,14,15,16,17] [15] (.t 8 1 (.tk 9 [10,11,12,13,14,15,16,17] [15] (.t 10 2 (.tk 12 [15,16,17] [15] (.tk 13 [15,16,17] [15] (.tk 14 [15,16,17] [15] (.one 15 (.t 16 2 .fin))))))))))))))) .L))) fun _ _=>by kernel_rfl
def sh_plaitref12_Groups (n0:Int) (s1b:OA) (s1l s1c:Nat) (w:World) (R:RV):Prop:=
  alo #[.int .i64 n0,.slice s1b s1l s1c] T_plaitref10_Turns w fun a2 w3=>
 ldS (a2.add 1) w3 fun s4b s4l s4c=>
 Calls Pg fn_plaitref07_New #[.int .i64 (s4l:Int)] w3 fun e7 w6=>∃s5b s5l s5c,e7=.returned (.slice s5b s5l s5c)∧
 ld_plaitref10_Turns a2 w6 fun n8 s9b s9l s9c=>
 Calls Pg fn_plaitref10_Darts #[.agg #[.int .i64 n8,.slice s9b s9l s9c]] w6 fun e12 w11=>∃s10b s10l s10c,e12=.returned (.slice s10b s10l s10c)∧
 ∃(I13:JP) (m14:JN),I13 [.slice s5b s5l s5c,.int .i64 0] w11∧
 ∀_:Env,∀s15b s15l s15c n16 w17,I13 [.slice s15b s15l s15c,.int .i64 n16] w17→
 bif (decide (n16<(s10l:Int))) then (
 ixS s10b s10l n16 1 fun a18=>
 ldI .i64 a18 w17 fun n19=>
 (2:Int)≠0∧bif ((Int.tmod n19 (2:Int))==0) then (
 ld_plaitref10_Turns a2 w17.drew fun n20 s21b s21l s21c=>
 ixS s10b s10l n16 1 fun a22=>
 ldI .i64 a22 w17.drew fun n23=>
 Calls Pg fn_plaitref10_Find #[.agg #[.int .i64 n20,.slice s21b s21l s21c],.int .i64 n23] w17.drew fun e27 w26=>∃n24 n25,e27=.returned (.tuple #[.int .i64 n24,.int .i64 n25])∧
 ld_plaitref10_Turns a2 w26.drew fun n28 s29b s29l s29c=>
 ixS s10b s10l n16 1 fun a30=>
 ldI .i64 a30 w26.drew fun n31=>
 Calls Pg fn_plaitref10_Find #[.agg #[.int .i64 n28,.slice s29b s29l s29c],.int .i64 (IntKind.wrap .i64 (n31+1))] w26.drew fun e35 w34=>∃n32 n33,e35=.returned (.tuple #[.int .i64 n32,.int .i64 n33])∧
 Calls Pg fn_plaitref07_Join #[.slice s15b s15l s15c,.int .i64 n24,.int .i64 n32] w34 fun e39 w38=>∃s36b s36l s36c b37,e39=.returned (.tuple #[.slice s36b s36l s36c,.bool b37])∧
 (I13 [.slice s36b s36l s36c,.int .i64 (IntKind.wrap .i64 (n16+1))] w38∧m14 [.slice s36b s36l s36c,.int .i64 (IntKind.wrap .i64 (n16+1))] w38<m14 [.slice s15b s15l s15c,.int .i64 n16] w17)) else (
 (I13 [.slice s15b s15l s15c,.int .i64 (IntKind.wrap .i64 (n16+1))] w17∧m14 [.slice s15b s15l s15c,.int .i64 (IntKind.wrap .i64 (n16+1))] w17<m14 [.slice s15b s15l s15c,.int .i64 n16] w17))) else (
 R (.slice s15b s15l s15c) w17)
theorem calls_plaitref12_Groups (n0:Int) (s1b:OA) (s1l s1c:Nat):SH fn_plaitref12_Groups [.agg #[.int .i64 n0,.slice s1b s1l s1c]] (sh_plaitref12_Groups n0 s1b s1l s1c):=cdn Tryz.func134 (.s .L (.s .L (.s .L (.s (.s .L (.b (.o [3,5] [.one .slc,.one (.int .i64)] (.s (.s .L (.c .L .L)) (.s (.b (.s .L (.c (.s (.r (.tk 0 [5,6,7,8,9,10] [5] (.t 1 3 (.tk 4 [5,6,7,8,9,10] [5] (.one 5 (.t 6 5 .fin)))))) (.s (.r (.tk 0 [6,7,8,9,10,11] [6] (.t 1 3 (.tk 4 [5,6,7,8,9,10,11] [6] (.t 5 1 (.one 6 (.t 7 5 .fin))))))) .L)) .L))) .L))))) (.s .L .L))))) fun _ _=>by kernel_rfl
end Go.Proofs.YtdamhidnlfjkdaaGreatDoor
