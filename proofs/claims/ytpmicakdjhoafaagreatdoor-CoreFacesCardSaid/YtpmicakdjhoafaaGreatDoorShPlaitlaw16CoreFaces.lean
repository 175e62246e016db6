/-
What a function does, as one formula, printed by a program of this session out of the translation; the kernel holds the print against the translation.
Conditions: none.
-/
import Derived.Test.YtpmicakdjhoafaaGreatDoorSn
set_option linter.unusedVariables false
namespace Go.Proofs.YtpmicakdjhoafaaGreatDoor
open Go
set_option maxRecDepth 100000
def Qik (n0:Int) (s1b:OA) (s1l s1c:Nat) (w:World) (R:RV):Prop:=
 (9:Int)≠0∧Calls Pg Qdy #[.int .i64 (IntKind.wrap .i64 (1+(IntKind.wrap .i64 (Int.tmod (IntKind.wrap .u64 n0) (9:Int))))),.slice s1b s1l s1c] w fun e9 w8=>∃p2 n3 s4b s4l s4c n5 s6b s6l s6c s7b s7l s7c,e9=.returned (.tuple #[.pointer p2,.agg #[.int .i64 n3,.slice s4b s4l s4c,.int .i64 n5,.slice s6b s6l s6c,.slice s7b s7l s7c]])∧
 alo #[.int .i64 0,.slice none 0 0,.int .i64 0,.slice none 0 0,.slice none 0 0] Qal w8 fun a10 w11=>
 sts a10 0 [.int .i64 n3,.slice s4b s4l s4c,.int .i64 n5,.slice s6b s6l s6c,.slice s7b s7l s7c] w11 fun w12=>
 bif (Option.isNone p2) then (
 R (.bool false) w12) else (
 0≤(IntKind.wrap .i64 (2*(IntKind.wrap .i64 (1+(IntKind.wrap .i64 (Int.tmod (IntKind.wrap .u64 n0) (9:Int)))))))∧(IntKind.wrap .i64 (2*(IntKind.wrap .i64 (1+(IntKind.wrap .i64 (Int.tmod (IntKind.wrap .u64 n0) (9:Int)))))))≤(IntKind.wrap .i64 (2*(IntKind.wrap .i64 (1+(IntKind.wrap .i64 (Int.tmod (IntKind.wrap .u64 n0) (9:Int)))))))∧(1:Int)*(IntKind.wrap .i64 (2*(IntKind.wrap .i64 (1+(IntKind.wrap .i64 (Int.tmod (IntKind.wrap .u64 n0) (9:Int)))))))≤140737488355328∧alo (Qax #[(.bool false)] (Int.toNat (IntKind.wrap .i64 (2*(IntKind.wrap .i64 (1+(IntKind.wrap .i64 (Int.tmod (IntKind.wrap .u64 n0) (9:Int))))))))) T_bool w12 fun a13 w14=>
 ∃(I15:JP) (m16:JN),I15 [.int .i64 0,.int .i64 0,.int .i64 0] w14∧
 ∀_:Env,∀n17 n18 n19 w20,I15 [.int .i64 n17,.int .i64 n18,.int .i64 n19] w20→
 bif (decide (n19<(IntKind.wrap .i64 (2*(IntKind.wrap .i64 (1+(IntKind.wrap .i64 (Int.tmod (IntKind.wrap .u64 n0) (9:Int))))))))) then (
 Calls Pg Qfo #[.pointer p2,.int .i64 n19] w20 fun e24 w23=>∃s21b s21l s21c v22,e24=.returned (.tuple #[.slice s21b s21l s21c,v22])∧
 Calls Pg Qhx #[.pointer p2,.int .i64 n19] w23 fun e28 w27=>∃n25 v26,e28=.returned (.tuple #[.int .i64 n25,v26])∧
 ∃J29:JP,(
 Calls Pg Qao #[v22] w27 fun e32 w31=>∃n30,e32=.returned (.int .i64 n30)∧
 Calls Pg Qao #[v26] w31 fun e35 w34=>∃n33,e35=.returned (.int .i64 n33)∧
 bif (n30 != n33) then (
 R (.bool false) w34) else (
 bif (n25 != (s21l:Int)) then (
 R (.bool false) w34) else (
 J29 [] w34)))∧∀_:Env,∀w36,J29 [] w36→
 ∃J37:JP,(
 isI v22∧bif (!(nilI v22)) then (
 (I15 [.int .i64 n17,.int .i64 n18,.int .i64 (IntKind.wrap .i64 (n19+1))] w36∧m16 [.int .i64 n17,.int .i64 n18,.int .i64 (IntKind.wrap .i64 (n19+1))] w36<m16 [.int .i64 n17,.int .i64 n18,.int .i64 n19] w20)) else (
 ixS (some a13) (Int.toNat (IntKind.wrap .i64 (2*(IntKind.wrap .i64 (1+(IntKind.wrap .i64 (Int.tmod (IntKind.wrap .u64 n0) (9:Int)))))))) n19 1 fun a38=>
 ldB a38 w36 fun b39=>
 bif b39 then (
 (I15 [.int .i64 n17,.int .i64 n18,.int .i64 (IntKind.wrap .i64 (n19+1))] w36∧m16 [.int .i64 n17,.int .i64 n18,.int .i64 (IntKind.wrap .i64 (n19+1))] w36<m16 [.int .i64 n17,.int .i64 n18,.int .i64 n19] w20)) else (
 J37 [] w36)))∧∀_:Env,∀w40,J37 [] w40→
 ∃(I41:JP) (m42:JN),I41 [.int .i64 0] w40∧
 ∀_:Env,∀n43 w44,I41 [.int .i64 n43] w44→
 bif (decide (n43<(s21l:Int))) then (
 ixS s21b s21l n43 1 fun a45=>
 ldI .i64 a45 w44 fun n46=>
 Calls Pg Qhb #[.pointer p2,.int .i64 n19,.int .i64 n46] w44 fun e50 w49=>∃b47 v48,e50=.returned (.tuple #[.bool b47,v48])∧
 isI v48∧bif (!(nilI v48)) then (
 R (.bool false) w49) else (
 bif (!b47) then (
 R (.bool false) w49) else (
 ixS s21b s21l n43 1 fun a51=>
 ldI .i64 a51 w49 fun n52=>
 bif (decide (n52<0)) then (
 R (.bool false) w49) else (
 ixS s21b s21l n43 1 fun a53=>
 ldI .i64 a53 w49 fun n54=>
 bif (decide (n54 ≥ (IntKind.wrap .i64 (2*(IntKind.wrap .i64 (1+(IntKind.wrap .i64 (Int.tmod (IntKind.wrap .u64 n0) (9:Int))))))))) then (
 R (.bool false) w49) else (
 ixS s21b s21l n43 1 fun a55=>
 ldI .i64 a55 w49 fun n56=>
 ixS (some a13) (Int.toNat (IntKind.wrap .i64 (2*(IntKind.wrap .i64 (1+(IntKind.wrap .i64 (Int.tmod (IntKind.wrap .u64 n0) (9:Int)))))))) n56 1 fun a57=>
 ldB a57 w49 fun b58=>
 bif b58 then (
 R (.bool false) w49) else (
 ixS s21b s21l n43 1 fun a59=>
 ldI .i64 a59 w49 fun n60=>
 ixS (some a13) (Int.toNat (IntKind.wrap .i64 (2*(IntKind.wrap .i64 (1+(IntKind.wrap .i64 (Int.tmod (IntKind.wrap .u64 n0) (9:Int)))))))) n60 1 fun a61=>
 sto a61 (.bool true) w49 fun w62=>
 (I41 [.int .i64 (IntKind.wrap .i64 (n43+1))] w62∧m42 [.int .i64 (IntKind.wrap .i64 (n43+1))] w62<m42 [.int .i64 n43] w44))))))) else (
 (I15 [.int .i64 (IntKind.wrap .i64 (n17+1)),.int .i64 (IntKind.wrap .i64 (n18+(s21l:Int))),.int .i64 (IntKind.wrap .i64 (n19+1))] w44∧m16 [.int .i64 (IntKind.wrap .i64 (n17+1)),.int .i64 (IntKind.wrap .i64 (n18+(s21l:Int))),.int .i64 (IntKind.wrap .i64 (n19+1))] w44<m16 [.int .i64 n17,.int .i64 n18,.int .i64 n19] w20))) else (
 ∃(I63:JP) (m64:JN),I63 [.int .i64 n17,.int .i64 0] w20∧
 ∀_:Env,∀n65 n66 w67,I63 [.int .i64 n65,.int .i64 n66] w67→
 bif (decide (n66<(IntKind.wrap .i64 (1+(IntKind.wrap .i64 (Int.tmod (IntKind.wrap .u64 n0) (9:Int))))))) then (
 ldS (a10.add 1) w67 fun s68b s68l s68c=>
 ixS s68b s68l n66 1 fun a69=>
 ldB a69 w67 fun b70=>
 bif b70 then (
 Calls Pg Qd3 #[.pointer p2,.int .i64 n66] w67 fun e73 w72=>∃v71,e73=.returned v71∧
 isI v71∧bif (nilI v71) then (
 Calls Pg Qay #[.pointer p2,.int .i64 n66] w72 fun e76 w75=>∃v74,e76=.returned v74∧
 isI v74∧bif (!(nilI v74)) then (
 R (.bool false) w75) else (
 (I63 [.int .i64 (IntKind.wrap .i64 (n65+1)),.int .i64 (IntKind.wrap .i64 (n66+1))] w75∧m64 [.int .i64 (IntKind.wrap .i64 (n65+1)),.int .i64 (IntKind.wrap .i64 (n66+1))] w75<m64 [.int .i64 n65,.int .i64 n66] w67))) else (
 (I63 [.int .i64 n65,.int .i64 (IntKind.wrap .i64 (n66+1))] w72∧m64 [.int .i64 n65,.int .i64 (IntKind.wrap .i64 (n66+1))] w72<m64 [.int .i64 n65,.int .i64 n66] w67))) else (
 (I63 [.int .i64 n65,.int .i64 (IntKind.wrap .i64 (n66+1))] w67∧m64 [.int .i64 n65,.int .i64 (IntKind.wrap .i64 (n66+1))] w67<m64 [.int .i64 n65,.int .i64 n66] w67))) else (
 Calls Pg Qbs #[.pointer p2] w67 fun e82 w81=>∃n77 n78 n79 n80,e82=.returned (.agg #[.int .i64 n77,.int .i64 n78,.int .i64 n79,.int .i64 n80])∧
 alo #[.int .i64 0,.int .i64 0,.int .i64 0,.int .i64 0] Qav w81 fun a83 w84=>
 sto a83 (.int .i64 n77) w84 fun w85=>
 sto (a83.add 1) (.int .i64 n78) w85 fun w86=>
 sto (a83.add 2) (.int .i64 n79) w86 fun w87=>
 sto (a83.add 3) (.int .i64 n80) w87 fun w88=>
 ldI .i64 (a83.add 2) w88 fun n89=>
 bif (n65==n89) then (
 ldI .i64 (a83.add 1) w88 fun n90=>
 bif (n18==(IntKind.wrap .i64 (2*n90))) then (
 Calls Pg Qbr #[] w88 fun e93 w92=>∃b91,e93=.returned (.bool b91)∧
 R (.bool b91) w92) else (
 R (.bool false) w88)) else (
 R (.bool false) w88))))
theorem calls_plaitlaw16_CoreFaces (n0:Int) (s1b:OA) (s1l s1c:Nat):SH Qi2 [.int .i64 n0,.slice s1b s1l s1c] (Qik n0 s1b s1l s1c):=cdn Tryz.func7 (.s .L (.s .L (.s .L (.s (.s .L (.c (.s .L .L) .L)) (.s .L (.s .L (.s (.s .L (.b (.o [9,10,11] [.one (.int .i64),.one (.int .i64),.one (.int .i64)] (.s (.s .L (.c .L .L)) (.s (.b (.s .L (.s .L (.j [] [] (.s .L (.c (.s .L .L) .L)) (.j [] [] (.s .L (.c .L .L)) (.s .L (.s .L (.b (.o [16] [.one (.int .i64)] (.s (.s .L (.c .L .L)) (.s (.b (.s .L (.s (.s .L (.c (.s .L .L) .L)) .L))) .L))))))))))) .L))))) (.s (.s .L (.b (.o [9,19] [.one (.int .i64),.one (.int .i64)] (.s (.s .L (.c .L .L)) (.s (.b (.s .L (.c (.s .L (.s .L (.c (.s .L .L) .L))) .L))) .L))))) (.s .L (.s .L .L)))))))))) fun _ _=>by kernel_rfl
end Go.Proofs.YtpmicakdjhoafaaGreatDoor
