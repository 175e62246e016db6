/-
What each function does, as one formula, printed by a program of this session out of the translation; the kernel holds each print against the translation.
Conditions: none.
-/
import Derived.Test.YtpmicakdjhoafaaGreatDoorSn
set_option linter.unusedVariables false
namespace Go.Proofs.YtpmicakdjhoafaaGreatDoor
open Go
set_option maxRecDepth 100000
def Qmt (n0 n1:Int) (w:World) (R:RV):Prop:=
 alo #[.int .i64 0,.slice none 0 0] Qap w fun a2 w3=>
 0≤n0∧n0≤n0∧(24:Int)*n0≤140737488355328∧alo (Qav #[(.slice none 0 0)] (Int.toNat n0)) Qam w3 fun a4 w5=>
 sts a2 0 [.int .i64 n1,.slice (some a4) (Int.toNat n0) (Int.toNat n0)] w5 fun w6=>
 Qad a2 w6 fun n7 s8b s8l s8c=>
 R (.agg #[.int .i64 n7,.slice s8b s8l s8c]) w6
theorem Qqp (n0 n1:Int):SH Qcx [.int .i64 n0,.int .i64 n1] (Qmt n0 n1):=cdnR Tryz.func51 (.s .L (.s .L .L)) fun _ _=>by kernel_rfl
def Qkn (n0:Int) (s1b:OA) (s1l s1c:Nat) (w:World) (R:RV):Prop:=
 alo #[.int .i64 n0,.slice s1b s1l s1c] Qap w fun a2 w3=>
 ∃(I4:JP) (m5:JN),I4 [.slice none 0 0,.int .i64 0] w3∧
 ∀_:Env,∀s6b s6l s6c n7 w8,I4 [.slice s6b s6l s6c,.int .i64 n7] w8→
 ldI .i64 a2 w8 fun n9=>
 bif (decide (n7<(IntKind.wrap .i64 (2*n9)))) then (
 Qad a2 w8 fun n10 s11b s11l s11c=>
 Calls Pg Qau #[.agg #[.int .i64 n10,.slice s11b s11l s11c],.int .i64 n7] w8 fun e15 w14=>∃n12 n13,e15=.returned (.tuple #[.int .i64 n12,.int .i64 n13])∧
 bif (decide (n12 ≥ 0)) then (
 alo #[.int .i64 n7] Qbl w14 fun a16 w17=>
 ∃s18b s18l s18c w19,(Builtin.append_ #[Qam,Qam] Qam #[.slice s6b s6l s6c,.slice (some a16) 1 1]).run Pg w17=.ok (.slice s18b s18l s18c) w19∧
 (I4 [.slice s18b s18l s18c,.int .i64 (IntKind.wrap .i64 (n7+1))] w19∧m5 [.slice s18b s18l s18c,.int .i64 (IntKind.wrap .i64 (n7+1))] w19<m5 [.slice s6b s6l s6c,.int .i64 n7] w8)) else (
 (I4 [.slice s6b s6l s6c,.int .i64 (IntKind.wrap .i64 (n7+1))] w14∧m5 [.slice s6b s6l s6c,.int .i64 (IntKind.wrap .i64 (n7+1))] w14<m5 [.slice s6b s6l s6c,.int .i64 n7] w8))) else (
 R (.slice s6b s6l s6c) w8)
theorem Qof (n0:Int) (s1b:OA) (s1l s1c:Nat):SH Qe8 [.agg #[.int .i64 n0,.slice s1b s1l s1c]] (Qkn n0 s1b s1l s1c):=cdn Tryz.func57 (.s .L (.s .L (.s (.s .L (.b (.o [3,4] [.one .slc,.one (.int .i64)] (.s (.s .L (.c .L .L)) (.s (.b (.s .L (.s .L (.c .L .L)))) .L))))) (.s .L .L)))) fun _ _=>by kernel_rfl
def Qln (n0:Int) (s1b:OA) (s1l s1c:Nat) (n2:Int) (w:World) (R:RV):Prop:=
 alo #[.int .i64 n0,.slice s1b s1l s1c] Qap w fun a3 w4=>
 ∃(I5:JP) (m6:JN),I5 [.int .i64 0] w4∧
 ∀_:Env,∀n7 w8,I5 [.int .i64 n7] w8→
 ldS (a3.add 1) w8 fun s9b s9l s9c=>
 bif (decide (n7<(s9l:Int))) then (
 ∃(I10:JP) (m11:JN),I10 [.int .i64 0] w8∧
 ∀_:Env,∀n12 w13,I10 [.int .i64 n12] w13→
 ldS (a3.add 1) w13 fun s14b s14l s14c=>
 ixS s14b s14l n7 1 fun a15=>
 ldS a15 w13 fun s16b s16l s16c=>
 bif (decide (n12<(s16l:Int))) then (
 ldS (a3.add 1) w13 fun s17b s17l s17c=>
 ixS s17b s17l n7 1 fun a18=>
 ldS a18 w13 fun s19b s19l s19c=>
 ixS s19b s19l n12 1 fun a20=>
 ldI .i64 a20 w13 fun n21=>
 bif (n21==n2) then (
 R (.tuple #[.int .i64 n7,.int .i64 n12]) w13) else (
 (I10 [.int .i64 (IntKind.wrap .i64 (n12+1))] w13∧m11 [.int .i64 (IntKind.wrap .i64 (n12+1))] w13<m11 [.int .i64 n12] w13))) else (
 (I5 [.int .i64 (IntKind.wrap .i64 (n7+1))] w13∧m6 [.int .i64 (IntKind.wrap .i64 (n7+1))] w13<m6 [.int .i64 n7] w8))) else (
 R (.tuple #[.int .i64 (-1),.int .i64 (-1)]) w8)
theorem Qpj (n0:Int) (s1b:OA) (s1l s1c:Nat) (n2:Int):SH Qau [.agg #[.int .i64 n0,.slice s1b s1l s1c],.int .i64 n2] (Qln n0 s1b s1l s1c n2):=cdn Tryz.func59 (.s .L (.s (.s .L (.b (.o [6] [.one (.int .i64)] (.s (.s .L (.c .L .L)) (.s (.b (.s .L (.b (.o [7] [.one (.int .i64)] (.s (.s .L (.c .L .L)) (.s (.b (.s .L (.c (.s .L .L) .L))) .L)))))) .L))))) (.s .L .L))) fun _ _=>by kernel_rfl
def Qko (n0:Int) (s1b:OA) (s1l s1c:Nat) (n2 n3:Int) (w:World) (R:RV):Prop:=
 alo #[.int .i64 n0,.slice s1b s1l s1c] Qap w fun a4 w5=>
 ∃J6:JP,(
 bif (decide (n2<0)) then (
 R (.int .i64 12) w5) else (
 ldS (a4.add 1) w5 fun s7b s7l s7c=>
 bif (decide (n2 ≥ (s7l:Int))) then (
 R (.int .i64 12) w5) else (
 J6 [] w5)))∧∀_:Env,∀w8,J6 [] w8→
 bif (n3==(-1)) then (
 ldS (a4.add 1) w8 fun s9b s9l s9c=>
 ixS s9b s9l n2 1 fun a10=>
 ldS a10 w8 fun s11b s11l s11c=>
 bif ((s11l:Int)==0) then (
 R (.int .i64 0) w8) else (
 Qad a4 w8 fun n12 s13b s13l s13c=>
 Calls Pg Qau #[.agg #[.int .i64 n12,.slice s13b s13l s13c],.int .i64 n3] w8 fun e17 w16=>∃n14 n15,e17=.returned (.tuple #[.int .i64 n14,.int .i64 n15])∧
 bif (decide (n3<0)) then (
 R (.int .i64 13) w16) else (
 bif (n14 != n2) then (
 R (.int .i64 13) w16) else (
 R (.int .i64 0) w16)))) else (
 Qad a4 w8 fun n18 s19b s19l s19c=>
 Calls Pg Qau #[.agg #[.int .i64 n18,.slice s19b s19l s19c],.int .i64 n3] w8 fun e23 w22=>∃n20 n21,e23=.returned (.tuple #[.int .i64 n20,.int .i64 n21])∧
 bif (decide (n3<0)) then (
 R (.int .i64 13) w22) else (
 bif (n20 != n2) then (
 R (.int .i64 13) w22) else (
 R (.int .i64 0) w22)))
theorem Qog (n0:Int) (s1b:OA) (s1l s1c:Nat) (n2 n3:Int):SH Qdo [.agg #[.int .i64 n0,.slice s1b s1l s1c],.int .i64 n2,.int .i64 n3] (Qko n0 s1b s1l s1c n2 n3):=cdn Tryz.func92 (.s .L (.j [] [] (.s .L (.c (.s .L .L) .L)) (.s (.s .L (.c (.s .L .L) .L)) (.s .L (.s (.s .L (.c (.s .L .L) .L)) (.s .L .L)))))) fun _ _=>by kernel_rfl
def Qmu (n0:Int) (s1b:OA) (s1l s1c:Nat) (n2 n3 n4 n5 n6:Int) (w:World) (R:RV):Prop:=
 alo #[.int .i64 n0,.slice s1b s1l s1c] Qap w fun a7 w8=>
 alo #[.int .i64 n3,.int .i64 n4] Qat w8 fun a9 w10=>
 alo #[.int .i64 n5,.int .i64 n6] Qat w10 fun a11 w12=>
 alo #[.int .i64 0,.slice none 0 0] Qap w12 fun a13 w14=>
 ∃J15:JP,(
 bif (decide (n2<0)) then (
 Qad a7 w14 fun n16 s17b s17l s17c=>
 sts a13 0 [.int .i64 n16,.slice s17b s17l s17c] w14 fun w18=>
 Qad a13 w18 fun n19 s20b s20l s20c=>
 R (.tuple #[.agg #[.int .i64 n19,.slice s20b s20l s20c],.int .i64 12]) w18) else (
 ldI .i64 a7 w14 fun n21=>
 bif (decide (n2 ≥ n21)) then (
 Qad a7 w14 fun n22 s23b s23l s23c=>
 sts a13 0 [.int .i64 n22,.slice s23b s23l s23c] w14 fun w24=>
 Qad a13 w24 fun n25 s26b s26l s26c=>
 R (.tuple #[.agg #[.int .i64 n25,.slice s26b s26l s26c],.int .i64 12]) w24) else (
 J15 [] w14)))∧∀_:Env,∀w27,J15 [] w27→
 Qad a7 w27 fun n28 s29b s29l s29c=>
 Calls Pg Qau #[.agg #[.int .i64 n28,.slice s29b s29l s29c],.int .i64 (IntKind.wrap .i64 (2*n2))] w27 fun e33 w32=>∃n30 n31,e33=.returned (.tuple #[.int .i64 n30,.int .i64 n31])∧
 bif (decide (n30 ≥ 0)) then (
 Qad a7 w32 fun n34 s35b s35l s35c=>
 sts a13 0 [.int .i64 n34,.slice s35b s35l s35c] w32 fun w36=>
 Qad a13 w36 fun n37 s38b s38l s38c=>
 R (.tuple #[.agg #[.int .i64 n37,.slice s38b s38l s38c],.int .i64 20]) w36) else (
 Qad a7 w32 fun n39 s40b s40l s40c=>
 ixA a9 2 (0:Int) 1 fun a41=>
 ldI .i64 a41 w32 fun n42=>
 ixA a9 2 (1:Int) 1 fun a43=>
 ldI .i64 a43 w32 fun n44=>
 Calls Pg Qdo #[.agg #[.int .i64 n39,.slice s40b s40l s40c],.int .i64 n42,.int .i64 n44] w32 fun e47 w46=>∃n45,e47=.returned (.int .i64 n45)∧
 bif (n45 != 0) then (
 Qad a7 w46 fun n48 s49b s49l s49c=>
 sts a13 0 [.int .i64 n48,.slice s49b s49l s49c] w46 fun w50=>
 Qad a13 w50 fun n51 s52b s52l s52c=>
 R (.tuple #[.agg #[.int .i64 n51,.slice s52b s52l s52c],.int .i64 n45]) w50) else (
 Qad a7 w46 fun n53 s54b s54l s54c=>
 ixA a11 2 (0:Int) 1 fun a55=>
 ldI .i64 a55 w46 fun n56=>
 ixA a11 2 (1:Int) 1 fun a57=>
 ldI .i64 a57 w46 fun n58=>
 Calls Pg Qdo #[.agg #[.int .i64 n53,.slice s54b s54l s54c],.int .i64 n56,.int .i64 n58] w46 fun e61 w60=>∃n59,e61=.returned (.int .i64 n59)∧
 bif (n59 != 0) then (
 Qad a7 w60 fun n62 s63b s63l s63c=>
 sts a13 0 [.int .i64 n62,.slice s63b s63l s63c] w60 fun w64=>
 Qad a13 w64 fun n65 s66b s66l s66c=>
 R (.tuple #[.agg #[.int .i64 n65,.slice s66b s66l s66c],.int .i64 n59]) w64) else (
 Qad a7 w60.drew fun n67 s68b s68l s68c=>
 ixA a9 2 (0:Int) 1 fun a69=>
 ldI .i64 a69 w60.drew fun n70=>
 ixA a9 2 (1:Int) 1 fun a71=>
 ldI .i64 a71 w60.drew fun n72=>
 ixA a11 2 (0:Int) 1 fun a73=>
 ldI .i64 a73 w60.drew fun n74=>
 ixA a11 2 (1:Int) 1 fun a75=>
 ldI .i64 a75 w60.drew fun n76=>
 Calls Pg Qgt #[.agg #[.int .i64 n67,.slice s68b s68l s68c],.int .i64 (IntKind.wrap .i64 (2*n2)),.int .i64 n70,.int .i64 n72] w60.drew fun e80 w79=>∃n77 s78b s78l s78c,e80=.returned (.agg #[.int .i64 n77,.slice s78b s78l s78c])∧
 w79.cell? a75=some (.int .i64 n76)∧w79.cell? a73=some (.int .i64 n74)∧Calls Pg Qgt #[.agg #[.int .i64 n77,.slice s78b s78l s78c],.int .i64 (IntKind.wrap .i64 ((IntKind.wrap .i64 (2*n2))+1)),.int .i64 n74,.int .i64 n76] w79 fun e84 w83=>∃n81 s82b s82l s82c,e84=.returned (.agg #[.int .i64 n81,.slice s82b s82l s82c])∧
 sts a13 0 [.int .i64 n81,.slice s82b s82l s82c] w83 fun w85=>
 Qad a13 w85 fun n86 s87b s87l s87c=>
 R (.tuple #[.agg #[.int .i64 n86,.slice s87b s87l s87c],.int .i64 0]) w85)))
theorem Qqq (n0:Int) (s1b:OA) (s1l s1c:Nat) (n2 n3 n4 n5 n6:Int):SH Qjb [.agg #[.int .i64 n0,.slice s1b s1l s1c],.int .i64 n2,.agg #[.int .i64 n3,.int .i64 n4],.agg #[.int .i64 n5,.int .i64 n6]] (Qmu n0 s1b s1l s1c n2 n3 n4 n5 n6):=cdnR Tryz.func100 (.s .L (.j [] [] (.s .L (.c (.s .L .L) .L)) (.s .L (.s (.s .L (.c (.s .L .L) .L)) (.s .L (.s (.s .L (.c (.s .L .L) .L)) (.s .L (.s (.s .L (.c (.s .L .L) .L)) (.s (.r (.tk 0 [7,15,16,17] [7,15,16] (.t 1 3 (.tk 4 [7,15,16,17] [7,15,16] (.t 5 1 (.tk 6 [7,15,16,17] [7,15,16] (.t 8 4 (.tk 12 [15,16,17] [15,16] (.t 13 1 (.tk 14 [15,16,17] [15,16] (.one 7 (.one 15 (.one 16 (.t 17 1 .fin)))))))))))))) .L))))))))) fun _ _=>by kernel_rfl
def Qlm (n0:Int) (s1b:OA) (s1l s1c:Nat) (n2:Int) (w:World) (R:RV):Prop:=
 alo #[.int .i64 n0,.slice s1b s1l s1c] Qap w fun a3 w4=>
 alo #[.int .i64 0,.slice none 0 0] Qap w4 fun a5 w6=>
 ∃J7:JP,(
 bif (decide (n2<0)) then (
 Qad a3 w6 fun n8 s9b s9l s9c=>
 sts a5 0 [.int .i64 n8,.slice s9b s9l s9c] w6 fun w10=>
 Qad a5 w10 fun n11 s12b s12l s12c=>
 R (.tuple #[.agg #[.int .i64 n11,.slice s12b s12l s12c],.int .i64 12]) w10) else (
 ldI .i64 a3 w6 fun n13=>
 bif (decide (n2 ≥ n13)) then (
 Qad a3 w6 fun n14 s15b s15l s15c=>
 sts a5 0 [.int .i64 n14,.slice s15b s15l s15c] w6 fun w16=>
 Qad a5 w16 fun n17 s18b s18l s18c=>
 R (.tuple #[.agg #[.int .i64 n17,.slice s18b s18l s18c],.int .i64 12]) w16) else (
 J7 [] w6)))∧∀_:Env,∀w19,J7 [] w19→
 ∃(I20:JP) (m21:JN),I20 [.int .i64 0] w19∧
 ∀_:Env,∀n22 w23,I20 [.int .i64 n22] w23→
 bif (decide (n22<2)) then (
 Qad a3 w23 fun n24 s25b s25l s25c=>
 Calls Pg Qau #[.agg #[.int .i64 n24,.slice s25b s25l s25c],.int .i64 (IntKind.wrap .i64 ((IntKind.wrap .i64 (2*n2))+n22))] w23 fun e29 w28=>∃n26 n27,e29=.returned (.tuple #[.int .i64 n26,.int .i64 n27])∧
 bif (decide (n26<0)) then (
 Qad a3 w28 fun n30 s31b s31l s31c=>
 sts a5 0 [.int .i64 n30,.slice s31b s31l s31c] w28 fun w32=>
 Qad a5 w32 fun n33 s34b s34l s34c=>
 R (.tuple #[.agg #[.int .i64 n33,.slice s34b s34l s34c],.int .i64 13]) w32) else (
 ldS (a3.add 1) w28.drew fun s35b s35l s35c=>
 ixS s35b s35l n26 1 fun a36=>
 ldS a36 w28.drew fun s37b s37l s37c=>
 0≤n27∧n27≤((s37c:Nat):Int)∧ldS (a3.add 1) w28.drew fun s38b s38l s38c=>
 ixS s38b s38l n26 1 fun a39=>
 ldS a39 w28.drew fun s40b s40l s40c=>
 0≤(IntKind.wrap .i64 (n27+1))∧(IntKind.wrap .i64 (n27+1))≤((s40l:Nat):Int)∧∃s41b s41l s41c w42,(Builtin.append_ #[Qam,Qam] Qam #[.slice none 0 0,.slice (if s37c=0 then s37b else Option.map (fun a=>Addr.add a (0*1)) s37b) ((Int.toNat n27)-0) (s37c-0)]).run Pg w28.drew=.ok (.slice s41b s41l s41c) w42∧
 w42.cell? a39=some (.slice s40b s40l s40c)∧w42.cell? (a3.add 1)=some (.slice s38b s38l s38c)∧∃s43b s43l s43c w44,(Builtin.append_ #[Qam,Qam] Qam #[.slice s41b s41l s41c,.slice (if s40c=(Int.toNat (IntKind.wrap .i64 (n27+1))) then s40b else Option.map (fun a=>Addr.add a ((Int.toNat (IntKind.wrap .i64 (n27+1)))*1)) s40b) (s40l-(Int.toNat (IntKind.wrap .i64 (n27+1)))) (s40c-(Int.toNat (IntKind.wrap .i64 (n27+1))))]).run Pg w42=.ok (.slice s43b s43l s43c) w44∧
 Qad a3 w44 fun n45 s46b s46l s46c=>
 Calls Pg Qc5 #[.agg #[.int .i64 n45,.slice s46b s46l s46c],.int .i64 n26,.slice s43b s43l s43c] w44 fun e50 w49=>∃n47 s48b s48l s48c,e50=.returned (.agg #[.int .i64 n47,.slice s48b s48l s48c])∧
 sts a3 0 [.int .i64 n47,.slice s48b s48l s48c] w49 fun w51=>
 (I20 [.int .i64 (IntKind.wrap .i64 (n22+1))] w51∧m21 [.int .i64 (IntKind.wrap .i64 (n22+1))] w51<m21 [.int .i64 n22] w23))) else (
 Qad a3 w23 fun n52 s53b s53l s53c=>
 sts a5 0 [.int .i64 n52,.slice s53b s53l s53c] w23 fun w54=>
 Qad a5 w54 fun n55 s56b s56l s56c=>
 R (.tuple #[.agg #[.int .i64 n55,.slice s56b s56l s56c],.int .i64 0]) w54)
theorem Qpi (n0:Int) (s1b:OA) (s1l s1c:Nat) (n2:Int):SH Qig [.agg #[.int .i64 n0,.slice s1b s1l s1c],.int .i64 n2] (Qlm n0 s1b s1l s1c n2):=cdnR Tryz.func102 (.s .L (.j [] [] (.s .L (.c (.s .L .L) .L)) (.s (.s .L (.b (.o [6] [.one (.int .i64)] (.s (.s .L (.c .L .L)) (.s (.b (.s .L (.s (.s .L (.c (.s .L .L) .L)) (.s .L (.s (.r (.t 0 2 (.tk 2 [4,5,7,8,17,18] [8,17] (.t 3 2 (.tk 5 [7,8,17,18] [8,17] (.t 6 2 (.t 9 1 (.tk 10 [12,13,16,17,18] [17] (.t 11 2 (.tk 13 [16,17,18] [17] (.t 14 3 (.one 8 (.one 17 (.t 18 1 .fin)))))))))))))) .L))))) .L))))) (.s .L .L)))) fun _ _=>by kernel_rfl
def Qms (n0:Int) (s1b:OA) (s1l s1c:Nat) (n2 n3 n4:Int) (w:World) (R:RV):Prop:=
 alo #[.int .i64 n0,.slice s1b s1l s1c] Qap w fun a5 w6=>
 alo #[.int .i64 0,.slice none 0 0] Qap w6 fun a7 w8=>
 ldS (a5.add 1) w8 fun s9b s9l s9c=>
 ixS s9b s9l n3 1 fun a10=>
 ldS a10 w8 fun s11b s11l s11c=>
 ∃(I12:JP) (m13:JN),I12 [.int .i64 (IntKind.wrap .i64 ((s11l:Int)-1)),.int .i64 0] w8∧
 ∀_:Env,∀n14 n15 w16,I12 [.int .i64 n14,.int .i64 n15] w16→
 bif (decide (n15<(s11l:Int))) then (
 ixS s11b s11l n15 1 fun a17=>
 ldI .i64 a17 w16 fun n18=>
 bif (n18==n4) then (
 (I12 [.int .i64 n15,.int .i64 (IntKind.wrap .i64 (n15+1))] w16∧m13 [.int .i64 n15,.int .i64 (IntKind.wrap .i64 (n15+1))] w16<m13 [.int .i64 n14,.int .i64 n15] w16)) else (
 (I12 [.int .i64 n14,.int .i64 (IntKind.wrap .i64 (n15+1))] w16∧m13 [.int .i64 n14,.int .i64 (IntKind.wrap .i64 (n15+1))] w16<m13 [.int .i64 n14,.int .i64 n15] w16))) else (
 0≤(IntKind.wrap .i64 (n14+1))∧(IntKind.wrap .i64 (n14+1))≤((s11c:Nat):Int)∧0≤(IntKind.wrap .i64 (n14+1))∧(IntKind.wrap .i64 (n14+1))≤((s11l:Nat):Int)∧(∃s19b s19l s19c w20,(Builtin.append_ #[Qam,Qam] Qam #[.slice none 0 0,.slice (if s11c=0 then s11b else Option.map (fun a=>Addr.add a (0*1)) s11b) ((Int.toNat (IntKind.wrap .i64 (n14+1)))-0) (s11c-0)]).run Pg w16.drew=.ok (.slice s19b s19l s19c) w20∧
 alo #[.int .i64 n2] Qbl w20 fun a21 w22=>
 ∃s23b s23l s23c w24,(Builtin.append_ #[Qam,Qam] Qam #[.slice s19b s19l s19c,.slice (some a21) 1 1]).run Pg w22=.ok (.slice s23b s23l s23c) w24∧
 ∃s25b s25l s25c w26,(Builtin.append_ #[Qam,Qam] Qam #[.slice s23b s23l s23c,.slice (if s11c=(Int.toNat (IntKind.wrap .i64 (n14+1))) then s11b else Option.map (fun a=>Addr.add a ((Int.toNat (IntKind.wrap .i64 (n14+1)))*1)) s11b) (s11l-(Int.toNat (IntKind.wrap .i64 (n14+1)))) (s11c-(Int.toNat (IntKind.wrap .i64 (n14+1))))]).run Pg w24=.ok (.slice s25b s25l s25c) w26∧
 Qad a5 w26 fun n27 s28b s28l s28c=>
 Calls Pg Qc5 #[.agg #[.int .i64 n27,.slice s28b s28l s28c],.int .i64 n3,.slice s25b s25l s25c] w26 fun e32 w31=>∃n29 s30b s30l s30c,e32=.returned (.agg #[.int .i64 n29,.slice s30b s30l s30c])∧
 sts a7 0 [.int .i64 n29,.slice s30b s30l s30c] w31 fun w33=>
 Qad a7 w33 fun n34 s35b s35l s35c=>
 R (.agg #[.int .i64 n34,.slice s35b s35l s35c]) w33)∧(
 alo #[.int .i64 n2] Qbl w16.drew fun a36 w37=>
 ∃s38b s38l s38c w39,(Builtin.append_ #[Qam,Qam] Qam #[.slice none 0 0,.slice (if s11c=0 then s11b else Option.map (fun a=>Addr.add a (0*1)) s11b) ((Int.toNat (IntKind.wrap .i64 (n14+1)))-0) (s11c-0)]).run Pg w37=.ok (.slice s38b s38l s38c) w39∧
 ∃s40b s40l s40c w41,(Builtin.append_ #[Qam,Qam] Qam #[.slice s38b s38l s38c,.slice (some a36) 1 1]).run Pg w39=.ok (.slice s40b s40l s40c) w41∧
 ∃s42b s42l s42c w43,(Builtin.append_ #[Qam,Qam] Qam #[.slice s40b s40l s40c,.slice (if s11c=(Int.toNat (IntKind.wrap .i64 (n14+1))) then s11b else Option.map (fun a=>Addr.add a ((Int.toNat (IntKind.wrap .i64 (n14+1)))*1)) s11b) (s11l-(Int.toNat (IntKind.wrap .i64 (n14+1)))) (s11c-(Int.toNat (IntKind.wrap .i64 (n14+1))))]).run Pg w41=.ok (.slice s42b s42l s42c) w43∧
 Qad a5 w43 fun n44 s45b s45l s45c=>
 Calls Pg Qc5 #[.agg #[.int .i64 n44,.slice s45b s45l s45c],.int .i64 n3,.slice s42b s42l s42c] w43 fun e49 w48=>∃n46 s47b s47l s47c,e49=.returned (.agg #[.int .i64 n46,.slice s47b s47l s47c])∧
 sts a7 0 [.int .i64 n46,.slice s47b s47l s47c] w48 fun w50=>
 Qad a7 w50 fun n51 s52b s52l s52c=>
 R (.agg #[.int .i64 n51,.slice s52b s52l s52c]) w50))
theorem Qqo (n0:Int) (s1b:OA) (s1l s1c:Nat) (n2 n3 n4:Int):SH Qgt [.agg #[.int .i64 n0,.slice s1b s1l s1c],.int .i64 n2,.int .i64 n3,.int .i64 n4] (Qms n0 s1b s1l s1c n2 n3 n4):=cdnR Tryz.func133 (.s .L (.s .L (.s .L (.s (.s .L (.b (.o [10,11] [.one (.int .i64),.one (.int .i64)] (.s (.s .L (.c .L .L)) (.s (.b (.s .L (.c .L .L))) .L))))) (.s .L (.s (.r (.t 0 5 (.t 6 1 (.t 9 4 (.two 5 (.one 7 (.one 8 (.one 13 (.t 14 1 .fin)))) 7 (.one 5 (.one 8 (.one 13 (.t 14 1 .fin))))))))) (.s .L .L))))))) fun _ _=>by kernel_rfl
def Qlk (n0:Int) (s1b:OA) (s1l s1c:Nat) (n2:Int) (s3b:OA) (s3l s3c:Nat) (w:World) (R:RV):Prop:=
 alo #[.int .i64 n0,.slice s1b s1l s1c] Qap w fun a4 w5=>
 alo #[.int .i64 0,.slice none 0 0] Qap w5 fun a6 w7=>
 ldS (a4.add 1) w7 fun s8b s8l s8c=>
 ∃s9b s9l s9c w10,(Builtin.append_ #[Qbp,Qbp] Qbp #[.slice none 0 0,.slice s8b s8l s8c]).run Pg w7=.ok (.slice s9b s9l s9c) w10∧
 ixS s9b s9l n2 1 fun a11=>
 sto a11 (.slice s3b s3l s3c) w10 fun w12=>
 ldI .i64 a4 w12 fun n13=>
 sts a6 0 [.int .i64 n13,.slice s9b s9l s9c] w12 fun w14=>
 Qad a6 w14 fun n15 s16b s16l s16c=>
 R (.agg #[.int .i64 n15,.slice s16b s16l s16c]) w14
theorem Qpg (n0:Int) (s1b:OA) (s1l s1c:Nat) (n2:Int) (s3b:OA) (s3l s3c:Nat):SH Qc5 [.agg #[.int .i64 n0,.slice s1b s1l s1c],.int .i64 n2,.slice s3b s3l s3c] (Qlk n0 s1b s1l s1c n2 s3b s3l s3c):=cdnR Tryz.func134 (.s .L (.s .L (.s .L (.s .L (.s .L .L))))) fun _ _=>by kernel_rfl
def Qll (n0:Int) (s1b:OA) (s1l s1c:Nat) (n2 n3:Int) (w:World) (R:RV):Prop:=
 alo #[.int .i64 n0,.slice s1b s1l s1c] Qap w fun a4 w5=>
 Qad a4 w5 fun n6 s7b s7l s7c=>
 Calls Pg Qau #[.agg #[.int .i64 n6,.slice s7b s7l s7c],.int .i64 n2] w5 fun e11 w10=>∃n8 n9,e11=.returned (.tuple #[.int .i64 n8,.int .i64 n9])∧
 ldS (a4.add 1) w10 fun s12b s12l s12c=>
 ixS s12b s12l n8 1 fun a13=>
 ldS a13 w10 fun s14b s14l s14c=>
 ldS (a4.add 1) w10.drew fun s15b s15l s15c=>
 ixS s15b s15l n8 1 fun a16=>
 ldS a16 w10.drew fun s17b s17l s17c=>
 (s14l:Int)≠0∧ixS s17b s17l (Int.tmod (IntKind.wrap .i64 ((IntKind.wrap .i64 (n9+n3))+(s14l:Int))) (s14l:Int)) 1 fun a18=>
 ldI .i64 a18 w10.drew fun n19=>
 R (.int .i64 n19) w10.drew
theorem Qph (n0:Int) (s1b:OA) (s1l s1c:Nat) (n2 n3:Int):SH Qeb [.agg #[.int .i64 n0,.slice s1b s1l s1c],.int .i64 n2,.int .i64 n3] (Qll n0 s1b s1l s1c n2 n3):=cdn Tryz.func135 (.s .L (.s .L (.s .L (.s (.r (.t 0 15 .fin)) .L)))) fun _ _=>by kernel_rfl
end Go.Proofs.YtpmicakdjhoafaaGreatDoor
