/-
What each function does, as one formula, printed by a program of this session out of the translation; the kernel holds each print against the translation.
Conditions: none.
-/
import Derived.Test.YtpmicakdjhoafaaGreatDoorSn
set_option linter.unusedVariables false
namespace Go.Proofs.YtpmicakdjhoafaaGreatDoor
open Go
set_option maxRecDepth 100000
def Qsx (n0:Int) (w:World) (R:RV):Prop:=
 ∃J1:JP,(
 bif (decide (n0<1)) then (
 R (.tuple #[.pointer none,.iface Qah (.int .i64 1)]) w) else (
 bif (decide (n0>8388608)) then (
 R (.tuple #[.pointer none,.iface Qah (.int .i64 1)]) w) else (
 J1 [] w)))∧∀_:Env,∀w2,J1 [] w2→
 0≤n0∧n0≤n0∧(56:Int)*n0≤140737488355328∧alo (Qav #[(.int .i32 0),(.int .i32 0),(.int .i32 0),(.bool false),(.int .i32 0),(.int .i64 0),(.int .i64 0),(.int .i64 0),(.int .i64 0)] (Int.toNat n0)) Qcz w2 fun a3 w4=>
 alo #[.slice (some a3) (Int.toNat n0) (Int.toNat n0)] Qju w4 fun a5 w6=>
 ldS a5 w6 fun s7b s7l s7c=>
 ∃(I8:JP) (m9:JN),I8 [.int .i64 0] w6∧
 ∀_:Env,∀n10 w11,I8 [.int .i64 n10] w11→
 bif (decide (n10<(s7l:Int))) then (
 ldS a5 w11 fun s12b s12l s12c=>
 ixS s12b s12l n10 9 fun a13=>
 sto a13 (.int .i32 (-1)) w11 fun w14=>
 sto (a13.add 1) (.int .i32 (-1)) w14 fun w15=>
 sto (a13.add 2) (.int .i32 (-1)) w15 fun w16=>
 sto (a13.add 3) (.bool false) w16 fun w17=>
 sto (a13.add 4) (.int .i32 1) w17 fun w18=>
 sto (a13.add 5) (.int .i64 0) w18 fun w19=>
 sto (a13.add 6) (.int .i64 0) w19 fun w20=>
 sto (a13.add 7) (.int .i64 0) w20 fun w21=>
 sto (a13.add 8) (.int .i64 0) w21 fun w22=>
 (I8 [.int .i64 (IntKind.wrap .i64 (n10+1))] w22∧m9 [.int .i64 (IntKind.wrap .i64 (n10+1))] w22<m9 [.int .i64 n10] w11)) else (
 R (.tuple #[.pointer (some a5),.nilIface]) w11)
theorem Qsm (n0:Int):SH Qm5 [.int .i64 n0] (Qsx n0):=cdn Tryz.func48 (.s .L (.j [] [] (.s .L (.c (.s .L .L) .L)) (.s .L (.s (.s .L (.b (.o [22] [.one (.int .i64)] (.s .L (.s (.c .L .L) (.s (.b (.s .L .L)) .L)))))) (.s .L .L))))) fun _ _=>by kernel_rfl
def Qgn (p0:OA) (n1 n2:Int) (w:World) (R:RV):Prop:=
 alo #[.int .i64 n1] Qbl w fun a3 w4=>
 Calls Pg Qa0 #[.pointer p0,.slice (some a3) 1 1] w4 fun e7 w6=>∃v5,e7=.returned v5∧
 isI v5∧bif (!(nilI v5)) then (
 R v5 w6) else (
 Calls Pg Qbi #[.pointer p0,.int .i32 (IntKind.wrap .i32 n1)] w6 fun e9 w8=>e9=.returned (.tuple #[])∧
 pt p0 fun a10=>
 ldS a10 w8 fun s11b s11l s11c=>
 ixS s11b s11l n1 9 fun a12=>
 sto (a12.add 5) (.int .i64 n2) w8 fun w13=>
 Calls Pg Qbf #[.pointer p0,.int .i32 (IntKind.wrap .i32 n1)] w13 fun e15 w14=>e15=.returned (.tuple #[])∧
 R .nilIface w14)
theorem Qg4 (p0:OA) (n1 n2:Int):SH Qb8 [.pointer p0,.int .i64 n1,.int .i64 n2] (Qgn p0 n1 n2):=cdn Tryz.func49 (.s .L (.s (.s .L (.s .L (.c (.s .L .L) .L))) (.s .L (.s .L (.s .L (.s .L .L)))))) fun _ _=>by kernel_rfl
def Qh5 (p0:OA) (n1 n2:Int) (w:World) (R:RV):Prop:=
 alo #[.int .i64 n1,.int .i64 n2] Qbl w fun a3 w4=>
 Calls Pg Qa0 #[.pointer p0,.slice (some a3) 2 2] w4 fun e7 w6=>∃v5,e7=.returned v5∧
 isI v5∧bif (!(nilI v5)) then (
 R (.tuple #[.bool false,v5]) w6) else (
 Calls Pg Qc7 #[.pointer p0,.int .i32 (IntKind.wrap .i32 n1),.int .i32 (IntKind.wrap .i32 n2)] w6 fun e10 w9=>∃b8,e10=.returned (.bool b8)∧
 R (.tuple #[.bool b8,.nilIface]) w9)
theorem Qjr (p0:OA) (n1 n2:Int):SH Qcl [.pointer p0,.int .i64 n1,.int .i64 n2] (Qh5 p0 n1 n2):=cdn Tryz.func88 (.s .L (.s (.s .L (.s .L (.c (.s .L .L) .L))) (.s .L .L))) fun _ _=>by kernel_rfl
def Qhh (p0 s1b:OA) (s1l s1c:Nat) (w:World) (R:RV):Prop:=
 bif (Option.isNone p0) then (
 R (.iface Qah (.int .i64 1)) w) else (
 ∃(I2:JP) (m3:JN),I2 [.int .i64 0] w∧
 ∀_:Env,∀n4 w5,I2 [.int .i64 n4] w5→
 bif (decide (n4<(s1l:Int))) then (
 ixS s1b s1l n4 1 fun a6=>
 ldI .i64 a6 w5 fun n7=>
 bif (decide (n7<0)) then (
 R (.iface Qah (.int .i64 12)) w5) else (
 pt p0 fun a8=>
 ldS a8 w5 fun s9b s9l s9c=>
 bif (decide (n7 ≥ (s9l:Int))) then (
 R (.iface Qah (.int .i64 12)) w5) else (
 (I2 [.int .i64 (IntKind.wrap .i64 (n4+1))] w5∧m3 [.int .i64 (IntKind.wrap .i64 (n4+1))] w5<m3 [.int .i64 n4] w5)))) else (
 R .nilIface w5))
theorem Qi0 (p0 s1b:OA) (s1l s1c:Nat):SH Qa0 [.pointer p0,.slice s1b s1l s1c] (Qhh p0 s1b s1l s1c):=cdn Tryz.func95 (.s .L (.s (.s .L (.c (.s .L .L) .L)) (.s (.s .L (.b (.o [12] [.one (.int .i64)] (.s .L (.s (.c .L .L) (.s (.b (.s .L (.s .L (.c (.s .L .L) .L)))) .L)))))) (.s .L .L)))) fun _ _=>by kernel_rfl
def Qj7 (p0:OA) (n1:Int) (w:World) (R:RV):Prop:=
 ∃(I2:JP) (m3:JN),I2 [.int .i32 (-1),.int .i32 n1] w∧
 ∀_:Env,∀n4 n5 w6,I2 [.int .i32 n4,.int .i32 n5] w6→
 bif (n5 != (-1)) then (
 Calls Pg Qck #[.pointer p0,.int .i32 n5] w6 fun e8 w7=>e8=.returned (.tuple #[])∧
 pt p0 fun a9=>
 ldS a9 w7 fun s10b s10l s10c=>
 ixS s10b s10l n5 9 fun a11=>
 ixA (a11.add 1) 2 (1:Int) 1 fun a12=>
 sto a12 (.int .i32 n4) w7 fun w13=>
 Calls Pg Qbf #[.pointer p0,.int .i32 n5] w13 fun e15 w14=>e15=.returned (.tuple #[])∧
 pt p0 fun a16=>
 ldS a16 w14 fun s17b s17l s17c=>
 ixS s17b s17l n5 9 fun a18=>
 ldI .i32 a18 w14 fun n19=>
 (I2 [.int .i32 n5,.int .i32 n19] w14∧m3 [.int .i32 n5,.int .i32 n19] w14<m3 [.int .i32 n4,.int .i32 n5] w6)) else (
 Calls Pg Qck #[.pointer p0,.int .i32 n1] w6 fun e21 w20=>e21=.returned (.tuple #[])∧
 R (.tuple #[]) w20)
theorem Qns (p0:OA) (n1:Int):SH Qbi [.pointer p0,.int .i32 n1] (Qj7 p0 n1):=cdn Tryz.func96 (.s .L (.s (.s .L (.b (.o [4,5] [.one (.int .i32),.one (.int .i32)] (.s (.s .L (.c .L .L)) (.s (.b (.s .L (.s .L (.s .L .L)))) .L))))) .L)) fun _ _=>by kernel_rfl
def Qlv (p0:OA) (n1:Int) (w:World) (R:RV):Prop:=
 pt p0 fun a2=>
 ldS a2 w fun s3b s3l s3c=>
 ixS s3b s3l n1 9 fun a4=>
 ldI .i64 (a4.add 5) w.drew fun n5=>
 ldI .i64 (a4.add 5) w.drew fun n6=>
 ldI .i64 (a4.add 5) w.drew fun n7=>
 sto (a4.add 4) (.int .i32 1) w.drew fun w8=>
 sto (a4.add 6) (.int .i64 n5) w8 fun w9=>
 sto (a4.add 7) (.int .i64 n6) w9 fun w10=>
 sto (a4.add 8) (.int .i64 n7) w10 fun w11=>
 ldI .i32 (a4.add 1) w11 fun n12=>
 ldI .i32 ((a4.add 1).add 1) w11 fun n13=>
 ∃n14,0≤(0:Int)∧(0:Int)<((2:Nat):Int)∧(#[.int .i32 n12,.int .i32 n13]:Array Value)[(Int.toNat (0:Int))*1]?=some (.int .i32 n14)∧
 bif (n14 != (-1)) then (
 pt p0 fun a15=>
 ldS a15 w11 fun s16b s16l s16c=>
 ixS s16b s16l n14 9 fun a17=>
 ldI .i32 a17 w11 fun n18=>
 ldI .i32 (a17.add 1) w11 fun n19=>
 ldI .i32 (a17.add 2) w11 fun n20=>
 ldB (a17.add 3) w11 fun b21=>
 ldI .i32 (a17.add 4) w11 fun n22=>
 ldI .i64 (a17.add 5) w11 fun n23=>
 ldI .i64 (a17.add 6) w11 fun n24=>
 ldI .i64 (a17.add 7) w11 fun n25=>
 ldI .i64 (a17.add 8) w11 fun n26=>
 alo #[.int .i32 0,.int .i32 0,.int .i32 0,.bool false,.int .i32 0,.int .i64 0,.int .i64 0,.int .i64 0,.int .i64 0] Qcz w11 fun a27 w28=>
 sto a27 (.int .i32 n18) w28 fun w29=>
 sto (a27.add 1) (.int .i32 n19) w29 fun w30=>
 sto (a27.add 2) (.int .i32 n20) w30 fun w31=>
 sto (a27.add 3) (.bool b21) w31 fun w32=>
 sto (a27.add 4) (.int .i32 n22) w32 fun w33=>
 sto (a27.add 5) (.int .i64 n23) w33 fun w34=>
 sto (a27.add 6) (.int .i64 n24) w34 fun w35=>
 sto (a27.add 7) (.int .i64 n25) w35 fun w36=>
 sto (a27.add 8) (.int .i64 n26) w36 fun w37=>
 ldI .i32 (a4.add 4) w37.drew fun n38=>
 ldI .i32 (a27.add 4) w37.drew fun n39=>
 ldI .i64 (a4.add 6) w37.drew fun n40=>
 ldI .i64 (a27.add 6) w37.drew fun n41=>
 sto (a4.add 4) (.int .i32 (IntKind.wrap .i32 (n38+n39))) w37.drew fun w42=>
 w42.cell? (a27.add 6)=some (.int .i64 n41)∧sto (a4.add 6) (.int .i64 (IntKind.wrap .i64 (n40+n41))) w42 fun w43=>
 ldI .i64 (a4.add 7) w43.drew fun n44=>
 ldI .i64 (a27.add 7) w43.drew fun n45=>
 ldI .i64 (a4.add 8) w43.drew fun n46=>
 ldI .i64 (a27.add 8) w43.drew fun n47=>
 sto (a4.add 7) (.int .i64 (if n45<n44 then n45 else n44)) w43.drew fun w48=>
 w48.cell? (a27.add 8)=some (.int .i64 n47)∧sto (a4.add 8) (.int .i64 (if n47>n46 then n47 else n46)) w48 fun w49=>
 ∃n50,0≤(1:Int)∧(1:Int)<((2:Nat):Int)∧(#[.int .i32 n12,.int .i32 n13]:Array Value)[(Int.toNat (1:Int))*1]?=some (.int .i32 n50)∧
 bif (n50 != (-1)) then (
 pt p0 fun a51=>
 ldS a51 w49 fun s52b s52l s52c=>
 ixS s52b s52l n50 9 fun a53=>
 ldI .i32 a53 w49 fun n54=>
 ldI .i32 (a53.add 1) w49 fun n55=>
 ldI .i32 (a53.add 2) w49 fun n56=>
 ldB (a53.add 3) w49 fun b57=>
 ldI .i32 (a53.add 4) w49 fun n58=>
 ldI .i64 (a53.add 5) w49 fun n59=>
 ldI .i64 (a53.add 6) w49 fun n60=>
 ldI .i64 (a53.add 7) w49 fun n61=>
 ldI .i64 (a53.add 8) w49 fun n62=>
 alo #[.int .i32 0,.int .i32 0,.int .i32 0,.bool false,.int .i32 0,.int .i64 0,.int .i64 0,.int .i64 0,.int .i64 0] Qcz w49 fun a63 w64=>
 sto a63 (.int .i32 n54) w64 fun w65=>
 sto (a63.add 1) (.int .i32 n55) w65 fun w66=>
 sto (a63.add 2) (.int .i32 n56) w66 fun w67=>
 sto (a63.add 3) (.bool b57) w67 fun w68=>
 sto (a63.add 4) (.int .i32 n58) w68 fun w69=>
 sto (a63.add 5) (.int .i64 n59) w69 fun w70=>
 sto (a63.add 6) (.int .i64 n60) w70 fun w71=>
 sto (a63.add 7) (.int .i64 n61) w71 fun w72=>
 sto (a63.add 8) (.int .i64 n62) w72 fun w73=>
 ldI .i32 (a4.add 4) w73.drew fun n74=>
 ldI .i32 (a63.add 4) w73.drew fun n75=>
 ldI .i64 (a4.add 6) w73.drew fun n76=>
 ldI .i64 (a63.add 6) w73.drew fun n77=>
 sto (a4.add 4) (.int .i32 (IntKind.wrap .i32 (n74+n75))) w73.drew fun w78=>
 w78.cell? (a63.add 6)=some (.int .i64 n77)∧sto (a4.add 6) (.int .i64 (IntKind.wrap .i64 (n76+n77))) w78 fun w79=>
 ldI .i64 (a4.add 7) w79.drew fun n80=>
 ldI .i64 (a63.add 7) w79.drew fun n81=>
 ldI .i64 (a4.add 8) w79.drew fun n82=>
 ldI .i64 (a63.add 8) w79.drew fun n83=>
 sto (a4.add 7) (.int .i64 (if n81<n80 then n81 else n80)) w79.drew fun w84=>
 w84.cell? (a63.add 8)=some (.int .i64 n83)∧sto (a4.add 8) (.int .i64 (if n83>n82 then n83 else n82)) w84 fun w85=>
 R (.tuple #[]) w85) else (
 R (.tuple #[]) w49)) else (
 ∃n86,0≤(1:Int)∧(1:Int)<((2:Nat):Int)∧(#[.int .i32 n12,.int .i32 n13]:Array Value)[(Int.toNat (1:Int))*1]?=some (.int .i32 n86)∧
 bif (n86 != (-1)) then (
 pt p0 fun a87=>
 ldS a87 w11 fun s88b s88l s88c=>
 ixS s88b s88l n86 9 fun a89=>
 ldI .i32 a89 w11 fun n90=>
 ldI .i32 (a89.add 1) w11 fun n91=>
 ldI .i32 (a89.add 2) w11 fun n92=>
 ldB (a89.add 3) w11 fun b93=>
 ldI .i32 (a89.add 4) w11 fun n94=>
 ldI .i64 (a89.add 5) w11 fun n95=>
 ldI .i64 (a89.add 6) w11 fun n96=>
 ldI .i64 (a89.add 7) w11 fun n97=>
 ldI .i64 (a89.add 8) w11 fun n98=>
 alo #[.int .i32 0,.int .i32 0,.int .i32 0,.bool false,.int .i32 0,.int .i64 0,.int .i64 0,.int .i64 0,.int .i64 0] Qcz w11 fun a99 w100=>
 sto a99 (.int .i32 n90) w100 fun w101=>
 sto (a99.add 1) (.int .i32 n91) w101 fun w102=>
 sto (a99.add 2) (.int .i32 n92) w102 fun w103=>
 sto (a99.add 3) (.bool b93) w103 fun w104=>
 sto (a99.add 4) (.int .i32 n94) w104 fun w105=>
 sto (a99.add 5) (.int .i64 n95) w105 fun w106=>
 sto (a99.add 6) (.int .i64 n96) w106 fun w107=>
 sto (a99.add 7) (.int .i64 n97) w107 fun w108=>
 sto (a99.add 8) (.int .i64 n98) w108 fun w109=>
 ldI .i32 (a4.add 4) w109.drew fun n110=>
 ldI .i32 (a99.add 4) w109.drew fun n111=>
 ldI .i64 (a4.add 6) w109.drew fun n112=>
 ldI .i64 (a99.add 6) w109.drew fun n113=>
 sto (a4.add 4) (.int .i32 (IntKind.wrap .i32 (n110+n111))) w109.drew fun w114=>
 w114.cell? (a99.add 6)=some (.int .i64 n113)∧sto (a4.add 6) (.int .i64 (IntKind.wrap .i64 (n112+n113))) w114 fun w115=>
 ldI .i64 (a4.add 7) w115.drew fun n116=>
 ldI .i64 (a99.add 7) w115.drew fun n117=>
 ldI .i64 (a4.add 8) w115.drew fun n118=>
 ldI .i64 (a99.add 8) w115.drew fun n119=>
 sto (a4.add 7) (.int .i64 (if n117<n116 then n117 else n116)) w115.drew fun w120=>
 w120.cell? (a99.add 8)=some (.int .i64 n119)∧sto (a4.add 8) (.int .i64 (if n119>n118 then n119 else n118)) w120 fun w121=>
 R (.tuple #[]) w121) else (
 R (.tuple #[]) w11))
theorem Qpr (p0:OA) (n1:Int):SH Qbf [.pointer p0,.int .i32 n1] (Qlv p0 n1):=cdn Tryz.func97 (.s .L (.s (.r (.t 0 7 (.tk 7 [16,17,18,19,20,21,22,23,24,25,26,27] [18,21,24,27] (.t 8 3 (.tk 11 [16,17,18,19,20,21,22,23,24,25,26,27] [18,21,24,27] (.t 12 3 (.tk 15 [16,17,18,19,20,21,22,23,24,25,26,27] [18,21,24,27] (.t 16 2 (.one 18 (.t 19 2 (.one 21 (.t 22 2 (.one 24 (.t 25 2 (.one 27 .fin))))))))))))))) (.s .L (.b (.u 3 (.s .L (.s (.c .L .L) (.s (.b (.s .L (.s .L (.c (.s .L (.s (.r (.t 0 5 (.tk 5 [8,16,17,18,19,20,21] [18,21] (.t 6 1 (.tk 7 [8,16,17,18,19,20,21] [18,21] (.t 8 4 (.tk 12 [15,16,17,18,19,20,21] [18,21] (.t 13 1 (.tk 14 [15,19,20,21] [21] (.t 15 3 (.one 18 (.t 19 2 (.one 21 .fin))))))))))))) (.r (.t 0 5 (.tk 5 [8,16,17,18,19,20,21] [18,21] (.t 6 1 (.tk 7 [8,16,17,18,19,20,21] [18,21] (.t 8 4 (.tk 12 [15,16,17,18,19,20,21] [18,21] (.t 13 1 (.tk 14 [15,19,20,21] [21] (.t 15 3 (.one 18 (.t 19 2 (.one 21 .fin))))))))))))))) .L)))) .L)))))))) fun _ _=>by kernel_rfl
def Qev (p0:OA) (n1 n2:Int) (w:World) (R:RV):Prop:=
 alo #[.int .i64 n1,.int .i64 n2] Qbl w fun a3 w4=>
 Calls Pg Qa0 #[.pointer p0,.slice (some a3) 2 2] w4 fun e7 w6=>∃v5,e7=.returned v5∧
 isI v5∧bif (!(nilI v5)) then (
 R v5 w6) else (
 Calls Pg Qik #[.pointer p0,.int .i32 (IntKind.wrap .i32 n1),.int .i32 (IntKind.wrap .i32 n2)] w6 fun e10 w9=>∃b8,e10=.returned (.bool b8)∧
 bif (!b8) then (
 R (.iface Qah (.int .i64 21)) w9) else (
 pt p0 fun a11=>
 ldS a11 w9.drew fun s12b s12l s12c=>
 pt p0 fun a13=>
 ldS a13 w9.drew fun s14b s14l s14c=>
 ixS s14b s14l n2 9 fun a15=>
 ixA (a15.add 1) 2 (0:Int) 1 fun a16=>
 ldI .i32 a16 w9.drew fun n17=>
 ixS s12b s12l n17 9 fun a18=>
 sto a18 (.int .i32 (-1)) w9.drew fun w19=>
 pt p0 fun a20=>
 ldS a20 w19 fun s21b s21l s21c=>
 ixS s21b s21l n2 9 fun a22=>
 ixA (a22.add 1) 2 (0:Int) 1 fun a23=>
 sto a23 (.int .i32 (-1)) w19 fun w24=>
 Calls Pg Qbf #[.pointer p0,.int .i32 (IntKind.wrap .i32 n2)] w24 fun e26 w25=>e26=.returned (.tuple #[])∧
 R .nilIface w25))
theorem Qes (p0:OA) (n1 n2:Int):SH Qbd [.pointer p0,.int .i64 n1,.int .i64 n2] (Qev p0 n1 n2):=cdn Tryz.func118 (.s .L (.s (.s .L (.s .L (.c (.s .L .L) .L))) (.s (.s .L (.c (.s .L .L) .L)) (.s (.r (.t 0 3 (.tk 3 [13,14,15] [15] (.t 4 3 (.tk 7 [9,10,11,12,13,14,15] [15] (.t 8 4 (.tk 12 [13,14,15] [15] (.t 13 2 (.one 15 .fin))))))))) (.s .L (.s .L (.s .L .L))))))) fun _ _=>by kernel_rfl
def Qfw (p0:OA) (n1 n2:Int) (w:World) (R:RV):Prop:=
 Calls Pg Qcj #[.pointer p0,.int .i64 n1,.int .i64 n2] w fun e6 w5=>∃p3 v4,e6=.returned (.tuple #[.pointer p3,v4])∧
 isI v4∧bif (!(nilI v4)) then (
 R (.tuple #[.int .i64 0,v4]) w5) else (
 pt p3 fun a7=>
 ldI .i64 (a7.add 8) w5 fun n8=>
 alo #[.int .i64 0] Qfc w5 fun a9 w10=>
 sto a9 (.int .i64 n8) w10 fun w11=>
 ldI .i64 a9 w11 fun n12=>
 Calls Pg Qe9 #[.pointer p0,.int .i32 (IntKind.wrap .i32 n2),.int .i64 n12,.func (.func Qeq) #[] #[.pointer (some a9)]] w11 fun e15 w14=>∃n13,e15=.returned (.int .i64 n13)∧
 R (.tuple #[.int .i64 n13,.nilIface]) w14)
theorem Qgi (p0:OA) (n1 n2:Int):SH Qc9 [.pointer p0,.int .i64 n1,.int .i64 n2] (Qfw p0 n1 n2):=cdn Tryz.func121 (.s .L (.s .L (.s (.s .L (.c (.s .L .L) .L)) (.s .L (.s .L .L))))) fun _ _=>by kernel_rfl
def Qd2 (p0:OA) (n1 n2:Int) (w:World) (R:RV):Prop:=
 alo #[.int .i64 n1,.int .i64 n2] Qbl w fun a3 w4=>
 Calls Pg Qa0 #[.pointer p0,.slice (some a3) 2 2] w4 fun e7 w6=>∃v5,e7=.returned v5∧
 isI v5∧bif (!(nilI v5)) then (
 R v5 w6) else (
 Calls Pg Qc7 #[.pointer p0,.int .i32 (IntKind.wrap .i32 n1),.int .i32 (IntKind.wrap .i32 n2)] w6 fun e10 w9=>∃b8,e10=.returned (.bool b8)∧
 bif b8 then (
 R (.iface Qah (.int .i64 20)) w9) else (
 Calls Pg Qc8 #[.pointer p0,.int .i32 (IntKind.wrap .i32 n1)] w9 fun e12 w11=>e12=.returned (.tuple #[])∧
 pt p0 fun a13=>
 ldS a13 w11 fun s14b s14l s14c=>
 ixS s14b s14l n1 9 fun a15=>
 sto a15 (.int .i32 (IntKind.wrap .i32 n2)) w11 fun w16=>
 R .nilIface w16))
theorem Qej (p0:OA) (n1 n2:Int):SH Qa6 [.pointer p0,.int .i64 n1,.int .i64 n2] (Qd2 p0 n1 n2):=cdn Tryz.func126 (.s .L (.s (.s .L (.s .L (.c (.s .L .L) .L))) (.s (.s .L (.c (.s .L .L) .L)) (.s .L (.s .L (.s .L .L)))))) fun _ _=>by kernel_rfl
def Qls (p0:OA) (n1 n2:Int) (w:World) (R:RV):Prop:=
 bif (n1==n2) then (
 R (.bool true) w) else (
 Calls Pg Qbi #[.pointer p0,.int .i32 n1] w fun e4 w3=>e4=.returned (.tuple #[])∧
 Calls Pg Qbi #[.pointer p0,.int .i32 n2] w3 fun e6 w5=>e6=.returned (.tuple #[])∧
 pt p0 fun a7=>
 ldS a7 w5 fun s8b s8l s8c=>
 ixS s8b s8l n1 9 fun a9=>
 ldI .i32 a9 w5 fun n10=>
 R (.bool (n10 != (-1))) w5)
theorem Qpo (p0:OA) (n1 n2:Int):SH Qc7 [.pointer p0,.int .i32 n1,.int .i32 n2] (Qls p0 n1 n2):=cdn Tryz.func129 (.s .L (.s (.s .L (.c (.s .L .L) .L)) (.s .L (.s .L (.s .L .L))))) fun _ _=>by kernel_rfl
def Qdm (p0:OA) (n1 n2:Int) (w:World) (R:RV):Prop:=
 Calls Pg Qcj #[.pointer p0,.int .i64 n1,.int .i64 n2] w fun e6 w5=>∃p3 v4,e6=.returned (.tuple #[.pointer p3,v4])∧
 isI v4∧bif (!(nilI v4)) then (
 R (.tuple #[.int .i64 0,v4]) w5) else (
 pt p3 fun a7=>
 ldI .i64 (a7.add 7) w5 fun n8=>
 alo #[.int .i64 0] Qfc w5 fun a9 w10=>
 sto a9 (.int .i64 n8) w10 fun w11=>
 ldI .i64 a9 w11 fun n12=>
 Calls Pg Qe9 #[.pointer p0,.int .i32 (IntKind.wrap .i32 n2),.int .i64 n12,.func (.func Qec) #[] #[.pointer (some a9)]] w11 fun e15 w14=>∃n13,e15=.returned (.int .i64 n13)∧
 R (.tuple #[.int .i64 n13,.nilIface]) w14)
theorem Qdt (p0:OA) (n1 n2:Int):SH Qcy [.pointer p0,.int .i64 n1,.int .i64 n2] (Qdm p0 n1 n2):=cdn Tryz.func142 (.s .L (.s .L (.s (.s .L (.c (.s .L .L) .L)) (.s .L (.s .L .L))))) fun _ _=>by kernel_rfl
def Qlw (p0:OA) (n1 n2:Int) (w:World) (R:RV):Prop:=
 bif (n1==n2) then (
 R (.bool false) w) else (
 Calls Pg Qc7 #[.pointer p0,.int .i32 n1,.int .i32 n2] w fun e5 w4=>∃b3,e5=.returned (.bool b3)∧
 bif (!b3) then (
 R (.bool false) w4) else (
 Calls Pg Qc8 #[.pointer p0,.int .i32 n1] w4 fun e7 w6=>e7=.returned (.tuple #[])∧
 Calls Pg Qbi #[.pointer p0,.int .i32 n2] w6 fun e9 w8=>e9=.returned (.tuple #[])∧
 pt p0 fun a10=>
 ldS a10 w8 fun s11b s11l s11c=>
 ixS s11b s11l n2 9 fun a12=>
 ldI .i32 (a12.add 4) w8 fun n13=>
 R (.bool (n13==2)) w8))
theorem Qps (p0:OA) (n1 n2:Int):SH Qik [.pointer p0,.int .i32 n1,.int .i32 n2] (Qlw p0 n1 n2):=cdn Tryz.func149 (.s .L (.s (.s .L (.c (.s .L .L) .L)) (.s .L (.s .L (.s .L .L))))) fun _ _=>by kernel_rfl
def Qd1 (p0:OA) (n1 n2:Int) (w:World) (R:RV):Prop:=
 alo #[.int .i64 n1,.int .i64 n2] Qbl w fun a3 w4=>
 Calls Pg Qa0 #[.pointer p0,.slice (some a3) 2 2] w4 fun e7 w6=>∃v5,e7=.returned v5∧
 isI v5∧bif (!(nilI v5)) then (
 R (.tuple #[.pointer none,v5]) w6) else (
 Calls Pg Qc7 #[.pointer p0,.int .i32 (IntKind.wrap .i32 n1),.int .i32 (IntKind.wrap .i32 n2)] w6 fun e10 w9=>∃b8,e10=.returned (.bool b8)∧
 bif (!b8) then (
 R (.tuple #[.pointer none,.iface Qah (.int .i64 21)]) w9) else (
 Calls Pg Qc8 #[.pointer p0,.int .i32 (IntKind.wrap .i32 n1)] w9 fun e12 w11=>e12=.returned (.tuple #[])∧
 Calls Pg Qbi #[.pointer p0,.int .i32 (IntKind.wrap .i32 n2)] w11 fun e14 w13=>e14=.returned (.tuple #[])∧
 pt p0 fun a15=>
 ldS a15 w13 fun s16b s16l s16c=>
 ixS s16b s16l n2 9 fun a17=>
 R (.tuple #[.pointer (some a17),.nilIface]) w13))
theorem Qei (p0:OA) (n1 n2:Int):SH Qcj [.pointer p0,.int .i64 n1,.int .i64 n2] (Qd1 p0 n1 n2):=cdn Tryz.func151 (.s .L (.s (.s .L (.s .L (.c (.s .L .L) .L))) (.s (.s .L (.c (.s .L .L) .L)) (.s .L (.s .L (.s .L .L)))))) fun _ _=>by kernel_rfl
def Qkp (p0:OA) (n1 n2:Int) (f3:Value) (w:World) (R:RV):Prop:=
 ∃(I4:JP) (m5:JN),I4 [.int .i32 n1] w∧
 ∀_:Env,∀n6 w7,I4 [.int .i32 n6] w7→
 Calls Pg Qa5 #[.pointer p0,.int .i32 n6] w7 fun e9 w8=>e9=.returned (.tuple #[])∧
 pt p0 fun a10=>
 ldS a10 w8 fun s11b s11l s11c=>
 ixS s11b s11l n6 9 fun a12=>
 ldI .i32 a12 w8 fun n13=>
 ldI .i32 (a12.add 1) w8 fun n14=>
 ldI .i32 (a12.add 2) w8 fun n15=>
 ldB (a12.add 3) w8 fun b16=>
 ldI .i32 (a12.add 4) w8 fun n17=>
 ldI .i64 (a12.add 5) w8 fun n18=>
 ldI .i64 (a12.add 6) w8 fun n19=>
 ldI .i64 (a12.add 7) w8 fun n20=>
 ldI .i64 (a12.add 8) w8 fun n21=>
 alo #[.int .i32 0,.int .i32 0,.int .i32 0,.bool false,.int .i32 0,.int .i64 0,.int .i64 0,.int .i64 0,.int .i64 0] Qcz w8 fun a22 w23=>
 sto a22 (.int .i32 n13) w23 fun w24=>
 sto (a22.add 1) (.int .i32 n14) w24 fun w25=>
 sto (a22.add 2) (.int .i32 n15) w25 fun w26=>
 sto (a22.add 3) (.bool b16) w26 fun w27=>
 sto (a22.add 4) (.int .i32 n17) w27 fun w28=>
 sto (a22.add 5) (.int .i64 n18) w28 fun w29=>
 sto (a22.add 6) (.int .i64 n19) w29 fun w30=>
 sto (a22.add 7) (.int .i64 n20) w30 fun w31=>
 sto (a22.add 8) (.int .i64 n21) w31 fun w32=>
 ixA (a22.add 1) 2 (0:Int) 1 fun a33=>
 ldI .i32 a33 w32 fun n34=>
 bif (n34 != (-1)) then (
 pt p0 fun a35=>
 ldS a35 w32 fun s36b s36l s36c=>
 ixS s36b s36l n34 9 fun a37=>
 ldI .i32 a37 w32 fun n38=>
 ldI .i32 (a37.add 1) w32 fun n39=>
 ldI .i32 (a37.add 2) w32 fun n40=>
 ldB (a37.add 3) w32 fun b41=>
 ldI .i32 (a37.add 4) w32 fun n42=>
 ldI .i64 (a37.add 5) w32 fun n43=>
 ldI .i64 (a37.add 6) w32 fun n44=>
 ldI .i64 (a37.add 7) w32 fun n45=>
 ldI .i64 (a37.add 8) w32 fun n46=>
 dcv Pg Eall f3 [.agg #[.int .i32 n38,.int .i32 n39,.int .i32 n40,.bool b41,.int .i32 n42,.int .i64 n43,.int .i64 n44,.int .i64 n45,.int .i64 n46]] w32 fun e49 w48=>∃b47,e49=.returned (.bool b47)∧
 bif b47 then (
 (I4 [.int .i32 n34] w48∧m5 [.int .i32 n34] w48<m5 [.int .i32 n6] w7)) else (
 ldI .i64 (a22.add 5) w48 fun n50=>
 bif (n50==n2) then (
 Calls Pg Qck #[.pointer p0,.int .i32 n6] w48 fun e52 w51=>e52=.returned (.tuple #[])∧
 R (.int .i64 (IntKind.wrap .i64 n6)) w51) else (
 ixA (a22.add 1) 2 (1:Int) 1 fun a53=>
 ldI .i32 a53 w48 fun n54=>
 (I4 [.int .i32 n54] w48∧m5 [.int .i32 n54] w48<m5 [.int .i32 n6] w7)))) else (
 ldI .i64 (a22.add 5) w32 fun n55=>
 bif (n55==n2) then (
 Calls Pg Qck #[.pointer p0,.int .i32 n6] w32 fun e57 w56=>e57=.returned (.tuple #[])∧
 R (.int .i64 (IntKind.wrap .i64 n6)) w56) else (
 ixA (a22.add 1) 2 (1:Int) 1 fun a58=>
 ldI .i32 a58 w32 fun n59=>
 (I4 [.int .i32 n59] w32∧m5 [.int .i32 n59] w32<m5 [.int .i32 n6] w7)))
theorem Qoh (p0:OA) (n1 n2:Int) (f3:Value):SH Qe9 [.pointer p0,.int .i32 n1,.int .i64 n2,f3] (Qkp p0 n1 n2 f3):=cdn Tryz.func152 (.s .L (.b (.o [1] [.one (.int .i32)] (.b (.s .L (.s .L (.s .L (.b (.s .L (.c .L (.s .L (.c (.s .L (.s .L .L)) .L)))))))))))) fun _ _=>by kernel_rfl
def Qj8 (n0 n1 n2:Int) (b3:Bool) (n4 n5 n6 n7 n8:Int) (q9:OA) (w:World) (R:RV):Prop:=
 alo #[.int .i32 n0,.int .i32 n1,.int .i32 n2,.bool b3,.int .i32 n4,.int .i64 n5,.int .i64 n6,.int .i64 n7,.int .i64 n8] Qcz w fun a10 w11=>
 ldI .i64 (a10.add 8) w11 fun n12=>
 pt q9 fun a13=>
 ldI .i64 a13 w11 fun n14=>
 R (.bool (n12==n14)) w11
theorem Qnt (n0 n1 n2:Int) (b3:Bool) (n4 n5 n6 n7 n8:Int) (q9:OA):SH Qeq [.agg #[.int .i32 n0,.int .i32 n1,.int .i32 n2,.bool b3,.int .i32 n4,.int .i64 n5,.int .i64 n6,.int .i64 n7,.int .i64 n8],.pointer q9] (Qj8 n0 n1 n2 b3 n4 n5 n6 n7 n8 q9):=cdn Tryz.func153 (.s .L (.s .L .L)) fun _ _=>by kernel_rfl
def Qlt (p0:OA) (n1:Int) (w:World) (R:RV):Prop:=
 Calls Pg Qbi #[.pointer p0,.int .i32 n1] w fun e3 w2=>e3=.returned (.tuple #[])∧
 pt p0 fun a4=>
 ldS a4 w2.drew fun s5b s5l s5c=>
 pt p0 fun a6=>
 ldS a6 w2.drew fun s7b s7l s7c=>
 ixS s7b s7l n1 9 fun a8=>
 ldB (a8.add 3) w2.drew fun b9=>
 ixS s5b s5l n1 9 fun a10=>
 sto (a10.add 3) (.bool (!b9)) w2.drew fun w11=>
 Calls Pg Qa5 #[.pointer p0,.int .i32 n1] w11 fun e13 w12=>e13=.returned (.tuple #[])∧
 R (.tuple #[]) w12
theorem Qpp (p0:OA) (n1:Int):SH Qc8 [.pointer p0,.int .i32 n1] (Qlt p0 n1):=cdn Tryz.func157 (.s .L (.s (.r (.t 0 3 (.tk 3 [14,15,16] [16] (.t 4 4 (.tk 8 [10,11,12,13,14,15,16] [16] (.t 9 3 (.tk 12 [13,14,15,16] [16] (.t 13 3 (.one 16 .fin))))))))) .L)) fun _ _=>by kernel_rfl
def Qmx (p0:OA) (n1:Int) (w:World) (R:RV):Prop:=
 pt p0 fun a2=>
 ldS a2 w fun s3b s3l s3c=>
 ixS s3b s3l n1 9 fun a4=>
 ldI .i32 a4 w fun n5=>
 bif (n5==(-1)) then (
 R (.bool true) w) else (
 pt p0 fun a6=>
 ldS a6 w fun s7b s7l s7c=>
 ixS s7b s7l n5 9 fun a8=>
 ixA (a8.add 1) 2 (0:Int) 1 fun a9=>
 ldI .i32 a9 w fun n10=>
 bif (n10 != n1) then (
 pt p0 fun a11=>
 ldS a11 w fun s12b s12l s12c=>
 ixS s12b s12l n5 9 fun a13=>
 ixA (a13.add 1) 2 (1:Int) 1 fun a14=>
 ldI .i32 a14 w fun n15=>
 R (.bool (n15 != n1)) w) else (
 R (.bool false) w))
theorem Qqt (p0:OA) (n1:Int):SH Qdi [.pointer p0,.int .i32 n1] (Qmx p0 n1):=cdn Tryz.func159 (.s .L (.s .L (.s .L .L))) fun _ _=>by kernel_rfl
def Qlu (p0:OA) (n1:Int) (w:World) (R:RV):Prop:=
 pt p0 fun a2=>
 ldS a2 w fun s3b s3l s3c=>
 ixS s3b s3l n1 9 fun a4=>
 ldB (a4.add 3) w fun b5=>
 bif (!b5) then (
 R (.tuple #[]) w) else (
 sto (a4.add 3) (.bool false) w fun w6=>
 ixA (a4.add 1) 2 (1:Int) 1 fun a7=>
 ldI .i32 a7 w6.drew fun n8=>
 ixA (a4.add 1) 2 (0:Int) 1 fun a9=>
 ldI .i32 a9 w6.drew fun n10=>
 ixA (a4.add 1) 2 (0:Int) 1 fun a11=>
 sto a11 (.int .i32 n8) w6.drew fun w12=>
 ixA (a4.add 1) 2 (1:Int) 1 fun a13=>
 sto a13 (.int .i32 n10) w12 fun w14=>
 ldI .i32 (a4.add 1) w14 fun n15=>
 ldI .i32 ((a4.add 1).add 1) w14 fun n16=>
 ∃n17,0≤(0:Int)∧(0:Int)<((2:Nat):Int)∧(#[.int .i32 n15,.int .i32 n16]:Array Value)[(Int.toNat (0:Int))*1]?=some (.int .i32 n17)∧
 bif (n17 != (-1)) then (
 pt p0 fun a18=>
 ldS a18 w14.drew fun s19b s19l s19c=>
 pt p0 fun a20=>
 ldS a20 w14.drew fun s21b s21l s21c=>
 ixS s21b s21l n17 9 fun a22=>
 ldB (a22.add 3) w14.drew fun b23=>
 ixS s19b s19l n17 9 fun a24=>
 sto (a24.add 3) (.bool (!b23)) w14.drew fun w25=>
 ∃n26,0≤(1:Int)∧(1:Int)<((2:Nat):Int)∧(#[.int .i32 n15,.int .i32 n16]:Array Value)[(Int.toNat (1:Int))*1]?=some (.int .i32 n26)∧
 bif (n26 != (-1)) then (
 pt p0 fun a27=>
 ldS a27 w25.drew fun s28b s28l s28c=>
 pt p0 fun a29=>
 ldS a29 w25.drew fun s30b s30l s30c=>
 ixS s30b s30l n26 9 fun a31=>
 ldB (a31.add 3) w25.drew fun b32=>
 ixS s28b s28l n26 9 fun a33=>
 sto (a33.add 3) (.bool (!b32)) w25.drew fun w34=>
 R (.tuple #[]) w34) else (
 R (.tuple #[]) w25)) else (
 ∃n35,0≤(1:Int)∧(1:Int)<((2:Nat):Int)∧(#[.int .i32 n15,.int .i32 n16]:Array Value)[(Int.toNat (1:Int))*1]?=some (.int .i32 n35)∧
 bif (n35 != (-1)) then (
 pt p0 fun a36=>
 ldS a36 w14.drew fun s37b s37l s37c=>
 pt p0 fun a38=>
 ldS a38 w14.drew fun s39b s39l s39c=>
 ixS s39b s39l n35 9 fun a40=>
 ldB (a40.add 3) w14.drew fun b41=>
 ixS s37b s37l n35 9 fun a42=>
 sto (a42.add 3) (.bool (!b41)) w14.drew fun w43=>
 R (.tuple #[]) w43) else (
 R (.tuple #[]) w14)))
theorem Qpq (p0:OA) (n1:Int):SH Qa5 [.pointer p0,.int .i32 n1] (Qlu p0 n1):=cdn Tryz.func161 (.s .L (.s (.s .L (.c .L .L)) (.s .L (.s (.r (.t 0 6 (.tk 6 [14,15,18,19] [15,19] (.t 7 4 (.tk 11 [14,15,18,19] [15,19] (.t 12 3 (.t 16 2 (.one 15 (.t 18 1 (.one 19 .fin)))))))))) (.s .L (.b (.u 3 (.s .L (.s (.c .L .L) (.s (.b (.s .L (.s .L (.c (.r (.t 0 3 (.tk 3 [14,15,16] [16] (.t 4 4 (.tk 8 [10,11,12,13,14,15,16] [16] (.t 9 3 (.tk 12 [13,14,15,16] [16] (.t 13 3 (.one 16 .fin))))))))) .L)))) .L)))))))))) fun _ _=>by kernel_rfl
def Qlr (p0:OA) (n1:Int) (w:World) (R:RV):Prop:=
 pt p0 fun a2=>
 ldS a2 w.drew fun s3b s3l s3c=>
 pt p0 fun a4=>
 ldS a4 w.drew fun s5b s5l s5c=>
 ixS s5b s5l n1 9 fun a6=>
 ldI .i32 a6 w.drew fun n7=>
 ixS s3b s3l n7 9 fun a8=>
 ixA (a8.add 1) 2 (1:Int) 1 fun a9=>
 ldI .i32 a9 w.drew fun n10=>
 bif (n10==n1) then (
 R (.int .i64 1) w.drew) else (
 R (.int .i64 0) w.drew)
theorem Qpn (p0:OA) (n1:Int):SH Qc6 [.pointer p0,.int .i32 n1] (Qlr p0 n1):=cdn Tryz.func162 (.s .L (.s (.s (.r (.t 0 18 .fin)) (.c (.s .L .L) .L)) (.s .L .L))) fun _ _=>by kernel_rfl
def Qj6 (p0:OA) (n1:Int) (w:World) (R:RV):Prop:=
 pt p0 fun a2=>
 ldS a2 w fun s3b s3l s3c=>
 ixS s3b s3l n1 9 fun a4=>
 ldI .i32 a4 w fun n5=>
 pt p0 fun a6=>
 ldS a6 w fun s7b s7l s7c=>
 ixS s7b s7l n5 9 fun a8=>
 ldI .i32 a8 w fun n9=>
 Calls Pg Qc6 #[.pointer p0,.int .i32 n1] w fun e12 w11=>∃n10,e12=.returned (.int .i64 n10)∧
 ∃J13:JP,(
 Calls Pg Qdi #[.pointer p0,.int .i32 n5] w11 fun e16 w15=>∃b14,e16=.returned (.bool b14)∧
 bif (!b14) then (
 pt p0 fun a17=>
 ldS a17 w15.drew fun s18b s18l s18c=>
 ixS s18b s18l n9 9 fun a19=>
 Calls Pg Qc6 #[.pointer p0,.int .i32 n5] w15.drew fun e22 w21=>∃n20,e22=.returned (.int .i64 n20)∧
 w21.cell? a17=some (.slice s18b s18l s18c)∧ixA (a19.add 1) 2 n20 1 fun a23=>
 sto a23 (.int .i32 n1) w21 fun w24=>
 J13 [] w24) else (
 J13 [] w15))∧∀_:Env,∀w25,J13 [] w25→
 pt p0 fun a26=>
 ldS a26 w25 fun s27b s27l s27c=>
 ixS s27b s27l n1 9 fun a28=>
 ixA (a28.add 1) 2 (IntKind.wrap .i64 (1-n10)) 1 fun a29=>
 ldI .i32 a29 w25 fun n30=>
 pt p0 fun a31=>
 ldS a31 w25 fun s32b s32l s32c=>
 ixS s32b s32l n5 9 fun a33=>
 ixA (a33.add 1) 2 n10 1 fun a34=>
 sto a34 (.int .i32 n30) w25 fun w35=>
 bif (n30 != (-1)) then (
 pt p0 fun a36=>
 ldS a36 w35 fun s37b s37l s37c=>
 ixS s37b s37l n30 9 fun a38=>
 sto a38 (.int .i32 n5) w35 fun w39=>
 pt p0 fun a40=>
 ldS a40 w39 fun s41b s41l s41c=>
 ixS s41b s41l n1 9 fun a42=>
 ixA (a42.add 1) 2 (IntKind.wrap .i64 (1-n10)) 1 fun a43=>
 sto a43 (.int .i32 n5) w39 fun w44=>
 pt p0 fun a45=>
 ldS a45 w44.drew fun s46b s46l s46c=>
 pt p0 fun a47=>
 ldS a47 w44.drew fun s48b s48l s48c=>
 ixS s46b s46l n5 9 fun a49=>
 sto a49 (.int .i32 n1) w44.drew fun w50=>
 ixS s48b s48l n1 9 fun a51=>
 sto a51 (.int .i32 n9) w50 fun w52=>
 Calls Pg Qbf #[.pointer p0,.int .i32 n5] w52 fun e54 w53=>e54=.returned (.tuple #[])∧
 Calls Pg Qbf #[.pointer p0,.int .i32 n1] w53 fun e56 w55=>e56=.returned (.tuple #[])∧
 R (.tuple #[]) w55) else (
 pt p0 fun a57=>
 ldS a57 w35 fun s58b s58l s58c=>
 ixS s58b s58l n1 9 fun a59=>
 ixA (a59.add 1) 2 (IntKind.wrap .i64 (1-n10)) 1 fun a60=>
 sto a60 (.int .i32 n5) w35 fun w61=>
 pt p0 fun a62=>
 ldS a62 w61.drew fun s63b s63l s63c=>
 pt p0 fun a64=>
 ldS a64 w61.drew fun s65b s65l s65c=>
 ixS s63b s63l n5 9 fun a66=>
 sto a66 (.int .i32 n1) w61.drew fun w67=>
 ixS s65b s65l n1 9 fun a68=>
 sto a68 (.int .i32 n9) w67 fun w69=>
 Calls Pg Qbf #[.pointer p0,.int .i32 n5] w69 fun e71 w70=>e71=.returned (.tuple #[])∧
 Calls Pg Qbf #[.pointer p0,.int .i32 n1] w70 fun e73 w72=>e73=.returned (.tuple #[])∧
 R (.tuple #[]) w72)
theorem Qnr (p0:OA) (n1:Int):SH Qbh [.pointer p0,.int .i32 n1] (Qj6 p0 n1):=cdn Tryz.func163 (.s .L (.s .L (.s .L (.j [] [] (.s .L (.c (.r (.t 0 3 (.tk 3 [9,10,11,12] [12] (.t 4 3 (.t 8 3 (.one 7 (.t 11 1 (.one 12 .fin)))))))) .L)) (.s .L (.s .L (.s (.s .L (.c .L .L)) (.s .L (.s (.r (.t 0 3 (.tk 3 [12,13,14,15,16,17] [14,17] (.t 4 4 (.tk 8 [12,13,14,15,16,17] [14,17] (.t 9 5 (.one 14 (.t 15 2 (.one 17 .fin))))))))) (.s .L .L)))))))))) fun _ _=>by kernel_rfl
def Qjh (n0 n1 n2:Int) (b3:Bool) (n4 n5 n6 n7 n8:Int) (q9:OA) (w:World) (R:RV):Prop:=
 alo #[.int .i32 n0,.int .i32 n1,.int .i32 n2,.bool b3,.int .i32 n4,.int .i64 n5,.int .i64 n6,.int .i64 n7,.int .i64 n8] Qcz w fun a10 w11=>
 ldI .i64 (a10.add 7) w11 fun n12=>
 pt q9 fun a13=>
 ldI .i64 a13 w11 fun n14=>
 R (.bool (n12==n14)) w11
theorem Qm8 (n0 n1 n2:Int) (b3:Bool) (n4 n5 n6 n7 n8:Int) (q9:OA):SH Qec [.agg #[.int .i32 n0,.int .i32 n1,.int .i32 n2,.bool b3,.int .i32 n4,.int .i64 n5,.int .i64 n6,.int .i64 n7,.int .i64 n8],.pointer q9] (Qjh n0 n1 n2 b3 n4 n5 n6 n7 n8 q9):=cdn Tryz.func166 (.s .L (.s .L .L)) fun _ _=>by kernel_rfl
end Go.Proofs.YtpmicakdjhoafaaGreatDoor
