/-
What each function does, as one formula, printed by a program of this session out of the translation; the kernel holds each print against the translation.
Conditions: none.
-/
import Derived.Test.YtpmicakdjhoafaaGreatDoorSn
set_option linter.unusedVariables false
namespace Go.Proofs.YtpmicakdjhoafaaGreatDoor
open Go
set_option maxRecDepth 100000
def Qua (n0:Int) (w:World) (R:RV):Prop:=
 Calls Pg Qrh #[.int .i64 n0,.int .i64 n0] w fun e4 w3=>∃p1 v2,e4=.returned (.tuple #[.pointer p1,v2])∧
 isI v2∧bif (!(nilI v2)) then (
 R (.tuple #[.pointer none,v2]) w3) else (
 Calls Pg Qqc #[.int .i64 (IntKind.wrap .i64 (3*n0)),.int .i64 n0] w3 fun e8 w7=>∃p5 v6,e8=.returned (.tuple #[.pointer p5,v6])∧
 isI v6∧bif (!(nilI v6)) then (
 R (.tuple #[.pointer none,v6]) w7) else (
 Calls Pg Qm5 #[.int .i64 (IntKind.wrap .i64 (2*n0))] w7 fun e12 w11=>∃p9 v10,e12=.returned (.tuple #[.pointer p9,v10])∧
 isI v10∧bif (!(nilI v10)) then (
 R (.tuple #[.pointer none,v10]) w11) else (
 ∃(I13:JP) (m14:JN),I13 [.int .i64 0] w11∧
 ∀_:Env,∀n15 w16,I13 [.int .i64 n15] w16→
 bif (decide (n15<n0)) then (
 Calls Pg Qq2 #[] w16 fun e19 w18=>∃n17,e19=.returned (.int .i64 n17)∧
 Calls Pg Qb8 #[.pointer p9,.int .i64 n15,.int .i64 n17] w18 fun e22 w21=>∃v20,e22=.returned v20∧
 isI v20∧bif (!(nilI v20)) then (
 R (.tuple #[.pointer none,v20]) w21) else (
 (I13 [.int .i64 (IntKind.wrap .i64 (n15+1))] w21∧m14 [.int .i64 (IntKind.wrap .i64 (n15+1))] w21<m14 [.int .i64 n15] w16))) else (
 (0≤n0∧n0≤n0∧(1:Int)*n0≤140737488355328∧alo (Qav #[(.bool false)] (Int.toNat n0)) Qna w16.drew fun a23 w24=>
 0≤n0∧n0≤n0∧(8:Int)*n0≤140737488355328∧alo (Qav #[(.int .i64 0)] (Int.toNat n0)) Qfc w24 fun a25 w26=>
 alo #[.int .i64 n0,.slice (some a23) (Int.toNat n0) (Int.toNat n0),.pointer p1,.pointer p5,.pointer p9,.slice (some a25) (Int.toNat n0) (Int.toNat n0),.int .i64 0,.int .i64 0,.int .i64 0,.int .i64 0,.int .i64 0] Qhv w26 fun a27 w28=>
 R (.tuple #[.pointer (some a27),.nilIface]) w28)∧(
 0≤n0∧n0≤n0∧(8:Int)*n0≤140737488355328∧alo (Qav #[(.int .i64 0)] (Int.toNat n0)) Qfc w16.drew fun a29 w30=>
 0≤n0∧n0≤n0∧(1:Int)*n0≤140737488355328∧alo (Qav #[(.bool false)] (Int.toNat n0)) Qna w30 fun a31 w32=>
 alo #[.int .i64 n0,.slice (some a31) (Int.toNat n0) (Int.toNat n0),.pointer p1,.pointer p5,.pointer p9,.slice (some a29) (Int.toNat n0) (Int.toNat n0),.int .i64 0,.int .i64 0,.int .i64 0,.int .i64 0,.int .i64 0] Qhv w32 fun a33 w34=>
 R (.tuple #[.pointer (some a33),.nilIface]) w34)))))
theorem Qu8 (n0:Int):SH Qkt [.int .i64 n0] (Qua n0):=cdn Tryz.func9 (.s .L (.s .L (.s (.s .L (.c (.s .L .L) .L)) (.s .L (.s (.s .L (.c (.s .L .L) .L)) (.s .L (.s (.s .L (.c (.s .L .L) .L)) (.s (.s .L (.b (.o [39] [.one (.int .i64)] (.s .L (.s (.c .L .L) (.s (.b (.s .L (.s .L (.s .L (.c (.s .L .L) .L))))) .L)))))) (.s (.r (.t 0 2 (.t 3 4 (.two 2 (.one 7 (.t 8 1 (.one 9 (.t 10 2 .fin)))) 7 (.one 2 (.t 8 1 (.one 9 (.t 10 2 .fin)))))))) .L))))))))) fun _ _=>by kernel_rfl
def Ql2 (p0:OA) (n1:Int) (w:World) (R:RV):Prop:=
 Calls Pg Qcp #[.pointer p0,.int .i64 n1] w fun e4 w3=>∃v2,e4=.returned v2∧
 isI v2∧bif (!(nilI v2)) then (
 R (.tuple #[.bool false,v2]) w3) else (
 pt p0 fun a5=>
 ldP (a5.add 3) w3 fun p6=>
 Calls Pg Qc0 #[.pointer p6,.int .i64 n1] w3 fun e9 w8=>∃b7,e9=.returned (.bool b7)∧
 R (.tuple #[.bool (!b7),.nilIface]) w8)
theorem Qpy (p0:OA) (n1:Int):SH Qed [.pointer p0,.int .i64 n1] (Ql2 p0 n1):=cdn Tryz.func15 (.s .L (.s (.s .L (.s .L (.c (.s .L .L) .L))) (.s .L .L))) fun _ _=>by kernel_rfl
def Ql3 (p0:OA) (w:World) (R:RV):Prop:=
 alo #[.int .i64 0,.int .i64 0,.int .i64 0,.int .i64 0] Qa8 w fun a1 w2=>
 bif (Option.isNone p0) then (
 sto a1 (.int .i64 0) w2 fun w3=>
 sto (a1.add 1) (.int .i64 0) w3 fun w4=>
 sto (a1.add 2) (.int .i64 0) w4 fun w5=>
 sto (a1.add 3) (.int .i64 0) w5 fun w6=>
 ldI .i64 a1 w6 fun n7=>
 ldI .i64 (a1.add 1) w6 fun n8=>
 ldI .i64 (a1.add 2) w6 fun n9=>
 ldI .i64 (a1.add 3) w6 fun n10=>
 R (.agg #[.int .i64 n7,.int .i64 n8,.int .i64 n9,.int .i64 n10]) w6) else (
 pt p0 fun a11=>
 ldI .i64 (a11.add 6) w2 fun n12=>
 ldI .i64 ((a11.add 6).add 1) w2 fun n13=>
 ldI .i64 ((a11.add 6).add 2) w2 fun n14=>
 ldI .i64 ((a11.add 6).add 3) w2 fun n15=>
 alo #[.int .i64 0,.int .i64 0,.int .i64 0,.int .i64 0] Qa8 w2 fun a16 w17=>
 sto a16 (.int .i64 n12) w17 fun w18=>
 sto (a16.add 1) (.int .i64 n13) w18 fun w19=>
 sto (a16.add 2) (.int .i64 n14) w19 fun w20=>
 sto (a16.add 3) (.int .i64 n15) w20 fun w21=>
 ldI .i64 (a16.add 3) w21 fun n22=>
 ldI .i64 a16 w21 fun n23=>
 ldI .i64 (a16.add 1) w21 fun n24=>
 sto (a16.add 2) (.int .i64 (IntKind.wrap .i64 ((IntKind.wrap .i64 ((IntKind.wrap .i64 (2*n22))-n23))+n24))) w21 fun w25=>
 ldI .i64 a16 w25 fun n26=>
 ldI .i64 (a16.add 1) w25 fun n27=>
 ldI .i64 (a16.add 2) w25 fun n28=>
 ldI .i64 (a16.add 3) w25 fun n29=>
 sto a1 (.int .i64 n26) w25 fun w30=>
 sto (a1.add 1) (.int .i64 n27) w30 fun w31=>
 sto (a1.add 2) (.int .i64 n28) w31 fun w32=>
 sto (a1.add 3) (.int .i64 n29) w32 fun w33=>
 ldI .i64 a1 w33 fun n34=>
 ldI .i64 (a1.add 1) w33 fun n35=>
 ldI .i64 (a1.add 2) w33 fun n36=>
 ldI .i64 (a1.add 3) w33 fun n37=>
 R (.agg #[.int .i64 n34,.int .i64 n35,.int .i64 n36,.int .i64 n37]) w33)
theorem Qpz (p0:OA):SH Qee [.pointer p0] (Ql3 p0):=cdnR Tryz.func24 (.s .L (.s (.s .L (.c (.s .L .L) .L)) (.s .L (.s .L (.s .L .L))))) fun _ _=>by kernel_rfl
def Qn7 (p0:OA) (n1:Int) (w:World) (R:RV):Prop:=
 Calls Pg Qcp #[.pointer p0,.int .i64 n1] w fun e4 w3=>∃v2,e4=.returned v2∧
 isI v2∧bif (!(nilI v2)) then (
 R v2 w3) else (
 Calls Pg Qjd #[.pointer p0,.int .i64 n1] w3 fun e8 w7=>∃b5 v6,e8=.returned (.tuple #[.bool b5,v6])∧
 isI v6∧bif (!(nilI v6)) then (
 R v6 w7) else (
 Calls Pg Qjw #[.pointer p0,.int .i64 n1,.bool b5] w7 fun e11 w10=>∃v9,e11=.returned v9∧
 isI v9∧bif (!(nilI v9)) then (
 R v9 w10) else (
 pt p0 fun a12=>
 ldI .i64 ((a12.add 6).add 1) w10 fun n13=>
 pt p0 fun a14=>
 sto ((a14.add 6).add 1) (.int .i64 (IntKind.wrap .i64 (n13-1))) w10 fun w15=>
 pt p0 fun a16=>
 ldP (a16.add 2) w15 fun p17=>
 Calls Pg Qia #[.pointer p17,.int .i64 n1] w15 fun e20 w19=>∃v18,e20=.returned v18∧
 R v18 w19)))
theorem Qru (p0:OA) (n1:Int):SH Qfh [.pointer p0,.int .i64 n1] (Qn7 p0 n1):=cdn Tryz.func25 (.s .L (.s (.s .L (.s .L (.c (.s .L .L) .L))) (.s .L (.s (.s .L (.c (.s .L .L) .L)) (.s (.s .L (.s .L (.c (.s .L .L) .L))) (.s .L (.s .L .L))))))) fun _ _=>by kernel_rfl
def Qop (p0:OA) (w:World) (R:RV):Prop:=
 bif (Option.isNone p0) then (
 R (.int .i64 0) w) else (
 pt p0 fun a1=>
 ldI .i64 (a1.add 10) w fun n2=>
 R (.int .i64 n2) w)
theorem Qsp (p0:OA):SH Qe1 [.pointer p0] (Qop p0):=cdn Tryz.func26 (.s .L (.s (.s .L (.c (.s .L .L) .L)) (.s .L .L))) fun _ _=>by kernel_rfl
def Ql1 (p0:OA) (n1:Int) (w:World) (R:RV):Prop:=
 Calls Pg Qcp #[.pointer p0,.int .i64 n1] w fun e4 w3=>∃v2,e4=.returned v2∧
 isI v2∧bif (!(nilI v2)) then (
 R (.tuple #[.int .i32 0,v2]) w3) else (
 pt p0 fun a5=>
 ldS (a5.add 5) w3 fun s6b s6l s6c=>
 ixS s6b s6l n1 1 fun a7=>
 ldI .i64 a7 w3 fun n8=>
 Calls Pg Qf9 #[.int .i64 n8] w3 fun e11 w10=>∃n9,e11=.returned (.int .i32 n9)∧
 R (.tuple #[.int .i32 n9,.nilIface]) w10)
theorem Qpx (p0:OA) (n1:Int):SH Qim [.pointer p0,.int .i64 n1] (Ql1 p0 n1):=cdn Tryz.func28 (.s .L (.s (.s .L (.s .L (.c (.s .L .L) .L))) (.s .L .L))) fun _ _=>by kernel_rfl
def Qm0 (p0:OA) (n1 n2:Int) (w:World) (R:RV):Prop:=
 Calls Pg Qcp #[.pointer p0,.int .i64 n1] w fun e5 w4=>∃v3,e5=.returned v3∧
 isI v3∧bif (!(nilI v3)) then (
 R v3 w4) else (
 Calls Pg Ql9 #[.int .i32 n2,.int .i64 n1] w4 fun e9 w8=>∃n6 v7,e9=.returned (.tuple #[.int .i64 n6,v7])∧
 isI v7∧bif (!(nilI v7)) then (
 R v7 w8) else (
 pt p0 fun a10=>
 ldP (a10.add 3) w8 fun p11=>
 Calls Pg Qc0 #[.pointer p11,.int .i64 n1] w8 fun e14 w13=>∃b12,e14=.returned (.bool b12)∧
 bif b12 then (
 pt p0 fun a15=>
 ldP (a15.add 3) w13 fun p16=>
 Calls Pg Qcn #[.pointer p16,.int .i64 n1] w13 fun e19 w18=>∃v17,e19=.returned v17∧
 isI v17∧bif (!(nilI v17)) then (
 R v17 w18) else (
 pt p0 fun a20=>
 ldS (a20.add 5) w18 fun s21b s21l s21c=>
 ixS s21b s21l n1 1 fun a22=>
 sto a22 (.int .i64 n6) w18 fun w23=>
 Calls Pg Qf4 #[.pointer p0,.int .i64 n1] w23 fun e26 w25=>∃v24,e26=.returned v24∧
 R v24 w25)) else (
 Calls Pg Qda #[.pointer p0,.int .i64 n1] w13 fun e29 w28=>∃v27,e29=.returned v27∧
 isI v27∧bif (!(nilI v27)) then (
 R v27 w28) else (
 pt p0 fun a30=>
 ldS (a30.add 5) w28 fun s31b s31l s31c=>
 ixS s31b s31l n1 1 fun a32=>
 sto a32 (.int .i64 n6) w28 fun w33=>
 Calls Pg Qjx #[.pointer p0,.int .i64 n1] w33 fun e36 w35=>∃v34,e36=.returned v34∧
 R v34 w35))))
theorem Qqw (p0:OA) (n1 n2:Int):SH Qe0 [.pointer p0,.int .i64 n1,.int .i32 n2] (Qm0 p0 n1 n2):=cdn Tryz.func29 (.s .L (.s (.s .L (.s .L (.c (.s .L .L) .L))) (.s .L (.s (.s .L (.c (.s .L .L) .L)) (.s (.s .L (.c (.s (.s .L (.s .L (.c (.s .L .L) .L))) (.s .L (.s .L .L))) .L)) (.s (.s .L (.s .L (.c (.s .L .L) .L))) (.s .L (.s .L .L)))))))) fun _ _=>by kernel_rfl
def Qn9 (p0:OA) (n1:Int) (w:World) (R:RV):Prop:=
 Calls Pg Qdx #[.pointer p0,.int .i64 n1] w fun e4 w3=>∃v2,e4=.returned v2∧
 isI v2∧bif (!(nilI v2)) then (
 R (.tuple #[.slice none 0 0,v2]) w3) else (
 pt p0 fun a5=>
 ldP (a5.add 3) w3 fun p6=>
 Calls Pg Qh9 #[.pointer p6,.int .i64 n1] w3 fun e10 w9=>∃s7b s7l s7c v8,e10=.returned (.tuple #[.slice s7b s7l s7c,v8])∧
 R (.tuple #[.slice s7b s7l s7c,v8]) w9)
theorem Qrw (p0:OA) (n1:Int):SH Qhe [.pointer p0,.int .i64 n1] (Qn9 p0 n1):=cdn Tryz.func31 (.s .L (.s (.s .L (.s .L (.c (.s .L .L) .L))) (.s .L .L))) fun _ _=>by kernel_rfl
def Qn8 (p0:OA) (n1 n2 n3 n4 n5 n6:Int) (w:World) (R:RV):Prop:=
 alo #[.int .i64 n2,.int .i64 n3] Qbr w fun a7 w8=>
 alo #[.int .i64 n4,.int .i64 n5] Qbr w8 fun a9 w10=>
 Calls Pg Qb9 #[.pointer p0,.int .i64 n1] w10 fun e13 w12=>∃v11,e13=.returned v11∧
 isI v11∧bif (!(nilI v11)) then (
 R v11 w12) else (
 pt p0 fun a14=>
 ldP (a14.add 2) w12 fun p15=>
 Calls Pg Qcu #[.pointer p15,.int .i64 n1] w12 fun e18 w17=>∃b16,e18=.returned (.bool b16)∧
 bif b16 then (
 R (.iface Qah (.int .i64 20)) w17) else (
 ldI .i64 a7 w17 fun n19=>
 ldI .i64 (a7.add 1) w17 fun n20=>
 ldI .i64 a9 w17 fun n21=>
 ldI .i64 (a9.add 1) w17 fun n22=>
 Calls Pg Qgu #[.pointer p0,.agg #[.int .i64 n19,.int .i64 n20],.agg #[.int .i64 n21,.int .i64 n22]] w17 fun e28 w27=>∃n23 n24 b25 v26,e28=.returned (.tuple #[.int .i64 n23,.int .i64 n24,.bool b25,v26])∧
 isI v26∧bif (!(nilI v26)) then (
 R v26 w27) else (
 Calls Pg Ql9 #[.int .i32 n6,.int .i64 n1] w27 fun e32 w31=>∃n29 v30,e32=.returned (.tuple #[.int .i64 n29,v30])∧
 isI v30∧bif (!(nilI v30)) then (
 R v30 w31) else (
 bif (!b25) then (
 R (.iface Qah (.int .i64 15)) w31) else (
 pt p0 fun a33=>
 ldP (a33.add 3) w31 fun p34=>
 Calls Pg Qbn #[.pointer p34,.int .i64 n23,.int .i64 n24] w31 fun e38 w37=>∃b35 v36,e38=.returned (.tuple #[.bool b35,v36])∧
 isI v36∧bif (!(nilI v36)) then (
 R v36 w37) else (
 pt p0 fun a39=>
 ldP (a39.add 2) w37.drew fun p40=>
 ldI .i64 a7 w37.drew fun n41=>
 ldI .i64 (a7.add 1) w37.drew fun n42=>
 ldI .i64 a9 w37.drew fun n43=>
 ldI .i64 (a9.add 1) w37.drew fun n44=>
 Calls Pg Qi9 #[.pointer p40,.int .i64 n1,.agg #[.int .i64 n41,.int .i64 n42],.agg #[.int .i64 n43,.int .i64 n44]] w37.drew fun e47 w46=>∃v45,e47=.returned v45∧
 isI v45∧bif (!(nilI v45)) then (
 R v45 w46) else (
 pt p0 fun a48=>
 ldS (a48.add 5) w46 fun s49b s49l s49c=>
 ixS s49b s49l n1 1 fun a50=>
 sto a50 (.int .i64 n29) w46 fun w51=>
 pt p0 fun a52=>
 ldI .i64 ((a52.add 6).add 1) w51 fun n53=>
 pt p0 fun a54=>
 sto ((a54.add 6).add 1) (.int .i64 (IntKind.wrap .i64 (n53+1))) w51 fun w55=>
 bif b35 then (
 ldI .i64 a7 w55 fun n56=>
 ldI .i64 (a7.add 1) w55 fun n57=>
 ldI .i64 a9 w55 fun n58=>
 ldI .i64 (a9.add 1) w55 fun n59=>
 ∃b60 w61,(do eqGuard .eql Qbr (.tmp 103) (.tmp 104) (.agg #[.int .i64 n56,.int .i64 n57]) (.agg #[.int .i64 n58,.int .i64 n59]);binOp .eql Qbr (.agg #[.int .i64 n56,.int .i64 n57]) (.agg #[.int .i64 n58,.int .i64 n59]):Sem Value).run Pg w55=.ok (.bool b60) w61∧
 Calls Pg Qil #[.pointer p0,.int .i64 n23,.int .i64 n24,.int .i64 n1,.bool b60] w61 fun e64 w63=>∃v62,e64=.returned v62∧
 Calls Pg Qf4 #[.pointer p0,.int .i64 n1] w63 fun e67 w66=>∃v65,e67=.returned v65∧
 ocm v62 (ocm v65 (alo #[v62,v65] Qdp w66 fun a68 w69=>
 Calls Pg Qa3 #[.slice (some a68) 2 2] w69 fun e72 w71=>∃v70,e72=.returned v70∧
 R v70 w71))) else (
 Calls Pg Qjy #[.pointer p0,.int .i64 n23,.int .i64 n24,.int .i64 n1] w55 fun e75 w74=>∃v73,e75=.returned v73∧
 Calls Pg Qb1 #[.pointer p0,.int .i64 n1] w74 fun e78 w77=>∃v76,e78=.returned v76∧
 ocm v73 (ocm v76 (alo #[v73,v76] Qdp w77 fun a79 w80=>
 Calls Pg Qa3 #[.slice (some a79) 2 2] w80 fun e83 w82=>∃v81,e83=.returned v81∧
 R v81 w82))))))))))
theorem Qrv (p0:OA) (n1 n2 n3 n4 n5 n6:Int):SH Qcq [.pointer p0,.int .i64 n1,.agg #[.int .i64 n2,.int .i64 n3],.agg #[.int .i64 n4,.int .i64 n5],.int .i32 n6] (Qn8 p0 n1 n2 n3 n4 n5 n6):=cdn Tryz.func32 (.s .L (.s (.s .L (.s .L (.c (.s .L .L) .L))) (.s (.s .L (.c (.s .L .L) .L)) (.s .L (.s (.s .L (.c (.s .L .L) .L)) (.s .L (.s (.b (.s .L (.c (.s .L .L) (.s .L (.c (.s .L .L) .L))))) (.s .L (.s (.s .L (.c (.s .L .L) .L)) (.s (.s (.r (.t 0 3 (.tk 3 [7,8] [7] (.t 4 1 (.tk 5 [7,8] [7] (.tk 6 [7,8] [7] (.one 7 (.t 8 1 .fin)))))))) (.s .L (.c (.s .L .L) .L))) (.s .L (.s .L (.s (.s .L (.c (.s .L .L) .L)) (.s .L .L)))))))))))))) fun _ _=>by kernel_rfl
def Qiw (p0:OA) (n1:Int) (w:World) (R:RV):Prop:=
 Calls Pg Qcm #[.pointer p0,.int .i64 n1] w fun e4 w3=>∃v2,e4=.returned v2∧
 isI v2∧bif (!(nilI v2)) then (
 R v2 w3) else (
 ∃J5:JP,(
 pt p0 fun a6=>
 ldP (a6.add 2) w3 fun p7=>
 Calls Pg Qg0 #[.pointer p7,.int .i64 n1] w3 fun e11 w10=>∃n8 v9,e11=.returned (.tuple #[.int .i64 n8,v9])∧
 isI v9∧bif (!(nilI v9)) then (
 R (.iface Qah (.int .i64 14)) w10) else (
 bif (decide (n8>0)) then (
 R (.iface Qah (.int .i64 14)) w10) else (
 J5 [] w10)))∧∀_:Env,∀w12,J5 [] w12→
 pt p0 fun a13=>
 ldS (a13.add 1) w12 fun s14b s14l s14c=>
 ixS s14b s14l n1 1 fun a15=>
 sto a15 (.bool false) w12 fun w16=>
 pt p0 fun a17=>
 ldI .i64 (a17.add 6) w16 fun n18=>
 pt p0 fun a19=>
 sto (a19.add 6) (.int .i64 (IntKind.wrap .i64 (n18-1))) w16 fun w20=>
 pt p0 fun a21=>
 ldI .i64 ((a21.add 6).add 3) w20 fun n22=>
 pt p0 fun a23=>
 sto ((a23.add 6).add 3) (.int .i64 (IntKind.wrap .i64 (n22-1))) w20 fun w24=>
 R .nilIface w24)
theorem Qmm (p0:OA) (n1:Int):SH Qfm [.pointer p0,.int .i64 n1] (Qiw p0 n1):=cdn Tryz.func36 (.s .L (.s (.s .L (.s .L (.c (.s .L .L) .L))) (.j [] [] (.s .L (.s .L (.c (.s .L .L) .L))) (.s .L (.s .L (.s .L (.s .L .L))))))) fun _ _=>by kernel_rfl
def Qf5 (p0:OA) (n1:Int) (w:World) (R:RV):Prop:=
 Calls Pg Qb9 #[.pointer p0,.int .i64 n1] w fun e4 w3=>∃v2,e4=.returned v2∧
 isI v2∧bif (!(nilI v2)) then (
 R v2 w3) else (
 pt p0 fun a5=>
 ldS (a5.add 1) w3 fun s6b s6l s6c=>
 ixS s6b s6l n1 1 fun a7=>
 ldB a7 w3 fun b8=>
 bif b8 then (
 R (.iface Qah (.int .i64 20)) w3) else (
 pt p0 fun a9=>
 ldS (a9.add 1) w3 fun s10b s10l s10c=>
 ixS s10b s10l n1 1 fun a11=>
 sto a11 (.bool true) w3 fun w12=>
 pt p0 fun a13=>
 ldI .i64 (a13.add 6) w12 fun n14=>
 pt p0 fun a15=>
 sto (a15.add 6) (.int .i64 (IntKind.wrap .i64 (n14+1))) w12 fun w16=>
 pt p0 fun a17=>
 ldI .i64 ((a17.add 6).add 3) w16 fun n18=>
 pt p0 fun a19=>
 sto ((a19.add 6).add 3) (.int .i64 (IntKind.wrap .i64 (n18+1))) w16 fun w20=>
 R .nilIface w20))
theorem Qhu (p0:OA) (n1:Int):SH Qbk [.pointer p0,.int .i64 n1] (Qf5 p0 n1):=cdn Tryz.func37 (.s .L (.s (.s .L (.s .L (.c (.s .L .L) .L))) (.s (.s .L (.c (.s .L .L) .L)) (.s .L (.s .L (.s .L (.s .L .L))))))) fun _ _=>by kernel_rfl
def Qm1 (p0:OA) (n1 n2:Int) (w:World) (R:RV):Prop:=
 alo #[.int .i64 n1,.int .i64 n2] Qbr w fun a3 w4=>
 ldI .i64 a3 w4 fun n5=>
 Calls Pg Qcm #[.pointer p0,.int .i64 n5] w4 fun e8 w7=>∃v6,e8=.returned v6∧
 isI v6∧bif (!(nilI v6)) then (
 R v6 w7) else (
 pt p0 fun a9=>
 ldP (a9.add 2) w7.drew fun p10=>
 ldI .i64 a3 w7.drew fun n11=>
 ldI .i64 (a3.add 1) w7.drew fun n12=>
 Calls Pg Qdn #[.pointer p10,.agg #[.int .i64 n11,.int .i64 n12]] w7.drew fun e15 w14=>∃v13,e15=.returned v13∧
 R v13 w14)
theorem Qqx (p0:OA) (n1 n2:Int):SH Qgv [.pointer p0,.agg #[.int .i64 n1,.int .i64 n2]] (Qm1 p0 n1 n2):=cdn Tryz.func40 (.s .L (.s (.s .L (.s .L (.c (.s .L .L) .L))) (.s (.r (.t 0 3 (.tk 3 [5,6] [5] (.tk 4 [5,6] [5] (.one 5 (.t 6 1 .fin)))))) .L))) fun _ _=>by kernel_rfl
def Qn4 (p0:OA) (n1:Int) (w:World) (R:RV):Prop:=
 Calls Pg Qb9 #[.pointer p0,.int .i64 n1] w fun e4 w3=>∃v2,e4=.returned v2∧
 isI v2∧bif (!(nilI v2)) then (
 R v2 w3) else (
 pt p0 fun a5=>
 ldP (a5.add 2) w3 fun p6=>
 Calls Pg Qcu #[.pointer p6,.int .i64 n1] w3 fun e9 w8=>∃b7,e9=.returned (.bool b7)∧
 bif (!b7) then (
 R (.iface Qah (.int .i64 13)) w8) else (
 R .nilIface w8))
theorem Qrr (p0:OA) (n1:Int):SH Qcp [.pointer p0,.int .i64 n1] (Qn4 p0 n1):=cdn Tryz.func60 (.s .L (.s (.s .L (.s .L (.c (.s .L .L) .L))) (.s (.s .L (.c (.s .L .L) .L)) (.s .L .L)))) fun _ _=>by kernel_rfl
def Qmy (p0:OA) (n1:Int) (w:World) (R:RV):Prop:=
 pt p0 fun a2=>
 ldP (a2.add 3) w fun p3=>
 Calls Pg Qc0 #[.pointer p3,.int .i64 n1] w fun e6 w5=>∃b4,e6=.returned (.bool b4)∧
 bif b4 then (
 pt p0 fun a7=>
 ldP (a7.add 3) w5 fun p8=>
 Calls Pg Qcn #[.pointer p8,.int .i64 n1] w5 fun e11 w10=>∃v9,e11=.returned v9∧
 R (.tuple #[.bool false,v9]) w10) else (
 pt p0 fun a12=>
 ldP (a12.add 3) w5 fun p13=>
 Calls Pg Qbn #[.pointer p13,.int .i64 (IntKind.wrap .i64 (2*n1)),.int .i64 (IntKind.wrap .i64 ((IntKind.wrap .i64 (2*n1))+1))] w5 fun e17 w16=>∃b14 v15,e17=.returned (.tuple #[.bool b14,v15])∧
 isI v15∧bif (!(nilI v15)) then (
 R (.tuple #[.bool false,v15]) w16) else (
 bif b14 then (
 Calls Pg Qda #[.pointer p0,.int .i64 n1] w16 fun e20 w19=>∃v18,e20=.returned v18∧
 R (.tuple #[.bool true,v18]) w19) else (
 pt p0 fun a21=>
 ldP (a21.add 3) w16 fun p22=>
 Calls Pg Qcd #[.pointer p22,.int .i64 (IntKind.wrap .i64 (2*n1)),.int .i64 (IntKind.wrap .i64 ((IntKind.wrap .i64 (2*n1))+1))] w16 fun e26 w25=>∃n23 v24,e26=.returned (.tuple #[.int .i64 n23,v24])∧
 isI v24∧bif (!(nilI v24)) then (
 R (.tuple #[.bool false,v24]) w25) else (
 pt p0 fun a27=>
 ldP (a27.add 3) w25.drew fun p28=>
 Calls Pg Qda #[.pointer p0,.int .i64 n1] w25.drew fun e31 w30=>∃v29,e31=.returned v29∧
 w30.cell? (a27.add 3)=some (.pointer p28)∧Calls Pg Qcn #[.pointer p28,.int .i64 n23] w30 fun e34 w33=>∃v32,e34=.returned v32∧
 Calls Pg Qb1 #[.pointer p0,.int .i64 n23] w33 fun e37 w36=>∃v35,e37=.returned v35∧
 ocm v29 (ocm v32 (ocm v35 (alo #[v29,v32,v35] Qdp w36 fun a38 w39=>
 Calls Pg Qa3 #[.slice (some a38) 3 3] w39 fun e42 w41=>∃v40,e42=.returned v40∧
 R (.tuple #[.bool false,v40]) w41)))))))
theorem Qqu (p0:OA) (n1:Int):SH Qjd [.pointer p0,.int .i64 n1] (Qmy p0 n1):=cdn Tryz.func65 (.s .L (.s (.s .L (.c (.s .L .L) .L)) (.s .L (.s (.s .L (.c (.s .L .L) .L)) (.s (.s .L (.c (.s .L .L) .L)) (.s .L (.s (.s .L (.c (.s .L .L) .L)) (.s (.r (.t 0 2 (.t 3 3 (.tk 6 [8,11,12,13,14,15] [8,11,12,13] (.t 7 1 (.t 9 2 (.one 2 (.one 8 (.one 11 (.one 12 (.one 13 (.t 14 2 .fin)))))))))))) .L)))))))) fun _ _=>by kernel_rfl
def Qnz (p0:OA) (n1:Int) (b2:Bool) (w:World) (R:RV):Prop:=
 pt p0 fun a3=>
 ldP (a3.add 2) w fun p4=>
 Calls Pg Qce #[.pointer p4,.int .i64 (IntKind.wrap .i64 (2*n1))] w fun e8 w7=>∃n5 v6,e8=.returned (.tuple #[.int .i64 n5,v6])∧
 pt p0 fun a9=>
 ldP (a9.add 2) w7 fun p10=>
 Calls Pg Qce #[.pointer p10,.int .i64 (IntKind.wrap .i64 ((IntKind.wrap .i64 (2*n1))+1))] w7 fun e14 w13=>∃n11 v12,e14=.returned (.tuple #[.int .i64 n11,v12])∧
 ocm v6 (ocm v12 (alo #[v6,v12] Qdp w13 fun a15 w16=>
 Calls Pg Qa3 #[.slice (some a15) 2 2] w16 fun e19 w18=>∃v17,e19=.returned v17∧
 isI v17∧bif (!(nilI v17)) then (
 R v17 w18) else (
 ∃J20:JP,(
 ∃n21,0≤(0:Int)∧(0:Int)<((2:Nat):Int)∧(#[.int .i64 (IntKind.wrap .i64 (2*n1)),.int .i64 (IntKind.wrap .i64 ((IntKind.wrap .i64 (2*n1))+1))]:Array Value)[(Int.toNat (0:Int))*1]?=some (.int .i64 n21)∧
 pt p0 fun a22=>
 ldP (a22.add 3) w18 fun p23=>
 Calls Pg Qem #[.pointer p23,.int .i64 n21] w18 fun e27 w26=>∃n24 v25,e27=.returned (.tuple #[.int .i64 n24,v25])∧
 ∃J28:JP,(
 isI v25∧bif (nilI v25) then (
 J28 [.bool (decide (n24>1))] w26) else (
 J28 [.bool false] w26))∧∀_:Env,∀b29 w30,J28 [.bool b29] w30→
 bif b29 then (
 pt p0 fun a31=>
 ldP (a31.add 3) w30 fun p32=>
 Calls Pg Qco #[.pointer p32,.int .i64 n21] w30 fun e35 w34=>∃v33,e35=.returned v33∧
 isI v33∧bif (!(nilI v33)) then (
 R v33 w34) else (
 ∃n36,0≤(1:Int)∧(1:Int)<((2:Nat):Int)∧(#[.int .i64 (IntKind.wrap .i64 (2*n1)),.int .i64 (IntKind.wrap .i64 ((IntKind.wrap .i64 (2*n1))+1))]:Array Value)[(Int.toNat (1:Int))*1]?=some (.int .i64 n36)∧
 pt p0 fun a37=>
 ldP (a37.add 3) w34 fun p38=>
 Calls Pg Qem #[.pointer p38,.int .i64 n36] w34 fun e42 w41=>∃n39 v40,e42=.returned (.tuple #[.int .i64 n39,v40])∧
 ∃J43:JP,(
 isI v40∧bif (nilI v40) then (
 J43 [.bool (decide (n39>1))] w41) else (
 J43 [.bool false] w41))∧∀_:Env,∀b44 w45,J43 [.bool b44] w45→
 bif b44 then (
 pt p0 fun a46=>
 ldP (a46.add 3) w45 fun p47=>
 Calls Pg Qco #[.pointer p47,.int .i64 n36] w45 fun e50 w49=>∃v48,e50=.returned v48∧
 isI v48∧bif (!(nilI v48)) then (
 R v48 w49) else (
 J20 [] w49)) else (
 isI v40∧bif (!(nilI v40)) then (
 R v40 w45) else (
 J20 [] w45)))) else (
 isI v25∧bif (!(nilI v25)) then (
 R v25 w30) else (
 ∃n51,0≤(1:Int)∧(1:Int)<((2:Nat):Int)∧(#[.int .i64 (IntKind.wrap .i64 (2*n1)),.int .i64 (IntKind.wrap .i64 ((IntKind.wrap .i64 (2*n1))+1))]:Array Value)[(Int.toNat (1:Int))*1]?=some (.int .i64 n51)∧
 pt p0 fun a52=>
 ldP (a52.add 3) w30 fun p53=>
 Calls Pg Qem #[.pointer p53,.int .i64 n51] w30 fun e57 w56=>∃n54 v55,e57=.returned (.tuple #[.int .i64 n54,v55])∧
 ∃J58:JP,(
 isI v55∧bif (nilI v55) then (
 J58 [.bool (decide (n54>1))] w56) else (
 J58 [.bool false] w56))∧∀_:Env,∀b59 w60,J58 [.bool b59] w60→
 bif b59 then (
 pt p0 fun a61=>
 ldP (a61.add 3) w60 fun p62=>
 Calls Pg Qco #[.pointer p62,.int .i64 n51] w60 fun e65 w64=>∃v63,e65=.returned v63∧
 isI v63∧bif (!(nilI v63)) then (
 R v63 w64) else (
 J20 [] w64)) else (
 isI v55∧bif (!(nilI v55)) then (
 R v55 w60) else (
 J20 [] w60)))))∧∀_:Env,∀w66,J20 [] w66→
 ∃J67:JP,(
 bif (n5==(IntKind.wrap .i64 (2*n1))) then (
 J67 [.bool true] w66) else (
 bif (n5==(IntKind.wrap .i64 ((IntKind.wrap .i64 (2*n1))+1))) then (
 J67 [.bool true] w66) else (
 bif (n11==(IntKind.wrap .i64 (2*n1))) then (
 J67 [.bool true] w66) else (
 J67 [.bool (n11==(IntKind.wrap .i64 ((IntKind.wrap .i64 (2*n1))+1)))] w66))))∧∀_:Env,∀b68 w69,J67 [.bool b68] w69→
 bif b68 then (
 R .nilIface w69) else (
 bif b2 then (
 pt p0 fun a70=>
 ldP (a70.add 3) w69 fun p71=>
 Calls Pg Qbu #[.pointer p71,.int .i64 n5,.int .i64 n11] w69 fun e74 w73=>∃v72,e74=.returned v72∧
 R v72 w73) else (
 pt p0 fun a75=>
 ldP (a75.add 3) w69 fun p76=>
 Calls Pg Qbc #[.pointer p76,.int .i64 n5,.int .i64 n11] w69 fun e79 w78=>∃v77,e79=.returned v77∧
 R v77 w78)))))
theorem Qrm (p0:OA) (n1:Int) (b2:Bool):SH Qjw [.pointer p0,.int .i64 n1,.bool b2] (Qnz p0 n1 b2):=cdn Tryz.func66 (.s .L (.s .L (.s .L (.s .L (.s (.s .L (.s .L (.c (.s .L .L) .L))) (.j [] [] (.s .L (.b (.u 3 (.s .L (.s (.c .L .L) (.s (.b (.s .L (.s .L (.s (.j [68] [.one .bool] .L (.c .L .L)) (.s .L (.c (.s .L .L) .L)))))) .L)))))) (.s (.b (.j [79] [.one .bool] .L (.c (.s .L .L) (.s .L (.c (.s .L .L) .L))))) (.s .L .L)))))))) fun _ _=>by kernel_rfl
def Ql0 (p0:OA) (n1:Int) (w:World) (R:RV):Prop:=
 Calls Pg Qfg #[.pointer p0,.int .i64 n1] w fun e5 w4=>∃n2 n3,e5=.returned (.tuple #[.int .i64 n2,.int .i64 n3])∧
 bif (n2==n3) then (
 Calls Pg Qez #[.pointer p0,.int .i64 n1] w4 fun e8 w7=>∃v6,e8=.returned v6∧
 R v6 w7) else (
 pt p0 fun a9=>
 ldP (a9.add 4) w4 fun p10=>
 Calls Pg Qc9 #[.pointer p10,.int .i64 n2,.int .i64 n3] w4 fun e14 w13=>∃n11 v12,e14=.returned (.tuple #[.int .i64 n11,v12])∧
 isI v12∧bif (!(nilI v12)) then (
 R v12 w13) else (
 pt p0 fun a15=>
 ldI .i64 a15 w13 fun n16=>
 pt p0 fun a17=>
 ldS (a17.add 5) w13.drew fun s18b s18l s18c=>
 ixS s18b s18l (IntKind.wrap .i64 (n11-n16)) 1 fun a19=>
 ldI .i64 a19 w13.drew fun n20=>
 pt p0 fun a21=>
 ldS (a21.add 5) w13.drew fun s22b s22l s22c=>
 ixS s22b s22l n1 1 fun a23=>
 ldI .i64 a23 w13.drew fun n24=>
 bif (decide (n20<n24)) then (
 Calls Pg Qez #[.pointer p0,.int .i64 n1] w13.drew fun e27 w26=>∃v25,e27=.returned v25∧
 R v25 w26) else (
 Calls Pg Qda #[.pointer p0,.int .i64 (IntKind.wrap .i64 (n11-n16))] w13.drew fun e30 w29=>∃v28,e30=.returned v28∧
 Calls Pg Qb1 #[.pointer p0,.int .i64 n1] w29 fun e33 w32=>∃v31,e33=.returned v31∧
 Calls Pg Qez #[.pointer p0,.int .i64 (IntKind.wrap .i64 (n11-n16))] w32 fun e36 w35=>∃v34,e36=.returned v34∧
 ocm v28 (ocm v31 (ocm v34 (alo #[v28,v31,v34] Qdp w35 fun a37 w38=>
 Calls Pg Qa3 #[.slice (some a37) 3 3] w38 fun e41 w40=>∃v39,e41=.returned v39∧
 R v39 w40))))))
theorem Qpw (p0:OA) (n1:Int):SH Qf4 [.pointer p0,.int .i64 n1] (Ql0 p0 n1):=cdn Tryz.func71 (.s .L (.s .L (.s (.s .L (.c (.s .L .L) .L)) (.s .L (.s (.s .L (.c (.s .L .L) .L)) (.s .L (.s (.s (.r (.t 0 15 .fin)) (.c (.s .L .L) .L)) (.s .L .L)))))))) fun _ _=>by kernel_rfl
def Qly (p0:OA) (n1:Int) (w:World) (R:RV):Prop:=
 Calls Pg Qfg #[.pointer p0,.int .i64 n1] w fun e5 w4=>∃n2 n3,e5=.returned (.tuple #[.int .i64 n2,.int .i64 n3])∧
 pt p0 fun a6=>
 ldI .i64 (a6.add 10) w4.drew fun n7=>
 pt p0 fun a8=>
 ldS (a8.add 5) w4.drew fun s9b s9l s9c=>
 ixS s9b s9l n1 1 fun a10=>
 ldI .i64 a10 w4.drew fun n11=>
 Calls Pg Qf9 #[.int .i64 n11] w4.drew fun e14 w13=>∃n12,e14=.returned (.int .i32 n12)∧
 w13.cell? (a6.add 10)=some (.int .i64 n7)∧pt p0 fun a15=>
 sto (a15.add 10) (.int .i64 (IntKind.wrap .i64 (n7-(IntKind.wrap .i64 n12)))) w13 fun w16=>
 pt p0 fun a17=>
 ldI .i64 ((a17.add 6).add 3) w16 fun n18=>
 pt p0 fun a19=>
 sto ((a19.add 6).add 3) (.int .i64 (IntKind.wrap .i64 (n18+1))) w16 fun w20=>
 pt p0 fun a21=>
 ldI .i64 a21 w20 fun n22=>
 pt p0 fun a23=>
 ldP (a23.add 4) w20.drew fun p24=>
 pt p0 fun a25=>
 ldP (a25.add 4) w20.drew fun p26=>
 Calls Pg Qbd #[.pointer p24,.int .i64 n2,.int .i64 (IntKind.wrap .i64 (n22+n1))] w20.drew fun e29 w28=>∃v27,e29=.returned v27∧
 w28.cell? (a25.add 4)=some (.pointer p26)∧Calls Pg Qbd #[.pointer p26,.int .i64 (IntKind.wrap .i64 (n22+n1)),.int .i64 n3] w28 fun e32 w31=>∃v30,e32=.returned v30∧
 ocm v27 (ocm v30 (alo #[v27,v30] Qdp w31 fun a33 w34=>
 Calls Pg Qa3 #[.slice (some a33) 2 2] w34 fun e37 w36=>∃v35,e37=.returned v35∧
 R v35 w36))
theorem Qpu (p0:OA) (n1:Int):SH Qda [.pointer p0,.int .i64 n1] (Qly p0 n1):=cdn Tryz.func72 (.s .L (.s .L (.s (.r (.t 0 3 (.tk 3 [13,14,15,16] [16] (.t 4 3 (.tk 7 [9,10,11,12,13,14,15,16] [11,16] (.t 8 2 (.tk 10 [11,12,13,14,15,16] [11,16] (.one 11 (.t 12 4 (.one 16 .fin)))))))))) (.s .L (.s .L (.s (.r (.t 0 3 (.tk 3 [6,13,14,15,16] [6,13,14,15] (.t 4 2 (.t 7 3 (.tk 10 [13,14,15,16] [13,14,15] (.t 11 2 (.one 6 (.one 13 (.one 14 (.one 15 (.t 16 1 .fin)))))))))))) .L)))))) fun _ _=>by kernel_rfl
def Qn0 (p0:OA) (n1:Int) (w:World) (R:RV):Prop:=
 pt p0 fun a2=>
 ldP (a2.add 3) w fun p3=>
 Calls Pg Qbn #[.pointer p3,.int .i64 (IntKind.wrap .i64 (2*n1)),.int .i64 (IntKind.wrap .i64 ((IntKind.wrap .i64 (2*n1))+1))] w fun e7 w6=>∃b4 v5,e7=.returned (.tuple #[.bool b4,v5])∧
 isI v5∧bif (!(nilI v5)) then (
 R v5 w6) else (
 bif b4 then (
 Calls Pg Qb1 #[.pointer p0,.int .i64 n1] w6 fun e10 w9=>∃v8,e10=.returned v8∧
 R v8 w9) else (
 pt p0 fun a11=>
 ldP (a11.add 3) w6 fun p12=>
 Calls Pg Qcd #[.pointer p12,.int .i64 (IntKind.wrap .i64 (2*n1)),.int .i64 (IntKind.wrap .i64 ((IntKind.wrap .i64 (2*n1))+1))] w6 fun e16 w15=>∃n13 v14,e16=.returned (.tuple #[.int .i64 n13,v14])∧
 isI v14∧bif (!(nilI v14)) then (
 R v14 w15) else (
 pt p0 fun a17=>
 ldS (a17.add 5) w15.drew fun s18b s18l s18c=>
 ixS s18b s18l n1 1 fun a19=>
 ldI .i64 a19 w15.drew fun n20=>
 pt p0 fun a21=>
 ldS (a21.add 5) w15.drew fun s22b s22l s22c=>
 ixS s22b s22l n13 1 fun a23=>
 ldI .i64 a23 w15.drew fun n24=>
 bif (decide (n20<n24)) then (
 Calls Pg Qb1 #[.pointer p0,.int .i64 n1] w15.drew fun e27 w26=>∃v25,e27=.returned v25∧
 R v25 w26) else (
 pt p0 fun a28=>
 ldP (a28.add 3) w15.drew fun p29=>
 Calls Pg Qcn #[.pointer p29,.int .i64 n13] w15.drew fun e32 w31=>∃v30,e32=.returned v30∧
 Calls Pg Qb1 #[.pointer p0,.int .i64 n13] w31 fun e35 w34=>∃v33,e35=.returned v33∧
 Calls Pg Qez #[.pointer p0,.int .i64 n1] w34 fun e38 w37=>∃v36,e38=.returned v36∧
 ocm v30 (ocm v33 (ocm v36 (alo #[v30,v33,v36] Qdp w37 fun a39 w40=>
 Calls Pg Qa3 #[.slice (some a39) 3 3] w40 fun e43 w42=>∃v41,e43=.returned v41∧
 R v41 w42)))))))
theorem Qrn (p0:OA) (n1:Int):SH Qjx [.pointer p0,.int .i64 n1] (Qn0 p0 n1):=cdn Tryz.func73 (.s .L (.s .L (.s (.s .L (.c (.s .L .L) .L)) (.s (.s .L (.c (.s .L .L) .L)) (.s .L (.s (.s .L (.c (.s .L .L) .L)) (.s (.s (.r (.t 0 15 .fin)) (.c (.s .L .L) .L)) (.s .L .L)))))))) fun _ _=>by kernel_rfl
def Qn5 (p0:OA) (n1:Int) (w:World) (R:RV):Prop:=
 bif (Option.isNone p0) then (
 R (.iface Qah (.int .i64 1)) w) else (
 pt p0 fun a2=>
 ldP (a2.add 2) w fun p3=>
 Calls Pg Qbv #[.pointer p3,.int .i64 n1] w fun e7 w6=>∃n4 v5,e7=.returned (.tuple #[.int .i64 n4,v5])∧
 R v5 w6)
theorem Qrs (p0:OA) (n1:Int):SH Qdx [.pointer p0,.int .i64 n1] (Qn5 p0 n1):=cdn Tryz.func75 (.s .L (.s (.s .L (.c (.s .L .L) .L)) (.s .L (.s .L .L)))) fun _ _=>by kernel_rfl
def Qgo (p0:OA) (n1:Int) (w:World) (R:RV):Prop:=
 bif (Option.isNone p0) then (
 R (.iface Qah (.int .i64 1)) w) else (
 bif (decide (n1<0)) then (
 R (.iface Qah (.int .i64 12)) w) else (
 pt p0 fun a2=>
 ldI .i64 a2 w fun n3=>
 bif (decide (n1 ≥ n3)) then (
 R (.iface Qah (.int .i64 12)) w) else (
 R .nilIface w)))
theorem Qg5 (p0:OA) (n1:Int):SH Qb9 [.pointer p0,.int .i64 n1] (Qgo p0 n1):=cdn Tryz.func77 (.s .L (.s (.b (.s .L (.c (.s .L .L) (.s .L (.c (.s .L .L) .L))))) (.s .L .L))) fun _ _=>by kernel_rfl
def Qmz (p0:OA) (n1 n2 n3 n4:Int) (w:World) (R:RV):Prop:=
 alo #[.int .i64 n1,.int .i64 n2] Qbr w fun a5 w6=>
 alo #[.int .i64 n3,.int .i64 n4] Qbr w6 fun a7 w8=>
 ldI .i64 a5 w8.drew fun n9=>
 ldI .i64 (a5.add 1) w8.drew fun n10=>
 ldI .i64 a7 w8.drew fun n11=>
 ldI .i64 (a7.add 1) w8.drew fun n12=>
 Calls Pg Qgv #[.pointer p0,.agg #[.int .i64 n9,.int .i64 n10]] w8.drew fun e15 w14=>∃v13,e15=.returned v13∧
 w14.cell? a7=some (.int .i64 n11)∧w14.cell? (a7.add 1)=some (.int .i64 n12)∧Calls Pg Qgv #[.pointer p0,.agg #[.int .i64 n11,.int .i64 n12]] w14 fun e18 w17=>∃v16,e18=.returned v16∧
 ocm v13 (ocm v16 (alo #[v13,v16] Qdp w17 fun a19 w20=>
 Calls Pg Qa3 #[.slice (some a19) 2 2] w20 fun e23 w22=>∃v21,e23=.returned v21∧
 isI v21∧bif (!(nilI v21)) then (
 R (.tuple #[.int .i64 0,.int .i64 0,.bool false,v21]) w22) else (
 ldI .i64 a5 w22 fun n24=>
 ldI .i64 (a5.add 1) w22 fun n25=>
 Calls Pg Qhd #[.pointer p0,.agg #[.int .i64 n24,.int .i64 n25]] w22 fun e29 w28=>∃n26 v27,e29=.returned (.tuple #[.int .i64 n26,v27])∧
 ldI .i64 a7 w28 fun n30=>
 ldI .i64 (a7.add 1) w28 fun n31=>
 Calls Pg Qhd #[.pointer p0,.agg #[.int .i64 n30,.int .i64 n31]] w28 fun e35 w34=>∃n32 v33,e35=.returned (.tuple #[.int .i64 n32,v33])∧
 ocm v27 (ocm v33 (alo #[v27,v33] Qdp w34 fun a36 w37=>
 Calls Pg Qa3 #[.slice (some a36) 2 2] w37 fun e40 w39=>∃v38,e40=.returned v38∧
 isI v38∧bif (!(nilI v38)) then (
 R (.tuple #[.int .i64 0,.int .i64 0,.bool false,v38]) w39) else (
 pt p0 fun a41=>
 ldP (a41.add 3) w39 fun p42=>
 Calls Pg Qbn #[.pointer p42,.int .i64 n26,.int .i64 n32] w39 fun e46 w45=>∃b43 v44,e46=.returned (.tuple #[.bool b43,v44])∧
 pt p0 fun a47=>
 ldP (a47.add 4) w45.drew fun p48=>
 ldI .i64 a5 w45.drew fun n49=>
 ldI .i64 a7 w45.drew fun n50=>
 Calls Pg Qcl #[.pointer p48,.int .i64 n49,.int .i64 n50] w45.drew fun e54 w53=>∃b51 v52,e54=.returned (.tuple #[.bool b51,v52])∧
 bif b43 then (
 ocm v44 (ocm v52 (alo #[v44,v52] Qdp w53 fun a55 w56=>
 Calls Pg Qa3 #[.slice (some a55) 2 2] w56 fun e59 w58=>∃v57,e59=.returned v57∧
 R (.tuple #[.int .i64 n26,.int .i64 n32,.bool true,v57]) w58))) else (
 ocm v44 (ocm v52 (alo #[v44,v52] Qdp w53 fun a60 w61=>
 Calls Pg Qa3 #[.slice (some a60) 2 2] w61 fun e64 w63=>∃v62,e64=.returned v62∧
 R (.tuple #[.int .i64 n26,.int .i64 n32,.bool (!b51),v62]) w63)))))))))
theorem Qqv (p0:OA) (n1 n2 n3 n4:Int):SH Qgu [.pointer p0,.agg #[.int .i64 n1,.int .i64 n2],.agg #[.int .i64 n3,.int .i64 n4]] (Qmz p0 n1 n2 n3 n4):=cdn Tryz.func79 (.s .L (.s (.s (.r (.t 0 1 (.tk 1 [2,5,6,7,8] [2,5,6,7] (.t 3 1 (.tk 4 [5,6,7,8] [5,6,7] (.one 2 (.one 5 (.one 6 (.one 7 (.t 8 1 .fin)))))))))) (.s .L (.c (.s .L .L) .L))) (.s .L (.s .L (.s (.s .L (.s .L (.c (.s .L .L) .L))) (.s .L (.s (.r (.t 0 3 (.tk 3 [8,9,10,11,12,13] [8] (.t 4 1 (.tk 5 [8,9,10,11,12,13] [8] (.t 6 1 (.tk 7 [8,9,10,11,12,13] [8] (.one 8 (.t 9 5 .fin))))))))) (.s .L .L)))))))) fun _ _=>by kernel_rfl
def Qr3 (s0b:OA) (s0l s0c:Nat) (w:World) (R:RV):Prop:=
 ∃(I1:JP) (m2:JN),I1 [.int .i64 0] w∧
 ∀_:Env,∀n3 w4,I1 [.int .i64 n3] w4→
 bif (decide (n3<(s0l:Int))) then (
 ixS s0b s0l n3 1 fun a5=>
 ldV a5 w4 fun v6=>
 isI v6∧bif (!(nilI v6)) then (
 R v6 w4) else (
 (I1 [.int .i64 (IntKind.wrap .i64 (n3+1))] w4∧m2 [.int .i64 (IntKind.wrap .i64 (n3+1))] w4<m2 [.int .i64 n3] w4))) else (
 R .nilIface w4)
theorem Qtt (s0b:OA) (s0l s0c:Nat):SH Qa3 [.slice s0b s0l s0c] (Qr3 s0b s0l s0c):=cdn Tryz.func81 (.s .L (.s (.s .L (.b (.o [7] [.one (.int .i64)] (.s .L (.s (.c .L .L) (.s (.b (.s .L (.s .L (.c (.s .L .L) .L)))) .L)))))) (.s .L .L))) fun _ _=>by kernel_rfl
def Qlz (p0:OA) (n1 n2 n3:Int) (b4:Bool) (w:World) (R:RV):Prop:=
 Calls Pg Qga #[.pointer p0,.int .i64 n1] w fun e7 w6=>∃b5,e7=.returned (.bool b5)∧
 bif b5 then (
 R .nilIface w6) else (
 bif b4 then (
 pt p0 fun a8=>
 ldP (a8.add 3) w6 fun p9=>
 Calls Pg Qbc #[.pointer p9,.int .i64 n1,.int .i64 (IntKind.wrap .i64 ((IntKind.wrap .i64 (2*n3))+1))] w6 fun e12 w11=>∃v10,e12=.returned v10∧
 R v10 w11) else (
 pt p0 fun a13=>
 ldP (a13.add 3) w6.drew fun p14=>
 pt p0 fun a15=>
 ldP (a15.add 3) w6.drew fun p16=>
 pt p0 fun a17=>
 ldP (a17.add 3) w6.drew fun p18=>
 Calls Pg Qbu #[.pointer p14,.int .i64 n1,.int .i64 n2] w6.drew fun e21 w20=>∃v19,e21=.returned v19∧
 w20.cell? (a17.add 3)=some (.pointer p18)∧w20.cell? (a15.add 3)=some (.pointer p16)∧Calls Pg Qbc #[.pointer p16,.int .i64 n1,.int .i64 (IntKind.wrap .i64 ((IntKind.wrap .i64 (2*n3))+1))] w20 fun e24 w23=>∃v22,e24=.returned v22∧
 w23.cell? (a17.add 3)=some (.pointer p18)∧Calls Pg Qbc #[.pointer p18,.int .i64 n2,.int .i64 (IntKind.wrap .i64 (2*n3))] w23 fun e27 w26=>∃v25,e27=.returned v25∧
 ocm v19 (ocm v22 (ocm v25 (alo #[v19,v22,v25] Qdp w26 fun a28 w29=>
 Calls Pg Qa3 #[.slice (some a28) 3 3] w29 fun e32 w31=>∃v30,e32=.returned v30∧
 R v30 w31)))))
theorem Qpv (p0:OA) (n1 n2 n3:Int) (b4:Bool):SH Qil [.pointer p0,.int .i64 n1,.int .i64 n2,.int .i64 n3,.bool b4] (Qlz p0 n1 n2 n3 b4):=cdn Tryz.func82 (.s .L (.s .L (.s (.b (.s .L (.c (.s .L .L) (.s .L (.c (.s .L .L) .L))))) (.s (.r (.t 0 3 (.tk 3 [6,13,20,21,22,23] [6,13,20,21,22] (.t 4 2 (.t 7 3 (.tk 10 [13,20,21,22,23] [13,20,21,22] (.t 11 2 (.t 14 3 (.tk 17 [20,21,22,23] [20,21,22] (.t 18 2 (.one 6 (.one 13 (.one 20 (.one 21 (.one 22 (.t 23 1 .fin)))))))))))))))) .L)))) fun _ _=>by kernel_rfl
def Qn6 (p0:OA) (n1 n2 n3:Int) (w:World) (R:RV):Prop:=
 ∃J4:JP,(
 Calls Pg Qga #[.pointer p0,.int .i64 n1] w fun e7 w6=>∃b5,e7=.returned (.bool b5)∧
 bif b5 then (
 J4 [.int .i64 (IntKind.wrap .i64 (2*n3))] w6) else (
 pt p0 fun a8=>
 ldP (a8.add 3) w6 fun p9=>
 Calls Pg Qbc #[.pointer p9,.int .i64 n1,.int .i64 (IntKind.wrap .i64 (2*n3))] w6 fun e12 w11=>∃v10,e12=.returned v10∧
 isI v10∧bif (!(nilI v10)) then (
 R v10 w11) else (
 J4 [.int .i64 n1] w11)))∧∀_:Env,∀n13 w14,J4 [.int .i64 n13] w14→
 Calls Pg Qga #[.pointer p0,.int .i64 n2] w14 fun e17 w16=>∃b15,e17=.returned (.bool b15)∧
 bif b15 then (
 pt p0 fun a18=>
 ldP (a18.add 3) w16 fun p19=>
 Calls Pg Qbc #[.pointer p19,.int .i64 n13,.int .i64 (IntKind.wrap .i64 ((IntKind.wrap .i64 (2*n3))+1))] w16 fun e22 w21=>∃v20,e22=.returned v20∧
 R v20 w21) else (
 pt p0 fun a23=>
 ldP (a23.add 3) w16 fun p24=>
 Calls Pg Qbc #[.pointer p24,.int .i64 n2,.int .i64 (IntKind.wrap .i64 ((IntKind.wrap .i64 (2*n3))+1))] w16 fun e27 w26=>∃v25,e27=.returned v25∧
 isI v25∧bif (!(nilI v25)) then (
 R v25 w26) else (
 pt p0 fun a28=>
 ldP (a28.add 3) w26 fun p29=>
 Calls Pg Qbc #[.pointer p29,.int .i64 n13,.int .i64 n2] w26 fun e32 w31=>∃v30,e32=.returned v30∧
 R v30 w31))
theorem Qrt (p0:OA) (n1 n2 n3:Int):SH Qjy [.pointer p0,.int .i64 n1,.int .i64 n2,.int .i64 n3] (Qn6 p0 n1 n2 n3):=cdn Tryz.func83 (.s .L (.s .L (.j [1] [.one (.int .i64)] (.s .L (.c .L (.s .L (.s .L (.c (.s .L .L) .L))))) (.s (.s .L (.c .L (.s .L (.s .L (.c (.s .L .L) .L))))) (.s .L .L))))) fun _ _=>by kernel_rfl
def Qn1 (p0:OA) (n1:Int) (w:World) (R:RV):Prop:=
 Calls Pg Qfg #[.pointer p0,.int .i64 n1] w fun e5 w4=>∃n2 n3,e5=.returned (.tuple #[.int .i64 n2,.int .i64 n3])∧
 pt p0 fun a6=>
 ldI .i64 (a6.add 10) w4.drew fun n7=>
 pt p0 fun a8=>
 ldS (a8.add 5) w4.drew fun s9b s9l s9c=>
 ixS s9b s9l n1 1 fun a10=>
 ldI .i64 a10 w4.drew fun n11=>
 Calls Pg Qf9 #[.int .i64 n11] w4.drew fun e14 w13=>∃n12,e14=.returned (.int .i32 n12)∧
 w13.cell? (a6.add 10)=some (.int .i64 n7)∧pt p0 fun a15=>
 sto (a15.add 10) (.int .i64 (IntKind.wrap .i64 (n7+(IntKind.wrap .i64 n12)))) w13 fun w16=>
 pt p0 fun a17=>
 ldI .i64 ((a17.add 6).add 3) w16 fun n18=>
 pt p0 fun a19=>
 sto ((a19.add 6).add 3) (.int .i64 (IntKind.wrap .i64 (n18-1))) w16 fun w20=>
 pt p0 fun a21=>
 ldI .i64 a21 w20 fun n22=>
 pt p0 fun a23=>
 ldP (a23.add 4) w20.drew fun p24=>
 pt p0 fun a25=>
 ldS (a25.add 5) w20.drew fun s26b s26l s26c=>
 ixS s26b s26l n1 1 fun a27=>
 ldI .i64 a27 w20.drew fun n28=>
 pt p0 fun a29=>
 ldP (a29.add 4) w20.drew fun p30=>
 pt p0 fun a31=>
 ldP (a31.add 4) w20.drew fun p32=>
 Calls Pg Qb8 #[.pointer p24,.int .i64 (IntKind.wrap .i64 (n22+n1)),.int .i64 n28] w20.drew fun e35 w34=>∃v33,e35=.returned v33∧
 w34.cell? (a31.add 4)=some (.pointer p32)∧w34.cell? (a29.add 4)=some (.pointer p30)∧Calls Pg Qa6 #[.pointer p30,.int .i64 n2,.int .i64 (IntKind.wrap .i64 (n22+n1))] w34 fun e38 w37=>∃v36,e38=.returned v36∧
 w37.cell? (a31.add 4)=some (.pointer p32)∧Calls Pg Qa6 #[.pointer p32,.int .i64 (IntKind.wrap .i64 (n22+n1)),.int .i64 n3] w37 fun e41 w40=>∃v39,e41=.returned v39∧
 ocm v33 (ocm v36 (ocm v39 (alo #[v33,v36,v39] Qdp w40 fun a42 w43=>
 Calls Pg Qa3 #[.slice (some a42) 3 3] w43 fun e46 w45=>∃v44,e46=.returned v44∧
 R v44 w45)))
theorem Qro (p0:OA) (n1:Int):SH Qb1 [.pointer p0,.int .i64 n1] (Qn1 p0 n1):=cdn Tryz.func84 (.s .L (.s .L (.s (.r (.t 0 3 (.tk 3 [13,14,15,16] [16] (.t 4 3 (.tk 7 [9,10,11,12,13,14,15,16] [11,16] (.t 8 2 (.tk 10 [11,12,13,14,15,16] [11,16] (.one 11 (.t 12 4 (.one 16 .fin)))))))))) (.s .L (.s .L (.s (.r (.t 0 3 (.tk 3 [12,19,26,27,28,29] [12,19,26,27,28] (.t 4 4 (.tk 8 [10,11,12,19,26,27,28,29] [12,19,26,27,28] (.t 9 2 (.tk 11 [12,19,26,27,28,29] [12,19,26,27,28] (.t 13 3 (.tk 16 [19,26,27,28,29] [19,26,27,28] (.t 17 2 (.t 20 3 (.tk 23 [26,27,28,29] [26,27,28] (.t 24 2 (.one 12 (.one 19 (.one 26 (.one 27 (.one 28 (.t 29 1 .fin))))))))))))))))))) .L)))))) fun _ _=>by kernel_rfl
def Qlx (p0:OA) (n1:Int) (w:World) (R:RV):Prop:=
 Calls Pg Qb9 #[.pointer p0,.int .i64 n1] w fun e4 w3=>∃v2,e4=.returned v2∧
 isI v2∧bif (!(nilI v2)) then (
 R v2 w3) else (
 pt p0 fun a5=>
 ldS (a5.add 1) w3 fun s6b s6l s6c=>
 ixS s6b s6l n1 1 fun a7=>
 ldB a7 w3 fun b8=>
 bif (!b8) then (
 R (.iface Qah (.int .i64 13)) w3) else (
 R .nilIface w3))
theorem Qpt (p0:OA) (n1:Int):SH Qcm [.pointer p0,.int .i64 n1] (Qlx p0 n1):=cdn Tryz.func86 (.s .L (.s (.s .L (.s .L (.c (.s .L .L) .L))) (.s (.s .L (.c (.s .L .L) .L)) (.s .L .L)))) fun _ _=>by kernel_rfl
def Qn3 (p0:OA) (n1:Int) (w:World) (R:RV):Prop:=
 pt p0 fun a2=>
 ldP (a2.add 2) w fun p3=>
 Calls Pg Qbv #[.pointer p3,.int .i64 (IntKind.wrap .i64 (2*n1))] w fun e7 w6=>∃n4 v5,e7=.returned (.tuple #[.int .i64 n4,v5])∧
 isI v5∧bif (!(nilI v5)) then (
 R (.tuple #[.int .i64 0,.int .i64 0]) w6) else (
 pt p0 fun a8=>
 ldP (a8.add 2) w6 fun p9=>
 Calls Pg Qbv #[.pointer p9,.int .i64 (IntKind.wrap .i64 ((IntKind.wrap .i64 (2*n1))+1))] w6 fun e13 w12=>∃n10 v11,e13=.returned (.tuple #[.int .i64 n10,v11])∧
 isI v11∧bif (!(nilI v11)) then (
 R (.tuple #[.int .i64 0,.int .i64 0]) w12) else (
 R (.tuple #[.int .i64 n4,.int .i64 n10]) w12))
theorem Qrq (p0:OA) (n1:Int):SH Qfg [.pointer p0,.int .i64 n1] (Qn3 p0 n1):=cdn Tryz.func119 (.s .L (.s .L (.s (.s .L (.c (.s .L .L) .L)) (.s .L (.s (.s .L (.c (.s .L .L) .L)) (.s .L .L)))))) fun _ _=>by kernel_rfl
def Qon (p0:OA) (n1:Int) (w:World) (R:RV):Prop:=
 pt p0 fun a2=>
 ldP (a2.add 3) w.drew fun p3=>
 pt p0 fun a4=>
 ldS (a4.add 5) w.drew fun s5b s5l s5c=>
 ixS s5b s5l n1 1 fun a6=>
 ldI .i64 a6 w.drew fun n7=>
 Calls Pg Qfj #[.pointer p3,.int .i64 n1,.int .i64 (IntKind.wrap .i64 (2*n1)),.int .i64 (IntKind.wrap .i64 ((IntKind.wrap .i64 (2*n1))+1)),.int .i64 n7] w.drew fun e10 w9=>∃v8,e10=.returned v8∧
 R v8 w9
theorem Qsn (p0:OA) (n1:Int):SH Qez [.pointer p0,.int .i64 n1] (Qon p0 n1):=cdn Tryz.func120 (.s .L (.s (.r (.t 0 3 (.tk 3 [17,18] [17] (.t 4 9 (.tk 13 [15,16,17,18] [17] (.t 14 2 (.tk 16 [17,18] [17] (.one 17 (.t 18 1 .fin))))))))) .L)) fun _ _=>by kernel_rfl
def Qn2 (p0:OA) (n1 n2:Int) (w:World) (R:RV):Prop:=
 alo #[.int .i64 n1,.int .i64 n2] Qbr w fun a3 w4=>
 ldI .i64 (a3.add 1) w4 fun n5=>
 bif (n5==(-1)) then (
 pt p0 fun a6=>
 ldI .i64 a6 w4.drew fun n7=>
 ldI .i64 a3 w4.drew fun n8=>
 R (.tuple #[.int .i64 (IntKind.wrap .i64 ((IntKind.wrap .i64 (2*n7))+n8)),.nilIface]) w4.drew) else (
 pt p0 fun a9=>
 ldP (a9.add 2) w4.drew fun p10=>
 ldI .i64 (a3.add 1) w4.drew fun n11=>
 Calls Pg Qce #[.pointer p10,.int .i64 n11] w4.drew fun e15 w14=>∃n12 v13,e15=.returned (.tuple #[.int .i64 n12,v13])∧
 R (.tuple #[.int .i64 n12,v13]) w14)
theorem Qrp (p0:OA) (n1 n2:Int):SH Qhd [.pointer p0,.agg #[.int .i64 n1,.int .i64 n2]] (Qn2 p0 n1 n2):=cdn Tryz.func123 (.s .L (.s (.s .L (.c (.s (.r (.t 0 10 .fin)) .L) .L)) (.s (.r (.t 0 3 (.tk 3 [6,7,8,9,10] [6] (.t 4 1 (.tk 5 [6,7,8,9,10] [6] (.one 6 (.t 7 4 .fin))))))) .L))) fun _ _=>by kernel_rfl
def Qoo (p0:OA) (n1:Int) (w:World) (R:RV):Prop:=
 pt p0 fun a2=>
 ldI .i64 a2 w fun n3=>
 R (.bool (decide (n1 ≥ (IntKind.wrap .i64 (2*n3))))) w
theorem Qso (p0:OA) (n1:Int):SH Qga [.pointer p0,.int .i64 n1] (Qoo p0 n1):=cdn Tryz.func125 (.s .L (.s .L .L)) fun _ _=>by kernel_rfl
end Go.Proofs.YtpmicakdjhoafaaGreatDoor
