/-
What each function does, as one formula, printed by a program of this session out of the translation; the kernel holds each print against the translation.
Conditions: none.
-/
import Derived.Test.YtpmicakdjhoafaaGreatDoorSn
set_option linter.unusedVariables false
namespace Go.Proofs.YtpmicakdjhoafaaGreatDoor
open Go
set_option maxRecDepth 100000
def Qmv (n0:Int) (w:World) (R:RV):Prop:=
 alo #[] Qbl w fun a1 w2=>
 ∃(I3:JP) (m4:JN),I3 [.slice (some a1) 0 0,.int .i64 0] w2∧
 ∀_:Env,∀s5b s5l s5c n6 w7,I3 [.slice s5b s5l s5c,.int .i64 n6] w7→
 bif (decide (n6<n0)) then (
 alo #[.int .i64 n6] Qbl w7 fun a8 w9=>
 ∃s10b s10l s10c w11,(Builtin.append_ #[Qam,Qam] Qam #[.slice s5b s5l s5c,.slice (some a8) 1 1]).run Pg w9=.ok (.slice s10b s10l s10c) w11∧
 (I3 [.slice s10b s10l s10c,.int .i64 (IntKind.wrap .i64 (n6+1))] w11∧m4 [.slice s10b s10l s10c,.int .i64 (IntKind.wrap .i64 (n6+1))] w11<m4 [.slice s5b s5l s5c,.int .i64 n6] w7)) else (
 R (.slice s5b s5l s5c) w7)
theorem Qqr (n0:Int):SH Qjc [.int .i64 n0] (Qmv n0):=cdn Tryz.func14 (.s .L (.s .L (.s (.s .L (.b (.o [3,4] [.one .slc,.one (.int .i64)] (.s (.s .L (.c .L .L)) (.s (.b .L) .L))))) (.s .L .L)))) fun _ _=>by kernel_rfl
def Qlo (s0b:OA) (s0l s0c:Nat) (n1 n2:Int) (w:World) (R:RV):Prop:=
 ixS s0b s0l n1 1 fun a3=>
 ldI .i64 a3 w.drew fun n4=>
 ixS s0b s0l n2 1 fun a5=>
 ldI .i64 a5 w.drew fun n6=>
 bif (n4==n6) then (
 R (.tuple #[.slice s0b s0l s0c,.bool false]) w.drew) else (
 ixS s0b s0l n1 1 fun a7=>
 ldI .i64 a7 w.drew.drew fun n8=>
 ixS s0b s0l n2 1 fun a9=>
 ldI .i64 a9 w.drew.drew fun n10=>
 ixS s0b s0l n1 1 fun a11=>
 ldI .i64 a11 w.drew.drew fun n12=>
 ixS s0b s0l n2 1 fun a13=>
 ldI .i64 a13 w.drew.drew fun n14=>
 ∃(I15:JP) (m16:JN),I15 [.slice none 0 0,.int .i64 0] w.drew.drew∧
 ∀_:Env,∀s17b s17l s17c n18 w19,I15 [.slice s17b s17l s17c,.int .i64 n18] w19→
 bif (decide (n18<(s0l:Int))) then (
 ixS s0b s0l n18 1 fun a20=>
 ldI .i64 a20 w19 fun n21=>
 bif (n21==(if n14>n12 then n14 else n12)) then (
 alo #[.int .i64 (if n10<n8 then n10 else n8)] Qbl w19 fun a22 w23=>
 ∃s24b s24l s24c w25,(Builtin.append_ #[Qam,Qam] Qam #[.slice s17b s17l s17c,.slice (some a22) 1 1]).run Pg w23=.ok (.slice s24b s24l s24c) w25∧
 (I15 [.slice s24b s24l s24c,.int .i64 (IntKind.wrap .i64 (n18+1))] w25∧m16 [.slice s24b s24l s24c,.int .i64 (IntKind.wrap .i64 (n18+1))] w25<m16 [.slice s17b s17l s17c,.int .i64 n18] w19)) else (
 ixS s0b s0l n18 1 fun a26=>
 ldI .i64 a26 w19 fun n27=>
 alo #[.int .i64 n27] Qbl w19 fun a28 w29=>
 ∃s30b s30l s30c w31,(Builtin.append_ #[Qam,Qam] Qam #[.slice s17b s17l s17c,.slice (some a28) 1 1]).run Pg w29=.ok (.slice s30b s30l s30c) w31∧
 (I15 [.slice s30b s30l s30c,.int .i64 (IntKind.wrap .i64 (n18+1))] w31∧m16 [.slice s30b s30l s30c,.int .i64 (IntKind.wrap .i64 (n18+1))] w31<m16 [.slice s17b s17l s17c,.int .i64 n18] w19))) else (
 R (.tuple #[.slice s17b s17l s17c,.bool true]) w19))
theorem Qpk (s0b:OA) (s0l s0c:Nat) (n1 n2:Int):SH Qih [.slice s0b s0l s0c,.int .i64 n1,.int .i64 n2] (Qlo s0b s0l s0c n1 n2):=cdn Tryz.func16 (.s .L (.s (.s (.r (.t 0 9 .fin)) (.c (.s .L .L) .L)) (.s (.r (.t 0 20 .fin)) (.s .L (.s (.s .L (.b (.o [10,11] [.one .slc,.one (.int .i64)] (.s (.s .L (.c .L .L)) (.s (.b (.s .L (.c .L .L))) .L))))) (.s .L .L)))))) fun _ _=>by kernel_rfl
def Qlh (n0:Int) (s1b:OA) (s1l s1c:Nat) (n2:Int) (w:World) (R:RV):Prop:=
 alo #[.int .i64 n0,.slice s1b s1l s1c] Qap w fun a3 w4=>
 alo #[.int .i64 n2] Qbl w4 fun a5 w6=>
 ∃(I7:JP) (m8:JN),I7 [.slice (some a5) 1 1,.int .i64 0] w6∧
 ∀_:Env,∀s9b s9l s9c n10 w11,I7 [.slice s9b s9l s9c,.int .i64 n10] w11→
 ldI .i64 a3 w11 fun n12=>
 bif (decide (n10<(IntKind.wrap .i64 (2*n12)))) then (
 Qad a3 w11.drew fun n13 s14b s14l s14c=>
 ixS s9b s9l (IntKind.wrap .i64 ((s9l:Int)-1)) 1 fun a15=>
 ldI .i64 a15 w11.drew fun n16=>
 Calls Pg Qif #[.agg #[.int .i64 n13,.slice s14b s14l s14c],.int .i64 n16] w11.drew fun e19 w18=>∃n17,e19=.returned (.int .i64 n17)∧
 bif (n17==n2) then (
 R (.slice s9b s9l s9c) w18) else (
 alo #[.int .i64 n17] Qbl w18 fun a20 w21=>
 ∃s22b s22l s22c w23,(Builtin.append_ #[Qam,Qam] Qam #[.slice s9b s9l s9c,.slice (some a20) 1 1]).run Pg w21=.ok (.slice s22b s22l s22c) w23∧
 (I7 [.slice s22b s22l s22c,.int .i64 (IntKind.wrap .i64 (n10+1))] w23∧m8 [.slice s22b s22l s22c,.int .i64 (IntKind.wrap .i64 (n10+1))] w23<m8 [.slice s9b s9l s9c,.int .i64 n10] w11))) else (
 R (.slice s9b s9l s9c) w11)
theorem Qpd (n0:Int) (s1b:OA) (s1l s1c:Nat) (n2:Int):SH Qf3 [.agg #[.int .i64 n0,.slice s1b s1l s1c],.int .i64 n2] (Qlh n0 s1b s1l s1c n2):=cdn Tryz.func58 (.s .L (.s .L (.s (.s .L (.b (.o [5,6] [.one .slc,.one (.int .i64)] (.s (.s .L (.c .L .L)) (.s (.b (.s (.r (.tk 0 [7,8] [7] (.t 1 5 (.tk 6 [7,8] [7] (.one 7 (.t 8 1 .fin)))))) (.s (.s .L (.c (.s .L .L) .L)) .L))) .L))))) (.s .L .L)))) fun _ _=>by kernel_rfl
def Qli (n0:Int) (s1b:OA) (s1l s1c:Nat) (n2 n3 n4 n5:Int) (w:World) (R:RV):Prop:=
 alo #[.int .i64 n0,.slice s1b s1l s1c] Qap w fun a6 w7=>
 alo #[.int .i64 n2,.int .i64 n3] Qat w7 fun a8 w9=>
 alo #[.int .i64 n4,.int .i64 n5] Qat w9 fun a10 w11=>
 Qad a6 w11.drew fun n12 s13b s13l s13c=>
 ldI .i64 a8 w11.drew fun n14=>
 ldI .i64 (a8.add 1) w11.drew fun n15=>
 Qad a6 w11.drew fun n16 s17b s17l s17c=>
 ldI .i64 a10 w11.drew fun n18=>
 ldI .i64 (a10.add 1) w11.drew fun n19=>
 Calls Pg Qhc #[.agg #[.int .i64 n12,.slice s13b s13l s13c],.agg #[.int .i64 n14,.int .i64 n15]] w11.drew fun e22 w21=>∃n20,e22=.returned (.int .i64 n20)∧
 w21.cell? a10=some (.int .i64 n18)∧w21.cell? (a10.add 1)=some (.int .i64 n19)∧kps w21 a6 0 [.int .i64 n16,.slice s17b s17l s17c] (
 Calls Pg Qhc #[.agg #[.int .i64 n16,.slice s17b s17l s17c],.agg #[.int .i64 n18,.int .i64 n19]] w21 fun e25 w24=>∃n23,e25=.returned (.int .i64 n23)∧
 ∃J26:JP,(
 bif (decide (n20<0)) then (
 bif (n20==n23) then (
 ixA a8 2 (0:Int) 1 fun a27=>
 ldI .i64 a27 w24 fun n28=>
 ixA a10 2 (0:Int) 1 fun a29=>
 ldI .i64 a29 w24 fun n30=>
 R (.bool (n28==n30)) w24) else (
 R (.bool false) w24)) else (
 bif (decide (n23<0)) then (
 bif (n20==n23) then (
 ixA a8 2 (0:Int) 1 fun a31=>
 ldI .i64 a31 w24 fun n32=>
 ixA a10 2 (0:Int) 1 fun a33=>
 ldI .i64 a33 w24 fun n34=>
 R (.bool (n32==n34)) w24) else (
 R (.bool false) w24)) else (
 J26 [] w24)))∧∀_:Env,∀w35,J26 [] w35→
 Qad a6 w35 fun n36 s37b s37l s37c=>
 Calls Pg Qf3 #[.agg #[.int .i64 n36,.slice s37b s37l s37c],.int .i64 n20] w35 fun e40 w39=>∃s38b s38l s38c,e40=.returned (.slice s38b s38l s38c)∧
 ∃(I41:JP) (m42:JN),I41 [.int .i64 0] w39∧
 ∀_:Env,∀n43 w44,I41 [.int .i64 n43] w44→
 bif (decide (n43<(s38l:Int))) then (
 ixS s38b s38l n43 1 fun a45=>
 ldI .i64 a45 w44 fun n46=>
 bif (n46==n23) then (
 R (.bool true) w44) else (
 (I41 [.int .i64 (IntKind.wrap .i64 (n43+1))] w44∧m42 [.int .i64 (IntKind.wrap .i64 (n43+1))] w44<m42 [.int .i64 n43] w44))) else (
 R (.bool false) w44))
theorem Qpe (n0:Int) (s1b:OA) (s1l s1c:Nat) (n2 n3 n4 n5:Int):SH Qie [.agg #[.int .i64 n0,.slice s1b s1l s1c],.agg #[.int .i64 n2,.int .i64 n3],.agg #[.int .i64 n4,.int .i64 n5]] (Qli n0 s1b s1l s1c n2 n3 n4 n5):=cdn Tryz.func93 (.s .L (.s (.r (.tk 0 [2,5,6,7] [2,5] (.tk 1 [2,5,6,7] [2,5] (.tk 3 [5,6,7] [5] (.tk 4 [5,6,7] [5] (.one 2 (.one 5 (.t 6 2 .fin)))))))) (.j [] [] (.s .L (.c (.s .L .L) .L)) (.s .L (.s (.s .L (.b (.o [10] [.one (.int .i64)] (.s (.s .L (.c .L .L)) (.s (.b (.s .L (.c (.s .L .L) .L))) .L))))) (.s .L .L)))))) fun _ _=>by kernel_rfl
def Qlj (n0:Int) (s1b:OA) (s1l s1c:Nat) (n2:Int) (w:World) (R:RV):Prop:=
 alo #[.int .i64 n0,.slice s1b s1l s1c] Qap w fun a3 w4=>
 (2:Int)≠0∧bif ((Int.tmod n2 (2:Int))==1) then (
 Qad a3 w4 fun n5 s6b s6l s6c=>
 Calls Pg Qeb #[.agg #[.int .i64 n5,.slice s6b s6l s6c],.int .i64 (IntKind.wrap .i64 (n2-1)),.int .i64 1] w4 fun e9 w8=>∃n7,e9=.returned (.int .i64 n7)∧
 R (.int .i64 n7) w8) else (
 Qad a3 w4 fun n10 s11b s11l s11c=>
 Calls Pg Qeb #[.agg #[.int .i64 n10,.slice s11b s11l s11c],.int .i64 (IntKind.wrap .i64 (n2+1)),.int .i64 1] w4 fun e14 w13=>∃n12,e14=.returned (.int .i64 n12)∧
 R (.int .i64 n12) w13)
theorem Qpf (n0:Int) (s1b:OA) (s1l s1c:Nat) (n2:Int):SH Qif [.agg #[.int .i64 n0,.slice s1b s1l s1c],.int .i64 n2] (Qlj n0 s1b s1l s1c n2):=cdn Tryz.func103 (.s .L (.s .L (.s (.s .L (.c .L .L)) (.s .L .L)))) fun _ _=>by kernel_rfl
def Qny (n0:Int) (s1b:OA) (s1l s1c:Nat) (n2 n3:Int) (w:World) (R:RV):Prop:=
 alo #[.int .i64 n0,.slice s1b s1l s1c] Qap w fun a4 w5=>
 alo #[.int .i64 n2,.int .i64 n3] Qat w5 fun a6 w7=>
 ixA a6 2 (1:Int) 1 fun a8=>
 ldI .i64 a8 w7 fun n9=>
 bif (n9==(-1)) then (
 R (.int .i64 (-1)) w7) else (
 Qad a4 w7 fun n10 s11b s11l s11c=>
 ixA a6 2 (1:Int) 1 fun a12=>
 ldI .i64 a12 w7 fun n13=>
 Calls Pg Qeb #[.agg #[.int .i64 n10,.slice s11b s11l s11c],.int .i64 n13,.int .i64 1] w7 fun e16 w15=>∃n14,e16=.returned (.int .i64 n14)∧
 R (.int .i64 n14) w15)
theorem Qrl (n0:Int) (s1b:OA) (s1l s1c:Nat) (n2 n3:Int):SH Qhc [.agg #[.int .i64 n0,.slice s1b s1l s1c],.agg #[.int .i64 n2,.int .i64 n3]] (Qny n0 s1b s1l s1c n2 n3):=cdn Tryz.func130 (.s .L (.s (.s .L (.c (.s .L .L) .L)) (.s .L .L))) fun _ _=>by kernel_rfl
def Qj4 (n0:Int) (s1b:OA) (s1l s1c:Nat) (w:World) (R:RV):Prop:=
 alo #[.int .i64 n0,.slice s1b s1l s1c] Qap w fun a2 w3=>
 ldS (a2.add 1) w3 fun s4b s4l s4c=>
 Calls Pg Qjc #[.int .i64 (s4l:Int)] w3 fun e7 w6=>∃s5b s5l s5c,e7=.returned (.slice s5b s5l s5c)∧
 Qad a2 w6 fun n8 s9b s9l s9c=>
 Calls Pg Qe8 #[.agg #[.int .i64 n8,.slice s9b s9l s9c]] w6 fun e12 w11=>∃s10b s10l s10c,e12=.returned (.slice s10b s10l s10c)∧
 ∃(I13:JP) (m14:JN),I13 [.slice s5b s5l s5c,.int .i64 0] w11∧
 ∀_:Env,∀s15b s15l s15c n16 w17,I13 [.slice s15b s15l s15c,.int .i64 n16] w17→
 bif (decide (n16<(s10l:Int))) then (
 ixS s10b s10l n16 1 fun a18=>
 ldI .i64 a18 w17 fun n19=>
 (2:Int)≠0∧bif ((Int.tmod n19 (2:Int))==0) then (
 Qad a2 w17.drew fun n20 s21b s21l s21c=>
 ixS s10b s10l n16 1 fun a22=>
 ldI .i64 a22 w17.drew fun n23=>
 Calls Pg Qau #[.agg #[.int .i64 n20,.slice s21b s21l s21c],.int .i64 n23] w17.drew fun e27 w26=>∃n24 n25,e27=.returned (.tuple #[.int .i64 n24,.int .i64 n25])∧
 Qad a2 w26.drew fun n28 s29b s29l s29c=>
 ixS s10b s10l n16 1 fun a30=>
 ldI .i64 a30 w26.drew fun n31=>
 Calls Pg Qau #[.agg #[.int .i64 n28,.slice s29b s29l s29c],.int .i64 (IntKind.wrap .i64 (n31+1))] w26.drew fun e35 w34=>∃n32 n33,e35=.returned (.tuple #[.int .i64 n32,.int .i64 n33])∧
 Calls Pg Qih #[.slice s15b s15l s15c,.int .i64 n24,.int .i64 n32] w34 fun e39 w38=>∃s36b s36l s36c b37,e39=.returned (.tuple #[.slice s36b s36l s36c,.bool b37])∧
 (I13 [.slice s36b s36l s36c,.int .i64 (IntKind.wrap .i64 (n16+1))] w38∧m14 [.slice s36b s36l s36c,.int .i64 (IntKind.wrap .i64 (n16+1))] w38<m14 [.slice s15b s15l s15c,.int .i64 n16] w17)) else (
 (I13 [.slice s15b s15l s15c,.int .i64 (IntKind.wrap .i64 (n16+1))] w17∧m14 [.slice s15b s15l s15c,.int .i64 (IntKind.wrap .i64 (n16+1))] w17<m14 [.slice s15b s15l s15c,.int .i64 n16] w17))) else (
 R (.slice s15b s15l s15c) w17)
theorem Qnp (n0:Int) (s1b:OA) (s1l s1c:Nat):SH Qg1 [.agg #[.int .i64 n0,.slice s1b s1l s1c]] (Qj4 n0 s1b s1l s1c):=cdn Tryz.func17 (.s .L (.s .L (.s .L (.s (.s .L (.b (.o [3,5] [.one .slc,.one (.int .i64)] (.s (.s .L (.c .L .L)) (.s (.b (.s .L (.c (.s (.r (.tk 0 [5,6,7,8,9,10] [5] (.t 1 3 (.tk 4 [5,6,7,8,9,10] [5] (.one 5 (.t 6 5 .fin)))))) (.s (.r (.tk 0 [6,7,8,9,10,11] [6] (.t 1 3 (.tk 4 [5,6,7,8,9,10,11] [6] (.t 5 1 (.one 6 (.t 7 5 .fin))))))) .L)) .L))) .L))))) (.s .L .L))))) fun _ _=>by kernel_rfl
def Qkm (n0:Int) (s1b:OA) (s1l s1c:Nat) (n2 n3 n4 n5:Int) (w:World) (R:RV):Prop:=
 alo #[.int .i64 n0,.slice s1b s1l s1c] Qap w fun a6 w7=>
 alo #[.int .i64 n2,.int .i64 n3] Qat w7 fun a8 w9=>
 alo #[.int .i64 n4,.int .i64 n5] Qat w9 fun a10 w11=>
 Qad a6 w11 fun n12 s13b s13l s13c=>
 Calls Pg Qg1 #[.agg #[.int .i64 n12,.slice s13b s13l s13c]] w11 fun e16 w15=>∃s14b s14l s14c,e16=.returned (.slice s14b s14l s14c)∧
 ixA a8 2 (0:Int) 1 fun a17=>
 ldI .i64 a17 w15.drew fun n18=>
 ixS s14b s14l n18 1 fun a19=>
 ldI .i64 a19 w15.drew fun n20=>
 ixA a10 2 (0:Int) 1 fun a21=>
 ldI .i64 a21 w15.drew fun n22=>
 ixS s14b s14l n22 1 fun a23=>
 ldI .i64 a23 w15.drew fun n24=>
 bif (n20 != n24) then (
 R (.bool true) w15.drew) else (
 Qad a6 w15.drew fun n25 s26b s26l s26c=>
 ldI .i64 a8 w15.drew fun n27=>
 ldI .i64 (a8.add 1) w15.drew fun n28=>
 ldI .i64 a10 w15.drew fun n29=>
 ldI .i64 (a10.add 1) w15.drew fun n30=>
 Calls Pg Qie #[.agg #[.int .i64 n25,.slice s26b s26l s26c],.agg #[.int .i64 n27,.int .i64 n28],.agg #[.int .i64 n29,.int .i64 n30]] w15.drew fun e33 w32=>∃b31,e33=.returned (.bool b31)∧
 R (.bool b31) w32)
theorem Qoe (n0:Int) (s1b:OA) (s1l s1c:Nat) (n2 n3 n4 n5:Int):SH Qhl [.agg #[.int .i64 n0,.slice s1b s1l s1c],.agg #[.int .i64 n2,.int .i64 n3],.agg #[.int .i64 n4,.int .i64 n5]] (Qkm n0 s1b s1l s1c n2 n3 n4 n5):=cdn Tryz.func45 (.s .L (.s .L (.s (.r (.t 0 2 (.tk 2 [3,4,10,11,12,13,14,15,16,17] [15] (.t 3 1 (.tk 4 [10,11,12,13,14,15,16,17] [15] (.t 5 2 (.tk 7 [8,9,10,11,12,13,14,15,16,17] [15] (.t 8 1 (.tk 9 [10,11,12,13,14,15,16,17] [15] (.t 10 2 (.tk 12 [15,16,17] [15] (.tk 13 [15,16,17] [15] (.tk 14 [15,16,17] [15] (.one 15 (.t 16 2 .fin))))))))))))))) .L))) fun _ _=>by kernel_rfl
def Qmr (n0:Int) (w:World) (R:RV):Prop:=
 alo #[.int .i64 0,.slice none 0 0,.int .i64 0,.slice none 0 0,.slice none 0 0] Qal w fun a1 w2=>
 (0≤n0∧n0≤n0∧(1:Int)*n0≤140737488355328∧alo (Qav #[(.bool false)] (Int.toNat n0)) Qna w2.drew fun a3 w4=>
 (Calls Pg Qcx #[.int .i64 n0,.int .i64 n0] w4 fun e8 w7=>∃n5 s6b s6l s6c,e8=.returned (.agg #[.int .i64 n5,.slice s6b s6l s6c])∧
 0≤n0∧n0≤n0∧(4:Int)*n0≤140737488355328∧alo (Qav #[(.int .i32 0)] (Int.toNat n0)) Qbb w7 fun a9 w10=>
 sts a1 0 [.int .i64 n0,.slice (some a3) (Int.toNat n0) (Int.toNat n0),.int .i64 n5,.slice s6b s6l s6c,.slice (some a9) (Int.toNat n0) (Int.toNat n0)] w10 fun w11=>
 Qaa a1 w11 fun n12 s13b s13l s13c n14 s15b s15l s15c s16b s16l s16c=>
 R (.agg #[.int .i64 n12,.slice s13b s13l s13c,.int .i64 n14,.slice s15b s15l s15c,.slice s16b s16l s16c]) w11)∧(
 0≤n0∧n0≤n0∧(4:Int)*n0≤140737488355328∧alo (Qav #[(.int .i32 0)] (Int.toNat n0)) Qbb w4 fun a17 w18=>
 Calls Pg Qcx #[.int .i64 n0,.int .i64 n0] w18 fun e22 w21=>∃n19 s20b s20l s20c,e22=.returned (.agg #[.int .i64 n19,.slice s20b s20l s20c])∧
 sts a1 0 [.int .i64 n0,.slice (some a3) (Int.toNat n0) (Int.toNat n0),.int .i64 n19,.slice s20b s20l s20c,.slice (some a17) (Int.toNat n0) (Int.toNat n0)] w21 fun w23=>
 Qaa a1 w23 fun n24 s25b s25l s25c n26 s27b s27l s27c s28b s28l s28c=>
 R (.agg #[.int .i64 n24,.slice s25b s25l s25c,.int .i64 n26,.slice s27b s27l s27c,.slice s28b s28l s28c]) w23))∧(
 Calls Pg Qcx #[.int .i64 n0,.int .i64 n0] w2.drew fun e32 w31=>∃n29 s30b s30l s30c,e32=.returned (.agg #[.int .i64 n29,.slice s30b s30l s30c])∧
 (0≤n0∧n0≤n0∧(1:Int)*n0≤140737488355328∧alo (Qav #[(.bool false)] (Int.toNat n0)) Qna w31 fun a33 w34=>
 0≤n0∧n0≤n0∧(4:Int)*n0≤140737488355328∧alo (Qav #[(.int .i32 0)] (Int.toNat n0)) Qbb w34 fun a35 w36=>
 sts a1 0 [.int .i64 n0,.slice (some a33) (Int.toNat n0) (Int.toNat n0),.int .i64 n29,.slice s30b s30l s30c,.slice (some a35) (Int.toNat n0) (Int.toNat n0)] w36 fun w37=>
 Qaa a1 w37 fun n38 s39b s39l s39c n40 s41b s41l s41c s42b s42l s42c=>
 R (.agg #[.int .i64 n38,.slice s39b s39l s39c,.int .i64 n40,.slice s41b s41l s41c,.slice s42b s42l s42c]) w37)∧(
 0≤n0∧n0≤n0∧(4:Int)*n0≤140737488355328∧alo (Qav #[(.int .i32 0)] (Int.toNat n0)) Qbb w31 fun a43 w44=>
 0≤n0∧n0≤n0∧(1:Int)*n0≤140737488355328∧alo (Qav #[(.bool false)] (Int.toNat n0)) Qna w44 fun a45 w46=>
 sts a1 0 [.int .i64 n0,.slice (some a45) (Int.toNat n0) (Int.toNat n0),.int .i64 n29,.slice s30b s30l s30c,.slice (some a43) (Int.toNat n0) (Int.toNat n0)] w46 fun w47=>
 Qaa a1 w47 fun n48 s49b s49l s49c n50 s51b s51l s51c s52b s52l s52c=>
 R (.agg #[.int .i64 n48,.slice s49b s49l s49c,.int .i64 n50,.slice s51b s51l s51c,.slice s52b s52l s52c]) w47))∧(
 0≤n0∧n0≤n0∧(4:Int)*n0≤140737488355328∧alo (Qav #[(.int .i32 0)] (Int.toNat n0)) Qbb w2.drew fun a53 w54=>
 (0≤n0∧n0≤n0∧(1:Int)*n0≤140737488355328∧alo (Qav #[(.bool false)] (Int.toNat n0)) Qna w54 fun a55 w56=>
 Calls Pg Qcx #[.int .i64 n0,.int .i64 n0] w56 fun e60 w59=>∃n57 s58b s58l s58c,e60=.returned (.agg #[.int .i64 n57,.slice s58b s58l s58c])∧
 sts a1 0 [.int .i64 n0,.slice (some a55) (Int.toNat n0) (Int.toNat n0),.int .i64 n57,.slice s58b s58l s58c,.slice (some a53) (Int.toNat n0) (Int.toNat n0)] w59 fun w61=>
 Qaa a1 w61 fun n62 s63b s63l s63c n64 s65b s65l s65c s66b s66l s66c=>
 R (.agg #[.int .i64 n62,.slice s63b s63l s63c,.int .i64 n64,.slice s65b s65l s65c,.slice s66b s66l s66c]) w61)∧(
 Calls Pg Qcx #[.int .i64 n0,.int .i64 n0] w54 fun e70 w69=>∃n67 s68b s68l s68c,e70=.returned (.agg #[.int .i64 n67,.slice s68b s68l s68c])∧
 0≤n0∧n0≤n0∧(1:Int)*n0≤140737488355328∧alo (Qav #[(.bool false)] (Int.toNat n0)) Qna w69 fun a71 w72=>
 sts a1 0 [.int .i64 n0,.slice (some a71) (Int.toNat n0) (Int.toNat n0),.int .i64 n67,.slice s68b s68l s68c,.slice (some a53) (Int.toNat n0) (Int.toNat n0)] w72 fun w73=>
 Qaa a1 w73 fun n74 s75b s75l s75c n76 s77b s77l s77c s78b s78l s78c=>
 R (.agg #[.int .i64 n74,.slice s75b s75l s75c,.int .i64 n76,.slice s77b s77l s77c,.slice s78b s78l s78c]) w73))
theorem Qqn (n0:Int):SH Qgs [.int .i64 n0] (Qmr n0):=cdnR Tryz.func10 (.s .L (.s (.r (.t 0 2 (.t 3 2 (.t 6 1 (.thr 2 (.two 5 (.one 7 (.t 8 1 (.one 9 .fin))) 7 (.one 5 (.t 8 1 (.one 9 .fin)))) 5 (.two 2 (.one 7 (.t 8 1 (.one 9 .fin))) 7 (.one 2 (.t 8 1 (.one 9 .fin)))) 7 (.two 2 (.one 5 (.t 8 1 (.one 9 .fin))) 5 (.one 2 (.t 8 1 (.one 9 .fin))))))))) .L)) fun _ _=>by kernel_rfl
def Qkl (n0:Int) (s1b:OA) (s1l s1c:Nat) (n2:Int) (s3b:OA) (s3l s3c:Nat) (s4b:OA) (s4l s4c:Nat) (n5 n6:Int) (w:World) (R:RV):Prop:=
 alo #[.int .i64 n0,.slice s1b s1l s1c,.int .i64 n2,.slice s3b s3l s3c,.slice s4b s4l s4c] Qal w fun a7 w8=>
 alo #[.int .i64 n5,.int .i64 n6] Qat w8 fun a9 w10=>
 Qaa a7 w10 fun n11 s12b s12l s12c n13 s14b s14l s14c s15b s15l s15c=>
 ixA a9 2 (0:Int) 1 fun a16=>
 ldI .i64 a16 w10 fun n17=>
 Calls Pg Qde #[.agg #[.int .i64 n11,.slice s12b s12l s12c,.int .i64 n13,.slice s14b s14l s14c,.slice s15b s15l s15c],.int .i64 n17] w10 fun e20 w19=>∃n18,e20=.returned (.int .i64 n18)∧
 bif (n18 != 0) then (
 R (.int .i64 n18) w19) else (
 Qad (a7.add 2) w19 fun n21 s22b s22l s22c=>
 ixA a9 2 (0:Int) 1 fun a23=>
 ldI .i64 a23 w19 fun n24=>
 ixA a9 2 (1:Int) 1 fun a25=>
 ldI .i64 a25 w19 fun n26=>
 Calls Pg Qdo #[.agg #[.int .i64 n21,.slice s22b s22l s22c],.int .i64 n24,.int .i64 n26] w19 fun e29 w28=>∃n27,e29=.returned (.int .i64 n27)∧
 R (.int .i64 n27) w28)
theorem Qod (n0:Int) (s1b:OA) (s1l s1c:Nat) (n2:Int) (s3b:OA) (s3l s3c:Nat) (s4b:OA) (s4l s4c:Nat) (n5 n6:Int):SH Qe6 [.agg #[.int .i64 n0,.slice s1b s1l s1c,.int .i64 n2,.slice s3b s3l s3c,.slice s4b s4l s4c],.agg #[.int .i64 n5,.int .i64 n6]] (Qkl n0 s1b s1l s1c n2 s3b s3l s3c s4b s4l s4c n5 n6):=cdn Tryz.func44 (.s .L (.s .L (.s (.s .L (.c (.s .L .L) .L)) (.s .L .L)))) fun _ _=>by kernel_rfl
def Qh4 (n0:Int) (s1b:OA) (s1l s1c:Nat) (n2:Int) (s3b:OA) (s3l s3c:Nat) (s4b:OA) (s4l s4c:Nat) (n5:Int) (w:World) (R:RV):Prop:=
 alo #[.int .i64 n0,.slice s1b s1l s1c,.int .i64 n2,.slice s3b s3l s3c,.slice s4b s4l s4c] Qal w fun a6 w7=>
 alo #[.int .i64 0,.slice none 0 0,.int .i64 0,.slice none 0 0,.slice none 0 0] Qal w7 fun a8 w9=>
 Qaa a6 w9 fun n10 s11b s11l s11c n12 s13b s13l s13c s14b s14l s14c=>
 Calls Pg Qde #[.agg #[.int .i64 n10,.slice s11b s11l s11c,.int .i64 n12,.slice s13b s13l s13c,.slice s14b s14l s14c],.int .i64 n5] w9 fun e17 w16=>∃n15,e17=.returned (.int .i64 n15)∧
 bif (n15==0) then (
 Qaa a6 w16 fun n18 s19b s19l s19c n20 s21b s21l s21c s22b s22l s22c=>
 sts a8 0 [.int .i64 n18,.slice s19b s19l s19c,.int .i64 n20,.slice s21b s21l s21c,.slice s22b s22l s22c] w16 fun w23=>
 Qaa a8 w23 fun n24 s25b s25l s25c n26 s27b s27l s27c s28b s28l s28c=>
 R (.tuple #[.agg #[.int .i64 n24,.slice s25b s25l s25c,.int .i64 n26,.slice s27b s27l s27c,.slice s28b s28l s28c],.int .i64 20]) w23) else (
 bif (n15==12) then (
 Qaa a6 w16 fun n29 s30b s30l s30c n31 s32b s32l s32c s33b s33l s33c=>
 sts a8 0 [.int .i64 n29,.slice s30b s30l s30c,.int .i64 n31,.slice s32b s32l s32c,.slice s33b s33l s33c] w16 fun w34=>
 Qaa a8 w34 fun n35 s36b s36l s36c n37 s38b s38l s38c s39b s39l s39c=>
 R (.tuple #[.agg #[.int .i64 n35,.slice s36b s36l s36c,.int .i64 n37,.slice s38b s38l s38c,.slice s39b s39l s39c],.int .i64 n15]) w34) else (
 ldS (a6.add 1) w16 fun s40b s40l s40c=>
 Calls Pg Qf2 #[.slice s40b s40l s40c,.int .i64 n5,.bool true] w16 fun e43 w42=>∃s41b s41l s41c,e43=.returned (.slice s41b s41l s41c)∧
 sto (a6.add 1) (.slice s41b s41l s41c) w42 fun w44=>
 Qaa a6 w44 fun n45 s46b s46l s46c n47 s48b s48l s48c s49b s49l s49c=>
 sts a8 0 [.int .i64 n45,.slice s46b s46l s46c,.int .i64 n47,.slice s48b s48l s48c,.slice s49b s49l s49c] w44 fun w50=>
 Qaa a8 w50 fun n51 s52b s52l s52c n53 s54b s54l s54c s55b s55l s55c=>
 R (.tuple #[.agg #[.int .i64 n51,.slice s52b s52l s52c,.int .i64 n53,.slice s54b s54l s54c,.slice s55b s55l s55c],.int .i64 0]) w50))
theorem Qk0 (n0:Int) (s1b:OA) (s1l s1c:Nat) (n2:Int) (s3b:OA) (s3l s3c:Nat) (s4b:OA) (s4l s4c:Nat) (n5:Int):SH Qe7 [.agg #[.int .i64 n0,.slice s1b s1l s1c,.int .i64 n2,.slice s3b s3l s3c,.slice s4b s4l s4c],.int .i64 n5] (Qh4 n0 s1b s1l s1c n2 s3b s3l s3c s4b s4l s4c n5):=cdnR Tryz.func52 (.s .L (.s .L (.s (.s .L (.c (.s .L .L) .L)) (.s (.s .L (.c (.s .L .L) .L)) (.s .L (.s .L .L)))))) fun _ _=>by kernel_rfl
def Qhs (n0:Int) (s1b:OA) (s1l s1c:Nat) (n2:Int) (s3b:OA) (s3l s3c:Nat) (s4b:OA) (s4l s4c:Nat) (n5:Int) (w:World) (R:RV):Prop:=
 alo #[.int .i64 n0,.slice s1b s1l s1c,.int .i64 n2,.slice s3b s3l s3c,.slice s4b s4l s4c] Qal w fun a6 w7=>
 alo #[.int .i64 0,.slice none 0 0,.int .i64 0,.slice none 0 0,.slice none 0 0] Qal w7 fun a8 w9=>
 Qaa a6 w9 fun n10 s11b s11l s11c n12 s13b s13l s13c s14b s14l s14c=>
 Calls Pg Qde #[.agg #[.int .i64 n10,.slice s11b s11l s11c,.int .i64 n12,.slice s13b s13l s13c,.slice s14b s14l s14c],.int .i64 n5] w9 fun e17 w16=>∃n15,e17=.returned (.int .i64 n15)∧
 bif (n15 != 0) then (
 Qaa a6 w16 fun n18 s19b s19l s19c n20 s21b s21l s21c s22b s22l s22c=>
 sts a8 0 [.int .i64 n18,.slice s19b s19l s19c,.int .i64 n20,.slice s21b s21l s21c,.slice s22b s22l s22c] w16 fun w23=>
 Qaa a8 w23 fun n24 s25b s25l s25c n26 s27b s27l s27c s28b s28l s28c=>
 R (.tuple #[.agg #[.int .i64 n24,.slice s25b s25l s25c,.int .i64 n26,.slice s27b s27l s27c,.slice s28b s28l s28c],.int .i64 n15]) w23) else (
 ldS ((a6.add 2).add 1) w16 fun s29b s29l s29c=>
 ixS s29b s29l n5 1 fun a30=>
 ldS a30 w16 fun s31b s31l s31c=>
 bif (decide ((s31l:Int)>0)) then (
 Qaa a6 w16 fun n32 s33b s33l s33c n34 s35b s35l s35c s36b s36l s36c=>
 sts a8 0 [.int .i64 n32,.slice s33b s33l s33c,.int .i64 n34,.slice s35b s35l s35c,.slice s36b s36l s36c] w16 fun w37=>
 Qaa a8 w37 fun n38 s39b s39l s39c n40 s41b s41l s41c s42b s42l s42c=>
 R (.tuple #[.agg #[.int .i64 n38,.slice s39b s39l s39c,.int .i64 n40,.slice s41b s41l s41c,.slice s42b s42l s42c],.int .i64 14]) w37) else (
 ldS (a6.add 1) w16 fun s43b s43l s43c=>
 Calls Pg Qf2 #[.slice s43b s43l s43c,.int .i64 n5,.bool false] w16 fun e46 w45=>∃s44b s44l s44c,e46=.returned (.slice s44b s44l s44c)∧
 sto (a6.add 1) (.slice s44b s44l s44c) w45 fun w47=>
 Qaa a6 w47 fun n48 s49b s49l s49c n50 s51b s51l s51c s52b s52l s52c=>
 sts a8 0 [.int .i64 n48,.slice s49b s49l s49c,.int .i64 n50,.slice s51b s51l s51c,.slice s52b s52l s52c] w47 fun w53=>
 Qaa a8 w53 fun n54 s55b s55l s55c n56 s57b s57l s57c s58b s58l s58c=>
 R (.tuple #[.agg #[.int .i64 n54,.slice s55b s55l s55c,.int .i64 n56,.slice s57b s57l s57c,.slice s58b s58l s58c],.int .i64 0]) w53))
theorem Qkw (n0:Int) (s1b:OA) (s1l s1c:Nat) (n2:Int) (s3b:OA) (s3l s3c:Nat) (s4b:OA) (s4l s4c:Nat) (n5:Int):SH Qey [.agg #[.int .i64 n0,.slice s1b s1l s1c,.int .i64 n2,.slice s3b s3l s3c,.slice s4b s4l s4c],.int .i64 n5] (Qhs n0 s1b s1l s1c n2 s3b s3l s3c s4b s4l s4c n5):=cdnR Tryz.func53 (.s .L (.s .L (.s (.s .L (.c (.s .L .L) .L)) (.s (.s .L (.c (.s .L .L) .L)) (.s .L (.s .L .L)))))) fun _ _=>by kernel_rfl
def Qlf (n0:Int) (s1b:OA) (s1l s1c:Nat) (n2:Int) (s3b:OA) (s3l s3c:Nat) (s4b:OA) (s4l s4c:Nat) (n5 n6 n7 n8 n9 n10:Int) (w:World) (R:RV):Prop:=
 alo #[.int .i64 n0,.slice s1b s1l s1c,.int .i64 n2,.slice s3b s3l s3c,.slice s4b s4l s4c] Qal w fun a11 w12=>
 alo #[.int .i64 n6,.int .i64 n7] Qat w12 fun a13 w14=>
 alo #[.int .i64 n8,.int .i64 n9] Qat w14 fun a15 w16=>
 alo #[.int .i64 0,.slice none 0 0,.int .i64 0,.slice none 0 0,.slice none 0 0] Qal w16 fun a17 w18=>
 Qaa a11 w18 fun n19 s20b s20l s20c n21 s22b s22l s22c s23b s23l s23c=>
 Calls Pg Qea #[.agg #[.int .i64 n19,.slice s20b s20l s20c,.int .i64 n21,.slice s22b s22l s22c,.slice s23b s23l s23c],.int .i64 n5] w18 fun e26 w25=>∃n24,e26=.returned (.int .i64 n24)∧
 bif (n24==0) then (
 Qaa a11 w25 fun n27 s28b s28l s28c n29 s30b s30l s30c s31b s31l s31c=>
 sts a17 0 [.int .i64 n27,.slice s28b s28l s28c,.int .i64 n29,.slice s30b s30l s30c,.slice s31b s31l s31c] w25 fun w32=>
 Qaa a17 w32 fun n33 s34b s34l s34c n35 s36b s36l s36c s37b s37l s37c=>
 R (.tuple #[.agg #[.int .i64 n33,.slice s34b s34l s34c,.int .i64 n35,.slice s36b s36l s36c,.slice s37b s37l s37c],.int .i64 20]) w32) else (
 bif (n24==12) then (
 Qaa a11 w25 fun n38 s39b s39l s39c n40 s41b s41l s41c s42b s42l s42c=>
 sts a17 0 [.int .i64 n38,.slice s39b s39l s39c,.int .i64 n40,.slice s41b s41l s41c,.slice s42b s42l s42c] w25 fun w43=>
 Qaa a17 w43 fun n44 s45b s45l s45c n46 s47b s47l s47c s48b s48l s48c=>
 R (.tuple #[.agg #[.int .i64 n44,.slice s45b s45l s45c,.int .i64 n46,.slice s47b s47l s47c,.slice s48b s48l s48c],.int .i64 n24]) w43) else (
 Qaa a11 w25 fun n49 s50b s50l s50c n51 s52b s52l s52c s53b s53l s53c=>
 ldI .i64 a13 w25 fun n54=>
 ldI .i64 (a13.add 1) w25 fun n55=>
 Calls Pg Qe6 #[.agg #[.int .i64 n49,.slice s50b s50l s50c,.int .i64 n51,.slice s52b s52l s52c,.slice s53b s53l s53c],.agg #[.int .i64 n54,.int .i64 n55]] w25 fun e58 w57=>∃n56,e58=.returned (.int .i64 n56)∧
 ∃J59:JP,(
 bif (n56==0) then (
 Qaa a11 w57 fun n60 s61b s61l s61c n62 s63b s63l s63c s64b s64l s64c=>
 ldI .i64 a15 w57 fun n65=>
 ldI .i64 (a15.add 1) w57 fun n66=>
 Calls Pg Qe6 #[.agg #[.int .i64 n60,.slice s61b s61l s61c,.int .i64 n62,.slice s63b s63l s63c,.slice s64b s64l s64c],.agg #[.int .i64 n65,.int .i64 n66]] w57 fun e69 w68=>∃n67,e69=.returned (.int .i64 n67)∧
 J59 [.int .i64 n67] w68) else (
 J59 [.int .i64 n56] w57))∧∀_:Env,∀n70 w71,J59 [.int .i64 n70] w71→
 bif (n70 != 0) then (
 Qaa a11 w71 fun n72 s73b s73l s73c n74 s75b s75l s75c s76b s76l s76c=>
 sts a17 0 [.int .i64 n72,.slice s73b s73l s73c,.int .i64 n74,.slice s75b s75l s75c,.slice s76b s76l s76c] w71 fun w77=>
 Qaa a17 w77 fun n78 s79b s79l s79c n80 s81b s81l s81c s82b s82l s82c=>
 R (.tuple #[.agg #[.int .i64 n78,.slice s79b s79l s79c,.int .i64 n80,.slice s81b s81l s81c,.slice s82b s82l s82c],.int .i64 n70]) w77) else (
 Qad (a11.add 2) w71 fun n83 s84b s84l s84c=>
 ldI .i64 a13 w71 fun n85=>
 ldI .i64 (a13.add 1) w71 fun n86=>
 ldI .i64 a15 w71 fun n87=>
 ldI .i64 (a15.add 1) w71 fun n88=>
 Calls Pg Qhl #[.agg #[.int .i64 n83,.slice s84b s84l s84c],.agg #[.int .i64 n85,.int .i64 n86],.agg #[.int .i64 n87,.int .i64 n88]] w71 fun e91 w90=>∃b89,e91=.returned (.bool b89)∧
 bif (!b89) then (
 Qaa a11 w90 fun n92 s93b s93l s93c n94 s95b s95l s95c s96b s96l s96c=>
 sts a17 0 [.int .i64 n92,.slice s93b s93l s93c,.int .i64 n94,.slice s95b s95l s95c,.slice s96b s96l s96c] w90 fun w97=>
 Qaa a17 w97 fun n98 s99b s99l s99c n100 s101b s101l s101c s102b s102l s102c=>
 R (.tuple #[.agg #[.int .i64 n98,.slice s99b s99l s99c,.int .i64 n100,.slice s101b s101l s101c,.slice s102b s102l s102c],.int .i64 15]) w97) else (
 Qad (a11.add 2) w90 fun n103 s104b s104l s104c=>
 ldI .i64 a13 w90 fun n105=>
 ldI .i64 (a13.add 1) w90 fun n106=>
 ldI .i64 a15 w90 fun n107=>
 ldI .i64 (a15.add 1) w90 fun n108=>
 Calls Pg Qjb #[.agg #[.int .i64 n103,.slice s104b s104l s104c],.int .i64 n5,.agg #[.int .i64 n105,.int .i64 n106],.agg #[.int .i64 n107,.int .i64 n108]] w90 fun e113 w112=>∃n109 s110b s110l s110c n111,e113=.returned (.tuple #[.agg #[.int .i64 n109,.slice s110b s110l s110c],.int .i64 n111])∧
 sts (a11.add 2) 0 [.int .i64 n109,.slice s110b s110l s110c] w112 fun w114=>
 Qaa a11 w114 fun n115 s116b s116l s116c n117 s118b s118l s118c s119b s119l s119c=>
 Calls Pg Qd9 #[.agg #[.int .i64 n115,.slice s116b s116l s116c,.int .i64 n117,.slice s118b s118l s118c,.slice s119b s119l s119c],.int .i64 n5,.int .i32 n10] w114 fun e126 w125=>∃n120 s121b s121l s121c n122 s123b s123l s123c s124b s124l s124c,e126=.returned (.agg #[.int .i64 n120,.slice s121b s121l s121c,.int .i64 n122,.slice s123b s123l s123c,.slice s124b s124l s124c])∧
 sts a17 0 [.int .i64 n120,.slice s121b s121l s121c,.int .i64 n122,.slice s123b s123l s123c,.slice s124b s124l s124c] w125 fun w127=>
 Qaa a17 w127 fun n128 s129b s129l s129c n130 s131b s131l s131c s132b s132l s132c=>
 R (.tuple #[.agg #[.int .i64 n128,.slice s129b s129l s129c,.int .i64 n130,.slice s131b s131l s131c,.slice s132b s132l s132c],.int .i64 0]) w127))))
theorem Qpb (n0:Int) (s1b:OA) (s1l s1c:Nat) (n2:Int) (s3b:OA) (s3l s3c:Nat) (s4b:OA) (s4l s4c:Nat) (n5 n6 n7 n8 n9 n10:Int):SH Qid [.agg #[.int .i64 n0,.slice s1b s1l s1c,.int .i64 n2,.slice s3b s3l s3c,.slice s4b s4l s4c],.int .i64 n5,.agg #[.int .i64 n6,.int .i64 n7],.agg #[.int .i64 n8,.int .i64 n9],.int .i32 n10] (Qlf n0 s1b s1l s1c n2 s3b s3l s3c s4b s4l s4c n5 n6 n7 n8 n9 n10):=cdnR Tryz.func54 (.s .L (.s .L (.s (.s .L (.c (.s .L .L) .L)) (.s (.s .L (.c (.s .L .L) .L)) (.s .L (.j [12] [.one (.int .i64)] (.s .L (.c .L .L)) (.s (.s .L (.c (.s .L .L) .L)) (.s (.s .L (.c (.s .L .L) .L)) (.s .L (.s .L .L)))))))))) fun _ _=>by kernel_rfl
def Qle (n0:Int) (s1b:OA) (s1l s1c:Nat) (n2:Int) (s3b:OA) (s3l s3c:Nat) (s4b:OA) (s4l s4c:Nat) (n5:Int) (w:World) (R:RV):Prop:=
 alo #[.int .i64 n0,.slice s1b s1l s1c,.int .i64 n2,.slice s3b s3l s3c,.slice s4b s4l s4c] Qal w fun a6 w7=>
 alo #[.int .i64 0,.slice none 0 0,.int .i64 0,.slice none 0 0,.slice none 0 0] Qal w7 fun a8 w9=>
 Qaa a6 w9 fun n10 s11b s11l s11c n12 s13b s13l s13c s14b s14l s14c=>
 Calls Pg Qea #[.agg #[.int .i64 n10,.slice s11b s11l s11c,.int .i64 n12,.slice s13b s13l s13c,.slice s14b s14l s14c],.int .i64 n5] w9 fun e17 w16=>∃n15,e17=.returned (.int .i64 n15)∧
 bif (n15 != 0) then (
 Qaa a6 w16 fun n18 s19b s19l s19c n20 s21b s21l s21c s22b s22l s22c=>
 sts a8 0 [.int .i64 n18,.slice s19b s19l s19c,.int .i64 n20,.slice s21b s21l s21c,.slice s22b s22l s22c] w16 fun w23=>
 Qaa a8 w23 fun n24 s25b s25l s25c n26 s27b s27l s27c s28b s28l s28c=>
 R (.tuple #[.agg #[.int .i64 n24,.slice s25b s25l s25c,.int .i64 n26,.slice s27b s27l s27c,.slice s28b s28l s28c],.int .i64 n15]) w23) else (
 Qad (a6.add 2) w16 fun n29 s30b s30l s30c=>
 Calls Pg Qig #[.agg #[.int .i64 n29,.slice s30b s30l s30c],.int .i64 n5] w16 fun e35 w34=>∃n31 s32b s32l s32c n33,e35=.returned (.tuple #[.agg #[.int .i64 n31,.slice s32b s32l s32c],.int .i64 n33])∧
 sts (a6.add 2) 0 [.int .i64 n31,.slice s32b s32l s32c] w34 fun w36=>
 Qaa a6 w36 fun n37 s38b s38l s38c n39 s40b s40l s40c s41b s41l s41c=>
 sts a8 0 [.int .i64 n37,.slice s38b s38l s38c,.int .i64 n39,.slice s40b s40l s40c,.slice s41b s41l s41c] w36 fun w42=>
 Qaa a8 w42 fun n43 s44b s44l s44c n45 s46b s46l s46c s47b s47l s47c=>
 R (.tuple #[.agg #[.int .i64 n43,.slice s44b s44l s44c,.int .i64 n45,.slice s46b s46l s46c,.slice s47b s47l s47c],.int .i64 0]) w42)
theorem Qpa (n0:Int) (s1b:OA) (s1l s1c:Nat) (n2:Int) (s3b:OA) (s3l s3c:Nat) (s4b:OA) (s4l s4c:Nat) (n5:Int):SH Qic [.agg #[.int .i64 n0,.slice s1b s1l s1c,.int .i64 n2,.slice s3b s3l s3c,.slice s4b s4l s4c],.int .i64 n5] (Qle n0 s1b s1l s1c n2 s3b s3l s3c s4b s4l s4c n5):=cdnR Tryz.func55 (.s .L (.s .L (.s (.s .L (.c (.s .L .L) .L)) (.s .L (.s .L .L))))) fun _ _=>by kernel_rfl
def Qkk (n0:Int) (s1b:OA) (s1l s1c:Nat) (n2:Int) (s3b:OA) (s3l s3c:Nat) (s4b:OA) (s4l s4c:Nat) (n5 n6:Int) (w:World) (R:RV):Prop:=
 alo #[.int .i64 n0,.slice s1b s1l s1c,.int .i64 n2,.slice s3b s3l s3c,.slice s4b s4l s4c] Qal w fun a7 w8=>
 alo #[.int .i64 0,.slice none 0 0,.int .i64 0,.slice none 0 0,.slice none 0 0] Qal w8 fun a9 w10=>
 Qaa a7 w10 fun n11 s12b s12l s12c n13 s14b s14l s14c s15b s15l s15c=>
 Calls Pg Qea #[.agg #[.int .i64 n11,.slice s12b s12l s12c,.int .i64 n13,.slice s14b s14l s14c,.slice s15b s15l s15c],.int .i64 n5] w10 fun e18 w17=>∃n16,e18=.returned (.int .i64 n16)∧
 bif (n16 != 0) then (
 Qaa a7 w17 fun n19 s20b s20l s20c n21 s22b s22l s22c s23b s23l s23c=>
 sts a9 0 [.int .i64 n19,.slice s20b s20l s20c,.int .i64 n21,.slice s22b s22l s22c,.slice s23b s23l s23c] w17 fun w24=>
 Qaa a9 w24 fun n25 s26b s26l s26c n27 s28b s28l s28c s29b s29l s29c=>
 R (.tuple #[.agg #[.int .i64 n25,.slice s26b s26l s26c,.int .i64 n27,.slice s28b s28l s28c,.slice s29b s29l s29c],.int .i64 n16]) w24) else (
 Qaa a7 w17 fun n30 s31b s31l s31c n32 s33b s33l s33c s34b s34l s34c=>
 Calls Pg Qd9 #[.agg #[.int .i64 n30,.slice s31b s31l s31c,.int .i64 n32,.slice s33b s33l s33c,.slice s34b s34l s34c],.int .i64 n5,.int .i32 n6] w17 fun e41 w40=>∃n35 s36b s36l s36c n37 s38b s38l s38c s39b s39l s39c,e41=.returned (.agg #[.int .i64 n35,.slice s36b s36l s36c,.int .i64 n37,.slice s38b s38l s38c,.slice s39b s39l s39c])∧
 sts a9 0 [.int .i64 n35,.slice s36b s36l s36c,.int .i64 n37,.slice s38b s38l s38c,.slice s39b s39l s39c] w40 fun w42=>
 Qaa a9 w42 fun n43 s44b s44l s44c n45 s46b s46l s46c s47b s47l s47c=>
 R (.tuple #[.agg #[.int .i64 n43,.slice s44b s44l s44c,.int .i64 n45,.slice s46b s46l s46c,.slice s47b s47l s47c],.int .i64 0]) w42)
theorem Qoc (n0:Int) (s1b:OA) (s1l s1c:Nat) (n2:Int) (s3b:OA) (s3l s3c:Nat) (s4b:OA) (s4l s4c:Nat) (n5 n6:Int):SH Qhk [.agg #[.int .i64 n0,.slice s1b s1l s1c,.int .i64 n2,.slice s3b s3l s3c,.slice s4b s4l s4c],.int .i64 n5,.int .i32 n6] (Qkk n0 s1b s1l s1c n2 s3b s3l s3c s4b s4l s4c n5 n6):=cdnR Tryz.func56 (.s .L (.s .L (.s (.s .L (.c (.s .L .L) .L)) (.s .L .L)))) fun _ _=>by kernel_rfl
def Qiu (n0:Int) (s1b:OA) (s1l s1c:Nat) (n2:Int) (s3b:OA) (s3l s3c:Nat) (s4b:OA) (s4l s4c:Nat) (w:World) (R:RV):Prop:=
 alo #[.int .i64 n0,.slice s1b s1l s1c,.int .i64 n2,.slice s3b s3l s3c,.slice s4b s4l s4c] Qal w fun a5 w6=>
 ∃(I7:JP) (m8:JN),I7 [.slice none 0 0,.int .i64 0] w6∧
 ∀_:Env,∀s9b s9l s9c n10 w11,I7 [.slice s9b s9l s9c,.int .i64 n10] w11→
 ldI .i64 a5 w11 fun n12=>
 bif (decide (n10<n12)) then (
 ldS (a5.add 1) w11 fun s13b s13l s13c=>
 ixS s13b s13l n10 1 fun a14=>
 ldB a14 w11 fun b15=>
 bif b15 then (
 alo #[.int .i64 n10] Qbl w11 fun a16 w17=>
 ∃s18b s18l s18c w19,(Builtin.append_ #[Qam,Qam] Qam #[.slice s9b s9l s9c,.slice (some a16) 1 1]).run Pg w17=.ok (.slice s18b s18l s18c) w19∧
 (I7 [.slice s18b s18l s18c,.int .i64 (IntKind.wrap .i64 (n10+1))] w19∧m8 [.slice s18b s18l s18c,.int .i64 (IntKind.wrap .i64 (n10+1))] w19<m8 [.slice s9b s9l s9c,.int .i64 n10] w11)) else (
 (I7 [.slice s9b s9l s9c,.int .i64 (IntKind.wrap .i64 (n10+1))] w11∧m8 [.slice s9b s9l s9c,.int .i64 (IntKind.wrap .i64 (n10+1))] w11<m8 [.slice s9b s9l s9c,.int .i64 n10] w11))) else (
 R (.slice s9b s9l s9c) w11)
theorem Qmk (n0:Int) (s1b:OA) (s1l s1c:Nat) (n2:Int) (s3b:OA) (s3l s3c:Nat) (s4b:OA) (s4l s4c:Nat):SH Qfl [.agg #[.int .i64 n0,.slice s1b s1l s1c,.int .i64 n2,.slice s3b s3l s3c,.slice s4b s4l s4c]] (Qiu n0 s1b s1l s1c n2 s3b s3l s3c s4b s4l s4c):=cdn Tryz.func74 (.s .L (.s .L (.s (.s .L (.b (.o [3,4] [.one .slc,.one (.int .i64)] (.s (.s .L (.c .L .L)) (.s (.b (.s .L (.c .L .L))) .L))))) (.s .L .L)))) fun _ _=>by kernel_rfl
def Qj3 (n0:Int) (s1b:OA) (s1l s1c:Nat) (n2:Int) (s3b:OA) (s3l s3c:Nat) (s4b:OA) (s4l s4c:Nat) (n5:Int) (w:World) (R:RV):Prop:=
 alo #[.int .i64 n0,.slice s1b s1l s1c,.int .i64 n2,.slice s3b s3l s3c,.slice s4b s4l s4c] Qal w fun a6 w7=>
 bif (decide (n5<0)) then (
 R (.int .i64 12) w7) else (
 ldI .i64 a6 w7 fun n8=>
 bif (decide (n5 ≥ n8)) then (
 R (.int .i64 12) w7) else (
 ldS (a6.add 1) w7 fun s9b s9l s9c=>
 ixS s9b s9l n5 1 fun a10=>
 ldB a10 w7 fun b11=>
 bif (!b11) then (
 R (.int .i64 13) w7) else (
 R (.int .i64 0) w7)))
theorem Qno (n0:Int) (s1b:OA) (s1l s1c:Nat) (n2:Int) (s3b:OA) (s3l s3c:Nat) (s4b:OA) (s4l s4c:Nat) (n5:Int):SH Qde [.agg #[.int .i64 n0,.slice s1b s1l s1c,.int .i64 n2,.slice s3b s3l s3c,.slice s4b s4l s4c],.int .i64 n5] (Qj3 n0 s1b s1l s1c n2 s3b s3l s3c s4b s4l s4c n5):=cdn Tryz.func91 (.s .L (.s (.s .L (.c (.s .L .L) .L)) (.s (.s .L (.c (.s .L .L) .L)) (.s .L .L)))) fun _ _=>by kernel_rfl
def Qld (s0b:OA) (s0l s0c:Nat) (n1:Int) (b2:Bool) (w:World) (R:RV):Prop:=
 ∃s3b s3l s3c w4,(Builtin.append_ #[Qjs,Qjs] Qjs #[.slice none 0 0,.slice s0b s0l s0c]).run Pg w=.ok (.slice s3b s3l s3c) w4∧
 ixS s3b s3l n1 1 fun a5=>
 sto a5 (.bool b2) w4 fun w6=>
 R (.slice s3b s3l s3c) w6
theorem Qo9 (s0b:OA) (s0l s0c:Nat) (n1:Int) (b2:Bool):SH Qf2 [.slice s0b s0l s0c,.int .i64 n1,.bool b2] (Qld s0b s0l s0c n1 b2):=cdn Tryz.func98 (.s .L (.s .L (.s .L (.s .L (.s .L .L))))) fun _ _=>by kernel_rfl
def Qlg (n0:Int) (s1b:OA) (s1l s1c:Nat) (n2:Int) (s3b:OA) (s3l s3c:Nat) (s4b:OA) (s4l s4c:Nat) (n5:Int) (w:World) (R:RV):Prop:=
 alo #[.int .i64 n0,.slice s1b s1l s1c,.int .i64 n2,.slice s3b s3l s3c,.slice s4b s4l s4c] Qal w fun a6 w7=>
 bif (decide (n5<0)) then (
 R (.int .i64 12) w7) else (
 ldI .i64 a6 w7 fun n8=>
 bif (decide (n5 ≥ n8)) then (
 R (.int .i64 12) w7) else (
 Qad (a6.add 2) w7 fun n9 s10b s10l s10c=>
 Calls Pg Qau #[.agg #[.int .i64 n9,.slice s10b s10l s10c],.int .i64 (IntKind.wrap .i64 (2*n5))] w7 fun e14 w13=>∃n11 n12,e14=.returned (.tuple #[.int .i64 n11,.int .i64 n12])∧
 bif (decide (n11<0)) then (
 R (.int .i64 13) w13) else (
 R (.int .i64 0) w13)))
theorem Qpc (n0:Int) (s1b:OA) (s1l s1c:Nat) (n2:Int) (s3b:OA) (s3l s3c:Nat) (s4b:OA) (s4l s4c:Nat) (n5:Int):SH Qea [.agg #[.int .i64 n0,.slice s1b s1l s1c,.int .i64 n2,.slice s3b s3l s3c,.slice s4b s4l s4c],.int .i64 n5] (Qlg n0 s1b s1l s1c n2 s3b s3l s3c s4b s4l s4c n5):=cdn Tryz.func99 (.s .L (.s (.s .L (.c (.s .L .L) .L)) (.s .L (.s (.s .L (.c (.s .L .L) .L)) (.s .L .L))))) fun _ _=>by kernel_rfl
def Qjg (n0:Int) (s1b:OA) (s1l s1c:Nat) (n2:Int) (s3b:OA) (s3l s3c:Nat) (s4b:OA) (s4l s4c:Nat) (n5 n6:Int) (w:World) (R:RV):Prop:=
 alo #[.int .i64 n0,.slice s1b s1l s1c,.int .i64 n2,.slice s3b s3l s3c,.slice s4b s4l s4c] Qal w fun a7 w8=>
 alo #[.int .i64 0,.slice none 0 0,.int .i64 0,.slice none 0 0,.slice none 0 0] Qal w8 fun a9 w10=>
 ldS (a7.add 4) w10 fun s11b s11l s11c=>
 ∃s12b s12l s12c w13,(Builtin.append_ #[Qbo,Qbo] Qbo #[.slice none 0 0,.slice s11b s11l s11c]).run Pg w10=.ok (.slice s12b s12l s12c) w13∧
 ixS s12b s12l n5 1 fun a14=>
 sto a14 (.int .i32 n6) w13 fun w15=>
 sto (a7.add 4) (.slice s12b s12l s12c) w15 fun w16=>
 Qaa a7 w16 fun n17 s18b s18l s18c n19 s20b s20l s20c s21b s21l s21c=>
 sts a9 0 [.int .i64 n17,.slice s18b s18l s18c,.int .i64 n19,.slice s20b s20l s20c,.slice s21b s21l s21c] w16 fun w22=>
 Qaa a9 w22 fun n23 s24b s24l s24c n25 s26b s26l s26c s27b s27l s27c=>
 R (.agg #[.int .i64 n23,.slice s24b s24l s24c,.int .i64 n25,.slice s26b s26l s26c,.slice s27b s27l s27c]) w22
theorem Qm7 (n0:Int) (s1b:OA) (s1l s1c:Nat) (n2:Int) (s3b:OA) (s3l s3c:Nat) (s4b:OA) (s4l s4c:Nat) (n5 n6:Int):SH Qd9 [.agg #[.int .i64 n0,.slice s1b s1l s1c,.int .i64 n2,.slice s3b s3l s3c,.slice s4b s4l s4c],.int .i64 n5,.int .i32 n6] (Qjg n0 s1b s1l s1c n2 s3b s3l s3c s4b s4l s4c n5 n6):=cdnR Tryz.func101 (.s .L (.s .L (.s .L (.s .L (.s .L (.s .L .L)))))) fun _ _=>by kernel_rfl
end Go.Proofs.YtpmicakdjhoafaaGreatDoor
