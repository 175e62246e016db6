/-
What each function does, as one formula, printed by a program of this session out of the translation; the kernel holds each print against the translation.
Conditions: none.
-/
import Derived.Test.YtpmicakdjhoafaaGreatDoorSn
set_option linter.unusedVariables false
namespace Go.Proofs.YtpmicakdjhoafaaGreatDoor
open Go
set_option maxRecDepth 100000
def Qu3 (w:World) (R:RV):Prop:=
 R (.int .i64 (-9223372036854775808)) w
theorem Qtd:SH Qq2 [] (Qu3):=cdn Tryz.func50 (.s .L (.s .L .L)) fun _ _=>by kernel_rfl
def Qt9 (n0:Int) (w:World) (R:RV):Prop:=
 0≤(20:Int)∧R (.int .i32 (IntKind.wrap .i32 (Int.fdiv n0 (2 ^ (min (Int.toNat (20:Int)) (IntKind.bits .i64)))))) w
theorem Qsl (n0:Int):SH Qf9 [.int .i64 n0] (Qt9 n0):=cdn Tryz.func68 (.s .L (.s .L .L)) fun _ _=>by kernel_rfl
def Qtj (n0 n1:Int) (w:World) (R:RV):Prop:=
 bif (decide (n1<0)) then (
 R (.tuple #[.int .i64 0,.iface Qah (.int .i64 12)]) w) else (
 bif (decide (n1 ≥ 1048576)) then (
 R (.tuple #[.int .i64 0,.iface Qah (.int .i64 12)]) w) else (
 0≤(20:Int)∧R (.tuple #[.int .i64 (IntKind.wrap .i64 ((IntKind.wrap .i64 ((IntKind.wrap .i64 n0)*2 ^ (min (Int.toNat (20:Int)) (IntKind.bits .i64))))+n1)),.nilIface]) w))
theorem Quv (n0 n1:Int):SH Ql9 [.int .i32 n0,.int .i64 n1] (Qtj n0 n1):=cdn Tryz.func69 (.s .L (.s (.s .L (.c (.s .L .L) .L)) (.s .L .L))) fun _ _=>by kernel_rfl
def Qt8 (n0 n1:Int) (w:World) (R:RV):Prop:=
 ∃J2:JP,(
 bif (decide (n0<1)) then (
 R (.tuple #[.pointer none,.iface Qah (.int .i64 1)]) w) else (
 bif (decide (n0>1048576)) then (
 R (.tuple #[.pointer none,.iface Qah (.int .i64 1)]) w) else (
 bif (decide (n1<1)) then (
 R (.tuple #[.pointer none,.iface Qah (.int .i64 1)]) w) else (
 bif (decide (n1>1048576)) then (
 R (.tuple #[.pointer none,.iface Qah (.int .i64 1)]) w) else (
 J2 [] w)))))∧∀_:Env,∀w3,J2 [] w3→
 ∃J4:JP,(
 (0≤(IntKind.wrap .i64 (2*n1))∧(IntKind.wrap .i64 (2*n1))≤(IntKind.wrap .i64 (2*n1))∧(12:Int)*(IntKind.wrap .i64 (2*n1))≤140737488355328∧alo (Qav #[(.int .i32 0),(.int .i32 0),(.int .i32 0)] (Int.toNat (IntKind.wrap .i64 (2*n1)))) Qb5 w3.drew fun a5 w6=>
 (0≤n0∧n0≤n0∧(4:Int)*n0≤140737488355328∧alo (Qav #[(.int .i32 0)] (Int.toNat n0)) Qbb w6 fun a7 w8=>
 0≤n0∧n0≤n0∧(4:Int)*n0≤140737488355328∧alo (Qav #[(.int .i32 0)] (Int.toNat n0)) Qbb w8 fun a9 w10=>
 alo #[.slice (some a5) (Int.toNat (IntKind.wrap .i64 (2*n1))) (Int.toNat (IntKind.wrap .i64 (2*n1))),.slice (some a7) (Int.toNat n0) (Int.toNat n0),.slice (some a9) (Int.toNat n0) (Int.toNat n0)] Qgj w10 fun a11 w12=>
 J4 [.pointer (some a11)] w12)∧(
 0≤n0∧n0≤n0∧(4:Int)*n0≤140737488355328∧alo (Qav #[(.int .i32 0)] (Int.toNat n0)) Qbb w6 fun a13 w14=>
 0≤n0∧n0≤n0∧(4:Int)*n0≤140737488355328∧alo (Qav #[(.int .i32 0)] (Int.toNat n0)) Qbb w14 fun a15 w16=>
 alo #[.slice (some a5) (Int.toNat (IntKind.wrap .i64 (2*n1))) (Int.toNat (IntKind.wrap .i64 (2*n1))),.slice (some a15) (Int.toNat n0) (Int.toNat n0),.slice (some a13) (Int.toNat n0) (Int.toNat n0)] Qgj w16 fun a17 w18=>
 J4 [.pointer (some a17)] w18))∧(
 0≤n0∧n0≤n0∧(4:Int)*n0≤140737488355328∧alo (Qav #[(.int .i32 0)] (Int.toNat n0)) Qbb w3.drew fun a19 w20=>
 (0≤(IntKind.wrap .i64 (2*n1))∧(IntKind.wrap .i64 (2*n1))≤(IntKind.wrap .i64 (2*n1))∧(12:Int)*(IntKind.wrap .i64 (2*n1))≤140737488355328∧alo (Qav #[(.int .i32 0),(.int .i32 0),(.int .i32 0)] (Int.toNat (IntKind.wrap .i64 (2*n1)))) Qb5 w20 fun a21 w22=>
 0≤n0∧n0≤n0∧(4:Int)*n0≤140737488355328∧alo (Qav #[(.int .i32 0)] (Int.toNat n0)) Qbb w22 fun a23 w24=>
 alo #[.slice (some a21) (Int.toNat (IntKind.wrap .i64 (2*n1))) (Int.toNat (IntKind.wrap .i64 (2*n1))),.slice (some a19) (Int.toNat n0) (Int.toNat n0),.slice (some a23) (Int.toNat n0) (Int.toNat n0)] Qgj w24 fun a25 w26=>
 J4 [.pointer (some a25)] w26)∧(
 0≤n0∧n0≤n0∧(4:Int)*n0≤140737488355328∧alo (Qav #[(.int .i32 0)] (Int.toNat n0)) Qbb w20 fun a27 w28=>
 0≤(IntKind.wrap .i64 (2*n1))∧(IntKind.wrap .i64 (2*n1))≤(IntKind.wrap .i64 (2*n1))∧(12:Int)*(IntKind.wrap .i64 (2*n1))≤140737488355328∧alo (Qav #[(.int .i32 0),(.int .i32 0),(.int .i32 0)] (Int.toNat (IntKind.wrap .i64 (2*n1)))) Qb5 w28 fun a29 w30=>
 alo #[.slice (some a29) (Int.toNat (IntKind.wrap .i64 (2*n1))) (Int.toNat (IntKind.wrap .i64 (2*n1))),.slice (some a19) (Int.toNat n0) (Int.toNat n0),.slice (some a27) (Int.toNat n0) (Int.toNat n0)] Qgj w30 fun a31 w32=>
 J4 [.pointer (some a31)] w32))∧(
 0≤n0∧n0≤n0∧(4:Int)*n0≤140737488355328∧alo (Qav #[(.int .i32 0)] (Int.toNat n0)) Qbb w3.drew fun a33 w34=>
 (0≤(IntKind.wrap .i64 (2*n1))∧(IntKind.wrap .i64 (2*n1))≤(IntKind.wrap .i64 (2*n1))∧(12:Int)*(IntKind.wrap .i64 (2*n1))≤140737488355328∧alo (Qav #[(.int .i32 0),(.int .i32 0),(.int .i32 0)] (Int.toNat (IntKind.wrap .i64 (2*n1)))) Qb5 w34 fun a35 w36=>
 0≤n0∧n0≤n0∧(4:Int)*n0≤140737488355328∧alo (Qav #[(.int .i32 0)] (Int.toNat n0)) Qbb w36 fun a37 w38=>
 alo #[.slice (some a35) (Int.toNat (IntKind.wrap .i64 (2*n1))) (Int.toNat (IntKind.wrap .i64 (2*n1))),.slice (some a37) (Int.toNat n0) (Int.toNat n0),.slice (some a33) (Int.toNat n0) (Int.toNat n0)] Qgj w38 fun a39 w40=>
 J4 [.pointer (some a39)] w40)∧(
 0≤n0∧n0≤n0∧(4:Int)*n0≤140737488355328∧alo (Qav #[(.int .i32 0)] (Int.toNat n0)) Qbb w34 fun a41 w42=>
 0≤(IntKind.wrap .i64 (2*n1))∧(IntKind.wrap .i64 (2*n1))≤(IntKind.wrap .i64 (2*n1))∧(12:Int)*(IntKind.wrap .i64 (2*n1))≤140737488355328∧alo (Qav #[(.int .i32 0),(.int .i32 0),(.int .i32 0)] (Int.toNat (IntKind.wrap .i64 (2*n1)))) Qb5 w42 fun a43 w44=>
 alo #[.slice (some a43) (Int.toNat (IntKind.wrap .i64 (2*n1))) (Int.toNat (IntKind.wrap .i64 (2*n1))),.slice (some a41) (Int.toNat n0) (Int.toNat n0),.slice (some a33) (Int.toNat n0) (Int.toNat n0)] Qgj w44 fun a45 w46=>
 J4 [.pointer (some a45)] w46)))∧∀_:Env,∀p47 w48,J4 [.pointer p47] w48→
 pt p47 fun a49=>
 ldS a49 w48 fun s50b s50l s50c=>
 ∃(I51:JP) (m52:JN),I51 [.int .i64 0] w48∧
 ∀_:Env,∀n53 w54,I51 [.int .i64 n53] w54→
 bif (decide (n53<(s50l:Int))) then (
 pt p47 fun a55=>
 ldS a55 w54 fun s56b s56l s56c=>
 ixS s56b s56l n53 3 fun a57=>
 sto a57 (.int .i32 (-1)) w54 fun w58=>
 (I51 [.int .i64 (IntKind.wrap .i64 (n53+1))] w58∧m52 [.int .i64 (IntKind.wrap .i64 (n53+1))] w58<m52 [.int .i64 n53] w54)) else (
 pt p47 fun a59=>
 ldS (a59.add 1) w54 fun s60b s60l s60c=>
 ∃(I61:JP) (m62:JN),I61 [.int .i64 0] w54∧
 ∀_:Env,∀n63 w64,I61 [.int .i64 n63] w64→
 bif (decide (n63<(s60l:Int))) then (
 pt p47 fun a65=>
 ldS (a65.add 1) w64 fun s66b s66l s66c=>
 ixS s66b s66l n63 1 fun a67=>
 sto a67 (.int .i32 (-1)) w64 fun w68=>
 (I61 [.int .i64 (IntKind.wrap .i64 (n63+1))] w68∧m62 [.int .i64 (IntKind.wrap .i64 (n63+1))] w68<m62 [.int .i64 n63] w64)) else (
 R (.tuple #[.pointer p47,.nilIface]) w64))
theorem Qu7 (n0 n1:Int):SH Qrh [.int .i64 n0,.int .i64 n1] (Qt8 n0 n1):=cdn Tryz.func46 (.s .L (.j [] [] (.s .L (.c (.s .L .L) .L)) (.j [6] [.one .ptr] (.r (.t 0 2 (.t 3 1 (.t 5 1 (.thr 2 (.two 4 (.one 6 (.t 7 1 (.one 8 (.t 9 1 .fin)))) 6 (.one 4 (.t 7 1 (.one 8 (.t 9 1 .fin))))) 4 (.two 2 (.one 6 (.t 7 1 (.one 8 (.t 9 1 .fin)))) 6 (.one 2 (.t 7 1 (.one 8 (.t 9 1 .fin))))) 6 (.two 2 (.one 4 (.t 7 1 (.one 8 (.t 9 1 .fin)))) 4 (.one 2 (.t 7 1 (.one 8 (.t 9 1 .fin)))))))))) (.s (.s .L (.b (.o [38] [.one (.int .i64)] (.s .L (.s (.c .L .L) (.s (.b (.s .L .L)) .L)))))) (.s (.s .L (.b (.o [54] [.one (.int .i64)] (.s .L (.s (.c .L .L) (.s (.b (.s .L .L)) .L)))))) (.s .L .L)))))) fun _ _=>by kernel_rfl
def Qgx (p0:OA) (n1:Int) (w:World) (R:RV):Prop:=
 Calls Pg Qfz #[.pointer p0,.int .i64 n1] w fun e7 w6=>∃n2 n3 n4 v5,e7=.returned (.tuple #[.agg #[.int .i32 n2,.int .i32 n3,.int .i32 n4],v5])∧
 alo #[.int .i32 0,.int .i32 0,.int .i32 0] Qb5 w6 fun a8 w9=>
 sto a8 (.int .i32 n2) w9 fun w10=>
 sto (a8.add 1) (.int .i32 n3) w10 fun w11=>
 sto (a8.add 2) (.int .i32 n4) w11 fun w12=>
 ldI .i32 a8 w12 fun n13=>
 R (.tuple #[.int .i64 (IntKind.wrap .i64 n13),v5]) w12
theorem Qiq (p0:OA) (n1:Int):SH Qbv [.pointer p0,.int .i64 n1] (Qgx p0 n1):=cdn Tryz.func64 (.s .L (.s .L (.s .L .L))) fun _ _=>by kernel_rfl
def Qk6 (p0:OA) (n1:Int) (w:World) (R:RV):Prop:=
 Calls Pg Qd4 #[.pointer p0,.int .i64 n1] w fun e4 w3=>∃v2,e4=.returned v2∧
 isI v2∧bif (!(nilI v2)) then (
 R v2 w3) else (
 Calls Pg Qcu #[.pointer p0,.int .i64 n1] w3 fun e7 w6=>∃b5,e7=.returned (.bool b5)∧
 bif (!b5) then (
 R (.iface Qah (.int .i64 13)) w6) else (
 Calls Pg Qfy #[.pointer p0,.int .i32 (IntKind.wrap .i32 (IntKind.wrap .i64 ((IntKind.wrap .i64 (2*n1))+1)))] w6 fun e9 w8=>e9=.returned (.tuple #[])∧
 Calls Pg Qfy #[.pointer p0,.int .i32 (IntKind.wrap .i32 (IntKind.wrap .i64 (2*n1)))] w8 fun e11 w10=>e11=.returned (.tuple #[])∧
 R .nilIface w10))
theorem Qo2 (p0:OA) (n1:Int):SH Qia [.pointer p0,.int .i64 n1] (Qk6 p0 n1):=cdn Tryz.func67 (.s .L (.s (.s .L (.s .L (.c (.s .L .L) .L))) (.s (.s .L (.c (.s .L .L) .L)) (.s .L (.s .L (.s .L .L)))))) fun _ _=>by kernel_rfl
def Qi2 (p0:OA) (n1:Int) (w:World) (R:RV):Prop:=
 Calls Pg Qd4 #[.pointer p0,.int .i64 n1] w fun e4 w3=>∃v2,e4=.returned v2∧
 isI v2∧bif (nilI v2) then (
 pt p0 fun a5=>
 ldS a5 w3 fun s6b s6l s6c=>
 ixS s6b s6l (IntKind.wrap .i64 (2*n1)) 3 fun a7=>
 ldI .i32 a7 w3 fun n8=>
 R (.bool (n8 != (-1))) w3) else (
 R (.bool false) w3)
theorem Qkb (p0:OA) (n1:Int):SH Qcu [.pointer p0,.int .i64 n1] (Qi2 p0 n1):=cdn Tryz.func78 (.s .L (.s .L .L)) fun _ _=>by kernel_rfl
def Qmp (p0:OA) (n1 n2 n3 n4 n5:Int) (w:World) (R:RV):Prop:=
 alo #[.int .i64 n2,.int .i64 n3] Qbr w fun a6 w7=>
 alo #[.int .i64 n4,.int .i64 n5] Qbr w7 fun a8 w9=>
 Calls Pg Qd4 #[.pointer p0,.int .i64 n1] w9 fun e12 w11=>∃v10,e12=.returned v10∧
 isI v10∧bif (!(nilI v10)) then (
 R v10 w11) else (
 Calls Pg Qcu #[.pointer p0,.int .i64 n1] w11 fun e15 w14=>∃b13,e15=.returned (.bool b13)∧
 bif b13 then (
 R (.iface Qah (.int .i64 20)) w14) else (
 ldI .i64 a6 w14 fun n16=>
 ldI .i64 (a6.add 1) w14 fun n17=>
 Calls Pg Qdn #[.pointer p0,.agg #[.int .i64 n16,.int .i64 n17]] w14 fun e20 w19=>∃v18,e20=.returned v18∧
 isI v18∧bif (!(nilI v18)) then (
 R v18 w19) else (
 ldI .i64 a8 w19 fun n21=>
 ldI .i64 (a8.add 1) w19 fun n22=>
 Calls Pg Qdn #[.pointer p0,.agg #[.int .i64 n21,.int .i64 n22]] w19 fun e25 w24=>∃v23,e25=.returned v23∧
 isI v23∧bif (!(nilI v23)) then (
 R v23 w24) else (
 ldI .i64 a6 w24 fun n26=>
 ldI .i64 (a6.add 1) w24 fun n27=>
 Calls Pg Qgr #[.pointer p0,.int .i32 (IntKind.wrap .i32 (IntKind.wrap .i64 (2*n1))),.agg #[.int .i64 n26,.int .i64 n27]] w24 fun e29 w28=>e29=.returned (.tuple #[])∧
 ldI .i64 a8 w28 fun n30=>
 ldI .i64 (a8.add 1) w28 fun n31=>
 Calls Pg Qgr #[.pointer p0,.int .i32 (IntKind.wrap .i32 (IntKind.wrap .i64 ((IntKind.wrap .i64 (2*n1))+1))),.agg #[.int .i64 n30,.int .i64 n31]] w28 fun e33 w32=>e33=.returned (.tuple #[])∧
 R .nilIface w32))))
theorem Qql (p0:OA) (n1 n2 n3 n4 n5:Int):SH Qi9 [.pointer p0,.int .i64 n1,.agg #[.int .i64 n2,.int .i64 n3],.agg #[.int .i64 n4,.int .i64 n5]] (Qmp p0 n1 n2 n3 n4 n5):=cdn Tryz.func80 (.s .L (.s (.s .L (.s .L (.c (.s .L .L) .L))) (.s (.s .L (.c (.s .L .L) .L)) (.s (.s .L (.s .L (.c (.s .L .L) .L))) (.s (.s .L (.s .L (.c (.s .L .L) .L))) (.s .L (.s .L (.s .L .L)))))))) fun _ _=>by kernel_rfl
def Qj1 (p0:OA) (n1:Int) (w:World) (R:RV):Prop:=
 Calls Pg Qep #[.pointer p0,.int .i64 n1] w fun e4 w3=>∃v2,e4=.returned v2∧
 isI v2∧bif (!(nilI v2)) then (
 R (.tuple #[.int .i64 0,v2]) w3) else (
 pt p0 fun a5=>
 ldS (a5.add 2) w3 fun s6b s6l s6c=>
 ixS s6b s6l n1 1 fun a7=>
 ldI .i32 a7 w3 fun n8=>
 R (.tuple #[.int .i64 (IntKind.wrap .i64 n8),.nilIface]) w3)
theorem Qnm (p0:OA) (n1:Int):SH Qg0 [.pointer p0,.int .i64 n1] (Qj1 p0 n1):=cdn Tryz.func87 (.s .L (.s (.s .L (.s .L (.c (.s .L .L) .L))) (.s .L .L))) fun _ _=>by kernel_rfl
def Qhy (p0:OA) (n1:Int) (w:World) (R:RV):Prop:=
 Calls Pg Qfz #[.pointer p0,.int .i64 n1] w fun e7 w6=>∃n2 n3 n4 v5,e7=.returned (.tuple #[.agg #[.int .i32 n2,.int .i32 n3,.int .i32 n4],v5])∧
 alo #[.int .i32 0,.int .i32 0,.int .i32 0] Qb5 w6 fun a8 w9=>
 sto a8 (.int .i32 n2) w9 fun w10=>
 sto (a8.add 1) (.int .i32 n3) w10 fun w11=>
 sto (a8.add 2) (.int .i32 n4) w11 fun w12=>
 ldI .i32 (a8.add 1) w12 fun n13=>
 R (.tuple #[.int .i64 (IntKind.wrap .i64 n13),v5]) w12
theorem Qjm (p0:OA) (n1:Int):SH Qce [.pointer p0,.int .i64 n1] (Qhy p0 n1):=cdn Tryz.func89 (.s .L (.s .L (.s .L .L))) fun _ _=>by kernel_rfl
def Qkj (p0:OA) (n1 n2:Int) (w:World) (R:RV):Prop:=
 alo #[.int .i64 n1,.int .i64 n2] Qbr w fun a3 w4=>
 ldI .i64 a3 w4 fun n5=>
 Calls Pg Qep #[.pointer p0,.int .i64 n5] w4 fun e8 w7=>∃v6,e8=.returned v6∧
 isI v6∧bif (!(nilI v6)) then (
 R v6 w7) else (
 ∃J9:JP,(
 ldI .i64 (a3.add 1) w7.drew fun n10=>
 bif (n10==(-1)) then (
 pt p0 fun a11=>
 ldS (a11.add 2) w7.drew fun s12b s12l s12c=>
 ldI .i64 a3 w7.drew fun n13=>
 ixS s12b s12l n13 1 fun a14=>
 ldI .i32 a14 w7.drew fun n15=>
 J9 [.bool (n15==0)] w7.drew) else (
 J9 [.bool false] w7.drew))∧∀_:Env,∀b16 w17,J9 [.bool b16] w17→
 bif b16 then (
 R .nilIface w17) else (
 ldI .i64 (a3.add 1) w17.drew fun n18=>
 bif (decide (n18<0)) then (
 R (.iface Qah (.int .i64 13)) w17.drew) else (
 ldI .i64 (a3.add 1) w17.drew fun n19=>
 pt p0 fun a20=>
 ldS a20 w17.drew fun s21b s21l s21c=>
 bif (decide (n19 ≥ (s21l:Int))) then (
 R (.iface Qah (.int .i64 13)) w17.drew) else (
 pt p0 fun a22=>
 ldS a22 w17.drew fun s23b s23l s23c=>
 ldI .i64 (a3.add 1) w17.drew fun n24=>
 ixS s23b s23l n24 3 fun a25=>
 ldI .i32 a25 w17.drew fun n26=>
 ldI .i64 a3 w17.drew fun n27=>
 bif ((IntKind.wrap .i64 n26) != n27) then (
 R (.iface Qah (.int .i64 13)) w17.drew) else (
 R .nilIface w17.drew)))))
theorem Qob (p0:OA) (n1 n2:Int):SH Qdn [.pointer p0,.agg #[.int .i64 n1,.int .i64 n2]] (Qkj p0 n1 n2):=cdn Tryz.func90 (.s .L (.s (.s .L (.s .L (.c (.s .L .L) .L))) (.s (.b (.j [13] [.one .bool] (.r (.t 0 15 .fin)) (.c (.s .L .L) (.s (.r (.t 0 29 .fin)) (.c (.s .L .L) .L))))) (.s .L .L)))) fun _ _=>by kernel_rfl
def Qk5 (p0:OA) (n1:Int) (w:World) (R:RV):Prop:=
 alo #[.int .i32 0,.int .i32 0,.int .i32 0] Qb5 w fun a2 w3=>
 bif (Option.isNone p0) then (
 sto a2 (.int .i32 0) w3 fun w4=>
 sto (a2.add 1) (.int .i32 0) w4 fun w5=>
 sto (a2.add 2) (.int .i32 0) w5 fun w6=>
 ldI .i32 a2 w6 fun n7=>
 ldI .i32 (a2.add 1) w6 fun n8=>
 ldI .i32 (a2.add 2) w6 fun n9=>
 R (.tuple #[.agg #[.int .i32 n7,.int .i32 n8,.int .i32 n9],.iface Qah (.int .i64 1)]) w6) else (
 ∃J10:JP,(
 bif (decide (n1<0)) then (
 J10 [.bool true] w3) else (
 pt p0 fun a11=>
 ldS a11 w3 fun s12b s12l s12c=>
 J10 [.bool (decide (n1 ≥ (s12l:Int)))] w3))∧∀_:Env,∀b13 w14,J10 [.bool b13] w14→
 bif b13 then (
 sto a2 (.int .i32 0) w14 fun w15=>
 sto (a2.add 1) (.int .i32 0) w15 fun w16=>
 sto (a2.add 2) (.int .i32 0) w16 fun w17=>
 ldI .i32 a2 w17 fun n18=>
 ldI .i32 (a2.add 1) w17 fun n19=>
 ldI .i32 (a2.add 2) w17 fun n20=>
 R (.tuple #[.agg #[.int .i32 n18,.int .i32 n19,.int .i32 n20],.iface Qah (.int .i64 12)]) w17) else (
 pt p0 fun a21=>
 ldS a21 w14 fun s22b s22l s22c=>
 ixS s22b s22l n1 3 fun a23=>
 ldI .i32 a23 w14 fun n24=>
 bif (n24==(-1)) then (
 sto a2 (.int .i32 0) w14 fun w25=>
 sto (a2.add 1) (.int .i32 0) w25 fun w26=>
 sto (a2.add 2) (.int .i32 0) w26 fun w27=>
 ldI .i32 a2 w27 fun n28=>
 ldI .i32 (a2.add 1) w27 fun n29=>
 ldI .i32 (a2.add 2) w27 fun n30=>
 R (.tuple #[.agg #[.int .i32 n28,.int .i32 n29,.int .i32 n30],.iface Qah (.int .i64 13)]) w27) else (
 pt p0 fun a31=>
 ldS a31 w14 fun s32b s32l s32c=>
 ixS s32b s32l n1 3 fun a33=>
 ldI .i32 a33 w14 fun n34=>
 ldI .i32 (a33.add 1) w14 fun n35=>
 ldI .i32 (a33.add 2) w14 fun n36=>
 sto a2 (.int .i32 n34) w14 fun w37=>
 sto (a2.add 1) (.int .i32 n35) w37 fun w38=>
 sto (a2.add 2) (.int .i32 n36) w38 fun w39=>
 ldI .i32 a2 w39 fun n40=>
 ldI .i32 (a2.add 1) w39 fun n41=>
 ldI .i32 (a2.add 2) w39 fun n42=>
 R (.tuple #[.agg #[.int .i32 n40,.int .i32 n41,.int .i32 n42],.nilIface]) w39)))
theorem Qo1 (p0:OA) (n1:Int):SH Qfz [.pointer p0,.int .i64 n1] (Qk5 p0 n1):=cdnR Tryz.func111 (.s .L (.s (.b (.s .L (.c (.s .L .L) (.j [11] [.one .bool] .L (.c (.s .L .L) (.s .L (.c (.s .L .L) .L))))))) (.s .L .L))) fun _ _=>by kernel_rfl
def Qk4 (p0:OA) (n1:Int) (w:World) (R:RV):Prop:=
 bif (Option.isNone p0) then (
 R (.iface Qah (.int .i64 1)) w) else (
 bif (decide (n1<0)) then (
 R (.iface Qah (.int .i64 12)) w) else (
 pt p0 fun a2=>
 ldS a2 w fun s3b s3l s3c=>
 (2:Int)≠0∧bif (decide (n1 ≥ (IntKind.wrap .i64 (Int.tdiv (s3l:Int) (2:Int))))) then (
 R (.iface Qah (.int .i64 12)) w) else (
 R .nilIface w)))
theorem Qo0 (p0:OA) (n1:Int):SH Qd4 [.pointer p0,.int .i64 n1] (Qk4 p0 n1):=cdn Tryz.func116 (.s .L (.s (.b (.s .L (.c (.s .L .L) (.s .L (.c (.s .L .L) .L))))) (.s .L .L))) fun _ _=>by kernel_rfl
def Qk3 (p0:OA) (n1:Int) (w:World) (R:RV):Prop:=
 pt p0 fun a2=>
 ldS a2 w fun s3b s3l s3c=>
 ixS s3b s3l n1 3 fun a4=>
 ldI .i32 a4 w fun n5=>
 ldI .i32 (a4.add 1) w fun n6=>
 ldI .i32 (a4.add 2) w fun n7=>
 alo #[.int .i32 0,.int .i32 0,.int .i32 0] Qb5 w fun a8 w9=>
 sto a8 (.int .i32 n5) w9 fun w10=>
 sto (a8.add 1) (.int .i32 n6) w10 fun w11=>
 sto (a8.add 2) (.int .i32 n7) w11 fun w12=>
 pt p0 fun a13=>
 ldS a13 w12.drew fun s14b s14l s14c=>
 ldI .i32 (a8.add 2) w12.drew fun n15=>
 pt p0 fun a16=>
 ldS a16 w12.drew fun s17b s17l s17c=>
 ldI .i32 (a8.add 1) w12.drew fun n18=>
 ldI .i32 (a8.add 1) w12.drew fun n19=>
 ldI .i32 (a8.add 2) w12.drew fun n20=>
 ixS s14b s14l n15 3 fun a21=>
 sto (a21.add 1) (.int .i32 n19) w12.drew fun w22=>
 w22.cell? (a8.add 2)=some (.int .i32 n20)∧w22.cell? (a8.add 1)=some (.int .i32 n18)∧ixS s17b s17l n18 3 fun a23=>
 sto (a23.add 2) (.int .i32 n20) w22 fun w24=>
 pt p0 fun a25=>
 ldS (a25.add 2) w24.drew fun s26b s26l s26c=>
 ldI .i32 a8 w24.drew fun n27=>
 ixS s26b s26l n27 1 fun a28=>
 ldI .i32 a28 w24.drew fun n29=>
 ixS s26b s26l n27 1 fun a30=>
 sto a30 (.int .i32 (IntKind.wrap .i32 (n29-1))) w24.drew fun w31=>
 pt p0 fun a32=>
 ldS (a32.add 2) w31.drew fun s33b s33l s33c=>
 ldI .i32 a8 w31.drew fun n34=>
 ixS s33b s33l n34 1 fun a35=>
 ldI .i32 a35 w31.drew fun n36=>
 bif (n36==0) then (
 pt p0 fun a37=>
 ldS (a37.add 1) w31.drew.drew fun s38b s38l s38c=>
 ldI .i32 a8 w31.drew.drew fun n39=>
 ixS s38b s38l n39 1 fun a40=>
 sto a40 (.int .i32 (-1)) w31.drew.drew fun w41=>
 pt p0 fun a42=>
 ldS a42 w41 fun s43b s43l s43c=>
 ixS s43b s43l n1 3 fun a44=>
 sto a44 (.int .i32 (-1)) w41 fun w45=>
 R (.tuple #[]) w45) else (
 pt p0 fun a46=>
 ldS (a46.add 1) w31.drew.drew fun s47b s47l s47c=>
 ldI .i32 a8 w31.drew.drew fun n48=>
 ixS s47b s47l n48 1 fun a49=>
 ldI .i32 a49 w31.drew.drew fun n50=>
 bif (n50==n1) then (
 pt p0 fun a51=>
 ldS (a51.add 1) w31.drew.drew.drew fun s52b s52l s52c=>
 ldI .i32 a8 w31.drew.drew.drew fun n53=>
 ldI .i32 (a8.add 1) w31.drew.drew.drew fun n54=>
 ixS s52b s52l n53 1 fun a55=>
 sto a55 (.int .i32 n54) w31.drew.drew.drew fun w56=>
 pt p0 fun a57=>
 ldS a57 w56 fun s58b s58l s58c=>
 ixS s58b s58l n1 3 fun a59=>
 sto a59 (.int .i32 (-1)) w56 fun w60=>
 R (.tuple #[]) w60) else (
 pt p0 fun a61=>
 ldS a61 w31.drew.drew fun s62b s62l s62c=>
 ixS s62b s62l n1 3 fun a63=>
 sto a63 (.int .i32 (-1)) w31.drew.drew fun w64=>
 R (.tuple #[]) w64))
theorem Qoz (p0:OA) (n1:Int):SH Qfy [.pointer p0,.int .i32 n1] (Qk3 p0 n1):=cdn Tryz.func117 (.s .L (.s (.r (.t 0 3 (.tk 3 [16,17,18,19,20,21] [18,21] (.t 4 1 (.tk 5 [16,17,18,19,20,21] [18,21] (.t 6 3 (.tk 9 [16,17,18,19,20,21] [18,21] (.t 10 1 (.tk 11 [19,20,21] [21] (.t 12 1 (.tk 13 [16,17,18,19,20,21] [18,21] (.t 14 1 (.tk 15 [19,20,21] [21] (.t 16 2 (.one 18 (.t 19 2 (.one 21 .fin))))))))))))))))) (.s (.r (.t 0 3 (.tk 3 [6,7,8,9,10] [10] (.t 4 1 (.tk 5 [6,7,8,9,10] [10] (.t 6 1 (.tk 7 [8,9,10] [10] (.t 8 2 (.one 10 .fin))))))))) (.s (.b (.s (.r (.t 0 10 .fin)) (.c (.r (.t 0 3 (.tk 3 [6,7] [7] (.t 4 1 (.tk 5 [6,7] [7] (.t 6 1 (.one 7 .fin))))))) (.s (.r (.t 0 11 .fin)) (.c (.r (.t 0 3 (.tk 3 [8,9] [9] (.t 4 1 (.tk 5 [8,9] [9] (.t 6 1 (.tk 7 [8,9] [9] (.t 8 1 (.one 9 .fin))))))))) .L))))) .L)))) fun _ _=>by kernel_rfl
def Qmo (p0:OA) (n1 n2 n3:Int) (w:World) (R:RV):Prop:=
 alo #[.int .i64 n2,.int .i64 n3] Qbr w fun a4 w5=>
 ldI .i64 (a4.add 1) w5 fun n6=>
 ∃J7:JP,(
 bif ((IntKind.wrap .i32 n6)==(-1)) then (
 pt p0 fun a8=>
 ldS (a8.add 1) w5.drew fun s9b s9l s9c=>
 ldI .i64 a4 w5.drew fun n10=>
 ixS s9b s9l n10 1 fun a11=>
 ldI .i32 a11 w5.drew fun n12=>
 J7 [.int .i32 n12] w5.drew) else (
 J7 [.int .i32 (IntKind.wrap .i32 n6)] w5))∧∀_:Env,∀n13 w14,J7 [.int .i32 n13] w14→
 pt p0 fun a15=>
 ldS (a15.add 2) w14.drew fun s16b s16l s16c=>
 ldI .i64 a4 w14.drew fun n17=>
 ixS s16b s16l n17 1 fun a18=>
 ldI .i32 a18 w14.drew fun n19=>
 ixS s16b s16l n17 1 fun a20=>
 sto a20 (.int .i32 (IntKind.wrap .i32 (n19+1))) w14.drew fun w21=>
 bif (n13==(-1)) then (
 pt p0 fun a22=>
 ldS a22 w21.drew fun s23b s23l s23c=>
 ldI .i64 a4 w21.drew fun n24=>
 ixS s23b s23l n1 3 fun a25=>
 sto a25 (.int .i32 (IntKind.wrap .i32 n24)) w21.drew fun w26=>
 sto (a25.add 1) (.int .i32 n1) w26 fun w27=>
 sto (a25.add 2) (.int .i32 n1) w27 fun w28=>
 pt p0 fun a29=>
 ldS (a29.add 1) w28.drew fun s30b s30l s30c=>
 ldI .i64 a4 w28.drew fun n31=>
 ixS s30b s30l n31 1 fun a32=>
 sto a32 (.int .i32 n1) w28.drew fun w33=>
 R (.tuple #[]) w33) else (
 pt p0 fun a34=>
 ldS a34 w21 fun s35b s35l s35c=>
 ixS s35b s35l n13 3 fun a36=>
 ldI .i32 (a36.add 1) w21 fun n37=>
 pt p0 fun a38=>
 ldS a38 w21.drew fun s39b s39l s39c=>
 ldI .i64 a4 w21.drew fun n40=>
 ixS s39b s39l n1 3 fun a41=>
 sto a41 (.int .i32 (IntKind.wrap .i32 n40)) w21.drew fun w42=>
 sto (a41.add 1) (.int .i32 n37) w42 fun w43=>
 sto (a41.add 2) (.int .i32 n13) w43 fun w44=>
 pt p0 fun a45=>
 ldS a45 w44.drew fun s46b s46l s46c=>
 pt p0 fun a47=>
 ldS a47 w44.drew fun s48b s48l s48c=>
 ixS s46b s46l n13 3 fun a49=>
 sto (a49.add 1) (.int .i32 n1) w44.drew fun w50=>
 ixS s48b s48l n37 3 fun a51=>
 sto (a51.add 2) (.int .i32 n1) w50 fun w52=>
 R (.tuple #[]) w52)
theorem Qqk (p0:OA) (n1 n2 n3:Int):SH Qgr [.pointer p0,.int .i32 n1,.agg #[.int .i64 n2,.int .i64 n3]] (Qmo p0 n1 n2 n3):=cdn Tryz.func124 (.s .L (.s .L (.j [6] [.one (.int .i32)] (.s .L (.c (.r (.t 0 9 .fin)) .L)) (.s (.r (.t 0 3 (.tk 3 [6,7,8,9,10] [10] (.t 4 1 (.tk 5 [6,7,8,9,10] [10] (.t 6 1 (.tk 7 [8,9,10] [10] (.t 8 2 (.one 10 .fin))))))))) (.s (.s .L (.c (.s (.r (.t 0 3 (.tk 3 [11,12] [12] (.t 4 2 (.tk 6 [7,10,11,12] [12] (.t 7 5 (.one 12 .fin))))))) (.s (.r (.t 0 3 (.tk 3 [7,8] [8] (.t 4 1 (.tk 5 [7,8] [8] (.t 6 2 (.one 8 .fin))))))) .L)) .L)) (.s .L (.s (.r (.t 0 3 (.tk 3 [11,12] [12] (.t 4 2 (.tk 6 [7,10,11,12] [12] (.t 7 5 (.one 12 .fin))))))) (.r (.t 0 3 (.tk 3 [12,13,14,15,16,17] [14,17] (.t 4 4 (.tk 8 [12,13,14,15,16,17] [14,17] (.t 9 5 (.one 14 (.t 15 2 (.one 17 .fin)))))))))))))))) fun _ _=>by kernel_rfl
def Qj0 (p0:OA) (n1:Int) (w:World) (R:RV):Prop:=
 bif (Option.isNone p0) then (
 R (.iface Qah (.int .i64 1)) w) else (
 bif (decide (n1<0)) then (
 R (.iface Qah (.int .i64 12)) w) else (
 pt p0 fun a2=>
 ldS (a2.add 1) w fun s3b s3l s3c=>
 bif (decide (n1 ≥ (s3l:Int))) then (
 R (.iface Qah (.int .i64 12)) w) else (
 R .nilIface w)))
theorem Qnl (p0:OA) (n1:Int):SH Qep [.pointer p0,.int .i64 n1] (Qj0 p0 n1):=cdn Tryz.func128 (.s .L (.s (.b (.s .L (.c (.s .L .L) (.s .L (.c (.s .L .L) .L))))) (.s .L .L))) fun _ _=>by kernel_rfl
end Go.Proofs.YtpmicakdjhoafaaGreatDoor
