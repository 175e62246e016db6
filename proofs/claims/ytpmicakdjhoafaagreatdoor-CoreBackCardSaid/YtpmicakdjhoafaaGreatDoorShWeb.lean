/-
What each function does, as one formula, printed by a program of this session out of the translation; the kernel holds each print against the translation.
Conditions: none.
-/
import Derived.Test.YtpmicakdjhoafaaGreatDoorSn
set_option linter.unusedVariables false
namespace Go.Proofs.YtpmicakdjhoafaaGreatDoor
open Go
set_option maxRecDepth 100000
def Qsv (n0 n1:Int) (w:World) (R:RV):Prop:=
 ∃J2:JP,(
 bif (decide (n0<1)) then (
 R (.tuple #[.pointer none,.iface Qah (.int .i64 1)]) w) else (
 bif (decide (n0>4194304)) then (
 R (.tuple #[.pointer none,.iface Qah (.int .i64 1)]) w) else (
 bif (decide (n1<1)) then (
 R (.tuple #[.pointer none,.iface Qah (.int .i64 1)]) w) else (
 bif (decide (n1>1048576)) then (
 R (.tuple #[.pointer none,.iface Qah (.int .i64 1)]) w) else (
 J2 [] w)))))∧∀_:Env,∀w3,J2 [] w3→
 Calls Pg Qni #[.int .i64 n0] w3 fun e7 w6=>∃p4 v5,e7=.returned (.tuple #[.pointer p4,v5])∧
 isI v5∧bif (!(nilI v5)) then (
 R (.tuple #[.pointer none,v5]) w6) else (
 Calls Pg Qm5 #[.int .i64 (IntKind.wrap .i64 (n0+n1))] w6 fun e11 w10=>∃p8 v9,e11=.returned (.tuple #[.pointer p8,v9])∧
 isI v9∧bif (!(nilI v9)) then (
 R (.tuple #[.pointer none,v9]) w10) else (
 0≤n1∧n1≤n1∧(8:Int)*n1≤140737488355328∧alo (Qav #[(.int .i32 0),(.int .i32 0)] (Int.toNat n1)) Qgk w10 fun a12 w13=>
 alo #[.pointer p4,.pointer p8,.int .i64 n0,.slice (some a12) (Int.toNat n1) (Int.toNat n1)] Qp1 w13 fun a14 w15=>
 ∃(I16:JP) (m17:JN),I16 [.int .i64 0] w15∧
 ∀_:Env,∀n18 w19,I16 [.int .i64 n18] w19→
 bif (decide (n18<n0)) then (
 Calls Pg Qb8 #[.pointer p8,.int .i64 n18,.int .i64 9223372036854775807] w19 fun e22 w21=>∃v20,e22=.returned v20∧
 isI v20∧bif (!(nilI v20)) then (
 R (.tuple #[.pointer none,v20]) w21) else (
 (I16 [.int .i64 (IntKind.wrap .i64 (n18+1))] w21∧m17 [.int .i64 (IntKind.wrap .i64 (n18+1))] w21<m17 [.int .i64 n18] w19))) else (
 ldS (a14.add 3) w19 fun s23b s23l s23c=>
 ∃(I24:JP) (m25:JN),I24 [.int .i64 0] w19∧
 ∀_:Env,∀n26 w27,I24 [.int .i64 n26] w27→
 bif (decide (n26<(s23l:Int))) then (
 ldS (a14.add 3) w27 fun s28b s28l s28c=>
 ixS s28b s28l n26 2 fun a29=>
 sto a29 (.int .i32 (-1)) w27 fun w30=>
 sto (a29.add 1) (.int .i32 (-1)) w30 fun w31=>
 (I24 [.int .i64 (IntKind.wrap .i64 (n26+1))] w31∧m25 [.int .i64 (IntKind.wrap .i64 (n26+1))] w31<m25 [.int .i64 n26] w27)) else (
 R (.tuple #[.pointer (some a14),.nilIface]) w27))))
theorem Qsj (n0 n1:Int):SH Qqc [.int .i64 n0,.int .i64 n1] (Qsv n0 n1):=cdn Tryz.func47 (.s .L (.j [] [] (.s .L (.c (.s .L .L) .L)) (.s .L (.s (.s .L (.c (.s .L .L) .L)) (.s .L (.s (.s .L (.c (.s .L .L) .L)) (.s .L (.s (.s .L (.b (.o [54] [.one (.int .i64)] (.s .L (.s (.c .L .L) (.s (.b (.s .L (.s .L (.s .L (.c (.s .L .L) .L))))) .L)))))) (.s (.s .L (.b (.o [69] [.one (.int .i64)] (.s .L (.s (.c .L .L) (.s (.b (.s .L .L)) .L)))))) (.s .L .L)))))))))) fun _ _=>by kernel_rfl
def Qki (p0:OA) (n1:Int) (w:World) (R:RV):Prop:=
 Calls Pg Qfe #[.pointer p0,.int .i64 n1] w fun e4 w3=>∃v2,e4=.returned v2∧
 isI v2∧bif (nilI v2) then (
 pt p0 fun a5=>
 ldS (a5.add 3) w3 fun s6b s6l s6c=>
 ixS s6b s6l n1 2 fun a7=>
 ldI .i32 a7 w3 fun n8=>
 ldI .i32 (a7.add 1) w3 fun n9=>
 ∃b10 w11,(do eqGuard .neq Qgk (.tmp 16) (.tmp 17) (.agg #[.int .i32 n8,.int .i32 n9]) (.agg #[.int .i32 (-1),.int .i32 (-1)]);binOp .neq Qgk (.agg #[.int .i32 n8,.int .i32 n9]) (.agg #[.int .i32 (-1),.int .i32 (-1)]):Sem Value).run Pg w3=.ok (.bool b10) w11∧
 R (.bool b10) w11) else (
 R (.bool false) w3)
theorem Qmb (p0:OA) (n1:Int):SH Qc0 [.pointer p0,.int .i64 n1] (Qki p0 n1):=cdn Tryz.func61 (.s .L (.s .L .L)) fun _ _=>by kernel_rfl
def Qhx (p0:OA) (n1 n2:Int) (w:World) (R:RV):Prop:=
 Calls Pg Qdd #[.pointer p0] w fun e5 w4=>∃p3,e5=.returned (.pointer p3)∧
 Calls Pg Qbz #[.pointer p3,.int .i64 n1,.int .i64 n2] w4 fun e9 w8=>∃b6 v7,e9=.returned (.tuple #[.bool b6,v7])∧
 R (.tuple #[.bool b6,v7]) w8
theorem Qip (p0:OA) (n1 n2:Int):SH Qbn [.pointer p0,.int .i64 n1,.int .i64 n2] (Qhx p0 n1 n2):=cdn Tryz.func62 (.s .L (.s .L .L)) fun _ _=>by kernel_rfl
def Qg8 (p0:OA) (n1:Int) (w:World) (R:RV):Prop:=
 Calls Pg Qfe #[.pointer p0,.int .i64 n1] w fun e4 w3=>∃v2,e4=.returned v2∧
 isI v2∧bif (!(nilI v2)) then (
 R v2 w3) else (
 Calls Pg Qc0 #[.pointer p0,.int .i64 n1] w3 fun e7 w6=>∃b5,e7=.returned (.bool b5)∧
 bif (!b5) then (
 R (.iface Qah (.int .i64 21)) w6) else (
 pt p0 fun a8=>
 ldS (a8.add 3) w6 fun s9b s9l s9c=>
 ixS s9b s9l n1 2 fun a10=>
 ldI .i32 a10 w6 fun n11=>
 ldI .i32 (a10.add 1) w6 fun n12=>
 ∃n13,0≤(0:Int)∧(0:Int)<((2:Nat):Int)∧(#[.int .i32 n11,.int .i32 n12]:Array Value)[(Int.toNat (0:Int))*1]?=some (.int .i32 n13)∧
 pt p0 fun a14=>
 ldP (a14.add 1) w6.drew fun p15=>
 pt p0 fun a16=>
 ldI .i64 (a16.add 2) w6.drew fun n17=>
 Calls Pg Qbd #[.pointer p15,.int .i64 (IntKind.wrap .i64 (n17+n1)),.int .i64 (IntKind.wrap .i64 n13)] w6.drew fun e20 w19=>∃v18,e20=.returned v18∧
 isI v18∧bif (!(nilI v18)) then (
 R v18 w19) else (
 ∃n21,0≤(1:Int)∧(1:Int)<((2:Nat):Int)∧(#[.int .i32 n11,.int .i32 n12]:Array Value)[(Int.toNat (1:Int))*1]?=some (.int .i32 n21)∧
 pt p0 fun a22=>
 ldP (a22.add 1) w19.drew fun p23=>
 pt p0 fun a24=>
 ldI .i64 (a24.add 2) w19.drew fun n25=>
 Calls Pg Qbd #[.pointer p23,.int .i64 (IntKind.wrap .i64 (n25+n1)),.int .i64 (IntKind.wrap .i64 n21)] w19.drew fun e28 w27=>∃v26,e28=.returned v26∧
 isI v26∧bif (!(nilI v26)) then (
 R v26 w27) else (
 pt p0 fun a29=>
 ldS (a29.add 3) w27 fun s30b s30l s30c=>
 ixS s30b s30l n1 2 fun a31=>
 sto a31 (.int .i32 (-1)) w27 fun w32=>
 sto (a31.add 1) (.int .i32 (-1)) w32 fun w33=>
 R .nilIface w33))))
theorem Qhm (p0:OA) (n1:Int):SH Qcn [.pointer p0,.int .i64 n1] (Qg8 p0 n1):=cdn Tryz.func70 (.s .L (.s (.s .L (.s .L (.c (.s .L .L) .L))) (.s (.s .L (.c (.s .L .L) .L)) (.s (.s .L (.b (.u 3 (.s .L (.s (.c .L .L) (.s (.b (.s .L (.s (.r (.t 0 3 (.tk 3 [12,13] [12] (.t 4 3 (.tk 7 [9,12,13] [12] (.t 8 4 (.one 12 (.t 13 1 .fin)))))))) (.s .L (.c (.s .L .L) .L))))) .L)))))) (.s .L (.s .L .L)))))) fun _ _=>by kernel_rfl
def Qkh (p0:OA) (n1:Int) (w:World) (R:RV):Prop:=
 Calls Pg Qdd #[.pointer p0] w fun e4 w3=>∃p2,e4=.returned (.pointer p2)∧
 Calls Pg Qd7 #[.pointer p2,.int .i64 n1] w3 fun e8 w7=>∃s5b s5l s5c v6,e8=.returned (.tuple #[.slice s5b s5l s5c,v6])∧
 R (.tuple #[.slice s5b s5l s5c,v6]) w7
theorem Qma (p0:OA) (n1:Int):SH Qh9 [.pointer p0,.int .i64 n1] (Qkh p0 n1):=cdn Tryz.func76 (.s .L (.s .L .L)) fun _ _=>by kernel_rfl
def Qq0 (p0:OA) (n1:Int) (w:World) (R:RV):Prop:=
 Calls Pg Qdd #[.pointer p0] w fun e4 w3=>∃p2,e4=.returned (.pointer p2)∧
 Calls Pg Qdh #[.pointer p2,.int .i64 n1] w3 fun e8 w7=>∃n5 v6,e8=.returned (.tuple #[.int .i64 n5,v6])∧
 R (.tuple #[.int .i64 n5,v6]) w7
theorem Qtc (p0:OA) (n1:Int):SH Qem [.pointer p0,.int .i64 n1] (Qq0 p0 n1):=cdn Tryz.func85 (.s .L (.s .L .L)) fun _ _=>by kernel_rfl
def Qnx (p0:OA) (n1:Int) (w:World) (R:RV):Prop:=
 bif (Option.isNone p0) then (
 R (.iface Qah (.int .i64 1)) w) else (
 bif (decide (n1<0)) then (
 R (.iface Qah (.int .i64 12)) w) else (
 pt p0 fun a2=>
 ldS (a2.add 3) w fun s3b s3l s3c=>
 bif (decide (n1 ≥ (s3l:Int))) then (
 R (.iface Qah (.int .i64 12)) w) else (
 R .nilIface w)))
theorem Qrk (p0:OA) (n1:Int):SH Qfe [.pointer p0,.int .i64 n1] (Qnx p0 n1):=cdn Tryz.func104 (.s .L (.s (.b (.s .L (.c (.s .L .L) (.s .L (.c (.s .L .L) .L))))) (.s .L .L))) fun _ _=>by kernel_rfl
def Qnw (p0:OA) (w:World) (R:RV):Prop:=
 bif (Option.isNone p0) then (
 R (.pointer none) w) else (
 pt p0 fun a1=>
 ldP a1 w fun p2=>
 R (.pointer p2) w)
theorem Qrj (p0:OA):SH Qdd [.pointer p0] (Qnw p0):=cdn Tryz.func105 (.s .L (.s (.s .L (.c (.s .L .L) .L)) (.s .L .L))) fun _ _=>by kernel_rfl
def Qfp (p0:OA) (n1 n2:Int) (w:World) (R:RV):Prop:=
 Calls Pg Qjf #[.pointer p0,.int .i64 n1,.int .i64 n2] w fun e5 w4=>∃v3,e5=.returned v3∧
 isI v3∧bif (!(nilI v3)) then (
 R (.tuple #[.int .i64 0,v3]) w4) else (
 pt p0 fun a6=>
 ldP (a6.add 1) w4 fun p7=>
 Calls Pg Qcy #[.pointer p7,.int .i64 n1,.int .i64 n2] w4 fun e11 w10=>∃n8 v9,e11=.returned (.tuple #[.int .i64 n8,v9])∧
 isI v9∧bif (!(nilI v9)) then (
 R (.tuple #[.int .i64 0,v9]) w10) else (
 pt p0 fun a12=>
 ldI .i64 (a12.add 2) w10 fun n13=>
 bif (decide (n8<n13)) then (
 R (.tuple #[.int .i64 (-1),.nilIface]) w10) else (
 pt p0 fun a14=>
 ldI .i64 (a14.add 2) w10 fun n15=>
 R (.tuple #[.int .i64 (IntKind.wrap .i64 (n8-n15)),.nilIface]) w10)))
theorem Qgb (p0:OA) (n1 n2:Int):SH Qcd [.pointer p0,.int .i64 n1,.int .i64 n2] (Qfp p0 n1 n2):=cdn Tryz.func112 (.s .L (.s (.s .L (.s .L (.c (.s .L .L) .L))) (.s .L (.s (.b (.s .L (.c (.s .L .L) (.s .L (.c (.s .L .L) .L))))) (.s .L .L))))) fun _ _=>by kernel_rfl
def Qha (p0:OA) (n1:Int) (w:World) (R:RV):Prop:=
 Calls Pg Qdd #[.pointer p0] w fun e4 w3=>∃p2,e4=.returned (.pointer p2)∧
 Calls Pg Qd8 #[.pointer p2,.int .i64 n1] w3 fun e8 w7=>∃n5 v6,e8=.returned (.tuple #[.int .i64 n5,v6])∧
 isI v6∧bif (!(nilI v6)) then (
 R v6 w7) else (
 bif (n5==n1) then (
 R (.iface Qah (.int .i64 20)) w7) else (
 Calls Pg Qbu #[.pointer p0,.int .i64 n1,.int .i64 n5] w7 fun e11 w10=>∃v9,e11=.returned v9∧
 R v9 w10))
theorem Qho (p0:OA) (n1:Int):SH Qco [.pointer p0,.int .i64 n1] (Qha p0 n1):=cdn Tryz.func113 (.s .L (.s .L (.s (.b (.s .L (.c (.s .L .L) (.s .L (.c (.s .L .L) .L))))) (.s .L .L)))) fun _ _=>by kernel_rfl
def Qfd (p0:OA) (n1 n2:Int) (w:World) (R:RV):Prop:=
 Calls Pg Qbn #[.pointer p0,.int .i64 n1,.int .i64 n2] w fun e6 w5=>∃b3 v4,e6=.returned (.tuple #[.bool b3,v4])∧
 isI v4∧bif (!(nilI v4)) then (
 R v4 w5) else (
 bif (n1==n2) then (
 R (.iface Qah (.int .i64 20)) w5) else (
 bif (!b3) then (
 R (.iface Qah (.int .i64 21)) w5) else (
 Calls Pg Qf8 #[.pointer p0,.int .i64 n1] w5 fun e9 w8=>∃v7,e9=.returned v7∧
 isI v7∧bif (!(nilI v7)) then (
 R v7 w8) else (
 pt p0 fun a10=>
 ldP a10 w8 fun p11=>
 Calls Pg Qci #[.pointer p11,.int .i64 n2] w8 fun e15 w14=>∃n12 v13,e15=.returned (.tuple #[.int .i64 n12,v13])∧
 isI v13∧bif (!(nilI v13)) then (
 R v13 w14) else (
 pt p0 fun a16=>
 ldP (a16.add 1) w14 fun p17=>
 Calls Pg Qbd #[.pointer p17,.int .i64 n12,.int .i64 n2] w14 fun e20 w19=>∃v18,e20=.returned v18∧
 isI v18∧bif (!(nilI v18)) then (
 R v18 w19) else (
 pt p0 fun a21=>
 ldP a21 w19 fun p22=>
 Calls Pg Qb4 #[.pointer p22,.int .i64 n1,.int .i64 n2] w19 fun e25 w24=>∃v23,e25=.returned v23∧
 R v23 w24))))))
theorem Qfa (p0:OA) (n1 n2:Int):SH Qbu [.pointer p0,.int .i64 n1,.int .i64 n2] (Qfd p0 n1 n2):=cdn Tryz.func114 (.s .L (.s .L (.s (.b (.s .L (.c (.s .L .L) (.s .L (.c (.s .L .L) (.s .L (.c (.s .L .L) .L))))))) (.s (.s .L (.s .L (.c (.s .L .L) .L))) (.s .L (.s (.s .L (.c (.s .L .L) .L)) (.s (.s .L (.s .L (.c (.s .L .L) .L))) (.s .L .L)))))))) fun _ _=>by kernel_rfl
def Qg9 (p0:OA) (n1 n2:Int) (w:World) (R:RV):Prop:=
 Calls Pg Qew #[.pointer p0,.int .i64 n1,.int .i64 n2] w fun e6 w5=>∃b3 v4,e6=.returned (.tuple #[.bool b3,v4])∧
 isI v4∧bif (!(nilI v4)) then (
 R v4 w5) else (
 bif b3 then (
 R (.iface Qah (.int .i64 20)) w5) else (
 Calls Pg Qf8 #[.pointer p0,.int .i64 n1] w5 fun e9 w8=>∃v7,e9=.returned v7∧
 isI v7∧bif (!(nilI v7)) then (
 R v7 w8) else (
 Calls Pg Qf8 #[.pointer p0,.int .i64 n2] w8 fun e12 w11=>∃v10,e12=.returned v10∧
 isI v10∧bif (!(nilI v10)) then (
 R v10 w11) else (
 pt p0 fun a13=>
 ldP a13 w11 fun p14=>
 Calls Pg Qci #[.pointer p14,.int .i64 n1] w11 fun e18 w17=>∃n15 v16,e18=.returned (.tuple #[.int .i64 n15,v16])∧
 isI v16∧bif (!(nilI v16)) then (
 R v16 w17) else (
 pt p0 fun a19=>
 ldP (a19.add 1) w17 fun p20=>
 Calls Pg Qa6 #[.pointer p20,.int .i64 n15,.int .i64 n2] w17 fun e23 w22=>∃v21,e23=.returned v21∧
 isI v21∧bif (!(nilI v21)) then (
 R v21 w22) else (
 pt p0 fun a24=>
 ldP a24 w22 fun p25=>
 Calls Pg Qcv #[.pointer p25,.int .i64 n1,.int .i64 n2] w22 fun e28 w27=>∃v26,e28=.returned v26∧
 R v26 w27))))))
theorem Qhn (p0:OA) (n1 n2:Int):SH Qbc [.pointer p0,.int .i64 n1,.int .i64 n2] (Qg9 p0 n1 n2):=cdn Tryz.func115 (.s .L (.s .L (.s (.b (.s .L (.c (.s .L .L) (.s .L (.c (.s .L .L) .L))))) (.s (.s .L (.s .L (.c (.s .L .L) .L))) (.s (.s .L (.s .L (.c (.s .L .L) .L))) (.s .L (.s (.s .L (.c (.s .L .L) .L)) (.s (.s .L (.s .L (.c (.s .L .L) .L))) (.s .L .L))))))))) fun _ _=>by kernel_rfl
def Qqz (p0:OA) (n1 n2:Int) (w:World) (R:RV):Prop:=
 bif (Option.isNone p0) then (
 R (.iface Qah (.int .i64 1)) w) else (
 bif (decide (n1<0)) then (
 R (.iface Qah (.int .i64 12)) w) else (
 pt p0 fun a3=>
 ldI .i64 (a3.add 2) w fun n4=>
 bif (decide (n1 ≥ n4)) then (
 R (.iface Qah (.int .i64 12)) w) else (
 bif (decide (n2<0)) then (
 R (.iface Qah (.int .i64 12)) w) else (
 pt p0 fun a5=>
 ldI .i64 (a5.add 2) w fun n6=>
 bif (decide (n2 ≥ n6)) then (
 R (.iface Qah (.int .i64 12)) w) else (
 R .nilIface w)))))
theorem Qtb (p0:OA) (n1 n2:Int):SH Qjf [.pointer p0,.int .i64 n1,.int .i64 n2] (Qqz p0 n1 n2):=cdn Tryz.func141 (.s .L (.s (.b (.s .L (.c (.s .L .L) (.s .L (.c (.s .L .L) .L))))) (.s .L .L))) fun _ _=>by kernel_rfl
def Qom (p0:OA) (n1:Int) (w:World) (R:RV):Prop:=
 Calls Pg Qdd #[.pointer p0] w fun e4 w3=>∃p2,e4=.returned (.pointer p2)∧
 Calls Pg Qcw #[.pointer p2,.int .i64 n1] w3 fun e8 w7=>∃n5 v6,e8=.returned (.tuple #[.int .i64 n5,v6])∧
 ∃J9:JP,(
 isI v6∧bif (!(nilI v6)) then (
 R v6 w7) else (
 bif (n5==n1) then (
 R v6 w7) else (
 J9 [] w7)))∧∀_:Env,∀w10,J9 [] w10→
 pt p0 fun a11=>
 ldP a11 w10 fun p12=>
 Calls Pg Qci #[.pointer p12,.int .i64 n5] w10 fun e16 w15=>∃n13 v14,e16=.returned (.tuple #[.int .i64 n13,v14])∧
 isI v14∧bif (!(nilI v14)) then (
 R v14 w15) else (
 pt p0 fun a17=>
 ldP a17 w15 fun p18=>
 Calls Pg Qci #[.pointer p18,.int .i64 n1] w15 fun e22 w21=>∃n19 v20,e22=.returned (.tuple #[.int .i64 n19,v20])∧
 isI v20∧bif (!(nilI v20)) then (
 R v20 w21) else (
 pt p0 fun a23=>
 ldP (a23.add 1) w21 fun p24=>
 Calls Pg Qbd #[.pointer p24,.int .i64 n19,.int .i64 n1] w21 fun e27 w26=>∃v25,e27=.returned v25∧
 isI v25∧bif (!(nilI v25)) then (
 R v25 w26) else (
 pt p0 fun a28=>
 ldP (a28.add 1) w26 fun p29=>
 Calls Pg Qa6 #[.pointer p29,.int .i64 n13,.int .i64 n5] w26 fun e32 w31=>∃v30,e32=.returned v30∧
 isI v30∧bif (!(nilI v30)) then (
 R v30 w31) else (
 pt p0 fun a33=>
 ldP a33 w31 fun p34=>
 Calls Pg Qby #[.pointer p34,.int .i64 n1] w31 fun e37 w36=>∃v35,e37=.returned v35∧
 R v35 w36))))
theorem Qsi (p0:OA) (n1:Int):SH Qf8 [.pointer p0,.int .i64 n1] (Qom p0 n1):=cdn Tryz.func144 (.s .L (.s .L (.j [] [] (.s .L (.c (.s .L .L) .L)) (.s .L (.s (.s .L (.c (.s .L .L) .L)) (.s .L (.s (.s .L (.c (.s .L .L) .L)) (.s (.s .L (.s .L (.c (.s .L .L) .L))) (.s (.s .L (.s .L (.c (.s .L .L) .L))) (.s .L .L)))))))))) fun _ _=>by kernel_rfl
def Qi1 (p0:OA) (n1 n2:Int) (w:World) (R:RV):Prop:=
 Calls Pg Qjf #[.pointer p0,.int .i64 n1,.int .i64 n2] w fun e5 w4=>∃v3,e5=.returned v3∧
 isI v3∧bif (!(nilI v3)) then (
 R (.tuple #[.bool false,v3]) w4) else (
 pt p0 fun a6=>
 ldP (a6.add 1) w4 fun p7=>
 Calls Pg Qcl #[.pointer p7,.int .i64 n1,.int .i64 n2] w4 fun e11 w10=>∃b8 v9,e11=.returned (.tuple #[.bool b8,v9])∧
 R (.tuple #[.bool b8,v9]) w10)
theorem Qka (p0:OA) (n1 n2:Int):SH Qew [.pointer p0,.int .i64 n1,.int .i64 n2] (Qi1 p0 n1 n2):=cdn Tryz.func147 (.s .L (.s (.s .L (.s .L (.c (.s .L .L) .L))) (.s .L .L))) fun _ _=>by kernel_rfl
def Qg7 (p0:OA) (n1 n2 n3 n4:Int) (w:World) (R:RV):Prop:=
 Calls Pg Qfe #[.pointer p0,.int .i64 n1] w fun e7 w6=>∃v5,e7=.returned v5∧
 isI v5∧bif (!(nilI v5)) then (
 R v5 w6) else (
 Calls Pg Qew #[.pointer p0,.int .i64 n2,.int .i64 n3] w6 fun e11 w10=>∃b8 v9,e11=.returned (.tuple #[.bool b8,v9])∧
 isI v9∧bif (!(nilI v9)) then (
 R v9 w10) else (
 bif (n4==9223372036854775807) then (
 R (.iface Qah (.int .i64 1)) w10) else (
 bif b8 then (
 R (.iface Qah (.int .i64 20)) w10) else (
 Calls Pg Qc0 #[.pointer p0,.int .i64 n1] w10 fun e14 w13=>∃b12,e14=.returned (.bool b12)∧
 bif b12 then (
 R (.iface Qah (.int .i64 20)) w13) else (
 pt p0 fun a15=>
 ldI .i64 (a15.add 2) w13 fun n16=>
 pt p0 fun a17=>
 ldP (a17.add 1) w13 fun p18=>
 Calls Pg Qb8 #[.pointer p18,.int .i64 (IntKind.wrap .i64 (n16+n1)),.int .i64 n4] w13 fun e21 w20=>∃v19,e21=.returned v19∧
 isI v19∧bif (!(nilI v19)) then (
 R v19 w20) else (
 pt p0 fun a22=>
 ldP (a22.add 1) w20 fun p23=>
 Calls Pg Qa6 #[.pointer p23,.int .i64 n2,.int .i64 (IntKind.wrap .i64 (n16+n1))] w20 fun e26 w25=>∃v24,e26=.returned v24∧
 isI v24∧bif (!(nilI v24)) then (
 R v24 w25) else (
 pt p0 fun a27=>
 ldS (a27.add 3) w25 fun s28b s28l s28c=>
 ixS s28b s28l n1 2 fun a29=>
 sto a29 (.int .i32 (IntKind.wrap .i32 n2)) w25 fun w30=>
 sto (a29.add 1) (.int .i32 (IntKind.wrap .i32 n3)) w30 fun w31=>
 pt p0 fun a32=>
 ldP (a32.add 1) w31 fun p33=>
 Calls Pg Qa6 #[.pointer p33,.int .i64 (IntKind.wrap .i64 (n16+n1)),.int .i64 n3] w31 fun e36 w35=>∃v34,e36=.returned v34∧
 R v34 w35)))))))
theorem Qgw (p0:OA) (n1 n2 n3 n4:Int):SH Qfj [.pointer p0,.int .i64 n1,.int .i64 n2,.int .i64 n3,.int .i64 n4] (Qg7 p0 n1 n2 n3 n4):=cdn Tryz.func150 (.s .L (.s (.s .L (.s .L (.c (.s .L .L) .L))) (.s .L (.s (.b (.s .L (.c (.s .L .L) (.s .L (.c (.s .L .L) (.s .L (.c (.s .L .L) .L))))))) (.s .L (.s (.s .L (.s .L (.c (.s .L .L) .L))) (.s (.s .L (.s .L (.c (.s .L .L) .L))) (.s .L (.s .L .L))))))))) fun _ _=>by kernel_rfl
end Go.Proofs.YtpmicakdjhoafaaGreatDoor
