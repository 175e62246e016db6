/-
What each function does, as one formula, printed by a program of this session out of the translation; the kernel holds each print against the translation.
Conditions: none.
-/
import Derived.Test.YtpmicakdjhoafaaGreatDoorSn
set_option linter.unusedVariables false
namespace Go.Proofs.YtpmicakdjhoafaaGreatDoor
open Go
set_option maxRecDepth 100000
def Qhz (s0b:OA) (s0l s0c:Nat) (n1:Int) (w:World) (R:RV):Prop:=
 ∃(I2:JP) (m3:JN),I2 [.int .i64 0] w∧
 ∀_:Env,∀n4 w5,I2 [.int .i64 n4] w5→
 bif (decide (n4<(s0l:Int))) then (
 ixS s0b s0l n4 1 fun a6=>
 ldI .i64 a6 w5 fun n7=>
 bif (n1==n7) then (
 R (.int .i64 n4) w5) else (
 (I2 [.int .i64 (IntKind.wrap .i64 (n4+1))] w5∧m3 [.int .i64 (IntKind.wrap .i64 (n4+1))] w5<m3 [.int .i64 n4] w5))) else (
 R (.int .i64 (-1)) w5)
theorem Qkz (s0b:OA) (s0l s0c:Nat) (n1:Int):SH Qe5 [.slice s0b s0l s0c,.int .i64 n1] (Qhz s0b s0l s0c n1):=cdn Tryz.func155 (.s .L (.s (.s .L (.b (.o [8] [.one (.int .i64)] (.s .L (.s (.c .L .L) (.s (.b (.s .L (.s .L (.c (.s .L .L) .L)))) .L)))))) (.s .L .L))) fun _ _=>by kernel_rfl
def Qhr (s0b:OA) (s0l s0c:Nat) (w:World) (R:RV):Prop:=
 ∃(I1:JP) (m2:JN),I1 [.int .i64 0,.int .i64 0] w∧
 ∀_:Env,∀n3 n4 w5,I1 [.int .i64 n3,.int .i64 n4] w5→
 bif (decide (n4<(s0l:Int))) then (
 ixS s0b s0l n4 1 fun a6=>
 ldS a6 w5 fun s7b s7l s7c=>
 bif (decide ((IntKind.wrap .i64 (n3+(s7l:Int)))<0)) then (
 False) else (
 (I1 [.int .i64 (IntKind.wrap .i64 (n3+(s7l:Int))),.int .i64 (IntKind.wrap .i64 (n4+1))] w5∧m2 [.int .i64 (IntKind.wrap .i64 (n3+(s7l:Int))),.int .i64 (IntKind.wrap .i64 (n4+1))] w5<m2 [.int .i64 n3,.int .i64 n4] w5))) else (
 Calls Pg Qfk #[.slice none 0 0,.int .i64 n3] w5 fun e10 w9=>∃s8b s8l s8c,e10=.returned (.slice s8b s8l s8c)∧
 ∃(I11:JP) (m12:JN),I11 [.slice s8b s8l s8c,.int .i64 0] w9∧
 ∀_:Env,∀s13b s13l s13c n14 w15,I11 [.slice s13b s13l s13c,.int .i64 n14] w15→
 bif (decide (n14<(s0l:Int))) then (
 ixS s0b s0l n14 1 fun a16=>
 ldS a16 w15 fun s17b s17l s17c=>
 ∃s18b s18l s18c w19,(Builtin.append_ #[Qam,Qam] Qam #[.slice s13b s13l s13c,.slice s17b s17l s17c]).run Pg w15=.ok (.slice s18b s18l s18c) w19∧
 (I11 [.slice s18b s18l s18c,.int .i64 (IntKind.wrap .i64 (n14+1))] w19∧m12 [.slice s18b s18l s18c,.int .i64 (IntKind.wrap .i64 (n14+1))] w19<m12 [.slice s13b s13l s13c,.int .i64 n14] w15)) else (
 R (.slice s13b s13l s13c) w15))
theorem Qkv (s0b:OA) (s0l s0c:Nat):SH Qex [.slice s0b s0l s0c] (Qhr s0b s0l s0c):=cdn Tryz.func156 (.s .L (.s .L (.s (.s .L (.b (.o [3,11] [.one (.int .i64),.one (.int .i64)] (.s .L (.s (.c .L .L) (.s (.b (.s .L (.s .L (.s .L (.c .L .L))))) .L)))))) (.s .L (.s (.s .L (.b (.o [6,27] [.one .slc,.one (.int .i64)] (.s .L (.s (.c .L .L) (.s (.b (.s .L .L)) .L)))))) (.s .L .L)))))) fun _ _=>by kernel_rfl
def Qe3 (s0b:OA) (s0l s0c:Nat) (w:World) (R:RV):Prop:=
 alo #[.slice s0b s0l s0c] Qbo w fun a1 w2=>
 R (.func (.func Qao) #[] #[.pointer (some a1)]) w2
theorem Qir (s0b:OA) (s0l s0c:Nat):SH Qc1 [.slice s0b s0l s0c] (Qe3 s0b s0l s0c):=cdn Tryz.func160 (.s .L (.s .L .L)) fun _ _=>by kernel_rfl
def Qit (s0b:OA) (s0l s0c:Nat) (n1:Int) (w:World) (R:RV):Prop:=
 bif (decide (n1<0)) then (
 False) else (
 bif (decide ((IntKind.wrap .i64 (n1-(IntKind.wrap .i64 ((s0c:Int)-(s0l:Int)))))>0)) then (
 0≤(s0c:Int)∧(s0c:Int)≤((s0c:Nat):Int)∧∃s2b s2l s2c w3,(Builtin.append_ #[Qam,Qbl] Qam #[.slice (if s0c=0 then s0b else Option.map (fun a=>Addr.add a (0*1)) s0b) ((Int.toNat (s0c:Int))-0) (s0c-0),.int .i64 (IntKind.wrap .i64 (n1-(IntKind.wrap .i64 ((s0c:Int)-(s0l:Int)))))]).run Pg w=.ok (.slice s2b s2l s2c) w3∧
 0≤(s0l:Int)∧(s0l:Int)≤((s2c:Nat):Int)∧R (.slice (if s2c=0 then s2b else Option.map (fun a=>Addr.add a (0*1)) s2b) ((Int.toNat (s0l:Int))-0) (s2c-0)) w3) else (
 R (.slice s0b s0l s0c) w))
theorem Qmj (s0b:OA) (s0l s0c:Nat) (n1:Int):SH Qfk [.slice s0b s0l s0c,.int .i64 n1] (Qit s0b s0l s0c n1):=cdn Tryz.func174 (.s .L (.s (.s .L (.c .L .L)) (.s (.s .L (.s .L (.c .L .L))) (.s .L .L)))) fun _ _=>by kernel_rfl
def Qsw (n0:Int) (w:World) (R:RV):Prop:=
 ∃J1:JP,(
 bif (decide (n0<1)) then (
 R (.tuple #[.pointer none,.iface Qah (.int .i64 1)]) w) else (
 bif (decide (n0>8388608)) then (
 R (.tuple #[.pointer none,.iface Qah (.int .i64 1)]) w) else (
 J1 [] w)))∧∀_:Env,∀w2,J1 [] w2→
 0≤n0∧n0≤n0∧(56:Int)*n0≤140737488355328∧alo (Qav #[(.int .i32 0),(.int .i32 0),(.int .i32 0),(.bool false),(.int .i32 0),(.int .i64 0),(.int .i64 0),(.int .i64 0),(.int .i64 0)] (Int.toNat n0)) Qe2 w2 fun a3 w4=>
 alo #[.slice (some a3) (Int.toNat n0) (Int.toNat n0)] Qjt w4 fun a5 w6=>
 ldS a5 w6 fun s7b s7l s7c=>
 ∃(I8:JP) (m9:JN),I8 [.int .i64 0] w6∧
 ∀_:Env,∀n10 w11,I8 [.int .i64 n10] w11→
 bif (decide (n10<(s7l:Int))) then (
 ldS a5 w11 fun s12b s12l s12c=>
 ixS s12b s12l n10 9 fun a13=>
 sto a13 (.int .i32 (-1)) w11 fun w14=>
 sto (a13.add 1) (.int .i32 (-1)) w14 fun w15=>
 sto (a13.add 2) (.int .i32 (-1)) w15 fun w16=>
 sto (a13.add 3) (.bool false) w16 fun w17=>
 sto (a13.add 4) (.int .i32 1) w17 fun w18=>
 sto (a13.add 5) (.int .i64 0) w18 fun w19=>
 sto (a13.add 6) (.int .i64 0) w19 fun w20=>
 sto (a13.add 7) (.int .i64 0) w20 fun w21=>
 sto (a13.add 8) (.int .i64 0) w21 fun w22=>
 (I8 [.int .i64 (IntKind.wrap .i64 (n10+1))] w22∧m9 [.int .i64 (IntKind.wrap .i64 (n10+1))] w22<m9 [.int .i64 n10] w11)) else (
 R (.tuple #[.pointer (some a5),.nilIface]) w11)
theorem Qsk (n0:Int):SH Qqd [.int .i64 n0] (Qsw n0):=cdn Tryz.func131 (.s .L (.j [] [] (.s .L (.c (.s .L .L) .L)) (.s .L (.s (.s .L (.b (.o [22] [.one (.int .i64)] (.s .L (.s (.c .L .L) (.s (.b (.s .L .L)) .L)))))) (.s .L .L))))) fun _ _=>by kernel_rfl
def Qdy (p0:OA) (n1 n2:Int) (w:World) (R:RV):Prop:=
 alo #[.int .i64 n1,.int .i64 n2] Qbl w fun a3 w4=>
 Calls Pg Qbm #[.pointer p0,.slice (some a3) 2 2] w4 fun e7 w6=>∃v5,e7=.returned v5∧
 isI v5∧bif (!(nilI v5)) then (
 R (.tuple #[.bool false,v5]) w6) else (
 Calls Pg Qd5 #[.pointer p0,.int .i32 (IntKind.wrap .i32 n1),.int .i32 (IntKind.wrap .i32 n2)] w6 fun e10 w9=>∃b8,e10=.returned (.bool b8)∧
 R (.tuple #[.bool b8,.nilIface]) w9)
theorem Qef (p0:OA) (n1 n2:Int):SH Qc3 [.pointer p0,.int .i64 n1,.int .i64 n2] (Qdy p0 n1 n2):=cdn Tryz.func137 (.s .L (.s (.s .L (.s .L (.c (.s .L .L) .L))) (.s .L .L))) fun _ _=>by kernel_rfl
def Qfr (p0:OA) (n1:Int) (w:World) (R:RV):Prop:=
 Calls Pg Qb6 #[.pointer p0,.int .i64 n1] w fun e5 w4=>∃p2 v3,e5=.returned (.tuple #[.pointer p2,v3])∧
 isI v3∧bif (!(nilI v3)) then (
 R (.tuple #[.slice none 0 0,v3]) w4) else (
 ∃(I6:JP) (m7:JN),I6 [.slice none 0 0,.int .i32 (IntKind.wrap .i32 n1),.slice none 0 0] w4∧
 ∀_:Env,∀s8b s8l s8c n9 s10b s10l s10c w11,I6 [.slice s8b s8l s8c,.int .i32 n9,.slice s10b s10l s10c] w11→
 ∃J12:JP,(
 bif (n9 != (-1)) then (
 J12 [] w11) else (
 bif (decide ((s8l:Int)>0)) then (
 J12 [] w11) else (
 R (.tuple #[.slice s10b s10l s10c,.nilIface]) w11)))∧∀_:Env,∀w13,J12 [] w13→
 ∃(I14:JP) (m15:JN),I14 [.slice s8b s8l s8c,.int .i32 n9] w13∧
 ∀_:Env,∀s16b s16l s16c n17 w18,I14 [.slice s16b s16l s16c,.int .i32 n17] w18→
 bif (n17 != (-1)) then (
 Calls Pg Qcf #[.pointer p0,.int .i32 n17] w18 fun e20 w19=>e20=.returned (.tuple #[])∧
 alo #[.int .i32 n17] Qbb w19 fun a21 w22=>
 ∃s23b s23l s23c w24,(Builtin.append_ #[Qbo,Qbo] Qbo #[.slice s16b s16l s16c,.slice (some a21) 1 1]).run Pg w22=.ok (.slice s23b s23l s23c) w24∧
 pt p0 fun a25=>
 ldS a25 w24 fun s26b s26l s26c=>
 ixS s26b s26l n17 9 fun a27=>
 ldI .i32 (a27.add 1) w24 fun n28=>
 (I14 [.slice s23b s23l s23c,.int .i32 n28] w24∧m15 [.slice s23b s23l s23c,.int .i32 n28] w24<m15 [.slice s16b s16l s16c,.int .i32 n17] w18)) else (
 ixS s16b s16l (IntKind.wrap .i64 ((s16l:Int)-1)) 1 fun a29=>
 ldI .i32 a29 w18 fun n30=>
 0≤(IntKind.wrap .i64 ((s16l:Int)-1))∧(IntKind.wrap .i64 ((s16l:Int)-1))≤((s16c:Nat):Int)∧alo #[.int .i64 (IntKind.wrap .i64 n30)] Qbl w18 fun a31 w32=>
 ∃s33b s33l s33c w34,(Builtin.append_ #[Qam,Qam] Qam #[.slice s10b s10l s10c,.slice (some a31) 1 1]).run Pg w32=.ok (.slice s33b s33l s33c) w34∧
 pt p0 fun a35=>
 ldS a35 w34 fun s36b s36l s36c=>
 ixS s36b s36l n30 9 fun a37=>
 ldI .i32 (a37.add 2) w34 fun n38=>
 (I6 [.slice (if s16c=0 then s16b else Option.map (fun a=>Addr.add a (0*1)) s16b) ((Int.toNat (IntKind.wrap .i64 ((s16l:Int)-1)))-0) (s16c-0),.int .i32 n38,.slice s33b s33l s33c] w34∧m7 [.slice (if s16c=0 then s16b else Option.map (fun a=>Addr.add a (0*1)) s16b) ((Int.toNat (IntKind.wrap .i64 ((s16l:Int)-1)))-0) (s16c-0),.int .i32 n38,.slice s33b s33l s33c] w34<m7 [.slice s8b s8l s8c,.int .i32 n9,.slice s10b s10l s10c] w11)))
theorem Qgd (p0:OA) (n1:Int):SH Qcg [.pointer p0,.int .i64 n1] (Qfr p0 n1):=cdn Tryz.func154 (.s .L (.s (.s .L (.s .L (.c (.s .L .L) .L))) (.s .L (.s .L (.s .L (.s (.b (.o [9,10,8] [.one .slc,.one (.int .i32),.one .slc] (.j [] [] (.s .L (.c .L .L)) (.b (.s (.b (.o [9,10] [.one .slc,.one (.int .i32)] (.s (.s .L (.c .L .L)) (.s (.b (.s .L .L)) .L)))) (.s .L (.s .L (.s .L .L)))))))) (.s .L .L))))))) fun _ _=>by kernel_rfl
def Qfq (p0:OA) (n1:Int) (w:World) (R:RV):Prop:=
 Calls Pg Qb6 #[.pointer p0,.int .i64 n1] w fun e5 w4=>∃p2 v3,e5=.returned (.tuple #[.pointer p2,v3])∧
 isI v3∧bif (!(nilI v3)) then (
 R (.tuple #[.int .i64 0,v3]) w4) else (
 pt p2 fun a6=>
 ldI .i32 (a6.add 4) w4 fun n7=>
 R (.tuple #[.int .i64 (IntKind.wrap .i64 n7),.nilIface]) w4)
theorem Qgc (p0:OA) (n1:Int):SH Qd6 [.pointer p0,.int .i64 n1] (Qfq p0 n1):=cdn Tryz.func158 (.s .L (.s .L (.s (.s .L (.c (.s .L .L) .L)) (.s .L .L)))) fun _ _=>by kernel_rfl
def Qhg (p0 s1b:OA) (s1l s1c:Nat) (w:World) (R:RV):Prop:=
 bif (Option.isNone p0) then (
 R (.iface Qah (.int .i64 1)) w) else (
 ∃(I2:JP) (m3:JN),I2 [.int .i64 0] w∧
 ∀_:Env,∀n4 w5,I2 [.int .i64 n4] w5→
 bif (decide (n4<(s1l:Int))) then (
 ixS s1b s1l n4 1 fun a6=>
 ldI .i64 a6 w5 fun n7=>
 bif (decide (n7<0)) then (
 R (.iface Qah (.int .i64 12)) w5) else (
 pt p0 fun a8=>
 ldS a8 w5 fun s9b s9l s9c=>
 bif (decide (n7 ≥ (s9l:Int))) then (
 R (.iface Qah (.int .i64 12)) w5) else (
 (I2 [.int .i64 (IntKind.wrap .i64 (n4+1))] w5∧m3 [.int .i64 (IntKind.wrap .i64 (n4+1))] w5<m3 [.int .i64 n4] w5)))) else (
 R .nilIface w5))
theorem Qiz (p0 s1b:OA) (s1l s1c:Nat):SH Qbm [.pointer p0,.slice s1b s1l s1c] (Qhg p0 s1b s1l s1c):=cdn Tryz.func164 (.s .L (.s (.s .L (.c (.s .L .L) .L)) (.s (.s .L (.b (.o [12] [.one (.int .i64)] (.s .L (.s (.c .L .L) (.s (.b (.s .L (.s .L (.c (.s .L .L) .L)))) .L)))))) (.s .L .L)))) fun _ _=>by kernel_rfl
def Qh0 (p0:OA) (n1 n2:Int) (w:World) (R:RV):Prop:=
 bif (n1==n2) then (
 R (.bool true) w) else (
 Calls Pg Qax #[.pointer p0,.int .i32 n1] w fun e4 w3=>e4=.returned (.tuple #[])∧
 Calls Pg Qax #[.pointer p0,.int .i32 n2] w3 fun e6 w5=>e6=.returned (.tuple #[])∧
 pt p0 fun a7=>
 ldS a7 w5 fun s8b s8l s8c=>
 ixS s8b s8l n1 9 fun a9=>
 ldI .i32 a9 w5 fun n10=>
 R (.bool (n10 != (-1))) w5)
theorem Qjn (p0:OA) (n1 n2:Int):SH Qd5 [.pointer p0,.int .i32 n1,.int .i32 n2] (Qh0 p0 n1 n2):=cdn Tryz.func165 (.s .L (.s (.s .L (.c (.s .L .L) .L)) (.s .L (.s .L (.s .L .L))))) fun _ _=>by kernel_rfl
def Qeu (p0:OA) (n1:Int) (w:World) (R:RV):Prop:=
 alo #[.int .i64 n1] Qbl w fun a2 w3=>
 Calls Pg Qbm #[.pointer p0,.slice (some a2) 1 1] w3 fun e6 w5=>∃v4,e6=.returned v4∧
 isI v4∧bif (!(nilI v4)) then (
 R (.tuple #[.bool false,v4]) w5) else (
 Calls Pg Qax #[.pointer p0,.int .i32 (IntKind.wrap .i32 n1)] w5 fun e8 w7=>e8=.returned (.tuple #[])∧
 pt p0 fun a9=>
 ldS a9 w7 fun s10b s10l s10c=>
 ixS s10b s10l (IntKind.wrap .i32 n1) 9 fun a11=>
 ldI .i32 (a11.add 1) w7 fun n12=>
 bif (n12==(-1)) then (
 R (.tuple #[.bool false,.nilIface]) w7) else (
 pt p0 fun a13=>
 ldS a13 w7.drew fun s14b s14l s14c=>
 pt p0 fun a15=>
 ldS a15 w7.drew fun s16b s16l s16c=>
 ixS s14b s14l n12 9 fun a17=>
 sto a17 (.int .i32 (-1)) w7.drew fun w18=>
 ixS s16b s16l (IntKind.wrap .i32 n1) 9 fun a19=>
 sto (a19.add 1) (.int .i32 (-1)) w18 fun w20=>
 Calls Pg Qar #[.pointer p0,.int .i32 (IntKind.wrap .i32 n1)] w20 fun e22 w21=>e22=.returned (.tuple #[])∧
 R (.tuple #[.bool true,.nilIface]) w21))
theorem Qer (p0:OA) (n1:Int):SH Qb7 [.pointer p0,.int .i64 n1] (Qeu p0 n1):=cdn Tryz.func170 (.s .L (.s (.s .L (.s .L (.c (.s .L .L) .L))) (.s .L (.s .L (.s .L (.s (.s .L (.c (.s .L .L) .L)) (.s (.r (.t 0 3 (.tk 3 [10,11,12,13,14,15] [12,15] (.t 4 4 (.tk 8 [10,11,12,13,14,15] [12,15] (.t 9 3 (.one 12 (.t 13 2 (.one 15 .fin))))))))) (.s .L (.s .L .L))))))))) fun _ _=>by kernel_rfl
def Qdz (p0:OA) (n1 n2:Int) (w:World) (R:RV):Prop:=
 alo #[.int .i64 n1,.int .i64 n2] Qbl w fun a3 w4=>
 Calls Pg Qbm #[.pointer p0,.slice (some a3) 2 2] w4 fun e7 w6=>∃v5,e7=.returned v5∧
 isI v5∧bif (!(nilI v5)) then (
 R v5 w6) else (
 Calls Pg Qd5 #[.pointer p0,.int .i32 (IntKind.wrap .i32 n1),.int .i32 (IntKind.wrap .i32 n2)] w6 fun e10 w9=>∃b8,e10=.returned (.bool b8)∧
 bif b8 then (
 R (.iface Qah (.int .i64 20)) w9) else (
 Calls Pg Qja #[.pointer p0,.int .i32 (IntKind.wrap .i32 n1),.bool false] w9 fun e13 w12=>∃n11,e13=.returned (.int .i32 n11)∧
 Calls Pg Qax #[.pointer p0,.int .i32 (IntKind.wrap .i32 n2)] w12 fun e15 w14=>e15=.returned (.tuple #[])∧
 Calls Pg Qay #[.pointer p0,.int .i32 (IntKind.wrap .i32 n2),.int .i32 n11,.bool false] w14 fun e17 w16=>e17=.returned (.tuple #[])∧
 Calls Pg Qar #[.pointer p0,.int .i32 n11] w16 fun e19 w18=>e19=.returned (.tuple #[])∧
 R .nilIface w18))
theorem Qeg (p0:OA) (n1 n2:Int):SH Qbx [.pointer p0,.int .i64 n1,.int .i64 n2] (Qdz p0 n1 n2):=cdn Tryz.func171 (.s .L (.s (.s .L (.s .L (.c (.s .L .L) .L))) (.s .L (.s (.s .L (.c (.s .L .L) .L)) (.s .L (.s .L (.s .L (.s .L (.s .L .L))))))))) fun _ _=>by kernel_rfl
def Qgl (p0:OA) (n1:Int) (w:World) (R:RV):Prop:=
 alo #[.int .i64 n1] Qbl w fun a2 w3=>
 Calls Pg Qbm #[.pointer p0,.slice (some a2) 1 1] w3 fun e6 w5=>∃v4,e6=.returned v4∧
 isI v4∧bif (!(nilI v4)) then (
 R (.tuple #[.pointer none,v4]) w5) else (
 Calls Pg Qax #[.pointer p0,.int .i32 (IntKind.wrap .i32 n1)] w5 fun e8 w7=>e8=.returned (.tuple #[])∧
 Calls Pg Qcf #[.pointer p0,.int .i32 (IntKind.wrap .i32 n1)] w7 fun e10 w9=>e10=.returned (.tuple #[])∧
 pt p0 fun a11=>
 ldS a11 w9 fun s12b s12l s12c=>
 ixS s12b s12l n1 9 fun a13=>
 R (.tuple #[.pointer (some a13),.nilIface]) w9)
theorem Qg2 (p0:OA) (n1:Int):SH Qb6 [.pointer p0,.int .i64 n1] (Qgl p0 n1):=cdn Tryz.func172 (.s .L (.s (.s .L (.s .L (.c (.s .L .L) .L))) (.s .L (.s .L (.s .L .L))))) fun _ _=>by kernel_rfl
def Qk7 (p0:OA) (n1:Int) (w:World) (R:RV):Prop:=
 pt p0 fun a2=>
 ldS a2 w fun s3b s3l s3c=>
 ixS s3b s3l n1 9 fun a4=>
 ldB (a4.add 3) w fun b5=>
 bif (!b5) then (
 R (.tuple #[]) w) else (
 sto (a4.add 3) (.bool false) w fun w6=>
 ldI .i32 (a4.add 2) w6.drew fun n7=>
 ldI .i32 (a4.add 1) w6.drew fun n8=>
 sto (a4.add 1) (.int .i32 n7) w6.drew fun w9=>
 sto (a4.add 2) (.int .i32 n8) w9 fun w10=>
 ldI .i32 (a4.add 1) w10.drew fun n11=>
 ldI .i32 (a4.add 2) w10.drew fun n12=>
 ∃n13,0≤(0:Int)∧(0:Int)<((2:Nat):Int)∧(#[.int .i32 n11,.int .i32 n12]:Array Value)[(Int.toNat (0:Int))*1]?=some (.int .i32 n13)∧
 bif (n13 != (-1)) then (
 pt p0 fun a14=>
 ldS a14 w10.drew.drew fun s15b s15l s15c=>
 pt p0 fun a16=>
 ldS a16 w10.drew.drew fun s17b s17l s17c=>
 ixS s17b s17l n13 9 fun a18=>
 ldB (a18.add 3) w10.drew.drew fun b19=>
 ixS s15b s15l n13 9 fun a20=>
 sto (a20.add 3) (.bool (!b19)) w10.drew.drew fun w21=>
 ∃n22,0≤(1:Int)∧(1:Int)<((2:Nat):Int)∧(#[.int .i32 n11,.int .i32 n12]:Array Value)[(Int.toNat (1:Int))*1]?=some (.int .i32 n22)∧
 bif (n22 != (-1)) then (
 pt p0 fun a23=>
 ldS a23 w21.drew fun s24b s24l s24c=>
 pt p0 fun a25=>
 ldS a25 w21.drew fun s26b s26l s26c=>
 ixS s26b s26l n22 9 fun a27=>
 ldB (a27.add 3) w21.drew fun b28=>
 ixS s24b s24l n22 9 fun a29=>
 sto (a29.add 3) (.bool (!b28)) w21.drew fun w30=>
 R (.tuple #[]) w30) else (
 R (.tuple #[]) w21)) else (
 ∃n31,0≤(1:Int)∧(1:Int)<((2:Nat):Int)∧(#[.int .i32 n11,.int .i32 n12]:Array Value)[(Int.toNat (1:Int))*1]?=some (.int .i32 n31)∧
 bif (n31 != (-1)) then (
 pt p0 fun a32=>
 ldS a32 w10.drew.drew fun s33b s33l s33c=>
 pt p0 fun a34=>
 ldS a34 w10.drew.drew fun s35b s35l s35c=>
 ixS s35b s35l n31 9 fun a36=>
 ldB (a36.add 3) w10.drew.drew fun b37=>
 ixS s33b s33l n31 9 fun a38=>
 sto (a38.add 3) (.bool (!b37)) w10.drew.drew fun w39=>
 R (.tuple #[]) w39) else (
 R (.tuple #[]) w10.drew)))
theorem Qo3 (p0:OA) (n1:Int):SH Qcf [.pointer p0,.int .i32 n1] (Qk7 p0 n1):=cdn Tryz.func173 (.s .L (.s (.s .L (.c .L .L)) (.s .L (.s (.r (.t 0 5 (.tk 5 [10,11,12,13,14,15] [12,15] (.t 6 3 (.tk 9 [10,11,12,13,14,15] [12,15] (.t 10 2 (.one 12 (.t 13 2 (.one 15 .fin))))))))) (.s (.r (.t 0 10 .fin)) (.b (.u 3 (.s .L (.s (.c .L .L) (.s (.b (.s .L (.s .L (.c (.r (.t 0 3 (.tk 3 [14,15,16] [16] (.t 4 4 (.tk 8 [10,11,12,13,14,15,16] [16] (.t 9 3 (.tk 12 [13,14,15,16] [16] (.t 13 3 (.one 16 .fin))))))))) .L)))) .L)))))))))) fun _ _=>by kernel_rfl
def Qk9 (p0:OA) (n1:Int) (w:World) (R:RV):Prop:=
 ∃(I2:JP) (m3:JN),I2 [.slice none 0 0,.int .i32 n1] w∧
 ∀_:Env,∀s4b s4l s4c n5 w6,I2 [.slice s4b s4l s4c,.int .i32 n5] w6→
 bif (n5 != (-1)) then (
 alo #[.int .i32 n5] Qbb w6 fun a7 w8=>
 ∃s9b s9l s9c w10,(Builtin.append_ #[Qbo,Qbo] Qbo #[.slice s4b s4l s4c,.slice (some a7) 1 1]).run Pg w8=.ok (.slice s9b s9l s9c) w10∧
 pt p0 fun a11=>
 ldS a11 w10 fun s12b s12l s12c=>
 ixS s12b s12l n5 9 fun a13=>
 ldI .i32 a13 w10 fun n14=>
 (I2 [.slice s9b s9l s9c,.int .i32 n14] w10∧m3 [.slice s9b s9l s9c,.int .i32 n14] w10<m3 [.slice s4b s4l s4c,.int .i32 n5] w6)) else (
 ∃(I15:JP) (m16:JN),I15 [.int .i64 (IntKind.wrap .i64 ((s4l:Int)-1))] w6∧
 ∀_:Env,∀n17 w18,I15 [.int .i64 n17] w18→
 bif (decide (n17 ≥ 0)) then (
 ixS s4b s4l n17 1 fun a19=>
 ldI .i32 a19 w18 fun n20=>
 Calls Pg Qcf #[.pointer p0,.int .i32 n20] w18 fun e22 w21=>e22=.returned (.tuple #[])∧
 (I15 [.int .i64 (IntKind.wrap .i64 (n17-1))] w21∧m16 [.int .i64 (IntKind.wrap .i64 (n17-1))] w21<m16 [.int .i64 n17] w18)) else (
 ∃(I23:JP) (m24:JN),I23 [] w18∧
 ∀_:Env,∀w25,I23 [] w25→
 pt p0 fun a26=>
 ldS a26 w25 fun s27b s27l s27c=>
 ixS s27b s27l n1 9 fun a28=>
 ldI .i32 a28 w25 fun n29=>
 bif (n29 != (-1)) then (
 pt p0 fun a30=>
 ldS a30 w25 fun s31b s31l s31c=>
 ixS s31b s31l n1 9 fun a32=>
 ldI .i32 a32 w25 fun n33=>
 pt p0 fun a34=>
 ldS a34 w25 fun s35b s35l s35c=>
 ixS s35b s35l n33 9 fun a36=>
 ldI .i32 a36 w25 fun n37=>
 bif (n37 != (-1)) then (
 pt p0 fun a38=>
 ldS a38 w25.drew fun s39b s39l s39c=>
 ixS s39b s39l n37 9 fun a40=>
 ldI .i32 (a40.add 1) w25.drew fun n41=>
 pt p0 fun a42=>
 ldS a42 w25.drew fun s43b s43l s43c=>
 ixS s43b s43l n33 9 fun a44=>
 ldI .i32 (a44.add 1) w25.drew fun n45=>
 bif ((n41==n33)==(n45==n1)) then (
 Calls Pg Qbw #[.pointer p0,.int .i32 n33] w25.drew fun e47 w46=>e47=.returned (.tuple #[])∧
 Calls Pg Qbw #[.pointer p0,.int .i32 n1] w46 fun e49 w48=>e49=.returned (.tuple #[])∧
 (I23 [] w48∧m24 [] w48<m24 [] w25)) else (
 Calls Pg Qbw #[.pointer p0,.int .i32 n1] w25.drew fun e51 w50=>e51=.returned (.tuple #[])∧
 Calls Pg Qbw #[.pointer p0,.int .i32 n1] w50 fun e53 w52=>e53=.returned (.tuple #[])∧
 (I23 [] w52∧m24 [] w52<m24 [] w25))) else (
 Calls Pg Qbw #[.pointer p0,.int .i32 n1] w25 fun e55 w54=>e55=.returned (.tuple #[])∧
 (I23 [] w54∧m24 [] w54<m24 [] w25))) else (
 R (.tuple #[]) w25)))
theorem Qo5 (p0:OA) (n1:Int):SH Qax [.pointer p0,.int .i32 n1] (Qk9 p0 n1):=cdn Tryz.func176 (.s .L (.s (.s .L (.b (.o [4,5] [.one .slc,.one (.int .i32)] (.s (.s .L (.c .L .L)) (.s (.b .L) .L))))) (.s (.s .L (.b (.o [6] [.one (.int .i64)] (.s (.s .L (.c .L .L)) (.s (.b .L) .L))))) (.b (.o [] [] (.s (.s .L (.c .L .L)) (.b (.s .L (.s (.s .L (.s .L (.c (.s (.r (.t 0 21 .fin)) (.c .L .L)) .L))) .L))))))))) fun _ _=>by kernel_rfl
def Qh1 (p0:OA) (n1:Int) (w:World) (R:RV):Prop:=
 Calls Pg Qb6 #[.pointer p0,.int .i64 n1] w fun e5 w4=>∃p2 v3,e5=.returned (.tuple #[.pointer p2,v3])∧
 isI v3∧bif (!(nilI v3)) then (
 R (.tuple #[.int .i64 0,v3]) w4) else (
 pt p2 fun a6=>
 ldI .i32 (a6.add 1) w4 fun n7=>
 bif (n7==(-1)) then (
 R (.tuple #[.int .i64 0,v3]) w4) else (
 pt p0 fun a8=>
 ldS a8 w4.drew fun s9b s9l s9c=>
 pt p2 fun a10=>
 ldI .i32 (a10.add 1) w4.drew fun n11=>
 ixS s9b s9l n11 9 fun a12=>
 ldI .i32 (a12.add 4) w4.drew fun n13=>
 R (.tuple #[.int .i64 (IntKind.wrap .i64 n13),.nilIface]) w4.drew))
theorem Qjo (p0:OA) (n1:Int):SH Qf1 [.pointer p0,.int .i64 n1] (Qh1 p0 n1):=cdn Tryz.func177 (.s .L (.s .L (.s (.s .L (.c (.s .L .L) .L)) (.s (.r (.t 0 14 .fin)) .L)))) fun _ _=>by kernel_rfl
def Qhb (p0:OA) (n1 n2:Int) (w:World) (R:RV):Prop:=
 alo #[.pointer p0] Qen w fun a3 w4=>
 alo #[.int .i64 n2] Qbl w4 fun a5 w6=>
 ldP a3 w6 fun p7=>
 Calls Pg Qb6 #[.pointer p7,.int .i64 n1] w6 fun e11 w10=>∃p8 v9,e11=.returned (.tuple #[.pointer p8,v9])∧
 isI v9∧bif (!(nilI v9)) then (
 R (.tuple #[.int .i64 0,v9]) w10) else (
 ldI .i64 a5 w10.drew fun n12=>
 bif (decide (n12<0)) then (
 R (.tuple #[.int .i64 0,.iface Qah (.int .i64 1)]) w10.drew) else (
 ldI .i64 a5 w10.drew fun n13=>
 pt p8 fun a14=>
 ldI .i32 (a14.add 4) w10.drew fun n15=>
 bif (decide (n13 ≥ (IntKind.wrap .i64 n15))) then (
 R (.tuple #[.int .i64 0,.iface Qah (.int .i64 1)]) w10.drew) else (
 ldP a3 w10.drew fun p16=>
 Calls Pg Qf0 #[.pointer p16,.int .i32 (IntKind.wrap .i32 n1),.func (.func Qib) #[] #[.pointer (some a3),.pointer (some a5)]] w10.drew fun e19 w18=>∃n17,e19=.returned (.int .i64 n17)∧
 R (.tuple #[.int .i64 n17,.nilIface]) w18)))
theorem Qhp (p0:OA) (n1 n2:Int):SH Qdw [.pointer p0,.int .i64 n1,.int .i64 n2] (Qhb p0 n1 n2):=cdn Tryz.func178 (.s .L (.s .L (.s (.b (.s .L (.c (.s .L .L) (.s (.r (.t 0 12 .fin)) (.c (.s .L .L) .L))))) (.s .L .L)))) fun _ _=>by kernel_rfl
def Qk8 (p0:OA) (n1:Int) (w:World) (R:RV):Prop:=
 pt p0 fun a2=>
 ldS a2 w fun s3b s3l s3c=>
 ixS s3b s3l n1 9 fun a4=>
 ldI .i64 (a4.add 5) w.drew fun n5=>
 ldI .i64 (a4.add 5) w.drew fun n6=>
 ldI .i64 (a4.add 5) w.drew fun n7=>
 sto (a4.add 4) (.int .i32 1) w.drew fun w8=>
 sto (a4.add 6) (.int .i64 n5) w8 fun w9=>
 sto (a4.add 7) (.int .i64 n6) w9 fun w10=>
 sto (a4.add 8) (.int .i64 n7) w10 fun w11=>
 ldI .i32 (a4.add 1) w11.drew fun n12=>
 ldI .i32 (a4.add 2) w11.drew fun n13=>
 ∃n14,0≤(0:Int)∧(0:Int)<((2:Nat):Int)∧(#[.int .i32 n12,.int .i32 n13]:Array Value)[(Int.toNat (0:Int))*1]?=some (.int .i32 n14)∧
 bif (n14==(-1)) then (
 ∃n15,0≤(1:Int)∧(1:Int)<((2:Nat):Int)∧(#[.int .i32 n12,.int .i32 n13]:Array Value)[(Int.toNat (1:Int))*1]?=some (.int .i32 n15)∧
 bif (n15==(-1)) then (
 R (.tuple #[]) w11.drew) else (
 pt p0 fun a16=>
 ldS a16 w11.drew fun s17b s17l s17c=>
 ixS s17b s17l n15 9 fun a18=>
 ldI .i32 (a4.add 4) w11.drew.drew fun n19=>
 ldI .i32 (a18.add 4) w11.drew.drew fun n20=>
 sto (a4.add 4) (.int .i32 (IntKind.wrap .i32 (n19+n20))) w11.drew.drew fun w21=>
 ldI .i64 (a4.add 6) w21.drew fun n22=>
 ldI .i64 (a18.add 6) w21.drew fun n23=>
 sto (a4.add 6) (.int .i64 (IntKind.wrap .i64 (n22+n23))) w21.drew fun w24=>
 ldI .i64 (a4.add 7) w24.drew fun n25=>
 ldI .i64 (a18.add 7) w24.drew fun n26=>
 ldI .i64 (a4.add 8) w24.drew fun n27=>
 ldI .i64 (a18.add 8) w24.drew fun n28=>
 sto (a4.add 7) (.int .i64 (if n26<n25 then n26 else n25)) w24.drew fun w29=>
 sto (a4.add 8) (.int .i64 (if n28>n27 then n28 else n27)) w29 fun w30=>
 R (.tuple #[]) w30)) else (
 pt p0 fun a31=>
 ldS a31 w11.drew fun s32b s32l s32c=>
 ixS s32b s32l n14 9 fun a33=>
 ldI .i32 (a4.add 4) w11.drew.drew fun n34=>
 ldI .i32 (a33.add 4) w11.drew.drew fun n35=>
 sto (a4.add 4) (.int .i32 (IntKind.wrap .i32 (n34+n35))) w11.drew.drew fun w36=>
 ldI .i64 (a4.add 6) w36.drew fun n37=>
 ldI .i64 (a33.add 6) w36.drew fun n38=>
 sto (a4.add 6) (.int .i64 (IntKind.wrap .i64 (n37+n38))) w36.drew fun w39=>
 ldI .i64 (a4.add 7) w39.drew fun n40=>
 ldI .i64 (a33.add 7) w39.drew fun n41=>
 ldI .i64 (a4.add 8) w39.drew fun n42=>
 ldI .i64 (a33.add 8) w39.drew fun n43=>
 sto (a4.add 7) (.int .i64 (if n41<n40 then n41 else n40)) w39.drew fun w44=>
 sto (a4.add 8) (.int .i64 (if n43>n42 then n43 else n42)) w44 fun w45=>
 ∃n46,0≤(1:Int)∧(1:Int)<((2:Nat):Int)∧(#[.int .i32 n12,.int .i32 n13]:Array Value)[(Int.toNat (1:Int))*1]?=some (.int .i32 n46)∧
 bif (n46==(-1)) then (
 R (.tuple #[]) w45) else (
 pt p0 fun a47=>
 ldS a47 w45 fun s48b s48l s48c=>
 ixS s48b s48l n46 9 fun a49=>
 ldI .i32 (a4.add 4) w45.drew fun n50=>
 ldI .i32 (a49.add 4) w45.drew fun n51=>
 sto (a4.add 4) (.int .i32 (IntKind.wrap .i32 (n50+n51))) w45.drew fun w52=>
 ldI .i64 (a4.add 6) w52.drew fun n53=>
 ldI .i64 (a49.add 6) w52.drew fun n54=>
 sto (a4.add 6) (.int .i64 (IntKind.wrap .i64 (n53+n54))) w52.drew fun w55=>
 ldI .i64 (a4.add 7) w55.drew fun n56=>
 ldI .i64 (a49.add 7) w55.drew fun n57=>
 ldI .i64 (a4.add 8) w55.drew fun n58=>
 ldI .i64 (a49.add 8) w55.drew fun n59=>
 sto (a4.add 7) (.int .i64 (if n57<n56 then n57 else n56)) w55.drew fun w60=>
 sto (a4.add 8) (.int .i64 (if n59>n58 then n59 else n58)) w60 fun w61=>
 R (.tuple #[]) w61))
theorem Qo4 (p0:OA) (n1:Int):SH Qar [.pointer p0,.int .i32 n1] (Qk8 p0 n1):=cdn Tryz.func179 (.s .L (.s (.r (.t 0 7 (.tk 7 [16,17,18,19,20,21,22,23,24,25,26,27] [18,21,24,27] (.t 8 3 (.tk 11 [16,17,18,19,20,21,22,23,24,25,26,27] [18,21,24,27] (.t 12 3 (.tk 15 [16,17,18,19,20,21,22,23,24,25,26,27] [18,21,24,27] (.t 16 2 (.one 18 (.t 19 2 (.one 21 (.t 22 2 (.one 24 (.t 25 2 (.one 27 .fin))))))))))))))) (.s (.r (.t 0 10 .fin)) (.b (.u 3 (.s .L (.s (.c .L .L) (.s (.b (.s .L (.s (.s .L (.c .L .L)) (.s .L (.s (.r (.t 0 3 (.tk 3 [8,9,10,11] [11] (.t 4 3 (.tk 7 [8,9,10,11] [11] (.t 8 3 (.one 11 .fin))))))) (.s (.r (.t 0 3 (.tk 3 [8,9,10,11] [11] (.t 4 3 (.tk 7 [8,9,10,11] [11] (.t 8 3 (.one 11 .fin))))))) (.r (.t 0 5 (.tk 5 [10,20,21,22,23,24,25] [22,25] (.t 6 3 (.tk 9 [10,20,21,22,23,24,25] [22,25] (.t 10 4 (.tk 14 [19,20,21,22,23,24,25] [22,25] (.t 15 3 (.tk 18 [19,20,21,22,23,24,25] [22,25] (.t 19 3 (.one 22 (.t 23 2 (.one 25 .fin))))))))))))))))))) .L)))))))) fun _ _=>by kernel_rfl
def Qmq (p0:OA) (n1:Int) (b2:Bool) (w:World) (R:RV):Prop:=
 Calls Pg Qax #[.pointer p0,.int .i32 n1] w fun e4 w3=>e4=.returned (.tuple #[])∧
 ∃(I5:JP) (m6:JN),I5 [.int .i32 n1] w3∧
 ∀_:Env,∀n7 w8,I5 [.int .i32 n7] w8→
 Calls Pg Qcf #[.pointer p0,.int .i32 n7] w8 fun e10 w9=>e10=.returned (.tuple #[])∧
 pt p0 fun a11=>
 ldS a11 w9 fun s12b s12l s12c=>
 ixS s12b s12l n7 9 fun a13=>
 ldI .i32 (a13.add 2) w9 fun n14=>
 bif b2 then (
 pt p0 fun a15=>
 ldS a15 w9 fun s16b s16l s16c=>
 ixS s16b s16l n7 9 fun a17=>
 ldI .i32 (a17.add 1) w9 fun n18=>
 bif (n18==(-1)) then (
 Calls Pg Qax #[.pointer p0,.int .i32 n7] w9 fun e20 w19=>e20=.returned (.tuple #[])∧
 R (.int .i32 n7) w19) else (
 (I5 [.int .i32 n18] w9∧m6 [.int .i32 n18] w9<m6 [.int .i32 n7] w8))) else (
 bif (n14==(-1)) then (
 Calls Pg Qax #[.pointer p0,.int .i32 n7] w9 fun e22 w21=>e22=.returned (.tuple #[])∧
 R (.int .i32 n7) w21) else (
 (I5 [.int .i32 n14] w9∧m6 [.int .i32 n14] w9<m6 [.int .i32 n7] w8)))
theorem Qqm (p0:OA) (n1:Int) (b2:Bool):SH Qja [.pointer p0,.int .i32 n1,.bool b2] (Qmq p0 n1 b2):=cdn Tryz.func180 (.s .L (.s .L (.b (.o [1] [.one (.int .i32)] (.b (.s .L (.s .L (.s (.s .L (.c .L .L)) (.s (.s .L (.c (.s .L (.s .L .L)) .L)) .L))))))))) fun _ _=>by kernel_rfl
def Qla (p0:OA) (n1 n2:Int) (b3:Bool) (w:World) (R:RV):Prop:=
 bif b3 then (
 pt p0 fun a4=>
 ldS a4 w fun s5b s5l s5c=>
 ixS s5b s5l n2 9 fun a6=>
 sto (a6.add 1) (.int .i32 n1) w fun w7=>
 bif (n1 != (-1)) then (
 pt p0 fun a8=>
 ldS a8 w7 fun s9b s9l s9c=>
 ixS s9b s9l n1 9 fun a10=>
 sto a10 (.int .i32 n2) w7 fun w11=>
 R (.tuple #[]) w11) else (
 R (.tuple #[]) w7)) else (
 pt p0 fun a12=>
 ldS a12 w fun s13b s13l s13c=>
 ixS s13b s13l n2 9 fun a14=>
 sto (a14.add 2) (.int .i32 n1) w fun w15=>
 bif (n1 != (-1)) then (
 pt p0 fun a16=>
 ldS a16 w15 fun s17b s17l s17c=>
 ixS s17b s17l n1 9 fun a18=>
 sto a18 (.int .i32 n2) w15 fun w19=>
 R (.tuple #[]) w19) else (
 R (.tuple #[]) w15))
theorem Qo6 (p0:OA) (n1 n2:Int) (b3:Bool):SH Qay [.pointer p0,.int .i32 n1,.int .i32 n2,.bool b3] (Qla p0 n1 n2 b3):=cdn Tryz.func181 (.s (.s .L (.c .L .L)) (.s .L (.c .L .L))) fun _ _=>by kernel_rfl
def Qj2 (p0:OA) (n1:Int) (w:World) (R:RV):Prop:=
 pt p0 fun a2=>
 ldS a2 w fun s3b s3l s3c=>
 ixS s3b s3l n1 9 fun a4=>
 ldI .i32 a4 w fun n5=>
 pt p0 fun a6=>
 ldS a6 w fun s7b s7l s7c=>
 ixS s7b s7l n5 9 fun a8=>
 ldI .i32 a8 w fun n9=>
 pt p0 fun a10=>
 ldS a10 w fun s11b s11l s11c=>
 ixS s11b s11l n5 9 fun a12=>
 ldI .i32 (a12.add 1) w fun n13=>
 bif (n13==n1) then (
 pt p0 fun a14=>
 ldS a14 w fun s15b s15l s15c=>
 ixS s15b s15l n1 9 fun a16=>
 ldI .i32 (a16.add 2) w fun n17=>
 Calls Pg Qay #[.pointer p0,.int .i32 n17,.int .i32 n5,.bool true] w fun e19 w18=>e19=.returned (.tuple #[])∧
 bif (n9 != (-1)) then (
 pt p0 fun a20=>
 ldS a20 w18 fun s21b s21l s21c=>
 ixS s21b s21l n9 9 fun a22=>
 ldI .i32 (a22.add 1) w18 fun n23=>
 Calls Pg Qay #[.pointer p0,.int .i32 n5,.int .i32 n1,.bool (!(n13==n1))] w18 fun e25 w24=>e25=.returned (.tuple #[])∧
 pt p0 fun a26=>
 ldS a26 w24 fun s27b s27l s27c=>
 ixS s27b s27l n1 9 fun a28=>
 sto a28 (.int .i32 n9) w24 fun w29=>
 bif (n9 != (-1)) then (
 Calls Pg Qay #[.pointer p0,.int .i32 n1,.int .i32 n9,.bool (n23==n5)] w29 fun e31 w30=>e31=.returned (.tuple #[])∧
 Calls Pg Qar #[.pointer p0,.int .i32 n5] w30 fun e33 w32=>e33=.returned (.tuple #[])∧
 Calls Pg Qar #[.pointer p0,.int .i32 n1] w32 fun e35 w34=>e35=.returned (.tuple #[])∧
 R (.tuple #[]) w34) else (
 Calls Pg Qar #[.pointer p0,.int .i32 n5] w29 fun e37 w36=>e37=.returned (.tuple #[])∧
 Calls Pg Qar #[.pointer p0,.int .i32 n1] w36 fun e39 w38=>e39=.returned (.tuple #[])∧
 R (.tuple #[]) w38)) else (
 Calls Pg Qay #[.pointer p0,.int .i32 n5,.int .i32 n1,.bool (!(n13==n1))] w18 fun e41 w40=>e41=.returned (.tuple #[])∧
 pt p0 fun a42=>
 ldS a42 w40 fun s43b s43l s43c=>
 ixS s43b s43l n1 9 fun a44=>
 sto a44 (.int .i32 n9) w40 fun w45=>
 bif (n9 != (-1)) then (
 Calls Pg Qay #[.pointer p0,.int .i32 n1,.int .i32 n9,.bool false] w45 fun e47 w46=>e47=.returned (.tuple #[])∧
 Calls Pg Qar #[.pointer p0,.int .i32 n5] w46 fun e49 w48=>e49=.returned (.tuple #[])∧
 Calls Pg Qar #[.pointer p0,.int .i32 n1] w48 fun e51 w50=>e51=.returned (.tuple #[])∧
 R (.tuple #[]) w50) else (
 Calls Pg Qar #[.pointer p0,.int .i32 n5] w45 fun e53 w52=>e53=.returned (.tuple #[])∧
 Calls Pg Qar #[.pointer p0,.int .i32 n1] w52 fun e55 w54=>e55=.returned (.tuple #[])∧
 R (.tuple #[]) w54))) else (
 pt p0 fun a56=>
 ldS a56 w fun s57b s57l s57c=>
 ixS s57b s57l n1 9 fun a58=>
 ldI .i32 (a58.add 1) w fun n59=>
 Calls Pg Qay #[.pointer p0,.int .i32 n59,.int .i32 n5,.bool false] w fun e61 w60=>e61=.returned (.tuple #[])∧
 bif (n9 != (-1)) then (
 pt p0 fun a62=>
 ldS a62 w60 fun s63b s63l s63c=>
 ixS s63b s63l n9 9 fun a64=>
 ldI .i32 (a64.add 1) w60 fun n65=>
 Calls Pg Qay #[.pointer p0,.int .i32 n5,.int .i32 n1,.bool (!(n13==n1))] w60 fun e67 w66=>e67=.returned (.tuple #[])∧
 pt p0 fun a68=>
 ldS a68 w66 fun s69b s69l s69c=>
 ixS s69b s69l n1 9 fun a70=>
 sto a70 (.int .i32 n9) w66 fun w71=>
 bif (n9 != (-1)) then (
 Calls Pg Qay #[.pointer p0,.int .i32 n1,.int .i32 n9,.bool (n65==n5)] w71 fun e73 w72=>e73=.returned (.tuple #[])∧
 Calls Pg Qar #[.pointer p0,.int .i32 n5] w72 fun e75 w74=>e75=.returned (.tuple #[])∧
 Calls Pg Qar #[.pointer p0,.int .i32 n1] w74 fun e77 w76=>e77=.returned (.tuple #[])∧
 R (.tuple #[]) w76) else (
 Calls Pg Qar #[.pointer p0,.int .i32 n5] w71 fun e79 w78=>e79=.returned (.tuple #[])∧
 Calls Pg Qar #[.pointer p0,.int .i32 n1] w78 fun e81 w80=>e81=.returned (.tuple #[])∧
 R (.tuple #[]) w80)) else (
 Calls Pg Qay #[.pointer p0,.int .i32 n5,.int .i32 n1,.bool (!(n13==n1))] w60 fun e83 w82=>e83=.returned (.tuple #[])∧
 pt p0 fun a84=>
 ldS a84 w82 fun s85b s85l s85c=>
 ixS s85b s85l n1 9 fun a86=>
 sto a86 (.int .i32 n9) w82 fun w87=>
 bif (n9 != (-1)) then (
 Calls Pg Qay #[.pointer p0,.int .i32 n1,.int .i32 n9,.bool false] w87 fun e89 w88=>e89=.returned (.tuple #[])∧
 Calls Pg Qar #[.pointer p0,.int .i32 n5] w88 fun e91 w90=>e91=.returned (.tuple #[])∧
 Calls Pg Qar #[.pointer p0,.int .i32 n1] w90 fun e93 w92=>e93=.returned (.tuple #[])∧
 R (.tuple #[]) w92) else (
 Calls Pg Qar #[.pointer p0,.int .i32 n5] w87 fun e95 w94=>e95=.returned (.tuple #[])∧
 Calls Pg Qar #[.pointer p0,.int .i32 n1] w94 fun e97 w96=>e97=.returned (.tuple #[])∧
 R (.tuple #[]) w96)))
theorem Qnn (p0:OA) (n1:Int):SH Qbw [.pointer p0,.int .i32 n1] (Qj2 p0 n1):=cdn Tryz.func182 (.s .L (.s .L (.s .L (.s (.s .L (.c .L .L)) (.s .L (.s .L (.s .L (.s (.s .L (.c .L .L)) (.s .L .L))))))))) fun _ _=>by kernel_rfl
def Qlb (p0:OA) (n1:Int) (f2:Value) (w:World) (R:RV):Prop:=
 ∃(I3:JP) (m4:JN),I3 [.int .i32 n1] w∧
 ∀_:Env,∀n5 w6,I3 [.int .i32 n5] w6→
 Calls Pg Qcf #[.pointer p0,.int .i32 n5] w6 fun e8 w7=>e8=.returned (.tuple #[])∧
 pt p0 fun a9=>
 ldS a9 w7 fun s10b s10l s10c=>
 ixS s10b s10l n5 9 fun a11=>
 ldI .i32 a11 w7 fun n12=>
 ldI .i32 (a11.add 1) w7 fun n13=>
 ldI .i32 (a11.add 2) w7 fun n14=>
 ldB (a11.add 3) w7 fun b15=>
 ldI .i32 (a11.add 4) w7 fun n16=>
 ldI .i64 (a11.add 5) w7 fun n17=>
 ldI .i64 (a11.add 6) w7 fun n18=>
 ldI .i64 (a11.add 7) w7 fun n19=>
 ldI .i64 (a11.add 8) w7 fun n20=>
 dcv Pg Eall f2 [.agg #[.int .i32 n12,.int .i32 n13,.int .i32 n14,.bool b15,.int .i32 n16,.int .i64 n17,.int .i64 n18,.int .i64 n19,.int .i64 n20]] w7 fun e23 w22=>∃n21,e23=.returned (.int .i64 n21)∧
 bif (decide (n21<0)) then (
 pt p0 fun a24=>
 ldS a24 w22 fun s25b s25l s25c=>
 ixS s25b s25l n5 9 fun a26=>
 ldI .i32 (a26.add 1) w22 fun n27=>
 (I3 [.int .i32 n27] w22∧m4 [.int .i32 n27] w22<m4 [.int .i32 n5] w6)) else (
 bif (decide (n21>0)) then (
 pt p0 fun a28=>
 ldS a28 w22 fun s29b s29l s29c=>
 ixS s29b s29l n5 9 fun a30=>
 ldI .i32 (a30.add 2) w22 fun n31=>
 (I3 [.int .i32 n31] w22∧m4 [.int .i32 n31] w22<m4 [.int .i32 n5] w6)) else (
 Calls Pg Qax #[.pointer p0,.int .i32 n5] w22 fun e33 w32=>e33=.returned (.tuple #[])∧
 R (.int .i64 (IntKind.wrap .i64 n5)) w32))
theorem Qo7 (p0:OA) (n1:Int) (f2:Value):SH Qf0 [.pointer p0,.int .i32 n1,f2] (Qlb p0 n1 f2):=cdn Tryz.func183 (.s .L (.b (.o [1] [.one (.int .i32)] (.b (.s .L (.s .L (.b (.s .L (.c .L (.s .L (.c .L (.s .L (.s .L .L))))))))))))) fun _ _=>by kernel_rfl
def Qlc (n0 n1 n2:Int) (b3:Bool) (n4 n5 n6 n7 n8:Int) (q9 q10:OA) (w:World) (R:RV):Prop:=
 alo #[.int .i32 n0,.int .i32 n1,.int .i32 n2,.bool b3,.int .i32 n4,.int .i64 n5,.int .i64 n6,.int .i64 n7,.int .i64 n8] Qe2 w fun a11 w12=>
 ldI .i32 (a11.add 1) w12 fun n13=>
 bif (n13 != (-1)) then (
 pt q9 fun a14=>
 ldP a14 w12.drew fun p15=>
 pt p15 fun a16=>
 ldS a16 w12.drew fun s17b s17l s17c=>
 ldI .i32 (a11.add 1) w12.drew fun n18=>
 ixS s17b s17l n18 9 fun a19=>
 ldI .i32 (a19.add 4) w12.drew fun n20=>
 pt q10 fun a21=>
 ldI .i64 a21 w12.drew fun n22=>
 bif (decide (n22≤(IntKind.wrap .i64 n20))) then (
 pt q10 fun a23=>
 ldI .i64 a23 w12.drew fun n24=>
 R (.int .i64 (IntKind.wrap .i64 (n24-(IntKind.wrap .i64 n20)))) w12.drew) else (
 pt q10 fun a25=>
 ldI .i64 a25 w12.drew fun n26=>
 pt q10 fun a27=>
 sto a27 (.int .i64 (IntKind.wrap .i64 (n26-(IntKind.wrap .i64 ((IntKind.wrap .i64 n20)+1))))) w12.drew fun w28=>
 R (.int .i64 1) w28)) else (
 pt q10 fun a29=>
 ldI .i64 a29 w12 fun n30=>
 bif (decide (n30≤0)) then (
 pt q10 fun a31=>
 ldI .i64 a31 w12 fun n32=>
 R (.int .i64 (IntKind.wrap .i64 (n32-0))) w12) else (
 pt q10 fun a33=>
 ldI .i64 a33 w12 fun n34=>
 pt q10 fun a35=>
 sto a35 (.int .i64 (IntKind.wrap .i64 (n34-1))) w12 fun w36=>
 R (.int .i64 1) w36))
theorem Qo8 (n0 n1 n2:Int) (b3:Bool) (n4 n5 n6 n7 n8:Int) (q9 q10:OA):SH Qib [.agg #[.int .i32 n0,.int .i32 n1,.int .i32 n2,.bool b3,.int .i32 n4,.int .i64 n5,.int .i64 n6,.int .i64 n7,.int .i64 n8],.pointer q9,.pointer q10] (Qlc n0 n1 n2 b3 n4 n5 n6 n7 n8 q9 q10):=cdn Tryz.func184 (.s .L (.s .L (.s (.s .L (.c (.r (.t 0 11 .fin)) .L)) (.s (.s .L (.c (.s .L .L) .L)) (.s .L (.s .L .L)))))) fun _ _=>by kernel_rfl
end Go.Proofs.YtpmicakdjhoafaaGreatDoor
