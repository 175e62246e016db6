/-
The two parts of a function around its range over a function, as one formula each, printed by a program of this session out of the translation; the kernel holds each print against the translation.
Conditions: none.
-/
import Derived.Test.YtpmicakdjhoafaaGreatDoorSn
set_option linter.unusedVariables false
namespace Go.Proofs.YtpmicakdjhoafaaGreatDoor
open Go
set_option maxRecDepth 100000
def Qvq (f:Func):Code:=f.body.getD .skip
def preOf:Code→Code | .seq a (.seq b (.seq c (.seq (.seq r _) _)))=>.seq a (.seq b (.seq c r)) | c=>c
def midOf:Code→Code | .seq _ (.seq _ (.seq _ (.seq (.seq _ m) _)))=>m | c=>c
def postOf:Code→Code | .seq _ (.seq _ (.seq _ (.seq (.seq _ _) e)))=>e | c=>c
def Qgz (p0:Option Addr) (n1:Int) (w:World) (R:Value→World→Prop):Prop:=
 alo #[.pointer p0] Qaz w fun a2 w3=>
 alo #[.int .i32 n1] Qbb w3 fun a4 w5=>
 ∃(I6:JP) (m7:JN),I6 [.slice (some a4) 1 1,.int .i32 n1] w5∧
 ∀_:Env,∀s8b s8l s8c n9 w10,I6 [.slice s8b s8l s8c,.int .i32 n9] w10→
 ldP a2 w10 fun p11=>
 Calls Pg Qdi #[.pointer p11,.int .i32 n9] w10 fun e14 w13=>∃b12,e14=.returned (.bool b12)∧
 bif (!b12) then (
 ldP a2 w13 fun p15=>
 pt p15 fun a16=>
 ldS a16 w13 fun s17b s17l s17c=>
 ixS s17b s17l n9 9 fun a18=>
 ldI .i32 a18 w13 fun n19=>
 alo #[.int .i32 n19] Qbb w13 fun a20 w21=>
 ∃s22b s22l s22c w23,(Builtin.append_ #[Qbo,Qbo] Qbo #[.slice s8b s8l s8c,.slice (some a20) 1 1]).run Pg w21=.ok (.slice s22b s22l s22c) w23∧
 ldP a2 w23 fun p24=>
 pt p24 fun a25=>
 ldS a25 w23 fun s26b s26l s26c=>
 ixS s26b s26l n9 9 fun a27=>
 ldI .i32 a27 w23 fun n28=>
 (I6 [.slice s22b s22l s22c,.int .i32 n28] w23∧m7 [.slice s22b s22l s22c,.int .i32 n28] w23<m7 [.slice s8b s8l s8c,.int .i32 n9] w10)) else (
 Calls Pg Qc1 #[.slice s8b s8l s8c] w13 fun e31 w30=>∃f29,e31=.returned f29∧
 R (.tuple #[f29,(.pointer (some a2)),(.int .i32 n1),(.pointer p0)]) w30)
def Qkd:An:=.s .L (.s .L (.s (.s .L (.b (.o [4,5] [.one .slc,.one (.int .i32)] (.s (.s .L (.c .L .L)) (.s (.b .L) .L))))) .L))
theorem Qqj (p0:Option Addr) (n1:Int) (w:World) (R:Value→World→Prop):Qgz p0 n1 w R=den Pg Eall 74 Qkd (preOf (Qvq Tryz.f132)) (fun x e w'=>match x with | .normal=>R (resV e [36,2,1,0]) w' | _=>False) (envOf [(.pointer p0),(.int .i32 n1)]) w:=by kernel_rfl
def Qgy (p0:Option Addr) (n1:Int) (p2:Option Addr) (w:World) (R:Value→World→Prop):Prop:=
 ∃(I3:JP) (m4:JN),I3 [] w∧
 ∀_:Env,∀w5,I3 [] w5→
 pt p2 fun a6=>
 ldP a6 w5 fun p7=>
 Calls Pg Qdi #[.pointer p7,.int .i32 n1] w5 fun e10 w9=>∃b8,e10=.returned (.bool b8)∧
 bif (!b8) then (
 pt p2 fun a11=>
 ldP a11 w9 fun p12=>
 pt p12 fun a13=>
 ldS a13 w9 fun s14b s14l s14c=>
 ixS s14b s14l n1 9 fun a15=>
 ldI .i32 a15 w9 fun n16=>
 pt p2 fun a17=>
 ldP a17 w9 fun p18=>
 Calls Pg Qdi #[.pointer p18,.int .i32 n16] w9 fun e21 w20=>∃b19,e21=.returned (.bool b19)∧
 bif (!b19) then (
 pt p2 fun a22=>
 ldP a22 w20.drew fun p23=>
 pt p2 fun a24=>
 ldP a24 w20.drew fun p25=>
 Calls Pg Qc6 #[.pointer p23,.int .i32 n1] w20.drew fun e28 w27=>∃n26,e28=.returned (.int .i64 n26)∧
 w27.cell? a24=some (.pointer p25)∧Calls Pg Qc6 #[.pointer p25,.int .i32 n16] w27 fun e31 w30=>∃n29,e31=.returned (.int .i64 n29)∧
 bif (n26==n29) then (
 pt p2 fun a32=>
 ldP a32 w30 fun p33=>
 Calls Pg Qbh #[.pointer p33,.int .i32 n16] w30 fun e35 w34=>e35=.returned (.tuple #[])∧
 pt p2 fun a36=>
 ldP a36 w34 fun p37=>
 Calls Pg Qbh #[.pointer p37,.int .i32 n1] w34 fun e39 w38=>e39=.returned (.tuple #[])∧
 (I3 [] w38∧m4 [] w38<m4 [] w5)) else (
 pt p2 fun a40=>
 ldP a40 w30 fun p41=>
 Calls Pg Qbh #[.pointer p41,.int .i32 n1] w30 fun e43 w42=>e43=.returned (.tuple #[])∧
 pt p2 fun a44=>
 ldP a44 w42 fun p45=>
 Calls Pg Qbh #[.pointer p45,.int .i32 n1] w42 fun e47 w46=>e47=.returned (.tuple #[])∧
 (I3 [] w46∧m4 [] w46<m4 [] w5))) else (
 pt p2 fun a48=>
 ldP a48 w20 fun p49=>
 Calls Pg Qbh #[.pointer p49,.int .i32 n1] w20 fun e51 w50=>e51=.returned (.tuple #[])∧
 (I3 [] w50∧m4 [] w50<m4 [] w5))) else (
 R (.tuple #[]) w9)
def Qqy:An:=.b (.o [] [] (.s (.s .L (.c .L .L)) (.b (.s .L (.s (.s .L (.c (.s (.r (.tk 0 [2,5,6] [2,5] (.t 1 1 (.tk 3 [5,6] [5] (.t 4 1 (.one 2 (.one 5 (.t 6 1 .fin)))))))) (.c .L .L)) .L)) .L)))))
theorem Qqi (e0:Env) (p0:Option Addr) (n1:Int) (p2:Option Addr) (w:World) (R:Value→World→Prop):Qgy p0 n1 p2 w R=den Pg Eall 74 Qqy (postOf (Qvq Tryz.f132)) (fun x e w'=>match x with | .normal=>R (resV e []) w' | _=>False) (Env.put (Env.put (Env.put e0 0 (.pointer p0)) 1 (.int .i32 n1)) 2 (.pointer p2)) w:=by kernel_rfl
end Go.Proofs.YtpmicakdjhoafaaGreatDoor
