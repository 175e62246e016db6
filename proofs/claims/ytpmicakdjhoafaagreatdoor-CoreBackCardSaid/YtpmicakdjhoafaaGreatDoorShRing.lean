/-
What each function does, as one formula, printed by a program of this session out of the translation; the kernel holds each print against the translation.
Conditions: none.
-/
import Derived.Test.YtpmicakdjhoafaaGreatDoorSn
set_option linter.unusedVariables false
namespace Go.Proofs.YtpmicakdjhoafaaGreatDoor
open Go
set_option maxRecDepth 100000
def Qrb (n0:Int) (w:World) (R:RV):Prop:=
 Calls Pg Qqd #[.int .i64 n0] w fun e4 w3=>∃p1 v2,e4=.returned (.tuple #[.pointer p1,v2])∧
 isI v2∧bif (!(nilI v2)) then (
 R (.tuple #[.pointer none,v2]) w3) else (
 alo #[.pointer p1] Qmd w3 fun a5 w6=>
 R (.tuple #[.pointer (some a5),.nilIface]) w6)
theorem Qq4 (n0:Int):SH Qni [.int .i64 n0] (Qrb n0):=cdn Tryz.func94 (.s .L (.s .L (.s (.s .L (.c (.s .L .L) .L)) (.s .L .L)))) fun _ _=>by kernel_rfl
def Qd0 (p0:OA) (n1 n2:Int) (w:World) (R:RV):Prop:=
 Calls Pg Qch #[.pointer p0] w fun e5 w4=>∃p3,e5=.returned (.pointer p3)∧
 Calls Pg Qc3 #[.pointer p3,.int .i64 n1,.int .i64 n2] w4 fun e9 w8=>∃b6 v7,e9=.returned (.tuple #[.bool b6,v7])∧
 R (.tuple #[.bool b6,v7]) w8
theorem Qeh (p0:OA) (n1 n2:Int):SH Qbz [.pointer p0,.int .i64 n1,.int .i64 n2] (Qd0 p0 n1 n2):=cdn Tryz.func106 (.s .L (.s .L .L)) fun _ _=>by kernel_rfl
def Qft (p0:OA) (n1:Int) (w:World) (R:RV):Prop:=
 Calls Pg Qch #[.pointer p0] w fun e4 w3=>∃p2,e4=.returned (.pointer p2)∧
 Calls Pg Qcg #[.pointer p2,.int .i64 n1] w3 fun e8 w7=>∃s5b s5l s5c v6,e8=.returned (.tuple #[.slice s5b s5l s5c,v6])∧
 isI v6∧bif (!(nilI v6)) then (
 R (.tuple #[.slice none 0 0,v6]) w7) else (
 Calls Pg Qe5 #[.slice s5b s5l s5c,.int .i64 n1] w7 fun e11 w10=>∃n9,e11=.returned (.int .i64 n9)∧
 0≤n9∧n9≤((s5l:Nat):Int)∧0≤n9∧n9≤((s5c:Nat):Int)∧alo #[.slice (if s5c=(Int.toNat n9) then s5b else Option.map (fun a=>Addr.add a ((Int.toNat n9)*1)) s5b) (s5l-(Int.toNat n9)) (s5c-(Int.toNat n9)),.slice (if s5c=0 then s5b else Option.map (fun a=>Addr.add a (0*1)) s5b) ((Int.toNat n9)-0) (s5c-0)] Qam w10.drew fun a12 w13=>
 Calls Pg Qex #[.slice (some a12) 2 2] w13 fun e16 w15=>∃s14b s14l s14c,e16=.returned (.slice s14b s14l s14c)∧
 R (.tuple #[.slice s14b s14l s14c,.nilIface]) w15)
theorem Qgf (p0:OA) (n1:Int):SH Qd7 [.pointer p0,.int .i64 n1] (Qft p0 n1):=cdn Tryz.func122 (.s .L (.s .L (.s (.s .L (.c (.s .L .L) .L)) (.s .L (.s (.r (.t 0 6 (.one 6 (.one 7 (.t 8 2 .fin))))) .L))))) fun _ _=>by kernel_rfl
def Qgm (p0:OA) (n1:Int) (w:World) (R:RV):Prop:=
 Calls Pg Qch #[.pointer p0] w fun e4 w3=>∃p2,e4=.returned (.pointer p2)∧
 Calls Pg Qd6 #[.pointer p2,.int .i64 n1] w3 fun e8 w7=>∃n5 v6,e8=.returned (.tuple #[.int .i64 n5,v6])∧
 R (.tuple #[.int .i64 n5,v6]) w7
theorem Qg3 (p0:OA) (n1:Int):SH Qdh [.pointer p0,.int .i64 n1] (Qgm p0 n1):=cdn Tryz.func127 (.s .L (.s .L .L)) fun _ _=>by kernel_rfl
def Qh2 (p0:OA) (w:World) (R:RV):Prop:=
 bif (Option.isNone p0) then (
 R (.pointer none) w) else (
 pt p0 fun a1=>
 ldP a1 w fun p2=>
 R (.pointer p2) w)
theorem Qjp (p0:OA):SH Qch [.pointer p0] (Qh2 p0):=cdn Tryz.func136 (.s .L (.s (.s .L (.c (.s .L .L) .L)) (.s .L .L))) fun _ _=>by kernel_rfl
def Qfv (p0:OA) (n1:Int) (w:World) (R:RV):Prop:=
 Calls Pg Qc4 #[.pointer p0,.int .i64 n1,.int .i64 1] w fun e5 w4=>∃n2 v3,e5=.returned (.tuple #[.int .i64 n2,v3])∧
 R (.tuple #[.int .i64 n2,v3]) w4
theorem Qgh (p0:OA) (n1:Int):SH Qd8 [.pointer p0,.int .i64 n1] (Qfv p0 n1):=cdn Tryz.func143 (.s .L (.s .L .L)) fun _ _=>by kernel_rfl
def Qh3 (p0:OA) (n1:Int) (w:World) (R:RV):Prop:=
 Calls Pg Qc4 #[.pointer p0,.int .i64 n1,.int .i64 (-1)] w fun e5 w4=>∃n2 v3,e5=.returned (.tuple #[.int .i64 n2,v3])∧
 R (.tuple #[.int .i64 n2,v3]) w4
theorem Qjq (p0:OA) (n1:Int):SH Qci [.pointer p0,.int .i64 n1] (Qh3 p0 n1):=cdn Tryz.func145 (.s .L (.s .L .L)) fun _ _=>by kernel_rfl
def Qct (p0:OA) (n1 n2:Int) (w:World) (R:RV):Prop:=
 Calls Pg Qbz #[.pointer p0,.int .i64 n1,.int .i64 n2] w fun e6 w5=>∃b3 v4,e6=.returned (.tuple #[.bool b3,v4])∧
 isI v4∧bif (!(nilI v4)) then (
 R v4 w5) else (
 bif (n1==n2) then (
 R (.iface Qah (.int .i64 20)) w5) else (
 bif (!b3) then (
 R (.iface Qah (.int .i64 21)) w5) else (
 Calls Pg Qby #[.pointer p0,.int .i64 n1] w5 fun e9 w8=>∃v7,e9=.returned v7∧
 isI v7∧bif (!(nilI v7)) then (
 R v7 w8) else (
 pt p0 fun a10=>
 ldP a10 w8 fun p11=>
 Calls Pg Qb7 #[.pointer p11,.int .i64 n2] w8 fun e15 w14=>∃b12 v13,e15=.returned (.tuple #[.bool b12,v13])∧
 R v13 w14))))
theorem Qcs (p0:OA) (n1 n2:Int):SH Qb4 [.pointer p0,.int .i64 n1,.int .i64 n2] (Qct p0 n1 n2):=cdn Tryz.func146 (.s .L (.s .L (.s (.b (.s .L (.c (.s .L .L) (.s .L (.c (.s .L .L) (.s .L (.c (.s .L .L) .L))))))) (.s (.s .L (.s .L (.c (.s .L .L) .L))) (.s .L (.s .L .L)))))) fun _ _=>by kernel_rfl
def Qdl (p0:OA) (n1 n2:Int) (w:World) (R:RV):Prop:=
 Calls Pg Qbz #[.pointer p0,.int .i64 n1,.int .i64 n2] w fun e6 w5=>∃b3 v4,e6=.returned (.tuple #[.bool b3,v4])∧
 isI v4∧bif (!(nilI v4)) then (
 R v4 w5) else (
 bif b3 then (
 R (.iface Qah (.int .i64 20)) w5) else (
 Calls Pg Qby #[.pointer p0,.int .i64 n1] w5 fun e9 w8=>∃v7,e9=.returned v7∧
 isI v7∧bif (!(nilI v7)) then (
 R v7 w8) else (
 Calls Pg Qby #[.pointer p0,.int .i64 n2] w8 fun e12 w11=>∃v10,e12=.returned v10∧
 isI v10∧bif (!(nilI v10)) then (
 R v10 w11) else (
 pt p0 fun a13=>
 ldP a13 w11 fun p14=>
 Calls Pg Qbx #[.pointer p14,.int .i64 n1,.int .i64 n2] w11 fun e17 w16=>∃v15,e17=.returned v15∧
 R v15 w16))))
theorem Qds (p0:OA) (n1 n2:Int):SH Qcv [.pointer p0,.int .i64 n1,.int .i64 n2] (Qdl p0 n1 n2):=cdn Tryz.func148 (.s .L (.s .L (.s (.b (.s .L (.c (.s .L .L) (.s .L (.c (.s .L .L) .L))))) (.s (.s .L (.s .L (.c (.s .L .L) .L))) (.s (.s .L (.s .L (.c (.s .L .L) .L))) (.s .L .L)))))) fun _ _=>by kernel_rfl
def Qfs (p0:OA) (n1 n2:Int) (w:World) (R:RV):Prop:=
 Calls Pg Qdh #[.pointer p0,.int .i64 n1] w fun e6 w5=>∃n3 v4,e6=.returned (.tuple #[.int .i64 n3,v4])∧
 isI v4∧bif (!(nilI v4)) then (
 R (.tuple #[.int .i64 0,v4]) w5) else (
 pt p0 fun a7=>
 ldP a7 w5 fun p8=>
 Calls Pg Qf1 #[.pointer p8,.int .i64 n1] w5 fun e12 w11=>∃n9 v10,e12=.returned (.tuple #[.int .i64 n9,v10])∧
 isI v10∧bif (!(nilI v10)) then (
 R (.tuple #[.int .i64 0,v10]) w11) else (
 pt p0 fun a13=>
 ldP a13 w11.drew fun p14=>
 n3≠0∧Calls Pg Qdw #[.pointer p14,.int .i64 n1,.int .i64 (Int.tmod (IntKind.wrap .i64 ((IntKind.wrap .i64 (n9+n2))+n3)) n3)] w11.drew fun e18 w17=>∃n15 v16,e18=.returned (.tuple #[.int .i64 n15,v16])∧
 R (.tuple #[.int .i64 n15,v16]) w17))
theorem Qge (p0:OA) (n1 n2:Int):SH Qc4 [.pointer p0,.int .i64 n1,.int .i64 n2] (Qfs p0 n1 n2):=cdn Tryz.func167 (.s .L (.s .L (.s (.s .L (.c (.s .L .L) .L)) (.s .L (.s (.s .L (.c (.s .L .L) .L)) (.s (.r (.t 0 3 (.tk 3 [12,13,14,15,16] [12] (.t 4 8 (.one 12 (.t 13 4 .fin)))))) .L)))))) fun _ _=>by kernel_rfl
def Qe4 (p0:OA) (n1:Int) (w:World) (R:RV):Prop:=
 Calls Pg Qch #[.pointer p0] w fun e4 w3=>∃p2,e4=.returned (.pointer p2)∧
 Calls Pg Qdw #[.pointer p2,.int .i64 n1,.int .i64 0] w3 fun e8 w7=>∃n5 v6,e8=.returned (.tuple #[.int .i64 n5,v6])∧
 R (.tuple #[.int .i64 n5,v6]) w7
theorem Qfo (p0:OA) (n1:Int):SH Qcw [.pointer p0,.int .i64 n1] (Qe4 p0 n1):=cdn Tryz.func168 (.s .L (.s .L .L)) fun _ _=>by kernel_rfl
def Qfu (p0:OA) (n1:Int) (w:World) (R:RV):Prop:=
 Calls Pg Qcw #[.pointer p0,.int .i64 n1] w fun e5 w4=>∃n2 v3,e5=.returned (.tuple #[.int .i64 n2,v3])∧
 isI v3∧bif (!(nilI v3)) then (
 R v3 w4) else (
 bif (n2==n1) then (
 R v3 w4) else (
 pt p0 fun a6=>
 ldP a6 w4 fun p7=>
 Calls Pg Qb7 #[.pointer p7,.int .i64 n1] w4 fun e11 w10=>∃b8 v9,e11=.returned (.tuple #[.bool b8,v9])∧
 isI v9∧bif (!(nilI v9)) then (
 R v9 w10) else (
 pt p0 fun a12=>
 ldP a12 w10 fun p13=>
 Calls Pg Qbx #[.pointer p13,.int .i64 n1,.int .i64 n2] w10 fun e16 w15=>∃v14,e16=.returned v14∧
 R v14 w15)))
theorem Qgg (p0:OA) (n1:Int):SH Qby [.pointer p0,.int .i64 n1] (Qfu p0 n1):=cdn Tryz.func169 (.s .L (.s .L (.s (.s .L (.c (.s .L .L) .L)) (.s (.s .L (.s .L (.c (.s .L .L) .L))) (.s .L .L))))) fun _ _=>by kernel_rfl
end Go.Proofs.YtpmicakdjhoafaaGreatDoor
