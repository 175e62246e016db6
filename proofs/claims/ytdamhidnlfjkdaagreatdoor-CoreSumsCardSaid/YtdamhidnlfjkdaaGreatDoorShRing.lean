/-
What each function does, as one formula, printed by a program of this session out of the translation; the kernel holds each print against the translation.
Conditions: none.
-/
import Derived.Test.YtdamhidnlfjkdaaGreatDoorSn
namespace Go.Proofs.YtdamhidnlfjkdaaGreatDoor
open Go
set_option linter.unusedVariables false
set_option maxRecDepth 100000
def sh_ring_New (n0:Int) (w:World) (R:RV):Prop:=
  Calls Pg fn_seq_New #[.int .i64 n0] w fun e4 w3=>∃p1 v2,e4=.returned (.tuple #[.pointer p1,v2])∧
 isI v2∧bif (!(nilI v2)) then (
 R (.tuple #[.pointer none,v2]) w3) else (
 alo #[.pointer p1] T_ring_Rings w3 fun a5 w6=>
 R (.tuple #[.pointer (some a5),.nilIface]) w6)
theorem calls_ring_New (n0:Int):SH fn_ring_New [.int .i64 n0] (sh_ring_New n0):=cdn Tryz.func85 (.s .L (.s .L (.s (.s .L (.c (.s .L .L) .L)) (.s .L .L)))) fun _ _=>by kernel_rfl
def sh_ring_Rings_Same (p0:OA) (n1 n2:Int) (w:World) (R:RV):Prop:=
  Calls Pg fn_ring_Rings_seqs #[.pointer p0] w fun e5 w4=>∃p3,e5=.returned (.pointer p3)∧
 Calls Pg fn_seq_Forest_Same #[.pointer p3,.int .i64 n1,.int .i64 n2] w4 fun e9 w8=>∃b6 v7,e9=.returned (.tuple #[.bool b6,v7])∧
 R (.tuple #[.bool b6,v7]) w8
theorem calls_ring_Rings_Same (p0:OA) (n1 n2:Int):SH fn_ring_Rings_Same [.pointer p0,.int .i64 n1,.int .i64 n2] (sh_ring_Rings_Same p0 n1 n2):=cdn Tryz.func108 (.s .L (.s .L .L)) fun _ _=>by kernel_rfl
def sh_ring_Rings_seqs (p0:OA) (w:World) (R:RV):Prop:=
  bif (Option.isNone p0) then (
 R (.pointer none) w) else (
 pt p0 fun a1=>
 ldP a1 w fun p2=>
 R (.pointer p2) w)
theorem calls_ring_Rings_seqs (p0:OA):SH fn_ring_Rings_seqs [.pointer p0] (sh_ring_Rings_seqs p0):=cdn Tryz.func140 (.s .L (.s (.s .L (.c (.s .L .L) .L)) (.s .L .L))) fun _ _=>by kernel_rfl
def sh_ring_Rings_Prev (p0:OA) (n1:Int) (w:World) (R:RV):Prop:=
  Calls Pg fn_ring_Rings_step #[.pointer p0,.int .i64 n1,.int .i64 (-1)] w fun e5 w4=>∃n2 v3,e5=.returned (.tuple #[.int .i64 n2,v3])∧
 R (.tuple #[.int .i64 n2,v3]) w4
theorem calls_ring_Rings_Prev (p0:OA) (n1:Int):SH fn_ring_Rings_Prev [.pointer p0,.int .i64 n1] (sh_ring_Rings_Prev p0 n1):=cdn Tryz.func144 (.s .L (.s .L .L)) fun _ _=>by kernel_rfl
def sh_ring_Rings_Merge (p0:OA) (n1 n2:Int) (w:World) (R:RV):Prop:=
  Calls Pg fn_ring_Rings_Same #[.pointer p0,.int .i64 n1,.int .i64 n2] w fun e6 w5=>∃b3 v4,e6=.returned (.tuple #[.bool b3,v4])∧
 isI v4∧bif (!(nilI v4)) then (
 R v4 w5) else (
 bif b3 then (
 R (.iface T_api_Errno (.int .i64 20)) w5) else (
 Calls Pg fn_ring_Rings_Turn #[.pointer p0,.int .i64 n1] w5 fun e9 w8=>∃v7,e9=.returned v7∧
 isI v7∧bif (!(nilI v7)) then (
 R v7 w8) else (
 Calls Pg fn_ring_Rings_Turn #[.pointer p0,.int .i64 n2] w8 fun e12 w11=>∃v10,e12=.returned v10∧
 isI v10∧bif (!(nilI v10)) then (
 R v10 w11) else (
 pt p0 fun a13=>
 ldP a13 w11 fun p14=>
 Calls Pg fn_seq_Forest_Join #[.pointer p14,.int .i64 n1,.int .i64 n2] w11 fun e17 w16=>∃v15,e17=.returned v15∧
 R v15 w16))))
theorem calls_ring_Rings_Merge (p0:OA) (n1 n2:Int):SH fn_ring_Rings_Merge [.pointer p0,.int .i64 n1,.int .i64 n2] (sh_ring_Rings_Merge p0 n1 n2):=cdn Tryz.func145 (.s .L (.s .L (.s (.b (.s .L (.c (.s .L .L) (.s .L (.c (.s .L .L) .L))))) (.s (.s .L (.s .L (.c (.s .L .L) .L))) (.s (.s .L (.s .L (.c (.s .L .L) .L))) (.s .L .L)))))) fun _ _=>by kernel_rfl
def sh_ring_Rings_Split (p0:OA) (n1 n2:Int) (w:World) (R:RV):Prop:=
  Calls Pg fn_ring_Rings_Same #[.pointer p0,.int .i64 n1,.int .i64 n2] w fun e6 w5=>∃b3 v4,e6=.returned (.tuple #[.bool b3,v4])∧
 isI v4∧bif (!(nilI v4)) then (
 R v4 w5) else (
 bif (n1==n2) then (
 R (.iface T_api_Errno (.int .i64 20)) w5) else (
 bif (!b3) then (
 R (.iface T_api_Errno (.int .i64 21)) w5) else (
 Calls Pg fn_ring_Rings_Turn #[.pointer p0,.int .i64 n1] w5 fun e9 w8=>∃v7,e9=.returned v7∧
 isI v7∧bif (!(nilI v7)) then (
 R v7 w8) else (
 pt p0 fun a10=>
 ldP a10 w8 fun p11=>
 Calls Pg fn_seq_Forest_Cut #[.pointer p11,.int .i64 n2] w8 fun e15 w14=>∃b12 v13,e15=.returned (.tuple #[.bool b12,v13])∧
 R v13 w14))))
theorem calls_ring_Rings_Split (p0:OA) (n1 n2:Int):SH fn_ring_Rings_Split [.pointer p0,.int .i64 n1,.int .i64 n2] (sh_ring_Rings_Split p0 n1 n2):=cdn Tryz.func146 (.s .L (.s .L (.s (.b (.s .L (.c (.s .L .L) (.s .L (.c (.s .L .L) (.s .L (.c (.s .L .L) .L))))))) (.s (.s .L (.s .L (.c (.s .L .L) .L))) (.s .L (.s .L .L)))))) fun _ _=>by kernel_rfl
def sh_ring_Rings_Len (p0:OA) (n1:Int) (w:World) (R:RV):Prop:=
  Calls Pg fn_ring_Rings_seqs #[.pointer p0] w fun e4 w3=>∃p2,e4=.returned (.pointer p2)∧
 Calls Pg fn_seq_Forest_Size #[.pointer p2,.int .i64 n1] w3 fun e8 w7=>∃n5 v6,e8=.returned (.tuple #[.int .i64 n5,v6])∧
 R (.tuple #[.int .i64 n5,v6]) w7
theorem calls_ring_Rings_Len (p0:OA) (n1:Int):SH fn_ring_Rings_Len [.pointer p0,.int .i64 n1] (sh_ring_Rings_Len p0 n1):=cdn Tryz.func154 (.s .L (.s .L .L)) fun _ _=>by kernel_rfl
def sh_ring_Rings_Next (p0:OA) (n1:Int) (w:World) (R:RV):Prop:=
  Calls Pg fn_ring_Rings_step #[.pointer p0,.int .i64 n1,.int .i64 1] w fun e5 w4=>∃n2 v3,e5=.returned (.tuple #[.int .i64 n2,v3])∧
 R (.tuple #[.int .i64 n2,v3]) w4
theorem calls_ring_Rings_Next (p0:OA) (n1:Int):SH fn_ring_Rings_Next [.pointer p0,.int .i64 n1] (sh_ring_Rings_Next p0 n1):=cdn Tryz.func155 (.s .L (.s .L .L)) fun _ _=>by kernel_rfl
def sh_ring_Rings_Front (p0:OA) (n1:Int) (w:World) (R:RV):Prop:=
  Calls Pg fn_ring_Rings_seqs #[.pointer p0] w fun e4 w3=>∃p2,e4=.returned (.pointer p2)∧
 Calls Pg fn_seq_Forest_At #[.pointer p2,.int .i64 n1,.int .i64 0] w3 fun e8 w7=>∃n5 v6,e8=.returned (.tuple #[.int .i64 n5,v6])∧
 R (.tuple #[.int .i64 n5,v6]) w7
theorem calls_ring_Rings_Front (p0:OA) (n1:Int):SH fn_ring_Rings_Front [.pointer p0,.int .i64 n1] (sh_ring_Rings_Front p0 n1):=cdn Tryz.func174 (.s .L (.s .L .L)) fun _ _=>by kernel_rfl
def sh_ring_Rings_Turn (p0:OA) (n1:Int) (w:World) (R:RV):Prop:=
  Calls Pg fn_ring_Rings_Front #[.pointer p0,.int .i64 n1] w fun e5 w4=>∃n2 v3,e5=.returned (.tuple #[.int .i64 n2,v3])∧
 isI v3∧bif (!(nilI v3)) then (
 R v3 w4) else (
 bif (n2==n1) then (
 R v3 w4) else (
 pt p0 fun a6=>
 ldP a6 w4 fun p7=>
 Calls Pg fn_seq_Forest_Cut #[.pointer p7,.int .i64 n1] w4 fun e11 w10=>∃b8 v9,e11=.returned (.tuple #[.bool b8,v9])∧
 isI v9∧bif (!(nilI v9)) then (
 R v9 w10) else (
 pt p0 fun a12=>
 ldP a12 w10 fun p13=>
 Calls Pg fn_seq_Forest_Join #[.pointer p13,.int .i64 n1,.int .i64 n2] w10 fun e16 w15=>∃v14,e16=.returned v14∧
 R v14 w15)))
theorem calls_ring_Rings_Turn (p0:OA) (n1:Int):SH fn_ring_Rings_Turn [.pointer p0,.int .i64 n1] (sh_ring_Rings_Turn p0 n1):=cdn Tryz.func175 (.s .L (.s .L (.s (.s .L (.c (.s .L .L) .L)) (.s (.s .L (.s .L (.c (.s .L .L) .L))) (.s .L .L))))) fun _ _=>by kernel_rfl
def sh_ring_Rings_step (p0:OA) (n1 n2:Int) (w:World) (R:RV):Prop:=
  Calls Pg fn_ring_Rings_Len #[.pointer p0,.int .i64 n1] w fun e6 w5=>∃n3 v4,e6=.returned (.tuple #[.int .i64 n3,v4])∧
 isI v4∧bif (!(nilI v4)) then (
 R (.tuple #[.int .i64 0,v4]) w5) else (
 pt p0 fun a7=>
 ldP a7 w5 fun p8=>
 Calls Pg fn_seq_Forest_Rank #[.pointer p8,.int .i64 n1] w5 fun e12 w11=>∃n9 v10,e12=.returned (.tuple #[.int .i64 n9,v10])∧
 isI v10∧bif (!(nilI v10)) then (
 R (.tuple #[.int .i64 0,v10]) w11) else (
 pt p0 fun a13=>
 ldP a13 w11.drew fun p14=>
 n3≠0∧Calls Pg fn_seq_Forest_At #[.pointer p14,.int .i64 n1,.int .i64 (Int.tmod (IntKind.wrap .i64 ((IntKind.wrap .i64 (n9+n2))+n3)) n3)] w11.drew fun e18 w17=>∃n15 v16,e18=.returned (.tuple #[.int .i64 n15,v16])∧
 R (.tuple #[.int .i64 n15,v16]) w17))
theorem calls_ring_Rings_step (p0:OA) (n1 n2:Int):SH fn_ring_Rings_step [.pointer p0,.int .i64 n1,.int .i64 n2] (sh_ring_Rings_step p0 n1 n2):=cdn Tryz.func176 (.s .L (.s .L (.s (.s .L (.c (.s .L .L) .L)) (.s .L (.s (.s .L (.c (.s .L .L) .L)) (.s (.r (.t 0 3 (.tk 3 [12,13,14,15,16] [12] (.t 4 8 (.one 12 (.t 13 4 .fin)))))) .L)))))) fun _ _=>by kernel_rfl
end Go.Proofs.YtdamhidnlfjkdaaGreatDoor
