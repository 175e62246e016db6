/-
Names of the numbers of functions and types in this seat's translation, and that its functions with bodies are entered.
Conditions: none.
-/
import Derived.Test.YtfeekmmfdkfgmaaGreatDoorLexE
import Derived.Test.YtfeekmmfdkfgmaaGreatDoorProg
namespace Go.Proofs.YtfeekmmfdkfgmaaGreatDoor
open Go
noncomputable abbrev Pg:Program:=Tryz.prog
theorem Qld:Pg.follows .mixedOrders=true:=by kernel_rfl
def Qbn (a:Addr) (w:World) (K:Int→Option Addr→Nat→Nat→Option Addr→Nat→Nat→Option Addr→Nat→Nat→Prop):Prop:=
 ldI .i64 a w fun n0=>
 ldS (a.add 1) w fun s1b s1l s1c=>
 ldS (a.add 2) w fun s2b s2l s2c=>
 ldS (a.add 3) w fun s3b s3l s3c=>
 K n0 s1b s1l s1c s2b s2l s2c s3b s3l s3c
def Qcy (a:Addr) (w:World) (K:Int→Option Addr→Nat→Nat→Option Addr→Nat→Nat→Option Addr→Nat→Nat→Prop):Prop:=
 ldI .i64 a w fun n0=>
 ldS (a.add 1) w fun s1b s1l s1c=>
 ldS (a.add 2) w fun s2b s2l s2c=>
 ldS (a.add 3) w fun s3b s3l s3c=>
 K n0 s1b s1l s1c s2b s2l s2c s3b s3l s3c
def Qcd (a:Addr) (w:World) (K:Int→Option Addr→Nat→Nat→Prop):Prop:=
 ldI .i64 a w fun n0=>
 ldS (a.add 1) w fun s1b s1l s1c=>
 K n0 s1b s1l s1c
def Qcc (a:Addr) (w:World) (K:Int→Option Addr→Nat→Nat→Int→Option Addr→Nat→Nat→Option Addr→Nat→Nat→Prop):Prop:=
 ldI .i64 a w fun n0=>
 ldS (a.add 1) w fun s1b s1l s1c=>
 ldI .i64 (a.add 2) w fun n2=>
 ldS (a.add 3) w fun s3b s3l s3c=>
 ldS (a.add 4) w fun s4b s4l s4c=>
 K n0 s1b s1l s1c n2 s3b s3l s3c s4b s4l s4c
def Qp0 (a:Addr) (w:World) (K:Int→Int→Int→Int→Int→Int→Int→Prop):Prop:=
 ldI .i64 a w fun n0=>
 ldI .i64 (a.add 1) w fun n1=>
 ldI .i64 (a.add 2) w fun n2=>
 ldI .i64 (a.add 3) w fun n3=>
 ldI .i64 (a.add 4) w fun n4=>
 ldI .i64 (a.add 5) w fun n5=>
 ldI .i32 (a.add 6) w fun n6=>
 K n0 n1 n2 n3 n4 n5 n6
def Qyu (a:Addr) (w:World) (K:Int→Int→Int→Int→Int→Int→Int→Prop):Prop:=
 ldI .i64 a w fun n0=>
 ldI .i64 (a.add 1) w fun n1=>
 ldI .i64 (a.add 2) w fun n2=>
 ldI .i64 (a.add 3) w fun n3=>
 ldI .i64 (a.add 4) w fun n4=>
 ldI .i64 (a.add 5) w fun n5=>
 ldI .i32 (a.add 6) w fun n6=>
 K n0 n1 n2 n3 n4 n5 n6
def Qef (a:Addr) (w:World) (K:Int→Int→Int→Int→Int→Prop):Prop:=
 ldI .u32 a w fun n0=>
 ldI .u32 (a.add 1) w fun n1=>
 ldI .u32 (a.add 2) w fun n2=>
 ldI .u32 (a.add 3) w fun n3=>
 ldI .i32 (a.add 4) w fun n4=>
 K n0 n1 n2 n3 n4
def Qew (a:Addr) (w:World) (K:Int→Int→Int→Int→Int→Prop):Prop:=
 ldI .u32 a w fun n0=>
 ldI .u32 (a.add 1) w fun n1=>
 ldI .u32 (a.add 2) w fun n2=>
 ldI .u32 (a.add 3) w fun n3=>
 ldI .i32 (a.add 4) w fun n4=>
 K n0 n1 n2 n3 n4
def Qnv (a:Addr) (w:World) (K:Int→Int→Int→Prop):Prop:=
 ldI .i64 a w fun n0=>
 ldI .i64 (a.add 1) w fun n1=>
 ldI .i32 (a.add 2) w fun n2=>
 K n0 n1 n2
def Qxp (a:Addr) (w:World) (K:Int→Int→Int→Prop):Prop:=
 ldI .i64 a w fun n0=>
 ldI .i64 (a.add 1) w fun n1=>
 ldI .i32 (a.add 2) w fun n2=>
 K n0 n1 n2
def Eall:List Nat:=[3,4,5,6,7,8,9,10,11,12,13,14,15,16,17,18,19,20,21,22,23,24,25,26,27,28,29,30,31,32,33,34,35,36,37,38,39,40,41,42,43,44,45,46,47,48,49,50,51,52,53,54,55,56,57,58,59,60,61,62,63,64,65,66,67,68,69,70,71,72,73,74,75,76,77,78,79,80,81,82,83,84,85,86,87,88,89,90,91,92,93,94,95,96,97,98,99,100,101,102,103,104,105,106,107,108,109,110,111,112,113,114,115,119,120,121,122,123,124,125,126,127,128,129,130,131,132,133,134,135,136,137,138,139,140,141,142,143,144,145,146,147,148,149,150,151,152,153,154,155,156,157,158,159,160,161,162,163,164,165,166,167,168,169,170,171,172,173,174,175,176,177,178,179,180,181,182,183,184,185,186,187,188,189,193,194,195,196,197,198,199,200,201,202,203,204,205,206,207,208,209,210,211,212,213,214,215,216,217,218,219,220,221,222,223,224,225,226,227,228,229,230,231,232,233,234,235,236,237,238,239,240,241,242,243,244,245,246,247,248,249,250,251,252,253,254,255,256,257,258,259,260,261,262,263,264,265,266,267,268,269,270,271,272,273,274,275,276,277,278,280,281,282,283,284,285,286,287,288,289,290,291,292,293,294,295,296,297,298,299,300,301,302,303,304,305,307,308,309,310,311,312,313,314,315,316,317,318,319,320,321,322,323,324,325,326]
theorem Qlh:∀g∈Eall,enters Pg g:=by
 unfold Eall
 refine List.forall_mem_cons.2 ⟨Tryz.call3,?_⟩
 refine List.forall_mem_cons.2 ⟨Tryz.call4,?_⟩
 refine List.forall_mem_cons.2 ⟨Tryz.call5,?_⟩
 refine List.forall_mem_cons.2 ⟨Tryz.call6,?_⟩
 refine List.forall_mem_cons.2 ⟨Tryz.call7,?_⟩
 refine List.forall_mem_cons.2 ⟨Tryz.call8,?_⟩
 refine List.forall_mem_cons.2 ⟨Tryz.call9,?_⟩
 refine List.forall_mem_cons.2 ⟨Tryz.call10,?_⟩
 refine List.forall_mem_cons.2 ⟨Tryz.call11,?_⟩
 refine List.forall_mem_cons.2 ⟨Tryz.call12,?_⟩
 refine List.forall_mem_cons.2 ⟨Tryz.call13,?_⟩
 refine List.forall_mem_cons.2 ⟨Tryz.call14,?_⟩
 refine List.forall_mem_cons.2 ⟨Tryz.call15,?_⟩
 refine List.forall_mem_cons.2 ⟨Tryz.call16,?_⟩
 refine List.forall_mem_cons.2 ⟨Tryz.call17,?_⟩
 refine List.forall_mem_cons.2 ⟨Tryz.call18,?_⟩
 refine List.forall_mem_cons.2 ⟨Tryz.call19,?_⟩
 refine List.forall_mem_cons.2 ⟨Tryz.call20,?_⟩
 refine List.forall_mem_cons.2 ⟨Tryz.call21,?_⟩
 refine List.forall_mem_cons.2 ⟨Tryz.call22,?_⟩
 refine List.forall_mem_cons.2 ⟨Tryz.call23,?_⟩
 refine List.forall_mem_cons.2 ⟨Tryz.call24,?_⟩
 refine List.forall_mem_cons.2 ⟨Tryz.call25,?_⟩
 refine List.forall_mem_cons.2 ⟨Tryz.call26,?_⟩
 refine List.forall_mem_cons.2 ⟨Tryz.call27,?_⟩
 refine List.forall_mem_cons.2 ⟨Tryz.call28,?_⟩
 refine List.forall_mem_cons.2 ⟨Tryz.call29,?_⟩
 refine List.forall_mem_cons.2 ⟨Tryz.call30,?_⟩
 refine List.forall_mem_cons.2 ⟨Tryz.call31,?_⟩
 refine List.forall_mem_cons.2 ⟨Tryz.call32,?_⟩
 refine List.forall_mem_cons.2 ⟨Tryz.call33,?_⟩
 refine List.forall_mem_cons.2 ⟨Tryz.call34,?_⟩
 refine List.forall_mem_cons.2 ⟨Tryz.call35,?_⟩
 refine List.forall_mem_cons.2 ⟨Tryz.call36,?_⟩
 refine List.forall_mem_cons.2 ⟨Tryz.call37,?_⟩
 refine List.forall_mem_cons.2 ⟨Tryz.call38,?_⟩
 refine List.forall_mem_cons.2 ⟨Tryz.call39,?_⟩
 refine List.forall_mem_cons.2 ⟨Tryz.call40,?_⟩
 refine List.forall_mem_cons.2 ⟨Tryz.call41,?_⟩
 refine List.forall_mem_cons.2 ⟨Tryz.call42,?_⟩
 refine List.forall_mem_cons.2 ⟨Tryz.call43,?_⟩
 refine List.forall_mem_cons.2 ⟨Tryz.call44,?_⟩
 refine List.forall_mem_cons.2 ⟨Tryz.call45,?_⟩
 refine List.forall_mem_cons.2 ⟨Tryz.call46,?_⟩
 refine List.forall_mem_cons.2 ⟨Tryz.call47,?_⟩
 refine List.forall_mem_cons.2 ⟨Tryz.call48,?_⟩
 refine List.forall_mem_cons.2 ⟨Tryz.call49,?_⟩
 refine List.forall_mem_cons.2 ⟨Tryz.call50,?_⟩
 refine List.forall_mem_cons.2 ⟨Tryz.call51,?_⟩
 refine List.forall_mem_cons.2 ⟨Tryz.call52,?_⟩
 refine List.forall_mem_cons.2 ⟨Tryz.call53,?_⟩
 refine List.forall_mem_cons.2 ⟨Tryz.call54,?_⟩
 refine List.forall_mem_cons.2 ⟨Tryz.call55,?_⟩
 refine List.forall_mem_cons.2 ⟨Tryz.call56,?_⟩
 refine List.forall_mem_cons.2 ⟨Tryz.call57,?_⟩
 refine List.forall_mem_cons.2 ⟨Tryz.call58,?_⟩
 refine List.forall_mem_cons.2 ⟨Tryz.call59,?_⟩
 refine List.forall_mem_cons.2 ⟨Tryz.call60,?_⟩
 refine List.forall_mem_cons.2 ⟨Tryz.call61,?_⟩
 refine List.forall_mem_cons.2 ⟨Tryz.call62,?_⟩
 refine List.forall_mem_cons.2 ⟨Tryz.call63,?_⟩
 refine List.forall_mem_cons.2 ⟨Tryz.call64,?_⟩
 refine List.forall_mem_cons.2 ⟨Tryz.call65,?_⟩
 refine List.forall_mem_cons.2 ⟨Tryz.call66,?_⟩
 refine List.forall_mem_cons.2 ⟨Tryz.call67,?_⟩
 refine List.forall_mem_cons.2 ⟨Tryz.call68,?_⟩
 refine List.forall_mem_cons.2 ⟨Tryz.call69,?_⟩
 refine List.forall_mem_cons.2 ⟨Tryz.call70,?_⟩
 refine List.forall_mem_cons.2 ⟨Tryz.call71,?_⟩
 refine List.forall_mem_cons.2 ⟨Tryz.call72,?_⟩
 refine List.forall_mem_cons.2 ⟨Tryz.call73,?_⟩
 refine List.forall_mem_cons.2 ⟨Tryz.call74,?_⟩
 refine List.forall_mem_cons.2 ⟨Tryz.call75,?_⟩
 refine List.forall_mem_cons.2 ⟨Tryz.call76,?_⟩
 refine List.forall_mem_cons.2 ⟨Tryz.call77,?_⟩
 refine List.forall_mem_cons.2 ⟨Tryz.call78,?_⟩
 refine List.forall_mem_cons.2 ⟨Tryz.call79,?_⟩
 refine List.forall_mem_cons.2 ⟨Tryz.call80,?_⟩
 refine List.forall_mem_cons.2 ⟨Tryz.call81,?_⟩
 refine List.forall_mem_cons.2 ⟨Tryz.call82,?_⟩
 refine List.forall_mem_cons.2 ⟨Tryz.call83,?_⟩
 refine List.forall_mem_cons.2 ⟨Tryz.call84,?_⟩
 refine List.forall_mem_cons.2 ⟨Tryz.call85,?_⟩
 refine List.forall_mem_cons.2 ⟨Tryz.call86,?_⟩
 refine List.forall_mem_cons.2 ⟨Tryz.call87,?_⟩
 refine List.forall_mem_cons.2 ⟨Tryz.call88,?_⟩
 refine List.forall_mem_cons.2 ⟨Tryz.call89,?_⟩
 refine List.forall_mem_cons.2 ⟨Tryz.call90,?_⟩
 refine List.forall_mem_cons.2 ⟨Tryz.call91,?_⟩
 refine List.forall_mem_cons.2 ⟨Tryz.call92,?_⟩
 refine List.forall_mem_cons.2 ⟨Tryz.call93,?_⟩
 refine List.forall_mem_cons.2 ⟨Tryz.call94,?_⟩
 refine List.forall_mem_cons.2 ⟨Tryz.call95,?_⟩
 refine List.forall_mem_cons.2 ⟨Tryz.call96,?_⟩
 refine List.forall_mem_cons.2 ⟨Tryz.call97,?_⟩
 refine List.forall_mem_cons.2 ⟨Tryz.call98,?_⟩
 refine List.forall_mem_cons.2 ⟨Tryz.call99,?_⟩
 refine List.forall_mem_cons.2 ⟨Tryz.call100,?_⟩
 refine List.forall_mem_cons.2 ⟨Tryz.call101,?_⟩
 refine List.forall_mem_cons.2 ⟨Tryz.call102,?_⟩
 refine List.forall_mem_cons.2 ⟨Tryz.call103,?_⟩
 refine List.forall_mem_cons.2 ⟨Tryz.call104,?_⟩
 refine List.forall_mem_cons.2 ⟨Tryz.call105,?_⟩
 refine List.forall_mem_cons.2 ⟨Tryz.call106,?_⟩
 refine List.forall_mem_cons.2 ⟨Tryz.call107,?_⟩
 refine List.forall_mem_cons.2 ⟨Tryz.call108,?_⟩
 refine List.forall_mem_cons.2 ⟨Tryz.call109,?_⟩
 refine List.forall_mem_cons.2 ⟨Tryz.call110,?_⟩
 refine List.forall_mem_cons.2 ⟨Tryz.call111,?_⟩
 refine List.forall_mem_cons.2 ⟨Tryz.call112,?_⟩
 refine List.forall_mem_cons.2 ⟨Tryz.call113,?_⟩
 refine List.forall_mem_cons.2 ⟨Tryz.call114,?_⟩
 refine List.forall_mem_cons.2 ⟨Tryz.call115,?_⟩
 refine List.forall_mem_cons.2 ⟨Tryz.call119,?_⟩
 refine List.forall_mem_cons.2 ⟨Tryz.call120,?_⟩
 refine List.forall_mem_cons.2 ⟨Tryz.call121,?_⟩
 refine List.forall_mem_cons.2 ⟨Tryz.call122,?_⟩
 refine List.forall_mem_cons.2 ⟨Tryz.call123,?_⟩
 refine List.forall_mem_cons.2 ⟨Tryz.call124,?_⟩
 refine List.forall_mem_cons.2 ⟨Tryz.call125,?_⟩
 refine List.forall_mem_cons.2 ⟨Tryz.call126,?_⟩
 refine List.forall_mem_cons.2 ⟨Tryz.call127,?_⟩
 refine List.forall_mem_cons.2 ⟨Tryz.call128,?_⟩
 refine List.forall_mem_cons.2 ⟨Tryz.call129,?_⟩
 refine List.forall_mem_cons.2 ⟨Tryz.call130,?_⟩
 refine List.forall_mem_cons.2 ⟨Tryz.call131,?_⟩
 refine List.forall_mem_cons.2 ⟨Tryz.call132,?_⟩
 refine List.forall_mem_cons.2 ⟨Tryz.call133,?_⟩
 refine List.forall_mem_cons.2 ⟨Tryz.call134,?_⟩
 refine List.forall_mem_cons.2 ⟨Tryz.call135,?_⟩
 refine List.forall_mem_cons.2 ⟨Tryz.call136,?_⟩
 refine List.forall_mem_cons.2 ⟨Tryz.call137,?_⟩
 refine List.forall_mem_cons.2 ⟨Tryz.call138,?_⟩
 refine List.forall_mem_cons.2 ⟨Tryz.call139,?_⟩
 refine List.forall_mem_cons.2 ⟨Tryz.call140,?_⟩
 refine List.forall_mem_cons.2 ⟨Tryz.call141,?_⟩
 refine List.forall_mem_cons.2 ⟨Tryz.call142,?_⟩
 refine List.forall_mem_cons.2 ⟨Tryz.call143,?_⟩
 refine List.forall_mem_cons.2 ⟨Tryz.call144,?_⟩
 refine List.forall_mem_cons.2 ⟨Tryz.call145,?_⟩
 refine List.forall_mem_cons.2 ⟨Tryz.call146,?_⟩
 refine List.forall_mem_cons.2 ⟨Tryz.call147,?_⟩
 refine List.forall_mem_cons.2 ⟨Tryz.call148,?_⟩
 refine List.forall_mem_cons.2 ⟨Tryz.call149,?_⟩
 refine List.forall_mem_cons.2 ⟨Tryz.call150,?_⟩
 refine List.forall_mem_cons.2 ⟨Tryz.call151,?_⟩
 refine List.forall_mem_cons.2 ⟨Tryz.call152,?_⟩
 refine List.forall_mem_cons.2 ⟨Tryz.call153,?_⟩
 refine List.forall_mem_cons.2 ⟨Tryz.call154,?_⟩
 refine List.forall_mem_cons.2 ⟨Tryz.call155,?_⟩
 refine List.forall_mem_cons.2 ⟨Tryz.call156,?_⟩
 refine List.forall_mem_cons.2 ⟨Tryz.call157,?_⟩
 refine List.forall_mem_cons.2 ⟨Tryz.call158,?_⟩
 refine List.forall_mem_cons.2 ⟨Tryz.call159,?_⟩
 refine List.forall_mem_cons.2 ⟨Tryz.call160,?_⟩
 refine List.forall_mem_cons.2 ⟨Tryz.call161,?_⟩
 refine List.forall_mem_cons.2 ⟨Tryz.call162,?_⟩
 refine List.forall_mem_cons.2 ⟨Tryz.call163,?_⟩
 refine List.forall_mem_cons.2 ⟨Tryz.call164,?_⟩
 refine List.forall_mem_cons.2 ⟨Tryz.call165,?_⟩
 refine List.forall_mem_cons.2 ⟨Tryz.call166,?_⟩
 refine List.forall_mem_cons.2 ⟨Tryz.call167,?_⟩
 refine List.forall_mem_cons.2 ⟨Tryz.call168,?_⟩
 refine List.forall_mem_cons.2 ⟨Tryz.call169,?_⟩
 refine List.forall_mem_cons.2 ⟨Tryz.call170,?_⟩
 refine List.forall_mem_cons.2 ⟨Tryz.call171,?_⟩
 refine List.forall_mem_cons.2 ⟨Tryz.call172,?_⟩
 refine List.forall_mem_cons.2 ⟨Tryz.call173,?_⟩
 refine List.forall_mem_cons.2 ⟨Tryz.call174,?_⟩
 refine List.forall_mem_cons.2 ⟨Tryz.call175,?_⟩
 refine List.forall_mem_cons.2 ⟨Tryz.call176,?_⟩
 refine List.forall_mem_cons.2 ⟨Tryz.call177,?_⟩
 refine List.forall_mem_cons.2 ⟨Tryz.call178,?_⟩
 refine List.forall_mem_cons.2 ⟨Tryz.call179,?_⟩
 refine List.forall_mem_cons.2 ⟨Tryz.call180,?_⟩
 refine List.forall_mem_cons.2 ⟨Tryz.call181,?_⟩
 refine List.forall_mem_cons.2 ⟨Tryz.call182,?_⟩
 refine List.forall_mem_cons.2 ⟨Tryz.call183,?_⟩
 refine List.forall_mem_cons.2 ⟨Tryz.call184,?_⟩
 refine List.forall_mem_cons.2 ⟨Tryz.call185,?_⟩
 refine List.forall_mem_cons.2 ⟨Tryz.call186,?_⟩
 refine List.forall_mem_cons.2 ⟨Tryz.call187,?_⟩
 refine List.forall_mem_cons.2 ⟨Tryz.call188,?_⟩
 refine List.forall_mem_cons.2 ⟨Tryz.call189,?_⟩
 refine List.forall_mem_cons.2 ⟨Tryz.call193,?_⟩
 refine List.forall_mem_cons.2 ⟨Tryz.call194,?_⟩
 refine List.forall_mem_cons.2 ⟨Tryz.call195,?_⟩
 refine List.forall_mem_cons.2 ⟨Tryz.call196,?_⟩
 refine List.forall_mem_cons.2 ⟨Tryz.call197,?_⟩
 refine List.forall_mem_cons.2 ⟨Tryz.call198,?_⟩
 refine List.forall_mem_cons.2 ⟨Tryz.call199,?_⟩
 refine List.forall_mem_cons.2 ⟨Tryz.call200,?_⟩
 refine List.forall_mem_cons.2 ⟨Tryz.call201,?_⟩
 refine List.forall_mem_cons.2 ⟨Tryz.call202,?_⟩
 refine List.forall_mem_cons.2 ⟨Tryz.call203,?_⟩
 refine List.forall_mem_cons.2 ⟨Tryz.call204,?_⟩
 refine List.forall_mem_cons.2 ⟨Tryz.call205,?_⟩
 refine List.forall_mem_cons.2 ⟨Tryz.call206,?_⟩
 refine List.forall_mem_cons.2 ⟨Tryz.call207,?_⟩
 refine List.forall_mem_cons.2 ⟨Tryz.call208,?_⟩
 refine List.forall_mem_cons.2 ⟨Tryz.call209,?_⟩
 refine List.forall_mem_cons.2 ⟨Tryz.call210,?_⟩
 refine List.forall_mem_cons.2 ⟨Tryz.call211,?_⟩
 refine List.forall_mem_cons.2 ⟨Tryz.call212,?_⟩
 refine List.forall_mem_cons.2 ⟨Tryz.call213,?_⟩
 refine List.forall_mem_cons.2 ⟨Tryz.call214,?_⟩
 refine List.forall_mem_cons.2 ⟨Tryz.call215,?_⟩
 refine List.forall_mem_cons.2 ⟨Tryz.call216,?_⟩
 refine List.forall_mem_cons.2 ⟨Tryz.call217,?_⟩
 refine List.forall_mem_cons.2 ⟨Tryz.call218,?_⟩
 refine List.forall_mem_cons.2 ⟨Tryz.call219,?_⟩
 refine List.forall_mem_cons.2 ⟨Tryz.call220,?_⟩
 refine List.forall_mem_cons.2 ⟨Tryz.call221,?_⟩
 refine List.forall_mem_cons.2 ⟨Tryz.call222,?_⟩
 refine List.forall_mem_cons.2 ⟨Tryz.call223,?_⟩
 refine List.forall_mem_cons.2 ⟨Tryz.call224,?_⟩
 refine List.forall_mem_cons.2 ⟨Tryz.call225,?_⟩
 refine List.forall_mem_cons.2 ⟨Tryz.call226,?_⟩
 refine List.forall_mem_cons.2 ⟨Tryz.call227,?_⟩
 refine List.forall_mem_cons.2 ⟨Tryz.call228,?_⟩
 refine List.forall_mem_cons.2 ⟨Tryz.call229,?_⟩
 refine List.forall_mem_cons.2 ⟨Tryz.call230,?_⟩
 refine List.forall_mem_cons.2 ⟨Tryz.call231,?_⟩
 refine List.forall_mem_cons.2 ⟨Tryz.call232,?_⟩
 refine List.forall_mem_cons.2 ⟨Tryz.call233,?_⟩
 refine List.forall_mem_cons.2 ⟨Tryz.call234,?_⟩
 refine List.forall_mem_cons.2 ⟨Tryz.call235,?_⟩
 refine List.forall_mem_cons.2 ⟨Tryz.call236,?_⟩
 refine List.forall_mem_cons.2 ⟨Tryz.call237,?_⟩
 refine List.forall_mem_cons.2 ⟨Tryz.call238,?_⟩
 refine List.forall_mem_cons.2 ⟨Tryz.call239,?_⟩
 refine List.forall_mem_cons.2 ⟨Tryz.call240,?_⟩
 refine List.forall_mem_cons.2 ⟨Tryz.call241,?_⟩
 refine List.forall_mem_cons.2 ⟨Tryz.call242,?_⟩
 refine List.forall_mem_cons.2 ⟨Tryz.call243,?_⟩
 refine List.forall_mem_cons.2 ⟨Tryz.call244,?_⟩
 refine List.forall_mem_cons.2 ⟨Tryz.call245,?_⟩
 refine List.forall_mem_cons.2 ⟨Tryz.call246,?_⟩
 refine List.forall_mem_cons.2 ⟨Tryz.call247,?_⟩
 refine List.forall_mem_cons.2 ⟨Tryz.call248,?_⟩
 refine List.forall_mem_cons.2 ⟨Tryz.call249,?_⟩
 refine List.forall_mem_cons.2 ⟨Tryz.call250,?_⟩
 refine List.forall_mem_cons.2 ⟨Tryz.call251,?_⟩
 refine List.forall_mem_cons.2 ⟨Tryz.call252,?_⟩
 refine List.forall_mem_cons.2 ⟨Tryz.call253,?_⟩
 refine List.forall_mem_cons.2 ⟨Tryz.call254,?_⟩
 refine List.forall_mem_cons.2 ⟨Tryz.call255,?_⟩
 refine List.forall_mem_cons.2 ⟨Tryz.call256,?_⟩
 refine List.forall_mem_cons.2 ⟨Tryz.call257,?_⟩
 refine List.forall_mem_cons.2 ⟨Tryz.call258,?_⟩
 refine List.forall_mem_cons.2 ⟨Tryz.call259,?_⟩
 refine List.forall_mem_cons.2 ⟨Tryz.call260,?_⟩
 refine List.forall_mem_cons.2 ⟨Tryz.call261,?_⟩
 refine List.forall_mem_cons.2 ⟨Tryz.call262,?_⟩
 refine List.forall_mem_cons.2 ⟨Tryz.call263,?_⟩
 refine List.forall_mem_cons.2 ⟨Tryz.call264,?_⟩
 refine List.forall_mem_cons.2 ⟨Tryz.call265,?_⟩
 refine List.forall_mem_cons.2 ⟨Tryz.call266,?_⟩
 refine List.forall_mem_cons.2 ⟨Tryz.call267,?_⟩
 refine List.forall_mem_cons.2 ⟨Tryz.call268,?_⟩
 refine List.forall_mem_cons.2 ⟨Tryz.call269,?_⟩
 refine List.forall_mem_cons.2 ⟨Tryz.call270,?_⟩
 refine List.forall_mem_cons.2 ⟨Tryz.call271,?_⟩
 refine List.forall_mem_cons.2 ⟨Tryz.call272,?_⟩
 refine List.forall_mem_cons.2 ⟨Tryz.call273,?_⟩
 refine List.forall_mem_cons.2 ⟨Tryz.call274,?_⟩
 refine List.forall_mem_cons.2 ⟨Tryz.call275,?_⟩
 refine List.forall_mem_cons.2 ⟨Tryz.call276,?_⟩
 refine List.forall_mem_cons.2 ⟨Tryz.call277,?_⟩
 refine List.forall_mem_cons.2 ⟨Tryz.call278,?_⟩
 refine List.forall_mem_cons.2 ⟨Tryz.call280,?_⟩
 refine List.forall_mem_cons.2 ⟨Tryz.call281,?_⟩
 refine List.forall_mem_cons.2 ⟨Tryz.call282,?_⟩
 refine List.forall_mem_cons.2 ⟨Tryz.call283,?_⟩
 refine List.forall_mem_cons.2 ⟨Tryz.call284,?_⟩
 refine List.forall_mem_cons.2 ⟨Tryz.call285,?_⟩
 refine List.forall_mem_cons.2 ⟨Tryz.call286,?_⟩
 refine List.forall_mem_cons.2 ⟨Tryz.call287,?_⟩
 refine List.forall_mem_cons.2 ⟨Tryz.call288,?_⟩
 refine List.forall_mem_cons.2 ⟨Tryz.call289,?_⟩
 refine List.forall_mem_cons.2 ⟨Tryz.call290,?_⟩
 refine List.forall_mem_cons.2 ⟨Tryz.call291,?_⟩
 refine List.forall_mem_cons.2 ⟨Tryz.call292,?_⟩
 refine List.forall_mem_cons.2 ⟨Tryz.call293,?_⟩
 refine List.forall_mem_cons.2 ⟨Tryz.call294,?_⟩
 refine List.forall_mem_cons.2 ⟨Tryz.call295,?_⟩
 refine List.forall_mem_cons.2 ⟨Tryz.call296,?_⟩
 refine List.forall_mem_cons.2 ⟨Tryz.call297,?_⟩
 refine List.forall_mem_cons.2 ⟨Tryz.call298,?_⟩
 refine List.forall_mem_cons.2 ⟨Tryz.call299,?_⟩
 refine List.forall_mem_cons.2 ⟨Tryz.call300,?_⟩
 refine List.forall_mem_cons.2 ⟨Tryz.call301,?_⟩
 refine List.forall_mem_cons.2 ⟨Tryz.call302,?_⟩
 refine List.forall_mem_cons.2 ⟨Tryz.call303,?_⟩
 refine List.forall_mem_cons.2 ⟨Tryz.call304,?_⟩
 refine List.forall_mem_cons.2 ⟨Tryz.call305,?_⟩
 refine List.forall_mem_cons.2 ⟨Tryz.call307,?_⟩
 refine List.forall_mem_cons.2 ⟨Tryz.call308,?_⟩
 refine List.forall_mem_cons.2 ⟨Tryz.call309,?_⟩
 refine List.forall_mem_cons.2 ⟨Tryz.call310,?_⟩
 refine List.forall_mem_cons.2 ⟨Tryz.call311,?_⟩
 refine List.forall_mem_cons.2 ⟨Tryz.call312,?_⟩
 refine List.forall_mem_cons.2 ⟨Tryz.call313,?_⟩
 refine List.forall_mem_cons.2 ⟨Tryz.call314,?_⟩
 refine List.forall_mem_cons.2 ⟨Tryz.call315,?_⟩
 refine List.forall_mem_cons.2 ⟨Tryz.call316,?_⟩
 refine List.forall_mem_cons.2 ⟨Tryz.call317,?_⟩
 refine List.forall_mem_cons.2 ⟨Tryz.call318,?_⟩
 refine List.forall_mem_cons.2 ⟨Tryz.call319,?_⟩
 refine List.forall_mem_cons.2 ⟨Tryz.call320,?_⟩
 refine List.forall_mem_cons.2 ⟨Tryz.call321,?_⟩
 refine List.forall_mem_cons.2 ⟨Tryz.call322,?_⟩
 refine List.forall_mem_cons.2 ⟨Tryz.call323,?_⟩
 refine List.forall_mem_cons.2 ⟨Tryz.call324,?_⟩
 refine List.forall_mem_cons.2 ⟨Tryz.call325,?_⟩
 refine List.forall_mem_cons.2 ⟨Tryz.call326,?_⟩
 intro g hg;cases hg
abbrev OA:=Option Addr
abbrev RV:=Value→World→Prop
abbrev JP:=List Value→World→Prop
abbrev JN:=List Value→World→Nat
def sts (a:Addr):Nat→List Value→World→(World→Prop)→Prop
 | _,[],w,K=>K w
 | 0,v::vs,w,K=>sto a v w fun w'=>sts a 1 vs w' K
 | i+1,v::vs,w,K=>sto (a.add (i+1)) v w fun w'=>sts a (i+2) vs w' K
def kps (w:World) (a:Addr):Nat→List Value→Prop→Prop
 | _,[],K=>K
 | 0,v::vs,K=>w.cell? a=some v∧kps w a 1 vs K
 | i+1,v::vs,K=>w.cell? (a.add (i+1))=some v∧kps w a (i+2) vs K
def Ro.t (a:Nat):Nat→Ro→Ro
 | 0,r=>r
 | n+1,r=>.tk a [] [] (Ro.t (a+1) n r)
abbrev An.L:An:=.leaf
abbrev An.r:=An.reg
abbrev An.s:=An.seq
abbrev An.c:=An.cond
abbrev An.b:=An.block
abbrev An.o:=An.loop
abbrev SH (f:Nat) (a:List Value) (F:World→RV→Prop):Prop:=∀w R,F w R→Calls Pg f a.toArray w fun e w'=>∃v,e=.returned v∧R v w'
theorem SH.go {f:Nat} {a:List Value} {F:World→RV→Prop} (h:SH f a F) {w:World} {Q:Ending→World→Prop} (k:F w (fun v w'=>Q (.returned v) w')):Calls Pg f a.toArray w Q:=(h w _ k).mono fun e w' ⟨v,he,hq⟩=>by rw [he];exact hq
end Go.Proofs.YtfeekmmfdkfgmaaGreatDoor
