/-
Names of the numbers of functions and types in this seat's translation, and that its functions with bodies are entered.
Conditions: none.
-/
import Derived.Test.YtpmicakdjhoafaaGreatDoorLexE
import Derived.Test.YtpmicakdjhoafaaGreatDoorProg
namespace Go.Proofs.YtpmicakdjhoafaaGreatDoor
open Go
noncomputable abbrev Pg:Program:=Tryz.prog
theorem Qpf:Pg.follows .mixedOrders=true:=by kernel_rfl
@[reducible] def Qh6:Nat:=3
@[reducible] def Qkf:Nat:=9
@[reducible] def Qgg:Nat:=10
@[reducible] def Qg1:Nat:=11
@[reducible] def Qit:Nat:=12
@[reducible] def Qg9:Nat:=13
@[reducible] def Qca:Nat:=14
@[reducible] def Qfv:Nat:=15
@[reducible] def Qb1:Nat:=16
@[reducible] def Qem:Nat:=17
@[reducible] def Qft:Nat:=18
@[reducible] def Qh5:Nat:=19
@[reducible] def Qbt:Nat:=22
@[reducible] def Qia:Nat:=24
@[reducible] def Qg3:Nat:=25
@[reducible] def Qh9:Nat:=26
@[reducible] def Qiw:Nat:=29
@[reducible] def Qaq:Nat:=30
@[reducible] def Qdd:Nat:=32
@[reducible] def Qfe:Nat:=36
@[reducible] def Qbj:Nat:=37
@[reducible] def Qgj:Nat:=40
@[reducible] def Qe2:Nat:=44
@[reducible] def Qha:Nat:=45
@[reducible] def Qqv:Nat:=46
@[reducible] def Qpp:Nat:=47
@[reducible] def Qml:Nat:=48
@[reducible] def Qcb:Nat:=49
@[reducible] def Qqi:Nat:=50
@[reducible] def Qcx:Nat:=51
@[reducible] def Qe3:Nat:=52
@[reducible] def Qev:Nat:=53
@[reducible] def Qh1:Nat:=54
@[reducible] def Qh0:Nat:=55
@[reducible] def Qg8:Nat:=56
@[reducible] def Qe4:Nat:=57
@[reducible] def Qfs:Nat:=58
@[reducible] def Qat:Nat:=59
@[reducible] def Qcq:Nat:=60
@[reducible] def Qc0:Nat:=61
@[reducible] def Qbm:Nat:=62
@[reducible] def Qw0:Nat:=63
@[reducible] def Qbw:Nat:=64
@[reducible] def Qiv:Nat:=65
@[reducible] def Qjg:Nat:=66
@[reducible] def Qhy:Nat:=67
@[reducible] def Qf0:Nat:=68
@[reducible] def Qlr:Nat:=69
@[reducible] def Qco:Nat:=70
@[reducible] def Qfu:Nat:=71
@[reducible] def Qda:Nat:=72
@[reducible] def Qjh:Nat:=73
@[reducible] def Qfd:Nat:=74
@[reducible] def Qcc:Nat:=77
@[reducible] def Qcu:Nat:=78
@[reducible] def Qgi:Nat:=79
@[reducible] def Qir:Nat:=80
@[reducible] def Qa1:Nat:=81
@[reducible] def Qh8:Nat:=82
@[reducible] def Qji:Nat:=83
@[reducible] def Qb3:Nat:=84
@[reducible] def Qej:Nat:=85
@[reducible] def Qcn:Nat:=86
@[reducible] def Qgp:Nat:=87
@[reducible] def Qcm:Nat:=88
@[reducible] def Qcg:Nat:=89
@[reducible] def Qdq:Nat:=90
@[reducible] def Qde:Nat:=91
@[reducible] def Qdr:Nat:=92
@[reducible] def Qh2:Nat:=93
@[reducible] def Qmy:Nat:=94
@[reducible] def Qaz:Nat:=95
@[reducible] def Qbh:Nat:=96
@[reducible] def Qbd:Nat:=97
@[reducible] def Qfr:Nat:=98
@[reducible] def Qea:Nat:=99
@[reducible] def Qiu:Nat:=100
@[reducible] def Qd9:Nat:=101
@[reducible] def Qh4:Nat:=102
@[reducible] def Qh3:Nat:=103
@[reducible] def Qe9:Nat:=104
@[reducible] def Qdc:Nat:=105
@[reducible] def Qb0:Nat:=106
@[reducible] def Qfo:Nat:=111
@[reducible] def Qcf:Nat:=112
@[reducible] def Qcp:Nat:=113
@[reducible] def Qbs:Nat:=114
@[reducible] def Qba:Nat:=115
@[reducible] def Qd5:Nat:=116
@[reducible] def Qfn:Nat:=117
@[reducible] def Qbb:Nat:=118
@[reducible] def Qfa:Nat:=119
@[reducible] def Qew:Nat:=120
@[reducible] def Qc9:Nat:=121
@[reducible] def Qg2:Nat:=123
@[reducible] def Qgf:Nat:=124
@[reducible] def Qf1:Nat:=125
@[reducible] def Qa5:Nat:=126
@[reducible] def Qdj:Nat:=127
@[reducible] def Qel:Nat:=128
@[reducible] def Qc7:Nat:=129
@[reducible] def Qg0:Nat:=130
@[reducible] def Qpq:Nat:=131
@[reducible] def Qcl:Nat:=132
@[reducible] def Qgh:Nat:=133
@[reducible] def Qc5:Nat:=134
@[reducible] def Qeb:Nat:=135
@[reducible] def Qci:Nat:=136
@[reducible] def Qc3:Nat:=137
@[reducible] def Qiz:Nat:=141
@[reducible] def Qcy:Nat:=142
@[reducible] def Qd8:Nat:=143
@[reducible] def Qfz:Nat:=144
@[reducible] def Qcj:Nat:=145
@[reducible] def Qb5:Nat:=146
@[reducible] def Qeu:Nat:=147
@[reducible] def Qcv:Nat:=148
@[reducible] def Qh7:Nat:=149
@[reducible] def Qfc:Nat:=150
@[reducible] def Qck:Nat:=151
@[reducible] def Qe5:Nat:=152
@[reducible] def Qen:Nat:=153
@[reducible] def Qc8:Nat:=157
@[reducible] def Qd7:Nat:=158
@[reducible] def Qdk:Nat:=159
@[reducible] def Qc1:Nat:=160
@[reducible] def Qa4:Nat:=161
@[reducible] def Qc6:Nat:=162
@[reducible] def Qbg:Nat:=163
@[reducible] def Qbk:Nat:=164
@[reducible] def Qd6:Nat:=165
@[reducible] def Qec:Nat:=166
@[reducible] def Qc4:Nat:=167
@[reducible] def Qcw:Nat:=168
@[reducible] def Qbz:Nat:=169
@[reducible] def Qb9:Nat:=170
@[reducible] def Qby:Nat:=171
@[reducible] def Qb8:Nat:=172
@[reducible] def Qch:Nat:=173
@[reducible] def Qan:Nat:=175
@[reducible] def Qaw:Nat:=176
@[reducible] def Qfq:Nat:=177
@[reducible] def Qdz:Nat:=178
@[reducible] def Qar:Nat:=179
@[reducible] def Qis:Nat:=180
@[reducible] def Qax:Nat:=181
@[reducible] def Qbx:Nat:=182
@[reducible] def Qfp:Nat:=183
@[reducible] def Qhz:Nat:=184
@[reducible] def Qe7:Nat:=2
@[reducible] def Qbe:Nat:=3
@[reducible] def Qmr:Nat:=4
@[reducible] def Qa9:Nat:=21
@[reducible] def Qds:Nat:=26
@[reducible] def Qr8:Nat:=29
@[reducible] def Qb7:Nat:=30
@[reducible] def Qao:Nat:=32
@[reducible] def Qbo:Nat:=33
@[reducible] def Qal:Nat:=35
@[reducible] def Qbl:Nat:=39
@[reducible] def Qs8:Nat:=41
@[reducible] def Qaj:Nat:=42
@[reducible] def Qdf:Nat:=44
@[reducible] def Qgl:Nat:=53
@[reducible] def Qbn:Nat:=64
@[reducible] def Qbq:Nat:=77
@[reducible] def Qay:Nat:=93
@[reducible] def Qhj:Nat:=99
@[reducible] def Qah:Nat:=108
@[reducible] def Qjx:Nat:=110
@[reducible] def Qf8:Nat:=126
@[reducible] def Qb6:Nat:=128
@[reducible] def Qpc:Nat:=134
@[reducible] def Qf9:Nat:=135
@[reducible] def Qjd:Nat:=138
@[reducible] def Qcz:Nat:=140
@[reducible] def Qki:Nat:=153
@[reducible] def Qek:Nat:=172
@[reducible] def Qlu:Nat:=176
@[reducible] def Qhf:Nat:=182
@[reducible] def Qjc:Nat:=203
@[reducible] def Qex:Nat:=205
def Qad (a:Addr) (w:World) (K:Int→Option Addr→Nat→Nat→Prop):Prop:=
 ldI .i64 a w fun n0=>
 ldS (a.add 1) w fun s1b s1l s1c=>
 K n0 s1b s1l s1c
def Qaa (a:Addr) (w:World) (K:Int→Option Addr→Nat→Nat→Int→Option Addr→Nat→Nat→Option Addr→Nat→Nat→Prop):Prop:=
 ldI .i64 a w fun n0=>
 ldS (a.add 1) w fun s1b s1l s1c=>
 ldI .i64 (a.add 2) w fun n2=>
 ldS (a.add 3) w fun s3b s3l s3c=>
 ldS (a.add 4) w fun s4b s4l s4c=>
 K n0 s1b s1l s1c n2 s3b s3l s3c s4b s4l s4c
def Qiq (a:Addr) (w:World) (K:Int→Int→Int→Int→Int→Int→Int→Prop):Prop:=
 ldI .i64 a w fun n0=>
 ldI .i64 (a.add 1) w fun n1=>
 ldI .i64 (a.add 2) w fun n2=>
 ldI .i64 (a.add 3) w fun n3=>
 ldI .i64 (a.add 4) w fun n4=>
 ldI .i64 (a.add 5) w fun n5=>
 ldI .i32 (a.add 6) w fun n6=>
 K n0 n1 n2 n3 n4 n5 n6
def Eall:List Nat:=[3,4,5,6,7,8,9,10,11,12,13,14,15,16,17,18,19,20,21,22,23,24,25,26,27,28,29,30,31,32,33,34,35,36,37,38,39,40,41,42,43,44,45,46,47,48,49,50,51,52,53,54,55,56,57,58,59,60,61,62,63,64,65,66,67,68,69,70,71,72,73,74,75,76,77,78,79,80,81,82,83,84,85,86,87,88,89,90,91,92,93,94,95,96,97,98,99,100,101,102,103,104,105,106,110,111,112,113,114,115,116,117,118,119,120,121,122,123,124,125,126,127,128,129,130,131,132,133,134,135,136,137,141,142,143,144,145,146,147,148,149,150,151,152,153,154,155,156,157,158,159,160,161,162,163,164,165,166,167,168,169,170,171,172,173,174,175,176,177,178,179,180,181,182,183,184]
theorem Qpv:∀g∈Eall,enters Pg g:=by
 unfold Eall
 refine List.forall_mem_cons.2 ⟨Tryz.call3,?_⟩
 refine List.forall_mem_cons.2 ⟨Tryz.call4,?_⟩
 refine List.forall_mem_cons.2 ⟨Tryz.call5,?_⟩
 refine List.forall_mem_cons.2 ⟨Tryz.call6,?_⟩
 refine List.forall_mem_cons.2 ⟨Tryz.call7,?_⟩
 refine List.forall_mem_cons.2 ⟨Tryz.call8,?_⟩
 refine List.forall_mem_cons.2 ⟨Tryz.call9,?_⟩
 refine List.forall_mem_cons.2 ⟨Tryz.call10,?_⟩
 refine List.forall_mem_cons.2 ⟨Tryz.call11,?_⟩
 refine List.forall_mem_cons.2 ⟨Tryz.call12,?_⟩
 refine List.forall_mem_cons.2 ⟨Tryz.call13,?_⟩
 refine List.forall_mem_cons.2 ⟨Tryz.call14,?_⟩
 refine List.forall_mem_cons.2 ⟨Tryz.call15,?_⟩
 refine List.forall_mem_cons.2 ⟨Tryz.call16,?_⟩
 refine List.forall_mem_cons.2 ⟨Tryz.call17,?_⟩
 refine List.forall_mem_cons.2 ⟨Tryz.call18,?_⟩
 refine List.forall_mem_cons.2 ⟨Tryz.call19,?_⟩
 refine List.forall_mem_cons.2 ⟨Tryz.call20,?_⟩
 refine List.forall_mem_cons.2 ⟨Tryz.call21,?_⟩
 refine List.forall_mem_cons.2 ⟨Tryz.call22,?_⟩
 refine List.forall_mem_cons.2 ⟨Tryz.call23,?_⟩
 refine List.forall_mem_cons.2 ⟨Tryz.call24,?_⟩
 refine List.forall_mem_cons.2 ⟨Tryz.call25,?_⟩
 refine List.forall_mem_cons.2 ⟨Tryz.call26,?_⟩
 refine List.forall_mem_cons.2 ⟨Tryz.call27,?_⟩
 refine List.forall_mem_cons.2 ⟨Tryz.call28,?_⟩
 refine List.forall_mem_cons.2 ⟨Tryz.call29,?_⟩
 refine List.forall_mem_cons.2 ⟨Tryz.call30,?_⟩
 refine List.forall_mem_cons.2 ⟨Tryz.call31,?_⟩
 refine List.forall_mem_cons.2 ⟨Tryz.call32,?_⟩
 refine List.forall_mem_cons.2 ⟨Tryz.call33,?_⟩
 refine List.forall_mem_cons.2 ⟨Tryz.call34,?_⟩
 refine List.forall_mem_cons.2 ⟨Tryz.call35,?_⟩
 refine List.forall_mem_cons.2 ⟨Tryz.call36,?_⟩
 refine List.forall_mem_cons.2 ⟨Tryz.call37,?_⟩
 refine List.forall_mem_cons.2 ⟨Tryz.call38,?_⟩
 refine List.forall_mem_cons.2 ⟨Tryz.call39,?_⟩
 refine List.forall_mem_cons.2 ⟨Tryz.call40,?_⟩
 refine List.forall_mem_cons.2 ⟨Tryz.call41,?_⟩
 refine List.forall_mem_cons.2 ⟨Tryz.call42,?_⟩
 refine List.forall_mem_cons.2 ⟨Tryz.call43,?_⟩
 refine List.forall_mem_cons.2 ⟨Tryz.call44,?_⟩
 refine List.forall_mem_cons.2 ⟨Tryz.call45,?_⟩
 refine List.forall_mem_cons.2 ⟨Tryz.call46,?_⟩
 refine List.forall_mem_cons.2 ⟨Tryz.call47,?_⟩
 refine List.forall_mem_cons.2 ⟨Tryz.call48,?_⟩
 refine List.forall_mem_cons.2 ⟨Tryz.call49,?_⟩
 refine List.forall_mem_cons.2 ⟨Tryz.call50,?_⟩
 refine List.forall_mem_cons.2 ⟨Tryz.call51,?_⟩
 refine List.forall_mem_cons.2 ⟨Tryz.call52,?_⟩
 refine List.forall_mem_cons.2 ⟨Tryz.call53,?_⟩
 refine List.forall_mem_cons.2 ⟨Tryz.call54,?_⟩
 refine List.forall_mem_cons.2 ⟨Tryz.call55,?_⟩
 refine List.forall_mem_cons.2 ⟨Tryz.call56,?_⟩
 refine List.forall_mem_cons.2 ⟨Tryz.call57,?_⟩
 refine List.forall_mem_cons.2 ⟨Tryz.call58,?_⟩
 refine List.forall_mem_cons.2 ⟨Tryz.call59,?_⟩
 refine List.forall_mem_cons.2 ⟨Tryz.call60,?_⟩
 refine List.forall_mem_cons.2 ⟨Tryz.call61,?_⟩
 refine List.forall_mem_cons.2 ⟨Tryz.call62,?_⟩
 refine List.forall_mem_cons.2 ⟨Tryz.call63,?_⟩
 refine List.forall_mem_cons.2 ⟨Tryz.call64,?_⟩
 refine List.forall_mem_cons.2 ⟨Tryz.call65,?_⟩
 refine List.forall_mem_cons.2 ⟨Tryz.call66,?_⟩
 refine List.forall_mem_cons.2 ⟨Tryz.call67,?_⟩
 refine List.forall_mem_cons.2 ⟨Tryz.call68,?_⟩
 refine List.forall_mem_cons.2 ⟨Tryz.call69,?_⟩
 refine List.forall_mem_cons.2 ⟨Tryz.call70,?_⟩
 refine List.forall_mem_cons.2 ⟨Tryz.call71,?_⟩
 refine List.forall_mem_cons.2 ⟨Tryz.call72,?_⟩
 refine List.forall_mem_cons.2 ⟨Tryz.call73,?_⟩
 refine List.forall_mem_cons.2 ⟨Tryz.call74,?_⟩
 refine List.forall_mem_cons.2 ⟨Tryz.call75,?_⟩
 refine List.forall_mem_cons.2 ⟨Tryz.call76,?_⟩
 refine List.forall_mem_cons.2 ⟨Tryz.call77,?_⟩
 refine List.forall_mem_cons.2 ⟨Tryz.call78,?_⟩
 refine List.forall_mem_cons.2 ⟨Tryz.call79,?_⟩
 refine List.forall_mem_cons.2 ⟨Tryz.call80,?_⟩
 refine List.forall_mem_cons.2 ⟨Tryz.call81,?_⟩
 refine List.forall_mem_cons.2 ⟨Tryz.call82,?_⟩
 refine List.forall_mem_cons.2 ⟨Tryz.call83,?_⟩
 refine List.forall_mem_cons.2 ⟨Tryz.call84,?_⟩
 refine List.forall_mem_cons.2 ⟨Tryz.call85,?_⟩
 refine List.forall_mem_cons.2 ⟨Tryz.call86,?_⟩
 refine List.forall_mem_cons.2 ⟨Tryz.call87,?_⟩
 refine List.forall_mem_cons.2 ⟨Tryz.call88,?_⟩
 refine List.forall_mem_cons.2 ⟨Tryz.call89,?_⟩
 refine List.forall_mem_cons.2 ⟨Tryz.call90,?_⟩
 refine List.forall_mem_cons.2 ⟨Tryz.call91,?_⟩
 refine List.forall_mem_cons.2 ⟨Tryz.call92,?_⟩
 refine List.forall_mem_cons.2 ⟨Tryz.call93,?_⟩
 refine List.forall_mem_cons.2 ⟨Tryz.call94,?_⟩
 refine List.forall_mem_cons.2 ⟨Tryz.call95,?_⟩
 refine List.forall_mem_cons.2 ⟨Tryz.call96,?_⟩
 refine List.forall_mem_cons.2 ⟨Tryz.call97,?_⟩
 refine List.forall_mem_cons.2 ⟨Tryz.call98,?_⟩
 refine List.forall_mem_cons.2 ⟨Tryz.call99,?_⟩
 refine List.forall_mem_cons.2 ⟨Tryz.call100,?_⟩
 refine List.forall_mem_cons.2 ⟨Tryz.call101,?_⟩
 refine List.forall_mem_cons.2 ⟨Tryz.call102,?_⟩
 refine List.forall_mem_cons.2 ⟨Tryz.call103,?_⟩
 refine List.forall_mem_cons.2 ⟨Tryz.call104,?_⟩
 refine List.forall_mem_cons.2 ⟨Tryz.call105,?_⟩
 refine List.forall_mem_cons.2 ⟨Tryz.call106,?_⟩
 refine List.forall_mem_cons.2 ⟨Tryz.call110,?_⟩
 refine List.forall_mem_cons.2 ⟨Tryz.call111,?_⟩
 refine List.forall_mem_cons.2 ⟨Tryz.call112,?_⟩
 refine List.forall_mem_cons.2 ⟨Tryz.call113,?_⟩
 refine List.forall_mem_cons.2 ⟨Tryz.call114,?_⟩
 refine List.forall_mem_cons.2 ⟨Tryz.call115,?_⟩
 refine List.forall_mem_cons.2 ⟨Tryz.call116,?_⟩
 refine List.forall_mem_cons.2 ⟨Tryz.call117,?_⟩
 refine List.forall_mem_cons.2 ⟨Tryz.call118,?_⟩
 refine List.forall_mem_cons.2 ⟨Tryz.call119,?_⟩
 refine List.forall_mem_cons.2 ⟨Tryz.call120,?_⟩
 refine List.forall_mem_cons.2 ⟨Tryz.call121,?_⟩
 refine List.forall_mem_cons.2 ⟨Tryz.call122,?_⟩
 refine List.forall_mem_cons.2 ⟨Tryz.call123,?_⟩
 refine List.forall_mem_cons.2 ⟨Tryz.call124,?_⟩
 refine List.forall_mem_cons.2 ⟨Tryz.call125,?_⟩
 refine List.forall_mem_cons.2 ⟨Tryz.call126,?_⟩
 refine List.forall_mem_cons.2 ⟨Tryz.call127,?_⟩
 refine List.forall_mem_cons.2 ⟨Tryz.call128,?_⟩
 refine List.forall_mem_cons.2 ⟨Tryz.call129,?_⟩
 refine List.forall_mem_cons.2 ⟨Tryz.call130,?_⟩
 refine List.forall_mem_cons.2 ⟨Tryz.call131,?_⟩
 refine List.forall_mem_cons.2 ⟨Tryz.call132,?_⟩
 refine List.forall_mem_cons.2 ⟨Tryz.call133,?_⟩
 refine List.forall_mem_cons.2 ⟨Tryz.call134,?_⟩
 refine List.forall_mem_cons.2 ⟨Tryz.call135,?_⟩
 refine List.forall_mem_cons.2 ⟨Tryz.call136,?_⟩
 refine List.forall_mem_cons.2 ⟨Tryz.call137,?_⟩
 refine List.forall_mem_cons.2 ⟨Tryz.call141,?_⟩
 refine List.forall_mem_cons.2 ⟨Tryz.call142,?_⟩
 refine List.forall_mem_cons.2 ⟨Tryz.call143,?_⟩
 refine List.forall_mem_cons.2 ⟨Tryz.call144,?_⟩
 refine List.forall_mem_cons.2 ⟨Tryz.call145,?_⟩
 refine List.forall_mem_cons.2 ⟨Tryz.call146,?_⟩
 refine List.forall_mem_cons.2 ⟨Tryz.call147,?_⟩
 refine List.forall_mem_cons.2 ⟨Tryz.call148,?_⟩
 refine List.forall_mem_cons.2 ⟨Tryz.call149,?_⟩
 refine List.forall_mem_cons.2 ⟨Tryz.call150,?_⟩
 refine List.forall_mem_cons.2 ⟨Tryz.call151,?_⟩
 refine List.forall_mem_cons.2 ⟨Tryz.call152,?_⟩
 refine List.forall_mem_cons.2 ⟨Tryz.call153,?_⟩
 refine List.forall_mem_cons.2 ⟨Tryz.call154,?_⟩
 refine List.forall_mem_cons.2 ⟨Tryz.call155,?_⟩
 refine List.forall_mem_cons.2 ⟨Tryz.call156,?_⟩
 refine List.forall_mem_cons.2 ⟨Tryz.call157,?_⟩
 refine List.forall_mem_cons.2 ⟨Tryz.call158,?_⟩
 refine List.forall_mem_cons.2 ⟨Tryz.call159,?_⟩
 refine List.forall_mem_cons.2 ⟨Tryz.call160,?_⟩
 refine List.forall_mem_cons.2 ⟨Tryz.call161,?_⟩
 refine List.forall_mem_cons.2 ⟨Tryz.call162,?_⟩
 refine List.forall_mem_cons.2 ⟨Tryz.call163,?_⟩
 refine List.forall_mem_cons.2 ⟨Tryz.call164,?_⟩
 refine List.forall_mem_cons.2 ⟨Tryz.call165,?_⟩
 refine List.forall_mem_cons.2 ⟨Tryz.call166,?_⟩
 refine List.forall_mem_cons.2 ⟨Tryz.call167,?_⟩
 refine List.forall_mem_cons.2 ⟨Tryz.call168,?_⟩
 refine List.forall_mem_cons.2 ⟨Tryz.call169,?_⟩
 refine List.forall_mem_cons.2 ⟨Tryz.call170,?_⟩
 refine List.forall_mem_cons.2 ⟨Tryz.call171,?_⟩
 refine List.forall_mem_cons.2 ⟨Tryz.call172,?_⟩
 refine List.forall_mem_cons.2 ⟨Tryz.call173,?_⟩
 refine List.forall_mem_cons.2 ⟨Tryz.call174,?_⟩
 refine List.forall_mem_cons.2 ⟨Tryz.call175,?_⟩
 refine List.forall_mem_cons.2 ⟨Tryz.call176,?_⟩
 refine List.forall_mem_cons.2 ⟨Tryz.call177,?_⟩
 refine List.forall_mem_cons.2 ⟨Tryz.call178,?_⟩
 refine List.forall_mem_cons.2 ⟨Tryz.call179,?_⟩
 refine List.forall_mem_cons.2 ⟨Tryz.call180,?_⟩
 refine List.forall_mem_cons.2 ⟨Tryz.call181,?_⟩
 refine List.forall_mem_cons.2 ⟨Tryz.call182,?_⟩
 refine List.forall_mem_cons.2 ⟨Tryz.call183,?_⟩
 refine List.forall_mem_cons.2 ⟨Tryz.call184,?_⟩
 intro g hg;cases hg
abbrev OA:=Option Addr
abbrev RV:=Value→World→Prop
abbrev JP:=List Value→World→Prop
abbrev JN:=List Value→World→Nat
def sts (a:Addr):Nat→List Value→World→(World→Prop)→Prop
 | _,[],w,K=>K w
 | 0,v::vs,w,K=>sto a v w fun w'=>sts a 1 vs w' K
 | i+1,v::vs,w,K=>sto (a.add (i+1)) v w fun w'=>sts a (i+2) vs w' K
def kps (w:World) (a:Addr):Nat→List Value→Prop→Prop
 | _,[],K=>K
 | 0,v::vs,K=>w.cell? a=some v∧kps w a 1 vs K
 | i+1,v::vs,K=>w.cell? (a.add (i+1))=some v∧kps w a (i+2) vs K
def Ro.t (a:Nat):Nat→Ro→Ro
 | 0,r=>r
 | n+1,r=>.tk a [] [] (Ro.t (a+1) n r)
abbrev An.L:An:=.leaf
abbrev An.r:=An.reg
abbrev An.s:=An.seq
abbrev An.j:=An.join
abbrev An.c:=An.cond
abbrev An.b:=An.block
abbrev An.o:=An.loop
abbrev An.u:=An.unr
abbrev SH (f:Nat) (a:List Value) (F:World→RV→Prop):Prop:=∀w R,F w R→Calls Pg f a.toArray w fun e w'=>∃v,e=.returned v∧R v w'
theorem cdn {f:Nat} {fn:Func} {a:List Value} {F:World→RV→Prop} (hf:Pg.funcs[f]?=some fn) (an:An) (h:∀w R,F w R=denF Pg Eall fn an a w R):SH f a F:=fun w R k=>Qw9 Qpv Qpf hf (by rw [←h];exact k)
theorem cdnR {f:Nat} {fn:Func} {a:List Value} {F:World→RV→Prop} (hf:Pg.funcs[f]?=some fn) (an:An) (h:∀w R,F w R=denR Pg Eall fn an a w R):SH f a F:=fun w R k=>Qv6 Qpv Qpf hf (by rw [←h];exact k)
end Go.Proofs.YtpmicakdjhoafaaGreatDoor
