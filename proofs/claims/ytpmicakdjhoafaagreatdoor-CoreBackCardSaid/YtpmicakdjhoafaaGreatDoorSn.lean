/-
Names of the numbers of functions and types in this seat's translation, and that its functions with bodies are entered.
Conditions: none.
-/
import Derived.Test.YtpmicakdjhoafaaGreatDoorLexE
import Derived.Test.YtpmicakdjhoafaaGreatDoorProg
namespace Go.Proofs.YtpmicakdjhoafaaGreatDoor
open Go
noncomputable abbrev Pg:Program:=Tryz.prog
theorem Qp4:Pg.follows .mixedOrders=true:=by kernel_rfl
@[reducible] def Qix:Nat:=6
@[reducible] def Qkt:Nat:=9
@[reducible] def Qgs:Nat:=10
@[reducible] def Qff:Nat:=11
@[reducible] def Qjc:Nat:=14
@[reducible] def Qed:Nat:=15
@[reducible] def Qih:Nat:=16
@[reducible] def Qg1:Nat:=17
@[reducible] def Qii:Nat:=19
@[reducible] def Qbj:Nat:=22
@[reducible] def Qee:Nat:=24
@[reducible] def Qfh:Nat:=25
@[reducible] def Qe1:Nat:=26
@[reducible] def Qim:Nat:=28
@[reducible] def Qe0:Nat:=29
@[reducible] def Qai:Nat:=30
@[reducible] def Qhe:Nat:=31
@[reducible] def Qcq:Nat:=32
@[reducible] def Qij:Nat:=33
@[reducible] def Qfm:Nat:=36
@[reducible] def Qbk:Nat:=37
@[reducible] def Qgv:Nat:=40
@[reducible] def Qe6:Nat:=44
@[reducible] def Qhl:Nat:=45
@[reducible] def Qrh:Nat:=46
@[reducible] def Qqc:Nat:=47
@[reducible] def Qm5:Nat:=48
@[reducible] def Qb8:Nat:=49
@[reducible] def Qq2:Nat:=50
@[reducible] def Qcx:Nat:=51
@[reducible] def Qe7:Nat:=52
@[reducible] def Qey:Nat:=53
@[reducible] def Qid:Nat:=54
@[reducible] def Qic:Nat:=55
@[reducible] def Qhk:Nat:=56
@[reducible] def Qe8:Nat:=57
@[reducible] def Qf3:Nat:=58
@[reducible] def Qau:Nat:=59
@[reducible] def Qcp:Nat:=60
@[reducible] def Qc0:Nat:=61
@[reducible] def Qbn:Nat:=62
@[reducible] def Qxk:Nat:=63
@[reducible] def Qbv:Nat:=64
@[reducible] def Qjd:Nat:=65
@[reducible] def Qjw:Nat:=66
@[reducible] def Qia:Nat:=67
@[reducible] def Qf9:Nat:=68
@[reducible] def Ql9:Nat:=69
@[reducible] def Qcn:Nat:=70
@[reducible] def Qf4:Nat:=71
@[reducible] def Qda:Nat:=72
@[reducible] def Qjx:Nat:=73
@[reducible] def Qfl:Nat:=74
@[reducible] def Qdx:Nat:=75
@[reducible] def Qh9:Nat:=76
@[reducible] def Qb9:Nat:=77
@[reducible] def Qcu:Nat:=78
@[reducible] def Qgu:Nat:=79
@[reducible] def Qi9:Nat:=80
@[reducible] def Qa3:Nat:=81
@[reducible] def Qil:Nat:=82
@[reducible] def Qjy:Nat:=83
@[reducible] def Qb1:Nat:=84
@[reducible] def Qem:Nat:=85
@[reducible] def Qcm:Nat:=86
@[reducible] def Qg0:Nat:=87
@[reducible] def Qcl:Nat:=88
@[reducible] def Qce:Nat:=89
@[reducible] def Qdn:Nat:=90
@[reducible] def Qde:Nat:=91
@[reducible] def Qdo:Nat:=92
@[reducible] def Qie:Nat:=93
@[reducible] def Qni:Nat:=94
@[reducible] def Qa0:Nat:=95
@[reducible] def Qbi:Nat:=96
@[reducible] def Qbf:Nat:=97
@[reducible] def Qf2:Nat:=98
@[reducible] def Qea:Nat:=99
@[reducible] def Qjb:Nat:=100
@[reducible] def Qd9:Nat:=101
@[reducible] def Qig:Nat:=102
@[reducible] def Qif:Nat:=103
@[reducible] def Qfe:Nat:=104
@[reducible] def Qdd:Nat:=105
@[reducible] def Qbz:Nat:=106
@[reducible] def Qfz:Nat:=111
@[reducible] def Qcd:Nat:=112
@[reducible] def Qco:Nat:=113
@[reducible] def Qbu:Nat:=114
@[reducible] def Qbc:Nat:=115
@[reducible] def Qd4:Nat:=116
@[reducible] def Qfy:Nat:=117
@[reducible] def Qbd:Nat:=118
@[reducible] def Qfg:Nat:=119
@[reducible] def Qez:Nat:=120
@[reducible] def Qc9:Nat:=121
@[reducible] def Qd7:Nat:=122
@[reducible] def Qhd:Nat:=123
@[reducible] def Qgr:Nat:=124
@[reducible] def Qga:Nat:=125
@[reducible] def Qa6:Nat:=126
@[reducible] def Qdh:Nat:=127
@[reducible] def Qep:Nat:=128
@[reducible] def Qc7:Nat:=129
@[reducible] def Qhc:Nat:=130
@[reducible] def Qqd:Nat:=131
@[reducible] def Qck:Nat:=132
@[reducible] def Qgt:Nat:=133
@[reducible] def Qc5:Nat:=134
@[reducible] def Qeb:Nat:=135
@[reducible] def Qch:Nat:=136
@[reducible] def Qc3:Nat:=137
@[reducible] def Qjf:Nat:=141
@[reducible] def Qcy:Nat:=142
@[reducible] def Qd8:Nat:=143
@[reducible] def Qf8:Nat:=144
@[reducible] def Qci:Nat:=145
@[reducible] def Qb4:Nat:=146
@[reducible] def Qew:Nat:=147
@[reducible] def Qcv:Nat:=148
@[reducible] def Qik:Nat:=149
@[reducible] def Qfj:Nat:=150
@[reducible] def Qcj:Nat:=151
@[reducible] def Qe9:Nat:=152
@[reducible] def Qeq:Nat:=153
@[reducible] def Qcg:Nat:=154
@[reducible] def Qe5:Nat:=155
@[reducible] def Qex:Nat:=156
@[reducible] def Qc8:Nat:=157
@[reducible] def Qd6:Nat:=158
@[reducible] def Qdi:Nat:=159
@[reducible] def Qc1:Nat:=160
@[reducible] def Qa5:Nat:=161
@[reducible] def Qc6:Nat:=162
@[reducible] def Qbh:Nat:=163
@[reducible] def Qbm:Nat:=164
@[reducible] def Qd5:Nat:=165
@[reducible] def Qec:Nat:=166
@[reducible] def Qc4:Nat:=167
@[reducible] def Qcw:Nat:=168
@[reducible] def Qby:Nat:=169
@[reducible] def Qb7:Nat:=170
@[reducible] def Qbx:Nat:=171
@[reducible] def Qb6:Nat:=172
@[reducible] def Qcf:Nat:=173
@[reducible] def Qfk:Nat:=174
@[reducible] def Qao:Nat:=175
@[reducible] def Qax:Nat:=176
@[reducible] def Qf1:Nat:=177
@[reducible] def Qdw:Nat:=178
@[reducible] def Qar:Nat:=179
@[reducible] def Qja:Nat:=180
@[reducible] def Qay:Nat:=181
@[reducible] def Qbw:Nat:=182
@[reducible] def Qf0:Nat:=183
@[reducible] def Qib:Nat:=184
@[reducible] def Qfc:Nat:=2
@[reducible] def Qbl:Nat:=3
@[reducible] def Qna:Nat:=4
@[reducible] def Qbb:Nat:=21
@[reducible] def Qdp:Nat:=26
@[reducible] def Qjs:Nat:=29
@[reducible] def Qbp:Nat:=30
@[reducible] def Qap:Nat:=32
@[reducible] def Qbo:Nat:=33
@[reducible] def Qal:Nat:=35
@[reducible] def Qat:Nat:=39
@[reducible] def Qfi:Nat:=41
@[reducible] def Qam:Nat:=42
@[reducible] def Qa8:Nat:=64
@[reducible] def Qbr:Nat:=77
@[reducible] def Qaz:Nat:=93
@[reducible] def Qhv:Nat:=99
@[reducible] def Qah:Nat:=108
@[reducible] def Qkf:Nat:=110
@[reducible] def Qgj:Nat:=126
@[reducible] def Qb5:Nat:=128
@[reducible] def Qp1:Nat:=134
@[reducible] def Qgk:Nat:=135
@[reducible] def Qju:Nat:=138
@[reducible] def Qcz:Nat:=140
@[reducible] def Qky:Nat:=153
@[reducible] def Qen:Nat:=172
@[reducible] def Qmd:Nat:=176
@[reducible] def Qhq:Nat:=182
@[reducible] def Qjt:Nat:=203
@[reducible] def Qe2:Nat:=205
def Qad (a:Addr) (w:World) (K:Int→Option Addr→Nat→Nat→Prop):Prop:=
 ldI .i64 a w fun n0=>
 ldS (a.add 1) w fun s1b s1l s1c=>
 K n0 s1b s1l s1c
def Qaa (a:Addr) (w:World) (K:Int→Option Addr→Nat→Nat→Int→Option Addr→Nat→Nat→Option Addr→Nat→Nat→Prop):Prop:=
 ldI .i64 a w fun n0=>
 ldS (a.add 1) w fun s1b s1l s1c=>
 ldI .i64 (a.add 2) w fun n2=>
 ldS (a.add 3) w fun s3b s3l s3c=>
 ldS (a.add 4) w fun s4b s4l s4c=>
 K n0 s1b s1l s1c n2 s3b s3l s3c s4b s4l s4c
def Qi8 (a:Addr) (w:World) (K:Int→Int→Int→Int→Int→Int→Int→Prop):Prop:=
 ldI .i64 a w fun n0=>
 ldI .i64 (a.add 1) w fun n1=>
 ldI .i64 (a.add 2) w fun n2=>
 ldI .i64 (a.add 3) w fun n3=>
 ldI .i64 (a.add 4) w fun n4=>
 ldI .i64 (a.add 5) w fun n5=>
 ldI .i32 (a.add 6) w fun n6=>
 K n0 n1 n2 n3 n4 n5 n6
def Eall:List Nat:=[3,4,5,6,7,8,9,10,11,12,13,14,15,16,17,18,19,20,21,22,23,24,25,26,27,28,29,30,31,32,33,34,35,36,37,38,39,40,41,42,43,44,45,46,47,48,49,50,51,52,53,54,55,56,57,58,59,60,61,62,63,64,65,66,67,68,69,70,71,72,73,74,75,76,77,78,79,80,81,82,83,84,85,86,87,88,89,90,91,92,93,94,95,96,97,98,99,100,101,102,103,104,105,106,110,111,112,113,114,115,116,117,118,119,120,121,122,123,124,125,126,127,128,129,130,131,132,133,134,135,136,137,141,142,143,144,145,146,147,148,149,150,151,152,153,154,155,156,157,158,159,160,161,162,163,164,165,166,167,168,169,170,171,172,173,174,175,176,177,178,179,180,181,182,183,184]
theorem Qqh:∀g∈Eall,enters Pg g:=by
 unfold Eall
 refine List.forall_mem_cons.2 ⟨Tryz.call3,?_⟩
 refine List.forall_mem_cons.2 ⟨Tryz.call4,?_⟩
 refine List.forall_mem_cons.2 ⟨Tryz.call5,?_⟩
 refine List.forall_mem_cons.2 ⟨Tryz.call6,?_⟩
 refine List.forall_mem_cons.2 ⟨Tryz.call7,?_⟩
 refine List.forall_mem_cons.2 ⟨Tryz.call8,?_⟩
 refine List.forall_mem_cons.2 ⟨Tryz.call9,?_⟩
 refine List.forall_mem_cons.2 ⟨Tryz.call10,?_⟩
 refine List.forall_mem_cons.2 ⟨Tryz.call11,?_⟩
 refine List.forall_mem_cons.2 ⟨Tryz.call12,?_⟩
 refine List.forall_mem_cons.2 ⟨Tryz.call13,?_⟩
 refine List.forall_mem_cons.2 ⟨Tryz.call14,?_⟩
 refine List.forall_mem_cons.2 ⟨Tryz.call15,?_⟩
 refine List.forall_mem_cons.2 ⟨Tryz.call16,?_⟩
 refine List.forall_mem_cons.2 ⟨Tryz.call17,?_⟩
 refine List.forall_mem_cons.2 ⟨Tryz.call18,?_⟩
 refine List.forall_mem_cons.2 ⟨Tryz.call19,?_⟩
 refine List.forall_mem_cons.2 ⟨Tryz.call20,?_⟩
 refine List.forall_mem_cons.2 ⟨Tryz.call21,?_⟩
 refine List.forall_mem_cons.2 ⟨Tryz.call22,?_⟩
 refine List.forall_mem_cons.2 ⟨Tryz.call23,?_⟩
 refine List.forall_mem_cons.2 ⟨Tryz.call24,?_⟩
 refine List.forall_mem_cons.2 ⟨Tryz.call25,?_⟩
 refine List.forall_mem_cons.2 ⟨Tryz.call26,?_⟩
 refine List.forall_mem_cons.2 ⟨Tryz.call27,?_⟩
 refine List.forall_mem_cons.2 ⟨Tryz.call28,?_⟩
 refine List.forall_mem_cons.2 ⟨Tryz.call29,?_⟩
 refine List.forall_mem_cons.2 ⟨Tryz.call30,?_⟩
 refine List.forall_mem_cons.2 ⟨Tryz.call31,?_⟩
 refine List.forall_mem_cons.2 ⟨Tryz.call32,?_⟩
 refine List.forall_mem_cons.2 ⟨Tryz.call33,?_⟩
 refine List.forall_mem_cons.2 ⟨Tryz.call34,?_⟩
 refine List.forall_mem_cons.2 ⟨Tryz.call35,?_⟩
 refine List.forall_mem_cons.2 ⟨Tryz.call36,?_⟩
 refine List.forall_mem_cons.2 ⟨Tryz.call37,?_⟩
 refine List.forall_mem_cons.2 ⟨Tryz.call38,?_⟩
 refine List.forall_mem_cons.2 ⟨Tryz.call39,?_⟩
 refine List.forall_mem_cons.2 ⟨Tryz.call40,?_⟩
 refine List.forall_mem_cons.2 ⟨Tryz.call41,?_⟩
 refine List.forall_mem_cons.2 ⟨Tryz.call42,?_⟩
 refine List.forall_mem_cons.2 ⟨Tryz.call43,?_⟩
 refine List.forall_mem_cons.2 ⟨Tryz.call44,?_⟩
 refine List.forall_mem_cons.2 ⟨Tryz.call45,?_⟩
 refine List.forall_mem_cons.2 ⟨Tryz.call46,?_⟩
 refine List.forall_mem_cons.2 ⟨Tryz.call47,?_⟩
 refine List.forall_mem_cons.2 ⟨Tryz.call48,?_⟩
 refine List.forall_mem_cons.2 ⟨Tryz.call49,?_⟩
 refine List.forall_mem_cons.2 ⟨Tryz.call50,?_⟩
 refine List.forall_mem_cons.2 ⟨Tryz.call51,?_⟩
 refine List.forall_mem_cons.2 ⟨Tryz.call52,?_⟩
 refine List.forall_mem_cons.2 ⟨Tryz.call53,?_⟩
 refine List.forall_mem_cons.2 ⟨Tryz.call54,?_⟩
 refine List.forall_mem_cons.2 ⟨Tryz.call55,?_⟩
 refine List.forall_mem_cons.2 ⟨Tryz.call56,?_⟩
 refine List.forall_mem_cons.2 ⟨Tryz.call57,?_⟩
 refine List.forall_mem_cons.2 ⟨Tryz.call58,?_⟩
 refine List.forall_mem_cons.2 ⟨Tryz.call59,?_⟩
 refine List.forall_mem_cons.2 ⟨Tryz.call60,?_⟩
 refine List.forall_mem_cons.2 ⟨Tryz.call61,?_⟩
 refine List.forall_mem_cons.2 ⟨Tryz.call62,?_⟩
 refine List.forall_mem_cons.2 ⟨Tryz.call63,?_⟩
 refine List.forall_mem_cons.2 ⟨Tryz.call64,?_⟩
 refine List.forall_mem_cons.2 ⟨Tryz.call65,?_⟩
 refine List.forall_mem_cons.2 ⟨Tryz.call66,?_⟩
 refine List.forall_mem_cons.2 ⟨Tryz.call67,?_⟩
 refine List.forall_mem_cons.2 ⟨Tryz.call68,?_⟩
 refine List.forall_mem_cons.2 ⟨Tryz.call69,?_⟩
 refine List.forall_mem_cons.2 ⟨Tryz.call70,?_⟩
 refine List.forall_mem_cons.2 ⟨Tryz.call71,?_⟩
 refine List.forall_mem_cons.2 ⟨Tryz.call72,?_⟩
 refine List.forall_mem_cons.2 ⟨Tryz.call73,?_⟩
 refine List.forall_mem_cons.2 ⟨Tryz.call74,?_⟩
 refine List.forall_mem_cons.2 ⟨Tryz.call75,?_⟩
 refine List.forall_mem_cons.2 ⟨Tryz.call76,?_⟩
 refine List.forall_mem_cons.2 ⟨Tryz.call77,?_⟩
 refine List.forall_mem_cons.2 ⟨Tryz.call78,?_⟩
 refine List.forall_mem_cons.2 ⟨Tryz.call79,?_⟩
 refine List.forall_mem_cons.2 ⟨Tryz.call80,?_⟩
 refine List.forall_mem_cons.2 ⟨Tryz.call81,?_⟩
 refine List.forall_mem_cons.2 ⟨Tryz.call82,?_⟩
 refine List.forall_mem_cons.2 ⟨Tryz.call83,?_⟩
 refine List.forall_mem_cons.2 ⟨Tryz.call84,?_⟩
 refine List.forall_mem_cons.2 ⟨Tryz.call85,?_⟩
 refine List.forall_mem_cons.2 ⟨Tryz.call86,?_⟩
 refine List.forall_mem_cons.2 ⟨Tryz.call87,?_⟩
 refine List.forall_mem_cons.2 ⟨Tryz.call88,?_⟩
 refine List.forall_mem_cons.2 ⟨Tryz.call89,?_⟩
 refine List.forall_mem_cons.2 ⟨Tryz.call90,?_⟩
 refine List.forall_mem_cons.2 ⟨Tryz.call91,?_⟩
 refine List.forall_mem_cons.2 ⟨Tryz.call92,?_⟩
 refine List.forall_mem_cons.2 ⟨Tryz.call93,?_⟩
 refine List.forall_mem_cons.2 ⟨Tryz.call94,?_⟩
 refine List.forall_mem_cons.2 ⟨Tryz.call95,?_⟩
 refine List.forall_mem_cons.2 ⟨Tryz.call96,?_⟩
 refine List.forall_mem_cons.2 ⟨Tryz.call97,?_⟩
 refine List.forall_mem_cons.2 ⟨Tryz.call98,?_⟩
 refine List.forall_mem_cons.2 ⟨Tryz.call99,?_⟩
 refine List.forall_mem_cons.2 ⟨Tryz.call100,?_⟩
 refine List.forall_mem_cons.2 ⟨Tryz.call101,?_⟩
 refine List.forall_mem_cons.2 ⟨Tryz.call102,?_⟩
 refine List.forall_mem_cons.2 ⟨Tryz.call103,?_⟩
 refine List.forall_mem_cons.2 ⟨Tryz.call104,?_⟩
 refine List.forall_mem_cons.2 ⟨Tryz.call105,?_⟩
 refine List.forall_mem_cons.2 ⟨Tryz.call106,?_⟩
 refine List.forall_mem_cons.2 ⟨Tryz.call110,?_⟩
 refine List.forall_mem_cons.2 ⟨Tryz.call111,?_⟩
 refine List.forall_mem_cons.2 ⟨Tryz.call112,?_⟩
 refine List.forall_mem_cons.2 ⟨Tryz.call113,?_⟩
 refine List.forall_mem_cons.2 ⟨Tryz.call114,?_⟩
 refine List.forall_mem_cons.2 ⟨Tryz.call115,?_⟩
 refine List.forall_mem_cons.2 ⟨Tryz.call116,?_⟩
 refine List.forall_mem_cons.2 ⟨Tryz.call117,?_⟩
 refine List.forall_mem_cons.2 ⟨Tryz.call118,?_⟩
 refine List.forall_mem_cons.2 ⟨Tryz.call119,?_⟩
 refine List.forall_mem_cons.2 ⟨Tryz.call120,?_⟩
 refine List.forall_mem_cons.2 ⟨Tryz.call121,?_⟩
 refine List.forall_mem_cons.2 ⟨Tryz.call122,?_⟩
 refine List.forall_mem_cons.2 ⟨Tryz.call123,?_⟩
 refine List.forall_mem_cons.2 ⟨Tryz.call124,?_⟩
 refine List.forall_mem_cons.2 ⟨Tryz.call125,?_⟩
 refine List.forall_mem_cons.2 ⟨Tryz.call126,?_⟩
 refine List.forall_mem_cons.2 ⟨Tryz.call127,?_⟩
 refine List.forall_mem_cons.2 ⟨Tryz.call128,?_⟩
 refine List.forall_mem_cons.2 ⟨Tryz.call129,?_⟩
 refine List.forall_mem_cons.2 ⟨Tryz.call130,?_⟩
 refine List.forall_mem_cons.2 ⟨Tryz.call131,?_⟩
 refine List.forall_mem_cons.2 ⟨Tryz.call132,?_⟩
 refine List.forall_mem_cons.2 ⟨Tryz.call133,?_⟩
 refine List.forall_mem_cons.2 ⟨Tryz.call134,?_⟩
 refine List.forall_mem_cons.2 ⟨Tryz.call135,?_⟩
 refine List.forall_mem_cons.2 ⟨Tryz.call136,?_⟩
 refine List.forall_mem_cons.2 ⟨Tryz.call137,?_⟩
 refine List.forall_mem_cons.2 ⟨Tryz.call141,?_⟩
 refine List.forall_mem_cons.2 ⟨Tryz.call142,?_⟩
 refine List.forall_mem_cons.2 ⟨Tryz.call143,?_⟩
 refine List.forall_mem_cons.2 ⟨Tryz.call144,?_⟩
 refine List.forall_mem_cons.2 ⟨Tryz.call145,?_⟩
 refine List.forall_mem_cons.2 ⟨Tryz.call146,?_⟩
 refine List.forall_mem_cons.2 ⟨Tryz.call147,?_⟩
 refine List.forall_mem_cons.2 ⟨Tryz.call148,?_⟩
 refine List.forall_mem_cons.2 ⟨Tryz.call149,?_⟩
 refine List.forall_mem_cons.2 ⟨Tryz.call150,?_⟩
 refine List.forall_mem_cons.2 ⟨Tryz.call151,?_⟩
 refine List.forall_mem_cons.2 ⟨Tryz.call152,?_⟩
 refine List.forall_mem_cons.2 ⟨Tryz.call153,?_⟩
 refine List.forall_mem_cons.2 ⟨Tryz.call154,?_⟩
 refine List.forall_mem_cons.2 ⟨Tryz.call155,?_⟩
 refine List.forall_mem_cons.2 ⟨Tryz.call156,?_⟩
 refine List.forall_mem_cons.2 ⟨Tryz.call157,?_⟩
 refine List.forall_mem_cons.2 ⟨Tryz.call158,?_⟩
 refine List.forall_mem_cons.2 ⟨Tryz.call159,?_⟩
 refine List.forall_mem_cons.2 ⟨Tryz.call160,?_⟩
 refine List.forall_mem_cons.2 ⟨Tryz.call161,?_⟩
 refine List.forall_mem_cons.2 ⟨Tryz.call162,?_⟩
 refine List.forall_mem_cons.2 ⟨Tryz.call163,?_⟩
 refine List.forall_mem_cons.2 ⟨Tryz.call164,?_⟩
 refine List.forall_mem_cons.2 ⟨Tryz.call165,?_⟩
 refine List.forall_mem_cons.2 ⟨Tryz.call166,?_⟩
 refine List.forall_mem_cons.2 ⟨Tryz.call167,?_⟩
 refine List.forall_mem_cons.2 ⟨Tryz.call168,?_⟩
 refine List.forall_mem_cons.2 ⟨Tryz.call169,?_⟩
 refine List.forall_mem_cons.2 ⟨Tryz.call170,?_⟩
 refine List.forall_mem_cons.2 ⟨Tryz.call171,?_⟩
 refine List.forall_mem_cons.2 ⟨Tryz.call172,?_⟩
 refine List.forall_mem_cons.2 ⟨Tryz.call173,?_⟩
 refine List.forall_mem_cons.2 ⟨Tryz.call174,?_⟩
 refine List.forall_mem_cons.2 ⟨Tryz.call175,?_⟩
 refine List.forall_mem_cons.2 ⟨Tryz.call176,?_⟩
 refine List.forall_mem_cons.2 ⟨Tryz.call177,?_⟩
 refine List.forall_mem_cons.2 ⟨Tryz.call178,?_⟩
 refine List.forall_mem_cons.2 ⟨Tryz.call179,?_⟩
 refine List.forall_mem_cons.2 ⟨Tryz.call180,?_⟩
 refine List.forall_mem_cons.2 ⟨Tryz.call181,?_⟩
 refine List.forall_mem_cons.2 ⟨Tryz.call182,?_⟩
 refine List.forall_mem_cons.2 ⟨Tryz.call183,?_⟩
 refine List.forall_mem_cons.2 ⟨Tryz.call184,?_⟩
 intro g hg;cases hg
abbrev OA:=Option Addr
abbrev RV:=Value→World→Prop
abbrev JP:=List Value→World→Prop
abbrev JN:=List Value→World→Nat
def sts (a:Addr):Nat→List Value→World→(World→Prop)→Prop
 | _,[],w,K=>K w
 | 0,v::vs,w,K=>sto a v w fun w'=>sts a 1 vs w' K
 | i+1,v::vs,w,K=>sto (a.add (i+1)) v w fun w'=>sts a (i+2) vs w' K
def kps (w:World) (a:Addr):Nat→List Value→Prop→Prop
 | _,[],K=>K
 | 0,v::vs,K=>w.cell? a=some v∧kps w a 1 vs K
 | i+1,v::vs,K=>w.cell? (a.add (i+1))=some v∧kps w a (i+2) vs K
def Ro.t (a:Nat):Nat→Ro→Ro
 | 0,r=>r
 | n+1,r=>.tk a [] [] (Ro.t (a+1) n r)
abbrev An.L:An:=.leaf
abbrev An.r:=An.reg
abbrev An.s:=An.seq
abbrev An.j:=An.join
abbrev An.c:=An.cond
abbrev An.b:=An.block
abbrev An.o:=An.loop
abbrev An.u:=An.unr
abbrev SH (f:Nat) (a:List Value) (F:World→RV→Prop):Prop:=∀w R,F w R→Calls Pg f a.toArray w fun e w'=>∃v,e=.returned v∧R v w'
theorem cdn {f:Nat} {fn:Func} {a:List Value} {F:World→RV→Prop} (hf:Pg.funcs[f]?=some fn) (an:An) (h:∀w R,F w R=denF Pg Eall fn an a w R):SH f a F:=fun w R k=>Qxt Qqh Qp4 hf (by rw [←h];exact k)
theorem cdnR {f:Nat} {fn:Func} {a:List Value} {F:World→RV→Prop} (hf:Pg.funcs[f]?=some fn) (an:An) (h:∀w R,F w R=denR Pg Eall fn an a w R):SH f a F:=fun w R k=>Qwr Qqh Qp4 hf (by rw [←h];exact k)
end Go.Proofs.YtpmicakdjhoafaaGreatDoor
