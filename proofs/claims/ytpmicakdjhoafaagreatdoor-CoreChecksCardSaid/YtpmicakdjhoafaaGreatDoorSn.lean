/-
Names of the numbers of functions and types in this seat's translation, and that its functions with bodies are entered.
Conditions: none.
-/
import Derived.Test.YtpmicakdjhoafaaGreatDoorLexE
import Derived.Test.YtpmicakdjhoafaaGreatDoorProg
namespace Go.Proofs.YtpmicakdjhoafaaGreatDoor
open Go
noncomputable abbrev Pg:Program:=Tryz.prog
theorem wide_mixed:Pg.follows .mixedOrders=true:=by kernel_rfl
@[reducible] def Qhk:Nat:=4
@[reducible] def Qh8:Nat:=5
@[reducible] def Qi2:Nat:=7
@[reducible] def Qh9:Nat:=8
@[reducible] def Qgi:Nat:=9
@[reducible] def Qg2:Nat:=10
@[reducible] def Qhq:Nat:=11
@[reducible] def fn_plaitref07_New:Nat:=14
@[reducible] def Qb3:Nat:=15
@[reducible] def Qi1:Nat:=16
@[reducible] def Qha:Nat:=17
@[reducible] def Qbr:Nat:=19
@[reducible] def Qdy:Nat:=20
@[reducible] def Qgb:Nat:=21
@[reducible] def Qao:Nat:=22
@[reducible] def Qdh:Nat:=23
@[reducible] def Qbs:Nat:=24
@[reducible] def Qbo:Nat:=25
@[reducible] def Qdz:Nat:=26
@[reducible] def Qgk:Nat:=27
@[reducible] def Qga:Nat:=28
@[reducible] def Qdr:Nat:=29
@[reducible] def Qai:Nat:=30
@[reducible] def Qfo:Nat:=31
@[reducible] def Qdl:Nat:=32
@[reducible] def Qhx:Nat:=34
@[reducible] def Qhb:Nat:=35
@[reducible] def Qd3:Nat:=36
@[reducible] def Qay:Nat:=37
@[reducible] def Qgl:Nat:=38
@[reducible] def fn_core_Map_Next:Nat:=39
@[reducible] def Qc4:Nat:=40
@[reducible] def fn_core_Map_Live:Nat:=41
@[reducible] def Qfn:Nat:=42
@[reducible] def fn_core_Map_Legal:Nat:=43
@[reducible] def Qcc:Nat:=44
@[reducible] def Qff:Nat:=45
@[reducible] def fn_turn_New:Nat:=46
@[reducible] def fn_web_New:Nat:=47
@[reducible] def fn_cut_New:Nat:=48
@[reducible] def Qcg:Nat:=49
@[reducible] def fn_edges_Least:Nat:=50
@[reducible] def Qc2:Nat:=51
@[reducible] def Qfe:Nat:=52
@[reducible] def Qe6:Nat:=53
@[reducible] def Qix:Nat:=54
@[reducible] def Qiw:Nat:=55
@[reducible] def Qhw:Nat:=56
@[reducible] def Qfg:Nat:=57
@[reducible] def Qf8:Nat:=58
@[reducible] def Qaw:Nat:=59
@[reducible] def Qb8:Nat:=60
@[reducible] def Qc6:Nat:=61
@[reducible] def Qbn:Nat:=62
@[reducible] def fn_errors_As:Nat:=63
@[reducible] def Qbx:Nat:=64
@[reducible] def fn_core_Map_loose:Nat:=65
@[reducible] def fn_core_Map_undo:Nat:=66
@[reducible] def Qiu:Nat:=67
@[reducible] def Qgh:Nat:=68
@[reducible] def fn_edges_Key:Nat:=69
@[reducible] def Qcu:Nat:=70
@[reducible] def Qf9:Nat:=71
@[reducible] def Qdg:Nat:=72
@[reducible] def fn_core_Map_open:Nat:=73
@[reducible] def Qfr:Nat:=74
@[reducible] def Qdk:Nat:=75
@[reducible] def Qit:Nat:=76
@[reducible] def Qch:Nat:=77
@[reducible] def Qcz:Nat:=78
@[reducible] def Qg4:Nat:=79
@[reducible] def fn_turn_Turns_Lay:Nat:=80
@[reducible] def Qa6:Nat:=81
@[reducible] def Qi4:Nat:=82
@[reducible] def fn_core_Map_bind:Nat:=83
@[reducible] def Qb7:Nat:=84
@[reducible] def Qeu:Nat:=85
@[reducible] def Qb2:Nat:=86
@[reducible] def Qg9:Nat:=87
@[reducible] def Qcs:Nat:=88
@[reducible] def Qcl:Nat:=89
@[reducible] def Qdw:Nat:=90
@[reducible] def Qdm:Nat:=91
@[reducible] def Qdx:Nat:=92
@[reducible] def Qiy:Nat:=93
@[reducible] def fn_ring_New:Nat:=94
@[reducible] def Qa3:Nat:=95
@[reducible] def Qbk:Nat:=96
@[reducible] def Qbh:Nat:=97
@[reducible] def Qf7:Nat:=98
@[reducible] def Qel:Nat:=99
@[reducible] def fn_plaitref10_Lay:Nat:=100
@[reducible] def Qek:Nat:=101
@[reducible] def Qi0:Nat:=102
@[reducible] def Qiz:Nat:=103
@[reducible] def Qfl:Nat:=104
@[reducible] def Qdj:Nat:=105
@[reducible] def Qb1:Nat:=106
@[reducible] def Qf4:Nat:=111
@[reducible] def Qck:Nat:=112
@[reducible] def Qcv:Nat:=113
@[reducible] def Qbw:Nat:=114
@[reducible] def Qbe:Nat:=115
@[reducible] def Qef:Nat:=116
@[reducible] def Qf3:Nat:=117
@[reducible] def Qbf:Nat:=118
@[reducible] def Qfm:Nat:=119
@[reducible] def Qe7:Nat:=120
@[reducible] def Qdf:Nat:=121
@[reducible] def Qei:Nat:=122
@[reducible] def Qhr:Nat:=123
@[reducible] def Qg1:Nat:=124
@[reducible] def Qgj:Nat:=125
@[reducible] def Qa9:Nat:=126
@[reducible] def Qdp:Nat:=127
@[reducible] def Qew:Nat:=128
@[reducible] def Qdd:Nat:=129
@[reducible] def Qhp:Nat:=130
@[reducible] def fn_seq_New:Nat:=131
@[reducible] def Qcr:Nat:=132
@[reducible] def Qg3:Nat:=133
@[reducible] def Qdb:Nat:=134
@[reducible] def Qem:Nat:=135
@[reducible] def Qco:Nat:=136
@[reducible] def Qc9:Nat:=137
@[reducible] def fn_web_Web_two:Nat:=141
@[reducible] def Qc3:Nat:=142
@[reducible] def Qej:Nat:=143
@[reducible] def Qgg:Nat:=144
@[reducible] def Qcp:Nat:=145
@[reducible] def Qcb:Nat:=146
@[reducible] def Qe4:Nat:=147
@[reducible] def Qc0:Nat:=148
@[reducible] def Qi3:Nat:=149
@[reducible] def Qfp:Nat:=150
@[reducible] def Qcq:Nat:=151
@[reducible] def Qfh:Nat:=152
@[reducible] def Qex:Nat:=153
@[reducible] def Qcn:Nat:=154
@[reducible] def Qfd:Nat:=155
@[reducible] def Qe5:Nat:=156
@[reducible] def Qde:Nat:=157
@[reducible] def Qeh:Nat:=158
@[reducible] def Qdq:Nat:=159
@[reducible] def Qc7:Nat:=160
@[reducible] def Qa8:Nat:=161
@[reducible] def Qdc:Nat:=162
@[reducible] def Qbj:Nat:=163
@[reducible] def Qbm:Nat:=164
@[reducible] def Qeg:Nat:=165
@[reducible] def Qen:Nat:=166
@[reducible] def Qda:Nat:=167
@[reducible] def Qc1:Nat:=168
@[reducible] def Qb0:Nat:=169
@[reducible] def Qcf:Nat:=170
@[reducible] def Qbz:Nat:=171
@[reducible] def Qce:Nat:=172
@[reducible] def Qcm:Nat:=173
@[reducible] def Qfq:Nat:=174
@[reducible] def Qap:Nat:=175
@[reducible] def Qa0:Nat:=176
@[reducible] def Qf6:Nat:=177
@[reducible] def Qd8:Nat:=178
@[reducible] def Qas:Nat:=179
@[reducible] def fn_seq_Forest_end:Nat:=180
@[reducible] def Qa1:Nat:=181
@[reducible] def Qby:Nat:=182
@[reducible] def Qf5:Nat:=183
@[reducible] def Qiv:Nat:=184
@[reducible] def Qfj:Nat:=2
@[reducible] def Qbl:Nat:=3
@[reducible] def T_bool:Nat:=4
@[reducible] def Qbd:Nat:=21
@[reducible] def Qd0:Nat:=26
@[reducible] def T_sl_bool:Nat:=29
@[reducible] def Qct:Nat:=30
@[reducible] def Qaq:Nat:=32
@[reducible] def Qbp:Nat:=33
@[reducible] def Qal:Nat:=35
@[reducible] def Qau:Nat:=39
@[reducible] def T_plaitlaw16_Act:Nat:=41
@[reducible] def Qam:Nat:=42
@[reducible] def Qav:Nat:=64
@[reducible] def Qbt:Nat:=77
@[reducible] def Qa2:Nat:=93
@[reducible] def Qia:Nat:=99
@[reducible] def Qah:Nat:=108
@[reducible] def T_p_api_Errno:Nat:=110
@[reducible] def Qgu:Nat:=126
@[reducible] def Qcd:Nat:=128
@[reducible] def T_web_Web:Nat:=134
@[reducible] def Qgv:Nat:=135
@[reducible] def T_cut_Forest:Nat:=138
@[reducible] def Qc5:Nat:=140
@[reducible] def T_reflectlite_Value:Nat:=153
@[reducible] def Qev:Nat:=172
@[reducible] def T_ring_Rings:Nat:=176
@[reducible] def Qh2:Nat:=182
@[reducible] def T_seq_Forest:Nat:=203
@[reducible] def Qe9:Nat:=205
def Qad (a:Addr) (w:World) (K:Int→Option Addr→Nat→Nat→Prop):Prop:=
 ldI .i64 a w fun n0=>
 ldS (a.add 1) w fun s1b s1l s1c=>
 K n0 s1b s1l s1c
def Qaa (a:Addr) (w:World) (K:Int→Option Addr→Nat→Nat→Int→Option Addr→Nat→Nat→Option Addr→Nat→Nat→Prop):Prop:=
 ldI .i64 a w fun n0=>
 ldS (a.add 1) w fun s1b s1l s1c=>
 ldI .i64 (a.add 2) w fun n2=>
 ldS (a.add 3) w fun s3b s3l s3c=>
 ldS (a.add 4) w fun s4b s4l s4c=>
 K n0 s1b s1l s1c n2 s3b s3l s3c s4b s4l s4c
def ld_plaitlaw16_Act (a:Addr) (w:World) (K:Int→Int→Int→Int→Int→Int→Int→Prop):Prop:=
 ldI .i64 a w fun n0=>
 ldI .i64 (a.add 1) w fun n1=>
 ldI .i64 (a.add 2) w fun n2=>
 ldI .i64 (a.add 3) w fun n3=>
 ldI .i64 (a.add 4) w fun n4=>
 ldI .i64 (a.add 5) w fun n5=>
 ldI .i32 (a.add 6) w fun n6=>
 K n0 n1 n2 n3 n4 n5 n6
def Eall:List Nat:=[3,4,5,6,7,8,9,10,11,12,13,14,15,16,17,18,19,20,21,22,23,24,25,26,27,28,29,30,31,32,33,34,35,36,37,38,39,40,41,42,43,44,45,46,47,48,49,50,51,52,53,54,55,56,57,58,59,60,61,62,63,64,65,66,67,68,69,70,71,72,73,74,75,76,77,78,79,80,81,82,83,84,85,86,87,88,89,90,91,92,93,94,95,96,97,98,99,100,101,102,103,104,105,106,110,111,112,113,114,115,116,117,118,119,120,121,122,123,124,125,126,127,128,129,130,131,132,133,134,135,136,137,141,142,143,144,145,146,147,148,149,150,151,152,153,154,155,156,157,158,159,160,161,162,163,164,165,166,167,168,169,170,171,172,173,174,175,176,177,178,179,180,181,182,183,184]
theorem Eall_enter:∀g∈Eall,enters Pg g:=by
 unfold Eall
 refine List.forall_mem_cons.2 ⟨Tryz.call3,?_⟩
 refine List.forall_mem_cons.2 ⟨Tryz.call4,?_⟩
 refine List.forall_mem_cons.2 ⟨Tryz.call5,?_⟩
 refine List.forall_mem_cons.2 ⟨Tryz.call6,?_⟩
 refine List.forall_mem_cons.2 ⟨Tryz.call7,?_⟩
 refine List.forall_mem_cons.2 ⟨Tryz.call8,?_⟩
 refine List.forall_mem_cons.2 ⟨Tryz.call9,?_⟩
 refine List.forall_mem_cons.2 ⟨Tryz.call10,?_⟩
 refine List.forall_mem_cons.2 ⟨Tryz.call11,?_⟩
 refine List.forall_mem_cons.2 ⟨Tryz.call12,?_⟩
 refine List.forall_mem_cons.2 ⟨Tryz.call13,?_⟩
 refine List.forall_mem_cons.2 ⟨Tryz.call14,?_⟩
 refine List.forall_mem_cons.2 ⟨Tryz.call15,?_⟩
 refine List.forall_mem_cons.2 ⟨Tryz.call16,?_⟩
 refine List.forall_mem_cons.2 ⟨Tryz.call17,?_⟩
 refine List.forall_mem_cons.2 ⟨Tryz.call18,?_⟩
 refine List.forall_mem_cons.2 ⟨Tryz.call19,?_⟩
 refine List.forall_mem_cons.2 ⟨Tryz.call20,?_⟩
 refine List.forall_mem_cons.2 ⟨Tryz.call21,?_⟩
 refine List.forall_mem_cons.2 ⟨Tryz.call22,?_⟩
 refine List.forall_mem_cons.2 ⟨Tryz.call23,?_⟩
 refine List.forall_mem_cons.2 ⟨Tryz.call24,?_⟩
 refine List.forall_mem_cons.2 ⟨Tryz.call25,?_⟩
 refine List.forall_mem_cons.2 ⟨Tryz.call26,?_⟩
 refine List.forall_mem_cons.2 ⟨Tryz.call27,?_⟩
 refine List.forall_mem_cons.2 ⟨Tryz.call28,?_⟩
 refine List.forall_mem_cons.2 ⟨Tryz.call29,?_⟩
 refine List.forall_mem_cons.2 ⟨Tryz.call30,?_⟩
 refine List.forall_mem_cons.2 ⟨Tryz.call31,?_⟩
 refine List.forall_mem_cons.2 ⟨Tryz.call32,?_⟩
 refine List.forall_mem_cons.2 ⟨Tryz.call33,?_⟩
 refine List.forall_mem_cons.2 ⟨Tryz.call34,?_⟩
 refine List.forall_mem_cons.2 ⟨Tryz.call35,?_⟩
 refine List.forall_mem_cons.2 ⟨Tryz.call36,?_⟩
 refine List.forall_mem_cons.2 ⟨Tryz.call37,?_⟩
 refine List.forall_mem_cons.2 ⟨Tryz.call38,?_⟩
 refine List.forall_mem_cons.2 ⟨Tryz.call39,?_⟩
 refine List.forall_mem_cons.2 ⟨Tryz.call40,?_⟩
 refine List.forall_mem_cons.2 ⟨Tryz.call41,?_⟩
 refine List.forall_mem_cons.2 ⟨Tryz.call42,?_⟩
 refine List.forall_mem_cons.2 ⟨Tryz.call43,?_⟩
 refine List.forall_mem_cons.2 ⟨Tryz.call44,?_⟩
 refine List.forall_mem_cons.2 ⟨Tryz.call45,?_⟩
 refine List.forall_mem_cons.2 ⟨Tryz.call46,?_⟩
 refine List.forall_mem_cons.2 ⟨Tryz.call47,?_⟩
 refine List.forall_mem_cons.2 ⟨Tryz.call48,?_⟩
 refine List.forall_mem_cons.2 ⟨Tryz.call49,?_⟩
 refine List.forall_mem_cons.2 ⟨Tryz.call50,?_⟩
 refine List.forall_mem_cons.2 ⟨Tryz.call51,?_⟩
 refine List.forall_mem_cons.2 ⟨Tryz.call52,?_⟩
 refine List.forall_mem_cons.2 ⟨Tryz.call53,?_⟩
 refine List.forall_mem_cons.2 ⟨Tryz.call54,?_⟩
 refine List.forall_mem_cons.2 ⟨Tryz.call55,?_⟩
 refine List.forall_mem_cons.2 ⟨Tryz.call56,?_⟩
 refine List.forall_mem_cons.2 ⟨Tryz.call57,?_⟩
 refine List.forall_mem_cons.2 ⟨Tryz.call58,?_⟩
 refine List.forall_mem_cons.2 ⟨Tryz.call59,?_⟩
 refine List.forall_mem_cons.2 ⟨Tryz.call60,?_⟩
 refine List.forall_mem_cons.2 ⟨Tryz.call61,?_⟩
 refine List.forall_mem_cons.2 ⟨Tryz.call62,?_⟩
 refine List.forall_mem_cons.2 ⟨Tryz.call63,?_⟩
 refine List.forall_mem_cons.2 ⟨Tryz.call64,?_⟩
 refine List.forall_mem_cons.2 ⟨Tryz.call65,?_⟩
 refine List.forall_mem_cons.2 ⟨Tryz.call66,?_⟩
 refine List.forall_mem_cons.2 ⟨Tryz.call67,?_⟩
 refine List.forall_mem_cons.2 ⟨Tryz.call68,?_⟩
 refine List.forall_mem_cons.2 ⟨Tryz.call69,?_⟩
 refine List.forall_mem_cons.2 ⟨Tryz.call70,?_⟩
 refine List.forall_mem_cons.2 ⟨Tryz.call71,?_⟩
 refine List.forall_mem_cons.2 ⟨Tryz.call72,?_⟩
 refine List.forall_mem_cons.2 ⟨Tryz.call73,?_⟩
 refine List.forall_mem_cons.2 ⟨Tryz.call74,?_⟩
 refine List.forall_mem_cons.2 ⟨Tryz.call75,?_⟩
 refine List.forall_mem_cons.2 ⟨Tryz.call76,?_⟩
 refine List.forall_mem_cons.2 ⟨Tryz.call77,?_⟩
 refine List.forall_mem_cons.2 ⟨Tryz.call78,?_⟩
 refine List.forall_mem_cons.2 ⟨Tryz.call79,?_⟩
 refine List.forall_mem_cons.2 ⟨Tryz.call80,?_⟩
 refine List.forall_mem_cons.2 ⟨Tryz.call81,?_⟩
 refine List.forall_mem_cons.2 ⟨Tryz.call82,?_⟩
 refine List.forall_mem_cons.2 ⟨Tryz.call83,?_⟩
 refine List.forall_mem_cons.2 ⟨Tryz.call84,?_⟩
 refine List.forall_mem_cons.2 ⟨Tryz.call85,?_⟩
 refine List.forall_mem_cons.2 ⟨Tryz.call86,?_⟩
 refine List.forall_mem_cons.2 ⟨Tryz.call87,?_⟩
 refine List.forall_mem_cons.2 ⟨Tryz.call88,?_⟩
 refine List.forall_mem_cons.2 ⟨Tryz.call89,?_⟩
 refine List.forall_mem_cons.2 ⟨Tryz.call90,?_⟩
 refine List.forall_mem_cons.2 ⟨Tryz.call91,?_⟩
 refine List.forall_mem_cons.2 ⟨Tryz.call92,?_⟩
 refine List.forall_mem_cons.2 ⟨Tryz.call93,?_⟩
 refine List.forall_mem_cons.2 ⟨Tryz.call94,?_⟩
 refine List.forall_mem_cons.2 ⟨Tryz.call95,?_⟩
 refine List.forall_mem_cons.2 ⟨Tryz.call96,?_⟩
 refine List.forall_mem_cons.2 ⟨Tryz.call97,?_⟩
 refine List.forall_mem_cons.2 ⟨Tryz.call98,?_⟩
 refine List.forall_mem_cons.2 ⟨Tryz.call99,?_⟩
 refine List.forall_mem_cons.2 ⟨Tryz.call100,?_⟩
 refine List.forall_mem_cons.2 ⟨Tryz.call101,?_⟩
 refine List.forall_mem_cons.2 ⟨Tryz.call102,?_⟩
 refine List.forall_mem_cons.2 ⟨Tryz.call103,?_⟩
 refine List.forall_mem_cons.2 ⟨Tryz.call104,?_⟩
 refine List.forall_mem_cons.2 ⟨Tryz.call105,?_⟩
 refine List.forall_mem_cons.2 ⟨Tryz.call106,?_⟩
 refine List.forall_mem_cons.2 ⟨Tryz.call110,?_⟩
 refine List.forall_mem_cons.2 ⟨Tryz.call111,?_⟩
 refine List.forall_mem_cons.2 ⟨Tryz.call112,?_⟩
 refine List.forall_mem_cons.2 ⟨Tryz.call113,?_⟩
 refine List.forall_mem_cons.2 ⟨Tryz.call114,?_⟩
 refine List.forall_mem_cons.2 ⟨Tryz.call115,?_⟩
 refine List.forall_mem_cons.2 ⟨Tryz.call116,?_⟩
 refine List.forall_mem_cons.2 ⟨Tryz.call117,?_⟩
 refine List.forall_mem_cons.2 ⟨Tryz.call118,?_⟩
 refine List.forall_mem_cons.2 ⟨Tryz.call119,?_⟩
 refine List.forall_mem_cons.2 ⟨Tryz.call120,?_⟩
 refine List.forall_mem_cons.2 ⟨Tryz.call121,?_⟩
 refine List.forall_mem_cons.2 ⟨Tryz.call122,?_⟩
 refine List.forall_mem_cons.2 ⟨Tryz.call123,?_⟩
 refine List.forall_mem_cons.2 ⟨Tryz.call124,?_⟩
 refine List.forall_mem_cons.2 ⟨Tryz.call125,?_⟩
 refine List.forall_mem_cons.2 ⟨Tryz.call126,?_⟩
 refine List.forall_mem_cons.2 ⟨Tryz.call127,?_⟩
 refine List.forall_mem_cons.2 ⟨Tryz.call128,?_⟩
 refine List.forall_mem_cons.2 ⟨Tryz.call129,?_⟩
 refine List.forall_mem_cons.2 ⟨Tryz.call130,?_⟩
 refine List.forall_mem_cons.2 ⟨Tryz.call131,?_⟩
 refine List.forall_mem_cons.2 ⟨Tryz.call132,?_⟩
 refine List.forall_mem_cons.2 ⟨Tryz.call133,?_⟩
 refine List.forall_mem_cons.2 ⟨Tryz.call134,?_⟩
 refine List.forall_mem_cons.2 ⟨Tryz.call135,?_⟩
 refine List.forall_mem_cons.2 ⟨Tryz.call136,?_⟩
 refine List.forall_mem_cons.2 ⟨Tryz.call137,?_⟩
 refine List.forall_mem_cons.2 ⟨Tryz.call141,?_⟩
 refine List.forall_mem_cons.2 ⟨Tryz.call142,?_⟩
 refine List.forall_mem_cons.2 ⟨Tryz.call143,?_⟩
 refine List.forall_mem_cons.2 ⟨Tryz.call144,?_⟩
 refine List.forall_mem_cons.2 ⟨Tryz.call145,?_⟩
 refine List.forall_mem_cons.2 ⟨Tryz.call146,?_⟩
 refine List.forall_mem_cons.2 ⟨Tryz.call147,?_⟩
 refine List.forall_mem_cons.2 ⟨Tryz.call148,?_⟩
 refine List.forall_mem_cons.2 ⟨Tryz.call149,?_⟩
 refine List.forall_mem_cons.2 ⟨Tryz.call150,?_⟩
 refine List.forall_mem_cons.2 ⟨Tryz.call151,?_⟩
 refine List.forall_mem_cons.2 ⟨Tryz.call152,?_⟩
 refine List.forall_mem_cons.2 ⟨Tryz.call153,?_⟩
 refine List.forall_mem_cons.2 ⟨Tryz.call154,?_⟩
 refine List.forall_mem_cons.2 ⟨Tryz.call155,?_⟩
 refine List.forall_mem_cons.2 ⟨Tryz.call156,?_⟩
 refine List.forall_mem_cons.2 ⟨Tryz.call157,?_⟩
 refine List.forall_mem_cons.2 ⟨Tryz.call158,?_⟩
 refine List.forall_mem_cons.2 ⟨Tryz.call159,?_⟩
 refine List.forall_mem_cons.2 ⟨Tryz.call160,?_⟩
 refine List.forall_mem_cons.2 ⟨Tryz.call161,?_⟩
 refine List.forall_mem_cons.2 ⟨Tryz.call162,?_⟩
 refine List.forall_mem_cons.2 ⟨Tryz.call163,?_⟩
 refine List.forall_mem_cons.2 ⟨Tryz.call164,?_⟩
 refine List.forall_mem_cons.2 ⟨Tryz.call165,?_⟩
 refine List.forall_mem_cons.2 ⟨Tryz.call166,?_⟩
 refine List.forall_mem_cons.2 ⟨Tryz.call167,?_⟩
 refine List.forall_mem_cons.2 ⟨Tryz.call168,?_⟩
 refine List.forall_mem_cons.2 ⟨Tryz.call169,?_⟩
 refine List.forall_mem_cons.2 ⟨Tryz.call170,?_⟩
 refine List.forall_mem_cons.2 ⟨Tryz.call171,?_⟩
 refine List.forall_mem_cons.2 ⟨Tryz.call172,?_⟩
 refine List.forall_mem_cons.2 ⟨Tryz.call173,?_⟩
 refine List.forall_mem_cons.2 ⟨Tryz.call174,?_⟩
 refine List.forall_mem_cons.2 ⟨Tryz.call175,?_⟩
 refine List.forall_mem_cons.2 ⟨Tryz.call176,?_⟩
 refine List.forall_mem_cons.2 ⟨Tryz.call177,?_⟩
 refine List.forall_mem_cons.2 ⟨Tryz.call178,?_⟩
 refine List.forall_mem_cons.2 ⟨Tryz.call179,?_⟩
 refine List.forall_mem_cons.2 ⟨Tryz.call180,?_⟩
 refine List.forall_mem_cons.2 ⟨Tryz.call181,?_⟩
 refine List.forall_mem_cons.2 ⟨Tryz.call182,?_⟩
 refine List.forall_mem_cons.2 ⟨Tryz.call183,?_⟩
 refine List.forall_mem_cons.2 ⟨Tryz.call184,?_⟩
 intro g hg;cases hg
abbrev OA:=Option Addr
abbrev RV:=Value→World→Prop
abbrev JP:=List Value→World→Prop
abbrev JN:=List Value→World→Nat
def sts (a:Addr):Nat→List Value→World→(World→Prop)→Prop
 | _,[],w,K=>K w
 | 0,v::vs,w,K=>sto a v w fun w'=>sts a 1 vs w' K
 | i+1,v::vs,w,K=>sto (a.add (i+1)) v w fun w'=>sts a (i+2) vs w' K
def kps (w:World) (a:Addr):Nat→List Value→Prop→Prop
 | _,[],K=>K
 | 0,v::vs,K=>w.cell? a=some v∧kps w a 1 vs K
 | i+1,v::vs,K=>w.cell? (a.add (i+1))=some v∧kps w a (i+2) vs K
def Ro.t (a:Nat):Nat→Ro→Ro
 | 0,r=>r
 | n+1,r=>.tk a [] [] (Ro.t (a+1) n r)
abbrev An.L:An:=.leaf
abbrev An.r:=An.reg
abbrev An.s:=An.seq
abbrev An.j:=An.join
abbrev An.c:=An.cond
abbrev An.b:=An.block
abbrev An.o:=An.loop
abbrev An.u:=An.unr
abbrev SH (f:Nat) (a:List Value) (F:World→RV→Prop):Prop:=∀w R,F w R→Calls Pg f a.toArray w fun e w'=>∃v,e=.returned v∧R v w'
theorem cdn {f:Nat} {fn:Func} {a:List Value} {F:World→RV→Prop} (hf:Pg.funcs[f]?=some fn) (an:An) (h:∀w R,F w R=denF Pg Eall fn an a w R):SH f a F:=fun w R k=>calls_of_den Eall_enter wide_mixed hf (by rw [←h];exact k)
theorem cdnR {f:Nat} {fn:Func} {a:List Value} {F:World→RV→Prop} (hf:Pg.funcs[f]?=some fn) (an:An) (h:∀w R,F w R=denR Pg Eall fn an a w R):SH f a F:=fun w R k=>calls_of_denR Eall_enter wide_mixed hf (by rw [←h];exact k)
end Go.Proofs.YtpmicakdjhoafaaGreatDoor
