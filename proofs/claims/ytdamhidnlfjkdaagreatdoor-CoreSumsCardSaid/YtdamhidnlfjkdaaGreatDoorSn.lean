/-
Names of the numbers of functions and types in this seat's translation, and that its functions with bodies are entered.
Conditions: none.
-/
import Derived.Test.YtdamhidnlfjkdaaGreatDoorLexE
import Derived.Test.YtdamhidnlfjkdaaGreatDoorProg
namespace Go.Proofs.YtdamhidnlfjkdaaGreatDoor
open Go
noncomputable abbrev Pg:Program:=Tryz.prog
theorem wide_mixed:Pg.follows .mixedOrders=true:=by kernel_rfl
@[reducible] def fn_plaitlaw16_CoreSums:Nat:=4
@[reducible] def fn_core_Map_AddVertex:Nat:=10
@[reducible] def fn_plaitlaw16_grown:Nat:=11
@[reducible] def fn_core_Map_Marked:Nat:=12
@[reducible] def fn_core_Map_Weight:Nat:=13
@[reducible] def fn_core_Map_Counts:Nat:=14
@[reducible] def fn_core_Map_Sum:Nat:=15
@[reducible] def fn_plaitlaw16_sure:Nat:=16
@[reducible] def fn_errors_As:Nat:=24
@[reducible] def fn_core_New:Nat:=26
@[reducible] def fn_core_Map_place:Nat:=27
@[reducible] def fn_plaitref16_New:Nat:=28
@[reducible] def fn_plaitlaw16_do:Nat:=29
@[reducible] def fn_core_Map_edge:Nat:=30
@[reducible] def fn_web_Web_Tied:Nat:=31
@[reducible] def fn_edges_Weight:Nat:=32
@[reducible] def fn_core_Map_Join:Nat:=33
@[reducible] def fn_core_Map_Part:Nat:=34
@[reducible] def fn_turn_New:Nat:=45
@[reducible] def fn_web_New:Nat:=46
@[reducible] def fn_cut_New:Nat:=47
@[reducible] def fn_cut_Forest_Set:Nat:=48
@[reducible] def fn_edges_Least:Nat:=49
@[reducible] def fn_plaitref10_New:Nat:=50
@[reducible] def fn_plaitref16_AddVertex:Nat:=51
@[reducible] def fn_plaitlaw16_num:Nat:=52
@[reducible] def fn_plaitref16_DropVertex:Nat:=53
@[reducible] def fn_core_Map_DropVertex:Nat:=54
@[reducible] def fn_plaitlaw16_corner:Nat:=55
@[reducible] def fn_plaitref16_Join:Nat:=56
@[reducible] def fn_plaitref16_Part:Nat:=57
@[reducible] def fn_plaitref16_Weigh:Nat:=58
@[reducible] def fn_core_Map_Weigh:Nat:=59
@[reducible] def fn_turn_Turns_Has:Nat:=60
@[reducible] def fn_web_Web_check:Nat:=61
@[reducible] def fn_core_Map_looks:Nat:=62
@[reducible] def fn_edges_Key:Nat:=63
@[reducible] def fn_web_Web_Same:Nat:=64
@[reducible] def fn_turn_Turns_Lay:Nat:=65
@[reducible] def fn_core_first:Nat:=66
@[reducible] def fn_core_Map_divide:Nat:=67
@[reducible] def fn_core_Map_closed:Nat:=68
@[reducible] def fn_core_Map_bind:Nat:=69
@[reducible] def fn_core_Map_mark:Nat:=70
@[reducible] def fn_core_Map_loose:Nat:=71
@[reducible] def fn_core_Map_undo:Nat:=72
@[reducible] def fn_turn_Turns_Lift:Nat:=73
@[reducible] def fn_turn_Turns_Origin:Nat:=74
@[reducible] def fn_turn_Turns_Next:Nat:=75
@[reducible] def fn_ring_New:Nat:=85
@[reducible] def fn_cut_Forest_check:Nat:=86
@[reducible] def fn_cut_Forest_access:Nat:=87
@[reducible] def fn_cut_Forest_pull:Nat:=88
@[reducible] def fn_plaitref16_Vertex:Nat:=89
@[reducible] def fn_plaitref16_with:Nat:=90
@[reducible] def fn_core_Map_vertex:Nat:=91
@[reducible] def fn_turn_Turns_Degree:Nat:=92
@[reducible] def fn_plaitref16_Vertices:Nat:=93
@[reducible] def fn_plaitref16_Edge:Nat:=94
@[reducible] def fn_plaitref16_Check:Nat:=95
@[reducible] def fn_plaitref12_Legal:Nat:=96
@[reducible] def fn_plaitref10_Lay:Nat:=97
@[reducible] def fn_plaitref16_weighed:Nat:=98
@[reducible] def fn_plaitref10_Lift:Nat:=99
@[reducible] def fn_web_Web_Untie:Nat:=100
@[reducible] def fn_core_Map_unmark:Nat:=101
@[reducible] def fn_core_Map_open:Nat:=102
@[reducible] def fn_turn_Turns_edge:Nat:=103
@[reducible] def fn_core_Map_Check:Nat:=104
@[reducible] def fn_core_Map_item:Nat:=105
@[reducible] def fn_cut_Forest_Same:Nat:=106
@[reducible] def fn_web_Web_faces:Nat:=107
@[reducible] def fn_ring_Rings_Same:Nat:=108
@[reducible] def fn_turn_Turns_Check:Nat:=109
@[reducible] def fn_turn_Turns_put:Nat:=110
@[reducible] def fn_core_Map_own:Nat:=111
@[reducible] def fn_web_Web_Merge:Nat:=112
@[reducible] def fn_web_Web_Split:Nat:=113
@[reducible] def fn_core_Map_ends:Nat:=114
@[reducible] def fn_core_Map_tie:Nat:=115
@[reducible] def fn_cut_Forest_Most:Nat:=116
@[reducible] def fn_cut_Forest_Link:Nat:=117
@[reducible] def fn_web_Web_Weakest:Nat:=118
@[reducible] def fn_web_Web_Len:Nat:=119
@[reducible] def fn_web_Web_Apart:Nat:=120
@[reducible] def fn_turn_Turns_take:Nat:=121
@[reducible] def fn_turn_Turns_dart:Nat:=122
@[reducible] def fn_seq_New:Nat:=129
@[reducible] def fn_cut_Forest_lift:Nat:=130
@[reducible] def fn_turn_Turns_vertex:Nat:=131
@[reducible] def fn_plaitref10_Find:Nat:=132
@[reducible] def fn_plaitref10_Check:Nat:=133
@[reducible] def fn_plaitref12_Groups:Nat:=134
@[reducible] def fn_plaitref11_Same:Nat:=135
@[reducible] def fn_plaitref10_put:Nat:=136
@[reducible] def fn_plaitref10_With:Nat:=137
@[reducible] def fn_cut_Forest_Cut:Nat:=138
@[reducible] def fn_cut_Forest_same:Nat:=139
@[reducible] def fn_ring_Rings_seqs:Nat:=140
@[reducible] def fn_seq_Forest_Same:Nat:=141
@[reducible] def fn_web_Web_Linked:Nat:=142
@[reducible] def fn_web_Web_turn:Nat:=143
@[reducible] def fn_ring_Rings_Prev:Nat:=144
@[reducible] def fn_ring_Rings_Merge:Nat:=145
@[reducible] def fn_ring_Rings_Split:Nat:=146
@[reducible] def fn_web_Web_Tie:Nat:=147
@[reducible] def fn_cut_Forest_road:Nat:=148
@[reducible] def fn_cut_Forest_first:Nat:=149
@[reducible] def fn_cut_Forest_Most_1:Nat:=150
@[reducible] def fn_cut_Forest_root:Nat:=151
@[reducible] def fn_web_Web_two:Nat:=152
@[reducible] def fn_cut_Forest_Least:Nat:=153
@[reducible] def fn_ring_Rings_Len:Nat:=154
@[reducible] def fn_ring_Rings_Next:Nat:=155
@[reducible] def fn_cut_Forest_top:Nat:=161
@[reducible] def fn_slices_Backward__int32int32:Nat:=162
@[reducible] def fn_cut_Forest_push:Nat:=163
@[reducible] def fn_cut_Forest_side:Nat:=164
@[reducible] def fn_cut_Forest_rotate:Nat:=165
@[reducible] def fn_plaitref07_New:Nat:=166
@[reducible] def fn_plaitref10_Darts:Nat:=167
@[reducible] def fn_plaitref07_Join:Nat:=168
@[reducible] def fn_plaitref11_At:Nat:=169
@[reducible] def fn_plaitref11_Walk:Nat:=170
@[reducible] def fn_cut_Forest_near:Nat:=171
@[reducible] def fn_seq_Forest_check:Nat:=172
@[reducible] def fn_seq_Forest_same:Nat:=173
@[reducible] def fn_ring_Rings_Front:Nat:=174
@[reducible] def fn_ring_Rings_Turn:Nat:=175
@[reducible] def fn_ring_Rings_step:Nat:=176
@[reducible] def fn_seq_Forest_Join:Nat:=177
@[reducible] def fn_seq_Forest_Cut:Nat:=178
@[reducible] def fn_cut_Forest_Least_1:Nat:=179
@[reducible] def fn_seq_Forest_Size:Nat:=180
@[reducible] def fn_slices_Backward__int32int32_1:Nat:=189
@[reducible] def fn_plaitref10_Next:Nat:=190
@[reducible] def fn_plaitref11_Next:Nat:=191
@[reducible] def fn_seq_Forest_lift:Nat:=192
@[reducible] def fn_seq_Forest_At:Nat:=193
@[reducible] def fn_seq_Forest_Rank:Nat:=194
@[reducible] def fn_seq_Forest_end:Nat:=195
@[reducible] def fn_seq_Forest_hang:Nat:=196
@[reducible] def fn_seq_Forest_pull:Nat:=197
@[reducible] def fn_seq_Forest_top:Nat:=198
@[reducible] def fn_seq_Forest_push:Nat:=208
@[reducible] def fn_seq_Forest_rotate:Nat:=209
@[reducible] def fn_seq_Forest_down:Nat:=210
@[reducible] def fn_seq_Forest_At_1:Nat:=211
@[reducible] def T_int64:Nat:=2
@[reducible] def T_int:Nat:=3
@[reducible] def T_bool:Nat:=4
@[reducible] def T_int32:Nat:=21
@[reducible] def T_error:Nat:=28
@[reducible] def T_sl_bool:Nat:=46
@[reducible] def T_sl_sl_int:Nat:=47
@[reducible] def T_plaitref10_Turns:Nat:=49
@[reducible] def T_sl_int32:Nat:=50
@[reducible] def T_plaitref16_Map:Nat:=52
@[reducible] def T_sphere_Counts:Nat:=60
@[reducible] def T_api_Errno:Nat:=64
@[reducible] def T_p_api_Errno:Nat:=79
@[reducible] def T_p_cut_Forest:Nat:=86
@[reducible] def T_core_Map:Nat:=89
@[reducible] def T__2int:Nat:=93
@[reducible] def T_plaitlaw16_Act:Nat:=95
@[reducible] def T_turn_Corner:Nat:=99
@[reducible] def T_reflectlite_Value:Nat:=112
@[reducible] def T__2int32:Nat:=137
@[reducible] def T_web_Web:Nat:=141
@[reducible] def T_reflectlite_rtype:Nat:=158
@[reducible] def T_turn_Turns:Nat:=185
@[reducible] def T_turn_dart:Nat:=187
@[reducible] def T_cut_Forest:Nat:=192
@[reducible] def T_cut_node:Nat:=194
@[reducible] def T_sl_int:Nat:=199
@[reducible] def T_p_seq_Forest:Nat:=224
@[reducible] def T_ring_Rings:Nat:=228
@[reducible] def T_seq_Forest:Nat:=249
@[reducible] def T_seq_node:Nat:=251
def ld_plaitref10_Turns (a:Addr) (w:World) (K:Int→Option Addr→Nat→Nat→Prop):Prop:=
  ldI .i64 a w fun n0=>
 ldS (a.add 1) w fun s1b s1l s1c=>
 K n0 s1b s1l s1c
def ld_plaitref16_Map (a:Addr) (w:World) (K:Int→Option Addr→Nat→Nat→Int→Option Addr→Nat→Nat→Option Addr→Nat→Nat→Prop):Prop:=
  ldI .i64 a w fun n0=>
 ldS (a.add 1) w fun s1b s1l s1c=>
 ldI .i64 (a.add 2) w fun n2=>
 ldS (a.add 3) w fun s3b s3l s3c=>
 ldS (a.add 4) w fun s4b s4l s4c=>
 K n0 s1b s1l s1c n2 s3b s3l s3c s4b s4l s4c
def ld_plaitlaw16_Act (a:Addr) (w:World) (K:Int→Int→Int→Int→Int→Int→Int→Prop):Prop:=
  ldI .i64 a w fun n0=>
 ldI .i64 (a.add 1) w fun n1=>
 ldI .i64 (a.add 2) w fun n2=>
 ldI .i64 (a.add 3) w fun n3=>
 ldI .i64 (a.add 4) w fun n4=>
 ldI .i64 (a.add 5) w fun n5=>
 ldI .i32 (a.add 6) w fun n6=>
 K n0 n1 n2 n3 n4 n5 n6
def Eall:List Nat:=[3,4,5,6,7,8,9,10,11,12,13,14,15,16,17,18,19,20,21,22,23,24,25,26,27,28,29,30,31,32,33,34,35,36,37,38,39,43,44,45,46,47,48,49,50,51,52,53,54,55,56,57,58,59,60,61,62,63,64,65,66,67,68,69,70,71,72,73,74,75,76,77,78,79,80,84,85,86,87,88,89,90,91,92,93,94,95,96,97,98,99,100,101,102,103,104,105,106,107,108,109,110,111,112,113,114,115,116,117,118,119,120,121,122,123,124,125,126,127,128,129,130,131,132,133,134,135,136,137,138,139,140,141,142,143,144,145,146,147,148,149,150,151,152,153,154,155,156,157,158,159,160,161,162,163,164,165,166,167,168,169,170,171,172,173,174,175,176,177,178,179,180,181,182,183,184,185,186,187,188,189,190,191,192,193,194,195,196,197,198,199,200,201,202,203,204,205,206,207,208,209,210,211,213,214,215,216]
theorem Eall_enter:∀g∈Eall,enters Pg g:=by
  unfold Eall
  refine List.forall_mem_cons.2 ⟨Tryz.call3,?_⟩
  refine List.forall_mem_cons.2 ⟨Tryz.call4,?_⟩
  refine List.forall_mem_cons.2 ⟨Tryz.call5,?_⟩
  refine List.forall_mem_cons.2 ⟨Tryz.call6,?_⟩
  refine List.forall_mem_cons.2 ⟨Tryz.call7,?_⟩
  refine List.forall_mem_cons.2 ⟨Tryz.call8,?_⟩
  refine List.forall_mem_cons.2 ⟨Tryz.call9,?_⟩
  refine List.forall_mem_cons.2 ⟨Tryz.call10,?_⟩
  refine List.forall_mem_cons.2 ⟨Tryz.call11,?_⟩
  refine List.forall_mem_cons.2 ⟨Tryz.call12,?_⟩
  refine List.forall_mem_cons.2 ⟨Tryz.call13,?_⟩
  refine List.forall_mem_cons.2 ⟨Tryz.call14,?_⟩
  refine List.forall_mem_cons.2 ⟨Tryz.call15,?_⟩
  refine List.forall_mem_cons.2 ⟨Tryz.call16,?_⟩
  refine List.forall_mem_cons.2 ⟨Tryz.call17,?_⟩
  refine List.forall_mem_cons.2 ⟨Tryz.call18,?_⟩
  refine List.forall_mem_cons.2 ⟨Tryz.call19,?_⟩
  refine List.forall_mem_cons.2 ⟨Tryz.call20,?_⟩
  refine List.forall_mem_cons.2 ⟨Tryz.call21,?_⟩
  refine List.forall_mem_cons.2 ⟨Tryz.call22,?_⟩
  refine List.forall_mem_cons.2 ⟨Tryz.call23,?_⟩
  refine List.forall_mem_cons.2 ⟨Tryz.call24,?_⟩
  refine List.forall_mem_cons.2 ⟨Tryz.call25,?_⟩
  refine List.forall_mem_cons.2 ⟨Tryz.call26,?_⟩
  refine List.forall_mem_cons.2 ⟨Tryz.call27,?_⟩
  refine List.forall_mem_cons.2 ⟨Tryz.call28,?_⟩
  refine List.forall_mem_cons.2 ⟨Tryz.call29,?_⟩
  refine List.forall_mem_cons.2 ⟨Tryz.call30,?_⟩
  refine List.forall_mem_cons.2 ⟨Tryz.call31,?_⟩
  refine List.forall_mem_cons.2 ⟨Tryz.call32,?_⟩
  refine List.forall_mem_cons.2 ⟨Tryz.call33,?_⟩
  refine List.forall_mem_cons.2 ⟨Tryz.call34,?_⟩
  refine List.forall_mem_cons.2 ⟨Tryz.call35,?_⟩
  refine List.forall_mem_cons.2 ⟨Tryz.call36,?_⟩
  refine List.forall_mem_cons.2 ⟨Tryz.call37,?_⟩
  refine List.forall_mem_cons.2 ⟨Tryz.call38,?_⟩
  refine List.forall_mem_cons.2 ⟨Tryz.call39,?_⟩
  refine List.forall_mem_cons.2 ⟨Tryz.call43,?_⟩
  refine List.forall_mem_cons.2 ⟨Tryz.call44,?_⟩
  refine List.forall_mem_cons.2 ⟨Tryz.call45,?_⟩
  refine List.forall_mem_cons.2 ⟨Tryz.call46,?_⟩
  refine List.forall_mem_cons.2 ⟨Tryz.call47,?_⟩
  refine List.forall_mem_cons.2 ⟨Tryz.call48,?_⟩
  refine List.forall_mem_cons.2 ⟨Tryz.call49,?_⟩
  refine List.forall_mem_cons.2 ⟨Tryz.call50,?_⟩
  refine List.forall_mem_cons.2 ⟨Tryz.call51,?_⟩
  refine List.forall_mem_cons.2 ⟨Tryz.call52,?_⟩
  refine List.forall_mem_cons.2 ⟨Tryz.call53,?_⟩
  refine List.forall_mem_cons.2 ⟨Tryz.call54,?_⟩
  refine List.forall_mem_cons.2 ⟨Tryz.call55,?_⟩
  refine List.forall_mem_cons.2 ⟨Tryz.call56,?_⟩
  refine List.forall_mem_cons.2 ⟨Tryz.call57,?_⟩
  refine List.forall_mem_cons.2 ⟨Tryz.call58,?_⟩
  refine List.forall_mem_cons.2 ⟨Tryz.call59,?_⟩
  refine List.forall_mem_cons.2 ⟨Tryz.call60,?_⟩
  refine List.forall_mem_cons.2 ⟨Tryz.call61,?_⟩
  refine List.forall_mem_cons.2 ⟨Tryz.call62,?_⟩
  refine List.forall_mem_cons.2 ⟨Tryz.call63,?_⟩
  refine List.forall_mem_cons.2 ⟨Tryz.call64,?_⟩
  refine List.forall_mem_cons.2 ⟨Tryz.call65,?_⟩
  refine List.forall_mem_cons.2 ⟨Tryz.call66,?_⟩
  refine List.forall_mem_cons.2 ⟨Tryz.call67,?_⟩
  refine List.forall_mem_cons.2 ⟨Tryz.call68,?_⟩
  refine List.forall_mem_cons.2 ⟨Tryz.call69,?_⟩
  refine List.forall_mem_cons.2 ⟨Tryz.call70,?_⟩
  refine List.forall_mem_cons.2 ⟨Tryz.call71,?_⟩
  refine List.forall_mem_cons.2 ⟨Tryz.call72,?_⟩
  refine List.forall_mem_cons.2 ⟨Tryz.call73,?_⟩
  refine List.forall_mem_cons.2 ⟨Tryz.call74,?_⟩
  refine List.forall_mem_cons.2 ⟨Tryz.call75,?_⟩
  refine List.forall_mem_cons.2 ⟨Tryz.call76,?_⟩
  refine List.forall_mem_cons.2 ⟨Tryz.call77,?_⟩
  refine List.forall_mem_cons.2 ⟨Tryz.call78,?_⟩
  refine List.forall_mem_cons.2 ⟨Tryz.call79,?_⟩
  refine List.forall_mem_cons.2 ⟨Tryz.call80,?_⟩
  refine List.forall_mem_cons.2 ⟨Tryz.call84,?_⟩
  refine List.forall_mem_cons.2 ⟨Tryz.call85,?_⟩
  refine List.forall_mem_cons.2 ⟨Tryz.call86,?_⟩
  refine List.forall_mem_cons.2 ⟨Tryz.call87,?_⟩
  refine List.forall_mem_cons.2 ⟨Tryz.call88,?_⟩
  refine List.forall_mem_cons.2 ⟨Tryz.call89,?_⟩
  refine List.forall_mem_cons.2 ⟨Tryz.call90,?_⟩
  refine List.forall_mem_cons.2 ⟨Tryz.call91,?_⟩
  refine List.forall_mem_cons.2 ⟨Tryz.call92,?_⟩
  refine List.forall_mem_cons.2 ⟨Tryz.call93,?_⟩
  refine List.forall_mem_cons.2 ⟨Tryz.call94,?_⟩
  refine List.forall_mem_cons.2 ⟨Tryz.call95,?_⟩
  refine List.forall_mem_cons.2 ⟨Tryz.call96,?_⟩
  refine List.forall_mem_cons.2 ⟨Tryz.call97,?_⟩
  refine List.forall_mem_cons.2 ⟨Tryz.call98,?_⟩
  refine List.forall_mem_cons.2 ⟨Tryz.call99,?_⟩
  refine List.forall_mem_cons.2 ⟨Tryz.call100,?_⟩
  refine List.forall_mem_cons.2 ⟨Tryz.call101,?_⟩
  refine List.forall_mem_cons.2 ⟨Tryz.call102,?_⟩
  refine List.forall_mem_cons.2 ⟨Tryz.call103,?_⟩
  refine List.forall_mem_cons.2 ⟨Tryz.call104,?_⟩
  refine List.forall_mem_cons.2 ⟨Tryz.call105,?_⟩
  refine List.forall_mem_cons.2 ⟨Tryz.call106,?_⟩
  refine List.forall_mem_cons.2 ⟨Tryz.call107,?_⟩
  refine List.forall_mem_cons.2 ⟨Tryz.call108,?_⟩
  refine List.forall_mem_cons.2 ⟨Tryz.call109,?_⟩
  refine List.forall_mem_cons.2 ⟨Tryz.call110,?_⟩
  refine List.forall_mem_cons.2 ⟨Tryz.call111,?_⟩
  refine List.forall_mem_cons.2 ⟨Tryz.call112,?_⟩
  refine List.forall_mem_cons.2 ⟨Tryz.call113,?_⟩
  refine List.forall_mem_cons.2 ⟨Tryz.call114,?_⟩
  refine List.forall_mem_cons.2 ⟨Tryz.call115,?_⟩
  refine List.forall_mem_cons.2 ⟨Tryz.call116,?_⟩
  refine List.forall_mem_cons.2 ⟨Tryz.call117,?_⟩
  refine List.forall_mem_cons.2 ⟨Tryz.call118,?_⟩
  refine List.forall_mem_cons.2 ⟨Tryz.call119,?_⟩
  refine List.forall_mem_cons.2 ⟨Tryz.call120,?_⟩
  refine List.forall_mem_cons.2 ⟨Tryz.call121,?_⟩
  refine List.forall_mem_cons.2 ⟨Tryz.call122,?_⟩
  refine List.forall_mem_cons.2 ⟨Tryz.call123,?_⟩
  refine List.forall_mem_cons.2 ⟨Tryz.call124,?_⟩
  refine List.forall_mem_cons.2 ⟨Tryz.call125,?_⟩
  refine List.forall_mem_cons.2 ⟨Tryz.call126,?_⟩
  refine List.forall_mem_cons.2 ⟨Tryz.call127,?_⟩
  refine List.forall_mem_cons.2 ⟨Tryz.call128,?_⟩
  refine List.forall_mem_cons.2 ⟨Tryz.call129,?_⟩
  refine List.forall_mem_cons.2 ⟨Tryz.call130,?_⟩
  refine List.forall_mem_cons.2 ⟨Tryz.call131,?_⟩
  refine List.forall_mem_cons.2 ⟨Tryz.call132,?_⟩
  refine List.forall_mem_cons.2 ⟨Tryz.call133,?_⟩
  refine List.forall_mem_cons.2 ⟨Tryz.call134,?_⟩
  refine List.forall_mem_cons.2 ⟨Tryz.call135,?_⟩
  refine List.forall_mem_cons.2 ⟨Tryz.call136,?_⟩
  refine List.forall_mem_cons.2 ⟨Tryz.call137,?_⟩
  refine List.forall_mem_cons.2 ⟨Tryz.call138,?_⟩
  refine List.forall_mem_cons.2 ⟨Tryz.call139,?_⟩
  refine List.forall_mem_cons.2 ⟨Tryz.call140,?_⟩
  refine List.forall_mem_cons.2 ⟨Tryz.call141,?_⟩
  refine List.forall_mem_cons.2 ⟨Tryz.call142,?_⟩
  refine List.forall_mem_cons.2 ⟨Tryz.call143,?_⟩
  refine List.forall_mem_cons.2 ⟨Tryz.call144,?_⟩
  refine List.forall_mem_cons.2 ⟨Tryz.call145,?_⟩
  refine List.forall_mem_cons.2 ⟨Tryz.call146,?_⟩
  refine List.forall_mem_cons.2 ⟨Tryz.call147,?_⟩
  refine List.forall_mem_cons.2 ⟨Tryz.call148,?_⟩
  refine List.forall_mem_cons.2 ⟨Tryz.call149,?_⟩
  refine List.forall_mem_cons.2 ⟨Tryz.call150,?_⟩
  refine List.forall_mem_cons.2 ⟨Tryz.call151,?_⟩
  refine List.forall_mem_cons.2 ⟨Tryz.call152,?_⟩
  refine List.forall_mem_cons.2 ⟨Tryz.call153,?_⟩
  refine List.forall_mem_cons.2 ⟨Tryz.call154,?_⟩
  refine List.forall_mem_cons.2 ⟨Tryz.call155,?_⟩
  refine List.forall_mem_cons.2 ⟨Tryz.call156,?_⟩
  refine List.forall_mem_cons.2 ⟨Tryz.call157,?_⟩
  refine List.forall_mem_cons.2 ⟨Tryz.call158,?_⟩
  refine List.forall_mem_cons.2 ⟨Tryz.call159,?_⟩
  refine List.forall_mem_cons.2 ⟨Tryz.call160,?_⟩
  refine List.forall_mem_cons.2 ⟨Tryz.call161,?_⟩
  refine List.forall_mem_cons.2 ⟨Tryz.call162,?_⟩
  refine List.forall_mem_cons.2 ⟨Tryz.call163,?_⟩
  refine List.forall_mem_cons.2 ⟨Tryz.call164,?_⟩
  refine List.forall_mem_cons.2 ⟨Tryz.call165,?_⟩
  refine List.forall_mem_cons.2 ⟨Tryz.call166,?_⟩
  refine List.forall_mem_cons.2 ⟨Tryz.call167,?_⟩
  refine List.forall_mem_cons.2 ⟨Tryz.call168,?_⟩
  refine List.forall_mem_cons.2 ⟨Tryz.call169,?_⟩
  refine List.forall_mem_cons.2 ⟨Tryz.call170,?_⟩
  refine List.forall_mem_cons.2 ⟨Tryz.call171,?_⟩
  refine List.forall_mem_cons.2 ⟨Tryz.call172,?_⟩
  refine List.forall_mem_cons.2 ⟨Tryz.call173,?_⟩
  refine List.forall_mem_cons.2 ⟨Tryz.call174,?_⟩
  refine List.forall_mem_cons.2 ⟨Tryz.call175,?_⟩
  refine List.forall_mem_cons.2 ⟨Tryz.call176,?_⟩
  refine List.forall_mem_cons.2 ⟨Tryz.call177,?_⟩
  refine List.forall_mem_cons.2 ⟨Tryz.call178,?_⟩
  refine List.forall_mem_cons.2 ⟨Tryz.call179,?_⟩
  refine List.forall_mem_cons.2 ⟨Tryz.call180,?_⟩
  refine List.forall_mem_cons.2 ⟨Tryz.call181,?_⟩
  refine List.forall_mem_cons.2 ⟨Tryz.call182,?_⟩
  refine List.forall_mem_cons.2 ⟨Tryz.call183,?_⟩
  refine List.forall_mem_cons.2 ⟨Tryz.call184,?_⟩
  refine List.forall_mem_cons.2 ⟨Tryz.call185,?_⟩
  refine List.forall_mem_cons.2 ⟨Tryz.call186,?_⟩
  refine List.forall_mem_cons.2 ⟨Tryz.call187,?_⟩
  refine List.forall_mem_cons.2 ⟨Tryz.call188,?_⟩
  refine List.forall_mem_cons.2 ⟨Tryz.call189,?_⟩
  refine List.forall_mem_cons.2 ⟨Tryz.call190,?_⟩
  refine List.forall_mem_cons.2 ⟨Tryz.call191,?_⟩
  refine List.forall_mem_cons.2 ⟨Tryz.call192,?_⟩
  refine List.forall_mem_cons.2 ⟨Tryz.call193,?_⟩
  refine List.forall_mem_cons.2 ⟨Tryz.call194,?_⟩
  refine List.forall_mem_cons.2 ⟨Tryz.call195,?_⟩
  refine List.forall_mem_cons.2 ⟨Tryz.call196,?_⟩
  refine List.forall_mem_cons.2 ⟨Tryz.call197,?_⟩
  refine List.forall_mem_cons.2 ⟨Tryz.call198,?_⟩
  refine List.forall_mem_cons.2 ⟨Tryz.call199,?_⟩
  refine List.forall_mem_cons.2 ⟨Tryz.call200,?_⟩
  refine List.forall_mem_cons.2 ⟨Tryz.call201,?_⟩
  refine List.forall_mem_cons.2 ⟨Tryz.call202,?_⟩
  refine List.forall_mem_cons.2 ⟨Tryz.call203,?_⟩
  refine List.forall_mem_cons.2 ⟨Tryz.call204,?_⟩
  refine List.forall_mem_cons.2 ⟨Tryz.call205,?_⟩
  refine List.forall_mem_cons.2 ⟨Tryz.call206,?_⟩
  refine List.forall_mem_cons.2 ⟨Tryz.call207,?_⟩
  refine List.forall_mem_cons.2 ⟨Tryz.call208,?_⟩
  refine List.forall_mem_cons.2 ⟨Tryz.call209,?_⟩
  refine List.forall_mem_cons.2 ⟨Tryz.call210,?_⟩
  refine List.forall_mem_cons.2 ⟨Tryz.call211,?_⟩
  refine List.forall_mem_cons.2 ⟨Tryz.call213,?_⟩
  refine List.forall_mem_cons.2 ⟨Tryz.call214,?_⟩
  refine List.forall_mem_cons.2 ⟨Tryz.call215,?_⟩
  refine List.forall_mem_cons.2 ⟨Tryz.call216,?_⟩
  intro g hg;cases hg
abbrev OA:=Option Addr
abbrev RV:=Value→World→Prop
abbrev JP:=List Value→World→Prop
abbrev JN:=List Value→World→Nat
def sts (a:Addr):Nat→List Value→World→(World→Prop)→Prop
  | _,[],w,K=>K w
  | 0,v::vs,w,K=>sto a v w fun w'=>sts a 1 vs w' K
  | i+1,v::vs,w,K=>sto (a.add (i+1)) v w fun w'=>sts a (i+2) vs w' K
def kps (w:World) (a:Addr):Nat→List Value→Prop→Prop
  | _,[],K=>K
  | 0,v::vs,K=>w.cell? a=some v∧kps w a 1 vs K
  | i+1,v::vs,K=>w.cell? (a.add (i+1))=some v∧kps w a (i+2) vs K
def Ro.t (a:Nat):Nat→Ro→Ro
  | 0,r=>r
  | n+1,r=>.tk a [] [] (Ro.t (a+1) n r)
abbrev An.L:An:=.leaf
abbrev An.r:=An.reg
abbrev An.s:=An.seq
abbrev An.j:=An.join
abbrev An.c:=An.cond
abbrev An.b:=An.block
abbrev An.o:=An.loop
abbrev An.u:=An.unr
abbrev SH (f:Nat) (a:List Value) (F:World→RV→Prop):Prop:=∀w R,F w R→Calls Pg f a.toArray w fun e w'=>∃v,e=.returned v∧R v w'
theorem cdn {f:Nat} {fn:Func} {a:List Value} {F:World→RV→Prop} (hf:Pg.funcs[f]?=some fn) (an:An) (h:∀w R,F w R=denF Pg Eall fn an a w R):SH f a F:=fun w R k=>calls_of_den Eall_enter wide_mixed hf (by rw [←h];exact k)
theorem cdnR {f:Nat} {fn:Func} {a:List Value} {F:World→RV→Prop} (hf:Pg.funcs[f]?=some fn) (an:An) (h:∀w R,F w R=denR Pg Eall fn an a w R):SH f a F:=fun w R k=>calls_of_denR Eall_enter wide_mixed hf (by rw [←h];exact k)
end Go.Proofs.YtdamhidnlfjkdaaGreatDoor
