/-
Names of the numbers of functions and types in this seat's translation, and that its functions with bodies are entered.
Conditions: none.
-/
import Derived.Test.YtaoemljoiahapaaGreatDoorGLex
import Derived.Test.YtaoemljoiahapaaGreatDoorProg
namespace Go.Proofs.YtaoemljoiahapaaGreatDoor
open Go
noncomputable abbrev Pg : Program := Tryz.prog
theorem wide_mixed : Pg.follows .mixedOrders = true := by kernel_rfl
@[reducible] def fn_plaitlaw14_WebTies : Nat := 3
@[reducible] def fn_plaitlaw14_WebRoads : Nat := 4
@[reducible] def fn_plaitlaw14_WebApart : Nat := 5
@[reducible] def fn_plaitlaw14_WebRuns : Nat := 6
@[reducible] def fn_plaitlaw14_grown : Nat := 7
@[reducible] def fn_web_Web_Tied : Nat := 8
@[reducible] def fn_web_Web_Linked : Nat := 9
@[reducible] def fn_plaitlaw14_sure : Nat := 10
@[reducible] def fn_plaitlaw14_num : Nat := 11
@[reducible] def fn_web_Web_Tie : Nat := 12
@[reducible] def fn_web_Web_Weakest : Nat := 13
@[reducible] def fn_web_Web_Untie : Nat := 14
@[reducible] def fn_web_Web_Same : Nat := 15
@[reducible] def fn_plaitref14_At : Nat := 16
@[reducible] def fn_web_New : Nat := 17
@[reducible] def fn_plaitref14_New : Nat := 18
@[reducible] def fn_plaitlaw14_do : Nat := 19
@[reducible] def fn_web_Web_Walk : Nat := 20
@[reducible] def fn_web_Web_Split : Nat := 21
@[reducible] def fn_web_Web_Merge : Nat := 22
@[reducible] def fn_plaitlaw14_ints : Nat := 23
@[reducible] def fn_plaitlaw14_told : Nat := 24
@[reducible] def fn_web_Web_check : Nat := 25
@[reducible] def fn_web_Web_two : Nat := 26
@[reducible] def fn_cut_Forest_Same : Nat := 27
@[reducible] def fn_errors_As : Nat := 28
@[reducible] def fn_cut_Forest_Set : Nat := 29
@[reducible] def fn_cut_Forest_Link : Nat := 30
@[reducible] def fn_cut_Forest_Least : Nat := 31
@[reducible] def fn_cut_Forest_Cut : Nat := 32
@[reducible] def fn_web_Web_faces : Nat := 33
@[reducible] def fn_ring_Rings_Same : Nat := 34
@[reducible] def fn_ring_New : Nat := 35
@[reducible] def fn_cut_New : Nat := 36
@[reducible] def fn_plaitref04_New : Nat := 37
@[reducible] def fn_plaitref14_Split : Nat := 38
@[reducible] def fn_plaitref14_Apart : Nat := 39
@[reducible] def fn_web_Web_Apart : Nat := 40
@[reducible] def fn_plaitref14_Add : Nat := 41
@[reducible] def fn_plaitref14_Drop : Nat := 42
@[reducible] def fn_plaitref14_Merge : Nat := 43
@[reducible] def fn_ring_Rings_Walk : Nat := 44
@[reducible] def fn_web_Web_turn : Nat := 45
@[reducible] def fn_ring_Rings_Prev : Nat := 46
@[reducible] def fn_ring_Rings_Split : Nat := 47
@[reducible] def fn_ring_Rings_Merge : Nat := 48
@[reducible] def fn_plaitref14_Weakest : Nat := 49
@[reducible] def fn_web_Web_Len : Nat := 50
@[reducible] def fn_plaitref04_Find : Nat := 51
@[reducible] def fn_plaitref05_Walk : Nat := 52
@[reducible] def fn_cut_Forest_check : Nat := 53
@[reducible] def fn_cut_Forest_same : Nat := 54
@[reducible] def fn_cut_Forest_access : Nat := 59
@[reducible] def fn_cut_Forest_pull : Nat := 60
@[reducible] def fn_cut_Forest_root : Nat := 61
@[reducible] def fn_cut_Forest_road : Nat := 62
@[reducible] def fn_cut_Forest_first : Nat := 63
@[reducible] def fn_cut_Forest_Least_1 : Nat := 64
@[reducible] def fn_cut_Forest_near : Nat := 65
@[reducible] def fn_ring_Rings_seqs : Nat := 66
@[reducible] def fn_seq_Forest_Same : Nat := 67
@[reducible] def fn_seq_New : Nat := 68
@[reducible] def fn_plaitref14_In : Nat := 69
@[reducible] def fn_plaitref05_Split : Nat := 70
@[reducible] def fn_plaitref05_Apart : Nat := 71
@[reducible] def fn_ring_Rings_Next : Nat := 72
@[reducible] def fn_plaitref14_Road : Nat := 73
@[reducible] def fn_plaitref05_Merge : Nat := 74
@[reducible] def fn_seq_Forest_List : Nat := 75
@[reducible] def fn_slices_Index__intint : Nat := 76
@[reducible] def fn_slices_Concat__intint : Nat := 77
@[reducible] def fn_ring_Rings_Front : Nat := 78
@[reducible] def fn_ring_Rings_Turn : Nat := 79
@[reducible] def fn_ring_Rings_step : Nat := 80
@[reducible] def fn_seq_Forest_Cut : Nat := 81
@[reducible] def fn_seq_Forest_Join : Nat := 82
@[reducible] def fn_ring_Rings_Len : Nat := 83
@[reducible] def fn_plaitref05_from : Nat := 84
@[reducible] def fn_cut_Forest_lift : Nat := 88
@[reducible] def fn_cut_Forest_push : Nat := 89
@[reducible] def fn_seq_Forest_check : Nat := 90
@[reducible] def fn_seq_Forest_same : Nat := 91
@[reducible] def fn_plaitref05_without : Nat := 92
@[reducible] def fn_seq_Forest_top : Nat := 93
@[reducible] def fn_seq_Forest_push : Nat := 94
@[reducible] def fn_slices_Grow__intint : Nat := 95
@[reducible] def fn_seq_Forest_At : Nat := 96
@[reducible] def fn_seq_Forest_Rank : Nat := 97
@[reducible] def fn_seq_Forest_lift : Nat := 98
@[reducible] def fn_seq_Forest_pull : Nat := 99
@[reducible] def fn_seq_Forest_end : Nat := 100
@[reducible] def fn_seq_Forest_hang : Nat := 101
@[reducible] def fn_seq_Forest_Size : Nat := 102
@[reducible] def fn_cut_Forest_top : Nat := 103
@[reducible] def fn_slices_Backward__int32int32 : Nat := 104
@[reducible] def fn_cut_Forest_side : Nat := 105
@[reducible] def fn_cut_Forest_rotate : Nat := 106
@[reducible] def fn_seq_Forest_down : Nat := 107
@[reducible] def fn_seq_Forest_At_1 : Nat := 108
@[reducible] def fn_seq_Forest_rotate : Nat := 109
@[reducible] def fn_slices_Backward__int32int32_1 : Nat := 110
@[reducible] def T_int64 : Nat := 2
@[reducible] def T_int : Nat := 3
@[reducible] def T_bool : Nat := 4
@[reducible] def T_int32 : Nat := 21
@[reducible] def T_plaitlaw14_Act : Nat := 24
@[reducible] def T_sl_sl_int : Nat := 27
@[reducible] def T_sl_plaitref14_Tie : Nat := 28
@[reducible] def T_plaitref14_Web : Nat := 30
@[reducible] def T_error : Nat := 35
@[reducible] def T__2int : Nat := 45
@[reducible] def T_plaitref14_Tie : Nat := 48
@[reducible] def T_sl_int : Nat := 55
@[reducible] def T__2int32 : Nat := 62
@[reducible] def T_p_cut_Forest : Nat := 64
@[reducible] def T_web_Web : Nat := 67
@[reducible] def T_api_Errno : Nat := 68
@[reducible] def T_p_api_Errno : Nat := 70
@[reducible] def T_reflectlite_Value : Nat := 92
@[reducible] def T_cut_node : Nat := 103
@[reducible] def T_cut_Forest : Nat := 106
@[reducible] def T_p_seq_Forest : Nat := 112
@[reducible] def T_ring_Rings : Nat := 117
@[reducible] def T_reflectlite_rtype : Nat := 129
@[reducible] def T_seq_Forest : Nat := 144
@[reducible] def T_seq_node : Nat := 146
@[reducible] def T_sl_int32 : Nat := 153
def Eall : List Nat := [3, 4, 5, 6, 7, 8, 9, 10, 11, 12, 13, 14, 15, 16, 17, 18, 19, 20, 21, 22, 23, 24, 25, 26, 27, 28, 29, 30, 31, 32, 33, 34, 35, 36, 37, 38, 39, 40, 41, 42, 43, 44, 45, 46, 47, 48, 49, 50, 51, 52, 53, 54, 58, 59, 60, 61, 62, 63, 64, 65, 66, 67, 68, 69, 70, 71, 72, 73, 74, 75, 76, 77, 78, 79, 80, 81, 82, 83, 84, 88, 89, 90, 91, 92, 93, 94, 95, 96, 97, 98, 99, 100, 101, 102, 103, 104, 105, 106, 107, 108, 109, 110]
theorem Eall_enter : ∀ g ∈ Eall, enters Pg g := by
  unfold Eall
  refine List.forall_mem_cons.2 ⟨Tryz.call3, ?_⟩
  refine List.forall_mem_cons.2 ⟨Tryz.call4, ?_⟩
  refine List.forall_mem_cons.2 ⟨Tryz.call5, ?_⟩
  refine List.forall_mem_cons.2 ⟨Tryz.call6, ?_⟩
  refine List.forall_mem_cons.2 ⟨Tryz.call7, ?_⟩
  refine List.forall_mem_cons.2 ⟨Tryz.call8, ?_⟩
  refine List.forall_mem_cons.2 ⟨Tryz.call9, ?_⟩
  refine List.forall_mem_cons.2 ⟨Tryz.call10, ?_⟩
  refine List.forall_mem_cons.2 ⟨Tryz.call11, ?_⟩
  refine List.forall_mem_cons.2 ⟨Tryz.call12, ?_⟩
  refine List.forall_mem_cons.2 ⟨Tryz.call13, ?_⟩
  refine List.forall_mem_cons.2 ⟨Tryz.call14, ?_⟩
  refine List.forall_mem_cons.2 ⟨Tryz.call15, ?_⟩
  refine List.forall_mem_cons.2 ⟨Tryz.call16, ?_⟩
  refine List.forall_mem_cons.2 ⟨Tryz.call17, ?_⟩
  refine List.forall_mem_cons.2 ⟨Tryz.call18, ?_⟩
  refine List.forall_mem_cons.2 ⟨Tryz.call19, ?_⟩
  refine List.forall_mem_cons.2 ⟨Tryz.call20, ?_⟩
  refine List.forall_mem_cons.2 ⟨Tryz.call21, ?_⟩
  refine List.forall_mem_cons.2 ⟨Tryz.call22, ?_⟩
  refine List.forall_mem_cons.2 ⟨Tryz.call23, ?_⟩
  refine List.forall_mem_cons.2 ⟨Tryz.call24, ?_⟩
  refine List.forall_mem_cons.2 ⟨Tryz.call25, ?_⟩
  refine List.forall_mem_cons.2 ⟨Tryz.call26, ?_⟩
  refine List.forall_mem_cons.2 ⟨Tryz.call27, ?_⟩
  refine List.forall_mem_cons.2 ⟨Tryz.call28, ?_⟩
  refine List.forall_mem_cons.2 ⟨Tryz.call29, ?_⟩
  refine List.forall_mem_cons.2 ⟨Tryz.call30, ?_⟩
  refine List.forall_mem_cons.2 ⟨Tryz.call31, ?_⟩
  refine List.forall_mem_cons.2 ⟨Tryz.call32, ?_⟩
  refine List.forall_mem_cons.2 ⟨Tryz.call33, ?_⟩
  refine List.forall_mem_cons.2 ⟨Tryz.call34, ?_⟩
  refine List.forall_mem_cons.2 ⟨Tryz.call35, ?_⟩
  refine List.forall_mem_cons.2 ⟨Tryz.call36, ?_⟩
  refine List.forall_mem_cons.2 ⟨Tryz.call37, ?_⟩
  refine List.forall_mem_cons.2 ⟨Tryz.call38, ?_⟩
  refine List.forall_mem_cons.2 ⟨Tryz.call39, ?_⟩
  refine List.forall_mem_cons.2 ⟨Tryz.call40, ?_⟩
  refine List.forall_mem_cons.2 ⟨Tryz.call41, ?_⟩
  refine List.forall_mem_cons.2 ⟨Tryz.call42, ?_⟩
  refine List.forall_mem_cons.2 ⟨Tryz.call43, ?_⟩
  refine List.forall_mem_cons.2 ⟨Tryz.call44, ?_⟩
  refine List.forall_mem_cons.2 ⟨Tryz.call45, ?_⟩
  refine List.forall_mem_cons.2 ⟨Tryz.call46, ?_⟩
  refine List.forall_mem_cons.2 ⟨Tryz.call47, ?_⟩
  refine List.forall_mem_cons.2 ⟨Tryz.call48, ?_⟩
  refine List.forall_mem_cons.2 ⟨Tryz.call49, ?_⟩
  refine List.forall_mem_cons.2 ⟨Tryz.call50, ?_⟩
  refine List.forall_mem_cons.2 ⟨Tryz.call51, ?_⟩
  refine List.forall_mem_cons.2 ⟨Tryz.call52, ?_⟩
  refine List.forall_mem_cons.2 ⟨Tryz.call53, ?_⟩
  refine List.forall_mem_cons.2 ⟨Tryz.call54, ?_⟩
  refine List.forall_mem_cons.2 ⟨Tryz.call58, ?_⟩
  refine List.forall_mem_cons.2 ⟨Tryz.call59, ?_⟩
  refine List.forall_mem_cons.2 ⟨Tryz.call60, ?_⟩
  refine List.forall_mem_cons.2 ⟨Tryz.call61, ?_⟩
  refine List.forall_mem_cons.2 ⟨Tryz.call62, ?_⟩
  refine List.forall_mem_cons.2 ⟨Tryz.call63, ?_⟩
  refine List.forall_mem_cons.2 ⟨Tryz.call64, ?_⟩
  refine List.forall_mem_cons.2 ⟨Tryz.call65, ?_⟩
  refine List.forall_mem_cons.2 ⟨Tryz.call66, ?_⟩
  refine List.forall_mem_cons.2 ⟨Tryz.call67, ?_⟩
  refine List.forall_mem_cons.2 ⟨Tryz.call68, ?_⟩
  refine List.forall_mem_cons.2 ⟨Tryz.call69, ?_⟩
  refine List.forall_mem_cons.2 ⟨Tryz.call70, ?_⟩
  refine List.forall_mem_cons.2 ⟨Tryz.call71, ?_⟩
  refine List.forall_mem_cons.2 ⟨Tryz.call72, ?_⟩
  refine List.forall_mem_cons.2 ⟨Tryz.call73, ?_⟩
  refine List.forall_mem_cons.2 ⟨Tryz.call74, ?_⟩
  refine List.forall_mem_cons.2 ⟨Tryz.call75, ?_⟩
  refine List.forall_mem_cons.2 ⟨Tryz.call76, ?_⟩
  refine List.forall_mem_cons.2 ⟨Tryz.call77, ?_⟩
  refine List.forall_mem_cons.2 ⟨Tryz.call78, ?_⟩
  refine List.forall_mem_cons.2 ⟨Tryz.call79, ?_⟩
  refine List.forall_mem_cons.2 ⟨Tryz.call80, ?_⟩
  refine List.forall_mem_cons.2 ⟨Tryz.call81, ?_⟩
  refine List.forall_mem_cons.2 ⟨Tryz.call82, ?_⟩
  refine List.forall_mem_cons.2 ⟨Tryz.call83, ?_⟩
  refine List.forall_mem_cons.2 ⟨Tryz.call84, ?_⟩
  refine List.forall_mem_cons.2 ⟨Tryz.call88, ?_⟩
  refine List.forall_mem_cons.2 ⟨Tryz.call89, ?_⟩
  refine List.forall_mem_cons.2 ⟨Tryz.call90, ?_⟩
  refine List.forall_mem_cons.2 ⟨Tryz.call91, ?_⟩
  refine List.forall_mem_cons.2 ⟨Tryz.call92, ?_⟩
  refine List.forall_mem_cons.2 ⟨Tryz.call93, ?_⟩
  refine List.forall_mem_cons.2 ⟨Tryz.call94, ?_⟩
  refine List.forall_mem_cons.2 ⟨Tryz.call95, ?_⟩
  refine List.forall_mem_cons.2 ⟨Tryz.call96, ?_⟩
  refine List.forall_mem_cons.2 ⟨Tryz.call97, ?_⟩
  refine List.forall_mem_cons.2 ⟨Tryz.call98, ?_⟩
  refine List.forall_mem_cons.2 ⟨Tryz.call99, ?_⟩
  refine List.forall_mem_cons.2 ⟨Tryz.call100, ?_⟩
  refine List.forall_mem_cons.2 ⟨Tryz.call101, ?_⟩
  refine List.forall_mem_cons.2 ⟨Tryz.call102, ?_⟩
  refine List.forall_mem_cons.2 ⟨Tryz.call103, ?_⟩
  refine List.forall_mem_cons.2 ⟨Tryz.call104, ?_⟩
  refine List.forall_mem_cons.2 ⟨Tryz.call105, ?_⟩
  refine List.forall_mem_cons.2 ⟨Tryz.call106, ?_⟩
  refine List.forall_mem_cons.2 ⟨Tryz.call107, ?_⟩
  refine List.forall_mem_cons.2 ⟨Tryz.call108, ?_⟩
  refine List.forall_mem_cons.2 ⟨Tryz.call109, ?_⟩
  refine List.forall_mem_cons.2 ⟨Tryz.call110, ?_⟩
  intro g hg; cases hg
end Go.Proofs.YtaoemljoiahapaaGreatDoor
