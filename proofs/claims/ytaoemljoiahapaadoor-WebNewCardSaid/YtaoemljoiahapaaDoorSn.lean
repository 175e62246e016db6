/-
Names of the numbers of functions and types in this seat's translation, and that its functions with bodies are entered.
Conditions: none.
-/
import Derived.Test.YtaoemljoiahapaaDoorGLex
import Derived.Test.YtaoemljoiahapaaDoorProg
namespace Go.Proofs.YtaoemljoiahapaaDoor
open Go
noncomputable abbrev Pg : Program := Tryd.prog
theorem wide_mixed : Pg.follows .mixedOrders = true := by kernel_rfl
@[reducible] def fn_plaitlaw14_WebNew : Nat := 3
@[reducible] def fn_web_Web_Same : Nat := 4
@[reducible] def fn_web_Web_Linked : Nat := 5
@[reducible] def fn_web_Web_Weakest : Nat := 6
@[reducible] def fn_web_Web_Walk : Nat := 7
@[reducible] def fn_plaitlaw14_num : Nat := 8
@[reducible] def fn_web_Web_Split : Nat := 9
@[reducible] def fn_web_Web_Merge : Nat := 10
@[reducible] def fn_web_Web_Apart : Nat := 11
@[reducible] def fn_web_Web_Tie : Nat := 12
@[reducible] def fn_web_Web_Untie : Nat := 13
@[reducible] def fn_web_Web_Tied : Nat := 14
@[reducible] def fn_plaitlaw14_sure : Nat := 15
@[reducible] def fn_web_New : Nat := 16
@[reducible] def fn_plaitlaw14_ints : Nat := 17
@[reducible] def fn_web_Web_faces : Nat := 18
@[reducible] def fn_ring_Rings_Same : Nat := 19
@[reducible] def fn_web_Web_two : Nat := 20
@[reducible] def fn_cut_Forest_Same : Nat := 21
@[reducible] def fn_cut_Forest_Least : Nat := 22
@[reducible] def fn_ring_Rings_Walk : Nat := 23
@[reducible] def fn_errors_As : Nat := 24
@[reducible] def fn_web_Web_turn : Nat := 25
@[reducible] def fn_ring_Rings_Prev : Nat := 26
@[reducible] def fn_cut_Forest_Cut : Nat := 27
@[reducible] def fn_ring_Rings_Split : Nat := 28
@[reducible] def fn_cut_Forest_Link : Nat := 29
@[reducible] def fn_ring_Rings_Merge : Nat := 30
@[reducible] def fn_ring_Rings_Next : Nat := 31
@[reducible] def fn_web_Web_check : Nat := 32
@[reducible] def fn_cut_Forest_Set : Nat := 33
@[reducible] def fn_ring_New : Nat := 34
@[reducible] def fn_cut_New : Nat := 35
@[reducible] def fn_ring_Rings_seqs : Nat := 36
@[reducible] def fn_seq_Forest_Same : Nat := 37
@[reducible] def fn_cut_Forest_check : Nat := 38
@[reducible] def fn_cut_Forest_same : Nat := 39
@[reducible] def fn_cut_Forest_road : Nat := 40
@[reducible] def fn_cut_Forest_first : Nat := 41
@[reducible] def fn_cut_Forest_Least_1 : Nat := 42
@[reducible] def fn_seq_Forest_List : Nat := 43
@[reducible] def fn_slices_Index__intint : Nat := 44
@[reducible] def fn_slices_Concat__intint : Nat := 45
@[reducible] def fn_ring_Rings_Front : Nat := 50
@[reducible] def fn_ring_Rings_Turn : Nat := 51
@[reducible] def fn_ring_Rings_step : Nat := 52
@[reducible] def fn_cut_Forest_near : Nat := 53
@[reducible] def fn_cut_Forest_pull : Nat := 54
@[reducible] def fn_seq_Forest_Cut : Nat := 55
@[reducible] def fn_cut_Forest_root : Nat := 56
@[reducible] def fn_seq_Forest_Join : Nat := 57
@[reducible] def fn_cut_Forest_access : Nat := 58
@[reducible] def fn_seq_New : Nat := 59
@[reducible] def fn_seq_Forest_check : Nat := 60
@[reducible] def fn_seq_Forest_same : Nat := 61
@[reducible] def fn_cut_Forest_push : Nat := 62
@[reducible] def fn_cut_Forest_lift : Nat := 63
@[reducible] def fn_seq_Forest_top : Nat := 64
@[reducible] def fn_seq_Forest_push : Nat := 65
@[reducible] def fn_slices_Grow__intint : Nat := 66
@[reducible] def fn_seq_Forest_At : Nat := 70
@[reducible] def fn_ring_Rings_Len : Nat := 71
@[reducible] def fn_seq_Forest_Rank : Nat := 72
@[reducible] def fn_seq_Forest_lift : Nat := 73
@[reducible] def fn_seq_Forest_pull : Nat := 74
@[reducible] def fn_seq_Forest_end : Nat := 75
@[reducible] def fn_seq_Forest_hang : Nat := 76
@[reducible] def fn_cut_Forest_top : Nat := 77
@[reducible] def fn_slices_Backward__int32int32 : Nat := 78
@[reducible] def fn_cut_Forest_side : Nat := 79
@[reducible] def fn_cut_Forest_rotate : Nat := 80
@[reducible] def fn_seq_Forest_down : Nat := 81
@[reducible] def fn_seq_Forest_At_1 : Nat := 82
@[reducible] def fn_seq_Forest_Size : Nat := 83
@[reducible] def fn_seq_Forest_rotate : Nat := 84
@[reducible] def fn_slices_Backward__int32int32_1 : Nat := 85
@[reducible] def T_int64 : Nat := 2
@[reducible] def T_int : Nat := 3
@[reducible] def T_int32 : Nat := 21
@[reducible] def T_error : Nat := 24
@[reducible] def T_sl_int : Nat := 29
@[reducible] def T_p_cut_Forest : Nat := 44
@[reducible] def T_web_Web : Nat := 47
@[reducible] def T_api_Errno : Nat := 48
@[reducible] def T_p_api_Errno : Nat := 50
@[reducible] def T__2int32 : Nat := 53
@[reducible] def T_p_seq_Forest : Nat := 58
@[reducible] def T_cut_node : Nat := 66
@[reducible] def T_reflectlite_Value : Nat := 74
@[reducible] def T_cut_Forest : Nat := 85
@[reducible] def T_ring_Rings : Nat := 88
@[reducible] def T_sl_int32 : Nat := 95
@[reducible] def T_seq_node : Nat := 97
@[reducible] def T_seq_Forest : Nat := 100
@[reducible] def T_reflectlite_rtype : Nat := 104
def Eall : List Nat := [3, 4, 5, 6, 7, 8, 9, 10, 11, 12, 13, 14, 15, 16, 17, 18, 19, 20, 21, 22, 23, 24, 25, 26, 27, 28, 29, 30, 31, 32, 33, 34, 35, 36, 37, 38, 39, 40, 41, 42, 43, 44, 45, 49, 50, 51, 52, 53, 54, 55, 56, 57, 58, 59, 60, 61, 62, 63, 64, 65, 66, 70, 71, 72, 73, 74, 75, 76, 77, 78, 79, 80, 81, 82, 83, 84, 85]
theorem Eall_enter : ∀ g ∈ Eall, enters Pg g := by
  unfold Eall
  refine List.forall_mem_cons.2 ⟨Tryd.call3, ?_⟩
  refine List.forall_mem_cons.2 ⟨Tryd.call4, ?_⟩
  refine List.forall_mem_cons.2 ⟨Tryd.call5, ?_⟩
  refine List.forall_mem_cons.2 ⟨Tryd.call6, ?_⟩
  refine List.forall_mem_cons.2 ⟨Tryd.call7, ?_⟩
  refine List.forall_mem_cons.2 ⟨Tryd.call8, ?_⟩
  refine List.forall_mem_cons.2 ⟨Tryd.call9, ?_⟩
  refine List.forall_mem_cons.2 ⟨Tryd.call10, ?_⟩
  refine List.forall_mem_cons.2 ⟨Tryd.call11, ?_⟩
  refine List.forall_mem_cons.2 ⟨Tryd.call12, ?_⟩
  refine List.forall_mem_cons.2 ⟨Tryd.call13, ?_⟩
  refine List.forall_mem_cons.2 ⟨Tryd.call14, ?_⟩
  refine List.forall_mem_cons.2 ⟨Tryd.call15, ?_⟩
  refine List.forall_mem_cons.2 ⟨Tryd.call16, ?_⟩
  refine List.forall_mem_cons.2 ⟨Tryd.call17, ?_⟩
  refine List.forall_mem_cons.2 ⟨Tryd.call18, ?_⟩
  refine List.forall_mem_cons.2 ⟨Tryd.call19, ?_⟩
  refine List.forall_mem_cons.2 ⟨Tryd.call20, ?_⟩
  refine List.forall_mem_cons.2 ⟨Tryd.call21, ?_⟩
  refine List.forall_mem_cons.2 ⟨Tryd.call22, ?_⟩
  refine List.forall_mem_cons.2 ⟨Tryd.call23, ?_⟩
  refine List.forall_mem_cons.2 ⟨Tryd.call24, ?_⟩
  refine List.forall_mem_cons.2 ⟨Tryd.call25, ?_⟩
  refine List.forall_mem_cons.2 ⟨Tryd.call26, ?_⟩
  refine List.forall_mem_cons.2 ⟨Tryd.call27, ?_⟩
  refine List.forall_mem_cons.2 ⟨Tryd.call28, ?_⟩
  refine List.forall_mem_cons.2 ⟨Tryd.call29, ?_⟩
  refine List.forall_mem_cons.2 ⟨Tryd.call30, ?_⟩
  refine List.forall_mem_cons.2 ⟨Tryd.call31, ?_⟩
  refine List.forall_mem_cons.2 ⟨Tryd.call32, ?_⟩
  refine List.forall_mem_cons.2 ⟨Tryd.call33, ?_⟩
  refine List.forall_mem_cons.2 ⟨Tryd.call34, ?_⟩
  refine List.forall_mem_cons.2 ⟨Tryd.call35, ?_⟩
  refine List.forall_mem_cons.2 ⟨Tryd.call36, ?_⟩
  refine List.forall_mem_cons.2 ⟨Tryd.call37, ?_⟩
  refine List.forall_mem_cons.2 ⟨Tryd.call38, ?_⟩
  refine List.forall_mem_cons.2 ⟨Tryd.call39, ?_⟩
  refine List.forall_mem_cons.2 ⟨Tryd.call40, ?_⟩
  refine List.forall_mem_cons.2 ⟨Tryd.call41, ?_⟩
  refine List.forall_mem_cons.2 ⟨Tryd.call42, ?_⟩
  refine List.forall_mem_cons.2 ⟨Tryd.call43, ?_⟩
  refine List.forall_mem_cons.2 ⟨Tryd.call44, ?_⟩
  refine List.forall_mem_cons.2 ⟨Tryd.call45, ?_⟩
  refine List.forall_mem_cons.2 ⟨Tryd.call49, ?_⟩
  refine List.forall_mem_cons.2 ⟨Tryd.call50, ?_⟩
  refine List.forall_mem_cons.2 ⟨Tryd.call51, ?_⟩
  refine List.forall_mem_cons.2 ⟨Tryd.call52, ?_⟩
  refine List.forall_mem_cons.2 ⟨Tryd.call53, ?_⟩
  refine List.forall_mem_cons.2 ⟨Tryd.call54, ?_⟩
  refine List.forall_mem_cons.2 ⟨Tryd.call55, ?_⟩
  refine List.forall_mem_cons.2 ⟨Tryd.call56, ?_⟩
  refine List.forall_mem_cons.2 ⟨Tryd.call57, ?_⟩
  refine List.forall_mem_cons.2 ⟨Tryd.call58, ?_⟩
  refine List.forall_mem_cons.2 ⟨Tryd.call59, ?_⟩
  refine List.forall_mem_cons.2 ⟨Tryd.call60, ?_⟩
  refine List.forall_mem_cons.2 ⟨Tryd.call61, ?_⟩
  refine List.forall_mem_cons.2 ⟨Tryd.call62, ?_⟩
  refine List.forall_mem_cons.2 ⟨Tryd.call63, ?_⟩
  refine List.forall_mem_cons.2 ⟨Tryd.call64, ?_⟩
  refine List.forall_mem_cons.2 ⟨Tryd.call65, ?_⟩
  refine List.forall_mem_cons.2 ⟨Tryd.call66, ?_⟩
  refine List.forall_mem_cons.2 ⟨Tryd.call70, ?_⟩
  refine List.forall_mem_cons.2 ⟨Tryd.call71, ?_⟩
  refine List.forall_mem_cons.2 ⟨Tryd.call72, ?_⟩
  refine List.forall_mem_cons.2 ⟨Tryd.call73, ?_⟩
  refine List.forall_mem_cons.2 ⟨Tryd.call74, ?_⟩
  refine List.forall_mem_cons.2 ⟨Tryd.call75, ?_⟩
  refine List.forall_mem_cons.2 ⟨Tryd.call76, ?_⟩
  refine List.forall_mem_cons.2 ⟨Tryd.call77, ?_⟩
  refine List.forall_mem_cons.2 ⟨Tryd.call78, ?_⟩
  refine List.forall_mem_cons.2 ⟨Tryd.call79, ?_⟩
  refine List.forall_mem_cons.2 ⟨Tryd.call80, ?_⟩
  refine List.forall_mem_cons.2 ⟨Tryd.call81, ?_⟩
  refine List.forall_mem_cons.2 ⟨Tryd.call82, ?_⟩
  refine List.forall_mem_cons.2 ⟨Tryd.call83, ?_⟩
  refine List.forall_mem_cons.2 ⟨Tryd.call84, ?_⟩
  refine List.forall_mem_cons.2 ⟨Tryd.call85, ?_⟩
  intro g hg; cases hg
end Go.Proofs.YtaoemljoiahapaaDoor
