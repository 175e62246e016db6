/-
Names of the numbers of functions and types in this seat's translation, and that its functions with bodies are entered.
Conditions: none.
-/
import Derived.Test.YtledchlbmilneaaGLex
import Derived.Test.YtledchlbmilneaaProg
namespace Go.Proofs.Ytledchlbmilneaa
open Go
noncomputable abbrev Pg : Program := Try.prog
theorem wide_mixed : Pg.follows .mixedOrders = true := by kernel_rfl
@[reducible] def fn_main_main : Nat := 0
@[reducible] def fn_gosem_cut : Nat := 1
@[reducible] def fn_gosem_cut_init : Nat := 2
@[reducible] def fn_plaitlaw05_RingBack : Nat := 3
@[reducible] def fn_plaitlaw05_RingSteps : Nat := 4
@[reducible] def fn_ring_New : Nat := 5
@[reducible] def fn_ring_Rings_Split : Nat := 6
@[reducible] def fn_ring_Rings_Merge : Nat := 7
@[reducible] def fn_ring_Rings_Walk : Nat := 8
@[reducible] def fn_ring_Rings_Same : Nat := 9
@[reducible] def fn_plaitlaw05_sure : Nat := 10
@[reducible] def fn_plaitlaw05_ints : Nat := 11
@[reducible] def fn_ring_Rings_Len : Nat := 12
@[reducible] def fn_ring_Rings_Next : Nat := 13
@[reducible] def fn_ring_Rings_Prev : Nat := 14
@[reducible] def fn_seq_New : Nat := 15
@[reducible] def fn_ring_Rings_Turn : Nat := 16
@[reducible] def fn_seq_Forest_Cut : Nat := 17
@[reducible] def fn_seq_Forest_Join : Nat := 18
@[reducible] def fn_ring_Rings_seqs : Nat := 19
@[reducible] def fn_seq_Forest_List : Nat := 20
@[reducible] def fn_slices_Index__intint : Nat := 21
@[reducible] def fn_slices_Concat__intint : Nat := 22
@[reducible] def fn_seq_Forest_Same : Nat := 23
@[reducible] def fn_seq_Forest_Size : Nat := 24
@[reducible] def fn_ring_Rings_step : Nat := 25
@[reducible] def fn_ring_Rings_Front : Nat := 26
@[reducible] def fn_seq_Forest_check : Nat := 27
@[reducible] def fn_seq_Forest_lift : Nat := 28
@[reducible] def fn_seq_Forest_pull : Nat := 29
@[reducible] def fn_seq_Forest_same : Nat := 30
@[reducible] def fn_seq_Forest_end : Nat := 31
@[reducible] def fn_seq_Forest_hang : Nat := 32
@[reducible] def fn_seq_Forest_top : Nat := 33
@[reducible] def fn_seq_Forest_push : Nat := 34
@[reducible] def fn_slices_Grow__intint : Nat := 35
@[reducible] def fn_seq_Forest_Rank : Nat := 36
@[reducible] def fn_seq_Forest_At : Nat := 37
@[reducible] def fn_seq_Forest_rotate : Nat := 38
@[reducible] def fn_seq_Forest_down : Nat := 39
@[reducible] def fn_seq_Forest_At_1 : Nat := 40
@[reducible] def fn_runtime_boundsError_Error : Nat := 41
@[reducible] def fn_runtime_boundsError_RuntimeError : Nat := 42
@[reducible] def fn_runtime_errorString_Error : Nat := 43
@[reducible] def fn_runtime_errorString_RuntimeError : Nat := 44
@[reducible] def fn_runtime_plainError_Error : Nat := 45
@[reducible] def fn_runtime_plainError_RuntimeError : Nat := 46
@[reducible] def fn_runtime_errorAddressString_Error : Nat := 47
@[reducible] def fn_runtime_errorAddressString_RuntimeError : Nat := 48
@[reducible] def fn_runtime_TypeAssertionError_Error : Nat := 49
@[reducible] def fn_runtime_TypeAssertionError_RuntimeError : Nat := 50
@[reducible] def fn_runtime_PanicNilError_Error : Nat := 51
@[reducible] def fn_runtime_PanicNilError_RuntimeError : Nat := 52
@[reducible] def fn_internal_abi_Type_Align : Nat := 53
@[reducible] def fn_internal_runtime_maps_unhashableTypeError_Error : Nat := 54
@[reducible] def fn_internal_runtime_maps_unhashableTypeError_RuntimeError : Nat := 55
@[reducible] def fn_api_Errno_Error : Nat := 56
@[reducible] def fn_internal_abi_Kind_String : Nat := 57
@[reducible] def T_ : Nat := 0
@[reducible] def T_func : Nat := 1
@[reducible] def T_int64 : Nat := 2
@[reducible] def T_int : Nat := 3
@[reducible] def T_bool : Nat := 4
@[reducible] def T_uint8 : Nat := 5
@[reducible] def T_abi_BoundsErrorCode : Nat := 6
@[reducible] def T_structxint64yintsignedboolcodeabi_BoundsErrorCode : Nat := 7
@[reducible] def T_runtime_boundsError : Nat := 8
@[reducible] def T_string : Nat := 9
@[reducible] def T_runtime_errorString : Nat := 10
@[reducible] def T_runtime_plainError : Nat := 11
@[reducible] def T_uintptr : Nat := 12
@[reducible] def T_structmsgstringaddruintptr : Nat := 13
@[reducible] def T_runtime_errorAddressString : Nat := 14
@[reducible] def T_p_runtime_TypeAssertionError : Nat := 15
@[reducible] def T_p_runtime_PanicNilError : Nat := 16
@[reducible] def T_p_abi_Type : Nat := 17
@[reducible] def T_structtypp_abi_Type : Nat := 18
@[reducible] def T_maps_unhashableTypeError : Nat := 19
@[reducible] def T_interface : Nat := 20
@[reducible] def T_int32 : Nat := 21
@[reducible] def T_sl_plaitlaw05_Act : Nat := 22
@[reducible] def T__2int : Nat := 23
@[reducible] def T_uint : Nat := 24
@[reducible] def T_p_ring_Rings : Nat := 25
@[reducible] def T_interfaceErrorstring : Nat := 26
@[reducible] def T_error : Nat := 27
@[reducible] def T_p_ring_Ringserror : Nat := 28
@[reducible] def T_funcintp_ring_Ringserror : Nat := 29
@[reducible] def T_structKindintAintBint : Nat := 30
@[reducible] def T_plaitlaw05_Act : Nat := 31
@[reducible] def T_funcintinterror : Nat := 32
@[reducible] def T_sl_int : Nat := 33
@[reducible] def T_sl_interror : Nat := 34
@[reducible] def T_funcintsl_interror : Nat := 35
@[reducible] def T_boolerror : Nat := 36
@[reducible] def T_funcintintboolerror : Nat := 37
@[reducible] def T_funcbool : Nat := 38
@[reducible] def T_funcsl_intsl_intbool : Nat := 39
@[reducible] def T_funcintsl_plaitlaw05_Act_2intbool : Nat := 40
@[reducible] def T_interror : Nat := 41
@[reducible] def T_funcintinterror_1 : Nat := 42
@[reducible] def T_funcintsl_plaitlaw05_Actintbool : Nat := 43
@[reducible] def T_p_seq_Forest : Nat := 44
@[reducible] def T_p_seq_Foresterror : Nat := 45
@[reducible] def T_funcintp_seq_Foresterror : Nat := 46
@[reducible] def T_structfp_seq_Forest : Nat := 47
@[reducible] def T_ring_Rings : Nat := 48
@[reducible] def T_api_Errno : Nat := 49
@[reducible] def T_funcinterror : Nat := 50
@[reducible] def T_funcintboolerror : Nat := 51
@[reducible] def T_funcp_seq_Forest : Nat := 52
@[reducible] def T_funcsl_intintint : Nat := 53
@[reducible] def T_func___sl_intsl_int : Nat := 54
@[reducible] def T_funcintintinterror : Nat := 55
@[reducible] def T_sl_seq_node : Nat := 56
@[reducible] def T_structlsl_seq_node : Nat := 57
@[reducible] def T_seq_Forest : Nat := 58
@[reducible] def T_structupint32leftint32rightint32turnedboolsizeint32valueint64sumint64leastint64mostint64 : Nat := 59
@[reducible] def T_seq_node : Nat := 60
@[reducible] def T_func___interror : Nat := 61
@[reducible] def T_funcint32 : Nat := 62
@[reducible] def T_funcint32int32bool : Nat := 63
@[reducible] def T_funcint32boolint32 : Nat := 64
@[reducible] def T_funcint32int32bool_1 : Nat := 65
@[reducible] def T_p_seq_node : Nat := 66
@[reducible] def T_p_seq_nodeerror : Nat := 67
@[reducible] def T_funcintp_seq_nodeerror : Nat := 68
@[reducible] def T_sl_int32 : Nat := 69
@[reducible] def T_sl_sl_int : Nat := 70
@[reducible] def T_funcsl_intintsl_int : Nat := 71
@[reducible] def T__2int32 : Nat := 72
@[reducible] def T_funcint32seq_wayint : Nat := 73
@[reducible] def T_funcseq_nodeint : Nat := 74
@[reducible] def T_seq_way : Nat := 75
@[reducible] def T_funcstring : Nat := 76
@[reducible] def T_struct_interfacep_abi_Typeconcretep_abi_Typeassertedp_abi_TypemissingMethodstring : Nat := 77
@[reducible] def T_runtime_TypeAssertionError : Nat := 78
@[reducible] def T__0p_runtime_PanicNilError : Nat := 79
@[reducible] def T_struct__0p_runtime_PanicNilError : Nat := 80
@[reducible] def T_runtime_PanicNilError : Nat := 81
@[reducible] def T_funcint : Nat := 82
@[reducible] def T_uint32 : Nat := 83
@[reducible] def T_abi_TFlag : Nat := 84
@[reducible] def T_abi_Kind : Nat := 85
@[reducible] def T_funcunsafe_Pointerunsafe_Pointerbool : Nat := 86
@[reducible] def T_p_uint8 : Nat := 87
@[reducible] def T_abi_NameOff : Nat := 88
@[reducible] def T_abi_TypeOff : Nat := 89
@[reducible] def T_structSize_uintptrPtrBytesuintptrHashuint32TFlagabi_TFlagAlign_uint8FieldAlign_uint8Kind_abi_KindEqualfuncunsafe_Pointerunsafe_PointerboolGCDatap_uint8Strabi_NameOffPtrToThisabi_TypeOff : Nat := 90
@[reducible] def T_abi_Type : Nat := 91
@[reducible] def T_unsafe_Pointer : Nat := 92
def Eall : List Nat := [3, 4, 5, 6, 7, 8, 9, 10, 11, 12, 13, 14, 15, 16, 17, 18, 19, 20, 21, 22, 23, 24, 25, 26, 27, 28, 29, 30, 31, 32, 33, 34, 35, 36, 37, 38, 39, 40]
theorem Eall_enter : ∀ g ∈ Eall, enters Pg g := by
  unfold Eall
  refine List.forall_mem_cons.2 ⟨Try.call3, ?_⟩
  refine List.forall_mem_cons.2 ⟨Try.call4, ?_⟩
  refine List.forall_mem_cons.2 ⟨Try.call5, ?_⟩
  refine List.forall_mem_cons.2 ⟨Try.call6, ?_⟩
  refine List.forall_mem_cons.2 ⟨Try.call7, ?_⟩
  refine List.forall_mem_cons.2 ⟨Try.call8, ?_⟩
  refine List.forall_mem_cons.2 ⟨Try.call9, ?_⟩
  refine List.forall_mem_cons.2 ⟨Try.call10, ?_⟩
  refine List.forall_mem_cons.2 ⟨Try.call11, ?_⟩
  refine List.forall_mem_cons.2 ⟨Try.call12, ?_⟩
  refine List.forall_mem_cons.2 ⟨Try.call13, ?_⟩
  refine List.forall_mem_cons.2 ⟨Try.call14, ?_⟩
  refine List.forall_mem_cons.2 ⟨Try.call15, ?_⟩
  refine List.forall_mem_cons.2 ⟨Try.call16, ?_⟩
  refine List.forall_mem_cons.2 ⟨Try.call17, ?_⟩
  refine List.forall_mem_cons.2 ⟨Try.call18, ?_⟩
  refine List.forall_mem_cons.2 ⟨Try.call19, ?_⟩
  refine List.forall_mem_cons.2 ⟨Try.call20, ?_⟩
  refine List.forall_mem_cons.2 ⟨Try.call21, ?_⟩
  refine List.forall_mem_cons.2 ⟨Try.call22, ?_⟩
  refine List.forall_mem_cons.2 ⟨Try.call23, ?_⟩
  refine List.forall_mem_cons.2 ⟨Try.call24, ?_⟩
  refine List.forall_mem_cons.2 ⟨Try.call25, ?_⟩
  refine List.forall_mem_cons.2 ⟨Try.call26, ?_⟩
  refine List.forall_mem_cons.2 ⟨Try.call27, ?_⟩
  refine List.forall_mem_cons.2 ⟨Try.call28, ?_⟩
  refine List.forall_mem_cons.2 ⟨Try.call29, ?_⟩
  refine List.forall_mem_cons.2 ⟨Try.call30, ?_⟩
  refine List.forall_mem_cons.2 ⟨Try.call31, ?_⟩
  refine List.forall_mem_cons.2 ⟨Try.call32, ?_⟩
  refine List.forall_mem_cons.2 ⟨Try.call33, ?_⟩
  refine List.forall_mem_cons.2 ⟨Try.call34, ?_⟩
  refine List.forall_mem_cons.2 ⟨Try.call35, ?_⟩
  refine List.forall_mem_cons.2 ⟨Try.call36, ?_⟩
  refine List.forall_mem_cons.2 ⟨Try.call37, ?_⟩
  refine List.forall_mem_cons.2 ⟨Try.call38, ?_⟩
  refine List.forall_mem_cons.2 ⟨Try.call39, ?_⟩
  refine List.forall_mem_cons.2 ⟨Try.call40, ?_⟩
  intro g hg; cases hg
end Go.Proofs.Ytledchlbmilneaa
