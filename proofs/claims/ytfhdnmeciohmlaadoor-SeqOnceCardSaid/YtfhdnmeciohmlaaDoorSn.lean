/-
Names of the numbers of functions and types in this seat's translation, and that its functions with bodies are entered.
Conditions: none.
-/
import Derived.Test.YtfhdnmeciohmlaaDoorLexD
import Derived.Test.YtfhdnmeciohmlaaDoorProg
namespace Go.Proofs.YtfhdnmeciohmlaaDoor
open Go
noncomputable abbrev Pg : Program := Tryd.prog
theorem wide_mixed : Pg.follows .mixedOrders = true := by kernel_rfl
@[reducible] def fn_main_main : Nat := 0
@[reducible] def fn_gosem_cut : Nat := 1
@[reducible] def fn_gosem_cut_init : Nat := 2
@[reducible] def fn_plaitlaw04_SeqTwice : Nat := 3
@[reducible] def fn_plaitlaw04_SeqJoins : Nat := 4
@[reducible] def fn_plaitlaw04_SeqOnce : Nat := 5
@[reducible] def fn_plaitlaw04_SeqTurns : Nat := 6
@[reducible] def fn_plaitlaw04_SeqLeast : Nat := 7
@[reducible] def fn_plaitlaw04_SeqRuns : Nat := 8
@[reducible] def fn_plaitlaw04_SeqNew : Nat := 9
@[reducible] def fn_seq_New : Nat := 10
@[reducible] def fn_seq_Forest_Reverse : Nat := 11
@[reducible] def fn_seq_Forest_Join : Nat := 12
@[reducible] def fn_seq_Forest_List : Nat := 13
@[reducible] def fn_seq_Forest_Cut : Nat := 14
@[reducible] def fn_plaitlaw04_ints : Nat := 15
@[reducible] def fn_plaitlaw04_sure : Nat := 16
@[reducible] def fn_plaitlaw04_built : Nat := 17
@[reducible] def fn_seq_Forest_Sum : Nat := 18
@[reducible] def fn_seq_Forest_Same : Nat := 19
@[reducible] def fn_plaitlaw04_num : Nat := 20
@[reducible] def fn_seq_Forest_Size : Nat := 21
@[reducible] def fn_seq_Forest_Rank : Nat := 22
@[reducible] def fn_seq_Forest_At : Nat := 23
@[reducible] def fn_seq_Forest_Least : Nat := 24
@[reducible] def fn_seq_Forest_Most : Nat := 25
@[reducible] def fn_seq_Forest_Set : Nat := 26
@[reducible] def fn_plaitref04_New : Nat := 27
@[reducible] def fn_plaitref04_Cut : Nat := 28
@[reducible] def fn_plaitref04_Reverse : Nat := 29
@[reducible] def fn_plaitref04_Join : Nat := 30
@[reducible] def fn_plaitref04_Find : Nat := 31
@[reducible] def fn_plaitlaw04_told : Nat := 32
@[reducible] def fn_seq_Forest_check : Nat := 33
@[reducible] def fn_seq_Forest_lift : Nat := 34
@[reducible] def fn_seq_Forest_same : Nat := 35
@[reducible] def fn_seq_Forest_end : Nat := 36
@[reducible] def fn_seq_Forest_hang : Nat := 37
@[reducible] def fn_seq_Forest_pull : Nat := 38
@[reducible] def fn_seq_Forest_top : Nat := 39
@[reducible] def fn_seq_Forest_push : Nat := 40
@[reducible] def fn_errors_As : Nat := 41
@[reducible] def fn_seq_Forest_down : Nat := 42
@[reducible] def fn_seq_Forest_At_1 : Nat := 43
@[reducible] def fn_seq_Forest_Least_1 : Nat := 44
@[reducible] def fn_seq_Forest_Most_1 : Nat := 45
@[reducible] def fn_plaitref04_without : Nat := 46
@[reducible] def fn_plaitref04_Sum : Nat := 47
@[reducible] def fn_plaitref04_Least : Nat := 48
@[reducible] def fn_plaitref04_Most : Nat := 49
@[reducible] def fn_seq_Forest_rotate : Nat := 50
@[reducible] def fn_internal_reflectlite_ValueOf : Nat := 51
@[reducible] def fn_internal_reflectlite_Value_Type : Nat := 52
@[reducible] def fn_internal_reflectlite_Value_IsNil : Nat := 53
@[reducible] def fn_errors_as : Nat := 54
@[reducible] def fn_internal_reflectlite_TypeOf : Nat := 55
@[reducible] def fn_internal_reflectlite_Value_Elem : Nat := 56
@[reducible] def fn_internal_reflectlite_Value_Set : Nat := 57
@[reducible] def fn_runtime_boundsError_Error : Nat := 58
@[reducible] def fn_runtime_boundsError_RuntimeError : Nat := 59
@[reducible] def fn_runtime_errorString_Error : Nat := 60
@[reducible] def fn_runtime_errorString_RuntimeError : Nat := 61
@[reducible] def fn_runtime_plainError_Error : Nat := 62
@[reducible] def fn_runtime_plainError_RuntimeError : Nat := 63
@[reducible] def fn_runtime_errorAddressString_Error : Nat := 64
@[reducible] def fn_runtime_errorAddressString_RuntimeError : Nat := 65
@[reducible] def fn_runtime_TypeAssertionError_Error : Nat := 66
@[reducible] def fn_runtime_TypeAssertionError_RuntimeError : Nat := 67
@[reducible] def fn_runtime_PanicNilError_Error : Nat := 68
@[reducible] def fn_runtime_PanicNilError_RuntimeError : Nat := 69
@[reducible] def fn_internal_abi_Type_Align : Nat := 70
@[reducible] def fn_internal_abi_Type_Elem : Nat := 71
@[reducible] def fn_internal_abi_Type_Kind : Nat := 72
@[reducible] def fn_internal_runtime_maps_unhashableTypeError_Error : Nat := 73
@[reducible] def fn_internal_runtime_maps_unhashableTypeError_RuntimeError : Nat := 74
@[reducible] def fn_api_Errno_Error : Nat := 75
@[reducible] def fn_internal_reflectlite_flag_mustBeAssignable : Nat := 76
@[reducible] def fn_internal_reflectlite_Value_Kind : Nat := 77
@[reducible] def fn_internal_abi_Kind_String : Nat := 78
@[reducible] def fn_internal_abi_Type_Size : Nat := 79
@[reducible] def fn_internal_reflectlite_rtype_AssignableTo : Nat := 80
@[reducible] def fn_internal_reflectlite_rtype_Comparable : Nat := 81
@[reducible] def fn_internal_reflectlite_rtype_Elem : Nat := 82
@[reducible] def fn_internal_reflectlite_rtype_Implements : Nat := 83
@[reducible] def fn_internal_reflectlite_rtype_Name : Nat := 84
@[reducible] def fn_internal_reflectlite_rtype_PkgPath : Nat := 85
@[reducible] def fn_internal_reflectlite_rtype_String : Nat := 86
@[reducible] def fn_internal_reflectlite_rtype_common : Nat := 87
@[reducible] def fn_internal_reflectlite_rtype_uncommon : Nat := 88
@[reducible] def fn_internal_reflectlite_ValueError_Error : Nat := 89
@[reducible] def fn_internal_abi_UncommonType_ExportedMethods : Nat := 90
@[reducible] def fn_varsdoorerrors_errorTypeislaidbyitsowncallofreflectlite_TypeOfonanilpointerandElemofithandle1 : Nat := 91
@[reducible] def fn_varsdoorgosem_cut_varsholdsinitialisersaloneseethemanifestsrowcutvarswordlook11testfilestoo : Nat := 92
@[reducible] def fn_varsdoorthelookofgosem_cut_varswentoverthefolderthatthecallernamedastherepositorysrootlook11 : Nat := 93
@[reducible] def fn_gosem_cut_vars : Nat := 94
@[reducible] def T_ : Nat := 0
@[reducible] def T_func : Nat := 1
@[reducible] def T_int64 : Nat := 2
@[reducible] def T_int : Nat := 3
@[reducible] def T_bool : Nat := 4
@[reducible] def T_uint8 : Nat := 5
@[reducible] def T_abi_BoundsErrorCode : Nat := 6
@[reducible] def T_structxint64yintsignedboolcodeabi_BoundsErrorCode : Nat := 7
@[reducible] def T_runtime_boundsError : Nat := 8
@[reducible] def T_string : Nat := 9
@[reducible] def T_runtime_errorString : Nat := 10
@[reducible] def T_runtime_plainError : Nat := 11
@[reducible] def T_uintptr : Nat := 12
@[reducible] def T_structmsgstringaddruintptr : Nat := 13
@[reducible] def T_runtime_errorAddressString : Nat := 14
@[reducible] def T_p_runtime_TypeAssertionError : Nat := 15
@[reducible] def T_p_runtime_PanicNilError : Nat := 16
@[reducible] def T_p_abi_Type : Nat := 17
@[reducible] def T_structtypp_abi_Type : Nat := 18
@[reducible] def T_maps_unhashableTypeError : Nat := 19
@[reducible] def T_interface : Nat := 20
@[reducible] def T_int32 : Nat := 21
@[reducible] def T_sl_plaitlaw04_Act : Nat := 22
@[reducible] def T_uint : Nat := 23
@[reducible] def T_p_seq_Forest : Nat := 24
@[reducible] def T_interfaceErrorstring : Nat := 25
@[reducible] def T_error : Nat := 26
@[reducible] def T_p_seq_Foresterror : Nat := 27
@[reducible] def T_funcintp_seq_Foresterror : Nat := 28
@[reducible] def T_structKindintAintBintVint64 : Nat := 29
@[reducible] def T_plaitlaw04_Act : Nat := 30
@[reducible] def T_funcinterror : Nat := 31
@[reducible] def T_funcintinterror : Nat := 32
@[reducible] def T_sl_int : Nat := 33
@[reducible] def T_sl_interror : Nat := 34
@[reducible] def T_funcintsl_interror : Nat := 35
@[reducible] def T_boolerror : Nat := 36
@[reducible] def T_funcintboolerror : Nat := 37
@[reducible] def T_funcsl_intsl_intbool : Nat := 38
@[reducible] def T_funcbool : Nat := 39
@[reducible] def T_funcintsl_plaitlaw04_Actintbool : Nat := 40
@[reducible] def T__2int : Nat := 41
@[reducible] def T_funcintsl_plaitlaw04_Actp_seq_Forest : Nat := 42
@[reducible] def T_int64error : Nat := 43
@[reducible] def T_funcintint64error : Nat := 44
@[reducible] def T_funcintintboolerror : Nat := 45
@[reducible] def T_funcerrorint : Nat := 46
@[reducible] def T_interror : Nat := 47
@[reducible] def T_funcintinterror_1 : Nat := 48
@[reducible] def T_funcintsl_plaitlaw04_Act_2intbool : Nat := 49
@[reducible] def T_funcintintinterror : Nat := 50
@[reducible] def T_funcintsl_plaitlaw04_Actbool : Nat := 51
@[reducible] def T_funcintint64error_1 : Nat := 52
@[reducible] def T_sl_sl_int : Nat := 53
@[reducible] def T_funcintsl_sl_int : Nat := 54
@[reducible] def T_sl_int64 : Nat := 55
@[reducible] def T_sl_sl_intbool : Nat := 56
@[reducible] def T_funcsl_sl_intintsl_sl_intbool : Nat := 57
@[reducible] def T_funcsl_sl_intintsl_sl_int : Nat := 58
@[reducible] def T_funcsl_sl_intintintsl_sl_intbool : Nat := 59
@[reducible] def T_intint : Nat := 60
@[reducible] def T_funcsl_sl_intintintint : Nat := 61
@[reducible] def T_funcp_seq_Forestsl_sl_intsl_int64intintbool : Nat := 62
@[reducible] def T_funcintintbool : Nat := 63
@[reducible] def T_api_Errno : Nat := 64
@[reducible] def T_sl_seq_node : Nat := 65
@[reducible] def T_structlsl_seq_node : Nat := 66
@[reducible] def T_seq_Forest : Nat := 67
@[reducible] def T_structupint32leftint32rightint32turnedboolsizeint32valueint64sumint64leastint64mostint64 : Nat := 68
@[reducible] def T_seq_node : Nat := 69
@[reducible] def T_func___interror : Nat := 70
@[reducible] def T_funcint32 : Nat := 71
@[reducible] def T_funcint32int32bool : Nat := 72
@[reducible] def T_funcint32boolint32 : Nat := 73
@[reducible] def T_funcint32int32bool_1 : Nat := 74
@[reducible] def T_p_seq_node : Nat := 75
@[reducible] def T_p_seq_nodeerror : Nat := 76
@[reducible] def T_funcintp_seq_nodeerror : Nat := 77
@[reducible] def T_sl_int32 : Nat := 78
@[reducible] def T_funcerrorinterfacebool : Nat := 79
@[reducible] def T_p_api_Errno : Nat := 80
@[reducible] def T_funcint32seq_wayint : Nat := 81
@[reducible] def T_funcseq_nodeint : Nat := 82
@[reducible] def T_funcsl_sl_intintintsl_sl_int : Nat := 83
@[reducible] def T_funcsl_intsl_int64int64 : Nat := 84
@[reducible] def T_funcsl_intsl_int64int : Nat := 85
@[reducible] def T__2int32 : Nat := 86
@[reducible] def T_unsafe_Pointer : Nat := 87
@[reducible] def T_reflectlite_flag : Nat := 88
@[reducible] def T_structtyp_p_abi_Typeptrunsafe_Pointerreflectlite_flag : Nat := 89
@[reducible] def T_reflectlite_Value : Nat := 90
@[reducible] def T_funcinterfacereflectlite_Value : Nat := 91
@[reducible] def T_interfaceAssignableToreflectlite_TypeboolComparableboolElemreflectlite_TypeImplementsreflectlite_TypeboolKindabi_KindNamestringPkgPathstringSizeuintptrStringstringreflectlite_commonp_abi_Typereflectlite_uncommonp_abi_UncommonType : Nat := 92
@[reducible] def T_reflectlite_Type : Nat := 93
@[reducible] def T_funcreflectlite_Type : Nat := 94
@[reducible] def T_abi_Kind : Nat := 95
@[reducible] def T_funcabi_Kind : Nat := 96
@[reducible] def T_funcreflectlite_Typebool : Nat := 97
@[reducible] def T_funcerrorinterfacereflectlite_Valuereflectlite_Typebool : Nat := 98
@[reducible] def T_seq_way : Nat := 99
@[reducible] def T_structp_abi_Type : Nat := 100
@[reducible] def T_reflectlite_rtype : Nat := 101
@[reducible] def T_p_reflectlite_ValueError : Nat := 102
@[reducible] def T_funcinterfacereflectlite_Type : Nat := 103
@[reducible] def T_funcreflectlite_Value : Nat := 104
@[reducible] def T_funcreflectlite_Value_1 : Nat := 105
@[reducible] def T_interfaceAsinterfacebool : Nat := 106
@[reducible] def T_interfaceAsinterfaceboolbool : Nat := 107
@[reducible] def T_funcinterfacebool : Nat := 108
@[reducible] def T_interfaceUnwraperror : Nat := 109
@[reducible] def T_funcerror : Nat := 110
@[reducible] def T_interfaceUnwrapsl_error : Nat := 111
@[reducible] def T_sl_error : Nat := 112
@[reducible] def T_funcsl_error : Nat := 113
@[reducible] def T_funcstring : Nat := 114
@[reducible] def T_struct_interfacep_abi_Typeconcretep_abi_Typeassertedp_abi_TypemissingMethodstring : Nat := 115
@[reducible] def T_runtime_TypeAssertionError : Nat := 116
@[reducible] def T__0p_runtime_PanicNilError : Nat := 117
@[reducible] def T_struct__0p_runtime_PanicNilError : Nat := 118
@[reducible] def T_runtime_PanicNilError : Nat := 119
@[reducible] def T_funcint : Nat := 120
@[reducible] def T_funcp_abi_Type : Nat := 121
@[reducible] def T_uint32 : Nat := 122
@[reducible] def T_abi_TFlag : Nat := 123
@[reducible] def T_funcunsafe_Pointerunsafe_Pointerbool : Nat := 124
@[reducible] def T_p_uint8 : Nat := 125
@[reducible] def T_abi_NameOff : Nat := 126
@[reducible] def T_abi_TypeOff : Nat := 127
@[reducible] def T_structSize_uintptrPtrBytesuintptrHashuint32TFlagabi_TFlagAlign_uint8FieldAlign_uint8Kind_abi_KindEqualfuncunsafe_Pointerunsafe_PointerboolGCDatap_uint8Strabi_NameOffPtrToThisabi_TypeOff : Nat := 128
@[reducible] def T_abi_Type : Nat := 129
@[reducible] def T_funcuintptr : Nat := 130
@[reducible] def T_funcp_abi_UncommonType : Nat := 131
@[reducible] def T_structMethodstringKindabi_Kind : Nat := 132
@[reducible] def T_reflectlite_ValueError : Nat := 133
@[reducible] def T_p_abi_UncommonType : Nat := 134
@[reducible] def T_funcsl_abi_Method : Nat := 135
@[reducible] def T_uint16 : Nat := 136
@[reducible] def T_structPkgPathabi_NameOffMcountuint16Xcountuint16Moffuint32_uint32 : Nat := 137
@[reducible] def T_abi_UncommonType : Nat := 138
@[reducible] def T_sl_abi_Method : Nat := 139
@[reducible] def T_abi_TextOff : Nat := 140
@[reducible] def T_structNameabi_NameOffMtypabi_TypeOffIfnabi_TextOffTfnabi_TextOff : Nat := 141
@[reducible] def T_abi_Method : Nat := 142
@[reducible] def T_p_error : Nat := 143
def Eall : List Nat := [3, 4, 5, 6, 7, 8, 9, 10, 11, 12, 13, 14, 15, 16, 17, 18, 19, 20, 21, 22, 23, 24, 25, 26, 27, 28, 29, 30, 31, 32, 33, 34, 35, 36, 37, 38, 39, 40, 41, 42, 43, 44, 45, 46, 47, 48, 49, 50]
theorem Eall_enter : ∀ g ∈ Eall, enters Pg g := by
  unfold Eall
  refine List.forall_mem_cons.2 ⟨Tryd.call3, ?_⟩
  refine List.forall_mem_cons.2 ⟨Tryd.call4, ?_⟩
  refine List.forall_mem_cons.2 ⟨Tryd.call5, ?_⟩
  refine List.forall_mem_cons.2 ⟨Tryd.call6, ?_⟩
  refine List.forall_mem_cons.2 ⟨Tryd.call7, ?_⟩
  refine List.forall_mem_cons.2 ⟨Tryd.call8, ?_⟩
  refine List.forall_mem_cons.2 ⟨Tryd.call9, ?_⟩
  refine List.forall_mem_cons.2 ⟨Tryd.call10, ?_⟩
  refine List.forall_mem_cons.2 ⟨Tryd.call11, ?_⟩
  refine List.forall_mem_cons.2 ⟨Tryd.call12, ?_⟩
  refine List.forall_mem_cons.2 ⟨Tryd.call13, ?_⟩
  refine List.forall_mem_cons.2 ⟨Tryd.call14, ?_⟩
  refine List.forall_mem_cons.2 ⟨Tryd.call15, ?_⟩
  refine List.forall_mem_cons.2 ⟨Tryd.call16, ?_⟩
  refine List.forall_mem_cons.2 ⟨Tryd.call17, ?_⟩
  refine List.forall_mem_cons.2 ⟨Tryd.call18, ?_⟩
  refine List.forall_mem_cons.2 ⟨Tryd.call19, ?_⟩
  refine List.forall_mem_cons.2 ⟨Tryd.call20, ?_⟩
  refine List.forall_mem_cons.2 ⟨Tryd.call21, ?_⟩
  refine List.forall_mem_cons.2 ⟨Tryd.call22, ?_⟩
  refine List.forall_mem_cons.2 ⟨Tryd.call23, ?_⟩
  refine List.forall_mem_cons.2 ⟨Tryd.call24, ?_⟩
  refine List.forall_mem_cons.2 ⟨Tryd.call25, ?_⟩
  refine List.forall_mem_cons.2 ⟨Tryd.call26, ?_⟩
  refine List.forall_mem_cons.2 ⟨Tryd.call27, ?_⟩
  refine List.forall_mem_cons.2 ⟨Tryd.call28, ?_⟩
  refine List.forall_mem_cons.2 ⟨Tryd.call29, ?_⟩
  refine List.forall_mem_cons.2 ⟨Tryd.call30, ?_⟩
  refine List.forall_mem_cons.2 ⟨Tryd.call31, ?_⟩
  refine List.forall_mem_cons.2 ⟨Tryd.call32, ?_⟩
  refine List.forall_mem_cons.2 ⟨Tryd.call33, ?_⟩
  refine List.forall_mem_cons.2 ⟨Tryd.call34, ?_⟩
  refine List.forall_mem_cons.2 ⟨Tryd.call35, ?_⟩
  refine List.forall_mem_cons.2 ⟨Tryd.call36, ?_⟩
  refine List.forall_mem_cons.2 ⟨Tryd.call37, ?_⟩
  refine List.forall_mem_cons.2 ⟨Tryd.call38, ?_⟩
  refine List.forall_mem_cons.2 ⟨Tryd.call39, ?_⟩
  refine List.forall_mem_cons.2 ⟨Tryd.call40, ?_⟩
  refine List.forall_mem_cons.2 ⟨Tryd.call41, ?_⟩
  refine List.forall_mem_cons.2 ⟨Tryd.call42, ?_⟩
  refine List.forall_mem_cons.2 ⟨Tryd.call43, ?_⟩
  refine List.forall_mem_cons.2 ⟨Tryd.call44, ?_⟩
  refine List.forall_mem_cons.2 ⟨Tryd.call45, ?_⟩
  refine List.forall_mem_cons.2 ⟨Tryd.call46, ?_⟩
  refine List.forall_mem_cons.2 ⟨Tryd.call47, ?_⟩
  refine List.forall_mem_cons.2 ⟨Tryd.call48, ?_⟩
  refine List.forall_mem_cons.2 ⟨Tryd.call49, ?_⟩
  refine List.forall_mem_cons.2 ⟨Tryd.call50, ?_⟩
  intro g hg; cases hg
end Go.Proofs.YtfhdnmeciohmlaaDoor
