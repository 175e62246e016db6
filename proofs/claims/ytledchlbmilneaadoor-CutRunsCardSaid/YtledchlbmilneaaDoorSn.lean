/-
Names of the numbers of functions and types in this seat's translation, and that its functions with bodies are entered.
Conditions: none.
-/
import Derived.Test.YtledchlbmilneaaDoorGLex
import Derived.Test.YtledchlbmilneaaDoorProg
namespace Go.Proofs.YtledchlbmilneaaDoor
open Go
noncomputable abbrev Pg : Program := Tryd.prog
theorem wide_mixed : Pg.follows .mixedOrders = true := by kernel_rfl
@[reducible] def fn_main_main : Nat := 0
@[reducible] def fn_gosem_cut : Nat := 1
@[reducible] def fn_gosem_cut_init : Nat := 2
@[reducible] def fn_plaitlaw04_SeqRuns : Nat := 3
@[reducible] def fn_plaitlaw05_RingAparts : Nat := 4
@[reducible] def fn_plaitlaw05_RingMerges : Nat := 5
@[reducible] def fn_plaitlaw05_RingNew : Nat := 6
@[reducible] def fn_plaitlaw05_RingRuns : Nat := 7
@[reducible] def fn_plaitlaw05_RingSplits : Nat := 8
@[reducible] def fn_plaitlaw06_CutBack : Nat := 9
@[reducible] def fn_plaitlaw06_CutCuts : Nat := 10
@[reducible] def fn_plaitlaw06_CutLinks : Nat := 11
@[reducible] def fn_plaitlaw06_CutNew : Nat := 12
@[reducible] def fn_plaitlaw06_CutRuns : Nat := 13
@[reducible] def fn_plaitlaw06_CutSums : Nat := 14
@[reducible] def fn_plaitlaw06_CutTurned : Nat := 15
@[reducible] def fn_plaitlaw14_WebNew : Nat := 16
@[reducible] def fn_seq_New : Nat := 17
@[reducible] def fn_plaitref04_New : Nat := 18
@[reducible] def fn_seq_Forest_Same : Nat := 19
@[reducible] def fn_plaitlaw04_num : Nat := 20
@[reducible] def fn_seq_Forest_Join : Nat := 21
@[reducible] def fn_seq_Forest_Cut : Nat := 22
@[reducible] def fn_plaitref04_Cut : Nat := 23
@[reducible] def fn_plaitref04_Reverse : Nat := 24
@[reducible] def fn_seq_Forest_Reverse : Nat := 25
@[reducible] def fn_seq_Forest_Set : Nat := 26
@[reducible] def fn_plaitref04_Join : Nat := 27
@[reducible] def fn_plaitref04_Find : Nat := 28
@[reducible] def fn_plaitlaw04_told : Nat := 29
@[reducible] def fn_plaitlaw04_sure : Nat := 30
@[reducible] def fn_plaitlaw05_turned : Nat := 31
@[reducible] def fn_ring_Rings_Walk : Nat := 32
@[reducible] def fn_ring_Rings_Apart : Nat := 33
@[reducible] def fn_plaitlaw05_ints : Nat := 34
@[reducible] def fn_plaitlaw05_num : Nat := 35
@[reducible] def fn_plaitlaw05_sure : Nat := 36
@[reducible] def fn_ring_Rings_Same : Nat := 37
@[reducible] def fn_ring_Rings_Merge : Nat := 38
@[reducible] def fn_ring_Rings_Front : Nat := 39
@[reducible] def fn_ring_Rings_Next : Nat := 40
@[reducible] def fn_ring_Rings_Split : Nat := 41
@[reducible] def fn_ring_Rings_Turn : Nat := 42
@[reducible] def fn_ring_New : Nat := 43
@[reducible] def fn_ring_Rings_Len : Nat := 44
@[reducible] def fn_ring_Rings_Prev : Nat := 45
@[reducible] def fn_plaitref05_Split : Nat := 46
@[reducible] def fn_plaitref05_Apart : Nat := 47
@[reducible] def fn_plaitref05_Turn : Nat := 48
@[reducible] def fn_plaitref05_Merge : Nat := 49
@[reducible] def fn_plaitlaw05_told : Nat := 50
@[reducible] def fn_cut_New : Nat := 51
@[reducible] def fn_cut_Forest_Link : Nat := 52
@[reducible] def fn_cut_Forest_Road : Nat := 53
@[reducible] def fn_cut_Forest_Cut : Nat := 54
@[reducible] def fn_cut_Forest_Same : Nat := 55
@[reducible] def fn_plaitlaw06_ints : Nat := 56
@[reducible] def fn_plaitlaw06_sure : Nat := 57
@[reducible] def fn_plaitlaw06_grown : Nat := 58
@[reducible] def fn_plaitlaw06_num : Nat := 59
@[reducible] def fn_cut_Forest_Len : Nat := 60
@[reducible] def fn_cut_Forest_Near : Nat := 61
@[reducible] def fn_cut_Forest_Least : Nat := 62
@[reducible] def fn_cut_Forest_Set : Nat := 63
@[reducible] def fn_cut_Forest_Sum : Nat := 64
@[reducible] def fn_cut_Forest_Most : Nat := 65
@[reducible] def fn_plaitref06_Find : Nat := 66
@[reducible] def fn_plaitref06_Without : Nat := 67
@[reducible] def fn_plaitref06_Road : Nat := 68
@[reducible] def fn_plaitlaw06_told : Nat := 69
@[reducible] def fn_plaitref04_Sum : Nat := 70
@[reducible] def fn_plaitref04_Least : Nat := 71
@[reducible] def fn_plaitref04_Most : Nat := 72
@[reducible] def fn_web_Web_Same : Nat := 73
@[reducible] def fn_web_Web_Linked : Nat := 74
@[reducible] def fn_web_Web_Weakest : Nat := 75
@[reducible] def fn_web_Web_Walk : Nat := 76
@[reducible] def fn_plaitlaw14_num : Nat := 77
@[reducible] def fn_web_Web_Split : Nat := 78
@[reducible] def fn_web_Web_Merge : Nat := 79
@[reducible] def fn_web_Web_Apart : Nat := 80
@[reducible] def fn_web_Web_Tie : Nat := 81
@[reducible] def fn_web_Web_Untie : Nat := 82
@[reducible] def fn_web_Web_Tied : Nat := 83
@[reducible] def fn_plaitlaw14_sure : Nat := 84
@[reducible] def fn_web_New : Nat := 85
@[reducible] def fn_plaitlaw14_ints : Nat := 86
@[reducible] def fn_seq_Forest_check : Nat := 87
@[reducible] def fn_seq_Forest_same : Nat := 88
@[reducible] def fn_errors_As : Nat := 89
@[reducible] def fn_seq_Forest_end : Nat := 90
@[reducible] def fn_seq_Forest_lift : Nat := 91
@[reducible] def fn_seq_Forest_hang : Nat := 92
@[reducible] def fn_seq_Forest_pull : Nat := 93
@[reducible] def fn_plaitref04_without : Nat := 94
@[reducible] def fn_seq_Forest_Rank : Nat := 95
@[reducible] def fn_seq_Forest_Size : Nat := 96
@[reducible] def fn_seq_Forest_Sum : Nat := 97
@[reducible] def fn_seq_Forest_Least : Nat := 98
@[reducible] def fn_seq_Forest_Most : Nat := 99
@[reducible] def fn_seq_Forest_At : Nat := 100
@[reducible] def fn_seq_Forest_List : Nat := 101
@[reducible] def fn_plaitlaw04_ints : Nat := 102
@[reducible] def fn_ring_Rings_seqs : Nat := 103
@[reducible] def fn_slices_Index__intint : Nat := 104
@[reducible] def fn_slices_Concat__intint : Nat := 105
@[reducible] def fn_ring_Rings_step : Nat := 106
@[reducible] def fn_plaitref05_from : Nat := 107
@[reducible] def fn_plaitref05_without : Nat := 108
@[reducible] def fn_plaitref05_Walk : Nat := 109
@[reducible] def fn_cut_Forest_check : Nat := 110
@[reducible] def fn_cut_Forest_same : Nat := 111
@[reducible] def fn_cut_Forest_root : Nat := 112
@[reducible] def fn_cut_Forest_road : Nat := 113
@[reducible] def fn_cut_Forest_push : Nat := 114
@[reducible] def fn_cut_Forest_near : Nat := 115
@[reducible] def fn_cut_Forest_pull : Nat := 116
@[reducible] def fn_cut_Forest_first : Nat := 117
@[reducible] def fn_cut_Forest_Least_1 : Nat := 118
@[reducible] def fn_cut_Forest_access : Nat := 119
@[reducible] def fn_cut_Forest_Most_1 : Nat := 120
@[reducible] def fn_web_Web_faces : Nat := 121
@[reducible] def fn_web_Web_two : Nat := 122
@[reducible] def fn_web_Web_turn : Nat := 123
@[reducible] def fn_web_Web_check : Nat := 124
@[reducible] def fn_internal_reflectlite_ValueOf : Nat := 125
@[reducible] def fn_internal_reflectlite_Value_Type : Nat := 126
@[reducible] def fn_internal_reflectlite_Value_IsNil : Nat := 127
@[reducible] def fn_errors_as : Nat := 128
@[reducible] def fn_seq_Forest_push : Nat := 129
@[reducible] def fn_seq_Forest_rotate : Nat := 130
@[reducible] def fn_seq_Forest_top : Nat := 131
@[reducible] def fn_seq_Forest_down : Nat := 132
@[reducible] def fn_seq_Forest_Least_1 : Nat := 133
@[reducible] def fn_seq_Forest_Most_1 : Nat := 134
@[reducible] def fn_seq_Forest_At_1 : Nat := 135
@[reducible] def fn_slices_Grow__intint : Nat := 136
@[reducible] def fn_cut_Forest_lift : Nat := 137
@[reducible] def fn_internal_reflectlite_TypeOf : Nat := 138
@[reducible] def fn_internal_reflectlite_Value_Elem : Nat := 139
@[reducible] def fn_internal_reflectlite_Value_Set : Nat := 140
@[reducible] def fn_cut_Forest_top : Nat := 141
@[reducible] def fn_slices_Backward__int32int32 : Nat := 142
@[reducible] def fn_cut_Forest_side : Nat := 143
@[reducible] def fn_cut_Forest_rotate : Nat := 144
@[reducible] def fn_slices_Backward__int32int32_1 : Nat := 145
@[reducible] def fn_runtime_boundsError_Error : Nat := 146
@[reducible] def fn_runtime_boundsError_RuntimeError : Nat := 147
@[reducible] def fn_runtime_errorString_Error : Nat := 148
@[reducible] def fn_runtime_errorString_RuntimeError : Nat := 149
@[reducible] def fn_runtime_plainError_Error : Nat := 150
@[reducible] def fn_runtime_plainError_RuntimeError : Nat := 151
@[reducible] def fn_runtime_errorAddressString_Error : Nat := 152
@[reducible] def fn_runtime_errorAddressString_RuntimeError : Nat := 153
@[reducible] def fn_runtime_TypeAssertionError_Error : Nat := 154
@[reducible] def fn_runtime_TypeAssertionError_RuntimeError : Nat := 155
@[reducible] def fn_runtime_PanicNilError_Error : Nat := 156
@[reducible] def fn_runtime_PanicNilError_RuntimeError : Nat := 157
@[reducible] def fn_internal_abi_Type_Align : Nat := 158
@[reducible] def fn_internal_abi_Type_Elem : Nat := 159
@[reducible] def fn_internal_abi_Type_Kind : Nat := 160
@[reducible] def fn_internal_runtime_maps_unhashableTypeError_Error : Nat := 161
@[reducible] def fn_internal_runtime_maps_unhashableTypeError_RuntimeError : Nat := 162
@[reducible] def fn_api_Errno_Error : Nat := 163
@[reducible] def fn_internal_reflectlite_flag_mustBeAssignable : Nat := 164
@[reducible] def fn_internal_reflectlite_Value_Kind : Nat := 165
@[reducible] def fn_internal_abi_Kind_String : Nat := 166
@[reducible] def fn_internal_abi_Type_Size : Nat := 167
@[reducible] def fn_internal_reflectlite_rtype_AssignableTo : Nat := 168
@[reducible] def fn_internal_reflectlite_rtype_Comparable : Nat := 169
@[reducible] def fn_internal_reflectlite_rtype_Elem : Nat := 170
@[reducible] def fn_internal_reflectlite_rtype_Implements : Nat := 171
@[reducible] def fn_internal_reflectlite_rtype_Name : Nat := 172
@[reducible] def fn_internal_reflectlite_rtype_PkgPath : Nat := 173
@[reducible] def fn_internal_reflectlite_rtype_String : Nat := 174
@[reducible] def fn_internal_reflectlite_rtype_common : Nat := 175
@[reducible] def fn_internal_reflectlite_rtype_uncommon : Nat := 176
@[reducible] def fn_internal_reflectlite_ValueError_Error : Nat := 177
@[reducible] def fn_internal_abi_UncommonType_ExportedMethods : Nat := 178
@[reducible] def fn_varsdoorerrors_errorTypeislaidbyitsowncallofreflectlite_TypeOfonanilpointerandElemofithandle1 : Nat := 179
@[reducible] def fn_varsdoorgosem_cut_varsholdsinitialisersaloneseethemanifestsrowcutvarswordlook11testfilestoo : Nat := 180
@[reducible] def fn_varsdoorthelookofgosem_cut_varswentoverthefolderthatthecallernamedastherepositorysrootlook11 : Nat := 181
@[reducible] def fn_gosem_cut_vars : Nat := 182
@[reducible] def T_ : Nat := 0
@[reducible] def T_func : Nat := 1
@[reducible] def T_int64 : Nat := 2
@[reducible] def T_int : Nat := 3
@[reducible] def T_bool : Nat := 4
@[reducible] def T_uint8 : Nat := 5
@[reducible] def T_abi_BoundsErrorCode : Nat := 6
@[reducible] def T_structxint64yintsignedboolcodeabi_BoundsErrorCode : Nat := 7
@[reducible] def T_runtime_boundsError : Nat := 8
@[reducible] def T_string : Nat := 9
@[reducible] def T_runtime_errorString : Nat := 10
@[reducible] def T_runtime_plainError : Nat := 11
@[reducible] def T_uintptr : Nat := 12
@[reducible] def T_structmsgstringaddruintptr : Nat := 13
@[reducible] def T_runtime_errorAddressString : Nat := 14
@[reducible] def T_p_runtime_TypeAssertionError : Nat := 15
@[reducible] def T_p_runtime_PanicNilError : Nat := 16
@[reducible] def T_p_abi_Type : Nat := 17
@[reducible] def T_structtypp_abi_Type : Nat := 18
@[reducible] def T_maps_unhashableTypeError : Nat := 19
@[reducible] def T_interface : Nat := 20
@[reducible] def T_int32 : Nat := 21
@[reducible] def T_sl_plaitlaw04_Act : Nat := 22
@[reducible] def T_uint : Nat := 23
@[reducible] def T_p_seq_Forest : Nat := 24
@[reducible] def T_interfaceErrorstring : Nat := 25
@[reducible] def T_error : Nat := 26
@[reducible] def T_p_seq_Foresterror : Nat := 27
@[reducible] def T_funcintp_seq_Foresterror : Nat := 28
@[reducible] def T_sl_sl_int : Nat := 29
@[reducible] def T_funcintsl_sl_int : Nat := 30
@[reducible] def T_sl_int64 : Nat := 31
@[reducible] def T_structKindintAintBintVint64 : Nat := 32
@[reducible] def T_plaitlaw04_Act : Nat := 33
@[reducible] def T_boolerror : Nat := 34
@[reducible] def T_funcintintboolerror : Nat := 35
@[reducible] def T_funcerrorint : Nat := 36
@[reducible] def T_funcintinterror : Nat := 37
@[reducible] def T_funcintboolerror : Nat := 38
@[reducible] def T_sl_sl_intbool : Nat := 39
@[reducible] def T_funcsl_sl_intintsl_sl_intbool : Nat := 40
@[reducible] def T_funcsl_sl_intintsl_sl_int : Nat := 41
@[reducible] def T_funcinterror : Nat := 42
@[reducible] def T_funcintint64error : Nat := 43
@[reducible] def T_funcsl_sl_intintintsl_sl_intbool : Nat := 44
@[reducible] def T_intint : Nat := 45
@[reducible] def T_funcsl_sl_intintintint : Nat := 46
@[reducible] def T_funcp_seq_Forestsl_sl_intsl_int64intintbool : Nat := 47
@[reducible] def T_funcbool : Nat := 48
@[reducible] def T_funcintsl_plaitlaw04_Actbool : Nat := 49
@[reducible] def T_sl_plaitlaw05_Act : Nat := 50
@[reducible] def T_p_ring_Rings : Nat := 51
@[reducible] def T_funcintsl_plaitlaw05_Actp_ring_Rings : Nat := 52
@[reducible] def T_sl_int : Nat := 53
@[reducible] def T_sl_interror : Nat := 54
@[reducible] def T_funcintsl_interror : Nat := 55
@[reducible] def T_funcsl_intsl_intbool : Nat := 56
@[reducible] def T_funcintsl_plaitlaw05_Actintbool : Nat := 57
@[reducible] def T__2int : Nat := 58
@[reducible] def T_interror : Nat := 59
@[reducible] def T_funcintinterror_1 : Nat := 60
@[reducible] def T_funcintsl_plaitlaw05_Act_2intbool : Nat := 61
@[reducible] def T_p_ring_Ringserror : Nat := 62
@[reducible] def T_funcintp_ring_Ringserror : Nat := 63
@[reducible] def T_funcintintbool : Nat := 64
@[reducible] def T_structKindintAintBint : Nat := 65
@[reducible] def T_plaitlaw05_Act : Nat := 66
@[reducible] def T_sl_sl_intint : Nat := 67
@[reducible] def T_funcsl_sl_intintintsl_sl_intint : Nat := 68
@[reducible] def T_funcsl_sl_intintsl_sl_intint : Nat := 69
@[reducible] def T_funcp_ring_Ringssl_sl_intintbool : Nat := 70
@[reducible] def T_funcintsl_plaitlaw05_Actbool : Nat := 71
@[reducible] def T_sl_plaitlaw06_Act : Nat := 72
@[reducible] def T_p_cut_Forest : Nat := 73
@[reducible] def T_p_cut_Foresterror : Nat := 74
@[reducible] def T_funcintp_cut_Foresterror : Nat := 75
@[reducible] def T_plaitlaw06_Act : Nat := 76
@[reducible] def T_funcintintsl_interror : Nat := 77
@[reducible] def T_funcintsl_plaitlaw06_Act_2intbool : Nat := 78
@[reducible] def T__3int : Nat := 79
@[reducible] def T_p_cut_Forestsl_int64 : Nat := 80
@[reducible] def T_funcintsl_plaitlaw06_Actp_cut_Forestsl_int64 : Nat := 81
@[reducible] def T_funcintsl_plaitlaw06_Act_3intbool : Nat := 82
@[reducible] def T_funcintintinterror : Nat := 83
@[reducible] def T_int64error : Nat := 84
@[reducible] def T_funcintintint64error : Nat := 85
@[reducible] def T_sl__2int : Nat := 86
@[reducible] def T_funcsl__2intintintint : Nat := 87
@[reducible] def T_funcsl__2intintsl__2int : Nat := 88
@[reducible] def T_funcintsl__2intintintsl_int : Nat := 89
@[reducible] def T_funcp_cut_Forestsl_intsl_int64intintbool : Nat := 90
@[reducible] def T_funcintsl_plaitlaw06_Actbool : Nat := 91
@[reducible] def T_funcsl_intsl_int64int64 : Nat := 92
@[reducible] def T_funcsl_intsl_int64int : Nat := 93
@[reducible] def T_p_web_Web : Nat := 94
@[reducible] def T_funcintintintint64error : Nat := 95
@[reducible] def T_funcintbool : Nat := 96
@[reducible] def T_p_web_Weberror : Nat := 97
@[reducible] def T_funcintintp_web_Weberror : Nat := 98
@[reducible] def T_api_Errno : Nat := 99
@[reducible] def T_sl_seq_node : Nat := 100
@[reducible] def T_structlsl_seq_node : Nat := 101
@[reducible] def T_seq_Forest : Nat := 102
@[reducible] def T_structupint32leftint32rightint32turnedboolsizeint32valueint64sumint64leastint64mostint64 : Nat := 103
@[reducible] def T_seq_node : Nat := 104
@[reducible] def T_func___interror : Nat := 105
@[reducible] def T_funcint32int32bool : Nat := 106
@[reducible] def T_funcerrorinterfacebool : Nat := 107
@[reducible] def T_p_api_Errno : Nat := 108
@[reducible] def T_funcint32boolint32 : Nat := 109
@[reducible] def T_funcint32 : Nat := 110
@[reducible] def T_funcint32int32bool_1 : Nat := 111
@[reducible] def T_funcsl_sl_intintintsl_sl_int : Nat := 112
@[reducible] def T_funcintint64error_1 : Nat := 113
@[reducible] def T_funcp_seq_Forest : Nat := 114
@[reducible] def T_funcsl_intintint : Nat := 115
@[reducible] def T_func___sl_intsl_int : Nat := 116
@[reducible] def T_structfp_seq_Forest : Nat := 117
@[reducible] def T_ring_Rings : Nat := 118
@[reducible] def T_funcsl_intintsl_int : Nat := 119
@[reducible] def T_funcsl_sl_intintsl_int : Nat := 120
@[reducible] def T_sl_cut_node : Nat := 121
@[reducible] def T_structlsl_cut_node : Nat := 122
@[reducible] def T_cut_Forest : Nat := 123
@[reducible] def T__2int32 : Nat := 124
@[reducible] def T_structupint32down_2int32turnedboolsizeint32valueint64sumint64leastint64mostint64 : Nat := 125
@[reducible] def T_cut_node : Nat := 126
@[reducible] def T_p_cut_node : Nat := 127
@[reducible] def T_p_cut_nodeerror : Nat := 128
@[reducible] def T_funcintintp_cut_nodeerror : Nat := 129
@[reducible] def T_sl_int32 : Nat := 130
@[reducible] def T_funcint32int64funccut_nodeboolint : Nat := 131
@[reducible] def T_funccut_nodebool : Nat := 132
@[reducible] def T_funcp_ring_Rings : Nat := 133
@[reducible] def T_sl__2int32 : Nat := 134
@[reducible] def T_structringsp_ring_Ringstreep_cut_Forestitemsintendssl__2int32 : Nat := 135
@[reducible] def T_web_Web : Nat := 136
@[reducible] def T_unsafe_Pointer : Nat := 137
@[reducible] def T_reflectlite_flag : Nat := 138
@[reducible] def T_structtyp_p_abi_Typeptrunsafe_Pointerreflectlite_flag : Nat := 139
@[reducible] def T_reflectlite_Value : Nat := 140
@[reducible] def T_funcinterfacereflectlite_Value : Nat := 141
@[reducible] def T_interfaceAssignableToreflectlite_TypeboolComparableboolElemreflectlite_TypeImplementsreflectlite_TypeboolKindabi_KindNamestringPkgPathstringSizeuintptrStringstringreflectlite_commonp_abi_Typereflectlite_uncommonp_abi_UncommonType : Nat := 142
@[reducible] def T_reflectlite_Type : Nat := 143
@[reducible] def T_funcreflectlite_Type : Nat := 144
@[reducible] def T_abi_Kind : Nat := 145
@[reducible] def T_funcabi_Kind : Nat := 146
@[reducible] def T_funcreflectlite_Typebool : Nat := 147
@[reducible] def T_funcerrorinterfacereflectlite_Valuereflectlite_Typebool : Nat := 148
@[reducible] def T_p_seq_node : Nat := 149
@[reducible] def T_p_seq_nodeerror : Nat := 150
@[reducible] def T_funcintp_seq_nodeerror : Nat := 151
@[reducible] def T_funcint32seq_wayint : Nat := 152
@[reducible] def T_funcseq_nodeint : Nat := 153
@[reducible] def T_structp_abi_Type : Nat := 154
@[reducible] def T_reflectlite_rtype : Nat := 155
@[reducible] def T_p_reflectlite_ValueError : Nat := 156
@[reducible] def T_funcinterfacereflectlite_Type : Nat := 157
@[reducible] def T_funcreflectlite_Value : Nat := 158
@[reducible] def T_funcreflectlite_Value_1 : Nat := 159
@[reducible] def T_interfaceAsinterfacebool : Nat := 160
@[reducible] def T_interfaceAsinterfaceboolbool : Nat := 161
@[reducible] def T_funcinterfacebool : Nat := 162
@[reducible] def T_interfaceUnwraperror : Nat := 163
@[reducible] def T_funcerror : Nat := 164
@[reducible] def T_interfaceUnwrapsl_error : Nat := 165
@[reducible] def T_sl_error : Nat := 166
@[reducible] def T_funcsl_error : Nat := 167
@[reducible] def T_seq_way : Nat := 168
@[reducible] def T_funcint32bool : Nat := 169
@[reducible] def T_funcfuncintint32bool : Nat := 170
@[reducible] def T_iter_Seq2_intint32 : Nat := 171
@[reducible] def T_funcsl_int32iter_Seq2_intint32 : Nat := 172
@[reducible] def T_funcint32int : Nat := 173
@[reducible] def T_funcintint32bool : Nat := 174
@[reducible] def T_funcstring : Nat := 175
@[reducible] def T_struct_interfacep_abi_Typeconcretep_abi_Typeassertedp_abi_TypemissingMethodstring : Nat := 176
@[reducible] def T_runtime_TypeAssertionError : Nat := 177
@[reducible] def T__0p_runtime_PanicNilError : Nat := 178
@[reducible] def T_struct__0p_runtime_PanicNilError : Nat := 179
@[reducible] def T_runtime_PanicNilError : Nat := 180
@[reducible] def T_funcint : Nat := 181
@[reducible] def T_funcp_abi_Type : Nat := 182
@[reducible] def T_uint32 : Nat := 183
@[reducible] def T_abi_TFlag : Nat := 184
@[reducible] def T_funcunsafe_Pointerunsafe_Pointerbool : Nat := 185
@[reducible] def T_p_uint8 : Nat := 186
@[reducible] def T_abi_NameOff : Nat := 187
@[reducible] def T_abi_TypeOff : Nat := 188
@[reducible] def T_structSize_uintptrPtrBytesuintptrHashuint32TFlagabi_TFlagAlign_uint8FieldAlign_uint8Kind_abi_KindEqualfuncunsafe_Pointerunsafe_PointerboolGCDatap_uint8Strabi_NameOffPtrToThisabi_TypeOff : Nat := 189
@[reducible] def T_abi_Type : Nat := 190
@[reducible] def T_funcuintptr : Nat := 191
@[reducible] def T_funcp_abi_UncommonType : Nat := 192
@[reducible] def T_structMethodstringKindabi_Kind : Nat := 193
@[reducible] def T_reflectlite_ValueError : Nat := 194
@[reducible] def T_p_abi_UncommonType : Nat := 195
@[reducible] def T_funcsl_abi_Method : Nat := 196
@[reducible] def T_uint16 : Nat := 197
@[reducible] def T_structPkgPathabi_NameOffMcountuint16Xcountuint16Moffuint32_uint32 : Nat := 198
@[reducible] def T_abi_UncommonType : Nat := 199
@[reducible] def T_sl_abi_Method : Nat := 200
@[reducible] def T_abi_TextOff : Nat := 201
@[reducible] def T_structNameabi_NameOffMtypabi_TypeOffIfnabi_TextOffTfnabi_TextOff : Nat := 202
@[reducible] def T_abi_Method : Nat := 203
@[reducible] def T_p_error : Nat := 204
def Eall : List Nat := [3, 4, 5, 6, 7, 8, 9, 10, 11, 12, 13, 14, 15, 16, 17, 18, 19, 20, 21, 22, 23, 24, 25, 26, 27, 28, 29, 30, 31, 32, 33, 34, 35, 36, 37, 38, 39, 40, 41, 42, 43, 44, 45, 46, 47, 48, 49, 50, 51, 52, 53, 54, 55, 56, 57, 58, 59, 60, 61, 62, 63, 64, 65, 66, 67, 68, 69, 70, 71, 72, 73, 74, 75, 76, 77, 78, 79, 80, 81, 82, 83, 84, 85, 86, 87, 88, 89, 90, 91, 92, 93, 94, 95, 96, 97, 98, 99, 100, 101, 102, 103, 104, 105, 106, 107, 108, 109, 110, 111, 112, 113, 114, 115, 116, 117, 118, 119, 120, 121, 122, 123, 124, 128, 129, 130, 131, 132, 133, 134, 135, 136, 137, 141, 142, 143, 144, 145]
theorem Eall_enter : ∀ g ∈ Eall, enters Pg g := by
  unfold Eall
  refine List.forall_mem_cons.2 ⟨Tryd.call3, ?_⟩
  refine List.forall_mem_cons.2 ⟨Tryd.call4, ?_⟩
  refine List.forall_mem_cons.2 ⟨Tryd.call5, ?_⟩
  refine List.forall_mem_cons.2 ⟨Tryd.call6, ?_⟩
  refine List.forall_mem_cons.2 ⟨Tryd.call7, ?_⟩
  refine List.forall_mem_cons.2 ⟨Tryd.call8, ?_⟩
  refine List.forall_mem_cons.2 ⟨Tryd.call9, ?_⟩
  refine List.forall_mem_cons.2 ⟨Tryd.call10, ?_⟩
  refine List.forall_mem_cons.2 ⟨Tryd.call11, ?_⟩
  refine List.forall_mem_cons.2 ⟨Tryd.call12, ?_⟩
  refine List.forall_mem_cons.2 ⟨Tryd.call13, ?_⟩
  refine List.forall_mem_cons.2 ⟨Tryd.call14, ?_⟩
  refine List.forall_mem_cons.2 ⟨Tryd.call15, ?_⟩
  refine List.forall_mem_cons.2 ⟨Tryd.call16, ?_⟩
  refine List.forall_mem_cons.2 ⟨Tryd.call17, ?_⟩
  refine List.forall_mem_cons.2 ⟨Tryd.call18, ?_⟩
  refine List.forall_mem_cons.2 ⟨Tryd.call19, ?_⟩
  refine List.forall_mem_cons.2 ⟨Tryd.call20, ?_⟩
  refine List.forall_mem_cons.2 ⟨Tryd.call21, ?_⟩
  refine List.forall_mem_cons.2 ⟨Tryd.call22, ?_⟩
  refine List.forall_mem_cons.2 ⟨Tryd.call23, ?_⟩
  refine List.forall_mem_cons.2 ⟨Tryd.call24, ?_⟩
  refine List.forall_mem_cons.2 ⟨Tryd.call25, ?_⟩
  refine List.forall_mem_cons.2 ⟨Tryd.call26, ?_⟩
  refine List.forall_mem_cons.2 ⟨Tryd.call27, ?_⟩
  refine List.forall_mem_cons.2 ⟨Tryd.call28, ?_⟩
  refine List.forall_mem_cons.2 ⟨Tryd.call29, ?_⟩
  refine List.forall_mem_cons.2 ⟨Tryd.call30, ?_⟩
  refine List.forall_mem_cons.2 ⟨Tryd.call31, ?_⟩
  refine List.forall_mem_cons.2 ⟨Tryd.call32, ?_⟩
  refine List.forall_mem_cons.2 ⟨Tryd.call33, ?_⟩
  refine List.forall_mem_cons.2 ⟨Tryd.call34, ?_⟩
  refine List.forall_mem_cons.2 ⟨Tryd.call35, ?_⟩
  refine List.forall_mem_cons.2 ⟨Tryd.call36, ?_⟩
  refine List.forall_mem_cons.2 ⟨Tryd.call37, ?_⟩
  refine List.forall_mem_cons.2 ⟨Tryd.call38, ?_⟩
  refine List.forall_mem_cons.2 ⟨Tryd.call39, ?_⟩
  refine List.forall_mem_cons.2 ⟨Tryd.call40, ?_⟩
  refine List.forall_mem_cons.2 ⟨Tryd.call41, ?_⟩
  refine List.forall_mem_cons.2 ⟨Tryd.call42, ?_⟩
  refine List.forall_mem_cons.2 ⟨Tryd.call43, ?_⟩
  refine List.forall_mem_cons.2 ⟨Tryd.call44, ?_⟩
  refine List.forall_mem_cons.2 ⟨Tryd.call45, ?_⟩
  refine List.forall_mem_cons.2 ⟨Tryd.call46, ?_⟩
  refine List.forall_mem_cons.2 ⟨Tryd.call47, ?_⟩
  refine List.forall_mem_cons.2 ⟨Tryd.call48, ?_⟩
  refine List.forall_mem_cons.2 ⟨Tryd.call49, ?_⟩
  refine List.forall_mem_cons.2 ⟨Tryd.call50, ?_⟩
  refine List.forall_mem_cons.2 ⟨Tryd.call51, ?_⟩
  refine List.forall_mem_cons.2 ⟨Tryd.call52, ?_⟩
  refine List.forall_mem_cons.2 ⟨Tryd.call53, ?_⟩
  refine List.forall_mem_cons.2 ⟨Tryd.call54, ?_⟩
  refine List.forall_mem_cons.2 ⟨Tryd.call55, ?_⟩
  refine List.forall_mem_cons.2 ⟨Tryd.call56, ?_⟩
  refine List.forall_mem_cons.2 ⟨Tryd.call57, ?_⟩
  refine List.forall_mem_cons.2 ⟨Tryd.call58, ?_⟩
  refine List.forall_mem_cons.2 ⟨Tryd.call59, ?_⟩
  refine List.forall_mem_cons.2 ⟨Tryd.call60, ?_⟩
  refine List.forall_mem_cons.2 ⟨Tryd.call61, ?_⟩
  refine List.forall_mem_cons.2 ⟨Tryd.call62, ?_⟩
  refine List.forall_mem_cons.2 ⟨Tryd.call63, ?_⟩
  refine List.forall_mem_cons.2 ⟨Tryd.call64, ?_⟩
  refine List.forall_mem_cons.2 ⟨Tryd.call65, ?_⟩
  refine List.forall_mem_cons.2 ⟨Tryd.call66, ?_⟩
  refine List.forall_mem_cons.2 ⟨Tryd.call67, ?_⟩
  refine List.forall_mem_cons.2 ⟨Tryd.call68, ?_⟩
  refine List.forall_mem_cons.2 ⟨Tryd.call69, ?_⟩
  refine List.forall_mem_cons.2 ⟨Tryd.call70, ?_⟩
  refine List.forall_mem_cons.2 ⟨Tryd.call71, ?_⟩
  refine List.forall_mem_cons.2 ⟨Tryd.call72, ?_⟩
  refine List.forall_mem_cons.2 ⟨Tryd.call73, ?_⟩
  refine List.forall_mem_cons.2 ⟨Tryd.call74, ?_⟩
  refine List.forall_mem_cons.2 ⟨Tryd.call75, ?_⟩
  refine List.forall_mem_cons.2 ⟨Tryd.call76, ?_⟩
  refine List.forall_mem_cons.2 ⟨Tryd.call77, ?_⟩
  refine List.forall_mem_cons.2 ⟨Tryd.call78, ?_⟩
  refine List.forall_mem_cons.2 ⟨Tryd.call79, ?_⟩
  refine List.forall_mem_cons.2 ⟨Tryd.call80, ?_⟩
  refine List.forall_mem_cons.2 ⟨Tryd.call81, ?_⟩
  refine List.forall_mem_cons.2 ⟨Tryd.call82, ?_⟩
  refine List.forall_mem_cons.2 ⟨Tryd.call83, ?_⟩
  refine List.forall_mem_cons.2 ⟨Tryd.call84, ?_⟩
  refine List.forall_mem_cons.2 ⟨Tryd.call85, ?_⟩
  refine List.forall_mem_cons.2 ⟨Tryd.call86, ?_⟩
  refine List.forall_mem_cons.2 ⟨Tryd.call87, ?_⟩
  refine List.forall_mem_cons.2 ⟨Tryd.call88, ?_⟩
  refine List.forall_mem_cons.2 ⟨Tryd.call89, ?_⟩
  refine List.forall_mem_cons.2 ⟨Tryd.call90, ?_⟩
  refine List.forall_mem_cons.2 ⟨Tryd.call91, ?_⟩
  refine List.forall_mem_cons.2 ⟨Tryd.call92, ?_⟩
  refine List.forall_mem_cons.2 ⟨Tryd.call93, ?_⟩
  refine List.forall_mem_cons.2 ⟨Tryd.call94, ?_⟩
  refine List.forall_mem_cons.2 ⟨Tryd.call95, ?_⟩
  refine List.forall_mem_cons.2 ⟨Tryd.call96, ?_⟩
  refine List.forall_mem_cons.2 ⟨Tryd.call97, ?_⟩
  refine List.forall_mem_cons.2 ⟨Tryd.call98, ?_⟩
  refine List.forall_mem_cons.2 ⟨Tryd.call99, ?_⟩
  refine List.forall_mem_cons.2 ⟨Tryd.call100, ?_⟩
  refine List.forall_mem_cons.2 ⟨Tryd.call101, ?_⟩
  refine List.forall_mem_cons.2 ⟨Tryd.call102, ?_⟩
  refine List.forall_mem_cons.2 ⟨Tryd.call103, ?_⟩
  refine List.forall_mem_cons.2 ⟨Tryd.call104, ?_⟩
  refine List.forall_mem_cons.2 ⟨Tryd.call105, ?_⟩
  refine List.forall_mem_cons.2 ⟨Tryd.call106, ?_⟩
  refine List.forall_mem_cons.2 ⟨Tryd.call107, ?_⟩
  refine List.forall_mem_cons.2 ⟨Tryd.call108, ?_⟩
  refine List.forall_mem_cons.2 ⟨Tryd.call109, ?_⟩
  refine List.forall_mem_cons.2 ⟨Tryd.call110, ?_⟩
  refine List.forall_mem_cons.2 ⟨Tryd.call111, ?_⟩
  refine List.forall_mem_cons.2 ⟨Tryd.call112, ?_⟩
  refine List.forall_mem_cons.2 ⟨Tryd.call113, ?_⟩
  refine List.forall_mem_cons.2 ⟨Tryd.call114, ?_⟩
  refine List.forall_mem_cons.2 ⟨Tryd.call115, ?_⟩
  refine List.forall_mem_cons.2 ⟨Tryd.call116, ?_⟩
  refine List.forall_mem_cons.2 ⟨Tryd.call117, ?_⟩
  refine List.forall_mem_cons.2 ⟨Tryd.call118, ?_⟩
  refine List.forall_mem_cons.2 ⟨Tryd.call119, ?_⟩
  refine List.forall_mem_cons.2 ⟨Tryd.call120, ?_⟩
  refine List.forall_mem_cons.2 ⟨Tryd.call121, ?_⟩
  refine List.forall_mem_cons.2 ⟨Tryd.call122, ?_⟩
  refine List.forall_mem_cons.2 ⟨Tryd.call123, ?_⟩
  refine List.forall_mem_cons.2 ⟨Tryd.call124, ?_⟩
  refine List.forall_mem_cons.2 ⟨Tryd.call128, ?_⟩
  refine List.forall_mem_cons.2 ⟨Tryd.call129, ?_⟩
  refine List.forall_mem_cons.2 ⟨Tryd.call130, ?_⟩
  refine List.forall_mem_cons.2 ⟨Tryd.call131, ?_⟩
  refine List.forall_mem_cons.2 ⟨Tryd.call132, ?_⟩
  refine List.forall_mem_cons.2 ⟨Tryd.call133, ?_⟩
  refine List.forall_mem_cons.2 ⟨Tryd.call134, ?_⟩
  refine List.forall_mem_cons.2 ⟨Tryd.call135, ?_⟩
  refine List.forall_mem_cons.2 ⟨Tryd.call136, ?_⟩
  refine List.forall_mem_cons.2 ⟨Tryd.call137, ?_⟩
  refine List.forall_mem_cons.2 ⟨Tryd.call141, ?_⟩
  refine List.forall_mem_cons.2 ⟨Tryd.call142, ?_⟩
  refine List.forall_mem_cons.2 ⟨Tryd.call143, ?_⟩
  refine List.forall_mem_cons.2 ⟨Tryd.call144, ?_⟩
  refine List.forall_mem_cons.2 ⟨Tryd.call145, ?_⟩
  intro g hg; cases hg
end Go.Proofs.YtledchlbmilneaaDoor
