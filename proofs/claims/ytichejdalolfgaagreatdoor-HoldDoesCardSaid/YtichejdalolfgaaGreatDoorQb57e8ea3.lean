/-
  The readings of the functions that are walked (c_..), printed by program; each is held against the loaded code by the kernel (e_..), and gives the call (l_..).
-/
import Derived.Test.YtichejdalolfgaaGreatDoorProg
import Derived.KernelRfl
import Derived.Test.YtichejdalolfgaaGreatDoorQf187741a
import Derived.Test.YtichejdalolfgaaGreatDoorQd768562e
set_option linter.unusedVariables false
set_option maxRecDepth 100000
namespace Go.Fx
noncomputable abbrev P : Program := Go.Proofs.Tryz.prog
open Go.Proofs
def bodyOf (f : Func) : Code := match f.body with | some c => c | none => .skip
theorem mixed : P.follows .mixedOrders = true := by kernel_rfl
abbrev f_law23_HoldDoes : FuncId := 3
abbrev f_hold_New : FuncId := 4
abbrev f_ref23_New : FuncId := 5
abbrev f_law23_live : FuncId := 6
abbrev f_law23_few : FuncId := 7
abbrev f_law23_start : FuncId := 8
abbrev f_law23_both_does : FuncId := 9
abbrev f_law23_both_alike : FuncId := 10
abbrev f_hold_Hold_Clone : FuncId := 11
abbrev f_ref23_Hold_Clone : FuncId := 12
abbrev f_slices_Clone_api_ID_api_ID : FuncId := 13
abbrev f_slices_Clone_int64_int64 : FuncId := 14
abbrev f_block_First : FuncId := 15
abbrev f_block_Child : FuncId := 16
abbrev f_hold_Hold_Block : FuncId := 17
abbrev f_hold_Hold_Vote : FuncId := 18
abbrev f_slices_Equal_api_ID_api_ID : FuncId := 19
abbrev f_hold_Hold_Wanted : FuncId := 20
abbrev f_hold_Hold_Lost : FuncId := 21
abbrev f_slices_Equal_api_HeldVote_api_HeldVote : FuncId := 22
abbrev f_hold_Hold_Came : FuncId := 23
abbrev f_ref03_Same : FuncId := 24
abbrev f_law23_names_block : FuncId := 25
abbrev f_ref03_Clone : FuncId := 26
abbrev f_ref23_Hold_Block : FuncId := 27
abbrev f_law23_names_id : FuncId := 28
abbrev f_ref23_Hold_Vote : FuncId := 29
abbrev f_ref23_Hold_Came : FuncId := 30
abbrev f_ref23_SameBlocks : FuncId := 31
abbrev f_ref23_Hold_Lost : FuncId := 32
abbrev f_hold_Hold_Drop : FuncId := 33
abbrev f_ref23_Hold_Drop : FuncId := 34
abbrev f_hold_Hold_Len : FuncId := 35
abbrev f_ref23_Hold_Wanted : FuncId := 36
abbrev f_hold_Hold_Get : FuncId := 37
abbrev f_ref23_Hold_Get : FuncId := 38
abbrev f_hold_Hold_Has : FuncId := 39
abbrev f_ref23_Hold_Has : FuncId := 40
abbrev f_hold_Hold_Wants : FuncId := 41
abbrev f_ref23_Hold_Wants : FuncId := 42
abbrev f_hold_Hold_Votes : FuncId := 43
abbrev f_ref23_Hold_Votes : FuncId := 44
abbrev f_hold_Hold_none : FuncId := 45
abbrev f_slices_Clone_hold_waiting_hold_waiting : FuncId := 46
abbrev f_slices_Clone_api_HeldVote_api_HeldVote : FuncId := 47
abbrev f_block_made : FuncId := 48
abbrev f_block_ID : FuncId := 49
abbrev f_block_Clone : FuncId := 50
abbrev f_slices_ContainsFunc_api_HeldVote_api_HeldVote : FuncId := 51
abbrev f_hold_Hold_Vote_1 : FuncId := 52
abbrev f_hold_Hold_Wanted_1 : FuncId := 53
abbrev f_slices_Contains_api_ID_api_ID : FuncId := 54
abbrev f_hold_Hold_takes : FuncId := 55
abbrev f_hold_Hold_Lost_1 : FuncId := 56
abbrev f_hold_Hold_Came_1 : FuncId := 57
abbrev f_ref03_ID : FuncId := 58
abbrev f_ref23_Hold_out : FuncId := 59
abbrev f_ref23_has : FuncId := 60
abbrev f_hold_taken_api_HeldVote : FuncId := 61
abbrev f_hold_Hold_Drop_1 : FuncId := 62
abbrev f_slices_ContainsFunc_hold_waiting_hold_waiting : FuncId := 63
abbrev f_hold_Hold_Wants_1 : FuncId := 64
abbrev f_hold_Hold_Wants_2 : FuncId := 65
abbrev f_block_Check : FuncId := 66
abbrev f_block_Bytes : FuncId := 67
abbrev f_sha_Sum : FuncId := 68
abbrev f_bytes_Clone : FuncId := 69
abbrev f_slices_IndexFunc_api_HeldVote_api_HeldVote : FuncId := 70
abbrev f_slices_Index_api_ID_api_ID : FuncId := 71
abbrev f_hold_taken_hold_waiting : FuncId := 72
abbrev f_hold_Hold_takes_1 : FuncId := 73
abbrev f_hold_Hold_takes_2 : FuncId := 74
abbrev f_ref03_Bytes : FuncId := 75
abbrev f_ref02_Sum : FuncId := 76
abbrev f_slices_IndexFunc_hold_waiting_hold_waiting : FuncId := 77
abbrev f_pack_New : FuncId := 78
abbrev f_pack_Packer_Short : FuncId := 79
abbrev f_pack_Packer_Fixed : FuncId := 80
abbrev f_pack_Packer_Long : FuncId := 81
abbrev f_pack_Packer_Bytes : FuncId := 82
abbrev f_pack_Packer_Out : FuncId := 83
abbrev f_sha_New : FuncId := 84
abbrev f_sha_State_Write : FuncId := 85
abbrev f_sha_State_Sum : FuncId := 86
abbrev f_ref03_Check : FuncId := 87
abbrev f_ref01_Num : FuncId := 88
abbrev f_ref02_padded : FuncId := 89
abbrev f_ref02_goes : FuncId := 90
abbrev f_pack_Packer_put : FuncId := 91
abbrev f_pack_number : FuncId := 92
abbrev f_pack_Packer_Err : FuncId := 93
abbrev f_sha_first : FuncId := 94
abbrev f_sha_State_none : FuncId := 95
abbrev f_slices_Concat_byte_byte : FuncId := 96
abbrev f_sha_mixed : FuncId := 97
abbrev f_ref02_words : FuncId := 98
abbrev f_ref02_constants : FuncId := 99
abbrev f_ref02_turned : FuncId := 100
abbrev f_pack_Packer_works : FuncId := 101
abbrev f_pack_kept_fails : FuncId := 102
abbrev f_slices_Grow_byte_byte : FuncId := 103
abbrev f_sha_schedule : FuncId := 104
abbrev f_math_bits_RotateLeft32 : FuncId := 105
abbrev f_runtime_boundsError_Error : FuncId := 106
abbrev f_runtime_boundsError_RuntimeError : FuncId := 107
abbrev f_runtime_errorString_Error : FuncId := 108
abbrev f_runtime_errorString_RuntimeError : FuncId := 109
abbrev f_runtime_plainError_Error : FuncId := 110
abbrev f_runtime_plainError_RuntimeError : FuncId := 111
abbrev f_runtime_errorAddressString_Error : FuncId := 112
abbrev f_runtime_errorAddressString_RuntimeError : FuncId := 113
abbrev f_runtime_TypeAssertionError_Error : FuncId := 114
abbrev f_runtime_TypeAssertionError_RuntimeError : FuncId := 115
abbrev f_runtime_PanicNilError_Error : FuncId := 116
abbrev f_runtime_PanicNilError_RuntimeError : FuncId := 117
abbrev f_internal_abi_Type_Align : FuncId := 118
abbrev f_internal_runtime_maps_unhashableTypeError_Error : FuncId := 119
abbrev f_internal_runtime_maps_unhashableTypeError_RuntimeError : FuncId := 120
abbrev f_api_Errno_Error : FuncId := 121
abbrev f_pack_Packer_Byte : FuncId := 122
abbrev f_sha_State_Len : FuncId := 123
abbrev f_internal_abi_Kind_String : FuncId := 124
abbrev f_var_s_door_sha_cubes_is_laid_by_its_own_initialiser_plain_data_look_11 : FuncId := 125
abbrev f_var_s_door_gosem_cut_vars_holds_initialisers_alone_see_the_manifest_s_row_cutvarsword_look_11_test_files_too : FuncId := 126
abbrev f_var_s_door_the_look_of_gosem_cut_vars_went_over_the_folder_that_the_caller_named_as_the_repository_s_root_look_11 : FuncId := 127
abbrev f_gosem_cut_vars : FuncId := 128
abbrev T_ : TypeId := 0
abbrev T_func : TypeId := 1
abbrev T_int64 : TypeId := 2
abbrev T_int : TypeId := 3
abbrev T_bool : TypeId := 4
abbrev T_uint8 : TypeId := 5
abbrev T_internal_abi_BoundsErrorCode : TypeId := 6
abbrev T_struct_x_int64_y_int_signed_bool_code_abi_BoundsErrorCode : TypeId := 7
abbrev T_runtime_boundsError : TypeId := 8
abbrev T_string : TypeId := 9
abbrev T_runtime_errorString : TypeId := 10
abbrev T_runtime_plainError : TypeId := 11
abbrev T_uintptr : TypeId := 12
abbrev T_struct_msg_string_addr_uintptr : TypeId := 13
abbrev T_runtime_errorAddressString : TypeId := 14
abbrev T_p_runtime_TypeAssertionError : TypeId := 15
abbrev T_p_runtime_PanicNilError : TypeId := 16
abbrev T_p_abi_Type : TypeId := 17
abbrev T_struct_typ_p_abi_Type : TypeId := 18
abbrev T_internal_runtime_maps_unhashableTypeError : TypeId := 19
abbrev T_interface : TypeId := 20
abbrev T_int32 : TypeId := 21
abbrev T_sl_flurrylaw23_Act : TypeId := 22
abbrev T_p_hold_Hold : TypeId := 23
abbrev T_api_Errno : TypeId := 24
abbrev T_p_hold_Hold_api_Errno : TypeId := 25
abbrev T_func_int_int_p_hold_Hold_api_Errno : TypeId := 26
abbrev T_p_flurryref23_Hold : TypeId := 27
abbrev T_p_flurryref23_Hold_api_Errno : TypeId := 28
abbrev T_func_int_int_p_flurryref23_Hold_api_Errno : TypeId := 29
abbrev T_func_bool : TypeId := 30
abbrev T_func_sl_flurrylaw23_Act_bool : TypeId := 31
abbrev T_p_flurrylaw23_both : TypeId := 32
abbrev T_sl_api_ID : TypeId := 33
abbrev T_sl_int64 : TypeId := 34
abbrev T_struct_ids_sl_api_ID_heights_sl_int64 : TypeId := 35
abbrev T_flurrylaw23_names : TypeId := 36
abbrev T_func_flurrylaw23_names : TypeId := 37
abbrev T_struct_h_p_hold_Hold_r_p_flurryref23_Hold_n_flurrylaw23_name : TypeId := 38
abbrev T_flurrylaw23_both : TypeId := 39
abbrev T_sl_uint8 : TypeId := 40
abbrev T_a32_uint8 : TypeId := 41
abbrev T_api_ID : TypeId := 42
abbrev T_struct_Parent_api_ID_Height_int64_Data_sl_uint8 : TypeId := 43
abbrev T_api_Block : TypeId := 44
abbrev T_struct_Do_int_K_uint8_Data_sl_uint8_Poll_int64_Node_int_Raw_ : TypeId := 45
abbrev T_flurrylaw23_Act : TypeId := 46
abbrev T_func_flurrylaw23_Act_bool : TypeId := 47
abbrev T_func_p_hold_Hold : TypeId := 48
abbrev T_func_p_flurryref23_Hold : TypeId := 49
abbrev T_func_sl_api_ID_sl_api_ID : TypeId := 50
abbrev T_func_sl_int64_sl_int64 : TypeId := 51
abbrev T_func_int_int_sl_flurrylaw23_Act_uint8_bool : TypeId := 52
abbrev T_sl_hold_waiting : TypeId := 53
abbrev T_sl_api_HeldVote : TypeId := 54
abbrev T_struct_made_bool_roomB_int_roomV_int_blocks_sl_hold_waiting_ : TypeId := 55
abbrev T_hold_Hold : TypeId := 56
abbrev T_sl_flurryref23_Node : TypeId := 57
abbrev T_struct_MaxB_int_MaxV_int_B_sl_flurryref23_Node_V_sl_api_Held : TypeId := 58
abbrev T_flurryref23_Hold : TypeId := 59
abbrev T_api_Block_api_Errno : TypeId := 60
abbrev T_func_sl_uint8_api_Block_api_Errno : TypeId := 61
abbrev T_func_api_Block_sl_uint8_api_Block_api_Errno : TypeId := 62
abbrev T_api_ID_api_Errno : TypeId := 63
abbrev T_func_api_Block_api_ID_api_Errno : TypeId := 64
abbrev T_struct_Poll_int64_Node_int_Want_api_ID_Else_api_ID : TypeId := 65
abbrev T_api_HeldVote : TypeId := 66
abbrev T_func_api_HeldVote_api_Errno : TypeId := 67
abbrev T_func_sl_api_ID_sl_api_ID_bool : TypeId := 68
abbrev T_func_sl_api_ID : TypeId := 69
abbrev T_sl_api_ID_sl_api_HeldVote : TypeId := 70
abbrev T_func_api_ID_sl_api_ID_sl_api_HeldVote : TypeId := 71
abbrev T_func_sl_api_HeldVote_sl_api_HeldVote_bool : TypeId := 72
abbrev T_sl_api_Block : TypeId := 73
abbrev T_sl_api_Block_sl_api_HeldVote : TypeId := 74
abbrev T_func_api_ID_sl_api_Block_sl_api_HeldVote : TypeId := 75
abbrev T_func_api_Block_api_Block_bool : TypeId := 76
abbrev T_func_flurrylaw23_Act_api_Block : TypeId := 77
abbrev T_func_api_Block_api_Block : TypeId := 78
abbrev T_func_uint8_api_ID : TypeId := 79
abbrev T_func_sl_api_Block_sl_api_Block_bool : TypeId := 80
abbrev T_func_int64_int : TypeId := 81
abbrev T_int_int : TypeId := 82
abbrev T_func_int_int : TypeId := 83
abbrev T_func_api_ID_api_Block_api_Errno : TypeId := 84
abbrev T_func_api_ID_bool : TypeId := 85
abbrev T_func_sl_hold_waiting_sl_hold_waiting : TypeId := 86
abbrev T_struct_id_api_ID_b_api_Block : TypeId := 87
abbrev T_hold_waiting : TypeId := 88
abbrev T_func_sl_api_HeldVote_sl_api_HeldVote : TypeId := 89
abbrev T_func_api_Block_api_Block_api_Errno : TypeId := 90
abbrev T_func_sl_api_HeldVote_func_api_HeldVote_bool_bool : TypeId := 91
abbrev T_func_api_HeldVote_bool : TypeId := 92
abbrev T_func_sl_api_ID_api_ID_bool : TypeId := 93
abbrev T_func_api_ID : TypeId := 94
abbrev T_map_api_ID_bool : TypeId := 95
abbrev T_sl_hold_waiting_sl_api_HeldVote : TypeId := 96
abbrev T_func_func_api_ID_bool_sl_hold_waiting_sl_api_HeldVote : TypeId := 97
abbrev T_p_flurrylaw23_names : TypeId := 98
abbrev T_struct_ID_api_ID_B_api_Block : TypeId := 99
abbrev T_flurryref23_Node : TypeId := 100
abbrev T_sl_flurryref23_Node_sl_api_HeldVote : TypeId := 101
abbrev T_func_sl_api_ID_sl_flurryref23_Node_sl_api_HeldVote : TypeId := 102
abbrev T_sl_api_HeldVote_sl_api_HeldVote : TypeId := 103
abbrev T_func_sl_api_HeldVote_func_api_HeldVote_bool_sl_api_HeldVote_ : TypeId := 104
abbrev T_func_sl_hold_waiting_func_hold_waiting_bool_bool : TypeId := 105
abbrev T_func_hold_waiting_bool : TypeId := 106
abbrev T_func_api_Block_api_Errno : TypeId := 107
abbrev T_sl_uint8_api_Errno : TypeId := 108
abbrev T_func_api_Block_sl_uint8_api_Errno : TypeId := 109
abbrev T_func_sl_uint8_api_ID : TypeId := 110
abbrev T_func_sl_uint8_sl_uint8 : TypeId := 111
abbrev T_func_sl_api_HeldVote_func_api_HeldVote_bool_int : TypeId := 112
abbrev T_func_sl_api_ID_api_ID_int : TypeId := 113
abbrev T_sl_hold_waiting_sl_hold_waiting : TypeId := 114
abbrev T_func_sl_hold_waiting_func_hold_waiting_bool_sl_hold_waiting_ : TypeId := 115
abbrev T_func_sl_hold_waiting_func_hold_waiting_bool_int : TypeId := 116
abbrev T_p_pack_Packer : TypeId := 117
abbrev T_func_int_p_pack_Packer : TypeId := 118
abbrev T_func_uint16 : TypeId := 119
abbrev T_uint16 : TypeId := 120
abbrev T_func_uint8 : TypeId := 121
abbrev T_func_uint64 : TypeId := 122
abbrev T_uint64 : TypeId := 123
abbrev T_func_sl_uint8 : TypeId := 124
abbrev T_func_sl_uint8_api_Errno : TypeId := 125
abbrev T_p_sha_State : TypeId := 126
abbrev T_func_p_sha_State : TypeId := 127
abbrev T_func_sl_uint8_api_Errno_1 : TypeId := 128
abbrev T_func_api_ID_1 : TypeId := 129
abbrev T_func_int_uint64_sl_uint8 : TypeId := 130
abbrev T_uint32 : TypeId := 131
abbrev T_a8_uint32 : TypeId := 132
abbrev T_func_a8_uint32_sl_uint8_a8_uint32 : TypeId := 133
abbrev T_uint : TypeId := 134
abbrev T_struct_made_bool_b_sl_uint8_err_api_Errno : TypeId := 135
abbrev T_pack_kept : TypeId := 136
abbrev T_struct_pack_kept_limit_int : TypeId := 137
abbrev T_pack_Packer : TypeId := 138
abbrev T_func_sl_uint8_sl_uint8_1 : TypeId := 139
abbrev T_func_api_Errno : TypeId := 140
abbrev T_func_a8_uint32 : TypeId := 141
abbrev T_struct_h_a8_uint32_rest_sl_uint8_n_int64_made_bool : TypeId := 142
abbrev T_sha_State : TypeId := 143
abbrev T_sl_sl_uint8 : TypeId := 144
abbrev T_func_sl_uint8_sl_uint8_2 : TypeId := 145
abbrev T_a64_uint32 : TypeId := 146
abbrev T_func_sl_uint8_a64_uint32 : TypeId := 147
abbrev T_func_a64_uint32 : TypeId := 148
abbrev T_func_uint32_uint_uint32 : TypeId := 149
abbrev T_func_api_Errno_1 : TypeId := 150
abbrev T_func_sl_uint8_int_sl_uint8 : TypeId := 151
abbrev T_func_uint32_int_uint32 : TypeId := 152
abbrev T_p_pack_kept : TypeId := 153
abbrev T_func_string : TypeId := 154
abbrev T_struct_interface_p_abi_Type_concrete_p_abi_Type_asserted_p_a : TypeId := 155
abbrev T_runtime_TypeAssertionError : TypeId := 156
abbrev T_a0_p_runtime_PanicNilError : TypeId := 157
abbrev T_struct_a0_p_runtime_PanicNilError : TypeId := 158
abbrev T_runtime_PanicNilError : TypeId := 159
abbrev T_func_int : TypeId := 160
abbrev T_internal_abi_TFlag : TypeId := 161
abbrev T_internal_abi_Kind : TypeId := 162
abbrev T_func_unsafe_Pointer_unsafe_Pointer_bool : TypeId := 163
abbrev T_p_uint8 : TypeId := 164
abbrev T_internal_abi_NameOff : TypeId := 165
abbrev T_internal_abi_TypeOff : TypeId := 166
abbrev T_struct_Size_uintptr_PtrBytes_uintptr_Hash_uint32_TFlag_abi_T : TypeId := 167
abbrev T_internal_abi_Type : TypeId := 168
abbrev T_func_uint8_1 : TypeId := 169
abbrev T_func_int64 : TypeId := 170
abbrev T_unsafe_Pointer : TypeId := 171
/-- flurry/flurrylaw23.HoldDoes -/
def A_law23_HoldDoes : An := (An.s (An.r []) (An.s (An.r []) (An.s (An.r []) (An.s (An.s (An.r [[37], [44]]) (An.s (An.s (An.r []) An.o) An.o)) (An.s (An.s (An.r [[51]]) (An.s (An.s (An.r []) An.o) An.o)) (An.s (An.r []) (An.s (An.r []) (An.s (An.s (An.r []) (An.b (An.l [68] (An.s (An.r []) (An.s (An.s An.o An.o) (An.s (An.b (An.s (An.r []) (An.s (An.r [[79]]) (An.s (An.s (An.r []) An.o) An.o)))) (An.r []))))))) (An.s (An.dc [0, 2, 4, 5, 6, 7, 8, 10, 11, 12, 13, 14, 1, 3, 9, 15, 16, 17, 18, 19] [15, 18] []) (An.s (An.s (An.r []) (An.b (An.l [105] (An.s (An.r []) (An.s (An.s An.o An.o) (An.s (An.b (An.s (An.r []) (An.s (An.r [[118], [123]]) (An.s (An.s (An.r []) An.o) An.o)))) (An.r []))))))) (An.s (An.r []) An.o)))))))))))
def c_law23_HoldDoes (t0 t1 t2 t3 : Value) (w : World) (R : Value → World → Prop) : Prop :=
  cal P f_hold_New [t0, t1] w fun t23 w =>
  ext 0 t23 fun t24 =>
  ext 1 t23 fun t25 =>
  cal P f_ref23_New [t0, t1] w fun t29 w =>
  ext 0 t29 fun t30 =>
  ext 1 t29 fun t31 =>
  cal P f_law23_live [] w fun t32 w =>
  notB t32 fun t33 =>
  jn1 (fun k0 =>
  gif t33 false
  (bi BinOp.neq t25 t31 fun t37 =>
  k0 t37 w)
  (k0 undef w)) fun _ t37_1 w =>
  pik t33 (Value.bool true) t37_1 fun t38 =>
  jn1 (fun k1 =>
  gif t38 false
  (nilP false t24 fun t41 =>
  bi BinOp.neq t25 (Value.int IntKind.i64 0) fun t43 =>
  rdP P (eqS BinOp.neq T_bool (Operand.tmp 41) (Operand.tmp 43) t41 t43) w fun t44 =>
  k1 t44 w)
  (k1 undef w)) fun _ t44_1 w =>
  pik t38 (Value.bool true) t44_1 fun t45 =>
  cnd t45
  (R (Value.bool false) w)
  (nilP false t24 fun t47 =>
  jn1 (fun k2 =>
  gif t47 false
  (cal P f_law23_few [t2] w fun t50 w =>
  notB t50 fun t51 =>
  k2 t51 w)
  (k2 undef w)) fun _ t51_1 w =>
  pik t47 (Value.bool true) t51_1 fun t52 =>
  cnd t52
  (R (Value.bool true) w)
  (cal P f_law23_start [] w fun t55 w =>
  rdP P (Instr.build T_flurrylaw23_both #[(0, t24), (1, t30), (2, t55)]) w fun t56 =>
  bx T_flurrylaw23_both t56 w fun t57 w =>
  cvi IntKind.i64 t3 fun t59 =>
  lenS t2 fun t61 =>
  bi BinOp.add t61 (Value.int IntKind.i64 1) fun t62 =>
  bi BinOp.rem t59 t62 fun t63 =>
  slc 40 t2 none (some t63) fun t66 =>
  lenS t66 fun t67 =>
  lp1 (Value.int IntKind.i64 0) w fun _ t68 w again3 =>
  bi BinOp.lss t68 t67 fun t69 =>
  cnd t69
  (ixs 40 t66 t68 fun t70 =>
  ldN 40 t70 w.heap fun t71 =>
  efP P (Instr.alloc T_flurrylaw23_Act true (.tuple #[])) w fun t16 w =>
  stN 40 t16 t71 w fun w =>
  ldN 40 t16 w.heap fun t73 =>
  cal P f_law23_both_does [t57, t73] w fun t74 w =>
  notB t74 fun t75 =>
  jn1 (fun k4 =>
  gif t75 false
  (cal P f_law23_both_alike [t57] w fun t78 w =>
  notB t78 fun t79 =>
  k4 t79 w)
  (k4 undef w)) fun _ t79_1 w =>
  pik t75 (Value.bool true) t79_1 fun t80 =>
  cnd t80
  (R (Value.bool false) w)
  (bi BinOp.add t68 (Value.int IntKind.i64 1) fun t81 =>
  again3 t81 w))
  (drH w fun S w =>
  nilc t57 fun t87 =>
  fad 2 t87 fun t88 =>
  fad 0 t88 fun t89 =>
  rdS S (fun w => ld1 t89 w.heap) fun t90 =>
  nilc t57 fun t93 =>
  fad 2 t93 fun t94 =>
  fad 1 t94 fun t95 =>
  rdS S (fun w => ld1 t95 w.heap) fun t96 =>
  efS S (cal P f_hold_Hold_Clone [t24]) w fun t83 w =>
  efS S (cal P f_ref23_Hold_Clone [t30]) w fun t85 w =>
  efS S (cal P f_slices_Clone_api_ID_api_ID [t90]) w fun t91 w =>
  efC (cal P f_slices_Clone_int64_int64 [t96]) w fun S t97 w =>
  rdS S (rdP P (Instr.build T_flurrylaw23_names #[(0, t91), (1, t97)])) fun t98 =>
  rdS S (rdP P (Instr.build T_flurrylaw23_both #[(0, t83), (1, t85), (2, t98)])) fun t99 =>
  efC (bx T_flurrylaw23_both t99) w fun S t100 w =>
  slc 40 t2 (some t63) none fun t103 =>
  lenS t103 fun t104 =>
  lp1 (Value.int IntKind.i64 0) w fun _ t105 w again5 =>
  bi BinOp.lss t105 t104 fun t106 =>
  cnd t106
  (ixs 40 t103 t105 fun t107 =>
  ldN 40 t107 w.heap fun t108 =>
  efP P (Instr.alloc T_flurrylaw23_Act true (.tuple #[])) w fun t19 w =>
  stN 40 t19 t108 w fun w =>
  nilc t100 fun t110 =>
  fad 0 t110 fun t111 =>
  ld1 t111 w.heap fun t112 =>
  nilP false t112 fun t113 =>
  jn1 (fun k6 =>
  gif t113 false
  (ldN 40 t19 w.heap fun t116 =>
  cal P f_law23_both_does [t100, t116] w fun t117 w =>
  notB t117 fun t118 =>
  k6 t118 w)
  (k6 undef w)) fun _ t118_1 w =>
  pik t113 (Value.bool true) t118_1 fun t119 =>
  jn1 (fun k7 =>
  gif t119 false
  (cal P f_law23_both_alike [t100] w fun t122 w =>
  notB t122 fun t123 =>
  k7 t123 w)
  (k7 undef w)) fun _ t123_1 w =>
  pik t119 (Value.bool true) t123_1 fun t124 =>
  cnd t124
  (R (Value.bool false) w)
  (bi BinOp.add t105 (Value.int IntKind.i64 1) fun t125 =>
  again5 t125 w))
  (cal P f_law23_both_alike [t57] w fun t127 w =>
  R t127 w))))
theorem e_law23_HoldDoes (t0 t1 t2 t3 : Value) (w : World) (R : Value → World → Prop) : intp P A_law23_HoldDoes (bodyOf Tryz.f3) (ini [t0, t1, t2, t3]) w (retK P Tryz.f3.results.toList R) (fun _ _ _ => False) (retK P Tryz.f3.results.toList R) = c_law23_HoldDoes t0 t1 t2 t3 w R := by kernel_rfl
theorem k_law23_HoldDoes : chk P Tryz.f3.ntmps A_law23_HoldDoes (bodyOf Tryz.f3) = true := by kernel_rfl
theorem l_law23_HoldDoes {t0 t1 t2 t3 : Value} {w : World} {R : Value → World → Prop} (h : c_law23_HoldDoes t0 t1 t2 t3 w R) : cal P f_law23_HoldDoes [t0, t1, t2, t3] w R :=
  calls_of mixed Tryz.func3 rfl (by kernel_rfl) k_law23_HoldDoes (Eq.mpr (e_law23_HoldDoes t0 t1 t2 t3 w R) h)
theorem s_law23_HoldDoes {t0 t1 t2 t3 : Value} {w : World} {Q : Value → World → Prop} (h : ∀ R : Value → World → Prop, (∀ v w', Q v w' → R v w') → c_law23_HoldDoes t0 t1 t2 t3 w R) : cal P f_law23_HoldDoes [t0, t1, t2, t3] w Q := l_law23_HoldDoes (h Q fun _ _ h => h)

/-- flurry/hold.New -/
def A_hold_New : An := (An.s (An.r []) (An.s (An.s (An.r [[10], [14], [18]]) (An.s (An.s (An.r []) An.o) An.o)) (An.s (An.r []) An.o)))
def c_hold_New (t0 t1 : Value) (w : World) (R : Value → World → Prop) : Prop :=
  bi BinOp.lss t0 (Value.int IntKind.i64 1) fun t7 =>
  jn1 (fun k0 =>
  gif t7 false
  (bi BinOp.gtr t0 (Value.int IntKind.i64 256) fun t10 =>
  k0 t10 w)
  (k0 undef w)) fun _ t10_1 w =>
  pik t7 (Value.bool true) t10_1 fun t11 =>
  jn1 (fun k1 =>
  gif t11 false
  (bi BinOp.lss t1 (Value.int IntKind.i64 1) fun t14 =>
  k1 t14 w)
  (k1 undef w)) fun _ t14_1 w =>
  pik t11 (Value.bool true) t14_1 fun t15 =>
  jn1 (fun k2 =>
  gif t15 false
  (bi BinOp.gtr t1 (Value.int IntKind.i64 256) fun t18 =>
  k2 t18 w)
  (k2 undef w)) fun _ t18_1 w =>
  pik t15 (Value.bool true) t18_1 fun t19 =>
  cnd t19
  (R (Value.tuple #[(Value.pointer none), (Value.int IntKind.i64 1)]) w)
  (rdP P (Instr.build T_hold_Hold #[(0, (Value.bool true)), (1, t0), (2, t1)]) w fun t22 =>
  bx T_hold_Hold t22 w fun t23 w =>
  R (Value.tuple #[t23, (Value.int IntKind.i64 0)]) w)
theorem e_hold_New (t0 t1 : Value) (w : World) (R : Value → World → Prop) : intp P A_hold_New (bodyOf Tryz.f4) (ini [t0, t1]) w (retK P Tryz.f4.results.toList R) (fun _ _ _ => False) (retK P Tryz.f4.results.toList R) = c_hold_New t0 t1 w R := by kernel_rfl
theorem k_hold_New : chk P Tryz.f4.ntmps A_hold_New (bodyOf Tryz.f4) = true := by kernel_rfl
theorem l_hold_New {t0 t1 : Value} {w : World} {R : Value → World → Prop} (h : c_hold_New t0 t1 w R) : cal P f_hold_New [t0, t1] w R :=
  calls_of mixed Tryz.func4 rfl (by kernel_rfl) k_hold_New (Eq.mpr (e_hold_New t0 t1 w R) h)
theorem s_hold_New {t0 t1 : Value} {w : World} {Q : Value → World → Prop} (h : ∀ R : Value → World → Prop, (∀ v w', Q v w' → R v w') → c_hold_New t0 t1 w R) : cal P f_hold_New [t0, t1] w Q := l_hold_New (h Q fun _ _ h => h)

/-- flurry/flurryref23.New -/
def A_ref23_New : An := (An.s (An.r []) (An.s (An.s (An.r [[10], [14], [18]]) (An.s (An.s (An.r []) An.o) An.o)) (An.s (An.r []) An.o)))
def c_ref23_New (t0 t1 : Value) (w : World) (R : Value → World → Prop) : Prop :=
  bi BinOp.lss t0 (Value.int IntKind.i64 1) fun t7 =>
  jn1 (fun k0 =>
  gif t7 false
  (bi BinOp.gtr t0 (Value.int IntKind.i64 256) fun t10 =>
  k0 t10 w)
  (k0 undef w)) fun _ t10_1 w =>
  pik t7 (Value.bool true) t10_1 fun t11 =>
  jn1 (fun k1 =>
  gif t11 false
  (bi BinOp.lss t1 (Value.int IntKind.i64 1) fun t14 =>
  k1 t14 w)
  (k1 undef w)) fun _ t14_1 w =>
  pik t11 (Value.bool true) t14_1 fun t15 =>
  jn1 (fun k2 =>
  gif t15 false
  (bi BinOp.gtr t1 (Value.int IntKind.i64 256) fun t18 =>
  k2 t18 w)
  (k2 undef w)) fun _ t18_1 w =>
  pik t15 (Value.bool true) t18_1 fun t19 =>
  cnd t19
  (R (Value.tuple #[(Value.pointer none), (Value.int IntKind.i64 1)]) w)
  (rdP P (Instr.build T_flurryref23_Hold #[(0, t0), (1, t1)]) w fun t22 =>
  bx T_flurryref23_Hold t22 w fun t23 w =>
  R (Value.tuple #[t23, (Value.int IntKind.i64 0)]) w)
theorem e_ref23_New (t0 t1 : Value) (w : World) (R : Value → World → Prop) : intp P A_ref23_New (bodyOf Tryz.f5) (ini [t0, t1]) w (retK P Tryz.f5.results.toList R) (fun _ _ _ => False) (retK P Tryz.f5.results.toList R) = c_ref23_New t0 t1 w R := by kernel_rfl
theorem k_ref23_New : chk P Tryz.f5.ntmps A_ref23_New (bodyOf Tryz.f5) = true := by kernel_rfl
theorem l_ref23_New {t0 t1 : Value} {w : World} {R : Value → World → Prop} (h : c_ref23_New t0 t1 w R) : cal P f_ref23_New [t0, t1] w R :=
  calls_of mixed Tryz.func5 rfl (by kernel_rfl) k_ref23_New (Eq.mpr (e_ref23_New t0 t1 w R) h)
theorem s_ref23_New {t0 t1 : Value} {w : World} {Q : Value → World → Prop} (h : ∀ R : Value → World → Prop, (∀ v w', Q v w' → R v w') → c_ref23_New t0 t1 w R) : cal P f_ref23_New [t0, t1] w Q := l_ref23_New (h Q fun _ _ h => h)

/-- flurry/flurrylaw23.live -/
def A_law23_live : An := (An.s (An.r []) (An.s (An.r []) (An.s (An.r []) (An.s (An.r []) (An.s (An.r []) (An.s (An.s (An.r [[43], [47], [51], [55]]) (An.s (An.s (An.r []) An.o) An.o)) (An.s (An.r []) (An.s (An.r []) (An.s (An.r []) (An.s (An.s (An.dt (Pl.step 0 (Pl.step 1 (Pl.step 2 (Pl.step 3 (Pl.step 4 (Pl.step 5 (Pl.step 6 (Pl.step 7 (Pl.step 8 (Pl.step 9 (Pl.step 10 (Pl.step 11 (Pl.step 12 (Pl.step 13 (Pl.step 15 (Pl.step 16 (Pl.br (Pl.alt 14 (Pl.step 17 (Pl.step 18 (Pl.step 19 (Pl.step 20 Pl.nil)))) (Pl.alt 17 (Pl.step 14 (Pl.step 18 (Pl.step 19 (Pl.step 20 Pl.nil)))) Pl.non))))))))))))))))))) [] [91]) (An.s (An.s (An.r []) An.o) An.o)) (An.s (An.r []) (An.s (An.r []) (An.s (An.s (An.r [[109], [116]]) (An.s (An.s (An.r []) An.o) An.o)) (An.s (An.r []) (An.s (An.d [0, 1, 2, 3, 4, 5, 6, 7, 8, 9, 10] [[133]]) An.o)))))))))))))))
def c_law23_live (w : World) (R : Value → World → Prop) : Prop :=
  cal P f_block_First [(Value.slice none 0 0)] w fun t18 w =>
  ext 0 t18 fun t19 =>
  ext 1 t18 fun t20 =>
  efP P (Instr.alloc T_api_Block true (.tuple #[])) w fun t1 w =>
  stN 34 t1 t19 w fun w =>
  ldN 34 t1 w.heap fun t22 =>
  efP P (Instr.buildSlice T_sl_uint8 1 #[(0, (Value.int IntKind.u8 97))]) w fun t23 w =>
  efP P (convert T_sl_uint8 T_sl_uint8 t23) w fun t24 w =>
  cal P f_block_Child [t22, t24] w fun t25 w =>
  ext 0 t25 fun t26 =>
  ext 1 t25 fun t27 =>
  efP P (Instr.alloc T_api_Block true (.tuple #[])) w fun t3 w =>
  stN 34 t3 t26 w fun w =>
  ldN 34 t3 w.heap fun t29 =>
  efP P (Instr.buildSlice T_sl_uint8 1 #[(0, (Value.int IntKind.u8 98))]) w fun t30 w =>
  efP P (convert T_sl_uint8 T_sl_uint8 t30) w fun t31 w =>
  cal P f_block_Child [t29, t31] w fun t32 w =>
  ext 0 t32 fun t33 =>
  ext 1 t32 fun t34 =>
  efP P (Instr.alloc T_api_Block true (.tuple #[])) w fun t5 w =>
  stN 34 t5 t33 w fun w =>
  cal P f_hold_New [(Value.int IntKind.i64 9), (Value.int IntKind.i64 9)] w fun t36 w =>
  ext 0 t36 fun t37 =>
  ext 1 t36 fun t38 =>
  bi BinOp.neq t20 (Value.int IntKind.i64 0) fun t40 =>
  jn1 (fun k0 =>
  gif t40 false
  (bi BinOp.neq t27 (Value.int IntKind.i64 0) fun t43 =>
  k0 t43 w)
  (k0 undef w)) fun _ t43_1 w =>
  pik t40 (Value.bool true) t43_1 fun t44 =>
  jn1 (fun k1 =>
  gif t44 false
  (bi BinOp.neq t34 (Value.int IntKind.i64 0) fun t47 =>
  k1 t47 w)
  (k1 undef w)) fun _ t47_1 w =>
  pik t44 (Value.bool true) t47_1 fun t48 =>
  jn1 (fun k2 =>
  gif t48 false
  (bi BinOp.neq t38 (Value.int IntKind.i64 0) fun t51 =>
  k2 t51 w)
  (k2 undef w)) fun _ t51_1 w =>
  pik t48 (Value.bool true) t51_1 fun t52 =>
  jn1 (fun k3 =>
  gif t52 false
  (nilP false t37 fun t55 =>
  k3 t55 w)
  (k3 undef w)) fun _ t55_1 w =>
  pik t52 (Value.bool true) t55_1 fun t56 =>
  cnd t56
  (R (Value.bool false) w)
  (ldN 34 t5 w.heap fun t59 =>
  cal P f_hold_Hold_Block [t37, t59] w fun t60 w =>
  ext 0 t60 fun t61 =>
  ext 1 t60 fun t62 =>
  efP P (Instr.alloc T_api_ID true (.tuple #[])) w fun t9 w =>
  stN 32 t9 t61 w fun w =>
  ldN 34 t3 w.heap fun t65 =>
  cal P f_hold_Hold_Block [t37, t65] w fun t66 w =>
  ext 0 t66 fun t67 =>
  ext 1 t66 fun t68 =>
  efP P (Instr.alloc T_api_ID true (.tuple #[])) w fun t10 w =>
  stN 32 t10 t67 w fun w =>
  ldN 32 t9 w.heap fun t69 =>
  rdP P (Instr.build T_api_HeldVote #[(0, (Value.int IntKind.i64 1)), (2, t69)]) w fun t70 =>
  efP P (Instr.alloc T_api_HeldVote true (.tuple #[])) w fun t11 w =>
  stN 66 t11 t70 w fun w =>
  drH w fun S w =>
  jn1 (fun k4 =>
  bi BinOp.neq t62 (Value.int IntKind.i64 0) fun t72 =>
  jn1 (fun k5 =>
  gif t72 false
  (k5 t68 w)
  (k5 undef w)) fun _ t74 w =>
  jn1 (fun k6 =>
  gif t72 false
  (bi BinOp.neq t74 (Value.int IntKind.i64 0) fun x =>
  k6 x w)
  (k6 undef w)) fun _ t75 w =>
  pik t72 (Value.bool true) t75 fun t76 =>
  jn1 (fun k7 =>
  gif t76 false
  (k7 t37 w)
  (k7 undef w)) fun _ t78 w =>
  jn1 (fun k8 =>
  gif t76 false
  (rdS S (fun w => ldN 66 t11 w.heap) fun x =>
  k8 x w)
  (k8 undef w)) fun _ t79 w =>
  jn1 (fun k9 =>
  gif t76 false
  (efS S (cal P f_hold_Hold_Vote [t78, t79]) w fun x w =>
  k9 x w)
  (k9 undef w)) fun _ t80 w =>
  jn1 (fun k10 =>
  gif t76 false
  (bi BinOp.neq t80 (Value.int IntKind.i64 0) fun x =>
  k10 x w)
  (k10 undef w)) fun _ t81 w =>
  pik t76 (Value.bool true) t81 fun t82 =>
  jn1 (fun k11 =>
  gif t82 false
  (k11 t37 w)
  (k11 undef w)) fun _ t84 w =>
  jn1 (fun k12 =>
  gif t82 false
  (fad 0 t3 fun x =>
  k12 x w)
  (k12 undef w)) fun _ t86 w =>
  jn1 (fun k13 =>
  gif t82 false
  (rdS S (fun w => ldN 32 t86 w.heap) fun x =>
  k13 x w)
  (k13 undef w)) fun _ t87 w =>
  (jn1 (fun k18 =>
  gif t82 false
  (efS S (cal P f_hold_Hold_Wanted [t84]) w fun x w =>
  k18 x w)
  (k18 undef w)) fun _ t85_1 w =>
  jn1 (fun k19 =>
  gif t82 false
  (efS S (efP P (Instr.buildSlice T_sl_api_ID 1 #[(0, t87)])) w fun x w =>
  k19 x w)
  (k19 undef w)) fun _ t88_1 w =>
  jn1 (fun k20 =>
  gif t82 false
  (efS S (cal P f_slices_Equal_api_ID_api_ID [t85_1, t88_1]) w fun x w =>
  k20 x w)
  (k20 undef w)) fun _ t89_1 w =>
  jn1 (fun k21 =>
  gif t82 false
  (notB t89_1 fun x =>
  k21 x w)
  (k21 undef w)) fun _ t90_1 w =>
  pik t82 (Value.bool true) t90_1 fun t91_1 =>
  k4 t91_1 w) ∧
  ((jn1 (fun k14 =>
  gif t82 false
  (efS S (efP P (Instr.buildSlice T_sl_api_ID 1 #[(0, t87)])) w fun x w =>
  k14 x w)
  (k14 undef w)) fun _ t88 w =>
  jn1 (fun k15 =>
  gif t82 false
  (efS S (cal P f_hold_Hold_Wanted [t84]) w fun x w =>
  k15 x w)
  (k15 undef w)) fun _ t85 w =>
  jn1 (fun k16 =>
  gif t82 false
  (efS S (cal P f_slices_Equal_api_ID_api_ID [t85, t88]) w fun x w =>
  k16 x w)
  (k16 undef w)) fun _ t89 w =>
  jn1 (fun k17 =>
  gif t82 false
  (notB t89 fun x =>
  k17 x w)
  (k17 undef w)) fun _ t90 w =>
  pik t82 (Value.bool true) t90 fun t91 =>
  k4 t91 w) ∧
  (True))) fun _ t91_2 w =>
  cnd t91_2
  (R (Value.bool false) w)
  (cal P f_hold_Hold_Clone [t37] w fun t93 w =>
  fad 0 t3 fun t96 =>
  ldN 32 t96 w.heap fun t97 =>
  cal P f_hold_Hold_Lost [t37, t97] w fun t98 w =>
  ext 0 t98 fun t99 =>
  ext 1 t98 fun t100 =>
  nilP false t93 fun t102 =>
  jn1 (fun k22 =>
  gif t102 false
  (ldN 32 t9 w.heap fun t105 =>
  ldN 32 t10 w.heap fun t106 =>
  efP P (Instr.buildSlice T_sl_api_ID 2 #[(0, t105), (1, t106)]) w fun t107 w =>
  cal P f_slices_Equal_api_ID_api_ID [t99, t107] w fun t108 w =>
  notB t108 fun t109 =>
  k22 t109 w)
  (k22 undef w)) fun _ t109_1 w =>
  pik t102 (Value.bool true) t109_1 fun t110 =>
  jn1 (fun k23 =>
  gif t110 false
  (ldN 66 t11 w.heap fun t113 =>
  efP P (Instr.buildSlice T_sl_api_HeldVote 1 #[(0, t113)]) w fun t114 w =>
  cal P f_slices_Equal_api_HeldVote_api_HeldVote [t100, t114] w fun t115 w =>
  notB t115 fun t116 =>
  k23 t116 w)
  (k23 undef w)) fun _ t116_1 w =>
  pik t110 (Value.bool true) t116_1 fun t117 =>
  cnd t117
  (R (Value.bool false) w)
  (fad 0 t3 fun t120 =>
  ldN 32 t120 w.heap fun t121 =>
  cal P f_hold_Hold_Came [t93, t121] w fun t122 w =>
  ext 0 t122 fun t123 =>
  ext 1 t122 fun t124 =>
  drH w fun S w =>
  lenS t123 fun t126 =>
  bi BinOp.eql t126 (Value.int IntKind.i64 1) fun t127 =>
  jn1 (fun k24 =>
  gif t127 true
  (ixs 34 t123 (Value.int IntKind.i64 0) fun t130 =>
  rdS S (fun w => ldN 34 t130 w.heap) fun t131 =>
  rdS S (fun w => ldN 34 t3 w.heap) fun t132 =>
  efS S (cal P f_ref03_Same [t131, t132]) w fun t133 w =>
  k24 t133 w)
  (k24 undef w)) fun _ t133_1 w =>
  pik t127 t133_1 (Value.bool false) fun t134 =>
  R t134 w)))
theorem e_law23_live (w : World) (R : Value → World → Prop) : intp P A_law23_live (bodyOf Tryz.f6) (ini []) w (retK P Tryz.f6.results.toList R) (fun _ _ _ => False) (retK P Tryz.f6.results.toList R) = c_law23_live  w R := by kernel_rfl
theorem k_law23_live : chk P Tryz.f6.ntmps A_law23_live (bodyOf Tryz.f6) = true := by kernel_rfl
theorem l_law23_live {w : World} {R : Value → World → Prop} (h : c_law23_live w R) : cal P f_law23_live [] w R :=
  calls_of mixed Tryz.func6 rfl (by kernel_rfl) k_law23_live (Eq.mpr (e_law23_live w R) h)
theorem s_law23_live {w : World} {Q : Value → World → Prop} (h : ∀ R : Value → World → Prop, (∀ v w', Q v w' → R v w') → c_law23_live w R) : cal P f_law23_live [] w Q := l_law23_live (h Q fun _ _ h => h)

/-- flurry/flurrylaw23.few -/
def A_law23_few : An := (An.s (An.r []) (An.s (An.s (An.r []) (An.b (An.l [11] (An.s (An.r []) (An.s (An.s An.o An.o) (An.s (An.b (An.s (An.r []) (An.s (An.r [[24]]) (An.s (An.s (An.r []) An.o) An.o)))) (An.r []))))))) (An.s (An.r []) An.o)))
def c_law23_few (t0 : Value) (w : World) (R : Value → World → Prop) : Prop :=
  lenS t0 fun t7 =>
  rdP P (Builtin.min_ #[T_int, T_int] T_int #[t7, (Value.int IntKind.i64 100)]) w fun t8 =>
  slc 40 t0 none (some t8) fun t9 =>
  lenS t9 fun t10 =>
  lp1 (Value.int IntKind.i64 0) w fun _ t11 w again0 =>
  bi BinOp.lss t11 t10 fun t12 =>
  cnd t12
  (ixs 40 t9 t11 fun t13 =>
  ldN 40 t13 w.heap fun t14 =>
  efP P (Instr.alloc T_flurrylaw23_Act true (.tuple #[])) w fun t4 w =>
  stN 40 t4 t14 w fun w =>
  fad 2 t4 fun t15 =>
  ld1 t15 w.heap fun t16 =>
  lenS t16 fun t17 =>
  bi BinOp.gtr t17 (Value.int IntKind.i64 1000) fun t18 =>
  jn1 (fun k1 =>
  gif t18 false
  (fad 6 t4 fun t20 =>
  fad 33 t20 fun t21 =>
  ld1 t21 w.heap fun t22 =>
  lenS t22 fun t23 =>
  bi BinOp.gtr t23 (Value.int IntKind.i64 1000) fun t24 =>
  k1 t24 w)
  (k1 undef w)) fun _ t24_1 w =>
  pik t18 (Value.bool true) t24_1 fun t25 =>
  cnd t25
  (R (Value.bool false) w)
  (bi BinOp.add t11 (Value.int IntKind.i64 1) fun t26 =>
  again0 t26 w))
  (lenS t0 fun t28 =>
  bi BinOp.leq t28 (Value.int IntKind.i64 60) fun t29 =>
  R t29 w)
theorem e_law23_few (t0 : Value) (w : World) (R : Value → World → Prop) : intp P A_law23_few (bodyOf Tryz.f7) (ini [t0]) w (retK P Tryz.f7.results.toList R) (fun _ _ _ => False) (retK P Tryz.f7.results.toList R) = c_law23_few t0 w R := by kernel_rfl
theorem k_law23_few : chk P Tryz.f7.ntmps A_law23_few (bodyOf Tryz.f7) = true := by kernel_rfl
theorem l_law23_few {t0 : Value} {w : World} {R : Value → World → Prop} (h : c_law23_few t0 w R) : cal P f_law23_few [t0] w R :=
  calls_of mixed Tryz.func7 rfl (by kernel_rfl) k_law23_few (Eq.mpr (e_law23_few t0 w R) h)
theorem s_law23_few {t0 : Value} {w : World} {Q : Value → World → Prop} (h : ∀ R : Value → World → Prop, (∀ v w', Q v w' → R v w') → c_law23_few t0 w R) : cal P f_law23_few [t0] w Q := l_law23_few (h Q fun _ _ h => h)

/-- flurry/flurrylaw23.start -/
def A_law23_start : An := (An.s (An.r []) (An.s (An.r []) An.o))
def c_law23_start (w : World) (R : Value → World → Prop) : Prop :=
  efP P (Instr.alloc T_flurrylaw23_names true (.tuple #[])) w fun t0 w =>
  rdP P (Instr.build T_api_ID #[(0, (Value.int IntKind.u8 77))]) w fun t1 =>
  efP P (Instr.buildSlice T_sl_api_ID 1 #[(0, t1)]) w fun t2 w =>
  efP P (Instr.buildSlice T_sl_int64 1 #[(0, (Value.int IntKind.i64 3))]) w fun t3 w =>
  rdP P (Instr.build T_flurrylaw23_names #[(0, t2), (1, t3)]) w fun t4 =>
  stN 2 t0 t4 w fun w =>
  ldN 2 t0 w.heap fun r0 =>
  R r0 w
theorem e_law23_start (w : World) (R : Value → World → Prop) : intp P A_law23_start (bodyOf Tryz.f8) (ini []) w (retK P Tryz.f8.results.toList R) (fun _ _ _ => False) (retK P Tryz.f8.results.toList R) = c_law23_start  w R := by kernel_rfl
theorem k_law23_start : chk P Tryz.f8.ntmps A_law23_start (bodyOf Tryz.f8) = true := by kernel_rfl
theorem l_law23_start {w : World} {R : Value → World → Prop} (h : c_law23_start w R) : cal P f_law23_start [] w R :=
  calls_of mixed Tryz.func8 rfl (by kernel_rfl) k_law23_start (Eq.mpr (e_law23_start w R) h)
theorem s_law23_start {w : World} {Q : Value → World → Prop} (h : ∀ R : Value → World → Prop, (∀ v w', Q v w' → R v w') → c_law23_start w R) : cal P f_law23_start [] w Q := l_law23_start (h Q fun _ _ h => h)

/-- (*flurry/flurrylaw23.both).does -/
def A_law23_both_does : An := (An.s (An.r []) (An.s (An.s (An.r []) (An.b (An.s (An.r []) (An.s (An.s (An.dt (Pl.step 0 (Pl.step 1 (Pl.step 2 (Pl.step 3 (Pl.br (Pl.alt 4 (Pl.step 5 (Pl.step 6 Pl.nil)) (Pl.alt 5 (Pl.step 4 (Pl.step 6 Pl.nil)) Pl.non))))))) [4, 6] [5]) (An.s (An.r []) (An.s (An.dt (Pl.step 0 (Pl.step 1 (Pl.step 2 (Pl.step 3 (Pl.step 4 (Pl.br (Pl.alt 5 (Pl.step 6 (Pl.step 7 (Pl.step 8 (Pl.step 9 (Pl.step 10 (Pl.step 11 Pl.nil)))))) (Pl.alt 9 (Pl.step 5 (Pl.step 6 (Pl.step 7 (Pl.step 8 (Pl.step 10 (Pl.step 11 Pl.nil)))))) Pl.non)))))))) [5, 10] [7, 8]) (An.s (An.s (An.r []) (An.b (An.l [48] (An.s (An.r []) (An.s (An.s An.o An.o) (An.s (An.b (An.s (An.r []) (An.r []))) (An.r []))))))) (An.s (An.dt (Pl.step 0 (Pl.step 1 (Pl.step 2 (Pl.step 3 (Pl.step 4 (Pl.br (Pl.alt 5 (Pl.step 6 (Pl.step 7 (Pl.step 8 (Pl.step 9 (Pl.step 10 (Pl.step 11 Pl.nil)))))) (Pl.alt 9 (Pl.step 5 (Pl.step 6 (Pl.step 7 (Pl.step 8 (Pl.step 10 (Pl.step 11 Pl.nil)))))) Pl.non)))))))) [5, 10] [10, 11]) (An.s (An.r [[74]]) An.o)))))) (An.s (An.r []) (An.s (An.s (An.dt (Pl.step 0 (Pl.step 1 (Pl.step 2 (Pl.step 3 (Pl.step 4 (Pl.step 5 (Pl.step 6 (Pl.step 7 (Pl.step 8 (Pl.step 10 (Pl.step 11 (Pl.step 12 (Pl.br (Pl.alt 9 (Pl.step 13 (Pl.step 14 (Pl.step 15 Pl.nil))) (Pl.alt 14 (Pl.step 9 (Pl.step 13 (Pl.step 15 Pl.nil))) Pl.non))))))))))))))) [15] [12]) (An.s (An.dc [0, 1, 2, 3, 4, 6, 7, 8, 9, 10, 5, 11, 12, 13] [11] []) An.o)) (An.s (An.r []) (An.s (An.s (An.dc [0, 1, 2, 3, 4, 5, 6, 7, 8, 9, 10, 11, 12, 13, 14, 15] [10] []) (An.s (An.dc [0, 1, 2, 3, 4, 5, 6, 7, 8, 9, 10, 11, 12, 13, 14, 15] [10] []) (An.s (An.r [[141]]) (An.s (An.s (An.r []) (An.b (An.l [145] (An.s (An.r []) (An.s (An.s An.o An.o) (An.s (An.b (An.s (An.r []) (An.s (An.r []) (An.b (An.l [152] (An.s (An.r []) (An.s (An.s An.o An.o) (An.s (An.b (An.s (An.r []) (An.r []))) (An.r []))))))))) (An.r []))))))) (An.s (An.r []) An.o))))) (An.s (An.r []) (An.s (An.s (An.dc [0, 1, 2, 3, 4, 5, 6, 7, 8, 9, 10, 11, 12, 13, 14, 15] [10] []) (An.s (An.dc [0, 1, 2, 3, 4, 5, 6, 7, 8, 9, 10, 11, 12, 13, 14, 15] [10] []) (An.s (An.r [[201]]) An.o))) (An.s (An.r []) (An.s (An.s (An.dc [0, 1, 2, 3, 4, 5, 7, 8, 9, 10, 11, 12, 6, 13, 14, 15] [13] []) An.o) An.o)))))))))))) (An.s (An.r []) An.o)))
def c_law23_both_does (t0 t1 : Value) (w : World) (R : Value → World → Prop) : Prop :=
  bx T_flurrylaw23_Act t1 w fun t3 w =>
  fad 0 t3 fun t25 =>
  ld1 t25 w.heap fun t26 =>
  bi BinOp.eql t26 (Value.int IntKind.i64 0) fun t28 =>
  cnd t28
  (drH w fun S w =>
  jn1 (fun k0 =>
  nilc t0 fun t30 =>
  fad 2 t30 fun t31 =>
  rdS S (fun w => ldN 40 t3 w.heap) fun t32 =>
  (efC (cal P f_law23_names_block [t31, t32]) w fun S t33_1 w =>
  efS S (efP P (Instr.alloc T_api_Block true (.tuple #[]))) w fun t5_1 w =>
  efC (fun w K => stN 34 t5_1 t33_1 w (K undef)) w fun S _ w =>
  k0 t5_1 w) ∧
  ((efS S (efP P (Instr.alloc T_api_Block true (.tuple #[]))) w fun t5 w =>
  efC (cal P f_law23_names_block [t31, t32]) w fun S t33 w =>
  efC (fun w K => stN 34 t5 t33 w (K undef)) w fun S _ w =>
  k0 t5 w) ∧
  (True))) fun _ t5_2 w =>
  ldN 34 t5_2 w.heap fun t34 =>
  cal P f_ref03_Clone [t34] w fun t35 w =>
  efP P (Instr.alloc T_api_Block true (.tuple #[])) w fun t6 w =>
  stN 34 t6 t35 w fun w =>
  drH w fun S w =>
  jn2 (fun k1 =>
  nilc t0 fun t38 =>
  fad 0 t38 fun t39 =>
  rdS S (fun w => ld1 t39 w.heap) fun t40 =>
  rdS S (fun w => ldN 34 t6 w.heap) fun t41 =>
  (efC (cal P f_hold_Hold_Block [t40, t41]) w fun S t42_1 w =>
  ext 0 t42_1 fun t43_1 =>
  ext 1 t42_1 fun t44_1 =>
  efS S (efP P (Instr.alloc T_api_ID true (.tuple #[]))) w fun t7_1 w =>
  efC (fun w K => stN 32 t7_1 t43_1 w (K undef)) w fun S _ w =>
  k1 t7_1 t44_1 w) ∧
  ((efS S (efP P (Instr.alloc T_api_ID true (.tuple #[]))) w fun t7 w =>
  efC (cal P f_hold_Hold_Block [t40, t41]) w fun S t42 w =>
  ext 0 t42 fun t43 =>
  ext 1 t42 fun t44 =>
  efC (fun w K => stN 32 t7 t43 w (K undef)) w fun S _ w =>
  k1 t7 t44 w) ∧
  (True))) fun _ t7_2 t8 w =>
  fad 33 t6 fun t45 =>
  ld1 t45 w.heap fun t46 =>
  lenS t46 fun t47 =>
  lp1 (Value.int IntKind.i64 0) w fun _ t48 w again2 =>
  bi BinOp.lss t48 t47 fun t49 =>
  cnd t49
  (fad 33 t6 fun t51 =>
  ld1 t51 w.heap fun t52 =>
  ixs 1 t52 t48 fun t54 =>
  ld1 t54 w.heap fun t55 =>
  bi BinOp.xor t55 (Value.int IntKind.u8 255) fun t56 =>
  ixs 1 t52 t48 fun t57 =>
  st1 t57 t56 w fun w =>
  bi BinOp.add t48 (Value.int IntKind.i64 1) fun t58 =>
  again2 t58 w)
  (drH w fun S w =>
  jn2 (fun k3 =>
  nilc t0 fun t61 =>
  fad 1 t61 fun t62 =>
  rdS S (fun w => ld1 t62 w.heap) fun t63 =>
  rdS S (fun w => ldN 34 t5_2 w.heap) fun t64 =>
  (efC (cal P f_ref23_Hold_Block [t63, t64]) w fun S t65_1 w =>
  ext 0 t65_1 fun t66_1 =>
  ext 1 t65_1 fun t67_1 =>
  efS S (efP P (Instr.alloc T_api_ID true (.tuple #[]))) w fun t10_1 w =>
  efC (fun w K => stN 32 t10_1 t66_1 w (K undef)) w fun S _ w =>
  k3 t10_1 t67_1 w) ∧
  ((efS S (efP P (Instr.alloc T_api_ID true (.tuple #[]))) w fun t10 w =>
  efC (cal P f_ref23_Hold_Block [t63, t64]) w fun S t65 w =>
  ext 0 t65 fun t66 =>
  ext 1 t65 fun t67 =>
  efC (fun w K => stN 32 t10 t66 w (K undef)) w fun S _ w =>
  k3 t10 t67 w) ∧
  (True))) fun _ t10_2 t11 w =>
  ldN 32 t7_2 w.heap fun t68 =>
  ldN 32 t10_2 w.heap fun t69 =>
  rdP P (eqS BinOp.eql T_api_ID (Operand.tmp 68) (Operand.tmp 69) t68 t69) w fun t70 =>
  jn1 (fun k4 =>
  gif t70 true
  (bi BinOp.eql t8 t11 fun t74 =>
  k4 t74 w)
  (k4 undef w)) fun _ t74_1 w =>
  pik t70 t74_1 (Value.bool false) fun t75 =>
  R t75 w))
  (bi BinOp.eql t26 (Value.int IntKind.i64 1) fun t77 =>
  cnd t77
  (drH w fun S w =>
  jn1 (fun k5 =>
  fad 3 t3 fun t78 =>
  rdS S (fun w => ld1 t78 w.heap) fun t79 =>
  fad 4 t3 fun t80 =>
  rdS S (fun w => ld1 t80 w.heap) fun t81 =>
  nilc t0 fun t83 =>
  fad 2 t83 fun t84 =>
  fad 1 t3 fun t85 =>
  rdS S (fun w => ld1 t85 w.heap) fun t86 =>
  fad 1 t3 fun t88 =>
  rdS S (fun w => ld1 t88 w.heap) fun t89 =>
  rdS S (rdP P (Instr.build T_api_ID #[(0, t89)])) fun t90 =>
  (efS S (cal P f_law23_names_id [t84, t86]) w fun t87_1 w =>
  rdS S (rdP P (Instr.build T_api_HeldVote #[(0, t79), (1, t81), (2, t87_1), (3, t90)])) fun t91_1 =>
  efS S (efP P (Instr.alloc T_api_HeldVote true (.tuple #[]))) w fun t12_1 w =>
  efC (fun w K => stN 66 t12_1 t91_1 w (K undef)) w fun S _ w =>
  k5 t12_1 w) ∧
  ((efS S (efP P (Instr.alloc T_api_HeldVote true (.tuple #[]))) w fun t12 w =>
  efS S (cal P f_law23_names_id [t84, t86]) w fun t87 w =>
  rdS S (rdP P (Instr.build T_api_HeldVote #[(0, t79), (1, t81), (2, t87), (3, t90)])) fun t91 =>
  efC (fun w K => stN 66 t12 t91 w (K undef)) w fun S _ w =>
  k5 t12 w) ∧
  (True))) fun _ t12_2 w =>
  drH w fun S w =>
  nilc t0 fun t93 =>
  fad 0 t93 fun t94 =>
  rdS S (fun w => ld1 t94 w.heap) fun t95 =>
  rdS S (fun w => ldN 66 t12_2 w.heap) fun t96 =>
  nilc t0 fun t99 =>
  fad 1 t99 fun t100 =>
  rdS S (fun w => ld1 t100 w.heap) fun t101 =>
  rdS S (fun w => ldN 66 t12_2 w.heap) fun t102 =>
  efS S (cal P f_hold_Hold_Vote [t95, t96]) w fun t97 w =>
  efC (cal P f_ref23_Hold_Vote [t101, t102]) w fun S t103 w =>
  bi BinOp.eql t97 t103 fun t104 =>
  R t104 w)
  (bi BinOp.eql t26 (Value.int IntKind.i64 2) fun t106 =>
  cnd t106
  (drH w fun S w =>
  nilc t0 fun t109 =>
  fad 0 t109 fun t110 =>
  rdS S (fun w => ld1 t110 w.heap) fun t111 =>
  nilc t0 fun t113 =>
  fad 2 t113 fun t114 =>
  fad 1 t3 fun t115 =>
  rdS S (fun w => ld1 t115 w.heap) fun t116 =>
  efS S (cal P f_law23_names_id [t114, t116]) w fun t117 w =>
  efC (cal P f_hold_Hold_Came [t111, t117]) w fun S t118 w =>
  ext 0 t118 fun t119 =>
  ext 1 t118 fun t120 =>
  drH w fun S w =>
  nilc t0 fun t123 =>
  fad 1 t123 fun t124 =>
  rdS S (fun w => ld1 t124 w.heap) fun t125 =>
  nilc t0 fun t127 =>
  fad 2 t127 fun t128 =>
  fad 1 t3 fun t129 =>
  rdS S (fun w => ld1 t129 w.heap) fun t130 =>
  efS S (cal P f_law23_names_id [t128, t130]) w fun t131 w =>
  efC (cal P f_ref23_Hold_Came [t125, t131]) w fun S t132 w =>
  ext 0 t132 fun t133 =>
  ext 1 t132 fun t134 =>
  cal P f_ref23_SameBlocks [t119, t133] w fun t137 w =>
  jn1 (fun k6 =>
  gif t137 true
  (cal P f_slices_Equal_api_HeldVote_api_HeldVote [t120, t134] w fun t141 w =>
  k6 t141 w)
  (k6 undef w)) fun _ t141_1 w =>
  pik t137 t141_1 (Value.bool false) fun t142 =>
  lenS t119 fun t144 =>
  lp1 (Value.int IntKind.i64 0) w fun _ t145 w again7 =>
  bi BinOp.lss t145 t144 fun t146 =>
  cnd t146
  (ixs 34 t119 t145 fun t147 =>
  ldN 34 t147 w.heap fun t148 =>
  efP P (Instr.alloc T_api_Block true (.tuple #[])) w fun t19 w =>
  stN 34 t19 t148 w fun w =>
  fad 33 t19 fun t149 =>
  ld1 t149 w.heap fun t150 =>
  lenS t150 fun t151 =>
  lp1 (Value.int IntKind.i64 0) w fun _ t152 w again8 =>
  bi BinOp.lss t152 t151 fun t153 =>
  cnd t153
  (fad 33 t19 fun t155 =>
  ld1 t155 w.heap fun t156 =>
  ixs 1 t156 t152 fun t158 =>
  ld1 t158 w.heap fun t159 =>
  bi BinOp.xor t159 (Value.int IntKind.u8 255) fun t160 =>
  ixs 1 t156 t152 fun t161 =>
  st1 t161 t160 w fun w =>
  bi BinOp.add t152 (Value.int IntKind.i64 1) fun t162 =>
  again8 t162 w)
  (bi BinOp.add t145 (Value.int IntKind.i64 1) fun t163 =>
  again7 t163 w))
  (R t142 w))
  (bi BinOp.eql t26 (Value.int IntKind.i64 3) fun t166 =>
  cnd t166
  (drH w fun S w =>
  nilc t0 fun t169 =>
  fad 0 t169 fun t170 =>
  rdS S (fun w => ld1 t170 w.heap) fun t171 =>
  nilc t0 fun t173 =>
  fad 2 t173 fun t174 =>
  fad 1 t3 fun t175 =>
  rdS S (fun w => ld1 t175 w.heap) fun t176 =>
  efS S (cal P f_law23_names_id [t174, t176]) w fun t177 w =>
  efC (cal P f_hold_Hold_Lost [t171, t177]) w fun S t178 w =>
  ext 0 t178 fun t179 =>
  ext 1 t178 fun t180 =>
  drH w fun S w =>
  nilc t0 fun t183 =>
  fad 1 t183 fun t184 =>
  rdS S (fun w => ld1 t184 w.heap) fun t185 =>
  nilc t0 fun t187 =>
  fad 2 t187 fun t188 =>
  fad 1 t3 fun t189 =>
  rdS S (fun w => ld1 t189 w.heap) fun t190 =>
  efS S (cal P f_law23_names_id [t188, t190]) w fun t191 w =>
  efC (cal P f_ref23_Hold_Lost [t185, t191]) w fun S t192 w =>
  ext 0 t192 fun t193 =>
  ext 1 t192 fun t194 =>
  cal P f_slices_Equal_api_ID_api_ID [t179, t193] w fun t197 w =>
  jn1 (fun k9 =>
  gif t197 true
  (cal P f_slices_Equal_api_HeldVote_api_HeldVote [t180, t194] w fun t201 w =>
  k9 t201 w)
  (k9 undef w)) fun _ t201_1 w =>
  pik t197 t201_1 (Value.bool false) fun t202 =>
  R t202 w)
  (bi BinOp.eql t26 (Value.int IntKind.i64 4) fun t204 =>
  cnd t204
  (drH w fun S w =>
  nilc t0 fun t206 =>
  fad 0 t206 fun t207 =>
  rdS S (fun w => ld1 t207 w.heap) fun t208 =>
  fad 3 t3 fun t209 =>
  rdS S (fun w => ld1 t209 w.heap) fun t210 =>
  nilc t0 fun t213 =>
  fad 1 t213 fun t214 =>
  rdS S (fun w => ld1 t214 w.heap) fun t215 =>
  fad 3 t3 fun t216 =>
  rdS S (fun w => ld1 t216 w.heap) fun t217 =>
  efS S (cal P f_hold_Hold_Drop [t208, t210]) w fun t211 w =>
  efC (cal P f_ref23_Hold_Drop [t215, t217]) w fun S t218 w =>
  bi BinOp.eql t211 t218 fun t219 =>
  R t219 w)
  (R (Value.bool true) w)))))
theorem e_law23_both_does (t0 t1 : Value) (w : World) (R : Value → World → Prop) : intp P A_law23_both_does (bodyOf Tryz.f9) (ini [t0, t1]) w (retK P Tryz.f9.results.toList R) (fun _ _ _ => False) (retK P Tryz.f9.results.toList R) = c_law23_both_does t0 t1 w R := by kernel_rfl
theorem k_law23_both_does : chk P Tryz.f9.ntmps A_law23_both_does (bodyOf Tryz.f9) = true := by kernel_rfl
theorem l_law23_both_does {t0 t1 : Value} {w : World} {R : Value → World → Prop} (h : c_law23_both_does t0 t1 w R) : cal P f_law23_both_does [t0, t1] w R :=
  calls_of mixed Tryz.func9 rfl (by kernel_rfl) k_law23_both_does (Eq.mpr (e_law23_both_does t0 t1 w R) h)
theorem s_law23_both_does {t0 t1 : Value} {w : World} {Q : Value → World → Prop} (h : ∀ R : Value → World → Prop, (∀ v w', Q v w' → R v w') → c_law23_both_does t0 t1 w R) : cal P f_law23_both_does [t0, t1] w Q := l_law23_both_does (h Q fun _ _ h => h)

/-- (*flurry/flurrylaw23.both).alike -/
def A_law23_both_alike : An := (An.s (An.r []) (An.s (An.r []) (An.s (An.s (An.d [0, 1, 2, 3, 4, 5, 6, 7, 8, 9, 10, 11, 12, 13, 14, 15, 16, 17, 18, 19, 20, 21, 22, 23, 24, 25, 26, 28, 29, 30, 31, 27, 32, 33, 34, 35] [[41], [55]]) (An.s (An.s (An.r []) An.o) An.o)) (An.s (An.s (An.r []) (An.b (An.l [63] (An.s (An.r []) (An.s (An.s An.o An.o) (An.s (An.b (An.s (An.r []) (An.s (An.dt (Pl.step 0 (Pl.step 1 (Pl.step 2 (Pl.step 3 (Pl.step 4 (Pl.br (Pl.alt 5 (Pl.step 6 (Pl.step 7 (Pl.step 8 (Pl.step 9 (Pl.step 10 (Pl.step 11 Pl.nil)))))) (Pl.alt 9 (Pl.step 5 (Pl.step 6 (Pl.step 7 (Pl.step 8 (Pl.step 10 (Pl.step 11 Pl.nil)))))) Pl.non)))))))) [5, 10] [7, 8]) (An.s (An.dt (Pl.step 0 (Pl.step 1 (Pl.step 2 (Pl.step 3 (Pl.step 4 (Pl.br (Pl.alt 5 (Pl.step 6 (Pl.step 7 (Pl.step 8 (Pl.step 9 (Pl.step 10 (Pl.step 11 Pl.nil)))))) (Pl.alt 9 (Pl.step 5 (Pl.step 6 (Pl.step 7 (Pl.step 8 (Pl.step 10 (Pl.step 11 Pl.nil)))))) Pl.non)))))))) [5, 10] [9, 10]) (An.s (An.s (An.dc [0, 1, 2, 3, 4, 5, 6, 7, 8, 9, 10, 11, 12, 13, 14, 16, 17, 18, 19, 20, 15, 21, 22, 23, 24, 25, 26, 27, 28, 29, 31, 32, 33, 34, 35, 30, 36, 37, 38] [2] [[92], [107], [122]]) (An.s (An.s (An.r []) An.o) An.o)) (An.s (An.r []) (An.b (An.l [127] (An.s (An.r []) (An.s (An.s An.o An.o) (An.s (An.b (An.s (An.r []) (An.r []))) (An.r [])))))))))))) (An.r []))))))) (An.s (An.s (An.r []) (An.b (An.l [12] (An.s (An.s (An.r []) (An.s An.o An.o)) (An.s (An.b (An.s (An.dc [0, 1, 2, 3, 4, 6, 7, 8, 9, 10, 5, 11, 12] [11] []) (An.s (An.s (An.r []) An.o) An.o))) (An.r [])))))) (An.s (An.r []) An.o))))))
def c_law23_both_alike (t0 : Value) (w : World) (R : Value → World → Prop) : Prop :=
  nilc t0 fun t15 =>
  fad 0 t15 fun t16 =>
  ld1 t16 w.heap fun t17 =>
  cal P f_hold_Hold_Len [t17] w fun t18 w =>
  ext 0 t18 fun t19 =>
  ext 1 t18 fun t20 =>
  drH w fun S w =>
  nilc t0 fun t23 =>
  fad 1 t23 fun t24 =>
  rdS S (fun w => ld1 t24 w.heap) fun t25 =>
  nilc t25 fun t26 =>
  fad 2 t26 fun t27 =>
  rdS S (fun w => ld1 t27 w.heap) fun t28 =>
  lenS t28 fun t29 =>
  bi BinOp.neq t19 t29 fun t30 =>
  jn1 (fun k0 =>
  gif t30 false
  (nilc t0 fun t34 =>
  fad 1 t34 fun t35 =>
  rdS S (fun w => ld1 t35 w.heap) fun t36 =>
  nilc t36 fun t37 =>
  fad 3 t37 fun t38 =>
  rdS S (fun w => ld1 t38 w.heap) fun t39 =>
  lenS t39 fun t40 =>
  bi BinOp.neq t20 t40 fun t41 =>
  k0 t41 w)
  (k0 undef w)) fun _ t41_1 w =>
  pik t30 (Value.bool true) t41_1 fun t42 =>
  jn1 (fun k1 =>
  gif t42 false
  (nilc t0 fun t45 =>
  fad 0 t45 fun t46 =>
  rdS S (fun w => ld1 t46 w.heap) fun t47 =>
  nilc t0 fun t50 =>
  fad 1 t50 fun t51 =>
  rdS S (fun w => ld1 t51 w.heap) fun t52 =>
  efS S (cal P f_hold_Hold_Wanted [t47]) w fun t48 w =>
  efS S (cal P f_ref23_Hold_Wanted [t52]) w fun t53 w =>
  efS S (cal P f_slices_Equal_api_ID_api_ID [t48, t53]) w fun t54 w =>
  notB t54 fun t55 =>
  k1 t55 w)
  (k1 undef w)) fun _ t55_1 w =>
  pik t42 (Value.bool true) t55_1 fun t56 =>
  cnd t56
  (R (Value.bool false) w)
  (nilc t0 fun t58 =>
  fad 2 t58 fun t59 =>
  fad 0 t59 fun t60 =>
  ld1 t60 w.heap fun t61 =>
  lenS t61 fun t62 =>
  lp1 (Value.int IntKind.i64 0) w fun _ t63 w again2 =>
  bi BinOp.lss t63 t62 fun t64 =>
  cnd t64
  (ixs 32 t61 t63 fun t65 =>
  ldN 32 t65 w.heap fun t66 =>
  efP P (Instr.alloc T_api_ID true (.tuple #[])) w fun t6 w =>
  stN 32 t6 t66 w fun w =>
  drH w fun S w =>
  jn2 (fun k3 =>
  nilc t0 fun t69 =>
  fad 0 t69 fun t70 =>
  rdS S (fun w => ld1 t70 w.heap) fun t71 =>
  rdS S (fun w => ldN 32 t6 w.heap) fun t72 =>
  (efC (cal P f_hold_Hold_Get [t71, t72]) w fun S t73_1 w =>
  ext 0 t73_1 fun t74_1 =>
  ext 1 t73_1 fun t75_1 =>
  efS S (efP P (Instr.alloc T_api_Block true (.tuple #[]))) w fun t7_1 w =>
  efC (fun w K => stN 34 t7_1 t74_1 w (K undef)) w fun S _ w =>
  k3 t7_1 t75_1 w) ∧
  ((efS S (efP P (Instr.alloc T_api_Block true (.tuple #[]))) w fun t7 w =>
  efC (cal P f_hold_Hold_Get [t71, t72]) w fun S t73 w =>
  ext 0 t73 fun t74 =>
  ext 1 t73 fun t75 =>
  efC (fun w K => stN 34 t7 t74 w (K undef)) w fun S _ w =>
  k3 t7 t75 w) ∧
  (True))) fun _ t7_2 t8 w =>
  drH w fun S w =>
  jn2 (fun k4 =>
  nilc t0 fun t78 =>
  fad 1 t78 fun t79 =>
  rdS S (fun w => ld1 t79 w.heap) fun t80 =>
  rdS S (fun w => ldN 32 t6 w.heap) fun t81 =>
  (efC (cal P f_ref23_Hold_Get [t80, t81]) w fun S t82_1 w =>
  ext 0 t82_1 fun t83_1 =>
  ext 1 t82_1 fun t84_1 =>
  efS S (efP P (Instr.alloc T_api_Block true (.tuple #[]))) w fun t9_1 w =>
  efC (fun w K => stN 34 t9_1 t83_1 w (K undef)) w fun S _ w =>
  k4 t9_1 t84_1 w) ∧
  ((efS S (efP P (Instr.alloc T_api_Block true (.tuple #[]))) w fun t9 w =>
  efC (cal P f_ref23_Hold_Get [t80, t81]) w fun S t82 w =>
  ext 0 t82 fun t83 =>
  ext 1 t82 fun t84 =>
  efC (fun w K => stN 34 t9 t83 w (K undef)) w fun S _ w =>
  k4 t9 t84 w) ∧
  (True))) fun _ t9_2 t10 w =>
  drH w fun S w =>
  rdS S (fun w => ldN 34 t7_2 w.heap) fun t85 =>
  rdS S (fun w => ldN 34 t9_2 w.heap) fun t86 =>
  efC (cal P f_ref03_Same [t85, t86]) w fun S t87 w =>
  notB t87 fun t88 =>
  jn1 (fun k5 =>
  gif t88 false
  (bi BinOp.neq t8 t10 fun t92 =>
  k5 t92 w)
  (k5 undef w)) fun _ t92_1 w =>
  pik t88 (Value.bool true) t92_1 fun t93 =>
  jn1 (fun k6 =>
  gif t93 false
  (nilc t0 fun t96 =>
  fad 0 t96 fun t97 =>
  rdS S (fun w => ld1 t97 w.heap) fun t98 =>
  rdS S (fun w => ldN 32 t6 w.heap) fun t99 =>
  nilc t0 fun t102 =>
  fad 1 t102 fun t103 =>
  rdS S (fun w => ld1 t103 w.heap) fun t104 =>
  rdS S (fun w => ldN 32 t6 w.heap) fun t105 =>
  efS S (cal P f_hold_Hold_Has [t98, t99]) w fun t100 w =>
  efS S (cal P f_ref23_Hold_Has [t104, t105]) w fun t106 w =>
  rdS S (rdP P (eqS BinOp.neq T_bool (Operand.tmp 100) (Operand.tmp 106) t100 t106)) fun t107 =>
  k6 t107 w)
  (k6 undef w)) fun _ t107_1 w =>
  pik t93 (Value.bool true) t107_1 fun t108 =>
  jn1 (fun k7 =>
  gif t108 false
  (nilc t0 fun t111 =>
  fad 0 t111 fun t112 =>
  rdS S (fun w => ld1 t112 w.heap) fun t113 =>
  rdS S (fun w => ldN 32 t6 w.heap) fun t114 =>
  nilc t0 fun t117 =>
  fad 1 t117 fun t118 =>
  rdS S (fun w => ld1 t118 w.heap) fun t119 =>
  rdS S (fun w => ldN 32 t6 w.heap) fun t120 =>
  efS S (cal P f_hold_Hold_Wants [t113, t114]) w fun t115 w =>
  efS S (cal P f_ref23_Hold_Wants [t119, t120]) w fun t121 w =>
  rdS S (rdP P (eqS BinOp.neq T_bool (Operand.tmp 115) (Operand.tmp 121) t115 t121)) fun t122 =>
  k7 t122 w)
  (k7 undef w)) fun _ t122_1 w =>
  pik t108 (Value.bool true) t122_1 fun t123 =>
  cnd t123
  (R (Value.bool false) w)
  (fad 33 t7_2 fun t124 =>
  ld1 t124 w.heap fun t125 =>
  lenS t125 fun t126 =>
  lp1 (Value.int IntKind.i64 0) w fun _ t127 w again8 =>
  bi BinOp.lss t127 t126 fun t128 =>
  cnd t128
  (fad 33 t7_2 fun t130 =>
  ld1 t130 w.heap fun t131 =>
  ixs 1 t131 t127 fun t133 =>
  ld1 t133 w.heap fun t134 =>
  bi BinOp.xor t134 (Value.int IntKind.u8 255) fun t135 =>
  ixs 1 t131 t127 fun t136 =>
  st1 t136 t135 w fun w =>
  bi BinOp.add t127 (Value.int IntKind.i64 1) fun t137 =>
  again8 t137 w)
  (bi BinOp.add t63 (Value.int IntKind.i64 1) fun t138 =>
  again2 t138 w)))
  (lp1 (Value.int IntKind.i64 (-1)) w fun _ t12 w again9 =>
  bi BinOp.lss t12 (Value.int IntKind.i64 4) fun t140 =>
  cnd t140
  (drH w fun S w =>
  nilc t0 fun t144 =>
  fad 0 t144 fun t145 =>
  rdS S (fun w => ld1 t145 w.heap) fun t146 =>
  nilc t0 fun t150 =>
  fad 1 t150 fun t151 =>
  rdS S (fun w => ld1 t151 w.heap) fun t152 =>
  efS S (cal P f_hold_Hold_Votes [t146, t12]) w fun t148 w =>
  efC (cal P f_ref23_Hold_Votes [t152, t12]) w fun S t154 w =>
  bi BinOp.neq t148 t154 fun t155 =>
  cnd t155
  (R (Value.bool false) w)
  (bi BinOp.add t12 (Value.int IntKind.i64 1) fun t142 =>
  again9 t142 w))
  (R (Value.bool true) w)))
theorem e_law23_both_alike (t0 : Value) (w : World) (R : Value → World → Prop) : intp P A_law23_both_alike (bodyOf Tryz.f10) (ini [t0]) w (retK P Tryz.f10.results.toList R) (fun _ _ _ => False) (retK P Tryz.f10.results.toList R) = c_law23_both_alike t0 w R := by kernel_rfl
theorem k_law23_both_alike : chk P Tryz.f10.ntmps A_law23_both_alike (bodyOf Tryz.f10) = true := by kernel_rfl
theorem l_law23_both_alike {t0 : Value} {w : World} {R : Value → World → Prop} (h : c_law23_both_alike t0 w R) : cal P f_law23_both_alike [t0] w R :=
  calls_of mixed Tryz.func10 rfl (by kernel_rfl) k_law23_both_alike (Eq.mpr (e_law23_both_alike t0 w R) h)
theorem s_law23_both_alike {t0 : Value} {w : World} {Q : Value → World → Prop} (h : ∀ R : Value → World → Prop, (∀ v w', Q v w' → R v w') → c_law23_both_alike t0 w R) : cal P f_law23_both_alike [t0] w Q := l_law23_both_alike (h Q fun _ _ h => h)

/-- (*flurry/hold.Hold).Clone -/
def A_hold_Hold_Clone : An := (An.s (An.r []) (An.s (An.s (An.r []) (An.s (An.s (An.r []) An.o) An.o)) (An.s (An.r []) (An.s (An.r []) (An.s (An.r []) (An.s (An.r []) An.o))))))
def c_hold_Hold_Clone (t0 : Value) (w : World) (R : Value → World → Prop) : Prop :=
  cal P f_hold_Hold_none [t0] w fun t5 w =>
  cnd t5
  (R (Value.pointer none) w)
  (nilc t0 fun t7 =>
  ldN 5 t7 w.heap fun t8 =>
  efP P (Instr.alloc T_hold_Hold true (.tuple #[])) w fun t3 w =>
  stN 5 t3 t8 w fun w =>
  nilc t0 fun t10 =>
  fad 3 t10 fun t11 =>
  ld1 t11 w.heap fun t12 =>
  cal P f_slices_Clone_hold_waiting_hold_waiting [t12] w fun t13 w =>
  fad 3 t3 fun t14 =>
  st1 t14 t13 w fun w =>
  nilc t0 fun t16 =>
  fad 4 t16 fun t17 =>
  ld1 t17 w.heap fun t18 =>
  cal P f_slices_Clone_api_HeldVote_api_HeldVote [t18] w fun t19 w =>
  fad 4 t3 fun t20 =>
  st1 t20 t19 w fun w =>
  R t3 w)
theorem e_hold_Hold_Clone (t0 : Value) (w : World) (R : Value → World → Prop) : intp P A_hold_Hold_Clone (bodyOf Tryz.f11) (ini [t0]) w (retK P Tryz.f11.results.toList R) (fun _ _ _ => False) (retK P Tryz.f11.results.toList R) = c_hold_Hold_Clone t0 w R := by kernel_rfl
theorem k_hold_Hold_Clone : chk P Tryz.f11.ntmps A_hold_Hold_Clone (bodyOf Tryz.f11) = true := by kernel_rfl
theorem l_hold_Hold_Clone {t0 : Value} {w : World} {R : Value → World → Prop} (h : c_hold_Hold_Clone t0 w R) : cal P f_hold_Hold_Clone [t0] w R :=
  calls_of mixed Tryz.func11 rfl (by kernel_rfl) k_hold_Hold_Clone (Eq.mpr (e_hold_Hold_Clone t0 w R) h)
theorem s_hold_Hold_Clone {t0 : Value} {w : World} {Q : Value → World → Prop} (h : ∀ R : Value → World → Prop, (∀ v w', Q v w' → R v w') → c_hold_Hold_Clone t0 w R) : cal P f_hold_Hold_Clone [t0] w Q := l_hold_Hold_Clone (h Q fun _ _ h => h)

/-- (*flurry/flurryref23.Hold).Clone -/
def A_ref23_Hold_Clone : An := (An.s (An.r []) (An.s (An.dc [0, 1, 2, 3, 4, 5, 6, 7, 8, 9, 10] [9] []) (An.s (An.dc [0, 1, 2, 3, 4, 5, 6, 7, 8, 9, 10, 11, 12] [9, 12] []) (An.s (An.dc [0, 1, 2, 3, 4, 5, 6, 7, 8, 9, 10, 11, 12] [9, 12] []) (An.s (An.r []) An.o)))))
def c_ref23_Hold_Clone (t0 : Value) (w : World) (R : Value → World → Prop) : Prop :=
  drH w fun S w =>
  nilc t0 fun t5 =>
  fad 0 t5 fun t6 =>
  rdS S (fun w => ld1 t6 w.heap) fun t7 =>
  nilc t0 fun t9 =>
  fad 1 t9 fun t10 =>
  rdS S (fun w => ld1 t10 w.heap) fun t11 =>
  rdS S (rdP P (Instr.build T_flurryref23_Hold #[(0, t7), (1, t11)])) fun t12 =>
  efC (bx T_flurryref23_Hold t12) w fun S t13 w =>
  drH w fun S w =>
  nilc t13 fun t16 =>
  fad 2 t16 fun t17 =>
  rdS S (fun w => ld1 t17 w.heap) fun t18 =>
  nilc t0 fun t20 =>
  fad 2 t20 fun t21 =>
  rdS S (fun w => ld1 t21 w.heap) fun t22 =>
  efC (efP P (Builtin.append_ #[T_sl_flurryref23_Node, T_sl_flurryref23_Node] T_sl_flurryref23_Node #[t18, t22])) w fun S t23 w =>
  nilc t13 fun t24 =>
  fad 2 t24 fun t25 =>
  efC (fun w K => st1 t25 t23 w (K undef)) w fun S _ w =>
  drH w fun S w =>
  nilc t13 fun t28 =>
  fad 3 t28 fun t29 =>
  rdS S (fun w => ld1 t29 w.heap) fun t30 =>
  nilc t0 fun t32 =>
  fad 3 t32 fun t33 =>
  rdS S (fun w => ld1 t33 w.heap) fun t34 =>
  efC (efP P (Builtin.append_ #[T_sl_api_HeldVote, T_sl_api_HeldVote] T_sl_api_HeldVote #[t30, t34])) w fun S t35 w =>
  nilc t13 fun t36 =>
  fad 3 t36 fun t37 =>
  efC (fun w K => st1 t37 t35 w (K undef)) w fun S _ w =>
  R t13 w
theorem e_ref23_Hold_Clone (t0 : Value) (w : World) (R : Value → World → Prop) : intp P A_ref23_Hold_Clone (bodyOf Tryz.f12) (ini [t0]) w (retK P Tryz.f12.results.toList R) (fun _ _ _ => False) (retK P Tryz.f12.results.toList R) = c_ref23_Hold_Clone t0 w R := by kernel_rfl
theorem k_ref23_Hold_Clone : chk P Tryz.f12.ntmps A_ref23_Hold_Clone (bodyOf Tryz.f12) = true := by kernel_rfl
theorem l_ref23_Hold_Clone {t0 : Value} {w : World} {R : Value → World → Prop} (h : c_ref23_Hold_Clone t0 w R) : cal P f_ref23_Hold_Clone [t0] w R :=
  calls_of mixed Tryz.func12 rfl (by kernel_rfl) k_ref23_Hold_Clone (Eq.mpr (e_ref23_Hold_Clone t0 w R) h)
theorem s_ref23_Hold_Clone {t0 : Value} {w : World} {Q : Value → World → Prop} (h : ∀ R : Value → World → Prop, (∀ v w', Q v w' → R v w') → c_ref23_Hold_Clone t0 w R) : cal P f_ref23_Hold_Clone [t0] w Q := l_ref23_Hold_Clone (h Q fun _ _ h => h)

/-- slices.Clone[[]flurry/api.ID,flurry/api.ID] -/
def A_slices_Clone_api_ID_api_ID : An := (An.s (An.r []) (An.s (An.s (An.r []) (An.s (An.s (An.r []) An.o) An.o)) (An.s (An.r []) An.o)))
def c_slices_Clone_api_ID_api_ID (t0 : Value) (w : World) (R : Value → World → Prop) : Prop :=
  nilS false t0 fun t4 =>
  cnd t4
  (R (Value.slice none 0 0) w)
  (efP P (Instr.buildSlice T_sl_api_ID 0 #[]) w fun t5 w =>
  efP P (Builtin.append_ #[T_sl_api_ID, T_sl_api_ID] T_sl_api_ID #[t5, t0]) w fun t7 w =>
  R t7 w)
theorem e_slices_Clone_api_ID_api_ID (t0 : Value) (w : World) (R : Value → World → Prop) : intp P A_slices_Clone_api_ID_api_ID (bodyOf Tryz.f13) (ini [t0]) w (retK P Tryz.f13.results.toList R) (fun _ _ _ => False) (retK P Tryz.f13.results.toList R) = c_slices_Clone_api_ID_api_ID t0 w R := by kernel_rfl
theorem k_slices_Clone_api_ID_api_ID : chk P Tryz.f13.ntmps A_slices_Clone_api_ID_api_ID (bodyOf Tryz.f13) = true := by kernel_rfl
theorem l_slices_Clone_api_ID_api_ID {t0 : Value} {w : World} {R : Value → World → Prop} (h : c_slices_Clone_api_ID_api_ID t0 w R) : cal P f_slices_Clone_api_ID_api_ID [t0] w R :=
  calls_of mixed Tryz.func13 rfl (by kernel_rfl) k_slices_Clone_api_ID_api_ID (Eq.mpr (e_slices_Clone_api_ID_api_ID t0 w R) h)
theorem s_slices_Clone_api_ID_api_ID {t0 : Value} {w : World} {Q : Value → World → Prop} (h : ∀ R : Value → World → Prop, (∀ v w', Q v w' → R v w') → c_slices_Clone_api_ID_api_ID t0 w R) : cal P f_slices_Clone_api_ID_api_ID [t0] w Q := l_slices_Clone_api_ID_api_ID (h Q fun _ _ h => h)

/-- slices.Clone[[]int64,int64] -/
def A_slices_Clone_int64_int64 : An := (An.s (An.r []) (An.s (An.s (An.r []) (An.s (An.s (An.r []) An.o) An.o)) (An.s (An.r []) An.o)))
def c_slices_Clone_int64_int64 (t0 : Value) (w : World) (R : Value → World → Prop) : Prop :=
  nilS false t0 fun t4 =>
  cnd t4
  (R (Value.slice none 0 0) w)
  (efP P (Instr.buildSlice T_sl_int64 0 #[]) w fun t5 w =>
  efP P (Builtin.append_ #[T_sl_int64, T_sl_int64] T_sl_int64 #[t5, t0]) w fun t7 w =>
  R t7 w)
theorem e_slices_Clone_int64_int64 (t0 : Value) (w : World) (R : Value → World → Prop) : intp P A_slices_Clone_int64_int64 (bodyOf Tryz.f14) (ini [t0]) w (retK P Tryz.f14.results.toList R) (fun _ _ _ => False) (retK P Tryz.f14.results.toList R) = c_slices_Clone_int64_int64 t0 w R := by kernel_rfl
theorem k_slices_Clone_int64_int64 : chk P Tryz.f14.ntmps A_slices_Clone_int64_int64 (bodyOf Tryz.f14) = true := by kernel_rfl
theorem l_slices_Clone_int64_int64 {t0 : Value} {w : World} {R : Value → World → Prop} (h : c_slices_Clone_int64_int64 t0 w R) : cal P f_slices_Clone_int64_int64 [t0] w R :=
  calls_of mixed Tryz.func14 rfl (by kernel_rfl) k_slices_Clone_int64_int64 (Eq.mpr (e_slices_Clone_int64_int64 t0 w R) h)
theorem s_slices_Clone_int64_int64 {t0 : Value} {w : World} {Q : Value → World → Prop} (h : ∀ R : Value → World → Prop, (∀ v w', Q v w' → R v w') → c_slices_Clone_int64_int64 t0 w R) : cal P f_slices_Clone_int64_int64 [t0] w Q := l_slices_Clone_int64_int64 (h Q fun _ _ h => h)

/-- flurry/block.First -/
def A_block_First : An := (An.s (An.r []) (An.s (An.r []) An.o))
def c_block_First (t0 : Value) (w : World) (R : Value → World → Prop) : Prop :=
  efP P (Instr.alloc T_api_Block true (.tuple #[])) w fun t2 w =>
  rdP P (Instr.build T_api_Block #[(2, t0)]) w fun t5 =>
  cal P f_block_made [t5] w fun t6 w =>
  ext 0 t6 fun t7 =>
  ext 1 t6 fun t8 =>
  stN 34 t2 t7 w fun w =>
  ldN 34 t2 w.heap fun r0 =>
  R (Value.tuple #[r0, t8]) w
theorem e_block_First (t0 : Value) (w : World) (R : Value → World → Prop) : intp P A_block_First (bodyOf Tryz.f15) (ini [t0]) w (retK P Tryz.f15.results.toList R) (fun _ _ _ => False) (retK P Tryz.f15.results.toList R) = c_block_First t0 w R := by kernel_rfl
theorem k_block_First : chk P Tryz.f15.ntmps A_block_First (bodyOf Tryz.f15) = true := by kernel_rfl
theorem l_block_First {t0 : Value} {w : World} {R : Value → World → Prop} (h : c_block_First t0 w R) : cal P f_block_First [t0] w R :=
  calls_of mixed Tryz.func15 rfl (by kernel_rfl) k_block_First (Eq.mpr (e_block_First t0 w R) h)
theorem s_block_First {t0 : Value} {w : World} {Q : Value → World → Prop} (h : ∀ R : Value → World → Prop, (∀ v w', Q v w' → R v w') → c_block_First t0 w R) : cal P f_block_First [t0] w Q := l_block_First (h Q fun _ _ h => h)

/-- flurry/block.Child -/
def A_block_Child : An := (An.s (An.r []) (An.s (An.r []) (An.s (An.s (An.r [[18]]) (An.s (An.s (An.r []) An.o) An.o)) (An.s (An.r []) An.o))))
def c_block_Child (t0 t1 : Value) (w : World) (R : Value → World → Prop) : Prop :=
  bx T_api_Block t0 w fun t2 w =>
  efP P (Instr.alloc T_api_Block true (.tuple #[])) w fun t4 w =>
  ldN 34 t2 w.heap fun t9 =>
  cal P f_block_ID [t9] w fun t10 w =>
  ext 0 t10 fun t11 =>
  ext 1 t10 fun t12 =>
  efP P (Instr.alloc T_api_ID true (.tuple #[])) w fun t6 w =>
  stN 32 t6 t11 w fun w =>
  bi BinOp.neq t12 (Value.int IntKind.i64 0) fun t14 =>
  jn1 (fun k0 =>
  gif t14 false
  (fad 32 t2 fun t16 =>
  ld1 t16 w.heap fun t17 =>
  bi BinOp.eql t17 (Value.int IntKind.i64 9223372036854775807) fun t18 =>
  k0 t18 w)
  (k0 undef w)) fun _ t18_1 w =>
  pik t14 (Value.bool true) t18_1 fun t19 =>
  cnd t19
  (rdP P (Instr.build T_api_Block #[]) w fun t20 =>
  stN 34 t4 t20 w fun w =>
  ldN 34 t4 w.heap fun r1 =>
  R (Value.tuple #[r1, (Value.int IntKind.i64 30)]) w)
  (ldN 32 t6 w.heap fun t21 =>
  fad 32 t2 fun t22 =>
  ld1 t22 w.heap fun t23 =>
  bi BinOp.add t23 (Value.int IntKind.i64 1) fun t24 =>
  rdP P (Instr.build T_api_Block #[(0, t21), (1, t24), (2, t1)]) w fun t26 =>
  cal P f_block_made [t26] w fun t27 w =>
  ext 0 t27 fun t28 =>
  ext 1 t27 fun t29 =>
  stN 34 t4 t28 w fun w =>
  ldN 34 t4 w.heap fun r2 =>
  R (Value.tuple #[r2, t29]) w)
theorem e_block_Child (t0 t1 : Value) (w : World) (R : Value → World → Prop) : intp P A_block_Child (bodyOf Tryz.f16) (ini [t0, t1]) w (retK P Tryz.f16.results.toList R) (fun _ _ _ => False) (retK P Tryz.f16.results.toList R) = c_block_Child t0 t1 w R := by kernel_rfl
theorem k_block_Child : chk P Tryz.f16.ntmps A_block_Child (bodyOf Tryz.f16) = true := by kernel_rfl
theorem l_block_Child {t0 t1 : Value} {w : World} {R : Value → World → Prop} (h : c_block_Child t0 t1 w R) : cal P f_block_Child [t0, t1] w R :=
  calls_of mixed Tryz.func16 rfl (by kernel_rfl) k_block_Child (Eq.mpr (e_block_Child t0 t1 w R) h)
theorem s_block_Child {t0 t1 : Value} {w : World} {Q : Value → World → Prop} (h : ∀ R : Value → World → Prop, (∀ v w', Q v w' → R v w') → c_block_Child t0 t1 w R) : cal P f_block_Child [t0, t1] w Q := l_block_Child (h Q fun _ _ h => h)

/-- (*flurry/hold.Hold).Block -/
def A_hold_Hold_Block : An := (An.s (An.r []) (An.s (An.s (An.r []) (An.s (An.s (An.r []) An.o) An.o)) (An.s (An.r []) (An.s (An.b (An.s (An.r []) (An.s (An.s (An.r []) An.o) (An.s (An.r []) (An.s (An.s (An.r []) An.o) (An.s (An.r []) (An.s (An.s (An.r []) An.o) An.o))))))) (An.s (An.dc [0, 1, 2, 3, 4, 5, 6, 7, 8, 9, 10, 11, 12, 13] [10, 13] []) (An.s (An.r []) An.o))))))
def c_hold_Hold_Block (t0 t1 : Value) (w : World) (R : Value → World → Prop) : Prop :=
  bx T_api_Block t1 w fun t3 w =>
  efP P (Instr.alloc T_api_ID true (.tuple #[])) w fun t4 w =>
  cal P f_hold_Hold_none [t0] w fun t9 w =>
  cnd t9
  (rdP P (Instr.build T_api_ID #[]) w fun t10 =>
  stN 32 t4 t10 w fun w =>
  ldN 32 t4 w.heap fun r0 =>
  R (Value.tuple #[r0, (Value.int IntKind.i64 2)]) w)
  (ldN 34 t3 w.heap fun t12 =>
  cal P f_block_ID [t12] w fun t13 w =>
  ext 0 t13 fun t14 =>
  ext 1 t13 fun t15 =>
  efP P (Instr.alloc T_api_ID true (.tuple #[])) w fun t6 w =>
  stN 32 t6 t14 w fun w =>
  bi BinOp.neq t15 (Value.int IntKind.i64 0) fun t18 =>
  cnd t18
  (rdP P (Instr.build T_api_ID #[]) w fun t19 =>
  stN 32 t4 t19 w fun w =>
  ldN 32 t4 w.heap fun r1 =>
  R (Value.tuple #[r1, t15]) w)
  (ldN 32 t6 w.heap fun t23 =>
  cal P f_hold_Hold_Has [t0, t23] w fun t24 w =>
  cnd t24
  (rdP P (Instr.build T_api_ID #[]) w fun t25 =>
  stN 32 t4 t25 w fun w =>
  ldN 32 t4 w.heap fun r2 =>
  R (Value.tuple #[r2, (Value.int IntKind.i64 110)]) w)
  (drw w fun w =>
  nilc t0 fun t28 =>
  fad 3 t28 fun t29 =>
  ld1 t29 w.heap fun t30 =>
  lenS t30 fun t31 =>
  nilc t0 fun t33 =>
  fad 1 t33 fun t34 =>
  ld1 t34 w.heap fun t35 =>
  bi BinOp.geq t31 t35 fun t36 =>
  cnd t36
  (rdP P (Instr.build T_api_ID #[]) w fun t37 =>
  stN 32 t4 t37 w fun w =>
  ldN 32 t4 w.heap fun r3 =>
  R (Value.tuple #[r3, (Value.int IntKind.i64 6)]) w)
  (drH w fun S w =>
  nilc t0 fun t40 =>
  fad 3 t40 fun t41 =>
  rdS S (fun w => ld1 t41 w.heap) fun t42 =>
  rdS S (fun w => ldN 32 t6 w.heap) fun t43 =>
  rdS S (fun w => ldN 34 t3 w.heap) fun t44 =>
  efS S (cal P f_block_Clone [t44]) w fun t45 w =>
  rdS S (rdP P (Instr.build T_hold_waiting #[(0, t43), (1, t45)])) fun t46 =>
  efS S (efP P (Instr.buildSlice T_sl_hold_waiting 1 #[(0, t46)])) w fun t47 w =>
  efC (efP P (Builtin.append_ #[T_sl_hold_waiting, T_sl_hold_waiting] T_sl_hold_waiting #[t42, t47])) w fun S t48 w =>
  nilc t0 fun t49 =>
  fad 3 t49 fun t50 =>
  efC (fun w K => st1 t50 t48 w (K undef)) w fun S _ w =>
  ldN 32 t6 w.heap fun t51 =>
  stN 32 t4 t51 w fun w =>
  ldN 32 t4 w.heap fun r4 =>
  R (Value.tuple #[r4, (Value.int IntKind.i64 0)]) w))))
theorem e_hold_Hold_Block (t0 t1 : Value) (w : World) (R : Value → World → Prop) : intp P A_hold_Hold_Block (bodyOf Tryz.f17) (ini [t0, t1]) w (retK P Tryz.f17.results.toList R) (fun _ _ _ => False) (retK P Tryz.f17.results.toList R) = c_hold_Hold_Block t0 t1 w R := by kernel_rfl
theorem k_hold_Hold_Block : chk P Tryz.f17.ntmps A_hold_Hold_Block (bodyOf Tryz.f17) = true := by kernel_rfl
theorem l_hold_Hold_Block {t0 t1 : Value} {w : World} {R : Value → World → Prop} (h : c_hold_Hold_Block t0 t1 w R) : cal P f_hold_Hold_Block [t0, t1] w R :=
  calls_of mixed Tryz.func17 rfl (by kernel_rfl) k_hold_Hold_Block (Eq.mpr (e_hold_Hold_Block t0 t1 w R) h)
theorem s_hold_Hold_Block {t0 t1 : Value} {w : World} {Q : Value → World → Prop} (h : ∀ R : Value → World → Prop, (∀ v w', Q v w' → R v w') → c_hold_Hold_Block t0 t1 w R) : cal P f_hold_Hold_Block [t0, t1] w Q := l_hold_Hold_Block (h Q fun _ _ h => h)

/-- (*flurry/hold.Hold).Vote -/
def A_hold_Hold_Vote : An := (An.s (An.r []) (An.s (An.s (An.r []) (An.s (An.s (An.r []) An.o) An.o)) (An.s (An.s (An.r []) (An.s (An.s (An.r []) An.o) An.o)) (An.s (An.s (An.r []) (An.s (An.s (An.r []) An.o) An.o)) (An.s (An.dc [0, 1, 2, 3, 4, 5, 6, 7, 8, 9, 10] [7, 10] []) (An.s (An.r []) An.o))))))
def c_hold_Hold_Vote (t0 t1 : Value) (w : World) (R : Value → World → Prop) : Prop :=
  bx T_api_HeldVote t1 w fun t3 w =>
  cal P f_hold_Hold_none [t0] w fun t6 w =>
  cnd t6
  (R (Value.int IntKind.i64 2) w)
  (nilc t0 fun t8 =>
  fad 4 t8 fun t9 =>
  ld1 t9 w.heap fun t10 =>
  cal P f_slices_ContainsFunc_api_HeldVote_api_HeldVote [t10, (Value.func (Fn.func f_hold_Hold_Vote_1) #[] #[t3])] w fun t12 w =>
  cnd t12
  (R (Value.int IntKind.i64 110) w)
  (drw w fun w =>
  nilc t0 fun t14 =>
  fad 4 t14 fun t15 =>
  ld1 t15 w.heap fun t16 =>
  lenS t16 fun t17 =>
  nilc t0 fun t19 =>
  fad 2 t19 fun t20 =>
  ld1 t20 w.heap fun t21 =>
  bi BinOp.geq t17 t21 fun t22 =>
  cnd t22
  (R (Value.int IntKind.i64 6) w)
  (drH w fun S w =>
  nilc t0 fun t25 =>
  fad 4 t25 fun t26 =>
  rdS S (fun w => ld1 t26 w.heap) fun t27 =>
  rdS S (fun w => ldN 66 t3 w.heap) fun t28 =>
  efS S (efP P (Instr.buildSlice T_sl_api_HeldVote 1 #[(0, t28)])) w fun t29 w =>
  efC (efP P (Builtin.append_ #[T_sl_api_HeldVote, T_sl_api_HeldVote] T_sl_api_HeldVote #[t27, t29])) w fun S t30 w =>
  nilc t0 fun t31 =>
  fad 4 t31 fun t32 =>
  efC (fun w K => st1 t32 t30 w (K undef)) w fun S _ w =>
  R (Value.int IntKind.i64 0) w)))
theorem e_hold_Hold_Vote (t0 t1 : Value) (w : World) (R : Value → World → Prop) : intp P A_hold_Hold_Vote (bodyOf Tryz.f18) (ini [t0, t1]) w (retK P Tryz.f18.results.toList R) (fun _ _ _ => False) (retK P Tryz.f18.results.toList R) = c_hold_Hold_Vote t0 t1 w R := by kernel_rfl
theorem k_hold_Hold_Vote : chk P Tryz.f18.ntmps A_hold_Hold_Vote (bodyOf Tryz.f18) = true := by kernel_rfl
theorem l_hold_Hold_Vote {t0 t1 : Value} {w : World} {R : Value → World → Prop} (h : c_hold_Hold_Vote t0 t1 w R) : cal P f_hold_Hold_Vote [t0, t1] w R :=
  calls_of mixed Tryz.func18 rfl (by kernel_rfl) k_hold_Hold_Vote (Eq.mpr (e_hold_Hold_Vote t0 t1 w R) h)
theorem s_hold_Hold_Vote {t0 t1 : Value} {w : World} {Q : Value → World → Prop} (h : ∀ R : Value → World → Prop, (∀ v w', Q v w' → R v w') → c_hold_Hold_Vote t0 t1 w R) : cal P f_hold_Hold_Vote [t0, t1] w Q := l_hold_Hold_Vote (h Q fun _ _ h => h)

/-- slices.Equal[[]flurry/api.ID,flurry/api.ID] -/
def A_slices_Equal_api_ID_api_ID : An := (An.s (An.r []) (An.s (An.s (An.r []) (An.s (An.s (An.r []) An.o) An.o)) (An.s (An.s (An.r []) (An.b (An.l [13] (An.s (An.r []) (An.s (An.s An.o An.o) (An.s (An.b (An.s (An.r []) (An.s (An.r []) (An.s (An.s (An.r []) An.o) An.o)))) (An.r []))))))) (An.s (An.r []) An.o))))
def c_slices_Equal_api_ID_api_ID (t0 t1 : Value) (w : World) (R : Value → World → Prop) : Prop :=
  lenS t0 fun t7 =>
  lenS t1 fun t9 =>
  bi BinOp.neq t7 t9 fun t10 =>
  cnd t10
  (R (Value.bool false) w)
  (lenS t0 fun t12 =>
  lp1 (Value.int IntKind.i64 0) w fun _ t13 w again0 =>
  bi BinOp.lss t13 t12 fun t14 =>
  cnd t14
  (drw w fun w =>
  ixs 32 t0 t13 fun t18 =>
  ldN 32 t18 w.heap fun t19 =>
  ixs 32 t1 t13 fun t22 =>
  ldN 32 t22 w.heap fun t23 =>
  rdP P (eqS BinOp.neq T_api_ID (Operand.tmp 19) (Operand.tmp 23) t19 t23) w fun t24 =>
  cnd t24
  (R (Value.bool false) w)
  (bi BinOp.add t13 (Value.int IntKind.i64 1) fun t25 =>
  again0 t25 w))
  (R (Value.bool true) w))
theorem e_slices_Equal_api_ID_api_ID (t0 t1 : Value) (w : World) (R : Value → World → Prop) : intp P A_slices_Equal_api_ID_api_ID (bodyOf Tryz.f19) (ini [t0, t1]) w (retK P Tryz.f19.results.toList R) (fun _ _ _ => False) (retK P Tryz.f19.results.toList R) = c_slices_Equal_api_ID_api_ID t0 t1 w R := by kernel_rfl
theorem k_slices_Equal_api_ID_api_ID : chk P Tryz.f19.ntmps A_slices_Equal_api_ID_api_ID (bodyOf Tryz.f19) = true := by kernel_rfl
theorem l_slices_Equal_api_ID_api_ID {t0 t1 : Value} {w : World} {R : Value → World → Prop} (h : c_slices_Equal_api_ID_api_ID t0 t1 w R) : cal P f_slices_Equal_api_ID_api_ID [t0, t1] w R :=
  calls_of mixed Tryz.func19 rfl (by kernel_rfl) k_slices_Equal_api_ID_api_ID (Eq.mpr (e_slices_Equal_api_ID_api_ID t0 t1 w R) h)
theorem s_slices_Equal_api_ID_api_ID {t0 t1 : Value} {w : World} {Q : Value → World → Prop} (h : ∀ R : Value → World → Prop, (∀ v w', Q v w' → R v w') → c_slices_Equal_api_ID_api_ID t0 t1 w R) : cal P f_slices_Equal_api_ID_api_ID [t0, t1] w Q := l_slices_Equal_api_ID_api_ID (h Q fun _ _ h => h)

/-- (*flurry/hold.Hold).Wanted -/
def A_hold_Hold_Wanted : An := (An.s (An.r []) (An.s (An.s (An.r []) (An.s (An.s (An.r []) An.o) An.o)) (An.s (An.r []) (An.s (An.r []) (An.s (An.s (An.r []) (An.b (An.l [17] (An.s (An.r []) (An.s (An.s An.o An.o) (An.s (An.b (An.s (An.r []) (An.r []))) (An.r []))))))) (An.s (An.s (An.r []) (An.b (An.l [32] (An.s (An.r []) (An.s (An.s An.o An.o) (An.s (An.b (An.s (An.r []) (An.r []))) (An.r []))))))) (An.s (An.r []) An.o)))))))
def c_hold_Hold_Wanted (t0 : Value) (w : World) (R : Value → World → Prop) : Prop :=
  bx T_p_hold_Hold t0 w fun t1 w =>
  ld1 t1 w.heap fun t9 =>
  cal P f_hold_Hold_none [t9] w fun t10 w =>
  cnd t10
  (R (Value.slice none 0 0) w)
  (efP P (Instr.alloc T_sl_api_ID true (.tuple #[])) w fun t3 w =>
  ld1 t1 w.heap fun t12 =>
  nilc t12 fun t13 =>
  fad 3 t13 fun t14 =>
  ld1 t14 w.heap fun t15 =>
  lenS t15 fun t16 =>
  lp1 (Value.int IntKind.i64 0) w fun _ t17 w again0 =>
  bi BinOp.lss t17 t16 fun t18 =>
  cnd t18
  (ixs 66 t15 t17 fun t19 =>
  ldN 66 t19 w.heap fun t20 =>
  efP P (Instr.alloc T_hold_waiting true (.tuple #[])) w fun t6 w =>
  stN 66 t6 t20 w fun w =>
  fad 32 t6 fun t22 =>
  fad 0 t22 fun t23 =>
  ldN 32 t23 w.heap fun t24 =>
  calV P (Value.func (Fn.func f_hold_Hold_Wanted_1) #[] #[t1, t3]) [t24] w fun t25 w =>
  bi BinOp.add t17 (Value.int IntKind.i64 1) fun t26 =>
  again0 t26 w)
  (ld1 t1 w.heap fun t27 =>
  nilc t27 fun t28 =>
  fad 4 t28 fun t29 =>
  ld1 t29 w.heap fun t30 =>
  lenS t30 fun t31 =>
  lp1 (Value.int IntKind.i64 0) w fun _ t32 w again1 =>
  bi BinOp.lss t32 t31 fun t33 =>
  cnd t33
  (ixs 66 t30 t32 fun t34 =>
  ldN 66 t34 w.heap fun t35 =>
  efP P (Instr.alloc T_api_HeldVote true (.tuple #[])) w fun t8 w =>
  stN 66 t8 t35 w fun w =>
  fad 2 t8 fun t37 =>
  ldN 32 t37 w.heap fun t38 =>
  calV P (Value.func (Fn.func f_hold_Hold_Wanted_1) #[] #[t1, t3]) [t38] w fun t39 w =>
  bi BinOp.add t32 (Value.int IntKind.i64 1) fun t40 =>
  again1 t40 w)
  (ld1 t3 w.heap fun t41 =>
  R t41 w)))
theorem e_hold_Hold_Wanted (t0 : Value) (w : World) (R : Value → World → Prop) : intp P A_hold_Hold_Wanted (bodyOf Tryz.f20) (ini [t0]) w (retK P Tryz.f20.results.toList R) (fun _ _ _ => False) (retK P Tryz.f20.results.toList R) = c_hold_Hold_Wanted t0 w R := by kernel_rfl
theorem k_hold_Hold_Wanted : chk P Tryz.f20.ntmps A_hold_Hold_Wanted (bodyOf Tryz.f20) = true := by kernel_rfl
theorem l_hold_Hold_Wanted {t0 : Value} {w : World} {R : Value → World → Prop} (h : c_hold_Hold_Wanted t0 w R) : cal P f_hold_Hold_Wanted [t0] w R :=
  calls_of mixed Tryz.func20 rfl (by kernel_rfl) k_hold_Hold_Wanted (Eq.mpr (e_hold_Hold_Wanted t0 w R) h)
theorem s_hold_Hold_Wanted {t0 : Value} {w : World} {Q : Value → World → Prop} (h : ∀ R : Value → World → Prop, (∀ v w', Q v w' → R v w') → c_hold_Hold_Wanted t0 w R) : cal P f_hold_Hold_Wanted [t0] w Q := l_hold_Hold_Wanted (h Q fun _ _ h => h)

/-- (*flurry/hold.Hold).Lost -/
def A_hold_Hold_Lost : An := (An.s (An.r []) (An.s (An.s (An.r []) (An.s (An.s (An.r []) An.o) An.o)) (An.s (An.r []) (An.s (An.s (An.r []) (An.b (An.l [7] (An.s (An.s (An.r []) (An.s An.o An.o)) (An.b (An.s (An.r []) (An.s (An.r []) (An.b (An.l [7, 26] (An.s (An.r []) (An.s (An.s An.o An.o) (An.s (An.j [7] (An.b (An.s (An.r []) (An.s (An.r [[40]]) (An.s (An.s (An.r []) (An.r [])) An.o))))) (An.r []))))))))))))) (An.s (An.r []) (An.s (An.r []) (An.s (An.s (An.r []) (An.b (An.l [12, 54] (An.s (An.r []) (An.s (An.s An.o An.o) (An.s (An.b (An.s (An.r []) (An.r []))) (An.r []))))))) (An.s (An.r []) An.o))))))))
def c_hold_Hold_Lost (t0 t1 : Value) (w : World) (R : Value → World → Prop) : Prop :=
  bx T_api_ID t1 w fun t3 w =>
  cal P f_hold_Hold_none [t0] w fun t16 w =>
  cnd t16
  (R (Value.tuple #[(Value.slice none 0 0), (Value.slice none 0 0)]) w)
  (efP P (Instr.makeMap T_map_api_ID_bool none) w fun t17 w =>
  ldN 32 t3 w.heap fun t18 =>
  efU P (Instr.mapUpdate T_map_api_ID_bool t17 t18 (Value.bool true)) w fun w =>
  efP P (Instr.alloc T_map_api_ID_bool true (.tuple #[])) w fun t6 w =>
  st1 t6 t17 w fun w =>
  lp1 (Value.bool true) w fun _ t7 w again0 =>
  cnd t7
  (nilc t0 fun t22 =>
  fad 3 t22 fun t23 =>
  ld1 t23 w.heap fun t24 =>
  lenS t24 fun t25 =>
  lp2 (Value.bool false) (Value.int IntKind.i64 0) w fun _ t7_1 t26 w again1 =>
  bi BinOp.lss t26 t25 fun t27 =>
  cnd t27
  (jn1 (fun k2 =>
  ixs 66 t24 t26 fun t28 =>
  ldN 66 t28 w.heap fun t29 =>
  efP P (Instr.alloc T_hold_waiting true (.tuple #[])) w fun t9 w =>
  stN 66 t9 t29 w fun w =>
  ld1 t6 w.heap fun t30 =>
  fad 32 t9 fun t31 =>
  fad 0 t31 fun t32 =>
  ldN 32 t32 w.heap fun t33 =>
  rdP P (Instr.lookup T_map_api_ID_bool t30 t33 false) w fun t34 =>
  jn1 (fun k3 =>
  gif t34 true
  (ld1 t6 w.heap fun t36 =>
  fad 0 t9 fun t37 =>
  ldN 32 t37 w.heap fun t38 =>
  rdP P (Instr.lookup T_map_api_ID_bool t36 t38 false) w fun t39 =>
  notB t39 fun t40 =>
  k3 t40 w)
  (k3 undef w)) fun _ t40_1 w =>
  pik t34 t40_1 (Value.bool false) fun t41 =>
  cnd t41
  (ld1 t6 w.heap fun t42 =>
  fad 0 t9 fun t43 =>
  ldN 32 t43 w.heap fun t44 =>
  efU P (Instr.mapUpdate T_map_api_ID_bool t42 t44 (Value.bool true)) w fun w =>
  k2 (Value.bool true) w)
  (k2 t7_1 w)) fun _ t7_2 w =>
  bi BinOp.add t26 (Value.int IntKind.i64 1) fun t45 =>
  again1 t7_2 t45 w)
  (again0 t7_1 w))
  (cal P f_hold_Hold_takes [t0, (Value.func (Fn.func f_hold_Hold_Lost_1) #[] #[t6])] w fun t49 w =>
  ext 0 t49 fun t50 =>
  ext 1 t49 fun t51 =>
  lenS t50 fun t53 =>
  lp2 (Value.slice none 0 0) (Value.int IntKind.i64 0) w fun _ t12 t54 w again4 =>
  bi BinOp.lss t54 t53 fun t55 =>
  cnd t55
  (ixs 66 t50 t54 fun t56 =>
  ldN 66 t56 w.heap fun t57 =>
  efP P (Instr.alloc T_hold_waiting true (.tuple #[])) w fun t14 w =>
  stN 66 t14 t57 w fun w =>
  fad 0 t14 fun t59 =>
  ldN 32 t59 w.heap fun t60 =>
  efP P (Instr.buildSlice T_sl_api_ID 1 #[(0, t60)]) w fun t61 w =>
  efP P (Builtin.append_ #[T_sl_api_ID, T_sl_api_ID] T_sl_api_ID #[t12, t61]) w fun t62 w =>
  bi BinOp.add t54 (Value.int IntKind.i64 1) fun t63 =>
  again4 t62 t63 w)
  (R (Value.tuple #[t12, t51]) w)))
theorem e_hold_Hold_Lost (t0 t1 : Value) (w : World) (R : Value → World → Prop) : intp P A_hold_Hold_Lost (bodyOf Tryz.f21) (ini [t0, t1]) w (retK P Tryz.f21.results.toList R) (fun _ _ _ => False) (retK P Tryz.f21.results.toList R) = c_hold_Hold_Lost t0 t1 w R := by kernel_rfl
theorem k_hold_Hold_Lost : chk P Tryz.f21.ntmps A_hold_Hold_Lost (bodyOf Tryz.f21) = true := by kernel_rfl
theorem l_hold_Hold_Lost {t0 t1 : Value} {w : World} {R : Value → World → Prop} (h : c_hold_Hold_Lost t0 t1 w R) : cal P f_hold_Hold_Lost [t0, t1] w R :=
  calls_of mixed Tryz.func21 rfl (by kernel_rfl) k_hold_Hold_Lost (Eq.mpr (e_hold_Hold_Lost t0 t1 w R) h)
theorem s_hold_Hold_Lost {t0 t1 : Value} {w : World} {Q : Value → World → Prop} (h : ∀ R : Value → World → Prop, (∀ v w', Q v w' → R v w') → c_hold_Hold_Lost t0 t1 w R) : cal P f_hold_Hold_Lost [t0, t1] w Q := l_hold_Hold_Lost (h Q fun _ _ h => h)

/-- slices.Equal[[]flurry/api.HeldVote,flurry/api.HeldVote] -/
def A_slices_Equal_api_HeldVote_api_HeldVote : An := (An.s (An.r []) (An.s (An.s (An.r []) (An.s (An.s (An.r []) An.o) An.o)) (An.s (An.s (An.r []) (An.b (An.l [13] (An.s (An.r []) (An.s (An.s An.o An.o) (An.s (An.b (An.s (An.r []) (An.s (An.r []) (An.s (An.s (An.r []) An.o) An.o)))) (An.r []))))))) (An.s (An.r []) An.o))))
def c_slices_Equal_api_HeldVote_api_HeldVote (t0 t1 : Value) (w : World) (R : Value → World → Prop) : Prop :=
  lenS t0 fun t7 =>
  lenS t1 fun t9 =>
  bi BinOp.neq t7 t9 fun t10 =>
  cnd t10
  (R (Value.bool false) w)
  (lenS t0 fun t12 =>
  lp1 (Value.int IntKind.i64 0) w fun _ t13 w again0 =>
  bi BinOp.lss t13 t12 fun t14 =>
  cnd t14
  (drw w fun w =>
  ixs 66 t0 t13 fun t18 =>
  ldN 66 t18 w.heap fun t19 =>
  ixs 66 t1 t13 fun t22 =>
  ldN 66 t22 w.heap fun t23 =>
  rdP P (eqS BinOp.neq T_api_HeldVote (Operand.tmp 19) (Operand.tmp 23) t19 t23) w fun t24 =>
  cnd t24
  (R (Value.bool false) w)
  (bi BinOp.add t13 (Value.int IntKind.i64 1) fun t25 =>
  again0 t25 w))
  (R (Value.bool true) w))
theorem e_slices_Equal_api_HeldVote_api_HeldVote (t0 t1 : Value) (w : World) (R : Value → World → Prop) : intp P A_slices_Equal_api_HeldVote_api_HeldVote (bodyOf Tryz.f22) (ini [t0, t1]) w (retK P Tryz.f22.results.toList R) (fun _ _ _ => False) (retK P Tryz.f22.results.toList R) = c_slices_Equal_api_HeldVote_api_HeldVote t0 t1 w R := by kernel_rfl
theorem k_slices_Equal_api_HeldVote_api_HeldVote : chk P Tryz.f22.ntmps A_slices_Equal_api_HeldVote_api_HeldVote (bodyOf Tryz.f22) = true := by kernel_rfl
theorem l_slices_Equal_api_HeldVote_api_HeldVote {t0 t1 : Value} {w : World} {R : Value → World → Prop} (h : c_slices_Equal_api_HeldVote_api_HeldVote t0 t1 w R) : cal P f_slices_Equal_api_HeldVote_api_HeldVote [t0, t1] w R :=
  calls_of mixed Tryz.func22 rfl (by kernel_rfl) k_slices_Equal_api_HeldVote_api_HeldVote (Eq.mpr (e_slices_Equal_api_HeldVote_api_HeldVote t0 t1 w R) h)
theorem s_slices_Equal_api_HeldVote_api_HeldVote {t0 t1 : Value} {w : World} {Q : Value → World → Prop} (h : ∀ R : Value → World → Prop, (∀ v w', Q v w' → R v w') → c_slices_Equal_api_HeldVote_api_HeldVote t0 t1 w R) : cal P f_slices_Equal_api_HeldVote_api_HeldVote [t0, t1] w Q := l_slices_Equal_api_HeldVote_api_HeldVote (h Q fun _ _ h => h)

/-- (*flurry/hold.Hold).Came -/
def A_hold_Hold_Came : An := (An.s (An.r []) (An.s (An.r []) (An.s (An.r []) (An.s (An.s (An.r []) (An.b (An.l [8, 19] (An.s (An.r []) (An.s (An.s An.o An.o) (An.s (An.b (An.s (An.r []) (An.r []))) (An.r []))))))) (An.s (An.r []) An.o)))))
def c_hold_Hold_Came (t0 t1 : Value) (w : World) (R : Value → World → Prop) : Prop :=
  bx T_api_ID t1 w fun t3 w =>
  cal P f_hold_Hold_takes [t0, (Value.func (Fn.func f_hold_Hold_Came_1) #[] #[t3])] w fun t14 w =>
  ext 0 t14 fun t15 =>
  ext 1 t14 fun t16 =>
  lenS t15 fun t18 =>
  lp2 (Value.slice none 0 0) (Value.int IntKind.i64 0) w fun _ t8 t19 w again0 =>
  bi BinOp.lss t19 t18 fun t20 =>
  cnd t20
  (ixs 66 t15 t19 fun t21 =>
  ldN 66 t21 w.heap fun t22 =>
  efP P (Instr.alloc T_hold_waiting true (.tuple #[])) w fun t10 w =>
  stN 66 t10 t22 w fun w =>
  fad 32 t10 fun t24 =>
  ldN 34 t24 w.heap fun t25 =>
  cal P f_block_Clone [t25] w fun t26 w =>
  efP P (Instr.buildSlice T_sl_api_Block 1 #[(0, t26)]) w fun t27 w =>
  efP P (Builtin.append_ #[T_sl_api_Block, T_sl_api_Block] T_sl_api_Block #[t8, t27]) w fun t28 w =>
  bi BinOp.add t19 (Value.int IntKind.i64 1) fun t29 =>
  again0 t28 t29 w)
  (R (Value.tuple #[t8, t16]) w)
theorem e_hold_Hold_Came (t0 t1 : Value) (w : World) (R : Value → World → Prop) : intp P A_hold_Hold_Came (bodyOf Tryz.f23) (ini [t0, t1]) w (retK P Tryz.f23.results.toList R) (fun _ _ _ => False) (retK P Tryz.f23.results.toList R) = c_hold_Hold_Came t0 t1 w R := by kernel_rfl
theorem k_hold_Hold_Came : chk P Tryz.f23.ntmps A_hold_Hold_Came (bodyOf Tryz.f23) = true := by kernel_rfl
theorem l_hold_Hold_Came {t0 t1 : Value} {w : World} {R : Value → World → Prop} (h : c_hold_Hold_Came t0 t1 w R) : cal P f_hold_Hold_Came [t0, t1] w R :=
  calls_of mixed Tryz.func23 rfl (by kernel_rfl) k_hold_Hold_Came (Eq.mpr (e_hold_Hold_Came t0 t1 w R) h)
theorem s_hold_Hold_Came {t0 t1 : Value} {w : World} {Q : Value → World → Prop} (h : ∀ R : Value → World → Prop, (∀ v w', Q v w' → R v w') → c_hold_Hold_Came t0 t1 w R) : cal P f_hold_Hold_Came [t0, t1] w Q := l_hold_Hold_Came (h Q fun _ _ h => h)

/-- flurry/flurryref03.Same -/
def A_ref03_Same : An := (An.s (An.r []) (An.s (An.r [[15], [24]]) An.o))
def c_ref03_Same (t0 t1 : Value) (w : World) (R : Value → World → Prop) : Prop :=
  bx T_api_Block t0 w fun t2 w =>
  bx T_api_Block t1 w fun t3 w =>
  fad 0 t2 fun t5 =>
  ldN 32 t5 w.heap fun t6 =>
  fad 0 t3 fun t7 =>
  ldN 32 t7 w.heap fun t8 =>
  rdP P (eqS BinOp.eql T_api_ID (Operand.tmp 6) (Operand.tmp 8) t6 t8) w fun t9 =>
  jn1 (fun k0 =>
  gif t9 true
  (fad 32 t2 fun t11 =>
  ld1 t11 w.heap fun t12 =>
  fad 32 t3 fun t13 =>
  ld1 t13 w.heap fun t14 =>
  bi BinOp.eql t12 t14 fun t15 =>
  k0 t15 w)
  (k0 undef w)) fun _ t15_1 w =>
  pik t9 t15_1 (Value.bool false) fun t16 =>
  jn1 (fun k1 =>
  gif t16 true
  (fad 33 t2 fun t18 =>
  ld1 t18 w.heap fun t19 =>
  rdP P (convert T_sl_uint8 T_string t19) w fun t20 =>
  fad 33 t3 fun t21 =>
  ld1 t21 w.heap fun t22 =>
  rdP P (convert T_sl_uint8 T_string t22) w fun t23 =>
  rdP P (eqS BinOp.eql T_string (Operand.tmp 20) (Operand.tmp 23) t20 t23) w fun t24 =>
  k1 t24 w)
  (k1 undef w)) fun _ t24_1 w =>
  pik t16 t24_1 (Value.bool false) fun t25 =>
  R t25 w
theorem e_ref03_Same (t0 t1 : Value) (w : World) (R : Value → World → Prop) : intp P A_ref03_Same (bodyOf Tryz.f24) (ini [t0, t1]) w (retK P Tryz.f24.results.toList R) (fun _ _ _ => False) (retK P Tryz.f24.results.toList R) = c_ref03_Same t0 t1 w R := by kernel_rfl
theorem k_ref03_Same : chk P Tryz.f24.ntmps A_ref03_Same (bodyOf Tryz.f24) = true := by kernel_rfl
theorem l_ref03_Same {t0 t1 : Value} {w : World} {R : Value → World → Prop} (h : c_ref03_Same t0 t1 w R) : cal P f_ref03_Same [t0, t1] w R :=
  calls_of mixed Tryz.func24 rfl (by kernel_rfl) k_ref03_Same (Eq.mpr (e_ref03_Same t0 t1 w R) h)
theorem s_ref03_Same {t0 t1 : Value} {w : World} {Q : Value → World → Prop} (h : ∀ R : Value → World → Prop, (∀ v w', Q v w' → R v w') → c_ref03_Same t0 t1 w R) : cal P f_ref03_Same [t0, t1] w Q := l_ref03_Same (h Q fun _ _ h => h)

/-- (*flurry/flurrylaw23.names).block -/
def A_law23_names_block : An := (An.s (An.r []) (An.s (An.r []) (An.s (An.dc [0, 1, 2, 3, 4, 5, 6, 7, 8, 9, 10, 11, 12, 13, 14, 15, 16, 17, 18, 19, 20] [20] []) (An.s (An.j [] (An.s (An.r []) (An.s (An.r []) An.o))) (An.s (An.j [] (An.s (An.r []) (An.s (An.r []) (An.s (An.dt (Pl.step 0 (Pl.step 1 (Pl.step 2 (Pl.step 3 (Pl.step 4 (Pl.step 5 (Pl.step 6 (Pl.step 9 (Pl.step 10 (Pl.step 11 (Pl.step 12 (Pl.step 13 (Pl.step 14 (Pl.br (Pl.alt 7 (Pl.br (Pl.alt 8 (Pl.step 15 (Pl.step 16 (Pl.step 17 (Pl.step 18 (Pl.step 19 (Pl.step 20 (Pl.step 21 (Pl.step 22 Pl.nil)))))))) (Pl.alt 15 (Pl.step 8 (Pl.step 16 (Pl.step 17 (Pl.step 18 (Pl.step 19 (Pl.step 20 (Pl.step 21 (Pl.step 22 Pl.nil)))))))) Pl.non))) (Pl.alt 15 (Pl.step 7 (Pl.step 8 (Pl.step 16 (Pl.step 17 (Pl.step 18 (Pl.step 19 (Pl.step 20 (Pl.step 21 (Pl.step 22 Pl.nil))))))))) Pl.non)))))))))))))))) [16, 19, 22] []) An.o)))) (An.s (An.r []) An.o))))))
def c_law23_names_block (t0 t1 : Value) (w : World) (R : Value → World → Prop) : Prop :=
  bx T_flurrylaw23_Act t1 w fun t3 w =>
  efP P (Instr.alloc T_api_Block true (.tuple #[])) w fun t4 w =>
  drw w fun w =>
  fad 1 t3 fun t9 =>
  ld1 t9 w.heap fun t10 =>
  cvi IntKind.i64 t10 fun t11 =>
  nilc t0 fun t13 =>
  fad 0 t13 fun t14 =>
  ld1 t14 w.heap fun t15 =>
  lenS t15 fun t16 =>
  bi BinOp.rem t11 t16 fun t17 =>
  drH w fun S w =>
  nilc t0 fun t19 =>
  fad 0 t19 fun t20 =>
  rdS S (fun w => ld1 t20 w.heap) fun t21 =>
  ixs 32 t21 t17 fun t23 =>
  rdS S (fun w => ldN 32 t23 w.heap) fun t24 =>
  nilc t0 fun t26 =>
  fad 1 t26 fun t27 =>
  rdS S (fun w => ld1 t27 w.heap) fun t28 =>
  ixs 1 t28 t17 fun t30 =>
  rdS S (fun w => ld1 t30 w.heap) fun t31 =>
  rdS S (rdP P (Builtin.min_ #[T_int64, T_int64] T_int64 #[t31, (Value.int IntKind.i64 4611686018427387904)])) fun t32 =>
  bi BinOp.add t32 (Value.int IntKind.i64 1) fun t33 =>
  fad 2 t3 fun t34 =>
  rdS S (fun w => ld1 t34 w.heap) fun t35 =>
  rdS S (rdP P (Instr.build T_api_Block #[(0, t24), (1, t33), (2, t35)])) fun t36 =>
  efS S (efP P (Instr.alloc T_api_Block true (.tuple #[]))) w fun t6 w =>
  efC (fun w K => stN 34 t6 t36 w (K undef)) w fun S _ w =>
  jn0 (fun k0 =>
  fad 5 t3 fun t37 =>
  ld1 t37 w.heap fun t38 =>
  cnd t38
  (fad 6 t3 fun t39 =>
  ldN 34 t39 w.heap fun t40 =>
  stN 34 t6 t40 w fun w =>
  k0 w)
  (k0 w)) fun _ w =>
  jn0 (fun k1 =>
  ldN 34 t6 w.heap fun t42 =>
  cal P f_ref03_ID [t42] w fun t43 w =>
  ext 0 t43 fun t44 =>
  ext 1 t43 fun t45 =>
  efP P (Instr.alloc T_api_ID true (.tuple #[])) w fun t7 w =>
  stN 32 t7 t44 w fun w =>
  bi BinOp.eql t45 (Value.int IntKind.i64 0) fun t47 =>
  cnd t47
  (drH w fun S w =>
  jn0 (fun k2 =>
  nilc t0 fun t51 =>
  fad 0 t51 fun t52 =>
  rdS S (fun w => ld1 t52 w.heap) fun t53 =>
  rdS S (fun w => ldN 32 t7 w.heap) fun t54 =>
  nilc t0 fun t58 =>
  fad 1 t58 fun t59 =>
  rdS S (fun w => ld1 t59 w.heap) fun t60 =>
  fad 32 t6 fun t61 =>
  rdS S (fun w => ld1 t61 w.heap) fun t62 =>
  (efS S (efP P (Instr.buildSlice T_sl_api_ID 1 #[(0, t54)])) w fun t55_1 w =>
  (efS S (efP P (Builtin.append_ #[T_sl_api_ID, T_sl_api_ID] T_sl_api_ID #[t53, t55_1])) w fun t56_2 w =>
  efS S (efP P (Instr.buildSlice T_sl_int64 1 #[(0, t62)])) w fun t63_2 w =>
  efC (efP P (Builtin.append_ #[T_sl_int64, T_sl_int64] T_sl_int64 #[t60, t63_2])) w fun S t64_2 w =>
  nilc t0 fun t65_2 =>
  fad 0 t65_2 fun t66_2 =>
  efC (fun w K => st1 t66_2 t56_2 w (K undef)) w fun S _ w =>
  nilc t0 fun t67_2 =>
  fad 1 t67_2 fun t68_2 =>
  efC (fun w K => st1 t68_2 t64_2 w (K undef)) w fun S _ w =>
  k2 w) ∧
  ((efS S (efP P (Instr.buildSlice T_sl_int64 1 #[(0, t62)])) w fun t63_1 w =>
  efS S (efP P (Builtin.append_ #[T_sl_api_ID, T_sl_api_ID] T_sl_api_ID #[t53, t55_1])) w fun t56_1 w =>
  efC (efP P (Builtin.append_ #[T_sl_int64, T_sl_int64] T_sl_int64 #[t60, t63_1])) w fun S t64_1 w =>
  nilc t0 fun t65_1 =>
  fad 0 t65_1 fun t66_1 =>
  efC (fun w K => st1 t66_1 t56_1 w (K undef)) w fun S _ w =>
  nilc t0 fun t67_1 =>
  fad 1 t67_1 fun t68_1 =>
  efC (fun w K => st1 t68_1 t64_1 w (K undef)) w fun S _ w =>
  k2 w) ∧
  (True))) ∧
  ((efS S (efP P (Instr.buildSlice T_sl_int64 1 #[(0, t62)])) w fun t63 w =>
  efS S (efP P (Instr.buildSlice T_sl_api_ID 1 #[(0, t54)])) w fun t55 w =>
  efS S (efP P (Builtin.append_ #[T_sl_api_ID, T_sl_api_ID] T_sl_api_ID #[t53, t55])) w fun t56 w =>
  efC (efP P (Builtin.append_ #[T_sl_int64, T_sl_int64] T_sl_int64 #[t60, t63])) w fun S t64 w =>
  nilc t0 fun t65 =>
  fad 0 t65 fun t66 =>
  efC (fun w K => st1 t66 t56 w (K undef)) w fun S _ w =>
  nilc t0 fun t67 =>
  fad 1 t67 fun t68 =>
  efC (fun w K => st1 t68 t64 w (K undef)) w fun S _ w =>
  k2 w) ∧
  (True))) fun _ w =>
  k1 w)
  (k1 w)) fun _ w =>
  ldN 34 t6 w.heap fun t69 =>
  stN 34 t4 t69 w fun w =>
  ldN 34 t4 w.heap fun r3 =>
  R r3 w
theorem e_law23_names_block (t0 t1 : Value) (w : World) (R : Value → World → Prop) : intp P A_law23_names_block (bodyOf Tryz.f25) (ini [t0, t1]) w (retK P Tryz.f25.results.toList R) (fun _ _ _ => False) (retK P Tryz.f25.results.toList R) = c_law23_names_block t0 t1 w R := by kernel_rfl
theorem k_law23_names_block : chk P Tryz.f25.ntmps A_law23_names_block (bodyOf Tryz.f25) = true := by kernel_rfl
theorem l_law23_names_block {t0 t1 : Value} {w : World} {R : Value → World → Prop} (h : c_law23_names_block t0 t1 w R) : cal P f_law23_names_block [t0, t1] w R :=
  calls_of mixed Tryz.func25 rfl (by kernel_rfl) k_law23_names_block (Eq.mpr (e_law23_names_block t0 t1 w R) h)
theorem s_law23_names_block {t0 t1 : Value} {w : World} {Q : Value → World → Prop} (h : ∀ R : Value → World → Prop, (∀ v w', Q v w' → R v w') → c_law23_names_block t0 t1 w R) : cal P f_law23_names_block [t0, t1] w Q := l_law23_names_block (h Q fun _ _ h => h)

/-- flurry/flurryref03.Clone -/
def A_ref03_Clone : An := (An.s (An.r []) (An.s (An.r []) (An.s (An.r []) (An.s (An.r []) An.o))))
def c_ref03_Clone (t0 : Value) (w : World) (R : Value → World → Prop) : Prop :=
  bx T_api_Block t0 w fun t1 w =>
  efP P (Instr.alloc T_api_Block true (.tuple #[])) w fun t2 w =>
  fad 33 t1 fun t5 =>
  ld1 t5 w.heap fun t6 =>
  efP P (Builtin.append_ #[T_sl_uint8, T_sl_uint8] T_sl_uint8 #[(Value.slice none 0 0), t6]) w fun t7 w =>
  fad 33 t1 fun t8 =>
  st1 t8 t7 w fun w =>
  ldN 34 t1 w.heap fun t9 =>
  stN 34 t2 t9 w fun w =>
  ldN 34 t2 w.heap fun r0 =>
  R r0 w
theorem e_ref03_Clone (t0 : Value) (w : World) (R : Value → World → Prop) : intp P A_ref03_Clone (bodyOf Tryz.f26) (ini [t0]) w (retK P Tryz.f26.results.toList R) (fun _ _ _ => False) (retK P Tryz.f26.results.toList R) = c_ref03_Clone t0 w R := by kernel_rfl
theorem k_ref03_Clone : chk P Tryz.f26.ntmps A_ref03_Clone (bodyOf Tryz.f26) = true := by kernel_rfl
theorem l_ref03_Clone {t0 : Value} {w : World} {R : Value → World → Prop} (h : c_ref03_Clone t0 w R) : cal P f_ref03_Clone [t0] w R :=
  calls_of mixed Tryz.func26 rfl (by kernel_rfl) k_ref03_Clone (Eq.mpr (e_ref03_Clone t0 w R) h)
theorem s_ref03_Clone {t0 : Value} {w : World} {Q : Value → World → Prop} (h : ∀ R : Value → World → Prop, (∀ v w', Q v w' → R v w') → c_ref03_Clone t0 w R) : cal P f_ref03_Clone [t0] w Q := l_ref03_Clone (h Q fun _ _ h => h)

/-- (*flurry/flurryref23.Hold).Block -/
def A_ref23_Hold_Block : An := (An.s (An.r []) (An.s (An.r []) (An.s (An.b (An.s (An.r []) (An.s (An.s (An.r []) An.o) (An.s (An.r []) (An.s (An.s (An.r []) An.o) (An.s (An.r []) (An.s (An.s (An.r []) An.o) An.o))))))) (An.s (An.dc [0, 1, 2, 3, 4, 5, 6, 7, 8, 9, 10, 11, 12, 13] [10, 13] []) (An.s (An.r []) An.o)))))
def c_ref23_Hold_Block (t0 t1 : Value) (w : World) (R : Value → World → Prop) : Prop :=
  bx T_api_Block t1 w fun t3 w =>
  efP P (Instr.alloc T_api_ID true (.tuple #[])) w fun t4 w =>
  ldN 34 t3 w.heap fun t9 =>
  cal P f_ref03_ID [t9] w fun t10 w =>
  ext 0 t10 fun t11 =>
  ext 1 t10 fun t12 =>
  efP P (Instr.alloc T_api_ID true (.tuple #[])) w fun t6 w =>
  stN 32 t6 t11 w fun w =>
  bi BinOp.neq t12 (Value.int IntKind.i64 0) fun t15 =>
  cnd t15
  (rdP P (Instr.build T_api_ID #[]) w fun t16 =>
  stN 32 t4 t16 w fun w =>
  ldN 32 t4 w.heap fun r0 =>
  R (Value.tuple #[r0, t12]) w)
  (ldN 32 t6 w.heap fun t20 =>
  cal P f_ref23_Hold_Has [t0, t20] w fun t21 w =>
  cnd t21
  (rdP P (Instr.build T_api_ID #[]) w fun t22 =>
  stN 32 t4 t22 w fun w =>
  ldN 32 t4 w.heap fun r1 =>
  R (Value.tuple #[r1, (Value.int IntKind.i64 110)]) w)
  (drw w fun w =>
  nilc t0 fun t25 =>
  fad 2 t25 fun t26 =>
  ld1 t26 w.heap fun t27 =>
  lenS t27 fun t28 =>
  nilc t0 fun t30 =>
  fad 0 t30 fun t31 =>
  ld1 t31 w.heap fun t32 =>
  bi BinOp.geq t28 t32 fun t33 =>
  cnd t33
  (rdP P (Instr.build T_api_ID #[]) w fun t34 =>
  stN 32 t4 t34 w fun w =>
  ldN 32 t4 w.heap fun r2 =>
  R (Value.tuple #[r2, (Value.int IntKind.i64 6)]) w)
  (drH w fun S w =>
  nilc t0 fun t37 =>
  fad 2 t37 fun t38 =>
  rdS S (fun w => ld1 t38 w.heap) fun t39 =>
  rdS S (fun w => ldN 32 t6 w.heap) fun t40 =>
  rdS S (fun w => ldN 34 t3 w.heap) fun t41 =>
  efS S (cal P f_ref03_Clone [t41]) w fun t42 w =>
  rdS S (rdP P (Instr.build T_flurryref23_Node #[(0, t40), (1, t42)])) fun t43 =>
  efS S (efP P (Instr.buildSlice T_sl_flurryref23_Node 1 #[(0, t43)])) w fun t44 w =>
  efC (efP P (Builtin.append_ #[T_sl_flurryref23_Node, T_sl_flurryref23_Node] T_sl_flurryref23_Node #[t39, t44])) w fun S t45 w =>
  nilc t0 fun t46 =>
  fad 2 t46 fun t47 =>
  efC (fun w K => st1 t47 t45 w (K undef)) w fun S _ w =>
  ldN 32 t6 w.heap fun t48 =>
  stN 32 t4 t48 w fun w =>
  ldN 32 t4 w.heap fun r3 =>
  R (Value.tuple #[r3, (Value.int IntKind.i64 0)]) w)))
theorem e_ref23_Hold_Block (t0 t1 : Value) (w : World) (R : Value → World → Prop) : intp P A_ref23_Hold_Block (bodyOf Tryz.f27) (ini [t0, t1]) w (retK P Tryz.f27.results.toList R) (fun _ _ _ => False) (retK P Tryz.f27.results.toList R) = c_ref23_Hold_Block t0 t1 w R := by kernel_rfl
theorem k_ref23_Hold_Block : chk P Tryz.f27.ntmps A_ref23_Hold_Block (bodyOf Tryz.f27) = true := by kernel_rfl
theorem l_ref23_Hold_Block {t0 t1 : Value} {w : World} {R : Value → World → Prop} (h : c_ref23_Hold_Block t0 t1 w R) : cal P f_ref23_Hold_Block [t0, t1] w R :=
  calls_of mixed Tryz.func27 rfl (by kernel_rfl) k_ref23_Hold_Block (Eq.mpr (e_ref23_Hold_Block t0 t1 w R) h)
theorem s_ref23_Hold_Block {t0 t1 : Value} {w : World} {Q : Value → World → Prop} (h : ∀ R : Value → World → Prop, (∀ v w', Q v w' → R v w') → c_ref23_Hold_Block t0 t1 w R) : cal P f_ref23_Hold_Block [t0, t1] w Q := l_ref23_Hold_Block (h Q fun _ _ h => h)

/-- (*flurry/flurrylaw23.names).id -/
def A_law23_names_id : An := (An.s (An.r []) (An.s (An.dc [0, 1, 2, 3, 4, 5, 6, 7, 8, 9, 10, 11, 12, 13, 14] [14] []) An.o))
def c_law23_names_id (t0 t1 : Value) (w : World) (R : Value → World → Prop) : Prop :=
  efP P (Instr.alloc T_api_ID true (.tuple #[])) w fun t4 w =>
  drH w fun S w =>
  nilc t0 fun t6 =>
  fad 0 t6 fun t7 =>
  rdS S (fun w => ld1 t7 w.heap) fun t8 =>
  cvi IntKind.i64 t1 fun t10 =>
  nilc t0 fun t12 =>
  fad 0 t12 fun t13 =>
  rdS S (fun w => ld1 t13 w.heap) fun t14 =>
  lenS t14 fun t15 =>
  bi BinOp.rem t10 t15 fun t16 =>
  ixs 32 t8 t16 fun t17 =>
  rdS S (fun w => ldN 32 t17 w.heap) fun t18 =>
  efC (fun w K => stN 32 t4 t18 w (K undef)) w fun S _ w =>
  ldN 32 t4 w.heap fun r0 =>
  R r0 w
theorem e_law23_names_id (t0 t1 : Value) (w : World) (R : Value → World → Prop) : intp P A_law23_names_id (bodyOf Tryz.f28) (ini [t0, t1]) w (retK P Tryz.f28.results.toList R) (fun _ _ _ => False) (retK P Tryz.f28.results.toList R) = c_law23_names_id t0 t1 w R := by kernel_rfl
theorem k_law23_names_id : chk P Tryz.f28.ntmps A_law23_names_id (bodyOf Tryz.f28) = true := by kernel_rfl
theorem l_law23_names_id {t0 t1 : Value} {w : World} {R : Value → World → Prop} (h : c_law23_names_id t0 t1 w R) : cal P f_law23_names_id [t0, t1] w R :=
  calls_of mixed Tryz.func28 rfl (by kernel_rfl) k_law23_names_id (Eq.mpr (e_law23_names_id t0 t1 w R) h)
theorem s_law23_names_id {t0 t1 : Value} {w : World} {Q : Value → World → Prop} (h : ∀ R : Value → World → Prop, (∀ v w', Q v w' → R v w') → c_law23_names_id t0 t1 w R) : cal P f_law23_names_id [t0, t1] w Q := l_law23_names_id (h Q fun _ _ h => h)

/-- (*flurry/flurryref23.Hold).Vote -/
def A_ref23_Hold_Vote : An := (An.s (An.r []) (An.s (An.s (An.r []) (An.b (An.l [5] (An.s (An.s (An.r []) (An.s An.o An.o)) (An.s (An.b (An.s (An.r [[37]]) (An.s (An.s (An.r []) An.o) An.o))) (An.r [])))))) (An.s (An.s (An.r []) (An.s (An.s (An.r []) An.o) An.o)) (An.s (An.dc [0, 1, 2, 3, 4, 5, 6, 7, 8, 9, 10] [7, 10] []) (An.s (An.r []) An.o)))))
def c_ref23_Hold_Vote (t0 t1 : Value) (w : World) (R : Value → World → Prop) : Prop :=
  bx T_api_HeldVote t1 w fun t3 w =>
  lp1 (Value.int IntKind.i64 0) w fun _ t5 w again0 =>
  nilc t0 fun t8 =>
  fad 3 t8 fun t9 =>
  ld1 t9 w.heap fun t10 =>
  lenS t10 fun t11 =>
  bi BinOp.lss t5 t11 fun t12 =>
  cnd t12
  (drw w fun w =>
  nilc t0 fun t16 =>
  fad 3 t16 fun t17 =>
  ld1 t17 w.heap fun t18 =>
  ixs 66 t18 t5 fun t20 =>
  fad 0 t20 fun t21 =>
  ld1 t21 w.heap fun t22 =>
  fad 0 t3 fun t23 =>
  ld1 t23 w.heap fun t24 =>
  bi BinOp.eql t22 t24 fun t25 =>
  jn1 (fun k1 =>
  gif t25 true
  (nilc t0 fun t28 =>
  fad 3 t28 fun t29 =>
  ld1 t29 w.heap fun t30 =>
  ixs 66 t30 t5 fun t32 =>
  fad 1 t32 fun t33 =>
  ld1 t33 w.heap fun t34 =>
  fad 1 t3 fun t35 =>
  ld1 t35 w.heap fun t36 =>
  bi BinOp.eql t34 t36 fun t37 =>
  k1 t37 w)
  (k1 undef w)) fun _ t37_1 w =>
  pik t25 t37_1 (Value.bool false) fun t38 =>
  cnd t38
  (R (Value.int IntKind.i64 110) w)
  (bi BinOp.add t5 (Value.int IntKind.i64 1) fun t14 =>
  again0 t14 w))
  (drw w fun w =>
  nilc t0 fun t40 =>
  fad 3 t40 fun t41 =>
  ld1 t41 w.heap fun t42 =>
  lenS t42 fun t43 =>
  nilc t0 fun t45 =>
  fad 1 t45 fun t46 =>
  ld1 t46 w.heap fun t47 =>
  bi BinOp.geq t43 t47 fun t48 =>
  cnd t48
  (R (Value.int IntKind.i64 6) w)
  (drH w fun S w =>
  nilc t0 fun t51 =>
  fad 3 t51 fun t52 =>
  rdS S (fun w => ld1 t52 w.heap) fun t53 =>
  rdS S (fun w => ldN 66 t3 w.heap) fun t54 =>
  efS S (efP P (Instr.buildSlice T_sl_api_HeldVote 1 #[(0, t54)])) w fun t55 w =>
  efC (efP P (Builtin.append_ #[T_sl_api_HeldVote, T_sl_api_HeldVote] T_sl_api_HeldVote #[t53, t55])) w fun S t56 w =>
  nilc t0 fun t57 =>
  fad 3 t57 fun t58 =>
  efC (fun w K => st1 t58 t56 w (K undef)) w fun S _ w =>
  R (Value.int IntKind.i64 0) w))
theorem e_ref23_Hold_Vote (t0 t1 : Value) (w : World) (R : Value → World → Prop) : intp P A_ref23_Hold_Vote (bodyOf Tryz.f29) (ini [t0, t1]) w (retK P Tryz.f29.results.toList R) (fun _ _ _ => False) (retK P Tryz.f29.results.toList R) = c_ref23_Hold_Vote t0 t1 w R := by kernel_rfl
theorem k_ref23_Hold_Vote : chk P Tryz.f29.ntmps A_ref23_Hold_Vote (bodyOf Tryz.f29) = true := by kernel_rfl
theorem l_ref23_Hold_Vote {t0 t1 : Value} {w : World} {R : Value → World → Prop} (h : c_ref23_Hold_Vote t0 t1 w R) : cal P f_ref23_Hold_Vote [t0, t1] w R :=
  calls_of mixed Tryz.func29 rfl (by kernel_rfl) k_ref23_Hold_Vote (Eq.mpr (e_ref23_Hold_Vote t0 t1 w R) h)
theorem s_ref23_Hold_Vote {t0 t1 : Value} {w : World} {Q : Value → World → Prop} (h : ∀ R : Value → World → Prop, (∀ v w', Q v w' → R v w') → c_ref23_Hold_Vote t0 t1 w R) : cal P f_ref23_Hold_Vote [t0, t1] w Q := l_ref23_Hold_Vote (h Q fun _ _ h => h)

/-- (*flurry/flurryref23.Hold).Came -/
def A_ref23_Hold_Came : An := (An.s (An.r []) (An.s (An.r []) (An.s (An.r []) (An.s (An.s (An.r []) (An.b (An.l [8, 9] (An.s (An.s (An.r []) (An.s An.o An.o)) (An.s (An.b (An.r [])) (An.r [])))))) (An.s (An.r []) An.o)))))
def c_ref23_Hold_Came (t0 t1 : Value) (w : World) (R : Value → World → Prop) : Prop :=
  bx T_api_ID t1 w fun t3 w =>
  ldN 32 t3 w.heap fun t12 =>
  efP P (Instr.buildSlice T_sl_api_ID 1 #[(0, t12)]) w fun t13 w =>
  cal P f_ref23_Hold_out [t0, t13] w fun t14 w =>
  ext 0 t14 fun t15 =>
  ext 1 t14 fun t16 =>
  lp2 (Value.slice none 0 0) (Value.int IntKind.i64 0) w fun _ t8 t9 w again0 =>
  lenS t15 fun t19 =>
  bi BinOp.lss t9 t19 fun t20 =>
  cnd t20
  (ixs 66 t15 t9 fun t26 =>
  fad 32 t26 fun t27 =>
  ldN 34 t27 w.heap fun t28 =>
  efP P (Instr.buildSlice T_sl_api_Block 1 #[(0, t28)]) w fun t29 w =>
  efP P (Builtin.append_ #[T_sl_api_Block, T_sl_api_Block] T_sl_api_Block #[t8, t29]) w fun t30 w =>
  bi BinOp.add t9 (Value.int IntKind.i64 1) fun t22 =>
  again0 t30 t22 w)
  (R (Value.tuple #[t8, t16]) w)
theorem e_ref23_Hold_Came (t0 t1 : Value) (w : World) (R : Value → World → Prop) : intp P A_ref23_Hold_Came (bodyOf Tryz.f30) (ini [t0, t1]) w (retK P Tryz.f30.results.toList R) (fun _ _ _ => False) (retK P Tryz.f30.results.toList R) = c_ref23_Hold_Came t0 t1 w R := by kernel_rfl
theorem k_ref23_Hold_Came : chk P Tryz.f30.ntmps A_ref23_Hold_Came (bodyOf Tryz.f30) = true := by kernel_rfl
theorem l_ref23_Hold_Came {t0 t1 : Value} {w : World} {R : Value → World → Prop} (h : c_ref23_Hold_Came t0 t1 w R) : cal P f_ref23_Hold_Came [t0, t1] w R :=
  calls_of mixed Tryz.func30 rfl (by kernel_rfl) k_ref23_Hold_Came (Eq.mpr (e_ref23_Hold_Came t0 t1 w R) h)
theorem s_ref23_Hold_Came {t0 t1 : Value} {w : World} {Q : Value → World → Prop} (h : ∀ R : Value → World → Prop, (∀ v w', Q v w' → R v w') → c_ref23_Hold_Came t0 t1 w R) : cal P f_ref23_Hold_Came [t0, t1] w Q := l_ref23_Hold_Came (h Q fun _ _ h => h)

/-- flurry/flurryref23.SameBlocks -/
def A_ref23_SameBlocks : An := (An.s (An.r []) (An.s (An.s (An.r []) (An.s (An.s (An.r []) An.o) An.o)) (An.s (An.s (An.r []) (An.b (An.l [5] (An.s (An.s (An.r []) (An.s An.o An.o)) (An.s (An.b (An.s (An.dc [0, 1, 2, 3, 4, 5, 6, 7, 8, 9] [8] []) (An.s (An.s (An.r []) An.o) An.o))) (An.r [])))))) (An.s (An.r []) An.o))))
def c_ref23_SameBlocks (t0 t1 : Value) (w : World) (R : Value → World → Prop) : Prop :=
  lenS t0 fun t7 =>
  lenS t1 fun t9 =>
  bi BinOp.neq t7 t9 fun t10 =>
  cnd t10
  (R (Value.bool false) w)
  (lp1 (Value.int IntKind.i64 0) w fun _ t5 w again0 =>
  lenS t0 fun t13 =>
  bi BinOp.lss t5 t13 fun t14 =>
  cnd t14
  (drH w fun S w =>
  ixs 34 t0 t5 fun t19 =>
  rdS S (fun w => ldN 34 t19 w.heap) fun t20 =>
  ixs 34 t1 t5 fun t23 =>
  rdS S (fun w => ldN 34 t23 w.heap) fun t24 =>
  efC (cal P f_ref03_Same [t20, t24]) w fun S t25 w =>
  notB t25 fun t26 =>
  cnd t26
  (R (Value.bool false) w)
  (bi BinOp.add t5 (Value.int IntKind.i64 1) fun t16 =>
  again0 t16 w))
  (R (Value.bool true) w))
theorem e_ref23_SameBlocks (t0 t1 : Value) (w : World) (R : Value → World → Prop) : intp P A_ref23_SameBlocks (bodyOf Tryz.f31) (ini [t0, t1]) w (retK P Tryz.f31.results.toList R) (fun _ _ _ => False) (retK P Tryz.f31.results.toList R) = c_ref23_SameBlocks t0 t1 w R := by kernel_rfl
theorem k_ref23_SameBlocks : chk P Tryz.f31.ntmps A_ref23_SameBlocks (bodyOf Tryz.f31) = true := by kernel_rfl
theorem l_ref23_SameBlocks {t0 t1 : Value} {w : World} {R : Value → World → Prop} (h : c_ref23_SameBlocks t0 t1 w R) : cal P f_ref23_SameBlocks [t0, t1] w R :=
  calls_of mixed Tryz.func31 rfl (by kernel_rfl) k_ref23_SameBlocks (Eq.mpr (e_ref23_SameBlocks t0 t1 w R) h)
theorem s_ref23_SameBlocks {t0 t1 : Value} {w : World} {Q : Value → World → Prop} (h : ∀ R : Value → World → Prop, (∀ v w', Q v w' → R v w') → c_ref23_SameBlocks t0 t1 w R) : cal P f_ref23_SameBlocks [t0, t1] w Q := l_ref23_SameBlocks (h Q fun _ _ h => h)

/-- (*flurry/flurryref23.Hold).Lost -/
def A_ref23_Hold_Lost : An := (An.s (An.r []) (An.s (An.r []) (An.s (An.s (An.r []) (An.b (An.l [6, 7] (An.s (An.s (An.r []) (An.s An.o An.o)) (An.b (An.s (An.r []) (An.s (An.r []) (An.b (An.l [6, 7, 8] (An.s (An.s (An.r []) (An.s An.o An.o)) (An.s (An.j [6, 7] (An.b (An.s (An.r [[47]]) (An.s (An.s (An.r []) (An.r [])) An.o)))) (An.r [])))))))))))) (An.s (An.r []) (An.s (An.r []) (An.s (An.s (An.r []) (An.b (An.l [11, 12] (An.s (An.s (An.r []) (An.s An.o An.o)) (An.s (An.b (An.r [])) (An.r [])))))) (An.s (An.r []) An.o)))))))
def c_ref23_Hold_Lost (t0 t1 : Value) (w : World) (R : Value → World → Prop) : Prop :=
  bx T_api_ID t1 w fun t3 w =>
  ldN 32 t3 w.heap fun t13 =>
  efP P (Instr.buildSlice T_sl_api_ID 1 #[(0, t13)]) w fun t14 w =>
  lp2 t14 (Value.bool true) w fun _ t6 t7 w again0 =>
  cnd t7
  (lp3 t6 (Value.bool false) (Value.int IntKind.i64 0) w fun _ t6_1 t7_1 t8 w again1 =>
  nilc t0 fun t18 =>
  fad 2 t18 fun t19 =>
  ld1 t19 w.heap fun t20 =>
  lenS t20 fun t21 =>
  bi BinOp.lss t8 t21 fun t22 =>
  cnd t22
  (jn2 (fun k2 =>
  nilc t0 fun t27 =>
  fad 2 t27 fun t28 =>
  ld1 t28 w.heap fun t29 =>
  ixs 66 t29 t8 fun t31 =>
  fad 32 t31 fun t32 =>
  fad 0 t32 fun t33 =>
  ldN 32 t33 w.heap fun t34 =>
  cal P f_ref23_has [t6_1, t34] w fun t35 w =>
  jn1 (fun k3 =>
  gif t35 true
  (nilc t0 fun t39 =>
  fad 2 t39 fun t40 =>
  ld1 t40 w.heap fun t41 =>
  ixs 66 t41 t8 fun t43 =>
  fad 0 t43 fun t44 =>
  ldN 32 t44 w.heap fun t45 =>
  cal P f_ref23_has [t6_1, t45] w fun t46 w =>
  notB t46 fun t47 =>
  k3 t47 w)
  (k3 undef w)) fun _ t47_1 w =>
  pik t35 t47_1 (Value.bool false) fun t48 =>
  cnd t48
  (nilc t0 fun t51 =>
  fad 2 t51 fun t52 =>
  ld1 t52 w.heap fun t53 =>
  ixs 66 t53 t8 fun t55 =>
  fad 0 t55 fun t56 =>
  ldN 32 t56 w.heap fun t57 =>
  efP P (Instr.buildSlice T_sl_api_ID 1 #[(0, t57)]) w fun t58 w =>
  efP P (Builtin.append_ #[T_sl_api_ID, T_sl_api_ID] T_sl_api_ID #[t6_1, t58]) w fun t59 w =>
  k2 t59 (Value.bool true) w)
  (k2 t6_1 t7_1 w)) fun _ t6_2 t7_2 w =>
  bi BinOp.add t8 (Value.int IntKind.i64 1) fun t24 =>
  again1 t6_2 t7_2 t24 w)
  (again0 t6_1 t7_1 w))
  (cal P f_ref23_Hold_out [t0, t6] w fun t63 w =>
  ext 0 t63 fun t64 =>
  ext 1 t63 fun t65 =>
  lp2 (Value.slice none 0 0) (Value.int IntKind.i64 0) w fun _ t11 t12 w again4 =>
  lenS t64 fun t68 =>
  bi BinOp.lss t12 t68 fun t69 =>
  cnd t69
  (ixs 66 t64 t12 fun t75 =>
  fad 0 t75 fun t76 =>
  ldN 32 t76 w.heap fun t77 =>
  efP P (Instr.buildSlice T_sl_api_ID 1 #[(0, t77)]) w fun t78 w =>
  efP P (Builtin.append_ #[T_sl_api_ID, T_sl_api_ID] T_sl_api_ID #[t11, t78]) w fun t79 w =>
  bi BinOp.add t12 (Value.int IntKind.i64 1) fun t71 =>
  again4 t79 t71 w)
  (R (Value.tuple #[t11, t65]) w))
theorem e_ref23_Hold_Lost (t0 t1 : Value) (w : World) (R : Value → World → Prop) : intp P A_ref23_Hold_Lost (bodyOf Tryz.f32) (ini [t0, t1]) w (retK P Tryz.f32.results.toList R) (fun _ _ _ => False) (retK P Tryz.f32.results.toList R) = c_ref23_Hold_Lost t0 t1 w R := by kernel_rfl
theorem k_ref23_Hold_Lost : chk P Tryz.f32.ntmps A_ref23_Hold_Lost (bodyOf Tryz.f32) = true := by kernel_rfl
theorem l_ref23_Hold_Lost {t0 t1 : Value} {w : World} {R : Value → World → Prop} (h : c_ref23_Hold_Lost t0 t1 w R) : cal P f_ref23_Hold_Lost [t0, t1] w R :=
  calls_of mixed Tryz.func32 rfl (by kernel_rfl) k_ref23_Hold_Lost (Eq.mpr (e_ref23_Hold_Lost t0 t1 w R) h)
theorem s_ref23_Hold_Lost {t0 t1 : Value} {w : World} {Q : Value → World → Prop} (h : ∀ R : Value → World → Prop, (∀ v w', Q v w' → R v w') → c_ref23_Hold_Lost t0 t1 w R) : cal P f_ref23_Hold_Lost [t0, t1] w Q := l_ref23_Hold_Lost (h Q fun _ _ h => h)

/-- (*flurry/hold.Hold).Drop -/
def A_hold_Hold_Drop : An := (An.s (An.r []) (An.s (An.s (An.r []) (An.s (An.s (An.r []) An.o) An.o)) (An.s (An.r []) (An.s (An.r []) (An.s (An.r []) An.o)))))
def c_hold_Hold_Drop (t0 t1 : Value) (w : World) (R : Value → World → Prop) : Prop :=
  bx T_int64 t1 w fun t3 w =>
  cal P f_hold_Hold_none [t0] w fun t7 w =>
  cnd t7
  (R (Value.int IntKind.i64 0) w)
  (nilc t0 fun t11 =>
  fad 4 t11 fun t12 =>
  ld1 t12 w.heap fun t13 =>
  cal P f_hold_taken_api_HeldVote [t13, (Value.func (Fn.func f_hold_Hold_Drop_1) #[] #[t3])] w fun t15 w =>
  ext 0 t15 fun t16 =>
  ext 1 t15 fun t17 =>
  nilc t0 fun t18 =>
  fad 4 t18 fun t19 =>
  st1 t19 t17 w fun w =>
  lenS t16 fun t21 =>
  R t21 w)
theorem e_hold_Hold_Drop (t0 t1 : Value) (w : World) (R : Value → World → Prop) : intp P A_hold_Hold_Drop (bodyOf Tryz.f33) (ini [t0, t1]) w (retK P Tryz.f33.results.toList R) (fun _ _ _ => False) (retK P Tryz.f33.results.toList R) = c_hold_Hold_Drop t0 t1 w R := by kernel_rfl
theorem k_hold_Hold_Drop : chk P Tryz.f33.ntmps A_hold_Hold_Drop (bodyOf Tryz.f33) = true := by kernel_rfl
theorem l_hold_Hold_Drop {t0 t1 : Value} {w : World} {R : Value → World → Prop} (h : c_hold_Hold_Drop t0 t1 w R) : cal P f_hold_Hold_Drop [t0, t1] w R :=
  calls_of mixed Tryz.func33 rfl (by kernel_rfl) k_hold_Hold_Drop (Eq.mpr (e_hold_Hold_Drop t0 t1 w R) h)
theorem s_hold_Hold_Drop {t0 t1 : Value} {w : World} {Q : Value → World → Prop} (h : ∀ R : Value → World → Prop, (∀ v w', Q v w' → R v w') → c_hold_Hold_Drop t0 t1 w R) : cal P f_hold_Hold_Drop [t0, t1] w Q := l_hold_Hold_Drop (h Q fun _ _ h => h)

/-- (*flurry/flurryref23.Hold).Drop -/
def A_ref23_Hold_Drop : An := (An.s (An.r []) (An.s (An.r []) (An.s (An.r []) (An.s (An.s (An.r []) (An.b (An.l [6, 7] (An.s (An.s (An.r []) (An.s An.o An.o)) (An.s (An.j [6] (An.b (An.s (An.r []) (An.s (An.r []) An.o)))) (An.r [])))))) (An.s (An.r []) (An.s (An.r []) An.o))))))
def c_ref23_Hold_Drop (t0 t1 : Value) (w : World) (R : Value → World → Prop) : Prop :=
  cal P f_ref23_Hold_Votes [t0, t1] w fun t10 w =>
  lp2 (Value.slice none 0 0) (Value.int IntKind.i64 0) w fun _ t6 t7 w again0 =>
  nilc t0 fun t13 =>
  fad 3 t13 fun t14 =>
  ld1 t14 w.heap fun t15 =>
  lenS t15 fun t16 =>
  bi BinOp.lss t7 t16 fun t17 =>
  cnd t17
  (jn1 (fun k1 =>
  nilc t0 fun t21 =>
  fad 3 t21 fun t22 =>
  ld1 t22 w.heap fun t23 =>
  ixs 66 t23 t7 fun t25 =>
  fad 0 t25 fun t26 =>
  ld1 t26 w.heap fun t27 =>
  bi BinOp.neq t27 t1 fun t29 =>
  cnd t29
  (nilc t0 fun t32 =>
  fad 3 t32 fun t33 =>
  ld1 t33 w.heap fun t34 =>
  ixs 66 t34 t7 fun t36 =>
  ldN 66 t36 w.heap fun t37 =>
  efP P (Instr.buildSlice T_sl_api_HeldVote 1 #[(0, t37)]) w fun t38 w =>
  efP P (Builtin.append_ #[T_sl_api_HeldVote, T_sl_api_HeldVote] T_sl_api_HeldVote #[t6, t38]) w fun t39 w =>
  k1 t39 w)
  (k1 t6 w)) fun _ t6_1 w =>
  bi BinOp.add t7 (Value.int IntKind.i64 1) fun t19 =>
  again0 t6_1 t19 w)
  (nilc t0 fun t42 =>
  fad 3 t42 fun t43 =>
  st1 t43 t6 w fun w =>
  R t10 w)
theorem e_ref23_Hold_Drop (t0 t1 : Value) (w : World) (R : Value → World → Prop) : intp P A_ref23_Hold_Drop (bodyOf Tryz.f34) (ini [t0, t1]) w (retK P Tryz.f34.results.toList R) (fun _ _ _ => False) (retK P Tryz.f34.results.toList R) = c_ref23_Hold_Drop t0 t1 w R := by kernel_rfl
theorem k_ref23_Hold_Drop : chk P Tryz.f34.ntmps A_ref23_Hold_Drop (bodyOf Tryz.f34) = true := by kernel_rfl
theorem l_ref23_Hold_Drop {t0 t1 : Value} {w : World} {R : Value → World → Prop} (h : c_ref23_Hold_Drop t0 t1 w R) : cal P f_ref23_Hold_Drop [t0, t1] w R :=
  calls_of mixed Tryz.func34 rfl (by kernel_rfl) k_ref23_Hold_Drop (Eq.mpr (e_ref23_Hold_Drop t0 t1 w R) h)
theorem s_ref23_Hold_Drop {t0 t1 : Value} {w : World} {Q : Value → World → Prop} (h : ∀ R : Value → World → Prop, (∀ v w', Q v w' → R v w') → c_ref23_Hold_Drop t0 t1 w R) : cal P f_ref23_Hold_Drop [t0, t1] w Q := l_ref23_Hold_Drop (h Q fun _ _ h => h)

/-- (*flurry/hold.Hold).Len -/
def A_hold_Hold_Len : An := (An.s (An.r []) (An.s (An.s (An.r []) (An.s (An.s (An.r []) An.o) An.o)) (An.s (An.r []) An.o)))
def c_hold_Hold_Len (t0 : Value) (w : World) (R : Value → World → Prop) : Prop :=
  cal P f_hold_Hold_none [t0] w fun t5 w =>
  cnd t5
  (R (Value.tuple #[(Value.int IntKind.i64 0), (Value.int IntKind.i64 0)]) w)
  (drw w fun w =>
  nilc t0 fun t7 =>
  fad 3 t7 fun t8 =>
  ld1 t8 w.heap fun t9 =>
  lenS t9 fun t10 =>
  nilc t0 fun t12 =>
  fad 4 t12 fun t13 =>
  ld1 t13 w.heap fun t14 =>
  lenS t14 fun t15 =>
  R (Value.tuple #[t10, t15]) w)
theorem e_hold_Hold_Len (t0 : Value) (w : World) (R : Value → World → Prop) : intp P A_hold_Hold_Len (bodyOf Tryz.f35) (ini [t0]) w (retK P Tryz.f35.results.toList R) (fun _ _ _ => False) (retK P Tryz.f35.results.toList R) = c_hold_Hold_Len t0 w R := by kernel_rfl
theorem k_hold_Hold_Len : chk P Tryz.f35.ntmps A_hold_Hold_Len (bodyOf Tryz.f35) = true := by kernel_rfl
theorem l_hold_Hold_Len {t0 : Value} {w : World} {R : Value → World → Prop} (h : c_hold_Hold_Len t0 w R) : cal P f_hold_Hold_Len [t0] w R :=
  calls_of mixed Tryz.func35 rfl (by kernel_rfl) k_hold_Hold_Len (Eq.mpr (e_hold_Hold_Len t0 w R) h)
theorem s_hold_Hold_Len {t0 : Value} {w : World} {Q : Value → World → Prop} (h : ∀ R : Value → World → Prop, (∀ v w', Q v w' → R v w') → c_hold_Hold_Len t0 w R) : cal P f_hold_Hold_Len [t0] w Q := l_hold_Hold_Len (h Q fun _ _ h => h)

/-- (*flurry/flurryref23.Hold).Wanted -/
def A_ref23_Hold_Wanted : An := (An.s (An.r []) (An.s (An.r []) (An.s (An.s (An.r []) (An.b (An.l [3, 4] (An.s (An.s (An.r []) (An.s An.o An.o)) (An.s (An.j [3] (An.b (An.s (An.r []) (An.s (An.j [] (An.s (An.r []) (An.s (An.r []) (An.dc [0, 1, 2, 3, 4, 5, 6, 7, 8, 9, 10, 11, 12, 13, 14] [14] [])))) (An.s (An.r [[59]]) (An.s (An.r []) An.o)))))) (An.r [])))))) (An.s (An.r []) An.o))))
def c_ref23_Hold_Wanted (t0 : Value) (w : World) (R : Value → World → Prop) : Prop :=
  lp2 (Value.slice none 0 0) (Value.int IntKind.i64 0) w fun _ t3 t4 w again0 =>
  drw w fun w =>
  nilc t0 fun t8 =>
  fad 2 t8 fun t9 =>
  ld1 t9 w.heap fun t10 =>
  lenS t10 fun t11 =>
  nilc t0 fun t13 =>
  fad 3 t13 fun t14 =>
  ld1 t14 w.heap fun t15 =>
  lenS t15 fun t16 =>
  bi BinOp.add t11 t16 fun t17 =>
  bi BinOp.lss t4 t17 fun t18 =>
  cnd t18
  (jn1 (fun k1 =>
  efP P (Instr.alloc T_api_ID true (.tuple #[])) w fun t5 w =>
  jn0 (fun k2 =>
  nilc t0 fun t23 =>
  fad 2 t23 fun t24 =>
  ld1 t24 w.heap fun t25 =>
  lenS t25 fun t26 =>
  bi BinOp.lss t4 t26 fun t27 =>
  cnd t27
  (nilc t0 fun t29 =>
  fad 2 t29 fun t30 =>
  ld1 t30 w.heap fun t31 =>
  ixs 66 t31 t4 fun t33 =>
  fad 32 t33 fun t34 =>
  fad 0 t34 fun t35 =>
  ldN 32 t35 w.heap fun t36 =>
  stN 32 t5 t36 w fun w =>
  k2 w)
  (drH w fun S w =>
  nilc t0 fun t38 =>
  fad 3 t38 fun t39 =>
  rdS S (fun w => ld1 t39 w.heap) fun t40 =>
  nilc t0 fun t43 =>
  fad 2 t43 fun t44 =>
  rdS S (fun w => ld1 t44 w.heap) fun t45 =>
  lenS t45 fun t46 =>
  bi BinOp.sub t4 t46 fun t47 =>
  ixs 66 t40 t47 fun t48 =>
  fad 2 t48 fun t49 =>
  rdS S (fun w => ldN 32 t49 w.heap) fun t50 =>
  efC (fun w K => stN 32 t5 t50 w (K undef)) w fun S _ w =>
  k2 w)) fun _ w =>
  ldN 32 t5 w.heap fun t52 =>
  cal P f_ref23_Hold_Has [t0, t52] w fun t53 w =>
  notB t53 fun t54 =>
  jn1 (fun k3 =>
  gif t54 true
  (ldN 32 t5 w.heap fun t57 =>
  cal P f_ref23_has [t3, t57] w fun t58 w =>
  notB t58 fun t59 =>
  k3 t59 w)
  (k3 undef w)) fun _ t59_1 w =>
  pik t54 t59_1 (Value.bool false) fun t60 =>
  cnd t60
  (ldN 32 t5 w.heap fun t62 =>
  efP P (Instr.buildSlice T_sl_api_ID 1 #[(0, t62)]) w fun t63 w =>
  efP P (Builtin.append_ #[T_sl_api_ID, T_sl_api_ID] T_sl_api_ID #[t3, t63]) w fun t64 w =>
  k1 t64 w)
  (k1 t3 w)) fun _ t3_1 w =>
  bi BinOp.add t4 (Value.int IntKind.i64 1) fun t20 =>
  again0 t3_1 t20 w)
  (R t3 w)
theorem e_ref23_Hold_Wanted (t0 : Value) (w : World) (R : Value → World → Prop) : intp P A_ref23_Hold_Wanted (bodyOf Tryz.f36) (ini [t0]) w (retK P Tryz.f36.results.toList R) (fun _ _ _ => False) (retK P Tryz.f36.results.toList R) = c_ref23_Hold_Wanted t0 w R := by kernel_rfl
theorem k_ref23_Hold_Wanted : chk P Tryz.f36.ntmps A_ref23_Hold_Wanted (bodyOf Tryz.f36) = true := by kernel_rfl
theorem l_ref23_Hold_Wanted {t0 : Value} {w : World} {R : Value → World → Prop} (h : c_ref23_Hold_Wanted t0 w R) : cal P f_ref23_Hold_Wanted [t0] w R :=
  calls_of mixed Tryz.func36 rfl (by kernel_rfl) k_ref23_Hold_Wanted (Eq.mpr (e_ref23_Hold_Wanted t0 w R) h)
theorem s_ref23_Hold_Wanted {t0 : Value} {w : World} {Q : Value → World → Prop} (h : ∀ R : Value → World → Prop, (∀ v w', Q v w' → R v w') → c_ref23_Hold_Wanted t0 w R) : cal P f_ref23_Hold_Wanted [t0] w Q := l_ref23_Hold_Wanted (h Q fun _ _ h => h)

/-- (*flurry/hold.Hold).Get -/
def A_hold_Hold_Get : An := (An.s (An.r []) (An.s (An.s (An.r []) (An.s (An.s (An.r []) An.o) An.o)) (An.s (An.s (An.r []) (An.b (An.l [16] (An.s (An.r []) (An.s (An.s An.o An.o) (An.s (An.b (An.s (An.r []) (An.s (An.r []) (An.s (An.s (An.r []) An.o) An.o)))) (An.r []))))))) (An.s (An.r []) An.o))))
def c_hold_Hold_Get (t0 t1 : Value) (w : World) (R : Value → World → Prop) : Prop :=
  bx T_api_ID t1 w fun t3 w =>
  efP P (Instr.alloc T_api_Block true (.tuple #[])) w fun t4 w =>
  cal P f_hold_Hold_none [t0] w fun t9 w =>
  cnd t9
  (rdP P (Instr.build T_api_Block #[]) w fun t10 =>
  stN 34 t4 t10 w fun w =>
  ldN 34 t4 w.heap fun r0 =>
  R (Value.tuple #[r0, (Value.int IntKind.i64 2)]) w)
  (nilc t0 fun t12 =>
  fad 3 t12 fun t13 =>
  ld1 t13 w.heap fun t14 =>
  lenS t14 fun t15 =>
  lp1 (Value.int IntKind.i64 0) w fun _ t16 w again1 =>
  bi BinOp.lss t16 t15 fun t17 =>
  cnd t17
  (ixs 66 t14 t16 fun t18 =>
  ldN 66 t18 w.heap fun t19 =>
  efP P (Instr.alloc T_hold_waiting true (.tuple #[])) w fun t7 w =>
  stN 66 t7 t19 w fun w =>
  fad 0 t7 fun t20 =>
  ldN 32 t20 w.heap fun t21 =>
  ldN 32 t3 w.heap fun t22 =>
  rdP P (eqS BinOp.eql T_api_ID (Operand.tmp 21) (Operand.tmp 22) t21 t22) w fun t23 =>
  cnd t23
  (fad 32 t7 fun t24 =>
  ldN 34 t24 w.heap fun t25 =>
  cal P f_block_Clone [t25] w fun t26 w =>
  stN 34 t4 t26 w fun w =>
  ldN 34 t4 w.heap fun r2 =>
  R (Value.tuple #[r2, (Value.int IntKind.i64 0)]) w)
  (bi BinOp.add t16 (Value.int IntKind.i64 1) fun t27 =>
  again1 t27 w))
  (rdP P (Instr.build T_api_Block #[]) w fun t28 =>
  stN 34 t4 t28 w fun w =>
  ldN 34 t4 w.heap fun r3 =>
  R (Value.tuple #[r3, (Value.int IntKind.i64 4)]) w))
theorem e_hold_Hold_Get (t0 t1 : Value) (w : World) (R : Value → World → Prop) : intp P A_hold_Hold_Get (bodyOf Tryz.f37) (ini [t0, t1]) w (retK P Tryz.f37.results.toList R) (fun _ _ _ => False) (retK P Tryz.f37.results.toList R) = c_hold_Hold_Get t0 t1 w R := by kernel_rfl
theorem k_hold_Hold_Get : chk P Tryz.f37.ntmps A_hold_Hold_Get (bodyOf Tryz.f37) = true := by kernel_rfl
theorem l_hold_Hold_Get {t0 t1 : Value} {w : World} {R : Value → World → Prop} (h : c_hold_Hold_Get t0 t1 w R) : cal P f_hold_Hold_Get [t0, t1] w R :=
  calls_of mixed Tryz.func37 rfl (by kernel_rfl) k_hold_Hold_Get (Eq.mpr (e_hold_Hold_Get t0 t1 w R) h)
theorem s_hold_Hold_Get {t0 t1 : Value} {w : World} {Q : Value → World → Prop} (h : ∀ R : Value → World → Prop, (∀ v w', Q v w' → R v w') → c_hold_Hold_Get t0 t1 w R) : cal P f_hold_Hold_Get [t0, t1] w Q := l_hold_Hold_Get (h Q fun _ _ h => h)

/-- (*flurry/flurryref23.Hold).Get -/
def A_ref23_Hold_Get : An := (An.s (An.r []) (An.s (An.s (An.r []) (An.b (An.l [6] (An.s (An.s (An.r []) (An.s An.o An.o)) (An.s (An.b (An.s (An.r []) (An.s (An.s (An.r []) An.o) An.o))) (An.r [])))))) (An.s (An.r []) An.o)))
def c_ref23_Hold_Get (t0 t1 : Value) (w : World) (R : Value → World → Prop) : Prop :=
  bx T_api_ID t1 w fun t3 w =>
  efP P (Instr.alloc T_api_Block true (.tuple #[])) w fun t4 w =>
  lp1 (Value.int IntKind.i64 0) w fun _ t6 w again0 =>
  nilc t0 fun t9 =>
  fad 2 t9 fun t10 =>
  ld1 t10 w.heap fun t11 =>
  lenS t11 fun t12 =>
  bi BinOp.lss t6 t12 fun t13 =>
  cnd t13
  (drw w fun w =>
  nilc t0 fun t17 =>
  fad 2 t17 fun t18 =>
  ld1 t18 w.heap fun t19 =>
  ixs 66 t19 t6 fun t21 =>
  fad 0 t21 fun t22 =>
  ldN 32 t22 w.heap fun t23 =>
  ldN 32 t3 w.heap fun t24 =>
  rdP P (eqS BinOp.eql T_api_ID (Operand.tmp 23) (Operand.tmp 24) t23 t24) w fun t25 =>
  cnd t25
  (nilc t0 fun t27 =>
  fad 2 t27 fun t28 =>
  ld1 t28 w.heap fun t29 =>
  ixs 66 t29 t6 fun t31 =>
  fad 32 t31 fun t32 =>
  ldN 34 t32 w.heap fun t33 =>
  stN 34 t4 t33 w fun w =>
  ldN 34 t4 w.heap fun r1 =>
  R (Value.tuple #[r1, (Value.int IntKind.i64 0)]) w)
  (bi BinOp.add t6 (Value.int IntKind.i64 1) fun t15 =>
  again0 t15 w))
  (rdP P (Instr.build T_api_Block #[]) w fun t34 =>
  stN 34 t4 t34 w fun w =>
  ldN 34 t4 w.heap fun r2 =>
  R (Value.tuple #[r2, (Value.int IntKind.i64 4)]) w)
theorem e_ref23_Hold_Get (t0 t1 : Value) (w : World) (R : Value → World → Prop) : intp P A_ref23_Hold_Get (bodyOf Tryz.f38) (ini [t0, t1]) w (retK P Tryz.f38.results.toList R) (fun _ _ _ => False) (retK P Tryz.f38.results.toList R) = c_ref23_Hold_Get t0 t1 w R := by kernel_rfl
theorem k_ref23_Hold_Get : chk P Tryz.f38.ntmps A_ref23_Hold_Get (bodyOf Tryz.f38) = true := by kernel_rfl
theorem l_ref23_Hold_Get {t0 t1 : Value} {w : World} {R : Value → World → Prop} (h : c_ref23_Hold_Get t0 t1 w R) : cal P f_ref23_Hold_Get [t0, t1] w R :=
  calls_of mixed Tryz.func38 rfl (by kernel_rfl) k_ref23_Hold_Get (Eq.mpr (e_ref23_Hold_Get t0 t1 w R) h)
theorem s_ref23_Hold_Get {t0 t1 : Value} {w : World} {Q : Value → World → Prop} (h : ∀ R : Value → World → Prop, (∀ v w', Q v w' → R v w') → c_ref23_Hold_Get t0 t1 w R) : cal P f_ref23_Hold_Get [t0, t1] w Q := l_ref23_Hold_Get (h Q fun _ _ h => h)

/-- (*flurry/hold.Hold).Has -/
def A_hold_Hold_Has : An := (An.s (An.r []) (An.s (An.r []) (An.s (An.r []) An.o)))
def c_hold_Hold_Has (t0 t1 : Value) (w : World) (R : Value → World → Prop) : Prop :=
  bx T_api_ID t1 w fun t3 w =>
  ldN 32 t3 w.heap fun t9 =>
  cal P f_hold_Hold_Get [t0, t9] w fun t10 w =>
  ext 0 t10 fun t11 =>
  ext 1 t10 fun t12 =>
  efP P (Instr.alloc T_api_Block true (.tuple #[])) w fun t5 w =>
  stN 34 t5 t11 w fun w =>
  bi BinOp.eql t12 (Value.int IntKind.i64 0) fun t14 =>
  R t14 w
theorem e_hold_Hold_Has (t0 t1 : Value) (w : World) (R : Value → World → Prop) : intp P A_hold_Hold_Has (bodyOf Tryz.f39) (ini [t0, t1]) w (retK P Tryz.f39.results.toList R) (fun _ _ _ => False) (retK P Tryz.f39.results.toList R) = c_hold_Hold_Has t0 t1 w R := by kernel_rfl
theorem k_hold_Hold_Has : chk P Tryz.f39.ntmps A_hold_Hold_Has (bodyOf Tryz.f39) = true := by kernel_rfl
theorem l_hold_Hold_Has {t0 t1 : Value} {w : World} {R : Value → World → Prop} (h : c_hold_Hold_Has t0 t1 w R) : cal P f_hold_Hold_Has [t0, t1] w R :=
  calls_of mixed Tryz.func39 rfl (by kernel_rfl) k_hold_Hold_Has (Eq.mpr (e_hold_Hold_Has t0 t1 w R) h)
theorem s_hold_Hold_Has {t0 t1 : Value} {w : World} {Q : Value → World → Prop} (h : ∀ R : Value → World → Prop, (∀ v w', Q v w' → R v w') → c_hold_Hold_Has t0 t1 w R) : cal P f_hold_Hold_Has [t0, t1] w Q := l_hold_Hold_Has (h Q fun _ _ h => h)

/-- (*flurry/flurryref23.Hold).Has -/
def A_ref23_Hold_Has : An := (An.s (An.r []) (An.s (An.r []) (An.s (An.r []) An.o)))
def c_ref23_Hold_Has (t0 t1 : Value) (w : World) (R : Value → World → Prop) : Prop :=
  bx T_api_ID t1 w fun t3 w =>
  ldN 32 t3 w.heap fun t9 =>
  cal P f_ref23_Hold_Get [t0, t9] w fun t10 w =>
  ext 0 t10 fun t11 =>
  ext 1 t10 fun t12 =>
  efP P (Instr.alloc T_api_Block true (.tuple #[])) w fun t5 w =>
  stN 34 t5 t11 w fun w =>
  bi BinOp.eql t12 (Value.int IntKind.i64 0) fun t14 =>
  R t14 w
theorem e_ref23_Hold_Has (t0 t1 : Value) (w : World) (R : Value → World → Prop) : intp P A_ref23_Hold_Has (bodyOf Tryz.f40) (ini [t0, t1]) w (retK P Tryz.f40.results.toList R) (fun _ _ _ => False) (retK P Tryz.f40.results.toList R) = c_ref23_Hold_Has t0 t1 w R := by kernel_rfl
theorem k_ref23_Hold_Has : chk P Tryz.f40.ntmps A_ref23_Hold_Has (bodyOf Tryz.f40) = true := by kernel_rfl
theorem l_ref23_Hold_Has {t0 t1 : Value} {w : World} {R : Value → World → Prop} (h : c_ref23_Hold_Has t0 t1 w R) : cal P f_ref23_Hold_Has [t0, t1] w R :=
  calls_of mixed Tryz.func40 rfl (by kernel_rfl) k_ref23_Hold_Has (Eq.mpr (e_ref23_Hold_Has t0 t1 w R) h)
theorem s_ref23_Hold_Has {t0 t1 : Value} {w : World} {Q : Value → World → Prop} (h : ∀ R : Value → World → Prop, (∀ v w', Q v w' → R v w') → c_ref23_Hold_Has t0 t1 w R) : cal P f_ref23_Hold_Has [t0, t1] w Q := l_ref23_Hold_Has (h Q fun _ _ h => h)

/-- (*flurry/hold.Hold).Wants -/
def A_hold_Hold_Wants : An := (An.s (An.r []) (An.s (An.s (An.r []) (An.s (An.s (An.r []) An.o) An.o)) (An.s (An.r [[19]]) An.o)))
def c_hold_Hold_Wants (t0 t1 : Value) (w : World) (R : Value → World → Prop) : Prop :=
  bx T_api_ID t1 w fun t3 w =>
  cal P f_hold_Hold_none [t0] w fun t6 w =>
  cnd t6
  (R (Value.bool false) w)
  (nilc t0 fun t8 =>
  fad 3 t8 fun t9 =>
  ld1 t9 w.heap fun t10 =>
  cal P f_slices_ContainsFunc_hold_waiting_hold_waiting [t10, (Value.func (Fn.func f_hold_Hold_Wants_1) #[] #[t3])] w fun t12 w =>
  jn1 (fun k0 =>
  gif t12 false
  (nilc t0 fun t15 =>
  fad 4 t15 fun t16 =>
  ld1 t16 w.heap fun t17 =>
  cal P f_slices_ContainsFunc_api_HeldVote_api_HeldVote [t17, (Value.func (Fn.func f_hold_Hold_Wants_2) #[] #[t3])] w fun t19 w =>
  k0 t19 w)
  (k0 undef w)) fun _ t19_1 w =>
  pik t12 (Value.bool true) t19_1 fun t20 =>
  R t20 w)
theorem e_hold_Hold_Wants (t0 t1 : Value) (w : World) (R : Value → World → Prop) : intp P A_hold_Hold_Wants (bodyOf Tryz.f41) (ini [t0, t1]) w (retK P Tryz.f41.results.toList R) (fun _ _ _ => False) (retK P Tryz.f41.results.toList R) = c_hold_Hold_Wants t0 t1 w R := by kernel_rfl
theorem k_hold_Hold_Wants : chk P Tryz.f41.ntmps A_hold_Hold_Wants (bodyOf Tryz.f41) = true := by kernel_rfl
theorem l_hold_Hold_Wants {t0 t1 : Value} {w : World} {R : Value → World → Prop} (h : c_hold_Hold_Wants t0 t1 w R) : cal P f_hold_Hold_Wants [t0, t1] w R :=
  calls_of mixed Tryz.func41 rfl (by kernel_rfl) k_hold_Hold_Wants (Eq.mpr (e_hold_Hold_Wants t0 t1 w R) h)
theorem s_hold_Hold_Wants {t0 t1 : Value} {w : World} {Q : Value → World → Prop} (h : ∀ R : Value → World → Prop, (∀ v w', Q v w' → R v w') → c_hold_Hold_Wants t0 t1 w R) : cal P f_hold_Hold_Wants [t0, t1] w Q := l_hold_Hold_Wants (h Q fun _ _ h => h)

/-- (*flurry/flurryref23.Hold).Wants -/
def A_ref23_Hold_Wants : An := (An.s (An.r []) (An.s (An.s (An.r []) (An.b (An.l [5] (An.s (An.s (An.r []) (An.s An.o An.o)) (An.s (An.b (An.s (An.r []) (An.s (An.s (An.r []) An.o) An.o))) (An.r [])))))) (An.s (An.s (An.r []) (An.b (An.l [6] (An.s (An.s (An.r []) (An.s An.o An.o)) (An.s (An.b (An.s (An.r []) (An.s (An.s (An.r []) An.o) An.o))) (An.r [])))))) (An.s (An.r []) An.o))))
def c_ref23_Hold_Wants (t0 t1 : Value) (w : World) (R : Value → World → Prop) : Prop :=
  bx T_api_ID t1 w fun t3 w =>
  lp1 (Value.int IntKind.i64 0) w fun _ t5 w again0 =>
  nilc t0 fun t9 =>
  fad 2 t9 fun t10 =>
  ld1 t10 w.heap fun t11 =>
  lenS t11 fun t12 =>
  bi BinOp.lss t5 t12 fun t13 =>
  cnd t13
  (drw w fun w =>
  nilc t0 fun t17 =>
  fad 2 t17 fun t18 =>
  ld1 t18 w.heap fun t19 =>
  ixs 66 t19 t5 fun t21 =>
  fad 32 t21 fun t22 =>
  fad 0 t22 fun t23 =>
  ldN 32 t23 w.heap fun t24 =>
  ldN 32 t3 w.heap fun t25 =>
  rdP P (eqS BinOp.eql T_api_ID (Operand.tmp 24) (Operand.tmp 25) t24 t25) w fun t26 =>
  cnd t26
  (R (Value.bool true) w)
  (bi BinOp.add t5 (Value.int IntKind.i64 1) fun t15 =>
  again0 t15 w))
  (lp1 (Value.int IntKind.i64 0) w fun _ t6 w again1 =>
  nilc t0 fun t29 =>
  fad 3 t29 fun t30 =>
  ld1 t30 w.heap fun t31 =>
  lenS t31 fun t32 =>
  bi BinOp.lss t6 t32 fun t33 =>
  cnd t33
  (drw w fun w =>
  nilc t0 fun t37 =>
  fad 3 t37 fun t38 =>
  ld1 t38 w.heap fun t39 =>
  ixs 66 t39 t6 fun t41 =>
  fad 2 t41 fun t42 =>
  ldN 32 t42 w.heap fun t43 =>
  ldN 32 t3 w.heap fun t44 =>
  rdP P (eqS BinOp.eql T_api_ID (Operand.tmp 43) (Operand.tmp 44) t43 t44) w fun t45 =>
  cnd t45
  (R (Value.bool true) w)
  (bi BinOp.add t6 (Value.int IntKind.i64 1) fun t35 =>
  again1 t35 w))
  (R (Value.bool false) w))
theorem e_ref23_Hold_Wants (t0 t1 : Value) (w : World) (R : Value → World → Prop) : intp P A_ref23_Hold_Wants (bodyOf Tryz.f42) (ini [t0, t1]) w (retK P Tryz.f42.results.toList R) (fun _ _ _ => False) (retK P Tryz.f42.results.toList R) = c_ref23_Hold_Wants t0 t1 w R := by kernel_rfl
theorem k_ref23_Hold_Wants : chk P Tryz.f42.ntmps A_ref23_Hold_Wants (bodyOf Tryz.f42) = true := by kernel_rfl
theorem l_ref23_Hold_Wants {t0 t1 : Value} {w : World} {R : Value → World → Prop} (h : c_ref23_Hold_Wants t0 t1 w R) : cal P f_ref23_Hold_Wants [t0, t1] w R :=
  calls_of mixed Tryz.func42 rfl (by kernel_rfl) k_ref23_Hold_Wants (Eq.mpr (e_ref23_Hold_Wants t0 t1 w R) h)
theorem s_ref23_Hold_Wants {t0 t1 : Value} {w : World} {Q : Value → World → Prop} (h : ∀ R : Value → World → Prop, (∀ v w', Q v w' → R v w') → c_ref23_Hold_Wants t0 t1 w R) : cal P f_ref23_Hold_Wants [t0, t1] w Q := l_ref23_Hold_Wants (h Q fun _ _ h => h)

/-- (*flurry/hold.Hold).Votes -/
def A_hold_Hold_Votes : An := (An.s (An.r []) (An.s (An.s (An.r []) (An.s (An.s (An.r []) An.o) An.o)) (An.s (An.r []) (An.s (An.s (An.r []) (An.b (An.l [5, 15] (An.s (An.r []) (An.s (An.s An.o An.o) (An.s (An.j [5] (An.b (An.s (An.r []) (An.s (An.r []) (An.s (An.r []) An.o))))) (An.r []))))))) (An.s (An.r []) An.o)))))
def c_hold_Hold_Votes (t0 t1 : Value) (w : World) (R : Value → World → Prop) : Prop :=
  cal P f_hold_Hold_none [t0] w fun t9 w =>
  cnd t9
  (R (Value.int IntKind.i64 0) w)
  (nilc t0 fun t11 =>
  fad 4 t11 fun t12 =>
  ld1 t12 w.heap fun t13 =>
  lenS t13 fun t14 =>
  lp2 (Value.int IntKind.i64 0) (Value.int IntKind.i64 0) w fun _ t5 t15 w again0 =>
  bi BinOp.lss t15 t14 fun t16 =>
  cnd t16
  (jn1 (fun k1 =>
  ixs 66 t13 t15 fun t17 =>
  ldN 66 t17 w.heap fun t18 =>
  efP P (Instr.alloc T_api_HeldVote true (.tuple #[])) w fun t7 w =>
  stN 66 t7 t18 w fun w =>
  fad 0 t7 fun t19 =>
  ld1 t19 w.heap fun t20 =>
  bi BinOp.eql t20 t1 fun t22 =>
  cnd t22
  (bi BinOp.add t5 (Value.int IntKind.i64 1) fun t24 =>
  k1 t24 w)
  (k1 t5 w)) fun _ t5_1 w =>
  bi BinOp.add t15 (Value.int IntKind.i64 1) fun t25 =>
  again0 t5_1 t25 w)
  (R t5 w))
theorem e_hold_Hold_Votes (t0 t1 : Value) (w : World) (R : Value → World → Prop) : intp P A_hold_Hold_Votes (bodyOf Tryz.f43) (ini [t0, t1]) w (retK P Tryz.f43.results.toList R) (fun _ _ _ => False) (retK P Tryz.f43.results.toList R) = c_hold_Hold_Votes t0 t1 w R := by kernel_rfl
theorem k_hold_Hold_Votes : chk P Tryz.f43.ntmps A_hold_Hold_Votes (bodyOf Tryz.f43) = true := by kernel_rfl
theorem l_hold_Hold_Votes {t0 t1 : Value} {w : World} {R : Value → World → Prop} (h : c_hold_Hold_Votes t0 t1 w R) : cal P f_hold_Hold_Votes [t0, t1] w R :=
  calls_of mixed Tryz.func43 rfl (by kernel_rfl) k_hold_Hold_Votes (Eq.mpr (e_hold_Hold_Votes t0 t1 w R) h)
theorem s_hold_Hold_Votes {t0 t1 : Value} {w : World} {Q : Value → World → Prop} (h : ∀ R : Value → World → Prop, (∀ v w', Q v w' → R v w') → c_hold_Hold_Votes t0 t1 w R) : cal P f_hold_Hold_Votes [t0, t1] w Q := l_hold_Hold_Votes (h Q fun _ _ h => h)

/-- (*flurry/flurryref23.Hold).Votes -/
def A_ref23_Hold_Votes : An := (An.s (An.r []) (An.s (An.r []) (An.s (An.s (An.r []) (An.b (An.l [5, 6] (An.s (An.s (An.r []) (An.s An.o An.o)) (An.s (An.j [5] (An.b (An.s (An.r []) (An.s (An.r []) An.o)))) (An.r [])))))) (An.s (An.r []) An.o))))
def c_ref23_Hold_Votes (t0 t1 : Value) (w : World) (R : Value → World → Prop) : Prop :=
  lp2 (Value.int IntKind.i64 0) (Value.int IntKind.i64 0) w fun _ t5 t6 w again0 =>
  nilc t0 fun t9 =>
  fad 3 t9 fun t10 =>
  ld1 t10 w.heap fun t11 =>
  lenS t11 fun t12 =>
  bi BinOp.lss t6 t12 fun t13 =>
  cnd t13
  (jn1 (fun k1 =>
  nilc t0 fun t17 =>
  fad 3 t17 fun t18 =>
  ld1 t18 w.heap fun t19 =>
  ixs 66 t19 t6 fun t21 =>
  fad 0 t21 fun t22 =>
  ld1 t22 w.heap fun t23 =>
  bi BinOp.eql t23 t1 fun t25 =>
  cnd t25
  (bi BinOp.add t5 (Value.int IntKind.i64 1) fun t27 =>
  k1 t27 w)
  (k1 t5 w)) fun _ t5_1 w =>
  bi BinOp.add t6 (Value.int IntKind.i64 1) fun t15 =>
  again0 t5_1 t15 w)
  (R t5 w)
theorem e_ref23_Hold_Votes (t0 t1 : Value) (w : World) (R : Value → World → Prop) : intp P A_ref23_Hold_Votes (bodyOf Tryz.f44) (ini [t0, t1]) w (retK P Tryz.f44.results.toList R) (fun _ _ _ => False) (retK P Tryz.f44.results.toList R) = c_ref23_Hold_Votes t0 t1 w R := by kernel_rfl
theorem k_ref23_Hold_Votes : chk P Tryz.f44.ntmps A_ref23_Hold_Votes (bodyOf Tryz.f44) = true := by kernel_rfl
theorem l_ref23_Hold_Votes {t0 t1 : Value} {w : World} {R : Value → World → Prop} (h : c_ref23_Hold_Votes t0 t1 w R) : cal P f_ref23_Hold_Votes [t0, t1] w R :=
  calls_of mixed Tryz.func44 rfl (by kernel_rfl) k_ref23_Hold_Votes (Eq.mpr (e_ref23_Hold_Votes t0 t1 w R) h)
theorem s_ref23_Hold_Votes {t0 t1 : Value} {w : World} {Q : Value → World → Prop} (h : ∀ R : Value → World → Prop, (∀ v w', Q v w' → R v w') → c_ref23_Hold_Votes t0 t1 w R) : cal P f_ref23_Hold_Votes [t0, t1] w Q := l_ref23_Hold_Votes (h Q fun _ _ h => h)

/-- (*flurry/hold.Hold).none -/
def A_hold_Hold_none : An := (An.s (An.r []) (An.s (An.r [[10]]) An.o))
def c_hold_Hold_none (t0 : Value) (w : World) (R : Value → World → Prop) : Prop :=
  nilP false t0 fun t4 =>
  jn1 (fun k0 =>
  gif t4 false
  (nilc t0 fun t7 =>
  fad 0 t7 fun t8 =>
  ld1 t8 w.heap fun t9 =>
  notB t9 fun t10 =>
  k0 t10 w)
  (k0 undef w)) fun _ t10_1 w =>
  pik t4 (Value.bool true) t10_1 fun t11 =>
  R t11 w
theorem e_hold_Hold_none (t0 : Value) (w : World) (R : Value → World → Prop) : intp P A_hold_Hold_none (bodyOf Tryz.f45) (ini [t0]) w (retK P Tryz.f45.results.toList R) (fun _ _ _ => False) (retK P Tryz.f45.results.toList R) = c_hold_Hold_none t0 w R := by kernel_rfl
theorem k_hold_Hold_none : chk P Tryz.f45.ntmps A_hold_Hold_none (bodyOf Tryz.f45) = true := by kernel_rfl
theorem l_hold_Hold_none {t0 : Value} {w : World} {R : Value → World → Prop} (h : c_hold_Hold_none t0 w R) : cal P f_hold_Hold_none [t0] w R :=
  calls_of mixed Tryz.func45 rfl (by kernel_rfl) k_hold_Hold_none (Eq.mpr (e_hold_Hold_none t0 w R) h)
theorem s_hold_Hold_none {t0 : Value} {w : World} {Q : Value → World → Prop} (h : ∀ R : Value → World → Prop, (∀ v w', Q v w' → R v w') → c_hold_Hold_none t0 w R) : cal P f_hold_Hold_none [t0] w Q := l_hold_Hold_none (h Q fun _ _ h => h)

/-- slices.Clone[[]flurry/hold.waiting,flurry/hold.waiting] -/
def A_slices_Clone_hold_waiting_hold_waiting : An := (An.s (An.r []) (An.s (An.s (An.r []) (An.s (An.s (An.r []) An.o) An.o)) (An.s (An.r []) An.o)))
def c_slices_Clone_hold_waiting_hold_waiting (t0 : Value) (w : World) (R : Value → World → Prop) : Prop :=
  nilS false t0 fun t4 =>
  cnd t4
  (R (Value.slice none 0 0) w)
  (efP P (Instr.buildSlice T_sl_hold_waiting 0 #[]) w fun t5 w =>
  efP P (Builtin.append_ #[T_sl_hold_waiting, T_sl_hold_waiting] T_sl_hold_waiting #[t5, t0]) w fun t7 w =>
  R t7 w)
theorem e_slices_Clone_hold_waiting_hold_waiting (t0 : Value) (w : World) (R : Value → World → Prop) : intp P A_slices_Clone_hold_waiting_hold_waiting (bodyOf Tryz.f46) (ini [t0]) w (retK P Tryz.f46.results.toList R) (fun _ _ _ => False) (retK P Tryz.f46.results.toList R) = c_slices_Clone_hold_waiting_hold_waiting t0 w R := by kernel_rfl
theorem k_slices_Clone_hold_waiting_hold_waiting : chk P Tryz.f46.ntmps A_slices_Clone_hold_waiting_hold_waiting (bodyOf Tryz.f46) = true := by kernel_rfl
theorem l_slices_Clone_hold_waiting_hold_waiting {t0 : Value} {w : World} {R : Value → World → Prop} (h : c_slices_Clone_hold_waiting_hold_waiting t0 w R) : cal P f_slices_Clone_hold_waiting_hold_waiting [t0] w R :=
  calls_of mixed Tryz.func46 rfl (by kernel_rfl) k_slices_Clone_hold_waiting_hold_waiting (Eq.mpr (e_slices_Clone_hold_waiting_hold_waiting t0 w R) h)
theorem s_slices_Clone_hold_waiting_hold_waiting {t0 : Value} {w : World} {Q : Value → World → Prop} (h : ∀ R : Value → World → Prop, (∀ v w', Q v w' → R v w') → c_slices_Clone_hold_waiting_hold_waiting t0 w R) : cal P f_slices_Clone_hold_waiting_hold_waiting [t0] w Q := l_slices_Clone_hold_waiting_hold_waiting (h Q fun _ _ h => h)

/-- slices.Clone[[]flurry/api.HeldVote,flurry/api.HeldVote] -/
def A_slices_Clone_api_HeldVote_api_HeldVote : An := (An.s (An.r []) (An.s (An.s (An.r []) (An.s (An.s (An.r []) An.o) An.o)) (An.s (An.r []) An.o)))
def c_slices_Clone_api_HeldVote_api_HeldVote (t0 : Value) (w : World) (R : Value → World → Prop) : Prop :=
  nilS false t0 fun t4 =>
  cnd t4
  (R (Value.slice none 0 0) w)
  (efP P (Instr.buildSlice T_sl_api_HeldVote 0 #[]) w fun t5 w =>
  efP P (Builtin.append_ #[T_sl_api_HeldVote, T_sl_api_HeldVote] T_sl_api_HeldVote #[t5, t0]) w fun t7 w =>
  R t7 w)
theorem e_slices_Clone_api_HeldVote_api_HeldVote (t0 : Value) (w : World) (R : Value → World → Prop) : intp P A_slices_Clone_api_HeldVote_api_HeldVote (bodyOf Tryz.f47) (ini [t0]) w (retK P Tryz.f47.results.toList R) (fun _ _ _ => False) (retK P Tryz.f47.results.toList R) = c_slices_Clone_api_HeldVote_api_HeldVote t0 w R := by kernel_rfl
theorem k_slices_Clone_api_HeldVote_api_HeldVote : chk P Tryz.f47.ntmps A_slices_Clone_api_HeldVote_api_HeldVote (bodyOf Tryz.f47) = true := by kernel_rfl
theorem l_slices_Clone_api_HeldVote_api_HeldVote {t0 : Value} {w : World} {R : Value → World → Prop} (h : c_slices_Clone_api_HeldVote_api_HeldVote t0 w R) : cal P f_slices_Clone_api_HeldVote_api_HeldVote [t0] w R :=
  calls_of mixed Tryz.func47 rfl (by kernel_rfl) k_slices_Clone_api_HeldVote_api_HeldVote (Eq.mpr (e_slices_Clone_api_HeldVote_api_HeldVote t0 w R) h)
theorem s_slices_Clone_api_HeldVote_api_HeldVote {t0 : Value} {w : World} {Q : Value → World → Prop} (h : ∀ R : Value → World → Prop, (∀ v w', Q v w' → R v w') → c_slices_Clone_api_HeldVote_api_HeldVote t0 w R) : cal P f_slices_Clone_api_HeldVote_api_HeldVote [t0] w Q := l_slices_Clone_api_HeldVote_api_HeldVote (h Q fun _ _ h => h)

/-- flurry/block.made -/
def A_block_made : An := (An.s (An.r []) (An.s (An.s (An.r []) (An.s (An.r []) (An.s (An.s (An.r []) An.o) An.o))) (An.s (An.r []) An.o)))
def c_block_made (t0 : Value) (w : World) (R : Value → World → Prop) : Prop :=
  bx T_api_Block t0 w fun t1 w =>
  efP P (Instr.alloc T_api_Block true (.tuple #[])) w fun t2 w =>
  ldN 34 t1 w.heap fun t5 =>
  cal P f_block_Check [t5] w fun t6 w =>
  bi BinOp.neq t6 (Value.int IntKind.i64 0) fun t8 =>
  cnd t8
  (rdP P (Instr.build T_api_Block #[]) w fun t9 =>
  stN 34 t2 t9 w fun w =>
  ldN 34 t2 w.heap fun r0 =>
  R (Value.tuple #[r0, t6]) w)
  (ldN 34 t1 w.heap fun t11 =>
  cal P f_block_Clone [t11] w fun t12 w =>
  stN 34 t2 t12 w fun w =>
  ldN 34 t2 w.heap fun r1 =>
  R (Value.tuple #[r1, (Value.int IntKind.i64 0)]) w)
theorem e_block_made (t0 : Value) (w : World) (R : Value → World → Prop) : intp P A_block_made (bodyOf Tryz.f48) (ini [t0]) w (retK P Tryz.f48.results.toList R) (fun _ _ _ => False) (retK P Tryz.f48.results.toList R) = c_block_made t0 w R := by kernel_rfl
theorem k_block_made : chk P Tryz.f48.ntmps A_block_made (bodyOf Tryz.f48) = true := by kernel_rfl
theorem l_block_made {t0 : Value} {w : World} {R : Value → World → Prop} (h : c_block_made t0 w R) : cal P f_block_made [t0] w R :=
  calls_of mixed Tryz.func48 rfl (by kernel_rfl) k_block_made (Eq.mpr (e_block_made t0 w R) h)
theorem s_block_made {t0 : Value} {w : World} {Q : Value → World → Prop} (h : ∀ R : Value → World → Prop, (∀ v w', Q v w' → R v w') → c_block_made t0 w R) : cal P f_block_made [t0] w Q := l_block_made (h Q fun _ _ h => h)

/-- flurry/block.ID -/
def A_block_ID : An := (An.s (An.r []) (An.s (An.r []) (An.s (An.s (An.r []) (An.s (An.s (An.r []) An.o) An.o)) (An.s (An.r []) An.o))))
def c_block_ID (t0 : Value) (w : World) (R : Value → World → Prop) : Prop :=
  bx T_api_Block t0 w fun t1 w =>
  efP P (Instr.alloc T_api_ID true (.tuple #[])) w fun t2 w =>
  ldN 34 t1 w.heap fun t7 =>
  cal P f_block_Bytes [t7] w fun t8 w =>
  ext 0 t8 fun t9 =>
  ext 1 t8 fun t10 =>
  bi BinOp.neq t10 (Value.int IntKind.i64 0) fun t12 =>
  cnd t12
  (rdP P (Instr.build T_api_ID #[]) w fun t13 =>
  stN 32 t2 t13 w fun w =>
  ldN 32 t2 w.heap fun r0 =>
  R (Value.tuple #[r0, t10]) w)
  (cal P f_sha_Sum [t9] w fun t16 w =>
  stN 32 t2 t16 w fun w =>
  ldN 32 t2 w.heap fun r1 =>
  R (Value.tuple #[r1, (Value.int IntKind.i64 0)]) w)
theorem e_block_ID (t0 : Value) (w : World) (R : Value → World → Prop) : intp P A_block_ID (bodyOf Tryz.f49) (ini [t0]) w (retK P Tryz.f49.results.toList R) (fun _ _ _ => False) (retK P Tryz.f49.results.toList R) = c_block_ID t0 w R := by kernel_rfl
theorem k_block_ID : chk P Tryz.f49.ntmps A_block_ID (bodyOf Tryz.f49) = true := by kernel_rfl
theorem l_block_ID {t0 : Value} {w : World} {R : Value → World → Prop} (h : c_block_ID t0 w R) : cal P f_block_ID [t0] w R :=
  calls_of mixed Tryz.func49 rfl (by kernel_rfl) k_block_ID (Eq.mpr (e_block_ID t0 w R) h)
theorem s_block_ID {t0 : Value} {w : World} {Q : Value → World → Prop} (h : ∀ R : Value → World → Prop, (∀ v w', Q v w' → R v w') → c_block_ID t0 w R) : cal P f_block_ID [t0] w Q := l_block_ID (h Q fun _ _ h => h)

/-- flurry/block.Clone -/
def A_block_Clone : An := (An.s (An.r []) (An.s (An.r []) (An.s (An.r []) An.o)))
def c_block_Clone (t0 : Value) (w : World) (R : Value → World → Prop) : Prop :=
  bx T_api_Block t0 w fun t1 w =>
  efP P (Instr.alloc T_api_Block true (.tuple #[])) w fun t2 w =>
  fad 33 t1 fun t3 =>
  ld1 t3 w.heap fun t4 =>
  cal P f_bytes_Clone [t4] w fun t5 w =>
  fad 33 t1 fun t6 =>
  st1 t6 t5 w fun w =>
  ldN 34 t1 w.heap fun t7 =>
  stN 34 t2 t7 w fun w =>
  ldN 34 t2 w.heap fun r0 =>
  R r0 w
theorem e_block_Clone (t0 : Value) (w : World) (R : Value → World → Prop) : intp P A_block_Clone (bodyOf Tryz.f50) (ini [t0]) w (retK P Tryz.f50.results.toList R) (fun _ _ _ => False) (retK P Tryz.f50.results.toList R) = c_block_Clone t0 w R := by kernel_rfl
theorem k_block_Clone : chk P Tryz.f50.ntmps A_block_Clone (bodyOf Tryz.f50) = true := by kernel_rfl
theorem l_block_Clone {t0 : Value} {w : World} {R : Value → World → Prop} (h : c_block_Clone t0 w R) : cal P f_block_Clone [t0] w R :=
  calls_of mixed Tryz.func50 rfl (by kernel_rfl) k_block_Clone (Eq.mpr (e_block_Clone t0 w R) h)
theorem s_block_Clone {t0 : Value} {w : World} {Q : Value → World → Prop} (h : ∀ R : Value → World → Prop, (∀ v w', Q v w' → R v w') → c_block_Clone t0 w R) : cal P f_block_Clone [t0] w Q := l_block_Clone (h Q fun _ _ h => h)

/-- slices.ContainsFunc[[]flurry/api.HeldVote,flurry/api.HeldVote] -/
def A_slices_ContainsFunc_api_HeldVote_api_HeldVote : An := (An.s (An.r []) (An.s (An.r []) An.o))
def c_slices_ContainsFunc_api_HeldVote_api_HeldVote (t0 t1 : Value) (w : World) (R : Value → World → Prop) : Prop :=
  cal P f_slices_IndexFunc_api_HeldVote_api_HeldVote [t0, t1] w fun t7 w =>
  bi BinOp.geq t7 (Value.int IntKind.i64 0) fun t8 =>
  R t8 w
theorem e_slices_ContainsFunc_api_HeldVote_api_HeldVote (t0 t1 : Value) (w : World) (R : Value → World → Prop) : intp P A_slices_ContainsFunc_api_HeldVote_api_HeldVote (bodyOf Tryz.f51) (ini [t0, t1]) w (retK P Tryz.f51.results.toList R) (fun _ _ _ => False) (retK P Tryz.f51.results.toList R) = c_slices_ContainsFunc_api_HeldVote_api_HeldVote t0 t1 w R := by kernel_rfl
theorem k_slices_ContainsFunc_api_HeldVote_api_HeldVote : chk P Tryz.f51.ntmps A_slices_ContainsFunc_api_HeldVote_api_HeldVote (bodyOf Tryz.f51) = true := by kernel_rfl
theorem l_slices_ContainsFunc_api_HeldVote_api_HeldVote {t0 t1 : Value} {w : World} {R : Value → World → Prop} (h : c_slices_ContainsFunc_api_HeldVote_api_HeldVote t0 t1 w R) : cal P f_slices_ContainsFunc_api_HeldVote_api_HeldVote [t0, t1] w R :=
  calls_of mixed Tryz.func51 rfl (by kernel_rfl) k_slices_ContainsFunc_api_HeldVote_api_HeldVote (Eq.mpr (e_slices_ContainsFunc_api_HeldVote_api_HeldVote t0 t1 w R) h)
theorem s_slices_ContainsFunc_api_HeldVote_api_HeldVote {t0 t1 : Value} {w : World} {Q : Value → World → Prop} (h : ∀ R : Value → World → Prop, (∀ v w', Q v w' → R v w') → c_slices_ContainsFunc_api_HeldVote_api_HeldVote t0 t1 w R) : cal P f_slices_ContainsFunc_api_HeldVote_api_HeldVote [t0, t1] w Q := l_slices_ContainsFunc_api_HeldVote_api_HeldVote (h Q fun _ _ h => h)

/-- (*flurry/hold.Hold).Vote$1 -/
def A_hold_Hold_Vote_1 : An := (An.s (An.r []) (An.s (An.r [[14]]) An.o))
def c_hold_Hold_Vote_1 (t0 t1 : Value) (w : World) (R : Value → World → Prop) : Prop :=
  bx T_api_HeldVote t0 w fun t2 w =>
  fad 0 t2 fun t4 =>
  ld1 t4 w.heap fun t5 =>
  fad 0 t1 fun t6 =>
  ld1 t6 w.heap fun t7 =>
  bi BinOp.eql t5 t7 fun t8 =>
  jn1 (fun k0 =>
  gif t8 true
  (fad 1 t2 fun t10 =>
  ld1 t10 w.heap fun t11 =>
  fad 1 t1 fun t12 =>
  ld1 t12 w.heap fun t13 =>
  bi BinOp.eql t11 t13 fun t14 =>
  k0 t14 w)
  (k0 undef w)) fun _ t14_1 w =>
  pik t8 t14_1 (Value.bool false) fun t15 =>
  R t15 w
theorem e_hold_Hold_Vote_1 (t0 t1 : Value) (w : World) (R : Value → World → Prop) : intp P A_hold_Hold_Vote_1 (bodyOf Tryz.f52) (ini [t0, t1]) w (retK P Tryz.f52.results.toList R) (fun _ _ _ => False) (retK P Tryz.f52.results.toList R) = c_hold_Hold_Vote_1 t0 t1 w R := by kernel_rfl
theorem k_hold_Hold_Vote_1 : chk P Tryz.f52.ntmps A_hold_Hold_Vote_1 (bodyOf Tryz.f52) = true := by kernel_rfl
theorem l_hold_Hold_Vote_1 {t0 t1 : Value} {w : World} {R : Value → World → Prop} (h : c_hold_Hold_Vote_1 t0 t1 w R) : cal P f_hold_Hold_Vote_1 [t0, t1] w R :=
  calls_of mixed Tryz.func52 rfl (by kernel_rfl) k_hold_Hold_Vote_1 (Eq.mpr (e_hold_Hold_Vote_1 t0 t1 w R) h)
theorem s_hold_Hold_Vote_1 {t0 t1 : Value} {w : World} {Q : Value → World → Prop} (h : ∀ R : Value → World → Prop, (∀ v w', Q v w' → R v w') → c_hold_Hold_Vote_1 t0 t1 w R) : cal P f_hold_Hold_Vote_1 [t0, t1] w Q := l_hold_Hold_Vote_1 (h Q fun _ _ h => h)

/-- (*flurry/hold.Hold).Wanted$1 -/
def A_hold_Hold_Wanted_1 : An := (An.s (An.r []) (An.s (An.r [[12]]) (An.s (An.r []) An.o)))
def c_hold_Hold_Wanted_1 (t0 t1 t2 : Value) (w : World) (R : Value → World → Prop) : Prop :=
  bx T_api_ID t0 w fun t3 w =>
  ld1 t1 w.heap fun t4 =>
  ldN 32 t3 w.heap fun t5 =>
  cal P f_hold_Hold_Has [t4, t5] w fun t6 w =>
  notB t6 fun t7 =>
  jn1 (fun k0 =>
  gif t7 true
  (ld1 t2 w.heap fun t9 =>
  ldN 32 t3 w.heap fun t10 =>
  cal P f_slices_Contains_api_ID_api_ID [t9, t10] w fun t11 w =>
  notB t11 fun t12 =>
  k0 t12 w)
  (k0 undef w)) fun _ t12_1 w =>
  pik t7 t12_1 (Value.bool false) fun t13 =>
  cnd t13
  (ld1 t2 w.heap fun t14 =>
  ldN 32 t3 w.heap fun t15 =>
  efP P (Instr.buildSlice T_sl_api_ID 1 #[(0, t15)]) w fun t16 w =>
  efP P (Builtin.append_ #[T_sl_api_ID, T_sl_api_ID] T_sl_api_ID #[t14, t16]) w fun t17 w =>
  st1 t2 t17 w fun w =>
  R (Value.tuple #[]) w)
  (R (Value.tuple #[]) w)
theorem e_hold_Hold_Wanted_1 (t0 t1 t2 : Value) (w : World) (R : Value → World → Prop) : intp P A_hold_Hold_Wanted_1 (bodyOf Tryz.f53) (ini [t0, t1, t2]) w (retK P Tryz.f53.results.toList R) (fun _ _ _ => False) (retK P Tryz.f53.results.toList R) = c_hold_Hold_Wanted_1 t0 t1 t2 w R := by kernel_rfl
theorem k_hold_Hold_Wanted_1 : chk P Tryz.f53.ntmps A_hold_Hold_Wanted_1 (bodyOf Tryz.f53) = true := by kernel_rfl
theorem l_hold_Hold_Wanted_1 {t0 t1 t2 : Value} {w : World} {R : Value → World → Prop} (h : c_hold_Hold_Wanted_1 t0 t1 t2 w R) : cal P f_hold_Hold_Wanted_1 [t0, t1, t2] w R :=
  calls_of mixed Tryz.func53 rfl (by kernel_rfl) k_hold_Hold_Wanted_1 (Eq.mpr (e_hold_Hold_Wanted_1 t0 t1 t2 w R) h)
theorem s_hold_Hold_Wanted_1 {t0 t1 t2 : Value} {w : World} {Q : Value → World → Prop} (h : ∀ R : Value → World → Prop, (∀ v w', Q v w' → R v w') → c_hold_Hold_Wanted_1 t0 t1 t2 w R) : cal P f_hold_Hold_Wanted_1 [t0, t1, t2] w Q := l_hold_Hold_Wanted_1 (h Q fun _ _ h => h)

/-- slices.Contains[[]flurry/api.ID,flurry/api.ID] -/
def A_slices_Contains_api_ID_api_ID : An := (An.s (An.r []) (An.s (An.r []) An.o))
def c_slices_Contains_api_ID_api_ID (t0 t1 : Value) (w : World) (R : Value → World → Prop) : Prop :=
  bx T_api_ID t1 w fun t3 w =>
  ldN 32 t3 w.heap fun t6 =>
  cal P f_slices_Index_api_ID_api_ID [t0, t6] w fun t7 w =>
  bi BinOp.geq t7 (Value.int IntKind.i64 0) fun t8 =>
  R t8 w
theorem e_slices_Contains_api_ID_api_ID (t0 t1 : Value) (w : World) (R : Value → World → Prop) : intp P A_slices_Contains_api_ID_api_ID (bodyOf Tryz.f54) (ini [t0, t1]) w (retK P Tryz.f54.results.toList R) (fun _ _ _ => False) (retK P Tryz.f54.results.toList R) = c_slices_Contains_api_ID_api_ID t0 t1 w R := by kernel_rfl
theorem k_slices_Contains_api_ID_api_ID : chk P Tryz.f54.ntmps A_slices_Contains_api_ID_api_ID (bodyOf Tryz.f54) = true := by kernel_rfl
theorem l_slices_Contains_api_ID_api_ID {t0 t1 : Value} {w : World} {R : Value → World → Prop} (h : c_slices_Contains_api_ID_api_ID t0 t1 w R) : cal P f_slices_Contains_api_ID_api_ID [t0, t1] w R :=
  calls_of mixed Tryz.func54 rfl (by kernel_rfl) k_slices_Contains_api_ID_api_ID (Eq.mpr (e_slices_Contains_api_ID_api_ID t0 t1 w R) h)
theorem s_slices_Contains_api_ID_api_ID {t0 t1 : Value} {w : World} {Q : Value → World → Prop} (h : ∀ R : Value → World → Prop, (∀ v w', Q v w' → R v w') → c_slices_Contains_api_ID_api_ID t0 t1 w R) : cal P f_slices_Contains_api_ID_api_ID [t0, t1] w Q := l_slices_Contains_api_ID_api_ID (h Q fun _ _ h => h)

/-- (*flurry/hold.Hold).takes -/
def A_hold_Hold_takes : An := (An.s (An.r []) (An.s (An.s (An.r []) (An.s (An.s (An.r []) An.o) An.o)) (An.s (An.r []) (An.s (An.r []) (An.s (An.r []) (An.s (An.r []) (An.s (An.r []) An.o)))))))
def c_hold_Hold_takes (t0 t1 : Value) (w : World) (R : Value → World → Prop) : Prop :=
  bx T_func_api_ID_bool t1 w fun t3 w =>
  cal P f_hold_Hold_none [t0] w fun t9 w =>
  cnd t9
  (R (Value.tuple #[(Value.slice none 0 0), (Value.slice none 0 0)]) w)
  (nilc t0 fun t13 =>
  fad 3 t13 fun t14 =>
  ld1 t14 w.heap fun t15 =>
  cal P f_hold_taken_hold_waiting [t15, (Value.func (Fn.func f_hold_Hold_takes_1) #[] #[t3])] w fun t17 w =>
  ext 0 t17 fun t18 =>
  ext 1 t17 fun t19 =>
  nilc t0 fun t20 =>
  fad 3 t20 fun t21 =>
  st1 t21 t19 w fun w =>
  nilc t0 fun t25 =>
  fad 4 t25 fun t26 =>
  ld1 t26 w.heap fun t27 =>
  cal P f_hold_taken_api_HeldVote [t27, (Value.func (Fn.func f_hold_Hold_takes_2) #[] #[t3])] w fun t29 w =>
  ext 0 t29 fun t30 =>
  ext 1 t29 fun t31 =>
  nilc t0 fun t32 =>
  fad 4 t32 fun t33 =>
  st1 t33 t31 w fun w =>
  R (Value.tuple #[t18, t30]) w)
theorem e_hold_Hold_takes (t0 t1 : Value) (w : World) (R : Value → World → Prop) : intp P A_hold_Hold_takes (bodyOf Tryz.f55) (ini [t0, t1]) w (retK P Tryz.f55.results.toList R) (fun _ _ _ => False) (retK P Tryz.f55.results.toList R) = c_hold_Hold_takes t0 t1 w R := by kernel_rfl
theorem k_hold_Hold_takes : chk P Tryz.f55.ntmps A_hold_Hold_takes (bodyOf Tryz.f55) = true := by kernel_rfl
theorem l_hold_Hold_takes {t0 t1 : Value} {w : World} {R : Value → World → Prop} (h : c_hold_Hold_takes t0 t1 w R) : cal P f_hold_Hold_takes [t0, t1] w R :=
  calls_of mixed Tryz.func55 rfl (by kernel_rfl) k_hold_Hold_takes (Eq.mpr (e_hold_Hold_takes t0 t1 w R) h)
theorem s_hold_Hold_takes {t0 t1 : Value} {w : World} {Q : Value → World → Prop} (h : ∀ R : Value → World → Prop, (∀ v w', Q v w' → R v w') → c_hold_Hold_takes t0 t1 w R) : cal P f_hold_Hold_takes [t0, t1] w Q := l_hold_Hold_takes (h Q fun _ _ h => h)

/-- (*flurry/hold.Hold).Lost$1 -/
def A_hold_Hold_Lost_1 : An := (An.s (An.r []) (An.s (An.r []) An.o))
def c_hold_Hold_Lost_1 (t0 t1 : Value) (w : World) (R : Value → World → Prop) : Prop :=
  bx T_api_ID t0 w fun t2 w =>
  ld1 t1 w.heap fun t4 =>
  ldN 32 t2 w.heap fun t5 =>
  rdP P (Instr.lookup T_map_api_ID_bool t4 t5 false) w fun t6 =>
  R t6 w
theorem e_hold_Hold_Lost_1 (t0 t1 : Value) (w : World) (R : Value → World → Prop) : intp P A_hold_Hold_Lost_1 (bodyOf Tryz.f56) (ini [t0, t1]) w (retK P Tryz.f56.results.toList R) (fun _ _ _ => False) (retK P Tryz.f56.results.toList R) = c_hold_Hold_Lost_1 t0 t1 w R := by kernel_rfl
theorem k_hold_Hold_Lost_1 : chk P Tryz.f56.ntmps A_hold_Hold_Lost_1 (bodyOf Tryz.f56) = true := by kernel_rfl
theorem l_hold_Hold_Lost_1 {t0 t1 : Value} {w : World} {R : Value → World → Prop} (h : c_hold_Hold_Lost_1 t0 t1 w R) : cal P f_hold_Hold_Lost_1 [t0, t1] w R :=
  calls_of mixed Tryz.func56 rfl (by kernel_rfl) k_hold_Hold_Lost_1 (Eq.mpr (e_hold_Hold_Lost_1 t0 t1 w R) h)
theorem s_hold_Hold_Lost_1 {t0 t1 : Value} {w : World} {Q : Value → World → Prop} (h : ∀ R : Value → World → Prop, (∀ v w', Q v w' → R v w') → c_hold_Hold_Lost_1 t0 t1 w R) : cal P f_hold_Hold_Lost_1 [t0, t1] w Q := l_hold_Hold_Lost_1 (h Q fun _ _ h => h)

/-- (*flurry/hold.Hold).Came$1 -/
def A_hold_Hold_Came_1 : An := (An.s (An.r []) (An.s (An.r []) An.o))
def c_hold_Hold_Came_1 (t0 t1 : Value) (w : World) (R : Value → World → Prop) : Prop :=
  bx T_api_ID t0 w fun t2 w =>
  ldN 32 t2 w.heap fun t4 =>
  ldN 32 t1 w.heap fun t5 =>
  rdP P (eqS BinOp.eql T_api_ID (Operand.tmp 4) (Operand.tmp 5) t4 t5) w fun t6 =>
  R t6 w
theorem e_hold_Hold_Came_1 (t0 t1 : Value) (w : World) (R : Value → World → Prop) : intp P A_hold_Hold_Came_1 (bodyOf Tryz.f57) (ini [t0, t1]) w (retK P Tryz.f57.results.toList R) (fun _ _ _ => False) (retK P Tryz.f57.results.toList R) = c_hold_Hold_Came_1 t0 t1 w R := by kernel_rfl
theorem k_hold_Hold_Came_1 : chk P Tryz.f57.ntmps A_hold_Hold_Came_1 (bodyOf Tryz.f57) = true := by kernel_rfl
theorem l_hold_Hold_Came_1 {t0 t1 : Value} {w : World} {R : Value → World → Prop} (h : c_hold_Hold_Came_1 t0 t1 w R) : cal P f_hold_Hold_Came_1 [t0, t1] w R :=
  calls_of mixed Tryz.func57 rfl (by kernel_rfl) k_hold_Hold_Came_1 (Eq.mpr (e_hold_Hold_Came_1 t0 t1 w R) h)
theorem s_hold_Hold_Came_1 {t0 t1 : Value} {w : World} {Q : Value → World → Prop} (h : ∀ R : Value → World → Prop, (∀ v w', Q v w' → R v w') → c_hold_Hold_Came_1 t0 t1 w R) : cal P f_hold_Hold_Came_1 [t0, t1] w Q := l_hold_Hold_Came_1 (h Q fun _ _ h => h)

/-- flurry/flurryref03.ID -/
def A_ref03_ID : An := (An.s (An.r []) (An.s (An.r []) (An.s (An.s (An.r []) (An.s (An.s (An.r []) An.o) An.o)) (An.s (An.r []) An.o))))
def c_ref03_ID (t0 : Value) (w : World) (R : Value → World → Prop) : Prop :=
  bx T_api_Block t0 w fun t1 w =>
  efP P (Instr.alloc T_api_ID true (.tuple #[])) w fun t2 w =>
  ldN 34 t1 w.heap fun t7 =>
  cal P f_ref03_Bytes [t7] w fun t8 w =>
  ext 0 t8 fun t9 =>
  ext 1 t8 fun t10 =>
  bi BinOp.neq t10 (Value.int IntKind.i64 0) fun t12 =>
  cnd t12
  (rdP P (Instr.build T_api_ID #[]) w fun t13 =>
  stN 32 t2 t13 w fun w =>
  ldN 32 t2 w.heap fun r0 =>
  R (Value.tuple #[r0, t10]) w)
  (cal P f_ref02_Sum [t9] w fun t16 w =>
  stN 32 t2 t16 w fun w =>
  ldN 32 t2 w.heap fun r1 =>
  R (Value.tuple #[r1, (Value.int IntKind.i64 0)]) w)
theorem e_ref03_ID (t0 : Value) (w : World) (R : Value → World → Prop) : intp P A_ref03_ID (bodyOf Tryz.f58) (ini [t0]) w (retK P Tryz.f58.results.toList R) (fun _ _ _ => False) (retK P Tryz.f58.results.toList R) = c_ref03_ID t0 w R := by kernel_rfl
theorem k_ref03_ID : chk P Tryz.f58.ntmps A_ref03_ID (bodyOf Tryz.f58) = true := by kernel_rfl
theorem l_ref03_ID {t0 : Value} {w : World} {R : Value → World → Prop} (h : c_ref03_ID t0 w R) : cal P f_ref03_ID [t0] w R :=
  calls_of mixed Tryz.func58 rfl (by kernel_rfl) k_ref03_ID (Eq.mpr (e_ref03_ID t0 w R) h)
theorem s_ref03_ID {t0 : Value} {w : World} {Q : Value → World → Prop} (h : ∀ R : Value → World → Prop, (∀ v w', Q v w' → R v w') → c_ref03_ID t0 w R) : cal P f_ref03_ID [t0] w Q := l_ref03_ID (h Q fun _ _ h => h)

/-- (*flurry/flurryref23.Hold).out -/
def A_ref23_Hold_out : An := (An.s (An.r []) (An.s (An.r []) (An.s (An.r []) (An.s (An.s (An.r []) (An.b (An.l [6, 7, 10] (An.s (An.s (An.r []) (An.s An.o An.o)) (An.s (An.j [6, 7] (An.b (An.s (An.r []) (An.s (An.r []) (An.r []))))) (An.r [])))))) (An.s (An.s (An.r []) (An.b (An.l [8, 9, 11] (An.s (An.s (An.r []) (An.s An.o An.o)) (An.s (An.j [8, 9] (An.b (An.s (An.r []) (An.s (An.r []) (An.r []))))) (An.r [])))))) (An.s (An.r []) (An.s (An.r []) An.o)))))))
def c_ref23_Hold_out (t0 t1 : Value) (w : World) (R : Value → World → Prop) : Prop :=
  lp3 (Value.slice none 0 0) (Value.slice none 0 0) (Value.int IntKind.i64 0) w fun _ t6 t7 t10 w again0 =>
  nilc t0 fun t14 =>
  fad 2 t14 fun t15 =>
  ld1 t15 w.heap fun t16 =>
  lenS t16 fun t17 =>
  bi BinOp.lss t10 t17 fun t18 =>
  cnd t18
  (jn2 (fun k1 =>
  nilc t0 fun t23 =>
  fad 2 t23 fun t24 =>
  ld1 t24 w.heap fun t25 =>
  ixs 66 t25 t10 fun t27 =>
  fad 32 t27 fun t28 =>
  fad 0 t28 fun t29 =>
  ldN 32 t29 w.heap fun t30 =>
  cal P f_ref23_has [t1, t30] w fun t31 w =>
  cnd t31
  (nilc t0 fun t34 =>
  fad 2 t34 fun t35 =>
  ld1 t35 w.heap fun t36 =>
  ixs 66 t36 t10 fun t38 =>
  ldN 66 t38 w.heap fun t39 =>
  efP P (Instr.buildSlice T_sl_flurryref23_Node 1 #[(0, t39)]) w fun t40 w =>
  efP P (Builtin.append_ #[T_sl_flurryref23_Node, T_sl_flurryref23_Node] T_sl_flurryref23_Node #[t6, t40]) w fun t41 w =>
  k1 t41 t7 w)
  (nilc t0 fun t44 =>
  fad 2 t44 fun t45 =>
  ld1 t45 w.heap fun t46 =>
  ixs 66 t46 t10 fun t48 =>
  ldN 66 t48 w.heap fun t49 =>
  efP P (Instr.buildSlice T_sl_flurryref23_Node 1 #[(0, t49)]) w fun t50 w =>
  efP P (Builtin.append_ #[T_sl_flurryref23_Node, T_sl_flurryref23_Node] T_sl_flurryref23_Node #[t7, t50]) w fun t51 w =>
  k1 t6 t51 w)) fun _ t6_1 t7_1 w =>
  bi BinOp.add t10 (Value.int IntKind.i64 1) fun t20 =>
  again0 t6_1 t7_1 t20 w)
  (lp3 (Value.slice none 0 0) (Value.slice none 0 0) (Value.int IntKind.i64 0) w fun _ t8 t9 t11 w again2 =>
  nilc t0 fun t54 =>
  fad 3 t54 fun t55 =>
  ld1 t55 w.heap fun t56 =>
  lenS t56 fun t57 =>
  bi BinOp.lss t11 t57 fun t58 =>
  cnd t58
  (jn2 (fun k3 =>
  nilc t0 fun t63 =>
  fad 3 t63 fun t64 =>
  ld1 t64 w.heap fun t65 =>
  ixs 66 t65 t11 fun t67 =>
  fad 2 t67 fun t68 =>
  ldN 32 t68 w.heap fun t69 =>
  cal P f_ref23_has [t1, t69] w fun t70 w =>
  cnd t70
  (nilc t0 fun t73 =>
  fad 3 t73 fun t74 =>
  ld1 t74 w.heap fun t75 =>
  ixs 66 t75 t11 fun t77 =>
  ldN 66 t77 w.heap fun t78 =>
  efP P (Instr.buildSlice T_sl_api_HeldVote 1 #[(0, t78)]) w fun t79 w =>
  efP P (Builtin.append_ #[T_sl_api_HeldVote, T_sl_api_HeldVote] T_sl_api_HeldVote #[t8, t79]) w fun t80 w =>
  k3 t80 t9 w)
  (nilc t0 fun t83 =>
  fad 3 t83 fun t84 =>
  ld1 t84 w.heap fun t85 =>
  ixs 66 t85 t11 fun t87 =>
  ldN 66 t87 w.heap fun t88 =>
  efP P (Instr.buildSlice T_sl_api_HeldVote 1 #[(0, t88)]) w fun t89 w =>
  efP P (Builtin.append_ #[T_sl_api_HeldVote, T_sl_api_HeldVote] T_sl_api_HeldVote #[t9, t89]) w fun t90 w =>
  k3 t8 t90 w)) fun _ t8_1 t9_1 w =>
  bi BinOp.add t11 (Value.int IntKind.i64 1) fun t60 =>
  again2 t8_1 t9_1 t60 w)
  (nilc t0 fun t95 =>
  fad 2 t95 fun t96 =>
  st1 t96 t7 w fun w =>
  nilc t0 fun t97 =>
  fad 3 t97 fun t98 =>
  st1 t98 t9 w fun w =>
  R (Value.tuple #[t6, t8]) w))
theorem e_ref23_Hold_out (t0 t1 : Value) (w : World) (R : Value → World → Prop) : intp P A_ref23_Hold_out (bodyOf Tryz.f59) (ini [t0, t1]) w (retK P Tryz.f59.results.toList R) (fun _ _ _ => False) (retK P Tryz.f59.results.toList R) = c_ref23_Hold_out t0 t1 w R := by kernel_rfl
theorem k_ref23_Hold_out : chk P Tryz.f59.ntmps A_ref23_Hold_out (bodyOf Tryz.f59) = true := by kernel_rfl
theorem l_ref23_Hold_out {t0 t1 : Value} {w : World} {R : Value → World → Prop} (h : c_ref23_Hold_out t0 t1 w R) : cal P f_ref23_Hold_out [t0, t1] w R :=
  calls_of mixed Tryz.func59 rfl (by kernel_rfl) k_ref23_Hold_out (Eq.mpr (e_ref23_Hold_out t0 t1 w R) h)
theorem s_ref23_Hold_out {t0 t1 : Value} {w : World} {Q : Value → World → Prop} (h : ∀ R : Value → World → Prop, (∀ v w', Q v w' → R v w') → c_ref23_Hold_out t0 t1 w R) : cal P f_ref23_Hold_out [t0, t1] w Q := l_ref23_Hold_out (h Q fun _ _ h => h)

/-- flurry/flurryref23.has -/
def A_ref23_has : An := (An.s (An.r []) (An.s (An.s (An.r []) (An.b (An.l [5] (An.s (An.s (An.r []) (An.s An.o An.o)) (An.s (An.b (An.s (An.r []) (An.s (An.s (An.r []) An.o) An.o))) (An.r [])))))) (An.s (An.r []) An.o)))
def c_ref23_has (t0 t1 : Value) (w : World) (R : Value → World → Prop) : Prop :=
  bx T_api_ID t1 w fun t3 w =>
  lp1 (Value.int IntKind.i64 0) w fun _ t5 w again0 =>
  lenS t0 fun t8 =>
  bi BinOp.lss t5 t8 fun t9 =>
  cnd t9
  (drw w fun w =>
  ixs 32 t0 t5 fun t14 =>
  ldN 32 t14 w.heap fun t15 =>
  ldN 32 t3 w.heap fun t16 =>
  rdP P (eqS BinOp.eql T_api_ID (Operand.tmp 15) (Operand.tmp 16) t15 t16) w fun t17 =>
  cnd t17
  (R (Value.bool true) w)
  (bi BinOp.add t5 (Value.int IntKind.i64 1) fun t11 =>
  again0 t11 w))
  (R (Value.bool false) w)
theorem e_ref23_has (t0 t1 : Value) (w : World) (R : Value → World → Prop) : intp P A_ref23_has (bodyOf Tryz.f60) (ini [t0, t1]) w (retK P Tryz.f60.results.toList R) (fun _ _ _ => False) (retK P Tryz.f60.results.toList R) = c_ref23_has t0 t1 w R := by kernel_rfl
theorem k_ref23_has : chk P Tryz.f60.ntmps A_ref23_has (bodyOf Tryz.f60) = true := by kernel_rfl
theorem l_ref23_has {t0 t1 : Value} {w : World} {R : Value → World → Prop} (h : c_ref23_has t0 t1 w R) : cal P f_ref23_has [t0, t1] w R :=
  calls_of mixed Tryz.func60 rfl (by kernel_rfl) k_ref23_has (Eq.mpr (e_ref23_has t0 t1 w R) h)
theorem s_ref23_has {t0 t1 : Value} {w : World} {Q : Value → World → Prop} (h : ∀ R : Value → World → Prop, (∀ v w', Q v w' → R v w') → c_ref23_has t0 t1 w R) : cal P f_ref23_has [t0, t1] w Q := l_ref23_has (h Q fun _ _ h => h)

/-- flurry/hold.taken[flurry/api.HeldVote] -/
def A_hold_taken_api_HeldVote : An := (An.s (An.r []) (An.s (An.s (An.r []) (An.b (An.l [4, 5, 10] (An.s (An.r []) (An.s (An.s An.o An.o) (An.s (An.j [4, 5] (An.b (An.s (An.r []) (An.s (An.r []) (An.s (An.r []) (An.r [])))))) (An.r []))))))) (An.s (An.r []) An.o)))
def c_hold_taken_api_HeldVote (t0 t1 : Value) (w : World) (R : Value → World → Prop) : Prop :=
  lenS t0 fun t9 =>
  lp3 (Value.slice none 0 0) (Value.slice none 0 0) (Value.int IntKind.i64 0) w fun _ t4 t5 t10 w again0 =>
  bi BinOp.lss t10 t9 fun t11 =>
  cnd t11
  (jn2 (fun k1 =>
  ixs 66 t0 t10 fun t12 =>
  ldN 66 t12 w.heap fun t13 =>
  efP P (Instr.alloc T_api_HeldVote true (.tuple #[])) w fun t7 w =>
  stN 66 t7 t13 w fun w =>
  ldN 66 t7 w.heap fun t15 =>
  calV P t1 [t15] w fun t16 w =>
  cnd t16
  (ldN 66 t7 w.heap fun t18 =>
  efP P (Instr.buildSlice T_sl_api_HeldVote 1 #[(0, t18)]) w fun t19 w =>
  efP P (Builtin.append_ #[T_sl_api_HeldVote, T_sl_api_HeldVote] T_sl_api_HeldVote #[t4, t19]) w fun t20 w =>
  k1 t20 t5 w)
  (ldN 66 t7 w.heap fun t22 =>
  efP P (Instr.buildSlice T_sl_api_HeldVote 1 #[(0, t22)]) w fun t23 w =>
  efP P (Builtin.append_ #[T_sl_api_HeldVote, T_sl_api_HeldVote] T_sl_api_HeldVote #[t5, t23]) w fun t24 w =>
  k1 t4 t24 w)) fun _ t4_1 t5_1 w =>
  bi BinOp.add t10 (Value.int IntKind.i64 1) fun t25 =>
  again0 t4_1 t5_1 t25 w)
  (R (Value.tuple #[t4, t5]) w)
theorem e_hold_taken_api_HeldVote (t0 t1 : Value) (w : World) (R : Value → World → Prop) : intp P A_hold_taken_api_HeldVote (bodyOf Tryz.f61) (ini [t0, t1]) w (retK P Tryz.f61.results.toList R) (fun _ _ _ => False) (retK P Tryz.f61.results.toList R) = c_hold_taken_api_HeldVote t0 t1 w R := by kernel_rfl
theorem k_hold_taken_api_HeldVote : chk P Tryz.f61.ntmps A_hold_taken_api_HeldVote (bodyOf Tryz.f61) = true := by kernel_rfl
theorem l_hold_taken_api_HeldVote {t0 t1 : Value} {w : World} {R : Value → World → Prop} (h : c_hold_taken_api_HeldVote t0 t1 w R) : cal P f_hold_taken_api_HeldVote [t0, t1] w R :=
  calls_of mixed Tryz.func61 rfl (by kernel_rfl) k_hold_taken_api_HeldVote (Eq.mpr (e_hold_taken_api_HeldVote t0 t1 w R) h)
theorem s_hold_taken_api_HeldVote {t0 t1 : Value} {w : World} {Q : Value → World → Prop} (h : ∀ R : Value → World → Prop, (∀ v w', Q v w' → R v w') → c_hold_taken_api_HeldVote t0 t1 w R) : cal P f_hold_taken_api_HeldVote [t0, t1] w Q := l_hold_taken_api_HeldVote (h Q fun _ _ h => h)

/-- (*flurry/hold.Hold).Drop$1 -/
def A_hold_Hold_Drop_1 : An := (An.s (An.r []) (An.s (An.r []) An.o))
def c_hold_Hold_Drop_1 (t0 t1 : Value) (w : World) (R : Value → World → Prop) : Prop :=
  bx T_api_HeldVote t0 w fun t2 w =>
  fad 0 t2 fun t4 =>
  ld1 t4 w.heap fun t5 =>
  ld1 t1 w.heap fun t6 =>
  bi BinOp.eql t5 t6 fun t7 =>
  R t7 w
theorem e_hold_Hold_Drop_1 (t0 t1 : Value) (w : World) (R : Value → World → Prop) : intp P A_hold_Hold_Drop_1 (bodyOf Tryz.f62) (ini [t0, t1]) w (retK P Tryz.f62.results.toList R) (fun _ _ _ => False) (retK P Tryz.f62.results.toList R) = c_hold_Hold_Drop_1 t0 t1 w R := by kernel_rfl
theorem k_hold_Hold_Drop_1 : chk P Tryz.f62.ntmps A_hold_Hold_Drop_1 (bodyOf Tryz.f62) = true := by kernel_rfl
theorem l_hold_Hold_Drop_1 {t0 t1 : Value} {w : World} {R : Value → World → Prop} (h : c_hold_Hold_Drop_1 t0 t1 w R) : cal P f_hold_Hold_Drop_1 [t0, t1] w R :=
  calls_of mixed Tryz.func62 rfl (by kernel_rfl) k_hold_Hold_Drop_1 (Eq.mpr (e_hold_Hold_Drop_1 t0 t1 w R) h)
theorem s_hold_Hold_Drop_1 {t0 t1 : Value} {w : World} {Q : Value → World → Prop} (h : ∀ R : Value → World → Prop, (∀ v w', Q v w' → R v w') → c_hold_Hold_Drop_1 t0 t1 w R) : cal P f_hold_Hold_Drop_1 [t0, t1] w Q := l_hold_Hold_Drop_1 (h Q fun _ _ h => h)

/-- slices.ContainsFunc[[]flurry/hold.waiting,flurry/hold.waiting] -/
def A_slices_ContainsFunc_hold_waiting_hold_waiting : An := (An.s (An.r []) (An.s (An.r []) An.o))
def c_slices_ContainsFunc_hold_waiting_hold_waiting (t0 t1 : Value) (w : World) (R : Value → World → Prop) : Prop :=
  cal P f_slices_IndexFunc_hold_waiting_hold_waiting [t0, t1] w fun t7 w =>
  bi BinOp.geq t7 (Value.int IntKind.i64 0) fun t8 =>
  R t8 w
theorem e_slices_ContainsFunc_hold_waiting_hold_waiting (t0 t1 : Value) (w : World) (R : Value → World → Prop) : intp P A_slices_ContainsFunc_hold_waiting_hold_waiting (bodyOf Tryz.f63) (ini [t0, t1]) w (retK P Tryz.f63.results.toList R) (fun _ _ _ => False) (retK P Tryz.f63.results.toList R) = c_slices_ContainsFunc_hold_waiting_hold_waiting t0 t1 w R := by kernel_rfl
theorem k_slices_ContainsFunc_hold_waiting_hold_waiting : chk P Tryz.f63.ntmps A_slices_ContainsFunc_hold_waiting_hold_waiting (bodyOf Tryz.f63) = true := by kernel_rfl
theorem l_slices_ContainsFunc_hold_waiting_hold_waiting {t0 t1 : Value} {w : World} {R : Value → World → Prop} (h : c_slices_ContainsFunc_hold_waiting_hold_waiting t0 t1 w R) : cal P f_slices_ContainsFunc_hold_waiting_hold_waiting [t0, t1] w R :=
  calls_of mixed Tryz.func63 rfl (by kernel_rfl) k_slices_ContainsFunc_hold_waiting_hold_waiting (Eq.mpr (e_slices_ContainsFunc_hold_waiting_hold_waiting t0 t1 w R) h)
theorem s_slices_ContainsFunc_hold_waiting_hold_waiting {t0 t1 : Value} {w : World} {Q : Value → World → Prop} (h : ∀ R : Value → World → Prop, (∀ v w', Q v w' → R v w') → c_slices_ContainsFunc_hold_waiting_hold_waiting t0 t1 w R) : cal P f_slices_ContainsFunc_hold_waiting_hold_waiting [t0, t1] w Q := l_slices_ContainsFunc_hold_waiting_hold_waiting (h Q fun _ _ h => h)

/-- (*flurry/hold.Hold).Wants$1 -/
def A_hold_Hold_Wants_1 : An := (An.s (An.r []) (An.s (An.r []) An.o))
def c_hold_Hold_Wants_1 (t0 t1 : Value) (w : World) (R : Value → World → Prop) : Prop :=
  bx T_hold_waiting t0 w fun t2 w =>
  fad 32 t2 fun t4 =>
  fad 0 t4 fun t5 =>
  ldN 32 t5 w.heap fun t6 =>
  ldN 32 t1 w.heap fun t7 =>
  rdP P (eqS BinOp.eql T_api_ID (Operand.tmp 6) (Operand.tmp 7) t6 t7) w fun t8 =>
  R t8 w
theorem e_hold_Hold_Wants_1 (t0 t1 : Value) (w : World) (R : Value → World → Prop) : intp P A_hold_Hold_Wants_1 (bodyOf Tryz.f64) (ini [t0, t1]) w (retK P Tryz.f64.results.toList R) (fun _ _ _ => False) (retK P Tryz.f64.results.toList R) = c_hold_Hold_Wants_1 t0 t1 w R := by kernel_rfl
theorem k_hold_Hold_Wants_1 : chk P Tryz.f64.ntmps A_hold_Hold_Wants_1 (bodyOf Tryz.f64) = true := by kernel_rfl
theorem l_hold_Hold_Wants_1 {t0 t1 : Value} {w : World} {R : Value → World → Prop} (h : c_hold_Hold_Wants_1 t0 t1 w R) : cal P f_hold_Hold_Wants_1 [t0, t1] w R :=
  calls_of mixed Tryz.func64 rfl (by kernel_rfl) k_hold_Hold_Wants_1 (Eq.mpr (e_hold_Hold_Wants_1 t0 t1 w R) h)
theorem s_hold_Hold_Wants_1 {t0 t1 : Value} {w : World} {Q : Value → World → Prop} (h : ∀ R : Value → World → Prop, (∀ v w', Q v w' → R v w') → c_hold_Hold_Wants_1 t0 t1 w R) : cal P f_hold_Hold_Wants_1 [t0, t1] w Q := l_hold_Hold_Wants_1 (h Q fun _ _ h => h)

/-- (*flurry/hold.Hold).Wants$2 -/
def A_hold_Hold_Wants_2 : An := (An.s (An.r []) (An.s (An.r []) An.o))
def c_hold_Hold_Wants_2 (t0 t1 : Value) (w : World) (R : Value → World → Prop) : Prop :=
  bx T_api_HeldVote t0 w fun t2 w =>
  fad 2 t2 fun t4 =>
  ldN 32 t4 w.heap fun t5 =>
  ldN 32 t1 w.heap fun t6 =>
  rdP P (eqS BinOp.eql T_api_ID (Operand.tmp 5) (Operand.tmp 6) t5 t6) w fun t7 =>
  R t7 w
theorem e_hold_Hold_Wants_2 (t0 t1 : Value) (w : World) (R : Value → World → Prop) : intp P A_hold_Hold_Wants_2 (bodyOf Tryz.f65) (ini [t0, t1]) w (retK P Tryz.f65.results.toList R) (fun _ _ _ => False) (retK P Tryz.f65.results.toList R) = c_hold_Hold_Wants_2 t0 t1 w R := by kernel_rfl
theorem k_hold_Hold_Wants_2 : chk P Tryz.f65.ntmps A_hold_Hold_Wants_2 (bodyOf Tryz.f65) = true := by kernel_rfl
theorem l_hold_Hold_Wants_2 {t0 t1 : Value} {w : World} {R : Value → World → Prop} (h : c_hold_Hold_Wants_2 t0 t1 w R) : cal P f_hold_Hold_Wants_2 [t0, t1] w R :=
  calls_of mixed Tryz.func65 rfl (by kernel_rfl) k_hold_Hold_Wants_2 (Eq.mpr (e_hold_Hold_Wants_2 t0 t1 w R) h)
theorem s_hold_Hold_Wants_2 {t0 t1 : Value} {w : World} {Q : Value → World → Prop} (h : ∀ R : Value → World → Prop, (∀ v w', Q v w' → R v w') → c_hold_Hold_Wants_2 t0 t1 w R) : cal P f_hold_Hold_Wants_2 [t0, t1] w Q := l_hold_Hold_Wants_2 (h Q fun _ _ h => h)

/-- flurry/block.Check -/
def A_block_Check : An := (An.s (An.r []) (An.s (An.b (An.s (An.j [3] (An.s (An.r []) (An.s An.o (An.r [])))) (An.s (An.s (An.r []) An.o) (An.s (An.r [[19]]) (An.s (An.s (An.r []) An.o) An.o))))) (An.s (An.r []) An.o)))
def c_block_Check (t0 : Value) (w : World) (R : Value → World → Prop) : Prop :=
  bx T_api_Block t0 w fun t1 w =>
  jn1 (fun k0 =>
  fad 32 t1 fun t4 =>
  ld1 t4 w.heap fun t5 =>
  bi BinOp.lss t5 (Value.int IntKind.i64 0) fun t6 =>
  cnd t6
  (k0 t6 w)
  (fad 33 t1 fun t7 =>
  ld1 t7 w.heap fun t8 =>
  lenS t8 fun t9 =>
  bi BinOp.gtr t9 (Value.int IntKind.i64 200) fun t10 =>
  k0 t10 w)) fun _ t3 w =>
  cnd t3
  (R (Value.int IntKind.i64 30) w)
  (fad 32 t1 fun t12 =>
  ld1 t12 w.heap fun t13 =>
  bi BinOp.eql t13 (Value.int IntKind.i64 0) fun t14 =>
  jn1 (fun k1 =>
  gif t14 true
  (fad 0 t1 fun t16 =>
  ldN 32 t16 w.heap fun t17 =>
  rdP P (Instr.build T_api_ID #[]) w fun t18 =>
  rdP P (eqS BinOp.neq T_api_ID (Operand.tmp 17) (Operand.tmp 18) t17 t18) w fun t19 =>
  k1 t19 w)
  (k1 undef w)) fun _ t19_1 w =>
  pik t14 t19_1 (Value.bool false) fun t20 =>
  cnd t20
  (R (Value.int IntKind.i64 30) w)
  (R (Value.int IntKind.i64 0) w))
theorem e_block_Check (t0 : Value) (w : World) (R : Value → World → Prop) : intp P A_block_Check (bodyOf Tryz.f66) (ini [t0]) w (retK P Tryz.f66.results.toList R) (fun _ _ _ => False) (retK P Tryz.f66.results.toList R) = c_block_Check t0 w R := by kernel_rfl
theorem k_block_Check : chk P Tryz.f66.ntmps A_block_Check (bodyOf Tryz.f66) = true := by kernel_rfl
theorem l_block_Check {t0 : Value} {w : World} {R : Value → World → Prop} (h : c_block_Check t0 w R) : cal P f_block_Check [t0] w R :=
  calls_of mixed Tryz.func66 rfl (by kernel_rfl) k_block_Check (Eq.mpr (e_block_Check t0 w R) h)
theorem s_block_Check {t0 : Value} {w : World} {Q : Value → World → Prop} (h : ∀ R : Value → World → Prop, (∀ v w', Q v w' → R v w') → c_block_Check t0 w R) : cal P f_block_Check [t0] w Q := l_block_Check (h Q fun _ _ h => h)

/-- flurry/block.Bytes -/
def A_block_Bytes : An := (An.s (An.r []) (An.s (An.s (An.r []) (An.s (An.r []) (An.s (An.s (An.r []) An.o) An.o))) (An.s (An.r []) (An.s (An.r []) (An.s (An.r []) (An.s (An.r []) (An.s (An.r []) (An.s (An.r []) An.o))))))))
def c_block_Bytes (t0 : Value) (w : World) (R : Value → World → Prop) : Prop :=
  bx T_api_Block t0 w fun t1 w =>
  ldN 34 t1 w.heap fun t6 =>
  cal P f_block_Check [t6] w fun t7 w =>
  bi BinOp.neq t7 (Value.int IntKind.i64 0) fun t9 =>
  cnd t9
  (R (Value.tuple #[(Value.slice none 0 0), t7]) w)
  (cal P f_pack_New [(Value.int IntKind.i64 246)] w fun t11 w =>
  cal P f_pack_Packer_Short [t11, (Value.int IntKind.u16 0)] w fun t13 w =>
  fad 0 t1 fun t15 =>
  sla 32 1 t15 none none fun t16 =>
  cal P f_pack_Packer_Fixed [t11, t16] w fun t17 w =>
  fad 32 t1 fun t19 =>
  ld1 t19 w.heap fun t20 =>
  cvi IntKind.u64 t20 fun t21 =>
  cal P f_pack_Packer_Long [t11, t21] w fun t22 w =>
  fad 33 t1 fun t24 =>
  ld1 t24 w.heap fun t25 =>
  cal P f_pack_Packer_Bytes [t11, t25] w fun t26 w =>
  cal P f_pack_Packer_Out [t11] w fun t28 w =>
  ext 0 t28 fun t29 =>
  ext 1 t28 fun t30 =>
  R (Value.tuple #[t29, t30]) w)
theorem e_block_Bytes (t0 : Value) (w : World) (R : Value → World → Prop) : intp P A_block_Bytes (bodyOf Tryz.f67) (ini [t0]) w (retK P Tryz.f67.results.toList R) (fun _ _ _ => False) (retK P Tryz.f67.results.toList R) = c_block_Bytes t0 w R := by kernel_rfl
theorem k_block_Bytes : chk P Tryz.f67.ntmps A_block_Bytes (bodyOf Tryz.f67) = true := by kernel_rfl
theorem l_block_Bytes {t0 : Value} {w : World} {R : Value → World → Prop} (h : c_block_Bytes t0 w R) : cal P f_block_Bytes [t0] w R :=
  calls_of mixed Tryz.func67 rfl (by kernel_rfl) k_block_Bytes (Eq.mpr (e_block_Bytes t0 w R) h)
theorem s_block_Bytes {t0 : Value} {w : World} {Q : Value → World → Prop} (h : ∀ R : Value → World → Prop, (∀ v w', Q v w' → R v w') → c_block_Bytes t0 w R) : cal P f_block_Bytes [t0] w Q := l_block_Bytes (h Q fun _ _ h => h)

/-- flurry/sha.Sum -/
def A_sha_Sum : An := (An.s (An.r []) (An.s (An.r []) (An.s (An.r []) (An.s (An.r []) An.o))))
def c_sha_Sum (t0 : Value) (w : World) (R : Value → World → Prop) : Prop :=
  efP P (Instr.alloc T_api_ID true (.tuple #[])) w fun t2 w =>
  cal P f_sha_New [] w fun t4 w =>
  efP P (Instr.buildSlice T_sl_sl_uint8 1 #[(0, t0)]) w fun t7 w =>
  cal P f_sha_State_Write [t4, t7] w fun t8 w =>
  cal P f_sha_State_Sum [t4] w fun t10 w =>
  stN 32 t2 t10 w fun w =>
  ldN 32 t2 w.heap fun r0 =>
  R r0 w
theorem e_sha_Sum (t0 : Value) (w : World) (R : Value → World → Prop) : intp P A_sha_Sum (bodyOf Tryz.f68) (ini [t0]) w (retK P Tryz.f68.results.toList R) (fun _ _ _ => False) (retK P Tryz.f68.results.toList R) = c_sha_Sum t0 w R := by kernel_rfl
theorem k_sha_Sum : chk P Tryz.f68.ntmps A_sha_Sum (bodyOf Tryz.f68) = true := by kernel_rfl
theorem l_sha_Sum {t0 : Value} {w : World} {R : Value → World → Prop} (h : c_sha_Sum t0 w R) : cal P f_sha_Sum [t0] w R :=
  calls_of mixed Tryz.func68 rfl (by kernel_rfl) k_sha_Sum (Eq.mpr (e_sha_Sum t0 w R) h)
theorem s_sha_Sum {t0 : Value} {w : World} {Q : Value → World → Prop} (h : ∀ R : Value → World → Prop, (∀ v w', Q v w' → R v w') → c_sha_Sum t0 w R) : cal P f_sha_Sum [t0] w Q := l_sha_Sum (h Q fun _ _ h => h)

/-- bytes.Clone -/
def A_bytes_Clone : An := (An.s (An.r []) (An.s (An.s (An.r []) (An.s (An.s (An.r []) An.o) An.o)) (An.s (An.r []) An.o)))
def c_bytes_Clone (t0 : Value) (w : World) (R : Value → World → Prop) : Prop :=
  nilS false t0 fun t4 =>
  cnd t4
  (R (Value.slice none 0 0) w)
  (efP P (Instr.buildSlice T_sl_uint8 0 #[]) w fun t5 w =>
  efP P (Builtin.append_ #[T_sl_uint8, T_sl_uint8] T_sl_uint8 #[t5, t0]) w fun t7 w =>
  R t7 w)
theorem e_bytes_Clone (t0 : Value) (w : World) (R : Value → World → Prop) : intp P A_bytes_Clone (bodyOf Tryz.f69) (ini [t0]) w (retK P Tryz.f69.results.toList R) (fun _ _ _ => False) (retK P Tryz.f69.results.toList R) = c_bytes_Clone t0 w R := by kernel_rfl
theorem k_bytes_Clone : chk P Tryz.f69.ntmps A_bytes_Clone (bodyOf Tryz.f69) = true := by kernel_rfl
theorem l_bytes_Clone {t0 : Value} {w : World} {R : Value → World → Prop} (h : c_bytes_Clone t0 w R) : cal P f_bytes_Clone [t0] w R :=
  calls_of mixed Tryz.func69 rfl (by kernel_rfl) k_bytes_Clone (Eq.mpr (e_bytes_Clone t0 w R) h)
theorem s_bytes_Clone {t0 : Value} {w : World} {Q : Value → World → Prop} (h : ∀ R : Value → World → Prop, (∀ v w', Q v w' → R v w') → c_bytes_Clone t0 w R) : cal P f_bytes_Clone [t0] w Q := l_bytes_Clone (h Q fun _ _ h => h)

/-- slices.IndexFunc[[]flurry/api.HeldVote,flurry/api.HeldVote] -/
def A_slices_IndexFunc_api_HeldVote_api_HeldVote : An := (An.s (An.r []) (An.s (An.s (An.r []) (An.b (An.l [8] (An.s (An.r []) (An.s (An.s An.o An.o) (An.s (An.b (An.s (An.r []) (An.s (An.r []) (An.s (An.s (An.r []) An.o) An.o)))) (An.r []))))))) (An.s (An.r []) An.o)))
def c_slices_IndexFunc_api_HeldVote_api_HeldVote (t0 t1 : Value) (w : World) (R : Value → World → Prop) : Prop :=
  lenS t0 fun t7 =>
  lp1 (Value.int IntKind.i64 0) w fun _ t8 w again0 =>
  bi BinOp.lss t8 t7 fun t9 =>
  cnd t9
  (ixs 66 t0 t8 fun t14 =>
  ldN 66 t14 w.heap fun t15 =>
  calV P t1 [t15] w fun t16 w =>
  cnd t16
  (R t8 w)
  (bi BinOp.add t8 (Value.int IntKind.i64 1) fun t18 =>
  again0 t18 w))
  (R (Value.int IntKind.i64 (-1)) w)
theorem e_slices_IndexFunc_api_HeldVote_api_HeldVote (t0 t1 : Value) (w : World) (R : Value → World → Prop) : intp P A_slices_IndexFunc_api_HeldVote_api_HeldVote (bodyOf Tryz.f70) (ini [t0, t1]) w (retK P Tryz.f70.results.toList R) (fun _ _ _ => False) (retK P Tryz.f70.results.toList R) = c_slices_IndexFunc_api_HeldVote_api_HeldVote t0 t1 w R := by kernel_rfl
theorem k_slices_IndexFunc_api_HeldVote_api_HeldVote : chk P Tryz.f70.ntmps A_slices_IndexFunc_api_HeldVote_api_HeldVote (bodyOf Tryz.f70) = true := by kernel_rfl
theorem l_slices_IndexFunc_api_HeldVote_api_HeldVote {t0 t1 : Value} {w : World} {R : Value → World → Prop} (h : c_slices_IndexFunc_api_HeldVote_api_HeldVote t0 t1 w R) : cal P f_slices_IndexFunc_api_HeldVote_api_HeldVote [t0, t1] w R :=
  calls_of mixed Tryz.func70 rfl (by kernel_rfl) k_slices_IndexFunc_api_HeldVote_api_HeldVote (Eq.mpr (e_slices_IndexFunc_api_HeldVote_api_HeldVote t0 t1 w R) h)
theorem s_slices_IndexFunc_api_HeldVote_api_HeldVote {t0 t1 : Value} {w : World} {Q : Value → World → Prop} (h : ∀ R : Value → World → Prop, (∀ v w', Q v w' → R v w') → c_slices_IndexFunc_api_HeldVote_api_HeldVote t0 t1 w R) : cal P f_slices_IndexFunc_api_HeldVote_api_HeldVote [t0, t1] w Q := l_slices_IndexFunc_api_HeldVote_api_HeldVote (h Q fun _ _ h => h)

/-- slices.Index[[]flurry/api.ID,flurry/api.ID] -/
def A_slices_Index_api_ID_api_ID : An := (An.s (An.r []) (An.s (An.s (An.r []) (An.b (An.l [8] (An.s (An.r []) (An.s (An.s An.o An.o) (An.s (An.b (An.s (An.r []) (An.s (An.r []) (An.s (An.s (An.r []) An.o) An.o)))) (An.r []))))))) (An.s (An.r []) An.o)))
def c_slices_Index_api_ID_api_ID (t0 t1 : Value) (w : World) (R : Value → World → Prop) : Prop :=
  bx T_api_ID t1 w fun t3 w =>
  lenS t0 fun t7 =>
  lp1 (Value.int IntKind.i64 0) w fun _ t8 w again0 =>
  bi BinOp.lss t8 t7 fun t9 =>
  cnd t9
  (drw w fun w =>
  ldN 32 t3 w.heap fun t11 =>
  ixs 32 t0 t8 fun t14 =>
  ldN 32 t14 w.heap fun t15 =>
  rdP P (eqS BinOp.eql T_api_ID (Operand.tmp 11) (Operand.tmp 15) t11 t15) w fun t16 =>
  cnd t16
  (R t8 w)
  (bi BinOp.add t8 (Value.int IntKind.i64 1) fun t18 =>
  again0 t18 w))
  (R (Value.int IntKind.i64 (-1)) w)
theorem e_slices_Index_api_ID_api_ID (t0 t1 : Value) (w : World) (R : Value → World → Prop) : intp P A_slices_Index_api_ID_api_ID (bodyOf Tryz.f71) (ini [t0, t1]) w (retK P Tryz.f71.results.toList R) (fun _ _ _ => False) (retK P Tryz.f71.results.toList R) = c_slices_Index_api_ID_api_ID t0 t1 w R := by kernel_rfl
theorem k_slices_Index_api_ID_api_ID : chk P Tryz.f71.ntmps A_slices_Index_api_ID_api_ID (bodyOf Tryz.f71) = true := by kernel_rfl
theorem l_slices_Index_api_ID_api_ID {t0 t1 : Value} {w : World} {R : Value → World → Prop} (h : c_slices_Index_api_ID_api_ID t0 t1 w R) : cal P f_slices_Index_api_ID_api_ID [t0, t1] w R :=
  calls_of mixed Tryz.func71 rfl (by kernel_rfl) k_slices_Index_api_ID_api_ID (Eq.mpr (e_slices_Index_api_ID_api_ID t0 t1 w R) h)
theorem s_slices_Index_api_ID_api_ID {t0 t1 : Value} {w : World} {Q : Value → World → Prop} (h : ∀ R : Value → World → Prop, (∀ v w', Q v w' → R v w') → c_slices_Index_api_ID_api_ID t0 t1 w R) : cal P f_slices_Index_api_ID_api_ID [t0, t1] w Q := l_slices_Index_api_ID_api_ID (h Q fun _ _ h => h)

/-- flurry/hold.taken[flurry/hold.waiting] -/
def A_hold_taken_hold_waiting : An := (An.s (An.r []) (An.s (An.s (An.r []) (An.b (An.l [4, 5, 10] (An.s (An.r []) (An.s (An.s An.o An.o) (An.s (An.j [4, 5] (An.b (An.s (An.r []) (An.s (An.r []) (An.s (An.r []) (An.r [])))))) (An.r []))))))) (An.s (An.r []) An.o)))
def c_hold_taken_hold_waiting (t0 t1 : Value) (w : World) (R : Value → World → Prop) : Prop :=
  lenS t0 fun t9 =>
  lp3 (Value.slice none 0 0) (Value.slice none 0 0) (Value.int IntKind.i64 0) w fun _ t4 t5 t10 w again0 =>
  bi BinOp.lss t10 t9 fun t11 =>
  cnd t11
  (jn2 (fun k1 =>
  ixs 66 t0 t10 fun t12 =>
  ldN 66 t12 w.heap fun t13 =>
  efP P (Instr.alloc T_hold_waiting true (.tuple #[])) w fun t7 w =>
  stN 66 t7 t13 w fun w =>
  ldN 66 t7 w.heap fun t15 =>
  calV P t1 [t15] w fun t16 w =>
  cnd t16
  (ldN 66 t7 w.heap fun t18 =>
  efP P (Instr.buildSlice T_sl_hold_waiting 1 #[(0, t18)]) w fun t19 w =>
  efP P (Builtin.append_ #[T_sl_hold_waiting, T_sl_hold_waiting] T_sl_hold_waiting #[t4, t19]) w fun t20 w =>
  k1 t20 t5 w)
  (ldN 66 t7 w.heap fun t22 =>
  efP P (Instr.buildSlice T_sl_hold_waiting 1 #[(0, t22)]) w fun t23 w =>
  efP P (Builtin.append_ #[T_sl_hold_waiting, T_sl_hold_waiting] T_sl_hold_waiting #[t5, t23]) w fun t24 w =>
  k1 t4 t24 w)) fun _ t4_1 t5_1 w =>
  bi BinOp.add t10 (Value.int IntKind.i64 1) fun t25 =>
  again0 t4_1 t5_1 t25 w)
  (R (Value.tuple #[t4, t5]) w)
theorem e_hold_taken_hold_waiting (t0 t1 : Value) (w : World) (R : Value → World → Prop) : intp P A_hold_taken_hold_waiting (bodyOf Tryz.f72) (ini [t0, t1]) w (retK P Tryz.f72.results.toList R) (fun _ _ _ => False) (retK P Tryz.f72.results.toList R) = c_hold_taken_hold_waiting t0 t1 w R := by kernel_rfl
theorem k_hold_taken_hold_waiting : chk P Tryz.f72.ntmps A_hold_taken_hold_waiting (bodyOf Tryz.f72) = true := by kernel_rfl
theorem l_hold_taken_hold_waiting {t0 t1 : Value} {w : World} {R : Value → World → Prop} (h : c_hold_taken_hold_waiting t0 t1 w R) : cal P f_hold_taken_hold_waiting [t0, t1] w R :=
  calls_of mixed Tryz.func72 rfl (by kernel_rfl) k_hold_taken_hold_waiting (Eq.mpr (e_hold_taken_hold_waiting t0 t1 w R) h)
theorem s_hold_taken_hold_waiting {t0 t1 : Value} {w : World} {Q : Value → World → Prop} (h : ∀ R : Value → World → Prop, (∀ v w', Q v w' → R v w') → c_hold_taken_hold_waiting t0 t1 w R) : cal P f_hold_taken_hold_waiting [t0, t1] w Q := l_hold_taken_hold_waiting (h Q fun _ _ h => h)

/-- (*flurry/hold.Hold).takes$1 -/
def A_hold_Hold_takes_1 : An := (An.s (An.r []) (An.s (An.r []) An.o))
def c_hold_Hold_takes_1 (t0 t1 : Value) (w : World) (R : Value → World → Prop) : Prop :=
  bx T_hold_waiting t0 w fun t2 w =>
  ld1 t1 w.heap fun t4 =>
  fad 32 t2 fun t5 =>
  fad 0 t5 fun t6 =>
  ldN 32 t6 w.heap fun t7 =>
  calV P t4 [t7] w fun t8 w =>
  R t8 w
theorem e_hold_Hold_takes_1 (t0 t1 : Value) (w : World) (R : Value → World → Prop) : intp P A_hold_Hold_takes_1 (bodyOf Tryz.f73) (ini [t0, t1]) w (retK P Tryz.f73.results.toList R) (fun _ _ _ => False) (retK P Tryz.f73.results.toList R) = c_hold_Hold_takes_1 t0 t1 w R := by kernel_rfl
theorem k_hold_Hold_takes_1 : chk P Tryz.f73.ntmps A_hold_Hold_takes_1 (bodyOf Tryz.f73) = true := by kernel_rfl
theorem l_hold_Hold_takes_1 {t0 t1 : Value} {w : World} {R : Value → World → Prop} (h : c_hold_Hold_takes_1 t0 t1 w R) : cal P f_hold_Hold_takes_1 [t0, t1] w R :=
  calls_of mixed Tryz.func73 rfl (by kernel_rfl) k_hold_Hold_takes_1 (Eq.mpr (e_hold_Hold_takes_1 t0 t1 w R) h)
theorem s_hold_Hold_takes_1 {t0 t1 : Value} {w : World} {Q : Value → World → Prop} (h : ∀ R : Value → World → Prop, (∀ v w', Q v w' → R v w') → c_hold_Hold_takes_1 t0 t1 w R) : cal P f_hold_Hold_takes_1 [t0, t1] w Q := l_hold_Hold_takes_1 (h Q fun _ _ h => h)

/-- (*flurry/hold.Hold).takes$2 -/
def A_hold_Hold_takes_2 : An := (An.s (An.r []) (An.s (An.r []) An.o))
def c_hold_Hold_takes_2 (t0 t1 : Value) (w : World) (R : Value → World → Prop) : Prop :=
  bx T_api_HeldVote t0 w fun t2 w =>
  ld1 t1 w.heap fun t4 =>
  fad 2 t2 fun t5 =>
  ldN 32 t5 w.heap fun t6 =>
  calV P t4 [t6] w fun t7 w =>
  R t7 w
theorem e_hold_Hold_takes_2 (t0 t1 : Value) (w : World) (R : Value → World → Prop) : intp P A_hold_Hold_takes_2 (bodyOf Tryz.f74) (ini [t0, t1]) w (retK P Tryz.f74.results.toList R) (fun _ _ _ => False) (retK P Tryz.f74.results.toList R) = c_hold_Hold_takes_2 t0 t1 w R := by kernel_rfl
theorem k_hold_Hold_takes_2 : chk P Tryz.f74.ntmps A_hold_Hold_takes_2 (bodyOf Tryz.f74) = true := by kernel_rfl
theorem l_hold_Hold_takes_2 {t0 t1 : Value} {w : World} {R : Value → World → Prop} (h : c_hold_Hold_takes_2 t0 t1 w R) : cal P f_hold_Hold_takes_2 [t0, t1] w R :=
  calls_of mixed Tryz.func74 rfl (by kernel_rfl) k_hold_Hold_takes_2 (Eq.mpr (e_hold_Hold_takes_2 t0 t1 w R) h)
theorem s_hold_Hold_takes_2 {t0 t1 : Value} {w : World} {Q : Value → World → Prop} (h : ∀ R : Value → World → Prop, (∀ v w', Q v w' → R v w') → c_hold_Hold_takes_2 t0 t1 w R) : cal P f_hold_Hold_takes_2 [t0, t1] w Q := l_hold_Hold_takes_2 (h Q fun _ _ h => h)

/-- flurry/flurryref03.Bytes -/
def A_ref03_Bytes : An := (An.s (An.r []) (An.s (An.s (An.r []) (An.s (An.r []) (An.s (An.s (An.r []) An.o) An.o))) (An.s (An.r []) (An.s (An.s (An.r []) (An.b (An.l [5, 6] (An.s (An.s (An.r []) (An.s An.o An.o)) (An.s (An.b (An.r [])) (An.r [])))))) (An.s (An.r []) (An.s (An.r []) (An.s (An.r []) An.o)))))))
def c_ref03_Bytes (t0 : Value) (w : World) (R : Value → World → Prop) : Prop :=
  bx T_api_Block t0 w fun t1 w =>
  ldN 34 t1 w.heap fun t7 =>
  cal P f_ref03_Check [t7] w fun t8 w =>
  bi BinOp.neq t8 (Value.int IntKind.i64 0) fun t10 =>
  cnd t10
  (R (Value.tuple #[(Value.slice none 0 0), t8]) w)
  (efP P (Instr.buildSlice T_sl_uint8 2 #[(0, (Value.int IntKind.u8 0)), (1, (Value.int IntKind.u8 0))]) w fun t12 w =>
  lp2 t12 (Value.int IntKind.i64 0) w fun _ t5 t6 w again0 =>
  bi BinOp.lss t6 (Value.int IntKind.i64 32) fun t14 =>
  cnd t14
  (fad 0 t1 fun t19 =>
  ixa 32 1 t19 t6 fun t20 =>
  ld1 t20 w.heap fun t21 =>
  efP P (Instr.buildSlice T_sl_uint8 1 #[(0, t21)]) w fun t22 w =>
  efP P (Builtin.append_ #[T_sl_uint8, T_sl_uint8] T_sl_uint8 #[t5, t22]) w fun t23 w =>
  bi BinOp.add t6 (Value.int IntKind.i64 1) fun t16 =>
  again0 t23 t16 w)
  (fad 32 t1 fun t25 =>
  ld1 t25 w.heap fun t26 =>
  cvi IntKind.u64 t26 fun t27 =>
  cal P f_ref01_Num [(Value.int IntKind.i64 8), t27] w fun t28 w =>
  efP P (Builtin.append_ #[T_sl_uint8, T_sl_uint8] T_sl_uint8 #[t5, t28]) w fun t29 w =>
  fad 33 t1 fun t31 =>
  ld1 t31 w.heap fun t32 =>
  lenS t32 fun t33 =>
  cvi IntKind.u64 t33 fun t34 =>
  cal P f_ref01_Num [(Value.int IntKind.i64 4), t34] w fun t35 w =>
  efP P (Builtin.append_ #[T_sl_uint8, T_sl_uint8] T_sl_uint8 #[t29, t35]) w fun t36 w =>
  fad 33 t1 fun t38 =>
  ld1 t38 w.heap fun t39 =>
  efP P (Builtin.append_ #[T_sl_uint8, T_sl_uint8] T_sl_uint8 #[t36, t39]) w fun t40 w =>
  R (Value.tuple #[t40, (Value.int IntKind.i64 0)]) w))
theorem e_ref03_Bytes (t0 : Value) (w : World) (R : Value → World → Prop) : intp P A_ref03_Bytes (bodyOf Tryz.f75) (ini [t0]) w (retK P Tryz.f75.results.toList R) (fun _ _ _ => False) (retK P Tryz.f75.results.toList R) = c_ref03_Bytes t0 w R := by kernel_rfl
theorem k_ref03_Bytes : chk P Tryz.f75.ntmps A_ref03_Bytes (bodyOf Tryz.f75) = true := by kernel_rfl
theorem l_ref03_Bytes {t0 : Value} {w : World} {R : Value → World → Prop} (h : c_ref03_Bytes t0 w R) : cal P f_ref03_Bytes [t0] w R :=
  calls_of mixed Tryz.func75 rfl (by kernel_rfl) k_ref03_Bytes (Eq.mpr (e_ref03_Bytes t0 w R) h)
theorem s_ref03_Bytes {t0 : Value} {w : World} {Q : Value → World → Prop} (h : ∀ R : Value → World → Prop, (∀ v w', Q v w' → R v w') → c_ref03_Bytes t0 w R) : cal P f_ref03_Bytes [t0] w Q := l_ref03_Bytes (h Q fun _ _ h => h)

/-- flurry/flurryref02.Sum -/
def A_ref02_Sum : An := (An.s (An.r []) (An.s (An.r []) (An.s (An.r []) (An.s (An.s (An.r []) (An.b (An.l [5] (An.s (An.s (An.r []) (An.s An.o An.o)) (An.s (An.b (An.dc [0, 1, 2, 3, 4, 5, 6, 7] [6, 7] [])) (An.r [])))))) (An.s (An.r []) (An.s (An.s (An.r []) (An.b (An.l [7] (An.s (An.s (An.r []) (An.s An.o An.o)) (An.s (An.b (An.r [])) (An.r [])))))) (An.s (An.r []) An.o)))))))
def c_ref02_Sum (t0 : Value) (w : World) (R : Value → World → Prop) : Prop :=
  efP P (Instr.alloc T_api_ID true (.tuple #[])) w fun t2 w =>
  cal P f_ref02_padded [t0] w fun t9 w =>
  rdP P (Instr.build T_a8_uint32 #[(0, (Value.int IntKind.u32 1779033703)), (1, (Value.int IntKind.u32 3144134277)), (2, (Value.int IntKind.u32 1013904242)), (3, (Value.int IntKind.u32 2773480762)), (4, (Value.int IntKind.u32 1359893119)), (5, (Value.int IntKind.u32 2600822924)), (6, (Value.int IntKind.u32 528734635)), (7, (Value.int IntKind.u32 1541459225))]) w fun t10 =>
  efP P (Instr.alloc T_a8_uint32 true (.tuple #[])) w fun t4 w =>
  stN 8 t4 t10 w fun w =>
  lp1 (Value.int IntKind.i64 0) w fun _ t5 w again0 =>
  lenS t9 fun t13 =>
  bi BinOp.lss t5 t13 fun t14 =>
  cnd t14
  (drH w fun S w =>
  rdS S (fun w => ldN 8 t4 w.heap) fun t17 =>
  bi BinOp.add t5 (Value.int IntKind.i64 64) fun t21 =>
  slc 1 t9 (some t5) (some t21) fun t22 =>
  efC (cal P f_ref02_goes [t17, t22]) w fun S t23 w =>
  efC (fun w K => stN 8 t4 t23 w (K undef)) w fun S _ w =>
  bi BinOp.add t5 (Value.int IntKind.i64 64) fun t16 =>
  again0 t16 w)
  (efP P (Instr.alloc T_api_ID true (.tuple #[])) w fun t6 w =>
  lp1 (Value.int IntKind.i64 0) w fun _ t7 w again1 =>
  bi BinOp.lss t7 (Value.int IntKind.i64 32) fun t25 =>
  cnd t25
  (bi BinOp.quo t7 (Value.int IntKind.i64 4) fun t30 =>
  ixa 8 1 t4 t30 fun t31 =>
  ld1 t31 w.heap fun t32 =>
  bi BinOp.rem t7 (Value.int IntKind.i64 4) fun t34 =>
  bi BinOp.mul (Value.int IntKind.i64 8) t34 fun t35 =>
  bi BinOp.sub (Value.int IntKind.i64 24) t35 fun t36 =>
  cvi IntKind.u64 t36 fun t37 =>
  sh BinOp.shr t32 t37 fun t38 =>
  cvi IntKind.u8 t38 fun t39 =>
  ixa 32 1 t6 t7 fun t40 =>
  st1 t40 t39 w fun w =>
  bi BinOp.add t7 (Value.int IntKind.i64 1) fun t27 =>
  again1 t27 w)
  (ldN 32 t6 w.heap fun t41 =>
  stN 32 t2 t41 w fun w =>
  ldN 32 t2 w.heap fun r2 =>
  R r2 w))
theorem e_ref02_Sum (t0 : Value) (w : World) (R : Value → World → Prop) : intp P A_ref02_Sum (bodyOf Tryz.f76) (ini [t0]) w (retK P Tryz.f76.results.toList R) (fun _ _ _ => False) (retK P Tryz.f76.results.toList R) = c_ref02_Sum t0 w R := by kernel_rfl
theorem k_ref02_Sum : chk P Tryz.f76.ntmps A_ref02_Sum (bodyOf Tryz.f76) = true := by kernel_rfl
theorem l_ref02_Sum {t0 : Value} {w : World} {R : Value → World → Prop} (h : c_ref02_Sum t0 w R) : cal P f_ref02_Sum [t0] w R :=
  calls_of mixed Tryz.func76 rfl (by kernel_rfl) k_ref02_Sum (Eq.mpr (e_ref02_Sum t0 w R) h)
theorem s_ref02_Sum {t0 : Value} {w : World} {Q : Value → World → Prop} (h : ∀ R : Value → World → Prop, (∀ v w', Q v w' → R v w') → c_ref02_Sum t0 w R) : cal P f_ref02_Sum [t0] w Q := l_ref02_Sum (h Q fun _ _ h => h)

/-- slices.IndexFunc[[]flurry/hold.waiting,flurry/hold.waiting] -/
def A_slices_IndexFunc_hold_waiting_hold_waiting : An := (An.s (An.r []) (An.s (An.s (An.r []) (An.b (An.l [8] (An.s (An.r []) (An.s (An.s An.o An.o) (An.s (An.b (An.s (An.r []) (An.s (An.r []) (An.s (An.s (An.r []) An.o) An.o)))) (An.r []))))))) (An.s (An.r []) An.o)))
def c_slices_IndexFunc_hold_waiting_hold_waiting (t0 t1 : Value) (w : World) (R : Value → World → Prop) : Prop :=
  lenS t0 fun t7 =>
  lp1 (Value.int IntKind.i64 0) w fun _ t8 w again0 =>
  bi BinOp.lss t8 t7 fun t9 =>
  cnd t9
  (ixs 66 t0 t8 fun t14 =>
  ldN 66 t14 w.heap fun t15 =>
  calV P t1 [t15] w fun t16 w =>
  cnd t16
  (R t8 w)
  (bi BinOp.add t8 (Value.int IntKind.i64 1) fun t18 =>
  again0 t18 w))
  (R (Value.int IntKind.i64 (-1)) w)
theorem e_slices_IndexFunc_hold_waiting_hold_waiting (t0 t1 : Value) (w : World) (R : Value → World → Prop) : intp P A_slices_IndexFunc_hold_waiting_hold_waiting (bodyOf Tryz.f77) (ini [t0, t1]) w (retK P Tryz.f77.results.toList R) (fun _ _ _ => False) (retK P Tryz.f77.results.toList R) = c_slices_IndexFunc_hold_waiting_hold_waiting t0 t1 w R := by kernel_rfl
theorem k_slices_IndexFunc_hold_waiting_hold_waiting : chk P Tryz.f77.ntmps A_slices_IndexFunc_hold_waiting_hold_waiting (bodyOf Tryz.f77) = true := by kernel_rfl
theorem l_slices_IndexFunc_hold_waiting_hold_waiting {t0 t1 : Value} {w : World} {R : Value → World → Prop} (h : c_slices_IndexFunc_hold_waiting_hold_waiting t0 t1 w R) : cal P f_slices_IndexFunc_hold_waiting_hold_waiting [t0, t1] w R :=
  calls_of mixed Tryz.func77 rfl (by kernel_rfl) k_slices_IndexFunc_hold_waiting_hold_waiting (Eq.mpr (e_slices_IndexFunc_hold_waiting_hold_waiting t0 t1 w R) h)
theorem s_slices_IndexFunc_hold_waiting_hold_waiting {t0 t1 : Value} {w : World} {Q : Value → World → Prop} (h : ∀ R : Value → World → Prop, (∀ v w', Q v w' → R v w') → c_slices_IndexFunc_hold_waiting_hold_waiting t0 t1 w R) : cal P f_slices_IndexFunc_hold_waiting_hold_waiting [t0, t1] w Q := l_slices_IndexFunc_hold_waiting_hold_waiting (h Q fun _ _ h => h)

/-- flurry/pack.New -/
def A_pack_New : An := (An.s (An.r []) (An.s (An.r []) (An.s (An.r []) (An.s (An.s (An.r [[15]]) (An.s (An.r []) An.o)) (An.s (An.r []) An.o)))))
def c_pack_New (t0 : Value) (w : World) (R : Value → World → Prop) : Prop :=
  rdP P (Instr.build T_pack_Packer #[(1, t0)]) w fun t5 =>
  bx T_pack_Packer t5 w fun t6 w =>
  nilc t6 fun t8 =>
  fad 0 t8 fun t9 =>
  fad 0 t9 fun t10 =>
  st1 t10 (Value.bool true) w fun w =>
  bi BinOp.lss t0 (Value.int IntKind.i64 0) fun t12 =>
  jn1 (fun k0 =>
  gif t12 false
  (bi BinOp.gtr t0 (Value.int IntKind.i64 8192) fun t15 =>
  k0 t15 w)
  (k0 undef w)) fun _ t15_1 w =>
  pik t12 (Value.bool true) t15_1 fun t16 =>
  cnd t16
  (nilc t6 fun t18 =>
  fad 0 t18 fun t19 =>
  fad 2 t19 fun t20 =>
  st1 t20 (Value.int IntKind.i64 1) w fun w =>
  R t6 w)
  (R t6 w)
theorem e_pack_New (t0 : Value) (w : World) (R : Value → World → Prop) : intp P A_pack_New (bodyOf Tryz.f78) (ini [t0]) w (retK P Tryz.f78.results.toList R) (fun _ _ _ => False) (retK P Tryz.f78.results.toList R) = c_pack_New t0 w R := by kernel_rfl
theorem k_pack_New : chk P Tryz.f78.ntmps A_pack_New (bodyOf Tryz.f78) = true := by kernel_rfl
theorem l_pack_New {t0 : Value} {w : World} {R : Value → World → Prop} (h : c_pack_New t0 w R) : cal P f_pack_New [t0] w R :=
  calls_of mixed Tryz.func78 rfl (by kernel_rfl) k_pack_New (Eq.mpr (e_pack_New t0 w R) h)
theorem s_pack_New {t0 : Value} {w : World} {Q : Value → World → Prop} (h : ∀ R : Value → World → Prop, (∀ v w', Q v w' → R v w') → c_pack_New t0 w R) : cal P f_pack_New [t0] w Q := l_pack_New (h Q fun _ _ h => h)

/-- (*flurry/pack.Packer).Short -/
def A_pack_Packer_Short : An := (An.r [])
def c_pack_Packer_Short (t0 t1 : Value) (w : World) (R : Value → World → Prop) : Prop :=
  cvi IntKind.u64 t1 fun t6 =>
  cal P f_pack_number [(Value.int IntKind.i64 2), t6] w fun t7 w =>
  cal P f_pack_Packer_put [t0, t7, (Value.slice none 0 0)] w fun t8 w =>
  R (Value.tuple #[]) w
theorem e_pack_Packer_Short (t0 t1 : Value) (w : World) (R : Value → World → Prop) : intp P A_pack_Packer_Short (bodyOf Tryz.f79) (ini [t0, t1]) w (retK P Tryz.f79.results.toList R) (fun _ _ _ => False) (retK P Tryz.f79.results.toList R) = c_pack_Packer_Short t0 t1 w R := by kernel_rfl
theorem k_pack_Packer_Short : chk P Tryz.f79.ntmps A_pack_Packer_Short (bodyOf Tryz.f79) = true := by kernel_rfl
theorem l_pack_Packer_Short {t0 t1 : Value} {w : World} {R : Value → World → Prop} (h : c_pack_Packer_Short t0 t1 w R) : cal P f_pack_Packer_Short [t0, t1] w R :=
  calls_of mixed Tryz.func79 rfl (by kernel_rfl) k_pack_Packer_Short (Eq.mpr (e_pack_Packer_Short t0 t1 w R) h)
theorem s_pack_Packer_Short {t0 t1 : Value} {w : World} {Q : Value → World → Prop} (h : ∀ R : Value → World → Prop, (∀ v w', Q v w' → R v w') → c_pack_Packer_Short t0 t1 w R) : cal P f_pack_Packer_Short [t0, t1] w Q := l_pack_Packer_Short (h Q fun _ _ h => h)

/-- (*flurry/pack.Packer).Fixed -/
def A_pack_Packer_Fixed : An := (An.r [])
def c_pack_Packer_Fixed (t0 t1 : Value) (w : World) (R : Value → World → Prop) : Prop :=
  cal P f_pack_Packer_put [t0, (Value.slice none 0 0), t1] w fun t6 w =>
  R (Value.tuple #[]) w
theorem e_pack_Packer_Fixed (t0 t1 : Value) (w : World) (R : Value → World → Prop) : intp P A_pack_Packer_Fixed (bodyOf Tryz.f80) (ini [t0, t1]) w (retK P Tryz.f80.results.toList R) (fun _ _ _ => False) (retK P Tryz.f80.results.toList R) = c_pack_Packer_Fixed t0 t1 w R := by kernel_rfl
theorem k_pack_Packer_Fixed : chk P Tryz.f80.ntmps A_pack_Packer_Fixed (bodyOf Tryz.f80) = true := by kernel_rfl
theorem l_pack_Packer_Fixed {t0 t1 : Value} {w : World} {R : Value → World → Prop} (h : c_pack_Packer_Fixed t0 t1 w R) : cal P f_pack_Packer_Fixed [t0, t1] w R :=
  calls_of mixed Tryz.func80 rfl (by kernel_rfl) k_pack_Packer_Fixed (Eq.mpr (e_pack_Packer_Fixed t0 t1 w R) h)
theorem s_pack_Packer_Fixed {t0 t1 : Value} {w : World} {Q : Value → World → Prop} (h : ∀ R : Value → World → Prop, (∀ v w', Q v w' → R v w') → c_pack_Packer_Fixed t0 t1 w R) : cal P f_pack_Packer_Fixed [t0, t1] w Q := l_pack_Packer_Fixed (h Q fun _ _ h => h)

/-- (*flurry/pack.Packer).Long -/
def A_pack_Packer_Long : An := (An.r [])
def c_pack_Packer_Long (t0 t1 : Value) (w : World) (R : Value → World → Prop) : Prop :=
  cal P f_pack_number [(Value.int IntKind.i64 8), t1] w fun t6 w =>
  cal P f_pack_Packer_put [t0, t6, (Value.slice none 0 0)] w fun t7 w =>
  R (Value.tuple #[]) w
theorem e_pack_Packer_Long (t0 t1 : Value) (w : World) (R : Value → World → Prop) : intp P A_pack_Packer_Long (bodyOf Tryz.f81) (ini [t0, t1]) w (retK P Tryz.f81.results.toList R) (fun _ _ _ => False) (retK P Tryz.f81.results.toList R) = c_pack_Packer_Long t0 t1 w R := by kernel_rfl
theorem k_pack_Packer_Long : chk P Tryz.f81.ntmps A_pack_Packer_Long (bodyOf Tryz.f81) = true := by kernel_rfl
theorem l_pack_Packer_Long {t0 t1 : Value} {w : World} {R : Value → World → Prop} (h : c_pack_Packer_Long t0 t1 w R) : cal P f_pack_Packer_Long [t0, t1] w R :=
  calls_of mixed Tryz.func81 rfl (by kernel_rfl) k_pack_Packer_Long (Eq.mpr (e_pack_Packer_Long t0 t1 w R) h)
theorem s_pack_Packer_Long {t0 t1 : Value} {w : World} {Q : Value → World → Prop} (h : ∀ R : Value → World → Prop, (∀ v w', Q v w' → R v w') → c_pack_Packer_Long t0 t1 w R) : cal P f_pack_Packer_Long [t0, t1] w Q := l_pack_Packer_Long (h Q fun _ _ h => h)

/-- (*flurry/pack.Packer).Bytes -/
def A_pack_Packer_Bytes : An := (An.r [])
def c_pack_Packer_Bytes (t0 t1 : Value) (w : World) (R : Value → World → Prop) : Prop :=
  lenS t1 fun t6 =>
  cvi IntKind.u64 t6 fun t7 =>
  cal P f_pack_number [(Value.int IntKind.i64 4), t7] w fun t8 w =>
  cal P f_pack_Packer_put [t0, t8, t1] w fun t10 w =>
  R (Value.tuple #[]) w
theorem e_pack_Packer_Bytes (t0 t1 : Value) (w : World) (R : Value → World → Prop) : intp P A_pack_Packer_Bytes (bodyOf Tryz.f82) (ini [t0, t1]) w (retK P Tryz.f82.results.toList R) (fun _ _ _ => False) (retK P Tryz.f82.results.toList R) = c_pack_Packer_Bytes t0 t1 w R := by kernel_rfl
theorem k_pack_Packer_Bytes : chk P Tryz.f82.ntmps A_pack_Packer_Bytes (bodyOf Tryz.f82) = true := by kernel_rfl
theorem l_pack_Packer_Bytes {t0 t1 : Value} {w : World} {R : Value → World → Prop} (h : c_pack_Packer_Bytes t0 t1 w R) : cal P f_pack_Packer_Bytes [t0, t1] w R :=
  calls_of mixed Tryz.func82 rfl (by kernel_rfl) k_pack_Packer_Bytes (Eq.mpr (e_pack_Packer_Bytes t0 t1 w R) h)
theorem s_pack_Packer_Bytes {t0 t1 : Value} {w : World} {Q : Value → World → Prop} (h : ∀ R : Value → World → Prop, (∀ v w', Q v w' → R v w') → c_pack_Packer_Bytes t0 t1 w R) : cal P f_pack_Packer_Bytes [t0, t1] w Q := l_pack_Packer_Bytes (h Q fun _ _ h => h)

/-- (*flurry/pack.Packer).Out -/
def A_pack_Packer_Out : An := (An.s (An.r []) (An.s (An.s (An.r []) (An.s (An.r []) (An.s (An.s (An.r []) An.o) An.o))) (An.s (An.r []) (An.s (An.r []) (An.s (An.r []) An.o)))))
def c_pack_Packer_Out (t0 : Value) (w : World) (R : Value → World → Prop) : Prop :=
  cal P f_pack_Packer_Err [t0] w fun t7 w =>
  bi BinOp.neq t7 (Value.int IntKind.i64 0) fun t9 =>
  cnd t9
  (R (Value.tuple #[(Value.slice none 0 0), t7]) w)
  (nilc t0 fun t12 =>
  fad 0 t12 fun t13 =>
  fad 1 t13 fun t14 =>
  ld1 t14 w.heap fun t15 =>
  lenS t15 fun t16 =>
  efP P (Instr.makeSlice T_sl_uint8 t16 t16) w fun t17 w =>
  nilc t0 fun t20 =>
  fad 0 t20 fun t21 =>
  fad 1 t21 fun t22 =>
  ld1 t22 w.heap fun t23 =>
  efP P (Builtin.copy_ #[T_sl_uint8, T_sl_uint8] T_int #[t17, t23]) w fun t24 w =>
  R (Value.tuple #[t17, (Value.int IntKind.i64 0)]) w)
theorem e_pack_Packer_Out (t0 : Value) (w : World) (R : Value → World → Prop) : intp P A_pack_Packer_Out (bodyOf Tryz.f83) (ini [t0]) w (retK P Tryz.f83.results.toList R) (fun _ _ _ => False) (retK P Tryz.f83.results.toList R) = c_pack_Packer_Out t0 w R := by kernel_rfl
theorem k_pack_Packer_Out : chk P Tryz.f83.ntmps A_pack_Packer_Out (bodyOf Tryz.f83) = true := by kernel_rfl
theorem l_pack_Packer_Out {t0 : Value} {w : World} {R : Value → World → Prop} (h : c_pack_Packer_Out t0 w R) : cal P f_pack_Packer_Out [t0] w R :=
  calls_of mixed Tryz.func83 rfl (by kernel_rfl) k_pack_Packer_Out (Eq.mpr (e_pack_Packer_Out t0 w R) h)
theorem s_pack_Packer_Out {t0 : Value} {w : World} {Q : Value → World → Prop} (h : ∀ R : Value → World → Prop, (∀ v w', Q v w' → R v w') → c_pack_Packer_Out t0 w R) : cal P f_pack_Packer_Out [t0] w Q := l_pack_Packer_Out (h Q fun _ _ h => h)

/-- flurry/sha.New -/
def A_sha_New : An := (An.s (An.r []) (An.s (An.r []) An.o))
def c_sha_New (w : World) (R : Value → World → Prop) : Prop :=
  cal P f_sha_first [] w fun t1 w =>
  rdP P (Instr.build T_sha_State #[(0, t1), (3, (Value.bool true))]) w fun t2 =>
  bx T_sha_State t2 w fun t3 w =>
  R t3 w
theorem e_sha_New (w : World) (R : Value → World → Prop) : intp P A_sha_New (bodyOf Tryz.f84) (ini []) w (retK P Tryz.f84.results.toList R) (fun _ _ _ => False) (retK P Tryz.f84.results.toList R) = c_sha_New  w R := by kernel_rfl
theorem k_sha_New : chk P Tryz.f84.ntmps A_sha_New (bodyOf Tryz.f84) = true := by kernel_rfl
theorem l_sha_New {w : World} {R : Value → World → Prop} (h : c_sha_New w R) : cal P f_sha_New [] w R :=
  calls_of mixed Tryz.func84 rfl (by kernel_rfl) k_sha_New (Eq.mpr (e_sha_New w R) h)
theorem s_sha_New {w : World} {Q : Value → World → Prop} (h : ∀ R : Value → World → Prop, (∀ v w', Q v w' → R v w') → c_sha_New w R) : cal P f_sha_New [] w Q := l_sha_New (h Q fun _ _ h => h)

/-- (*flurry/sha.State).Write -/
def A_sha_State_Write : An := (An.s (An.r []) (An.s (An.s (An.r []) (An.s (An.s (An.r []) An.o) An.o)) (An.s (An.s (An.r []) (An.b (An.l [12] (An.s (An.r []) (An.s (An.s An.o An.o) (An.s (An.b (An.s (An.r []) (An.s (An.r []) (An.s (An.r []) (An.s (An.b (An.l [7] (An.s (An.s (An.r []) (An.s An.o An.o)) (An.b (An.s (An.dc [0, 1, 2, 3, 4, 5, 6, 7, 8, 9, 10] [7, 10] []) (An.r [])))))) (An.r [])))))) (An.r []))))))) (An.s (An.r []) An.o))))
def c_sha_State_Write (t0 t1 : Value) (w : World) (R : Value → World → Prop) : Prop :=
  cal P f_sha_State_none [t0] w fun t9 w =>
  cnd t9
  (R (Value.int IntKind.i64 2) w)
  (lenS t1 fun t11 =>
  lp1 (Value.int IntKind.i64 0) w fun _ t12 w again0 =>
  bi BinOp.lss t12 t11 fun t13 =>
  cnd t13
  (ixs 1 t1 t12 fun t14 =>
  ld1 t14 w.heap fun t15 =>
  nilc t0 fun t17 =>
  fad 9 t17 fun t18 =>
  ld1 t18 w.heap fun t19 =>
  lenS t15 fun t21 =>
  bi BinOp.add t19 t21 fun t22 =>
  nilc t0 fun t23 =>
  fad 9 t23 fun t24 =>
  st1 t24 t22 w fun w =>
  nilc t0 fun t26 =>
  fad 8 t26 fun t27 =>
  ld1 t27 w.heap fun t28 =>
  efP P (Instr.buildSlice T_sl_sl_uint8 2 #[(0, t28), (1, t15)]) w fun t30 w =>
  cal P f_slices_Concat_byte_byte [t30] w fun t31 w =>
  lp1 t31 w fun _ t7 w again1 =>
  lenS t7 fun t33 =>
  bi BinOp.geq t33 (Value.int IntKind.i64 64) fun t34 =>
  cnd t34
  (drH w fun S w =>
  nilc t0 fun t37 =>
  fad 0 t37 fun t38 =>
  rdS S (fun w => ldN 8 t38 w.heap) fun t39 =>
  slc 1 t7 none (some (Value.int IntKind.i64 64)) fun t41 =>
  efC (cal P f_sha_mixed [t39, t41]) w fun S t42 w =>
  nilc t0 fun t43 =>
  fad 0 t43 fun t44 =>
  efC (fun w K => stN 8 t44 t42 w (K undef)) w fun S _ w =>
  slc 1 t7 (some (Value.int IntKind.i64 64)) none fun t46 =>
  again1 t46 w)
  (cal P f_bytes_Clone [t7] w fun t49 w =>
  nilc t0 fun t50 =>
  fad 8 t50 fun t51 =>
  st1 t51 t49 w fun w =>
  bi BinOp.add t12 (Value.int IntKind.i64 1) fun t52 =>
  again0 t52 w))
  (R (Value.int IntKind.i64 0) w))
theorem e_sha_State_Write (t0 t1 : Value) (w : World) (R : Value → World → Prop) : intp P A_sha_State_Write (bodyOf Tryz.f85) (ini [t0, t1]) w (retK P Tryz.f85.results.toList R) (fun _ _ _ => False) (retK P Tryz.f85.results.toList R) = c_sha_State_Write t0 t1 w R := by kernel_rfl
theorem k_sha_State_Write : chk P Tryz.f85.ntmps A_sha_State_Write (bodyOf Tryz.f85) = true := by kernel_rfl
theorem l_sha_State_Write {t0 t1 : Value} {w : World} {R : Value → World → Prop} (h : c_sha_State_Write t0 t1 w R) : cal P f_sha_State_Write [t0, t1] w R :=
  calls_of mixed Tryz.func85 rfl (by kernel_rfl) k_sha_State_Write (Eq.mpr (e_sha_State_Write t0 t1 w R) h)
theorem s_sha_State_Write {t0 t1 : Value} {w : World} {Q : Value → World → Prop} (h : ∀ R : Value → World → Prop, (∀ v w', Q v w' → R v w') → c_sha_State_Write t0 t1 w R) : cal P f_sha_State_Write [t0, t1] w Q := l_sha_State_Write (h Q fun _ _ h => h)

/-- (*flurry/sha.State).Sum -/
def A_sha_State_Sum : An := (An.s (An.r []) (An.s (An.r []) (An.s (An.s (An.r []) (An.s (An.s (An.r []) An.o) An.o)) (An.s (An.r []) (An.s (An.b (An.l [4] (An.s (An.s (An.r []) (An.s An.o An.o)) (An.b (An.r []))))) (An.s (An.r []) (An.s (An.s (An.r []) (An.b (An.l [4, 33] (An.s (An.r []) (An.s (An.s An.o An.o) (An.s (An.b (An.s (An.r []) (An.r []))) (An.r []))))))) (An.s (An.r []) (An.s (An.b (An.l [4] (An.s (An.s (An.r []) (An.s An.o An.o)) (An.s (An.b (An.dc [0, 1, 2, 3, 4] [3, 4] [])) (An.r []))))) (An.s (An.s (An.r []) (An.b (An.l [60] (An.s (An.r []) (An.s (An.s An.o An.o) (An.s (An.b (An.s (An.r []) (An.r []))) (An.r []))))))) (An.s (An.r []) An.o)))))))))))
def c_sha_State_Sum (t0 : Value) (w : World) (R : Value → World → Prop) : Prop :=
  efP P (Instr.alloc T_api_ID true (.tuple #[])) w fun t2 w =>
  efP P (Instr.alloc T_api_ID true (.tuple #[])) w fun t3 w =>
  cal P f_sha_State_none [t0] w fun t11 w =>
  cnd t11
  (ldN 32 t3 w.heap fun t12 =>
  stN 32 t2 t12 w fun w =>
  ldN 32 t2 w.heap fun r0 =>
  R r0 w)
  (nilc t0 fun t14 =>
  fad 8 t14 fun t15 =>
  ld1 t15 w.heap fun t16 =>
  cal P f_bytes_Clone [t16] w fun t17 w =>
  efP P (Instr.buildSlice T_sl_uint8 1 #[(0, (Value.int IntKind.u8 128))]) w fun t18 w =>
  efP P (Builtin.append_ #[T_sl_uint8, T_sl_uint8] T_sl_uint8 #[t17, t18]) w fun t19 w =>
  lp1 t19 w fun _ t4 w again1 =>
  lenS t4 fun t21 =>
  bi BinOp.rem t21 (Value.int IntKind.i64 64) fun t22 =>
  bi BinOp.neq t22 (Value.int IntKind.i64 56) fun t23 =>
  cnd t23
  (efP P (Instr.buildSlice T_sl_uint8 1 #[(0, (Value.int IntKind.u8 0))]) w fun t25 w =>
  efP P (Builtin.append_ #[T_sl_uint8, T_sl_uint8] T_sl_uint8 #[t4, t25]) w fun t26 w =>
  again1 t26 w)
  (nilc t0 fun t28 =>
  fad 9 t28 fun t29 =>
  ld1 t29 w.heap fun t30 =>
  cvi IntKind.u64 t30 fun t31 =>
  bi BinOp.mul t31 (Value.int IntKind.u64 8) fun t32 =>
  lp2 t4 (Value.int IntKind.i64 0) w fun _ t4_1 t33 w again2 =>
  bi BinOp.lss t33 (Value.int IntKind.i64 8) fun t34 =>
  cnd t34
  (bi BinOp.mul (Value.int IntKind.i64 8) t33 fun t39 =>
  bi BinOp.sub (Value.int IntKind.i64 56) t39 fun t40 =>
  sh BinOp.shr t32 t40 fun t41 =>
  cvi IntKind.u8 t41 fun t42 =>
  efP P (Instr.buildSlice T_sl_uint8 1 #[(0, t42)]) w fun t43 w =>
  efP P (Builtin.append_ #[T_sl_uint8, T_sl_uint8] T_sl_uint8 #[t4_1, t43]) w fun t44 w =>
  bi BinOp.add t33 (Value.int IntKind.i64 1) fun t45 =>
  again2 t44 t45 w)
  (nilc t0 fun t47 =>
  fad 0 t47 fun t48 =>
  ldN 8 t48 w.heap fun t49 =>
  efP P (Instr.alloc T_a8_uint32 true (.tuple #[])) w fun t7 w =>
  stN 8 t7 t49 w fun w =>
  lp1 t4_1 w fun _ t4_2 w again3 =>
  lenS t4_2 fun t51 =>
  bi BinOp.gtr t51 (Value.int IntKind.i64 0) fun t52 =>
  cnd t52
  (drH w fun S w =>
  rdS S (fun w => ldN 8 t7 w.heap) fun t55 =>
  slc 1 t4_2 none (some (Value.int IntKind.i64 64)) fun t57 =>
  efC (cal P f_sha_mixed [t55, t57]) w fun S t58 w =>
  efC (fun w K => stN 8 t7 t58 w (K undef)) w fun S _ w =>
  slc 1 t4_2 (some (Value.int IntKind.i64 64)) none fun t54 =>
  again3 t54 w)
  (ldN 8 t7 w.heap fun t59 =>
  lp1 (Value.int IntKind.i64 0) w fun _ t60 w again4 =>
  bi BinOp.lss t60 (Value.int IntKind.i64 8) fun t61 =>
  cnd t61
  (ixv 8 1 false t59 t60 fun t63 =>
  bi BinOp.mul (Value.int IntKind.i64 4) t60 fun t65 =>
  bi BinOp.mul (Value.int IntKind.i64 4) t60 fun t67 =>
  bi BinOp.add t67 (Value.int IntKind.i64 1) fun t68 =>
  bi BinOp.mul (Value.int IntKind.i64 4) t60 fun t70 =>
  bi BinOp.add t70 (Value.int IntKind.i64 2) fun t71 =>
  bi BinOp.mul (Value.int IntKind.i64 4) t60 fun t73 =>
  bi BinOp.add t73 (Value.int IntKind.i64 3) fun t74 =>
  sh BinOp.shr t63 (Value.int IntKind.u64 24) fun t76 =>
  cvi IntKind.u8 t76 fun t77 =>
  sh BinOp.shr t63 (Value.int IntKind.u64 16) fun t79 =>
  cvi IntKind.u8 t79 fun t80 =>
  sh BinOp.shr t63 (Value.int IntKind.u64 8) fun t82 =>
  cvi IntKind.u8 t82 fun t83 =>
  cvi IntKind.u8 t63 fun t85 =>
  ixa 32 1 t3 t65 fun t86 =>
  st1 t86 t77 w fun w =>
  ixa 32 1 t3 t68 fun t87 =>
  st1 t87 t80 w fun w =>
  ixa 32 1 t3 t71 fun t88 =>
  st1 t88 t83 w fun w =>
  ixa 32 1 t3 t74 fun t89 =>
  st1 t89 t85 w fun w =>
  bi BinOp.add t60 (Value.int IntKind.i64 1) fun t90 =>
  again4 t90 w)
  (ldN 32 t3 w.heap fun t91 =>
  stN 32 t2 t91 w fun w =>
  ldN 32 t2 w.heap fun r5 =>
  R r5 w)))))
theorem e_sha_State_Sum (t0 : Value) (w : World) (R : Value → World → Prop) : intp P A_sha_State_Sum (bodyOf Tryz.f86) (ini [t0]) w (retK P Tryz.f86.results.toList R) (fun _ _ _ => False) (retK P Tryz.f86.results.toList R) = c_sha_State_Sum t0 w R := by kernel_rfl
theorem k_sha_State_Sum : chk P Tryz.f86.ntmps A_sha_State_Sum (bodyOf Tryz.f86) = true := by kernel_rfl
theorem l_sha_State_Sum {t0 : Value} {w : World} {R : Value → World → Prop} (h : c_sha_State_Sum t0 w R) : cal P f_sha_State_Sum [t0] w R :=
  calls_of mixed Tryz.func86 rfl (by kernel_rfl) k_sha_State_Sum (Eq.mpr (e_sha_State_Sum t0 w R) h)
theorem s_sha_State_Sum {t0 : Value} {w : World} {Q : Value → World → Prop} (h : ∀ R : Value → World → Prop, (∀ v w', Q v w' → R v w') → c_sha_State_Sum t0 w R) : cal P f_sha_State_Sum [t0] w Q := l_sha_State_Sum (h Q fun _ _ h => h)

/-- flurry/flurryref03.Check -/
def A_ref03_Check : An := (An.s (An.r []) (An.s (An.s (An.r [[10], [16], [20], [21]]) (An.s (An.s (An.r []) An.o) An.o)) (An.s (An.r []) An.o)))
def c_ref03_Check (t0 : Value) (w : World) (R : Value → World → Prop) : Prop :=
  bx T_api_Block t0 w fun t1 w =>
  fad 32 t1 fun t3 =>
  ld1 t3 w.heap fun t4 =>
  bi BinOp.lss t4 (Value.int IntKind.i64 0) fun t5 =>
  jn1 (fun k0 =>
  gif t5 false
  (fad 33 t1 fun t7 =>
  ld1 t7 w.heap fun t8 =>
  lenS t8 fun t9 =>
  bi BinOp.gtr t9 (Value.int IntKind.i64 200) fun t10 =>
  k0 t10 w)
  (k0 undef w)) fun _ t10_1 w =>
  pik t5 (Value.bool true) t10_1 fun t11 =>
  jn1 (fun k1 =>
  gif t11 false
  (fad 32 t1 fun t13 =>
  ld1 t13 w.heap fun t14 =>
  bi BinOp.eql t14 (Value.int IntKind.i64 0) fun t15 =>
  k1 t15 w)
  (k1 undef w)) fun _ t16 w =>
  jn1 (fun k2 =>
  gif t16 true
  (fad 0 t1 fun t17 =>
  ldN 32 t17 w.heap fun t18 =>
  rdP P (Instr.build T_api_ID #[]) w fun t19 =>
  rdP P (eqS BinOp.neq T_api_ID (Operand.tmp 18) (Operand.tmp 19) t18 t19) w fun t20 =>
  k2 t20 w)
  (k2 undef w)) fun _ t20_1 w =>
  jn1 (fun k3 =>
  gif t11 false
  (pik t16 t20_1 (Value.bool false) fun t21 =>
  k3 t21 w)
  (k3 undef w)) fun _ t21_1 w =>
  pik t11 (Value.bool true) t21_1 fun t22 =>
  cnd t22
  (R (Value.int IntKind.i64 30) w)
  (R (Value.int IntKind.i64 0) w)
theorem e_ref03_Check (t0 : Value) (w : World) (R : Value → World → Prop) : intp P A_ref03_Check (bodyOf Tryz.f87) (ini [t0]) w (retK P Tryz.f87.results.toList R) (fun _ _ _ => False) (retK P Tryz.f87.results.toList R) = c_ref03_Check t0 w R := by kernel_rfl
theorem k_ref03_Check : chk P Tryz.f87.ntmps A_ref03_Check (bodyOf Tryz.f87) = true := by kernel_rfl
theorem l_ref03_Check {t0 : Value} {w : World} {R : Value → World → Prop} (h : c_ref03_Check t0 w R) : cal P f_ref03_Check [t0] w R :=
  calls_of mixed Tryz.func87 rfl (by kernel_rfl) k_ref03_Check (Eq.mpr (e_ref03_Check t0 w R) h)
theorem s_ref03_Check {t0 : Value} {w : World} {Q : Value → World → Prop} (h : ∀ R : Value → World → Prop, (∀ v w', Q v w' → R v w') → c_ref03_Check t0 w R) : cal P f_ref03_Check [t0] w Q := l_ref03_Check (h Q fun _ _ h => h)

/-- flurry/flurryref01.Num -/
def A_ref01_Num : An := (An.s (An.r []) (An.s (An.r []) (An.s (An.s (An.r []) (An.b (An.l [1, 6] (An.s (An.s (An.r []) (An.s An.o An.o)) (An.s (An.b (An.s (An.r []) (An.r []))) (An.r [])))))) (An.s (An.r []) An.o))))
def c_ref01_Num (t0 t1 : Value) (w : World) (R : Value → World → Prop) : Prop :=
  efP P (Instr.makeSlice T_sl_uint8 t0 t0) w fun t8 w =>
  bi BinOp.sub t0 (Value.int IntKind.i64 1) fun t10 =>
  lp2 t1 t10 w fun _ t1_1 t6 w again0 =>
  bi BinOp.geq t6 (Value.int IntKind.i64 0) fun t12 =>
  cnd t12
  (bi BinOp.rem t1_1 (Value.int IntKind.u64 256) fun t18 =>
  cvi IntKind.u8 t18 fun t19 =>
  ixs 1 t8 t6 fun t20 =>
  st1 t20 t19 w fun w =>
  bi BinOp.quo t1_1 (Value.int IntKind.u64 256) fun t22 =>
  bi BinOp.sub t6 (Value.int IntKind.i64 1) fun t14 =>
  again0 t22 t14 w)
  (R t8 w)
theorem e_ref01_Num (t0 t1 : Value) (w : World) (R : Value → World → Prop) : intp P A_ref01_Num (bodyOf Tryz.f88) (ini [t0, t1]) w (retK P Tryz.f88.results.toList R) (fun _ _ _ => False) (retK P Tryz.f88.results.toList R) = c_ref01_Num t0 t1 w R := by kernel_rfl
theorem k_ref01_Num : chk P Tryz.f88.ntmps A_ref01_Num (bodyOf Tryz.f88) = true := by kernel_rfl
theorem l_ref01_Num {t0 t1 : Value} {w : World} {R : Value → World → Prop} (h : c_ref01_Num t0 t1 w R) : cal P f_ref01_Num [t0, t1] w R :=
  calls_of mixed Tryz.func88 rfl (by kernel_rfl) k_ref01_Num (Eq.mpr (e_ref01_Num t0 t1 w R) h)
theorem s_ref01_Num {t0 t1 : Value} {w : World} {Q : Value → World → Prop} (h : ∀ R : Value → World → Prop, (∀ v w', Q v w' → R v w') → c_ref01_Num t0 t1 w R) : cal P f_ref01_Num [t0, t1] w Q := l_ref01_Num (h Q fun _ _ h => h)

/-- flurry/flurryref02.padded -/
def A_ref02_padded : An := (An.s (An.r []) (An.s (An.r []) (An.s (An.r []) (An.s (An.b (An.l [3] (An.s (An.s (An.r []) (An.s An.o An.o)) (An.b (An.r []))))) (An.s (An.r []) (An.s (An.s (An.r []) (An.b (An.l [3, 5] (An.s (An.s (An.r []) (An.s An.o An.o)) (An.s (An.b (An.r [])) (An.r [])))))) (An.s (An.r []) An.o)))))))
def c_ref02_padded (t0 : Value) (w : World) (R : Value → World → Prop) : Prop :=
  efP P (Builtin.append_ #[T_sl_uint8, T_sl_uint8] T_sl_uint8 #[(Value.slice none 0 0), t0]) w fun t7 w =>
  efP P (Instr.buildSlice T_sl_uint8 1 #[(0, (Value.int IntKind.u8 128))]) w fun t9 w =>
  efP P (Builtin.append_ #[T_sl_uint8, T_sl_uint8] T_sl_uint8 #[t7, t9]) w fun t10 w =>
  lp1 t10 w fun _ t3 w again0 =>
  lenS t3 fun t12 =>
  bi BinOp.rem t12 (Value.int IntKind.i64 64) fun t13 =>
  bi BinOp.neq t13 (Value.int IntKind.i64 56) fun t14 =>
  cnd t14
  (efP P (Instr.buildSlice T_sl_uint8 1 #[(0, (Value.int IntKind.u8 0))]) w fun t16 w =>
  efP P (Builtin.append_ #[T_sl_uint8, T_sl_uint8] T_sl_uint8 #[t3, t16]) w fun t17 w =>
  again0 t17 w)
  (lenS t0 fun t19 =>
  cvi IntKind.u64 t19 fun t20 =>
  bi BinOp.mul t20 (Value.int IntKind.u64 8) fun t21 =>
  lp2 t3 (Value.int IntKind.i64 0) w fun _ t3_1 t5 w again1 =>
  bi BinOp.lss t5 (Value.int IntKind.i64 8) fun t23 =>
  cnd t23
  (bi BinOp.mul (Value.int IntKind.i64 8) t5 fun t29 =>
  bi BinOp.sub (Value.int IntKind.i64 56) t29 fun t30 =>
  cvi IntKind.u64 t30 fun t31 =>
  sh BinOp.shr t21 t31 fun t32 =>
  cvi IntKind.u8 t32 fun t33 =>
  efP P (Instr.buildSlice T_sl_uint8 1 #[(0, t33)]) w fun t34 w =>
  efP P (Builtin.append_ #[T_sl_uint8, T_sl_uint8] T_sl_uint8 #[t3_1, t34]) w fun t35 w =>
  bi BinOp.add t5 (Value.int IntKind.i64 1) fun t25 =>
  again1 t35 t25 w)
  (R t3_1 w))
theorem e_ref02_padded (t0 : Value) (w : World) (R : Value → World → Prop) : intp P A_ref02_padded (bodyOf Tryz.f89) (ini [t0]) w (retK P Tryz.f89.results.toList R) (fun _ _ _ => False) (retK P Tryz.f89.results.toList R) = c_ref02_padded t0 w R := by kernel_rfl
theorem k_ref02_padded : chk P Tryz.f89.ntmps A_ref02_padded (bodyOf Tryz.f89) = true := by kernel_rfl
theorem l_ref02_padded {t0 : Value} {w : World} {R : Value → World → Prop} (h : c_ref02_padded t0 w R) : cal P f_ref02_padded [t0] w R :=
  calls_of mixed Tryz.func89 rfl (by kernel_rfl) k_ref02_padded (Eq.mpr (e_ref02_padded t0 w R) h)
theorem s_ref02_padded {t0 : Value} {w : World} {Q : Value → World → Prop} (h : ∀ R : Value → World → Prop, (∀ v w', Q v w' → R v w') → c_ref02_padded t0 w R) : cal P f_ref02_padded [t0] w Q := l_ref02_padded (h Q fun _ _ h => h)

/-- flurry/flurryref02.goes -/
def A_ref02_goes : An := (An.s (An.r []) (An.s (An.r []) (An.s (An.r []) (An.s (An.r []) (An.s (An.s (An.r []) (An.b (An.l [8] (An.s (An.s (An.r []) (An.s An.o An.o)) (An.s (An.b (An.s (An.r []) (An.s (An.r []) (An.s (An.d [0, 1, 2, 4, 7, 11, 12, 13, 14, 15, 16, 17, 18, 19, 20, 22, 23, 24, 26, 27, 28, 3, 5, 6, 8, 9, 10, 21, 25, 29, 30] []) (An.s (An.d [0, 2, 5, 8, 9, 10, 11, 12, 13, 14, 15, 16, 17, 18, 19, 20, 21, 22, 1, 3, 4, 6, 7, 23, 24] []) (An.r [])))))) (An.r [])))))) (An.s (An.s (An.r []) (An.b (An.l [13] (An.s (An.s (An.r []) (An.s An.o An.o)) (An.s (An.b (An.dc [0, 1, 2, 3, 4, 5, 6, 7, 8] [8] [])) (An.r [])))))) (An.s (An.r []) An.o)))))))
def c_ref02_goes (t0 t1 : Value) (w : World) (R : Value → World → Prop) : Prop :=
  bx T_a8_uint32 t0 w fun t2 w =>
  efP P (Instr.alloc T_a8_uint32 true (.tuple #[])) w fun t4 w =>
  cal P f_ref02_words [t1] w fun t15 w =>
  efP P (Instr.alloc T_a64_uint32 true (.tuple #[])) w fun t5 w =>
  stN 64 t5 t15 w fun w =>
  cal P f_ref02_constants [] w fun t16 w =>
  efP P (Instr.alloc T_a64_uint32 true (.tuple #[])) w fun t6 w =>
  stN 64 t6 t16 w fun w =>
  ldN 8 t2 w.heap fun t17 =>
  efP P (Instr.alloc T_a8_uint32 true (.tuple #[])) w fun t7 w =>
  stN 8 t7 t17 w fun w =>
  lp1 (Value.int IntKind.i64 0) w fun _ t8 w again0 =>
  bi BinOp.lss t8 (Value.int IntKind.i64 64) fun t19 =>
  cnd t19
  (ixa 8 1 t7 (Value.int IntKind.i64 4) fun t22 =>
  ld1 t22 w.heap fun t23 =>
  ixa 8 1 t7 (Value.int IntKind.i64 0) fun t24 =>
  ld1 t24 w.heap fun t25 =>
  drH w fun S w =>
  ixa 8 1 t7 (Value.int IntKind.i64 7) fun t26 =>
  rdS S (fun w => ld1 t26 w.heap) fun t27 =>
  ixa 8 1 t7 (Value.int IntKind.i64 5) fun t38 =>
  rdS S (fun w => ld1 t38 w.heap) fun t39 =>
  bi BinOp.and t23 t39 fun t40 =>
  rdS S (rdP P (Op.unary UnOp.xor t23)) fun t42 =>
  ixa 8 1 t7 (Value.int IntKind.i64 6) fun t43 =>
  rdS S (fun w => ld1 t43 w.heap) fun t44 =>
  bi BinOp.and t42 t44 fun t45 =>
  bi BinOp.xor t40 t45 fun t46 =>
  ixa 64 1 t6 t8 fun t49 =>
  rdS S (fun w => ld1 t49 w.heap) fun t50 =>
  ixa 64 1 t5 t8 fun t53 =>
  rdS S (fun w => ld1 t53 w.heap) fun t54 =>
  efS S (cal P f_ref02_turned [t23, (Value.int IntKind.u64 6)]) w fun t29 w =>
  efS S (cal P f_ref02_turned [t23, (Value.int IntKind.u64 11)]) w fun t31 w =>
  bi BinOp.xor t29 t31 fun t32 =>
  efS S (cal P f_ref02_turned [t23, (Value.int IntKind.u64 25)]) w fun t34 w =>
  bi BinOp.xor t32 t34 fun t35 =>
  bi BinOp.add t27 t35 fun t36 =>
  bi BinOp.add t36 t46 fun t47 =>
  bi BinOp.add t47 t50 fun t51 =>
  bi BinOp.add t51 t54 fun t55 =>
  drH w fun S w =>
  ixa 8 1 t7 (Value.int IntKind.i64 1) fun t65 =>
  rdS S (fun w => ld1 t65 w.heap) fun t66 =>
  bi BinOp.and t25 t66 fun t67 =>
  ixa 8 1 t7 (Value.int IntKind.i64 2) fun t69 =>
  rdS S (fun w => ld1 t69 w.heap) fun t70 =>
  bi BinOp.and t25 t70 fun t71 =>
  bi BinOp.xor t67 t71 fun t72 =>
  ixa 8 1 t7 (Value.int IntKind.i64 1) fun t73 =>
  rdS S (fun w => ld1 t73 w.heap) fun t74 =>
  ixa 8 1 t7 (Value.int IntKind.i64 2) fun t75 =>
  rdS S (fun w => ld1 t75 w.heap) fun t76 =>
  bi BinOp.and t74 t76 fun t77 =>
  bi BinOp.xor t72 t77 fun t78 =>
  efS S (cal P f_ref02_turned [t25, (Value.int IntKind.u64 2)]) w fun t57 w =>
  efS S (cal P f_ref02_turned [t25, (Value.int IntKind.u64 13)]) w fun t59 w =>
  bi BinOp.xor t57 t59 fun t60 =>
  efS S (cal P f_ref02_turned [t25, (Value.int IntKind.u64 22)]) w fun t62 w =>
  bi BinOp.xor t60 t62 fun t63 =>
  bi BinOp.add t63 t78 fun t79 =>
  bi BinOp.add t55 t79 fun t82 =>
  ixa 8 1 t7 (Value.int IntKind.i64 0) fun t83 =>
  ld1 t83 w.heap fun t84 =>
  ixa 8 1 t7 (Value.int IntKind.i64 1) fun t85 =>
  ld1 t85 w.heap fun t86 =>
  ixa 8 1 t7 (Value.int IntKind.i64 2) fun t87 =>
  ld1 t87 w.heap fun t88 =>
  ixa 8 1 t7 (Value.int IntKind.i64 3) fun t89 =>
  ld1 t89 w.heap fun t90 =>
  bi BinOp.add t90 t55 fun t92 =>
  ixa 8 1 t7 (Value.int IntKind.i64 4) fun t93 =>
  ld1 t93 w.heap fun t94 =>
  ixa 8 1 t7 (Value.int IntKind.i64 5) fun t95 =>
  ld1 t95 w.heap fun t96 =>
  ixa 8 1 t7 (Value.int IntKind.i64 6) fun t97 =>
  ld1 t97 w.heap fun t98 =>
  rdP P (Instr.build T_a8_uint32 #[(0, t82), (1, t84), (2, t86), (3, t88), (4, t92), (5, t94), (6, t96), (7, t98)]) w fun t99 =>
  stN 8 t7 t99 w fun w =>
  bi BinOp.add t8 (Value.int IntKind.i64 1) fun t21 =>
  again0 t21 w)
  (lp1 (Value.int IntKind.i64 0) w fun _ t13 w again1 =>
  bi BinOp.lss t13 (Value.int IntKind.i64 8) fun t101 =>
  cnd t101
  (drH w fun S w =>
  ixa 8 1 t2 t13 fun t105 =>
  rdS S (fun w => ld1 t105 w.heap) fun t106 =>
  ixa 8 1 t7 t13 fun t108 =>
  rdS S (fun w => ld1 t108 w.heap) fun t109 =>
  bi BinOp.add t106 t109 fun t110 =>
  ixa 8 1 t2 t13 fun t111 =>
  efC (fun w K => st1 t111 t110 w (K undef)) w fun S _ w =>
  bi BinOp.add t13 (Value.int IntKind.i64 1) fun t103 =>
  again1 t103 w)
  (ldN 8 t2 w.heap fun t112 =>
  stN 8 t4 t112 w fun w =>
  ldN 8 t4 w.heap fun r2 =>
  R r2 w))
theorem e_ref02_goes (t0 t1 : Value) (w : World) (R : Value → World → Prop) : intp P A_ref02_goes (bodyOf Tryz.f90) (ini [t0, t1]) w (retK P Tryz.f90.results.toList R) (fun _ _ _ => False) (retK P Tryz.f90.results.toList R) = c_ref02_goes t0 t1 w R := by kernel_rfl
theorem k_ref02_goes : chk P Tryz.f90.ntmps A_ref02_goes (bodyOf Tryz.f90) = true := by kernel_rfl
theorem l_ref02_goes {t0 t1 : Value} {w : World} {R : Value → World → Prop} (h : c_ref02_goes t0 t1 w R) : cal P f_ref02_goes [t0, t1] w R :=
  calls_of mixed Tryz.func90 rfl (by kernel_rfl) k_ref02_goes (Eq.mpr (e_ref02_goes t0 t1 w R) h)
theorem s_ref02_goes {t0 t1 : Value} {w : World} {Q : Value → World → Prop} (h : ∀ R : Value → World → Prop, (∀ v w', Q v w' → R v w') → c_ref02_goes t0 t1 w R) : cal P f_ref02_goes [t0, t1] w Q := l_ref02_goes (h Q fun _ _ h => h)

/-- (*flurry/pack.Packer).put -/
def A_pack_Packer_put : An := (An.s (An.s (An.r []) (An.s An.o An.o)) (An.s (An.r []) (An.s (An.s (An.r [[32]]) (An.s (An.s (An.r []) An.o) An.o)) (An.r []))))
def c_pack_Packer_put (t0 t1 t2 : Value) (w : World) (R : Value → World → Prop) : Prop :=
  cal P f_pack_Packer_works [t0] w fun t8 w =>
  notB t8 fun t9 =>
  cnd t9
  (R (Value.tuple #[]) w)
  (drw w fun w =>
  nilc t0 fun t11 =>
  fad 3 t11 fun t12 =>
  ld1 t12 w.heap fun t13 =>
  nilc t0 fun t15 =>
  fad 0 t15 fun t16 =>
  fad 1 t16 fun t17 =>
  ld1 t17 w.heap fun t18 =>
  lenS t18 fun t19 =>
  bi BinOp.sub t13 t19 fun t20 =>
  lenS t1 fun t22 =>
  bi BinOp.gtr t22 t20 fun t24 =>
  jn1 (fun k0 =>
  gif t24 false
  (lenS t2 fun t27 =>
  lenS t1 fun t30 =>
  bi BinOp.sub t20 t30 fun t31 =>
  bi BinOp.gtr t27 t31 fun t32 =>
  k0 t32 w)
  (k0 undef w)) fun _ t32_1 w =>
  pik t24 (Value.bool true) t32_1 fun t33 =>
  cnd t33
  (nilc t0 fun t35 =>
  fad 0 t35 fun t36 =>
  cal P f_pack_kept_fails [t36, (Value.int IntKind.i64 10)] w fun t37 w =>
  R (Value.tuple #[]) w)
  (nilc t0 fun t40 =>
  fad 0 t40 fun t41 =>
  fad 1 t41 fun t42 =>
  ld1 t42 w.heap fun t43 =>
  efP P (Builtin.append_ #[T_sl_uint8, T_sl_uint8] T_sl_uint8 #[t43, t1]) w fun t45 w =>
  efP P (Builtin.append_ #[T_sl_uint8, T_sl_uint8] T_sl_uint8 #[t45, t2]) w fun t47 w =>
  nilc t0 fun t48 =>
  fad 0 t48 fun t49 =>
  fad 1 t49 fun t50 =>
  st1 t50 t47 w fun w =>
  R (Value.tuple #[]) w))
theorem e_pack_Packer_put (t0 t1 t2 : Value) (w : World) (R : Value → World → Prop) : intp P A_pack_Packer_put (bodyOf Tryz.f91) (ini [t0, t1, t2]) w (retK P Tryz.f91.results.toList R) (fun _ _ _ => False) (retK P Tryz.f91.results.toList R) = c_pack_Packer_put t0 t1 t2 w R := by kernel_rfl
theorem k_pack_Packer_put : chk P Tryz.f91.ntmps A_pack_Packer_put (bodyOf Tryz.f91) = true := by kernel_rfl
theorem l_pack_Packer_put {t0 t1 t2 : Value} {w : World} {R : Value → World → Prop} (h : c_pack_Packer_put t0 t1 t2 w R) : cal P f_pack_Packer_put [t0, t1, t2] w R :=
  calls_of mixed Tryz.func91 rfl (by kernel_rfl) k_pack_Packer_put (Eq.mpr (e_pack_Packer_put t0 t1 t2 w R) h)
theorem s_pack_Packer_put {t0 t1 t2 : Value} {w : World} {Q : Value → World → Prop} (h : ∀ R : Value → World → Prop, (∀ v w', Q v w' → R v w') → c_pack_Packer_put t0 t1 t2 w R) : cal P f_pack_Packer_put [t0, t1, t2] w Q := l_pack_Packer_put (h Q fun _ _ h => h)

/-- flurry/pack.number -/
def A_pack_number : An := (An.s (An.r []) (An.s (An.r []) (An.s (An.s (An.r []) (An.b (An.l [11] (An.s (An.r []) (An.s (An.s An.o An.o) (An.s (An.b (An.s (An.r []) (An.r []))) (An.r []))))))) (An.s (An.r []) An.o))))
def c_pack_number (t0 t1 : Value) (w : World) (R : Value → World → Prop) : Prop :=
  efP P (Instr.makeSlice T_sl_uint8 t0 t0) w fun t8 w =>
  lenS t8 fun t10 =>
  lp1 (Value.int IntKind.i64 0) w fun _ t11 w again0 =>
  bi BinOp.lss t11 t10 fun t12 =>
  cnd t12
  (bi BinOp.sub t0 (Value.int IntKind.i64 1) fun t16 =>
  bi BinOp.sub t16 t11 fun t18 =>
  bi BinOp.mul (Value.int IntKind.i64 8) t11 fun t21 =>
  sh BinOp.shr t1 t21 fun t22 =>
  cvi IntKind.u8 t22 fun t23 =>
  ixs 1 t8 t18 fun t24 =>
  st1 t24 t23 w fun w =>
  bi BinOp.add t11 (Value.int IntKind.i64 1) fun t25 =>
  again0 t25 w)
  (R t8 w)
theorem e_pack_number (t0 t1 : Value) (w : World) (R : Value → World → Prop) : intp P A_pack_number (bodyOf Tryz.f92) (ini [t0, t1]) w (retK P Tryz.f92.results.toList R) (fun _ _ _ => False) (retK P Tryz.f92.results.toList R) = c_pack_number t0 t1 w R := by kernel_rfl
theorem k_pack_number : chk P Tryz.f92.ntmps A_pack_number (bodyOf Tryz.f92) = true := by kernel_rfl
theorem l_pack_number {t0 t1 : Value} {w : World} {R : Value → World → Prop} (h : c_pack_number t0 t1 w R) : cal P f_pack_number [t0, t1] w R :=
  calls_of mixed Tryz.func92 rfl (by kernel_rfl) k_pack_number (Eq.mpr (e_pack_number t0 t1 w R) h)
theorem s_pack_number {t0 t1 : Value} {w : World} {Q : Value → World → Prop} (h : ∀ R : Value → World → Prop, (∀ v w', Q v w' → R v w') → c_pack_number t0 t1 w R) : cal P f_pack_number [t0, t1] w Q := l_pack_number (h Q fun _ _ h => h)

/-- (*flurry/pack.Packer).Err -/
def A_pack_Packer_Err : An := (An.s (An.r []) (An.s (An.s (An.r [[11]]) (An.s (An.s (An.r []) An.o) An.o)) (An.s (An.r []) An.o)))
def c_pack_Packer_Err (t0 : Value) (w : World) (R : Value → World → Prop) : Prop :=
  nilP false t0 fun t4 =>
  jn1 (fun k0 =>
  gif t4 false
  (nilc t0 fun t7 =>
  fad 0 t7 fun t8 =>
  fad 0 t8 fun t9 =>
  ld1 t9 w.heap fun t10 =>
  notB t10 fun t11 =>
  k0 t11 w)
  (k0 undef w)) fun _ t11_1 w =>
  pik t4 (Value.bool true) t11_1 fun t12 =>
  cnd t12
  (R (Value.int IntKind.i64 2) w)
  (nilc t0 fun t14 =>
  fad 0 t14 fun t15 =>
  fad 2 t15 fun t16 =>
  ld1 t16 w.heap fun t17 =>
  R t17 w)
theorem e_pack_Packer_Err (t0 : Value) (w : World) (R : Value → World → Prop) : intp P A_pack_Packer_Err (bodyOf Tryz.f93) (ini [t0]) w (retK P Tryz.f93.results.toList R) (fun _ _ _ => False) (retK P Tryz.f93.results.toList R) = c_pack_Packer_Err t0 w R := by kernel_rfl
theorem k_pack_Packer_Err : chk P Tryz.f93.ntmps A_pack_Packer_Err (bodyOf Tryz.f93) = true := by kernel_rfl
theorem l_pack_Packer_Err {t0 : Value} {w : World} {R : Value → World → Prop} (h : c_pack_Packer_Err t0 w R) : cal P f_pack_Packer_Err [t0] w R :=
  calls_of mixed Tryz.func93 rfl (by kernel_rfl) k_pack_Packer_Err (Eq.mpr (e_pack_Packer_Err t0 w R) h)
theorem s_pack_Packer_Err {t0 : Value} {w : World} {Q : Value → World → Prop} (h : ∀ R : Value → World → Prop, (∀ v w', Q v w' → R v w') → c_pack_Packer_Err t0 w R) : cal P f_pack_Packer_Err [t0] w Q := l_pack_Packer_Err (h Q fun _ _ h => h)

/-- flurry/sha.first -/
def A_sha_first : An := (An.s (An.r []) (An.s (An.r []) An.o))
def c_sha_first (w : World) (R : Value → World → Prop) : Prop :=
  efP P (Instr.alloc T_a8_uint32 true (.tuple #[])) w fun t0 w =>
  rdP P (Instr.build T_a8_uint32 #[(0, (Value.int IntKind.u32 1779033703)), (1, (Value.int IntKind.u32 3144134277)), (2, (Value.int IntKind.u32 1013904242)), (3, (Value.int IntKind.u32 2773480762)), (4, (Value.int IntKind.u32 1359893119)), (5, (Value.int IntKind.u32 2600822924)), (6, (Value.int IntKind.u32 528734635)), (7, (Value.int IntKind.u32 1541459225))]) w fun t1 =>
  stN 8 t0 t1 w fun w =>
  ldN 8 t0 w.heap fun r0 =>
  R r0 w
theorem e_sha_first (w : World) (R : Value → World → Prop) : intp P A_sha_first (bodyOf Tryz.f94) (ini []) w (retK P Tryz.f94.results.toList R) (fun _ _ _ => False) (retK P Tryz.f94.results.toList R) = c_sha_first  w R := by kernel_rfl
theorem k_sha_first : chk P Tryz.f94.ntmps A_sha_first (bodyOf Tryz.f94) = true := by kernel_rfl
theorem l_sha_first {w : World} {R : Value → World → Prop} (h : c_sha_first w R) : cal P f_sha_first [] w R :=
  calls_of mixed Tryz.func94 rfl (by kernel_rfl) k_sha_first (Eq.mpr (e_sha_first w R) h)
theorem s_sha_first {w : World} {Q : Value → World → Prop} (h : ∀ R : Value → World → Prop, (∀ v w', Q v w' → R v w') → c_sha_first w R) : cal P f_sha_first [] w Q := l_sha_first (h Q fun _ _ h => h)

/-- (*flurry/sha.State).none -/
def A_sha_State_none : An := (An.s (An.r []) (An.s (An.r [[10]]) An.o))
def c_sha_State_none (t0 : Value) (w : World) (R : Value → World → Prop) : Prop :=
  nilP false t0 fun t4 =>
  jn1 (fun k0 =>
  gif t4 false
  (nilc t0 fun t7 =>
  fad 10 t7 fun t8 =>
  ld1 t8 w.heap fun t9 =>
  notB t9 fun t10 =>
  k0 t10 w)
  (k0 undef w)) fun _ t10_1 w =>
  pik t4 (Value.bool true) t10_1 fun t11 =>
  R t11 w
theorem e_sha_State_none (t0 : Value) (w : World) (R : Value → World → Prop) : intp P A_sha_State_none (bodyOf Tryz.f95) (ini [t0]) w (retK P Tryz.f95.results.toList R) (fun _ _ _ => False) (retK P Tryz.f95.results.toList R) = c_sha_State_none t0 w R := by kernel_rfl
theorem k_sha_State_none : chk P Tryz.f95.ntmps A_sha_State_none (bodyOf Tryz.f95) = true := by kernel_rfl
theorem l_sha_State_none {t0 : Value} {w : World} {R : Value → World → Prop} (h : c_sha_State_none t0 w R) : cal P f_sha_State_none [t0] w R :=
  calls_of mixed Tryz.func95 rfl (by kernel_rfl) k_sha_State_none (Eq.mpr (e_sha_State_none t0 w R) h)
theorem s_sha_State_none {t0 : Value} {w : World} {Q : Value → World → Prop} (h : ∀ R : Value → World → Prop, (∀ v w', Q v w' → R v w') → c_sha_State_none t0 w R) : cal P f_sha_State_none [t0] w Q := l_sha_State_none (h Q fun _ _ h => h)

/-- slices.Concat[[]byte,byte] -/
def A_slices_Concat_byte_byte : An := (An.s (An.r []) (An.s (An.r []) (An.s (An.s (An.r []) (An.b (An.l [3, 11] (An.s (An.r []) (An.s (An.s An.o An.o) (An.s (An.j [3] (An.b (An.s (An.r []) (An.s (An.r []) (An.s (An.r []) (An.s (An.r []) An.o)))))) (An.r []))))))) (An.s (An.r []) (An.s (An.s (An.r []) (An.b (An.l [6, 27] (An.s (An.r []) (An.s (An.s An.o An.o) (An.s (An.b (An.s (An.r []) (An.r []))) (An.r []))))))) (An.s (An.r []) An.o))))))
def c_slices_Concat_byte_byte (t0 : Value) (w : World) (R : Value → World → Prop) : Prop :=
  lenS t0 fun t10 =>
  lp2 (Value.int IntKind.i64 0) (Value.int IntKind.i64 0) w fun _ t3 t11 w again0 =>
  bi BinOp.lss t11 t10 fun t12 =>
  cnd t12
  (jn1 (fun k1 =>
  ixs 1 t0 t11 fun t13 =>
  ld1 t13 w.heap fun t14 =>
  lenS t14 fun t17 =>
  bi BinOp.add t3 t17 fun t18 =>
  bi BinOp.lss t18 (Value.int IntKind.i64 0) fun t20 =>
  cnd t20
  (rdP P (Instr.makeInterface T_string (Value.string { data := #[108, 101, 110, 32, 111, 117, 116, 32, 111, 102, 32, 114, 97, 110, 103, 101] })) w fun t21 =>
  False)
  (k1 t18 w)) fun _ t3_1 w =>
  bi BinOp.add t11 (Value.int IntKind.i64 1) fun t22 =>
  again0 t3_1 t22 w)
  (cal P f_slices_Grow_byte_byte [(Value.slice none 0 0), t3] w fun t24 w =>
  lenS t0 fun t26 =>
  lp2 t24 (Value.int IntKind.i64 0) w fun _ t6 t27 w again2 =>
  bi BinOp.lss t27 t26 fun t28 =>
  cnd t28
  (ixs 1 t0 t27 fun t29 =>
  ld1 t29 w.heap fun t30 =>
  efP P (Builtin.append_ #[T_sl_uint8, T_sl_uint8] T_sl_uint8 #[t6, t30]) w fun t33 w =>
  bi BinOp.add t27 (Value.int IntKind.i64 1) fun t34 =>
  again2 t33 t34 w)
  (R t6 w))
theorem e_slices_Concat_byte_byte (t0 : Value) (w : World) (R : Value → World → Prop) : intp P A_slices_Concat_byte_byte (bodyOf Tryz.f96) (ini [t0]) w (retK P Tryz.f96.results.toList R) (fun _ _ _ => False) (retK P Tryz.f96.results.toList R) = c_slices_Concat_byte_byte t0 w R := by kernel_rfl
theorem k_slices_Concat_byte_byte : chk P Tryz.f96.ntmps A_slices_Concat_byte_byte (bodyOf Tryz.f96) = true := by kernel_rfl
theorem l_slices_Concat_byte_byte {t0 : Value} {w : World} {R : Value → World → Prop} (h : c_slices_Concat_byte_byte t0 w R) : cal P f_slices_Concat_byte_byte [t0] w R :=
  calls_of mixed Tryz.func96 rfl (by kernel_rfl) k_slices_Concat_byte_byte (Eq.mpr (e_slices_Concat_byte_byte t0 w R) h)
theorem s_slices_Concat_byte_byte {t0 : Value} {w : World} {Q : Value → World → Prop} (h : ∀ R : Value → World → Prop, (∀ v w', Q v w' → R v w') → c_slices_Concat_byte_byte t0 w R) : cal P f_slices_Concat_byte_byte [t0] w Q := l_slices_Concat_byte_byte (h Q fun _ _ h => h)

/-- flurry/sha.mixed -/
def A_sha_mixed : An := (An.s (An.r []) (An.s (An.r []) (An.s (An.s (An.r []) (An.b (An.l [18] (An.s (An.r []) (An.s (An.s An.o An.o) (An.s (An.b (An.s (An.r []) (An.s (An.r []) (An.s (An.r []) (An.s (An.r []) (An.s (An.r []) (An.s (An.r []) (An.r [])))))))) (An.r []))))))) (An.s (An.s (An.r []) (An.b (An.l [99] (An.s (An.r []) (An.s (An.s An.o An.o) (An.s (An.b (An.s (An.r []) (An.dc [0, 1, 2, 3, 4, 5, 6, 7, 8] [8] []))) (An.r []))))))) (An.s (An.r []) An.o)))))
def c_sha_mixed (t0 t1 : Value) (w : World) (R : Value → World → Prop) : Prop :=
  bx T_a8_uint32 t0 w fun t2 w =>
  efP P (Instr.alloc T_a8_uint32 true (.tuple #[])) w fun t4 w =>
  ldN 8 t2 w.heap fun t15 =>
  efP P (Instr.alloc T_a8_uint32 true (.tuple #[])) w fun t5 w =>
  stN 8 t5 t15 w fun w =>
  cal P f_sha_schedule [t1] w fun t17 w =>
  lp1 (Value.int IntKind.i64 0) w fun _ t18 w again0 =>
  bi BinOp.lss t18 (Value.int IntKind.i64 64) fun t19 =>
  cnd t19
  (ixv 64 1 false t17 t18 fun t21 =>
  drw w fun w =>
  ixa 8 1 t5 (Value.int IntKind.i64 0) fun t22 =>
  ld1 t22 w.heap fun t23 =>
  ixa 8 1 t5 (Value.int IntKind.i64 4) fun t24 =>
  ld1 t24 w.heap fun t25 =>
  cal P f_math_bits_RotateLeft32 [t25, (Value.int IntKind.i64 (-6))] w fun t27 w =>
  cal P f_math_bits_RotateLeft32 [t25, (Value.int IntKind.i64 (-11))] w fun t29 w =>
  bi BinOp.xor t27 t29 fun t30 =>
  cal P f_math_bits_RotateLeft32 [t25, (Value.int IntKind.i64 (-25))] w fun t32 w =>
  bi BinOp.xor t30 t32 fun t33 =>
  drw w fun w =>
  ixa 8 1 t5 (Value.int IntKind.i64 7) fun t34 =>
  ld1 t34 w.heap fun t35 =>
  bi BinOp.add t35 t33 fun t37 =>
  ixa 8 1 t5 (Value.int IntKind.i64 5) fun t39 =>
  ld1 t39 w.heap fun t40 =>
  bi BinOp.and t25 t40 fun t41 =>
  rdP P (Op.unary UnOp.xor t25) w fun t43 =>
  ixa 8 1 t5 (Value.int IntKind.i64 6) fun t44 =>
  ld1 t44 w.heap fun t45 =>
  bi BinOp.and t43 t45 fun t46 =>
  bi BinOp.xor t41 t46 fun t47 =>
  bi BinOp.add t37 t47 fun t48 =>
  ixa 64 1 (Value.pointer (some ⟨0, 0, none⟩)) t18 fun t50 =>
  ld1 t50 w.heap fun t51 =>
  bi BinOp.add t48 t51 fun t52 =>
  bi BinOp.add t52 t21 fun t54 =>
  cal P f_math_bits_RotateLeft32 [t23, (Value.int IntKind.i64 (-2))] w fun t56 w =>
  cal P f_math_bits_RotateLeft32 [t23, (Value.int IntKind.i64 (-13))] w fun t58 w =>
  bi BinOp.xor t56 t58 fun t59 =>
  cal P f_math_bits_RotateLeft32 [t23, (Value.int IntKind.i64 (-22))] w fun t61 w =>
  bi BinOp.xor t59 t61 fun t62 =>
  ixa 8 1 t5 (Value.int IntKind.i64 1) fun t65 =>
  ld1 t65 w.heap fun t66 =>
  bi BinOp.and t23 t66 fun t67 =>
  ixa 8 1 t5 (Value.int IntKind.i64 2) fun t69 =>
  ld1 t69 w.heap fun t70 =>
  bi BinOp.and t23 t70 fun t71 =>
  bi BinOp.xor t67 t71 fun t72 =>
  ixa 8 1 t5 (Value.int IntKind.i64 1) fun t73 =>
  ld1 t73 w.heap fun t74 =>
  ixa 8 1 t5 (Value.int IntKind.i64 2) fun t75 =>
  ld1 t75 w.heap fun t76 =>
  bi BinOp.and t74 t76 fun t77 =>
  bi BinOp.xor t72 t77 fun t78 =>
  bi BinOp.add t62 t78 fun t79 =>
  bi BinOp.add t54 t79 fun t82 =>
  ixa 8 1 t5 (Value.int IntKind.i64 1) fun t84 =>
  ld1 t84 w.heap fun t85 =>
  ixa 8 1 t5 (Value.int IntKind.i64 2) fun t86 =>
  ld1 t86 w.heap fun t87 =>
  ixa 8 1 t5 (Value.int IntKind.i64 3) fun t88 =>
  ld1 t88 w.heap fun t89 =>
  bi BinOp.add t89 t54 fun t91 =>
  ixa 8 1 t5 (Value.int IntKind.i64 5) fun t93 =>
  ld1 t93 w.heap fun t94 =>
  ixa 8 1 t5 (Value.int IntKind.i64 6) fun t95 =>
  ld1 t95 w.heap fun t96 =>
  rdP P (Instr.build T_a8_uint32 #[(0, t82), (1, t23), (2, t85), (3, t87), (4, t91), (5, t25), (6, t94), (7, t96)]) w fun t97 =>
  stN 8 t5 t97 w fun w =>
  bi BinOp.add t18 (Value.int IntKind.i64 1) fun t98 =>
  again0 t98 w)
  (lp1 (Value.int IntKind.i64 0) w fun _ t99 w again1 =>
  bi BinOp.lss t99 (Value.int IntKind.i64 8) fun t100 =>
  cnd t100
  (drH w fun S w =>
  ixa 8 1 t2 t99 fun t103 =>
  rdS S (fun w => ld1 t103 w.heap) fun t104 =>
  ixa 8 1 t5 t99 fun t106 =>
  rdS S (fun w => ld1 t106 w.heap) fun t107 =>
  bi BinOp.add t104 t107 fun t108 =>
  ixa 8 1 t2 t99 fun t109 =>
  efC (fun w K => st1 t109 t108 w (K undef)) w fun S _ w =>
  bi BinOp.add t99 (Value.int IntKind.i64 1) fun t110 =>
  again1 t110 w)
  (ldN 8 t2 w.heap fun t111 =>
  stN 8 t4 t111 w fun w =>
  ldN 8 t4 w.heap fun r2 =>
  R r2 w))
theorem e_sha_mixed (t0 t1 : Value) (w : World) (R : Value → World → Prop) : intp P A_sha_mixed (bodyOf Tryz.f97) (ini [t0, t1]) w (retK P Tryz.f97.results.toList R) (fun _ _ _ => False) (retK P Tryz.f97.results.toList R) = c_sha_mixed t0 t1 w R := by kernel_rfl
theorem k_sha_mixed : chk P Tryz.f97.ntmps A_sha_mixed (bodyOf Tryz.f97) = true := by kernel_rfl
theorem l_sha_mixed {t0 t1 : Value} {w : World} {R : Value → World → Prop} (h : c_sha_mixed t0 t1 w R) : cal P f_sha_mixed [t0, t1] w R :=
  calls_of mixed Tryz.func97 rfl (by kernel_rfl) k_sha_mixed (Eq.mpr (e_sha_mixed t0 t1 w R) h)
theorem s_sha_mixed {t0 t1 : Value} {w : World} {Q : Value → World → Prop} (h : ∀ R : Value → World → Prop, (∀ v w', Q v w' → R v w') → c_sha_mixed t0 t1 w R) : cal P f_sha_mixed [t0, t1] w Q := l_sha_mixed (h Q fun _ _ h => h)

/-- flurry/flurryref02.words -/
def A_ref02_words : An := (An.s (An.r []) (An.s (An.r []) (An.s (An.s (An.r []) (An.b (An.l [4] (An.s (An.s (An.r []) (An.s An.o An.o)) (An.s (An.b (An.s (An.r []) (An.b (An.l [5] (An.s (An.s (An.r []) (An.s An.o An.o)) (An.s (An.b (An.dc [0, 1, 2, 3, 4, 5, 6, 7, 8, 9, 10, 11, 12, 13, 14, 15] [15] [])) (An.r []))))))) (An.r [])))))) (An.s (An.s (An.r []) (An.b (An.l [6] (An.s (An.s (An.r []) (An.s An.o An.o)) (An.s (An.b (An.s (An.r []) (An.s (An.r []) (An.s (An.r []) (An.s (An.r []) (An.dc [0, 1, 2, 3, 4, 5, 6, 7, 8, 9, 10, 11, 12, 13, 14, 15] [15] [])))))) (An.r [])))))) (An.s (An.r []) An.o)))))
def c_ref02_words (t0 : Value) (w : World) (R : Value → World → Prop) : Prop :=
  efP P (Instr.alloc T_a64_uint32 true (.tuple #[])) w fun t2 w =>
  efP P (Instr.alloc T_a64_uint32 true (.tuple #[])) w fun t3 w =>
  lp1 (Value.int IntKind.i64 0) w fun _ t4 w again0 =>
  bi BinOp.lss t4 (Value.int IntKind.i64 16) fun t12 =>
  cnd t12
  (lp1 (Value.int IntKind.i64 0) w fun _ t5 w again1 =>
  bi BinOp.lss t5 (Value.int IntKind.i64 4) fun t16 =>
  cnd t16
  (drH w fun S w =>
  ixa 64 1 t3 t4 fun t21 =>
  rdS S (fun w => ld1 t21 w.heap) fun t22 =>
  bi BinOp.mul t22 (Value.int IntKind.u32 256) fun t23 =>
  bi BinOp.mul (Value.int IntKind.i64 4) t4 fun t26 =>
  bi BinOp.add t26 t5 fun t28 =>
  ixs 1 t0 t28 fun t29 =>
  rdS S (fun w => ld1 t29 w.heap) fun t30 =>
  cvi IntKind.u32 t30 fun t31 =>
  bi BinOp.add t23 t31 fun t32 =>
  ixa 64 1 t3 t4 fun t33 =>
  efC (fun w K => st1 t33 t32 w (K undef)) w fun S _ w =>
  bi BinOp.add t5 (Value.int IntKind.i64 1) fun t18 =>
  again1 t18 w)
  (bi BinOp.add t4 (Value.int IntKind.i64 1) fun t14 =>
  again0 t14 w))
  (lp1 (Value.int IntKind.i64 16) w fun _ t6 w again2 =>
  bi BinOp.lss t6 (Value.int IntKind.i64 64) fun t35 =>
  cnd t35
  (bi BinOp.sub t6 (Value.int IntKind.i64 15) fun t39 =>
  ixa 64 1 t3 t39 fun t40 =>
  ld1 t40 w.heap fun t41 =>
  bi BinOp.sub t6 (Value.int IntKind.i64 2) fun t43 =>
  ixa 64 1 t3 t43 fun t44 =>
  ld1 t44 w.heap fun t45 =>
  cal P f_ref02_turned [t41, (Value.int IntKind.u64 7)] w fun t47 w =>
  cal P f_ref02_turned [t41, (Value.int IntKind.u64 18)] w fun t49 w =>
  bi BinOp.xor t47 t49 fun t50 =>
  sh BinOp.shr t41 (Value.int IntKind.u64 3) fun t52 =>
  bi BinOp.xor t50 t52 fun t53 =>
  cal P f_ref02_turned [t45, (Value.int IntKind.u64 17)] w fun t55 w =>
  cal P f_ref02_turned [t45, (Value.int IntKind.u64 19)] w fun t57 w =>
  bi BinOp.xor t55 t57 fun t58 =>
  sh BinOp.shr t45 (Value.int IntKind.u64 10) fun t60 =>
  bi BinOp.xor t58 t60 fun t61 =>
  drH w fun S w =>
  bi BinOp.sub t6 (Value.int IntKind.i64 7) fun t65 =>
  ixa 64 1 t3 t65 fun t66 =>
  rdS S (fun w => ld1 t66 w.heap) fun t67 =>
  bi BinOp.add t61 t67 fun t68 =>
  bi BinOp.add t68 t53 fun t70 =>
  bi BinOp.sub t6 (Value.int IntKind.i64 16) fun t72 =>
  ixa 64 1 t3 t72 fun t73 =>
  rdS S (fun w => ld1 t73 w.heap) fun t74 =>
  bi BinOp.add t70 t74 fun t75 =>
  ixa 64 1 t3 t6 fun t76 =>
  efC (fun w K => st1 t76 t75 w (K undef)) w fun S _ w =>
  bi BinOp.add t6 (Value.int IntKind.i64 1) fun t37 =>
  again2 t37 w)
  (ldN 64 t3 w.heap fun t77 =>
  stN 64 t2 t77 w fun w =>
  ldN 64 t2 w.heap fun r3 =>
  R r3 w))
theorem e_ref02_words (t0 : Value) (w : World) (R : Value → World → Prop) : intp P A_ref02_words (bodyOf Tryz.f98) (ini [t0]) w (retK P Tryz.f98.results.toList R) (fun _ _ _ => False) (retK P Tryz.f98.results.toList R) = c_ref02_words t0 w R := by kernel_rfl
theorem k_ref02_words : chk P Tryz.f98.ntmps A_ref02_words (bodyOf Tryz.f98) = true := by kernel_rfl
theorem l_ref02_words {t0 : Value} {w : World} {R : Value → World → Prop} (h : c_ref02_words t0 w R) : cal P f_ref02_words [t0] w R :=
  calls_of mixed Tryz.func98 rfl (by kernel_rfl) k_ref02_words (Eq.mpr (e_ref02_words t0 w R) h)
theorem s_ref02_words {t0 : Value} {w : World} {Q : Value → World → Prop} (h : ∀ R : Value → World → Prop, (∀ v w', Q v w' → R v w') → c_ref02_words t0 w R) : cal P f_ref02_words [t0] w Q := l_ref02_words (h Q fun _ _ h => h)

/-- flurry/flurryref02.constants -/
def A_ref02_constants : An := (An.s (An.r []) (An.s (An.r []) An.o))
def c_ref02_constants (w : World) (R : Value → World → Prop) : Prop :=
  efP P (Instr.alloc T_a64_uint32 true (.tuple #[])) w fun t0 w =>
  rdP P (Instr.build T_a64_uint32 #[(0, (Value.int IntKind.u32 1116352408)), (1, (Value.int IntKind.u32 1899447441)), (2, (Value.int IntKind.u32 3049323471)), (3, (Value.int IntKind.u32 3921009573)), (4, (Value.int IntKind.u32 961987163)), (5, (Value.int IntKind.u32 1508970993)), (6, (Value.int IntKind.u32 2453635748)), (7, (Value.int IntKind.u32 2870763221)), (8, (Value.int IntKind.u32 3624381080)), (9, (Value.int IntKind.u32 310598401)), (10, (Value.int IntKind.u32 607225278)), (11, (Value.int IntKind.u32 1426881987)), (12, (Value.int IntKind.u32 1925078388)), (13, (Value.int IntKind.u32 2162078206)), (14, (Value.int IntKind.u32 2614888103)), (15, (Value.int IntKind.u32 3248222580)), (16, (Value.int IntKind.u32 3835390401)), (17, (Value.int IntKind.u32 4022224774)), (18, (Value.int IntKind.u32 264347078)), (19, (Value.int IntKind.u32 604807628)), (20, (Value.int IntKind.u32 770255983)), (21, (Value.int IntKind.u32 1249150122)), (22, (Value.int IntKind.u32 1555081692)), (23, (Value.int IntKind.u32 1996064986)), (24, (Value.int IntKind.u32 2554220882)), (25, (Value.int IntKind.u32 2821834349)), (26, (Value.int IntKind.u32 2952996808)), (27, (Value.int IntKind.u32 3210313671)), (28, (Value.int IntKind.u32 3336571891)), (29, (Value.int IntKind.u32 3584528711)), (30, (Value.int IntKind.u32 113926993)), (31, (Value.int IntKind.u32 338241895)), (32, (Value.int IntKind.u32 666307205)), (33, (Value.int IntKind.u32 773529912)), (34, (Value.int IntKind.u32 1294757372)), (35, (Value.int IntKind.u32 1396182291)), (36, (Value.int IntKind.u32 1695183700)), (37, (Value.int IntKind.u32 1986661051)), (38, (Value.int IntKind.u32 2177026350)), (39, (Value.int IntKind.u32 2456956037)), (40, (Value.int IntKind.u32 2730485921)), (41, (Value.int IntKind.u32 2820302411)), (42, (Value.int IntKind.u32 3259730800)), (43, (Value.int IntKind.u32 3345764771)), (44, (Value.int IntKind.u32 3516065817)), (45, (Value.int IntKind.u32 3600352804)), (46, (Value.int IntKind.u32 4094571909)), (47, (Value.int IntKind.u32 275423344)), (48, (Value.int IntKind.u32 430227734)), (49, (Value.int IntKind.u32 506948616)), (50, (Value.int IntKind.u32 659060556)), (51, (Value.int IntKind.u32 883997877)), (52, (Value.int IntKind.u32 958139571)), (53, (Value.int IntKind.u32 1322822218)), (54, (Value.int IntKind.u32 1537002063)), (55, (Value.int IntKind.u32 1747873779)), (56, (Value.int IntKind.u32 1955562222)), (57, (Value.int IntKind.u32 2024104815)), (58, (Value.int IntKind.u32 2227730452)), (59, (Value.int IntKind.u32 2361852424)), (60, (Value.int IntKind.u32 2428436474)), (61, (Value.int IntKind.u32 2756734187)), (62, (Value.int IntKind.u32 3204031479)), (63, (Value.int IntKind.u32 3329325298))]) w fun t1 =>
  stN 64 t0 t1 w fun w =>
  ldN 64 t0 w.heap fun r0 =>
  R r0 w
theorem e_ref02_constants (w : World) (R : Value → World → Prop) : intp P A_ref02_constants (bodyOf Tryz.f99) (ini []) w (retK P Tryz.f99.results.toList R) (fun _ _ _ => False) (retK P Tryz.f99.results.toList R) = c_ref02_constants  w R := by kernel_rfl
theorem k_ref02_constants : chk P Tryz.f99.ntmps A_ref02_constants (bodyOf Tryz.f99) = true := by kernel_rfl
theorem l_ref02_constants {w : World} {R : Value → World → Prop} (h : c_ref02_constants w R) : cal P f_ref02_constants [] w R :=
  calls_of mixed Tryz.func99 rfl (by kernel_rfl) k_ref02_constants (Eq.mpr (e_ref02_constants w R) h)
theorem s_ref02_constants {w : World} {Q : Value → World → Prop} (h : ∀ R : Value → World → Prop, (∀ v w', Q v w' → R v w') → c_ref02_constants w R) : cal P f_ref02_constants [] w Q := l_ref02_constants (h Q fun _ _ h => h)

/-- flurry/flurryref02.turned -/
def A_ref02_turned : An := (An.s (An.r []) (An.s (An.r []) An.o))
def c_ref02_turned (t0 t1 : Value) (w : World) (R : Value → World → Prop) : Prop :=
  sh BinOp.shr t0 t1 fun t7 =>
  bi BinOp.sub (Value.int IntKind.u64 32) t1 fun t10 =>
  sh BinOp.shl t0 t10 fun t11 =>
  bi BinOp.or t7 t11 fun t12 =>
  R t12 w
theorem e_ref02_turned (t0 t1 : Value) (w : World) (R : Value → World → Prop) : intp P A_ref02_turned (bodyOf Tryz.f100) (ini [t0, t1]) w (retK P Tryz.f100.results.toList R) (fun _ _ _ => False) (retK P Tryz.f100.results.toList R) = c_ref02_turned t0 t1 w R := by kernel_rfl
theorem k_ref02_turned : chk P Tryz.f100.ntmps A_ref02_turned (bodyOf Tryz.f100) = true := by kernel_rfl
theorem l_ref02_turned {t0 t1 : Value} {w : World} {R : Value → World → Prop} (h : c_ref02_turned t0 t1 w R) : cal P f_ref02_turned [t0, t1] w R :=
  calls_of mixed Tryz.func100 rfl (by kernel_rfl) k_ref02_turned (Eq.mpr (e_ref02_turned t0 t1 w R) h)
theorem s_ref02_turned {t0 t1 : Value} {w : World} {Q : Value → World → Prop} (h : ∀ R : Value → World → Prop, (∀ v w', Q v w' → R v w') → c_ref02_turned t0 t1 w R) : cal P f_ref02_turned [t0, t1] w Q := l_ref02_turned (h Q fun _ _ h => h)

/-- (*flurry/pack.Packer).works -/
def A_pack_Packer_works : An := (An.s (An.r []) (An.s (An.r [[10], [18]]) An.o))
def c_pack_Packer_works (t0 : Value) (w : World) (R : Value → World → Prop) : Prop :=
  nilP true t0 fun t4 =>
  jn1 (fun k0 =>
  gif t4 true
  (nilc t0 fun t7 =>
  fad 0 t7 fun t8 =>
  fad 0 t8 fun t9 =>
  ld1 t9 w.heap fun t10 =>
  k0 t10 w)
  (k0 undef w)) fun _ t10_1 w =>
  pik t4 t10_1 (Value.bool false) fun t11 =>
  jn1 (fun k1 =>
  gif t11 true
  (nilc t0 fun t14 =>
  fad 0 t14 fun t15 =>
  fad 2 t15 fun t16 =>
  ld1 t16 w.heap fun t17 =>
  bi BinOp.eql t17 (Value.int IntKind.i64 0) fun t18 =>
  k1 t18 w)
  (k1 undef w)) fun _ t18_1 w =>
  pik t11 t18_1 (Value.bool false) fun t19 =>
  R t19 w
theorem e_pack_Packer_works (t0 : Value) (w : World) (R : Value → World → Prop) : intp P A_pack_Packer_works (bodyOf Tryz.f101) (ini [t0]) w (retK P Tryz.f101.results.toList R) (fun _ _ _ => False) (retK P Tryz.f101.results.toList R) = c_pack_Packer_works t0 w R := by kernel_rfl
theorem k_pack_Packer_works : chk P Tryz.f101.ntmps A_pack_Packer_works (bodyOf Tryz.f101) = true := by kernel_rfl
theorem l_pack_Packer_works {t0 : Value} {w : World} {R : Value → World → Prop} (h : c_pack_Packer_works t0 w R) : cal P f_pack_Packer_works [t0] w R :=
  calls_of mixed Tryz.func101 rfl (by kernel_rfl) k_pack_Packer_works (Eq.mpr (e_pack_Packer_works t0 w R) h)
theorem s_pack_Packer_works {t0 : Value} {w : World} {Q : Value → World → Prop} (h : ∀ R : Value → World → Prop, (∀ v w', Q v w' → R v w') → c_pack_Packer_works t0 w R) : cal P f_pack_Packer_works [t0] w Q := l_pack_Packer_works (h Q fun _ _ h => h)

/-- (*flurry/pack.kept).fails -/
def A_pack_kept_fails : An := (An.s (An.r []) (An.s (An.r []) An.o))
def c_pack_kept_fails (t0 t1 : Value) (w : World) (R : Value → World → Prop) : Prop :=
  nilc t0 fun t5 =>
  fad 2 t5 fun t6 =>
  ld1 t6 w.heap fun t7 =>
  bi BinOp.eql t7 (Value.int IntKind.i64 0) fun t8 =>
  cnd t8
  (nilc t0 fun t11 =>
  fad 2 t11 fun t12 =>
  st1 t12 t1 w fun w =>
  R (Value.tuple #[]) w)
  (R (Value.tuple #[]) w)
theorem e_pack_kept_fails (t0 t1 : Value) (w : World) (R : Value → World → Prop) : intp P A_pack_kept_fails (bodyOf Tryz.f102) (ini [t0, t1]) w (retK P Tryz.f102.results.toList R) (fun _ _ _ => False) (retK P Tryz.f102.results.toList R) = c_pack_kept_fails t0 t1 w R := by kernel_rfl
theorem k_pack_kept_fails : chk P Tryz.f102.ntmps A_pack_kept_fails (bodyOf Tryz.f102) = true := by kernel_rfl
theorem l_pack_kept_fails {t0 t1 : Value} {w : World} {R : Value → World → Prop} (h : c_pack_kept_fails t0 t1 w R) : cal P f_pack_kept_fails [t0, t1] w R :=
  calls_of mixed Tryz.func102 rfl (by kernel_rfl) k_pack_kept_fails (Eq.mpr (e_pack_kept_fails t0 t1 w R) h)
theorem s_pack_kept_fails {t0 t1 : Value} {w : World} {Q : Value → World → Prop} (h : ∀ R : Value → World → Prop, (∀ v w', Q v w' → R v w') → c_pack_kept_fails t0 t1 w R) : cal P f_pack_kept_fails [t0, t1] w Q := l_pack_kept_fails (h Q fun _ _ h => h)

/-- slices.Grow[[]byte,byte] -/
def A_slices_Grow_byte_byte : An := (An.s (An.r []) (An.s (An.j [] (An.s (An.r []) (An.s (An.r []) An.o))) (An.s (An.s (An.r []) (An.s (An.r []) (An.s (An.r []) An.o))) (An.s (An.r []) An.o))))
def c_slices_Grow_byte_byte (t0 t1 : Value) (w : World) (R : Value → World → Prop) : Prop :=
  jn0 (fun k0 =>
  bi BinOp.lss t1 (Value.int IntKind.i64 0) fun t6 =>
  cnd t6
  (rdP P (Instr.makeInterface T_string (Value.string { data := #[99, 97, 110, 110, 111, 116, 32, 98, 101, 32, 110, 101, 103, 97, 116, 105, 118, 101] })) w fun t7 =>
  False)
  (k0 w)) fun _ w =>
  rdP P (Builtin.cap_ #[T_sl_uint8] T_int #[t0]) w fun t10 =>
  lenS t0 fun t12 =>
  bi BinOp.sub t10 t12 fun t13 =>
  bi BinOp.sub t1 t13 fun t14 =>
  bi BinOp.gtr t14 (Value.int IntKind.i64 0) fun t16 =>
  cnd t16
  (rdP P (Builtin.cap_ #[T_sl_uint8] T_int #[t0]) w fun t19 =>
  slc 1 t0 none (some t19) fun t20 =>
  efP P (Builtin.append_ #[T_sl_uint8, T_int] T_sl_uint8 #[t20, t14]) w fun t22 w =>
  lenS t0 fun t24 =>
  slc 1 t22 none (some t24) fun t25 =>
  R t25 w)
  (R t0 w)
theorem e_slices_Grow_byte_byte (t0 t1 : Value) (w : World) (R : Value → World → Prop) : intp P A_slices_Grow_byte_byte (bodyOf Tryz.f103) (ini [t0, t1]) w (retK P Tryz.f103.results.toList R) (fun _ _ _ => False) (retK P Tryz.f103.results.toList R) = c_slices_Grow_byte_byte t0 t1 w R := by kernel_rfl
theorem k_slices_Grow_byte_byte : chk P Tryz.f103.ntmps A_slices_Grow_byte_byte (bodyOf Tryz.f103) = true := by kernel_rfl
theorem l_slices_Grow_byte_byte {t0 t1 : Value} {w : World} {R : Value → World → Prop} (h : c_slices_Grow_byte_byte t0 t1 w R) : cal P f_slices_Grow_byte_byte [t0, t1] w R :=
  calls_of mixed Tryz.func103 rfl (by kernel_rfl) k_slices_Grow_byte_byte (Eq.mpr (e_slices_Grow_byte_byte t0 t1 w R) h)
theorem s_slices_Grow_byte_byte {t0 t1 : Value} {w : World} {Q : Value → World → Prop} (h : ∀ R : Value → World → Prop, (∀ v w', Q v w' → R v w') → c_slices_Grow_byte_byte t0 t1 w R) : cal P f_slices_Grow_byte_byte [t0, t1] w Q := l_slices_Grow_byte_byte (h Q fun _ _ h => h)

/-- flurry/sha.schedule -/
def A_sha_schedule : An := (An.s (An.r []) (An.s (An.r []) (An.s (An.s (An.r []) (An.b (An.l [9] (An.s (An.r []) (An.s (An.s An.o An.o) (An.s (An.j [] (An.b (An.s (An.r []) (An.s (An.s (An.r []) (An.s (An.s (An.dc [0, 1, 2, 3, 4, 5, 6, 7, 8, 9, 10, 11, 12, 13, 14, 15, 16, 17, 18, 19, 20, 21, 22, 23, 24, 25, 26, 27, 28, 29, 30, 31, 32, 33, 34, 35] [35] []) An.o) An.o)) (An.s (An.r []) (An.s (An.r []) (An.s (An.r []) (An.dc [0, 1, 2, 3, 4, 5, 6, 7, 8, 9, 10, 11, 12, 13, 14, 15] [15] [])))))))) (An.r []))))))) (An.s (An.r []) An.o))))
def c_sha_schedule (t0 : Value) (w : World) (R : Value → World → Prop) : Prop :=
  efP P (Instr.alloc T_a64_uint32 true (.tuple #[])) w fun t2 w =>
  efP P (Instr.alloc T_a64_uint32 true (.tuple #[])) w fun t3 w =>
  lp1 (Value.int IntKind.i64 0) w fun _ t9 w again0 =>
  bi BinOp.lss t9 (Value.int IntKind.i64 64) fun t10 =>
  cnd t10
  (jn0 (fun k1 =>
  bi BinOp.lss t9 (Value.int IntKind.i64 16) fun t13 =>
  cnd t13
  (drH w fun S w =>
  bi BinOp.mul (Value.int IntKind.i64 4) t9 fun t17 =>
  ixs 1 t0 t17 fun t18 =>
  rdS S (fun w => ld1 t18 w.heap) fun t19 =>
  cvi IntKind.u32 t19 fun t20 =>
  sh BinOp.shl t20 (Value.int IntKind.u64 24) fun t21 =>
  bi BinOp.mul (Value.int IntKind.i64 4) t9 fun t24 =>
  bi BinOp.add t24 (Value.int IntKind.i64 1) fun t25 =>
  ixs 1 t0 t25 fun t26 =>
  rdS S (fun w => ld1 t26 w.heap) fun t27 =>
  cvi IntKind.u32 t27 fun t28 =>
  sh BinOp.shl t28 (Value.int IntKind.u64 16) fun t29 =>
  bi BinOp.or t21 t29 fun t30 =>
  bi BinOp.mul (Value.int IntKind.i64 4) t9 fun t33 =>
  bi BinOp.add t33 (Value.int IntKind.i64 2) fun t34 =>
  ixs 1 t0 t34 fun t35 =>
  rdS S (fun w => ld1 t35 w.heap) fun t36 =>
  cvi IntKind.u32 t36 fun t37 =>
  sh BinOp.shl t37 (Value.int IntKind.u64 8) fun t38 =>
  bi BinOp.or t30 t38 fun t39 =>
  bi BinOp.mul (Value.int IntKind.i64 4) t9 fun t42 =>
  bi BinOp.add t42 (Value.int IntKind.i64 3) fun t43 =>
  ixs 1 t0 t43 fun t44 =>
  rdS S (fun w => ld1 t44 w.heap) fun t45 =>
  cvi IntKind.u32 t45 fun t46 =>
  bi BinOp.or t39 t46 fun t47 =>
  ixa 64 1 t3 t9 fun t48 =>
  efC (fun w K => st1 t48 t47 w (K undef)) w fun S _ w =>
  k1 w)
  (drw w fun w =>
  bi BinOp.sub t9 (Value.int IntKind.i64 15) fun t50 =>
  ixa 64 1 t3 t50 fun t51 =>
  ld1 t51 w.heap fun t52 =>
  bi BinOp.sub t9 (Value.int IntKind.i64 2) fun t54 =>
  ixa 64 1 t3 t54 fun t55 =>
  ld1 t55 w.heap fun t56 =>
  cal P f_math_bits_RotateLeft32 [t52, (Value.int IntKind.i64 (-7))] w fun t58 w =>
  cal P f_math_bits_RotateLeft32 [t52, (Value.int IntKind.i64 (-18))] w fun t60 w =>
  bi BinOp.xor t58 t60 fun t61 =>
  sh BinOp.shr t52 (Value.int IntKind.u64 3) fun t63 =>
  bi BinOp.xor t61 t63 fun t64 =>
  cal P f_math_bits_RotateLeft32 [t56, (Value.int IntKind.i64 (-17))] w fun t66 w =>
  cal P f_math_bits_RotateLeft32 [t56, (Value.int IntKind.i64 (-19))] w fun t68 w =>
  bi BinOp.xor t66 t68 fun t69 =>
  sh BinOp.shr t56 (Value.int IntKind.u64 10) fun t71 =>
  bi BinOp.xor t69 t71 fun t72 =>
  drH w fun S w =>
  bi BinOp.sub t9 (Value.int IntKind.i64 7) fun t76 =>
  ixa 64 1 t3 t76 fun t77 =>
  rdS S (fun w => ld1 t77 w.heap) fun t78 =>
  bi BinOp.add t72 t78 fun t79 =>
  bi BinOp.add t79 t64 fun t81 =>
  bi BinOp.sub t9 (Value.int IntKind.i64 16) fun t83 =>
  ixa 64 1 t3 t83 fun t84 =>
  rdS S (fun w => ld1 t84 w.heap) fun t85 =>
  bi BinOp.add t81 t85 fun t86 =>
  ixa 64 1 t3 t9 fun t87 =>
  efC (fun w K => st1 t87 t86 w (K undef)) w fun S _ w =>
  k1 w)) fun _ w =>
  bi BinOp.add t9 (Value.int IntKind.i64 1) fun t88 =>
  again0 t88 w)
  (ldN 64 t3 w.heap fun t89 =>
  stN 64 t2 t89 w fun w =>
  ldN 64 t2 w.heap fun r2 =>
  R r2 w)
theorem e_sha_schedule (t0 : Value) (w : World) (R : Value → World → Prop) : intp P A_sha_schedule (bodyOf Tryz.f104) (ini [t0]) w (retK P Tryz.f104.results.toList R) (fun _ _ _ => False) (retK P Tryz.f104.results.toList R) = c_sha_schedule t0 w R := by kernel_rfl
theorem k_sha_schedule : chk P Tryz.f104.ntmps A_sha_schedule (bodyOf Tryz.f104) = true := by kernel_rfl
theorem l_sha_schedule {t0 : Value} {w : World} {R : Value → World → Prop} (h : c_sha_schedule t0 w R) : cal P f_sha_schedule [t0] w R :=
  calls_of mixed Tryz.func104 rfl (by kernel_rfl) k_sha_schedule (Eq.mpr (e_sha_schedule t0 w R) h)
theorem s_sha_schedule {t0 : Value} {w : World} {Q : Value → World → Prop} (h : ∀ R : Value → World → Prop, (∀ v w', Q v w' → R v w') → c_sha_schedule t0 w R) : cal P f_sha_schedule [t0] w Q := l_sha_schedule (h Q fun _ _ h => h)

/-- math/bits.RotateLeft32 -/
def A_math_bits_RotateLeft32 : An := (An.s (An.r []) (An.s (An.r []) (An.s (An.r []) An.o)))
def c_math_bits_RotateLeft32 (t0 t1 : Value) (w : World) (R : Value → World → Prop) : Prop :=
  cvi IntKind.u64 t1 fun t7 =>
  bi BinOp.and t7 (Value.int IntKind.u64 31) fun t8 =>
  sh BinOp.shl t0 t8 fun t11 =>
  bi BinOp.sub (Value.int IntKind.u64 32) t8 fun t14 =>
  sh BinOp.shr t0 t14 fun t15 =>
  bi BinOp.or t11 t15 fun t16 =>
  R t16 w
theorem e_math_bits_RotateLeft32 (t0 t1 : Value) (w : World) (R : Value → World → Prop) : intp P A_math_bits_RotateLeft32 (bodyOf Tryz.f105) (ini [t0, t1]) w (retK P Tryz.f105.results.toList R) (fun _ _ _ => False) (retK P Tryz.f105.results.toList R) = c_math_bits_RotateLeft32 t0 t1 w R := by kernel_rfl
theorem k_math_bits_RotateLeft32 : chk P Tryz.f105.ntmps A_math_bits_RotateLeft32 (bodyOf Tryz.f105) = true := by kernel_rfl
theorem l_math_bits_RotateLeft32 {t0 t1 : Value} {w : World} {R : Value → World → Prop} (h : c_math_bits_RotateLeft32 t0 t1 w R) : cal P f_math_bits_RotateLeft32 [t0, t1] w R :=
  calls_of mixed Tryz.func105 rfl (by kernel_rfl) k_math_bits_RotateLeft32 (Eq.mpr (e_math_bits_RotateLeft32 t0 t1 w R) h)
theorem s_math_bits_RotateLeft32 {t0 t1 : Value} {w : World} {Q : Value → World → Prop} (h : ∀ R : Value → World → Prop, (∀ v w', Q v w' → R v w') → c_math_bits_RotateLeft32 t0 t1 w R) : cal P f_math_bits_RotateLeft32 [t0, t1] w Q := l_math_bits_RotateLeft32 (h Q fun _ _ h => h)

/-- gosem.cut.vars -/
def A_gosem_cut_vars : An := (An.r [])
def c_gosem_cut_vars (w : World) (R : Value → World → Prop) : Prop :=
  rdP P (Instr.build T_a64_uint32 #[(0, (Value.int IntKind.u32 1116352408)), (1, (Value.int IntKind.u32 1899447441)), (2, (Value.int IntKind.u32 3049323471)), (3, (Value.int IntKind.u32 3921009573)), (4, (Value.int IntKind.u32 961987163)), (5, (Value.int IntKind.u32 1508970993)), (6, (Value.int IntKind.u32 2453635748)), (7, (Value.int IntKind.u32 2870763221)), (8, (Value.int IntKind.u32 3624381080)), (9, (Value.int IntKind.u32 310598401)), (10, (Value.int IntKind.u32 607225278)), (11, (Value.int IntKind.u32 1426881987)), (12, (Value.int IntKind.u32 1925078388)), (13, (Value.int IntKind.u32 2162078206)), (14, (Value.int IntKind.u32 2614888103)), (15, (Value.int IntKind.u32 3248222580)), (16, (Value.int IntKind.u32 3835390401)), (17, (Value.int IntKind.u32 4022224774)), (18, (Value.int IntKind.u32 264347078)), (19, (Value.int IntKind.u32 604807628)), (20, (Value.int IntKind.u32 770255983)), (21, (Value.int IntKind.u32 1249150122)), (22, (Value.int IntKind.u32 1555081692)), (23, (Value.int IntKind.u32 1996064986)), (24, (Value.int IntKind.u32 2554220882)), (25, (Value.int IntKind.u32 2821834349)), (26, (Value.int IntKind.u32 2952996808)), (27, (Value.int IntKind.u32 3210313671)), (28, (Value.int IntKind.u32 3336571891)), (29, (Value.int IntKind.u32 3584528711)), (30, (Value.int IntKind.u32 113926993)), (31, (Value.int IntKind.u32 338241895)), (32, (Value.int IntKind.u32 666307205)), (33, (Value.int IntKind.u32 773529912)), (34, (Value.int IntKind.u32 1294757372)), (35, (Value.int IntKind.u32 1396182291)), (36, (Value.int IntKind.u32 1695183700)), (37, (Value.int IntKind.u32 1986661051)), (38, (Value.int IntKind.u32 2177026350)), (39, (Value.int IntKind.u32 2456956037)), (40, (Value.int IntKind.u32 2730485921)), (41, (Value.int IntKind.u32 2820302411)), (42, (Value.int IntKind.u32 3259730800)), (43, (Value.int IntKind.u32 3345764771)), (44, (Value.int IntKind.u32 3516065817)), (45, (Value.int IntKind.u32 3600352804)), (46, (Value.int IntKind.u32 4094571909)), (47, (Value.int IntKind.u32 275423344)), (48, (Value.int IntKind.u32 430227734)), (49, (Value.int IntKind.u32 506948616)), (50, (Value.int IntKind.u32 659060556)), (51, (Value.int IntKind.u32 883997877)), (52, (Value.int IntKind.u32 958139571)), (53, (Value.int IntKind.u32 1322822218)), (54, (Value.int IntKind.u32 1537002063)), (55, (Value.int IntKind.u32 1747873779)), (56, (Value.int IntKind.u32 1955562222)), (57, (Value.int IntKind.u32 2024104815)), (58, (Value.int IntKind.u32 2227730452)), (59, (Value.int IntKind.u32 2361852424)), (60, (Value.int IntKind.u32 2428436474)), (61, (Value.int IntKind.u32 2756734187)), (62, (Value.int IntKind.u32 3204031479)), (63, (Value.int IntKind.u32 3329325298))]) w fun t0 =>
  stN 64 (Value.pointer (some ⟨0, 0, none⟩)) t0 w fun w =>
  R (Value.tuple #[]) w
theorem e_gosem_cut_vars (w : World) (R : Value → World → Prop) : intp P A_gosem_cut_vars (bodyOf Tryz.f128) (ini []) w (retK P Tryz.f128.results.toList R) (fun _ _ _ => False) (retK P Tryz.f128.results.toList R) = c_gosem_cut_vars  w R := by kernel_rfl
theorem k_gosem_cut_vars : chk P Tryz.f128.ntmps A_gosem_cut_vars (bodyOf Tryz.f128) = true := by kernel_rfl
theorem l_gosem_cut_vars {w : World} {R : Value → World → Prop} (h : c_gosem_cut_vars w R) : cal P f_gosem_cut_vars [] w R :=
  calls_of mixed Tryz.func128 rfl (by kernel_rfl) k_gosem_cut_vars (Eq.mpr (e_gosem_cut_vars w R) h)
theorem s_gosem_cut_vars {w : World} {Q : Value → World → Prop} (h : ∀ R : Value → World → Prop, (∀ v w', Q v w' → R v w') → c_gosem_cut_vars w R) : cal P f_gosem_cut_vars [] w Q := l_gosem_cut_vars (h Q fun _ _ h => h)

end Go.Fx
