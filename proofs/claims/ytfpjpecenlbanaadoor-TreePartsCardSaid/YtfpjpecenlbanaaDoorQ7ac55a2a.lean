/-
  The readings of the functions that are walked (c_..), printed by program; each is held against the loaded code by the kernel (e_..), and gives the call (l_..).
-/
import Derived.Test.YtfpjpecenlbanaaDoorProg
import Derived.KernelRfl
import Derived.Test.YtfpjpecenlbanaaDoorQ38683303
import Derived.Test.YtfpjpecenlbanaaDoorQ29331318
set_option linter.unusedVariables false
set_option maxRecDepth 100000
namespace Go.Fx
noncomputable abbrev P : Program := Go.Proofs.Tryd.prog
open Go.Proofs
def bodyOf (f : Func) : Code := match f.body with | some c => c | none => .skip
theorem mixed : P.follows .mixedOrders = true := by kernel_rfl
abbrev f_law11_TreePaths : FuncId := 3
abbrev f_law11_TreeKeeps : FuncId := 4
abbrev f_law11_TreeGrows : FuncId := 5
abbrev f_law11_TreeParts : FuncId := 6
abbrev f_law11_TreeMoves : FuncId := 7
abbrev f_law11_TreeNone : FuncId := 8
abbrev f_law11_live : FuncId := 9
abbrev f_law11_few : FuncId := 10
abbrev f_law11_grown : FuncId := 11
abbrev f_tree_Tree_Root : FuncId := 12
abbrev f_tree_Tree_Path : FuncId := 13
abbrev f_tree_Tree_Get : FuncId := 14
abbrev f_tree_Tree_Within : FuncId := 15
abbrev f_slices_Contains_api_ID_api_ID : FuncId := 16
abbrev f_tree_New : FuncId := 17
abbrev f_law11_block : FuncId := 18
abbrev f_tree_Tree_Add : FuncId := 19
abbrev f_tree_Tree_Move : FuncId := 20
abbrev f_ref03_Same : FuncId := 21
abbrev f_law11_made : FuncId := 22
abbrev f_law11_both_whole : FuncId := 23
abbrev f_law11_told : FuncId := 24
abbrev f_tree_Tree_All : FuncId := 25
abbrev f_tree_Tree_Kids : FuncId := 26
abbrev f_tree_Tree_Len : FuncId := 27
abbrev f_tree_Tree_Under : FuncId := 28
abbrev f_tree_Tree_Clone : FuncId := 29
abbrev f_ref11_Tree_Clone : FuncId := 30
abbrev f_ref11_Tree_Move : FuncId := 31
abbrev f_slices_Equal_api_ID_api_ID : FuncId := 32
abbrev f_tree_Tree_Has : FuncId := 33
abbrev f_tree_Tree_none : FuncId := 34
abbrev f_slices_Reverse_api_ID_api_ID : FuncId := 35
abbrev f_block_Clone : FuncId := 36
abbrev f_slices_Index_api_ID_api_ID : FuncId := 37
abbrev f_block_ID : FuncId := 38
abbrev f_tree_Tree_level : FuncId := 39
abbrev f_tree_Tree_those : FuncId := 40
abbrev f_tree_Tree_Move_1 : FuncId := 41
abbrev f_tree_Tree_Move_2 : FuncId := 42
abbrev f_ref11_New : FuncId := 43
abbrev f_ref03_Clone : FuncId := 44
abbrev f_ref11_Tree_Add : FuncId := 45
abbrev f_ref11_Tree_All : FuncId := 46
abbrev f_law11_both_alike : FuncId := 47
abbrev f_ref11_Tree_Within : FuncId := 48
abbrev f_tree_told : FuncId := 49
abbrev f_tree_Tree_All_1 : FuncId := 50
abbrev f_tree_Tree_Kids_1 : FuncId := 51
abbrev f_tree_Tree_Under_1 : FuncId := 52
abbrev f_slices_Clone_api_ID_api_ID : FuncId := 53
abbrev f_ref11_Tree_place : FuncId := 54
abbrev f_bytes_Clone : FuncId := 55
abbrev f_block_Bytes : FuncId := 56
abbrev f_sha_Sum : FuncId := 57
abbrev f_ref03_ID : FuncId := 58
abbrev f_ref11_Tree_Has : FuncId := 59
abbrev f_ref11_Tree_Height : FuncId := 60
abbrev f_ref11_Tree_Get : FuncId := 61
abbrev f_ref11_Tree_Kids : FuncId := 62
abbrev f_ref11_Tree_Path : FuncId := 63
abbrev f_ref11_Tree_Under : FuncId := 64
abbrev f_tree_told_1 : FuncId := 65
abbrev f_block_Check : FuncId := 66
abbrev f_pack_New : FuncId := 67
abbrev f_pack_Packer_Short : FuncId := 68
abbrev f_pack_Packer_Fixed : FuncId := 69
abbrev f_pack_Packer_Long : FuncId := 70
abbrev f_pack_Packer_Bytes : FuncId := 71
abbrev f_pack_Packer_Out : FuncId := 72
abbrev f_sha_New : FuncId := 73
abbrev f_sha_State_Write : FuncId := 74
abbrev f_sha_State_Sum : FuncId := 75
abbrev f_ref03_Bytes : FuncId := 76
abbrev f_ref02_Sum : FuncId := 77
abbrev f_pack_Packer_put : FuncId := 78
abbrev f_pack_number : FuncId := 79
abbrev f_pack_Packer_Err : FuncId := 80
abbrev f_sha_first : FuncId := 81
abbrev f_sha_State_none : FuncId := 82
abbrev f_slices_Concat_byte_byte : FuncId := 83
abbrev f_sha_mixed : FuncId := 84
abbrev f_ref03_Check : FuncId := 85
abbrev f_ref01_Num : FuncId := 86
abbrev f_ref02_padded : FuncId := 87
abbrev f_ref02_goes : FuncId := 88
abbrev f_pack_Packer_works : FuncId := 89
abbrev f_pack_kept_fails : FuncId := 90
abbrev f_slices_Grow_byte_byte : FuncId := 91
abbrev f_sha_schedule : FuncId := 92
abbrev f_math_bits_RotateLeft32 : FuncId := 93
abbrev f_ref02_words : FuncId := 94
abbrev f_ref02_constants : FuncId := 95
abbrev f_ref02_turned : FuncId := 96
abbrev f_runtime_boundsError_Error : FuncId := 97
abbrev f_runtime_boundsError_RuntimeError : FuncId := 98
abbrev f_runtime_errorString_Error : FuncId := 99
abbrev f_runtime_errorString_RuntimeError : FuncId := 100
abbrev f_runtime_plainError_Error : FuncId := 101
abbrev f_runtime_plainError_RuntimeError : FuncId := 102
abbrev f_runtime_errorAddressString_Error : FuncId := 103
abbrev f_runtime_errorAddressString_RuntimeError : FuncId := 104
abbrev f_runtime_TypeAssertionError_Error : FuncId := 105
abbrev f_runtime_TypeAssertionError_RuntimeError : FuncId := 106
abbrev f_runtime_PanicNilError_Error : FuncId := 107
abbrev f_runtime_PanicNilError_RuntimeError : FuncId := 108
abbrev f_internal_abi_Type_Align : FuncId := 109
abbrev f_internal_runtime_maps_unhashableTypeError_Error : FuncId := 110
abbrev f_internal_runtime_maps_unhashableTypeError_RuntimeError : FuncId := 111
abbrev f_api_Errno_Error : FuncId := 112
abbrev f_pack_Packer_Byte : FuncId := 113
abbrev f_sha_State_Len : FuncId := 114
abbrev f_internal_abi_Kind_String : FuncId := 115
abbrev f_var_s_door_sha_cubes_is_laid_by_its_own_initialiser_plain_data_look_11 : FuncId := 116
abbrev f_var_s_door_gosem_cut_vars_holds_initialisers_alone_see_the_manifest_s_row_cutvarsword_look_11_test_files_too : FuncId := 117
abbrev f_var_s_door_the_look_of_gosem_cut_vars_went_over_the_folder_that_the_caller_named_as_the_repository_s_root_look_11 : FuncId := 118
abbrev f_gosem_cut_vars : FuncId := 119
abbrev T_ : TypeId := 0
abbrev T_func : TypeId := 1
abbrev T_int64 : TypeId := 2
abbrev T_int : TypeId := 3
abbrev T_bool : TypeId := 4
abbrev T_uint8 : TypeId := 5
abbrev T_internal_abi_BoundsErrorCode : TypeId := 6
abbrev T_struct_x_int64_y_int_signed_bool_code_abi_BoundsErrorCode : TypeId := 7
abbrev T_runtime_boundsError : TypeId := 8
abbrev T_string : TypeId := 9
abbrev T_runtime_errorString : TypeId := 10
abbrev T_runtime_plainError : TypeId := 11
abbrev T_uintptr : TypeId := 12
abbrev T_struct_msg_string_addr_uintptr : TypeId := 13
abbrev T_runtime_errorAddressString : TypeId := 14
abbrev T_p_runtime_TypeAssertionError : TypeId := 15
abbrev T_p_runtime_PanicNilError : TypeId := 16
abbrev T_p_abi_Type : TypeId := 17
abbrev T_struct_typ_p_abi_Type : TypeId := 18
abbrev T_internal_runtime_maps_unhashableTypeError : TypeId := 19
abbrev T_interface : TypeId := 20
abbrev T_int32 : TypeId := 21
abbrev T_a32_uint8 : TypeId := 22
abbrev T_api_ID : TypeId := 23
abbrev T_struct_Root_api_ID_Height_int64_Most_int : TypeId := 24
abbrev T_flurrylaw11_Start : TypeId := 25
abbrev T_sl_flurrylaw11_Grow : TypeId := 26
abbrev T_func_bool : TypeId := 27
abbrev T_func_sl_flurrylaw11_Grow_bool : TypeId := 28
abbrev T_p_tree_Tree : TypeId := 29
abbrev T_sl_api_ID : TypeId := 30
abbrev T_p_tree_Tree_sl_api_ID : TypeId := 31
abbrev T_func_flurrylaw11_Start_sl_flurrylaw11_Grow_p_tree_Tree_sl_ap : TypeId := 32
abbrev T_api_ID_int64 : TypeId := 33
abbrev T_func_api_ID_int64 : TypeId := 34
abbrev T_func_api_ID_sl_api_ID : TypeId := 35
abbrev T_sl_uint8 : TypeId := 36
abbrev T_struct_Parent_api_ID_Height_int64_Data_sl_uint8 : TypeId := 37
abbrev T_api_Block : TypeId := 38
abbrev T_api_Errno : TypeId := 39
abbrev T_api_Block_api_Errno : TypeId := 40
abbrev T_func_api_ID_api_Block_api_Errno : TypeId := 41
abbrev T_func_api_ID_api_ID_bool : TypeId := 42
abbrev T_func_sl_api_ID_api_ID_bool : TypeId := 43
abbrev T_func_flurrylaw11_Start_sl_flurrylaw11_Grow_bool : TypeId := 44
abbrev T_p_tree_Tree_api_Errno : TypeId := 45
abbrev T_func_api_ID_int64_int_p_tree_Tree_api_Errno : TypeId := 46
abbrev T_sl_int64 : TypeId := 47
abbrev T_map_api_ID_api_Block : TypeId := 48
abbrev T_struct_K_uint8_Data_sl_uint8_Raw_bool_B_api_Block : TypeId := 49
abbrev T_flurrylaw11_Grow : TypeId := 50
abbrev T_func_flurrylaw11_Start_flurrylaw11_Grow_sl_api_ID_sl_int64_a : TypeId := 51
abbrev T_api_ID_api_Errno : TypeId := 52
abbrev T_func_api_Block_api_ID_api_Errno : TypeId := 53
abbrev T_api_Block_bool : TypeId := 54
abbrev T_sl_api_ID_api_Errno : TypeId := 55
abbrev T_func_api_ID_sl_api_ID_api_Errno : TypeId := 56
abbrev T_func_api_Block_api_Block_bool : TypeId := 57
abbrev T_func_flurrylaw11_Start_sl_flurrylaw11_Grow_uint8_bool : TypeId := 58
abbrev T_p_flurrylaw11_both : TypeId := 59
abbrev T_p_flurrylaw11_both_bool : TypeId := 60
abbrev T_func_flurrylaw11_Start_sl_flurrylaw11_Grow_p_flurrylaw11_bot : TypeId := 61
abbrev T_func_api_ID_bool : TypeId := 62
abbrev T_func_flurrylaw11_Start_sl_flurrylaw11_Grow_api_ID_bool : TypeId := 63
abbrev T_func_iter_Seq_api_ID_int_sl_api_ID : TypeId := 64
abbrev T_func_func_api_ID_bool : TypeId := 65
abbrev T_iter_Seq_api_ID : TypeId := 66
abbrev T_func_iter_Seq_api_ID : TypeId := 67
abbrev T_map_api_ID_int : TypeId := 68
abbrev T_func_api_ID_iter_Seq_api_ID : TypeId := 69
abbrev T_func_int : TypeId := 70
abbrev T_p_flurryref11_Tree : TypeId := 71
abbrev T_struct_t_p_tree_Tree_r_p_flurryref11_Tree_ids_sl_api_ID : TypeId := 72
abbrev T_flurrylaw11_both : TypeId := 73
abbrev T_func_p_tree_Tree : TypeId := 74
abbrev T_func_p_flurryref11_Tree : TypeId := 75
abbrev T_func_sl_api_ID_sl_api_ID_bool : TypeId := 76
abbrev T_func_flurrylaw11_Start_sl_flurrylaw11_Grow_sl_uint8_bool : TypeId := 77
abbrev T_struct_made_bool_root_api_ID_height_int64_most_int_blocks_ma : TypeId := 78
abbrev T_tree_Tree : TypeId := 79
abbrev T_sl_p_tree_Tree : TypeId := 80
abbrev T_func_api_Block_api_ID_bool : TypeId := 81
abbrev T_func_sl_api_ID : TypeId := 82
abbrev T_func_api_Block_api_Block : TypeId := 83
abbrev T_func_sl_api_ID_api_ID_int : TypeId := 84
abbrev T_int64_bool : TypeId := 85
abbrev T_func_api_ID_int64_bool : TypeId := 86
abbrev T_func_func_api_ID_bool_sl_api_ID : TypeId := 87
abbrev T_p_flurryref11_Tree_api_Errno : TypeId := 88
abbrev T_func_api_ID_int64_int_p_flurryref11_Tree_api_Errno : TypeId := 89
abbrev T_func_sl_api_ID_1 : TypeId := 90
abbrev T_sl_flurryref11_Node : TypeId := 91
abbrev T_struct_R_api_ID_H_int64_Most_int_L_sl_flurryref11_Node : TypeId := 92
abbrev T_flurryref11_Tree : TypeId := 93
abbrev T_func_sl_api_ID_iter_Seq_api_ID : TypeId := 94
abbrev T_func_sl_api_ID_sl_api_ID : TypeId := 95
abbrev T_func_api_ID_int : TypeId := 96
abbrev T_struct_ID_api_ID_B_api_Block : TypeId := 97
abbrev T_flurryref11_Node : TypeId := 98
abbrev T_func_sl_uint8_sl_uint8 : TypeId := 99
abbrev T_sl_uint8_api_Errno : TypeId := 100
abbrev T_func_api_Block_sl_uint8_api_Errno : TypeId := 101
abbrev T_func_sl_uint8_api_ID : TypeId := 102
abbrev T_func_api_ID_int64_1 : TypeId := 103
abbrev T_func_api_Block_api_Errno : TypeId := 104
abbrev T_p_pack_Packer : TypeId := 105
abbrev T_func_int_p_pack_Packer : TypeId := 106
abbrev T_func_uint16 : TypeId := 107
abbrev T_uint16 : TypeId := 108
abbrev T_func_uint8 : TypeId := 109
abbrev T_func_uint64 : TypeId := 110
abbrev T_uint64 : TypeId := 111
abbrev T_func_sl_uint8 : TypeId := 112
abbrev T_func_sl_uint8_api_Errno : TypeId := 113
abbrev T_p_sha_State : TypeId := 114
abbrev T_func_p_sha_State : TypeId := 115
abbrev T_func_sl_uint8_api_Errno_1 : TypeId := 116
abbrev T_func_api_ID : TypeId := 117
abbrev T_struct_made_bool_b_sl_uint8_err_api_Errno : TypeId := 118
abbrev T_pack_kept : TypeId := 119
abbrev T_struct_pack_kept_limit_int : TypeId := 120
abbrev T_pack_Packer : TypeId := 121
abbrev T_func_sl_uint8_sl_uint8_1 : TypeId := 122
abbrev T_func_int_uint64_sl_uint8 : TypeId := 123
abbrev T_func_api_Errno : TypeId := 124
abbrev T_uint32 : TypeId := 125
abbrev T_a8_uint32 : TypeId := 126
abbrev T_func_a8_uint32 : TypeId := 127
abbrev T_struct_h_a8_uint32_rest_sl_uint8_n_int64_made_bool : TypeId := 128
abbrev T_sha_State : TypeId := 129
abbrev T_sl_sl_uint8 : TypeId := 130
abbrev T_func_sl_uint8_sl_uint8_2 : TypeId := 131
abbrev T_func_a8_uint32_sl_uint8_a8_uint32 : TypeId := 132
abbrev T_uint : TypeId := 133
abbrev T_func_api_Errno_1 : TypeId := 134
abbrev T_func_sl_uint8_int_sl_uint8 : TypeId := 135
abbrev T_a64_uint32 : TypeId := 136
abbrev T_func_sl_uint8_a64_uint32 : TypeId := 137
abbrev T_func_uint32_int_uint32 : TypeId := 138
abbrev T_func_a64_uint32 : TypeId := 139
abbrev T_func_uint32_uint_uint32 : TypeId := 140
abbrev T_p_pack_kept : TypeId := 141
abbrev T_func_string : TypeId := 142
abbrev T_struct_interface_p_abi_Type_concrete_p_abi_Type_asserted_p_a : TypeId := 143
abbrev T_runtime_TypeAssertionError : TypeId := 144
abbrev T_a0_p_runtime_PanicNilError : TypeId := 145
abbrev T_struct_a0_p_runtime_PanicNilError : TypeId := 146
abbrev T_runtime_PanicNilError : TypeId := 147
abbrev T_internal_abi_TFlag : TypeId := 148
abbrev T_internal_abi_Kind : TypeId := 149
abbrev T_func_unsafe_Pointer_unsafe_Pointer_bool : TypeId := 150
abbrev T_p_uint8 : TypeId := 151
abbrev T_internal_abi_NameOff : TypeId := 152
abbrev T_internal_abi_TypeOff : TypeId := 153
abbrev T_struct_Size_uintptr_PtrBytes_uintptr_Hash_uint32_TFlag_abi_T : TypeId := 154
abbrev T_internal_abi_Type : TypeId := 155
abbrev T_func_uint8_1 : TypeId := 156
abbrev T_func_int64 : TypeId := 157
abbrev T_unsafe_Pointer : TypeId := 158
/-- flurry/flurrylaw11.TreePaths -/
def A_law11_TreePaths : An := (An.s (An.r []) (An.s (An.s (An.r [[24]]) (An.s (An.s (An.r []) An.o) An.o)) (An.s (An.r []) (An.s (An.s (An.r []) (An.s (An.s (An.r []) An.o) An.o)) (An.s (An.r []) (An.s (An.s (An.r []) (An.b (An.l [43] (An.s (An.r []) (An.s (An.s An.o An.o) (An.s (An.b (An.s (An.r []) (An.s (An.r []) (An.s (An.s (An.r [[61]]) (An.s (An.s (An.r []) An.o) An.o)) (An.s (An.r []) (An.s (An.s (An.r []) (An.b (An.l [66] (An.s (An.r []) (An.s (An.s An.o An.o) (An.s (An.b (An.s (An.r []) (An.s (An.r []) (An.s (An.s (An.r [[83], [92]]) (An.s (An.s (An.r []) An.o) An.o)) (An.r []))))) (An.r []))))))) (An.s (An.r []) (An.b (An.l [98] (An.s (An.r []) (An.s (An.s An.o An.o) (An.s (An.b (An.s (An.r []) (An.s (An.d [0, 1, 2, 4, 5, 6, 3, 7, 8, 9, 10, 11, 12] [[112]]) (An.s (An.s (An.r []) An.o) An.o)))) (An.r []))))))))))))) (An.r []))))))) (An.s (An.r [[126]]) An.o)))))))
def c_law11_TreePaths (t0 t1 : Value) (w : World) (R : Value → World → Prop) : Prop :=
  bx T_flurrylaw11_Start t0 w fun t2 w =>
  cal P f_law11_live [] w fun t19 w =>
  notB t19 fun t20 =>
  jn1 (fun k0 =>
  gif t20 false
  (cal P f_law11_few [t1] w fun t23 w =>
  notB t23 fun t24 =>
  k0 t24 w)
  (k0 undef w)) fun _ t24_1 w =>
  pik t20 (Value.bool true) t24_1 fun t25 =>
  cnd t25
  (cal P f_law11_live [] w fun t26 w =>
  R t26 w)
  (ldN 34 t2 w.heap fun t28 =>
  cal P f_law11_grown [t28, t1] w fun t30 w =>
  ext 0 t30 fun t31 =>
  ext 1 t30 fun t32 =>
  nilP false t31 fun t34 =>
  cnd t34
  (R (Value.bool true) w)
  (cal P f_tree_Tree_Root [t31] w fun t37 w =>
  ext 0 t37 fun t38 =>
  ext 1 t37 fun t39 =>
  efP P (Instr.alloc T_api_ID true (.tuple #[])) w fun t7 w =>
  stN 32 t7 t38 w fun w =>
  slc 32 t32 (some (Value.int IntKind.i64 1)) none fun t41 =>
  lenS t41 fun t42 =>
  lp1 (Value.int IntKind.i64 0) w fun _ t43 w again1 =>
  bi BinOp.lss t43 t42 fun t44 =>
  cnd t44
  (ixs 32 t41 t43 fun t45 =>
  ldN 32 t45 w.heap fun t46 =>
  efP P (Instr.alloc T_api_ID true (.tuple #[])) w fun t10 w =>
  stN 32 t10 t46 w fun w =>
  ldN 32 t10 w.heap fun t48 =>
  cal P f_tree_Tree_Path [t31, t48] w fun t49 w =>
  drw w fun w =>
  lenS t49 fun t51 =>
  bi BinOp.eql t51 (Value.int IntKind.i64 0) fun t52 =>
  jn1 (fun k2 =>
  gif t52 false
  (lenS t49 fun t56 =>
  bi BinOp.sub t56 (Value.int IntKind.i64 1) fun t57 =>
  ixs 32 t49 t57 fun t58 =>
  ldN 32 t58 w.heap fun t59 =>
  ldN 32 t10 w.heap fun t60 =>
  rdP P (eqS BinOp.neq T_api_ID (Operand.tmp 59) (Operand.tmp 60) t59 t60) w fun t61 =>
  k2 t61 w)
  (k2 undef w)) fun _ t61_1 w =>
  pik t52 (Value.bool true) t61_1 fun t62 =>
  cnd t62
  (R (Value.bool false) w)
  (ldN 32 t7 w.heap fun t63 =>
  efP P (Instr.alloc T_api_ID true (.tuple #[])) w fun t12 w =>
  stN 32 t12 t63 w fun w =>
  lenS t49 fun t65 =>
  lp1 (Value.int IntKind.i64 0) w fun _ t66 w again3 =>
  bi BinOp.lss t66 t65 fun t67 =>
  cnd t67
  (ixs 32 t49 t66 fun t69 =>
  ldN 32 t69 w.heap fun t70 =>
  efP P (Instr.alloc T_api_ID true (.tuple #[])) w fun t14 w =>
  stN 32 t14 t70 w fun w =>
  ldN 32 t14 w.heap fun t73 =>
  cal P f_tree_Tree_Get [t31, t73] w fun t74 w =>
  ext 0 t74 fun t75 =>
  ext 1 t74 fun t76 =>
  efP P (Instr.alloc T_api_Block true (.tuple #[])) w fun t15 w =>
  stN 34 t15 t75 w fun w =>
  bi BinOp.neq t76 (Value.int IntKind.i64 0) fun t78 =>
  jn1 (fun k4 =>
  gif t78 false
  (fad 0 t15 fun t80 =>
  ldN 32 t80 w.heap fun t81 =>
  ldN 32 t12 w.heap fun t82 =>
  rdP P (eqS BinOp.neq T_api_ID (Operand.tmp 81) (Operand.tmp 82) t81 t82) w fun t83 =>
  k4 t83 w)
  (k4 undef w)) fun _ t83_1 w =>
  pik t78 (Value.bool true) t83_1 fun t84 =>
  jn1 (fun k5 =>
  gif t84 false
  (fad 32 t15 fun t86 =>
  ld1 t86 w.heap fun t87 =>
  bi BinOp.sub t87 t39 fun t89 =>
  bi BinOp.add t66 (Value.int IntKind.i64 1) fun t91 =>
  bi BinOp.neq t89 t91 fun t92 =>
  k5 t92 w)
  (k5 undef w)) fun _ t92_1 w =>
  pik t84 (Value.bool true) t92_1 fun t93 =>
  cnd t93
  (R (Value.bool false) w)
  (ldN 32 t14 w.heap fun t94 =>
  stN 32 t12 t94 w fun w =>
  bi BinOp.add t66 (Value.int IntKind.i64 1) fun t95 =>
  again3 t95 w))
  (lenS t32 fun t97 =>
  lp1 (Value.int IntKind.i64 0) w fun _ t98 w again6 =>
  bi BinOp.lss t98 t97 fun t99 =>
  cnd t99
  (ixs 32 t32 t98 fun t100 =>
  ldN 32 t100 w.heap fun t101 =>
  efP P (Instr.alloc T_api_ID true (.tuple #[])) w fun t18 w =>
  stN 32 t18 t101 w fun w =>
  drH w fun S w =>
  rdS S (fun w => ldN 32 t10 w.heap) fun t103 =>
  rdS S (fun w => ldN 32 t18 w.heap) fun t104 =>
  rdS S (fun w => ldN 32 t18 w.heap) fun t106 =>
  rdS S (fun w => ldN 32 t7 w.heap) fun t107 =>
  rdS S (rdP P (eqS BinOp.eql T_api_ID (Operand.tmp 106) (Operand.tmp 107) t106 t107)) fun t108 =>
  efS S (cal P f_tree_Tree_Within [t31, t103, t104]) w fun t105 w =>
  jn1 (fun k7 =>
  gif t108 false
  (rdS S (fun w => ldN 32 t18 w.heap) fun t111 =>
  efS S (cal P f_slices_Contains_api_ID_api_ID [t49, t111]) w fun t112 w =>
  k7 t112 w)
  (k7 undef w)) fun _ t112_1 w =>
  pik t108 (Value.bool true) t112_1 fun t113 =>
  rdS S (rdP P (eqS BinOp.neq T_bool (Operand.tmp 105) (Operand.tmp 113) t105 t113)) fun t114 =>
  cnd t114
  (R (Value.bool false) w)
  (bi BinOp.add t98 (Value.int IntKind.i64 1) fun t115 =>
  again6 t115 w))
  (bi BinOp.add t43 (Value.int IntKind.i64 1) fun t116 =>
  again1 t116 w))))
  (ldN 32 t7 w.heap fun t118 =>
  cal P f_tree_Tree_Path [t31, t118] w fun t119 w =>
  lenS t119 fun t120 =>
  bi BinOp.eql t120 (Value.int IntKind.i64 0) fun t121 =>
  jn1 (fun k8 =>
  gif t121 true
  (ldN 32 t7 w.heap fun t124 =>
  ldN 32 t7 w.heap fun t125 =>
  cal P f_tree_Tree_Within [t31, t124, t125] w fun t126 w =>
  k8 t126 w)
  (k8 undef w)) fun _ t126_1 w =>
  pik t121 t126_1 (Value.bool false) fun t127 =>
  R t127 w)))
theorem e_law11_TreePaths (t0 t1 : Value) (w : World) (R : Value → World → Prop) : intp P A_law11_TreePaths (bodyOf Tryd.f3) (ini [t0, t1]) w (retK P Tryd.f3.results.toList R) (fun _ _ _ => False) (retK P Tryd.f3.results.toList R) = c_law11_TreePaths t0 t1 w R := by kernel_rfl
theorem k_law11_TreePaths : chk P Tryd.f3.ntmps A_law11_TreePaths (bodyOf Tryd.f3) = true := by kernel_rfl
theorem l_law11_TreePaths {t0 t1 : Value} {w : World} {R : Value → World → Prop} (h : c_law11_TreePaths t0 t1 w R) : cal P f_law11_TreePaths [t0, t1] w R :=
  calls_of mixed Tryd.func3 rfl (by kernel_rfl) k_law11_TreePaths (Eq.mpr (e_law11_TreePaths t0 t1 w R) h)
theorem s_law11_TreePaths {t0 t1 : Value} {w : World} {Q : Value → World → Prop} (h : ∀ R : Value → World → Prop, (∀ v w', Q v w' → R v w') → c_law11_TreePaths t0 t1 w R) : cal P f_law11_TreePaths [t0, t1] w Q := l_law11_TreePaths (h Q fun _ _ h => h)

/-- flurry/flurrylaw11.TreeKeeps -/
def A_law11_TreeKeeps : An := (An.s (An.r []) (An.s (An.s (An.r [[32]]) (An.s (An.s (An.r []) An.o) An.o)) (An.s (An.r []) (An.s (An.s (An.r [[49]]) (An.s (An.s (An.r []) An.o) An.o)) (An.s (An.dt (Pl.step 0 (Pl.step 1 (Pl.step 3 (Pl.step 4 (Pl.br (Pl.alt 2 (Pl.step 6 (Pl.step 5 (Pl.step 7 Pl.nil))) (Pl.alt 5 (Pl.step 2 (Pl.step 6 (Pl.step 7 Pl.nil))) Pl.non))))))) [] [9, 10]) (An.s (An.r []) (An.s (An.s (An.r []) (An.b (An.l [9, 10, 62] (An.s (An.r []) (An.s (An.s An.o An.o) (An.s (An.j [9, 10] (An.b (An.s (An.r []) (An.s (An.r []) (An.s (An.r []) (An.s (An.s (An.r []) (An.s An.o An.o)) (An.s (An.s (An.r []) (An.s (An.r []) (An.s (An.s (An.r []) An.o) An.o))) (An.s (An.dt (Pl.step 0 (Pl.step 1 (Pl.step 4 (Pl.step 5 (Pl.step 6 (Pl.br (Pl.alt 2 (Pl.br (Pl.alt 3 (Pl.step 7 (Pl.step 8 (Pl.step 9 (Pl.step 10 Pl.nil)))) (Pl.alt 7 (Pl.step 3 (Pl.step 8 (Pl.step 9 (Pl.step 10 Pl.nil)))) Pl.non))) (Pl.alt 7 (Pl.step 2 (Pl.step 3 (Pl.step 8 (Pl.step 9 (Pl.step 10 Pl.nil))))) Pl.non)))))))) [8] [9, 10]) (An.r []))))))))) (An.r []))))))) (An.s (An.r []) (An.s (An.r []) (An.s (An.s (An.r []) (An.b (An.l [120] (An.s (An.r []) (An.s (An.s An.o An.o) (An.s (An.j [] (An.b (An.s (An.r []) (An.s (An.r []) (An.s (An.s (An.r [[136]]) (An.s (An.s (An.s (An.r []) (An.s (An.s (An.r []) An.o) An.o)) An.o) An.o)) (An.s (An.d [0, 1, 2, 3, 4, 5, 6, 7, 8, 9] [[148]]) (An.s (An.s (An.r []) An.o) An.o))))))) (An.r []))))))) (An.s (An.r []) An.o)))))))))))
def c_law11_TreeKeeps (t0 t1 t2 : Value) (w : World) (R : Value → World → Prop) : Prop :=
  bx T_flurrylaw11_Start t0 w fun t3 w =>
  cal P f_law11_live [] w fun t27 w =>
  notB t27 fun t28 =>
  jn1 (fun k0 =>
  gif t28 false
  (cal P f_law11_few [t1] w fun t31 w =>
  notB t31 fun t32 =>
  k0 t32 w)
  (k0 undef w)) fun _ t32_1 w =>
  pik t28 (Value.bool true) t32_1 fun t33 =>
  cnd t33
  (cal P f_law11_live [] w fun t34 w =>
  R t34 w)
  (fad 0 t3 fun t36 =>
  ldN 32 t36 w.heap fun t37 =>
  fad 32 t3 fun t38 =>
  ld1 t38 w.heap fun t39 =>
  fad 33 t3 fun t40 =>
  ld1 t40 w.heap fun t41 =>
  cal P f_tree_New [t37, t39, t41] w fun t42 w =>
  ext 0 t42 fun t43 =>
  ext 1 t42 fun t44 =>
  bi BinOp.neq t44 (Value.int IntKind.i64 0) fun t46 =>
  jn1 (fun k1 =>
  gif t46 false
  (nilP false t43 fun t49 =>
  k1 t49 w)
  (k1 undef w)) fun _ t49_1 w =>
  pik t46 (Value.bool true) t49_1 fun t50 =>
  cnd t50
  (nilP false t43 fun t52 =>
  R t52 w)
  (drH w fun S w =>
  jn2 (fun k2 =>
  fad 0 t3 fun t53 =>
  rdS S (fun w => ldN 32 t53 w.heap) fun t54 =>
  fad 32 t3 fun t56 =>
  rdS S (fun w => ld1 t56 w.heap) fun t57 =>
  (efS S (efP P (Instr.buildSlice T_sl_api_ID 1 #[(0, t54)])) w fun t55_1 w =>
  efS S (efP P (Instr.buildSlice T_sl_int64 1 #[(0, t57)])) w fun t58_1 w =>
  k2 t55_1 t58_1 w) ∧
  ((efS S (efP P (Instr.buildSlice T_sl_int64 1 #[(0, t57)])) w fun t58 w =>
  efS S (efP P (Instr.buildSlice T_sl_api_ID 1 #[(0, t54)])) w fun t55 w =>
  k2 t55 t58 w) ∧
  (True))) fun _ t9 t10 w =>
  efP P (Instr.makeMap T_map_api_ID_api_Block none) w fun t59 w =>
  lenS t1 fun t61 =>
  lp3 t9 t10 (Value.int IntKind.i64 0) w fun _ t9_1 t10_1 t62 w again3 =>
  bi BinOp.lss t62 t61 fun t63 =>
  cnd t63
  (jn2 (fun k4 =>
  ixs 37 t1 t62 fun t64 =>
  ldN 37 t64 w.heap fun t65 =>
  efP P (Instr.alloc T_flurrylaw11_Grow true (.tuple #[])) w fun t13 w =>
  stN 37 t13 t65 w fun w =>
  ldN 34 t3 w.heap fun t66 =>
  ldN 37 t13 w.heap fun t67 =>
  cal P f_law11_block [t66, t67, t9_1, t10_1] w fun t70 w =>
  efP P (Instr.alloc T_api_Block true (.tuple #[])) w fun t14 w =>
  stN 34 t14 t70 w fun w =>
  ldN 34 t14 w.heap fun t73 =>
  cal P f_tree_Tree_Add [t43, t73] w fun t74 w =>
  ext 0 t74 fun t75 =>
  ext 1 t74 fun t76 =>
  efP P (Instr.alloc T_api_ID true (.tuple #[])) w fun t15 w =>
  stN 32 t15 t75 w fun w =>
  bi BinOp.neq t76 (Value.int IntKind.i64 0) fun t78 =>
  cnd t78
  (k4 t9_1 t10_1 w)
  (ldN 32 t15 w.heap fun t81 =>
  rdP P (Instr.lookup T_map_api_ID_api_Block t59 t81 true) w fun t82 =>
  ext 0 t82 fun t83 =>
  ext 1 t82 fun t84 =>
  efP P (Instr.alloc T_api_Block true (.tuple #[])) w fun t17 w =>
  stN 34 t17 t83 w fun w =>
  cnd t84
  (R (Value.bool false) w)
  (drH w fun S w =>
  jn2 (fun k5 =>
  rdS S (fun w => ldN 32 t15 w.heap) fun t87 =>
  fad 32 t14 fun t91 =>
  rdS S (fun w => ld1 t91 w.heap) fun t92 =>
  (efS S (efP P (Instr.buildSlice T_sl_api_ID 1 #[(0, t87)])) w fun t88_1 w =>
  (efS S (efP P (Builtin.append_ #[T_sl_api_ID, T_sl_api_ID] T_sl_api_ID #[t9_1, t88_1])) w fun t89_2 w =>
  efS S (efP P (Instr.buildSlice T_sl_int64 1 #[(0, t92)])) w fun t93_2 w =>
  efC (efP P (Builtin.append_ #[T_sl_int64, T_sl_int64] T_sl_int64 #[t10_1, t93_2])) w fun S t94_2 w =>
  k5 t89_2 t94_2 w) ∧
  ((efS S (efP P (Instr.buildSlice T_sl_int64 1 #[(0, t92)])) w fun t93_1 w =>
  efS S (efP P (Builtin.append_ #[T_sl_api_ID, T_sl_api_ID] T_sl_api_ID #[t9_1, t88_1])) w fun t89_1 w =>
  efC (efP P (Builtin.append_ #[T_sl_int64, T_sl_int64] T_sl_int64 #[t10_1, t93_1])) w fun S t94_1 w =>
  k5 t89_1 t94_1 w) ∧
  (True))) ∧
  ((efS S (efP P (Instr.buildSlice T_sl_int64 1 #[(0, t92)])) w fun t93 w =>
  efS S (efP P (Instr.buildSlice T_sl_api_ID 1 #[(0, t87)])) w fun t88 w =>
  efS S (efP P (Builtin.append_ #[T_sl_api_ID, T_sl_api_ID] T_sl_api_ID #[t9_1, t88])) w fun t89 w =>
  efC (efP P (Builtin.append_ #[T_sl_int64, T_sl_int64] T_sl_int64 #[t10_1, t93])) w fun S t94 w =>
  k5 t89 t94 w) ∧
  (True))) fun _ t9_2 t10_2 w =>
  ldN 32 t15 w.heap fun t96 =>
  ldN 34 t14 w.heap fun t97 =>
  efU P (Instr.mapUpdate T_map_api_ID_api_Block t59 t96 t97) w fun w =>
  k4 t9_2 t10_2 w))) fun _ t9_3 t10_3 w =>
  bi BinOp.add t62 (Value.int IntKind.i64 1) fun t98 =>
  again3 t9_3 t10_3 t98 w)
  (cvi IntKind.i64 t2 fun t103 =>
  lenS t9_1 fun t105 =>
  bi BinOp.rem t103 t105 fun t106 =>
  ixs 32 t9_1 t106 fun t107 =>
  ldN 32 t107 w.heap fun t108 =>
  cal P f_tree_Tree_Move [t43, t108] w fun t109 w =>
  ext 0 t109 fun t110 =>
  ext 1 t109 fun t111 =>
  cal P f_tree_Tree_Root [t43] w fun t114 w =>
  ext 0 t114 fun t115 =>
  ext 1 t114 fun t116 =>
  efP P (Instr.alloc T_api_ID true (.tuple #[])) w fun t21 w =>
  stN 32 t21 t115 w fun w =>
  slc 32 t9_1 (some (Value.int IntKind.i64 1)) none fun t118 =>
  lenS t118 fun t119 =>
  lp1 (Value.int IntKind.i64 0) w fun _ t120 w again6 =>
  bi BinOp.lss t120 t119 fun t121 =>
  cnd t121
  (jn0 (fun k7 =>
  ixs 32 t118 t120 fun t122 =>
  ldN 32 t122 w.heap fun t123 =>
  efP P (Instr.alloc T_api_ID true (.tuple #[])) w fun t24 w =>
  stN 32 t24 t123 w fun w =>
  ldN 32 t24 w.heap fun t126 =>
  cal P f_tree_Tree_Get [t43, t126] w fun t127 w =>
  ext 0 t127 fun t128 =>
  ext 1 t127 fun t129 =>
  efP P (Instr.alloc T_api_Block true (.tuple #[])) w fun t25 w =>
  stN 34 t25 t128 w fun w =>
  ldN 32 t24 w.heap fun t130 =>
  ldN 32 t21 w.heap fun t131 =>
  rdP P (eqS BinOp.eql T_api_ID (Operand.tmp 130) (Operand.tmp 131) t130 t131) w fun t132 =>
  jn1 (fun k8 =>
  gif t132 false
  (ldN 32 t24 w.heap fun t135 =>
  cal P f_slices_Contains_api_ID_api_ID [t110, t135] w fun t136 w =>
  k8 t136 w)
  (k8 undef w)) fun _ t136_1 w =>
  pik t132 (Value.bool true) t136_1 fun t137 =>
  cnd t137
  (bi BinOp.neq t129 (Value.int IntKind.i64 4) fun t139 =>
  cnd t139
  (R (Value.bool false) w)
  (k7 w))
  (drH w fun S w =>
  bi BinOp.neq t129 (Value.int IntKind.i64 0) fun t141 =>
  jn1 (fun k9 =>
  gif t141 false
  (rdS S (fun w => ldN 34 t25 w.heap) fun t143 =>
  rdS S (fun w => ldN 32 t24 w.heap) fun t145 =>
  rdS S (rdP P (Instr.lookup T_map_api_ID_api_Block t59 t145 false)) fun t146 =>
  efS S (cal P f_ref03_Same [t143, t146]) w fun t147 w =>
  notB t147 fun t148 =>
  k9 t148 w)
  (k9 undef w)) fun _ t148_1 w =>
  pik t141 (Value.bool true) t148_1 fun t149 =>
  cnd t149
  (R (Value.bool false) w)
  (k7 w))) fun _ w =>
  bi BinOp.add t120 (Value.int IntKind.i64 1) fun t150 =>
  again6 t150 w)
  (R (Value.bool true) w))))
theorem e_law11_TreeKeeps (t0 t1 t2 : Value) (w : World) (R : Value → World → Prop) : intp P A_law11_TreeKeeps (bodyOf Tryd.f4) (ini [t0, t1, t2]) w (retK P Tryd.f4.results.toList R) (fun _ _ _ => False) (retK P Tryd.f4.results.toList R) = c_law11_TreeKeeps t0 t1 t2 w R := by kernel_rfl
theorem k_law11_TreeKeeps : chk P Tryd.f4.ntmps A_law11_TreeKeeps (bodyOf Tryd.f4) = true := by kernel_rfl
theorem l_law11_TreeKeeps {t0 t1 t2 : Value} {w : World} {R : Value → World → Prop} (h : c_law11_TreeKeeps t0 t1 t2 w R) : cal P f_law11_TreeKeeps [t0, t1, t2] w R :=
  calls_of mixed Tryd.func4 rfl (by kernel_rfl) k_law11_TreeKeeps (Eq.mpr (e_law11_TreeKeeps t0 t1 t2 w R) h)
theorem s_law11_TreeKeeps {t0 t1 t2 : Value} {w : World} {Q : Value → World → Prop} (h : ∀ R : Value → World → Prop, (∀ v w', Q v w' → R v w') → c_law11_TreeKeeps t0 t1 t2 w R) : cal P f_law11_TreeKeeps [t0, t1, t2] w Q := l_law11_TreeKeeps (h Q fun _ _ h => h)

/-- flurry/flurrylaw11.TreeGrows -/
def A_law11_TreeGrows : An := (An.s (An.r []) (An.s (An.s (An.r [[14]]) (An.s (An.s (An.r []) An.o) An.o)) (An.s (An.r []) (An.s (An.s (An.r [[27]]) (An.s (An.s (An.r []) An.o) An.o)) (An.s (An.r [[37]]) An.o)))))
def c_law11_TreeGrows (t0 t1 t2 : Value) (w : World) (R : Value → World → Prop) : Prop :=
  bx T_flurrylaw11_Start t0 w fun t3 w =>
  bx T_api_ID t2 w fun t5 w =>
  cal P f_law11_live [] w fun t9 w =>
  notB t9 fun t10 =>
  jn1 (fun k0 =>
  gif t10 false
  (cal P f_law11_few [t1] w fun t13 w =>
  notB t13 fun t14 =>
  k0 t14 w)
  (k0 undef w)) fun _ t14_1 w =>
  pik t10 (Value.bool true) t14_1 fun t15 =>
  cnd t15
  (cal P f_law11_live [] w fun t16 w =>
  R t16 w)
  (ldN 34 t3 w.heap fun t18 =>
  cal P f_law11_made [t18, t1] w fun t20 w =>
  ext 0 t20 fun t21 =>
  ext 1 t20 fun t22 =>
  notB t22 fun t24 =>
  jn1 (fun k1 =>
  gif t24 false
  (nilP false t21 fun t27 =>
  k1 t27 w)
  (k1 undef w)) fun _ t27_1 w =>
  pik t24 (Value.bool true) t27_1 fun t28 =>
  cnd t28
  (R t22 w)
  (ldN 32 t5 w.heap fun t31 =>
  cal P f_law11_both_whole [t21, t31] w fun t32 w =>
  jn1 (fun k2 =>
  gif t32 true
  (fad 0 t3 fun t35 =>
  ldN 32 t35 w.heap fun t36 =>
  cal P f_law11_both_whole [t21, t36] w fun t37 w =>
  k2 t37 w)
  (k2 undef w)) fun _ t37_1 w =>
  pik t32 t37_1 (Value.bool false) fun t38 =>
  R t38 w))
theorem e_law11_TreeGrows (t0 t1 t2 : Value) (w : World) (R : Value → World → Prop) : intp P A_law11_TreeGrows (bodyOf Tryd.f5) (ini [t0, t1, t2]) w (retK P Tryd.f5.results.toList R) (fun _ _ _ => False) (retK P Tryd.f5.results.toList R) = c_law11_TreeGrows t0 t1 t2 w R := by kernel_rfl
theorem k_law11_TreeGrows : chk P Tryd.f5.ntmps A_law11_TreeGrows (bodyOf Tryd.f5) = true := by kernel_rfl
theorem l_law11_TreeGrows {t0 t1 t2 : Value} {w : World} {R : Value → World → Prop} (h : c_law11_TreeGrows t0 t1 t2 w R) : cal P f_law11_TreeGrows [t0, t1, t2] w R :=
  calls_of mixed Tryd.func5 rfl (by kernel_rfl) k_law11_TreeGrows (Eq.mpr (e_law11_TreeGrows t0 t1 t2 w R) h)
theorem s_law11_TreeGrows {t0 t1 t2 : Value} {w : World} {Q : Value → World → Prop} (h : ∀ R : Value → World → Prop, (∀ v w', Q v w' → R v w') → c_law11_TreeGrows t0 t1 t2 w R) : cal P f_law11_TreeGrows [t0, t1, t2] w Q := l_law11_TreeGrows (h Q fun _ _ h => h)

/-- flurry/flurrylaw11.TreeParts -/
def A_law11_TreeParts : An := (An.s (An.r []) (An.s (An.s (An.r [[31]]) (An.s (An.s (An.r []) An.o) An.o)) (An.s (An.r []) (An.s (An.s (An.r []) (An.s (An.s (An.r []) An.o) An.o)) (An.s (An.r []) (An.s (An.r []) (An.s (An.s (An.r []) (An.b (An.l [48] (An.s (An.r []) (An.s (An.s An.o An.o) (An.s (An.b (An.s (An.r []) (An.s (An.r []) (An.b (An.l [57] (An.s (An.r []) (An.s (An.s An.o An.o) (An.s (An.b (An.s (An.r []) (An.dc [0, 1, 2, 3, 4, 5, 6] [6] []))) (An.r []))))))))) (An.r []))))))) (An.s (An.s (An.r [[79], [87]]) (An.s (An.s (An.r []) An.o) An.o)) (An.s (An.s (An.r []) (An.b (An.l [91] (An.s (An.r []) (An.s (An.s An.o An.o) (An.s (An.b (An.s (An.r []) (An.s (An.r []) (An.s (An.s (An.r []) An.o) An.o)))) (An.r []))))))) (An.s (An.r []) (An.s (An.r []) (An.s (An.r []) (An.s (An.s (An.r []) (An.s (An.s (An.r [[124], [131]]) An.o) An.o)) (An.s (An.r []) (An.s (An.s (An.r [[151]]) (An.s (An.s (An.r []) An.o) An.o)) (An.s (An.s (An.r []) (An.b (An.l [155] (An.s (An.r []) (An.s (An.s An.o An.o) (An.s (An.b (An.s (An.r []) (An.s (An.r [[166]]) (An.s (An.s (An.r []) An.o) An.o)))) (An.r []))))))) (An.s (An.r []) (An.s (An.r []) An.o))))))))))))))))))
def c_law11_TreeParts (t0 t1 t2 : Value) (w : World) (R : Value → World → Prop) : Prop :=
  bx T_flurrylaw11_Start t0 w fun t3 w =>
  cal P f_law11_live [] w fun t26 w =>
  notB t26 fun t27 =>
  jn1 (fun k0 =>
  gif t27 false
  (cal P f_law11_few [t1] w fun t30 w =>
  notB t30 fun t31 =>
  k0 t31 w)
  (k0 undef w)) fun _ t31_1 w =>
  pik t27 (Value.bool true) t31_1 fun t32 =>
  cnd t32
  (cal P f_law11_live [] w fun t33 w =>
  R t33 w)
  (ldN 34 t3 w.heap fun t35 =>
  cal P f_law11_grown [t35, t1] w fun t37 w =>
  ext 0 t37 fun t38 =>
  ext 1 t37 fun t39 =>
  nilP false t38 fun t41 =>
  cnd t41
  (R (Value.bool true) w)
  (cal P f_tree_Tree_All [t38] w fun t43 w =>
  cal P f_law11_told [t43, (Value.int IntKind.i64 1048576)] w fun t44 w =>
  efP P (Instr.makeMap T_map_api_ID_int none) w fun t45 w =>
  lenS t39 fun t47 =>
  lp1 (Value.int IntKind.i64 0) w fun _ t48 w again1 =>
  bi BinOp.lss t48 t47 fun t49 =>
  cnd t49
  (ixs 32 t39 t48 fun t50 =>
  ldN 32 t50 w.heap fun t51 =>
  efP P (Instr.alloc T_api_ID true (.tuple #[])) w fun t12 w =>
  stN 32 t12 t51 w fun w =>
  ldN 32 t12 w.heap fun t53 =>
  cal P f_tree_Tree_Kids [t38, t53] w fun t54 w =>
  cal P f_law11_told [t54, (Value.int IntKind.i64 1048576)] w fun t55 w =>
  lenS t55 fun t56 =>
  lp1 (Value.int IntKind.i64 0) w fun _ t57 w again2 =>
  bi BinOp.lss t57 t56 fun t58 =>
  cnd t58
  (ixs 32 t55 t57 fun t59 =>
  ldN 32 t59 w.heap fun t60 =>
  efP P (Instr.alloc T_api_ID true (.tuple #[])) w fun t14 w =>
  stN 32 t14 t60 w fun w =>
  drH w fun S w =>
  rdS S (fun w => ldN 32 t14 w.heap) fun t62 =>
  rdS S (rdP P (Instr.lookup T_map_api_ID_int t45 t62 false)) fun t63 =>
  bi BinOp.add t63 (Value.int IntKind.i64 1) fun t64 =>
  efS S (efP P (Instr.mapEntry T_map_api_ID_int t45 t62)) w fun t65 w =>
  ext 1 t65 fun t66 =>
  efC (fun w K => efU P (Instr.entryStore T_map_api_ID_int t45 t66 t64) w (K undef)) w fun S _ w =>
  bi BinOp.add t57 (Value.int IntKind.i64 1) fun t67 =>
  again2 t67 w)
  (bi BinOp.add t48 (Value.int IntKind.i64 1) fun t68 =>
  again1 t68 w))
  (rdP P (Builtin.len_ #[T_map_api_ID_int] T_int #[t45]) w fun t70 =>
  lenS t44 fun t72 =>
  bi BinOp.neq t70 t72 fun t73 =>
  jn1 (fun k3 =>
  gif t73 false
  (lenS t44 fun t76 =>
  cal P f_tree_Tree_Len [t38] w fun t78 w =>
  bi BinOp.neq t76 t78 fun t79 =>
  k3 t79 w)
  (k3 undef w)) fun _ t79_1 w =>
  pik t73 (Value.bool true) t79_1 fun t80 =>
  jn1 (fun k4 =>
  gif t80 false
  (lenS t44 fun t83 =>
  lenS t39 fun t85 =>
  bi BinOp.sub t85 (Value.int IntKind.i64 1) fun t86 =>
  bi BinOp.neq t83 t86 fun t87 =>
  k4 t87 w)
  (k4 undef w)) fun _ t87_1 w =>
  pik t80 (Value.bool true) t87_1 fun t88 =>
  cnd t88
  (R (Value.bool false) w)
  (lenS t44 fun t90 =>
  lp1 (Value.int IntKind.i64 0) w fun _ t91 w again5 =>
  bi BinOp.lss t91 t90 fun t92 =>
  cnd t92
  (ixs 32 t44 t91 fun t93 =>
  ldN 32 t93 w.heap fun t94 =>
  efP P (Instr.alloc T_api_ID true (.tuple #[])) w fun t16 w =>
  stN 32 t16 t94 w fun w =>
  ldN 32 t16 w.heap fun t96 =>
  rdP P (Instr.lookup T_map_api_ID_int t45 t96 false) w fun t97 =>
  bi BinOp.neq t97 (Value.int IntKind.i64 1) fun t98 =>
  cnd t98
  (R (Value.bool false) w)
  (bi BinOp.add t91 (Value.int IntKind.i64 1) fun t99 =>
  again5 t99 w))
  (cvi IntKind.i64 t2 fun t102 =>
  lenS t39 fun t104 =>
  bi BinOp.rem t102 t104 fun t105 =>
  ixs 32 t39 t105 fun t106 =>
  ldN 32 t106 w.heap fun t107 =>
  efP P (Instr.alloc T_api_ID true (.tuple #[])) w fun t17 w =>
  stN 32 t17 t107 w fun w =>
  ldN 32 t17 w.heap fun t109 =>
  cal P f_tree_Tree_Under [t38, t109] w fun t110 w =>
  ldN 32 t17 w.heap fun t113 =>
  cal P f_tree_Tree_Move [t38, t113] w fun t114 w =>
  ext 0 t114 fun t115 =>
  ext 1 t114 fun t116 =>
  bi BinOp.neq t116 (Value.int IntKind.i64 0) fun t118 =>
  cnd t118
  (bi BinOp.eql t116 (Value.int IntKind.i64 4) fun t120 =>
  jn1 (fun k6 =>
  gif t120 true
  (lenS t115 fun t123 =>
  bi BinOp.eql t123 (Value.int IntKind.i64 0) fun t124 =>
  k6 t124 w)
  (k6 undef w)) fun _ t124_1 w =>
  pik t120 t124_1 (Value.bool false) fun t125 =>
  jn1 (fun k7 =>
  gif t125 true
  (cal P f_tree_Tree_Len [t38] w fun t128 w =>
  lenS t44 fun t130 =>
  bi BinOp.eql t128 t130 fun t131 =>
  k7 t131 w)
  (k7 undef w)) fun _ t131_1 w =>
  pik t125 t131_1 (Value.bool false) fun t132 =>
  R t132 w)
  (cal P f_tree_Tree_All [t38] w fun t134 w =>
  cal P f_law11_told [t134, (Value.int IntKind.i64 1048576)] w fun t135 w =>
  lenS t135 fun t137 =>
  lenS t115 fun t139 =>
  bi BinOp.add t137 t139 fun t140 =>
  bi BinOp.add t140 (Value.int IntKind.i64 1) fun t141 =>
  lenS t44 fun t143 =>
  bi BinOp.neq t141 t143 fun t144 =>
  jn1 (fun k8 =>
  gif t144 false
  (lenS t110 fun t147 =>
  lenS t135 fun t149 =>
  bi BinOp.add t149 (Value.int IntKind.i64 1) fun t150 =>
  bi BinOp.neq t147 t150 fun t151 =>
  k8 t151 w)
  (k8 undef w)) fun _ t151_1 w =>
  pik t144 (Value.bool true) t151_1 fun t152 =>
  cnd t152
  (R (Value.bool false) w)
  (lenS t135 fun t154 =>
  lp1 (Value.int IntKind.i64 0) w fun _ t155 w again9 =>
  bi BinOp.lss t155 t154 fun t156 =>
  cnd t156
  (ixs 32 t135 t155 fun t157 =>
  ldN 32 t157 w.heap fun t158 =>
  efP P (Instr.alloc T_api_ID true (.tuple #[])) w fun t23 w =>
  stN 32 t23 t158 w fun w =>
  ldN 32 t23 w.heap fun t160 =>
  cal P f_slices_Contains_api_ID_api_ID [t110, t160] w fun t161 w =>
  notB t161 fun t162 =>
  jn1 (fun k10 =>
  gif t162 false
  (ldN 32 t23 w.heap fun t165 =>
  cal P f_slices_Contains_api_ID_api_ID [t115, t165] w fun t166 w =>
  k10 t166 w)
  (k10 undef w)) fun _ t166_1 w =>
  pik t162 (Value.bool true) t166_1 fun t167 =>
  cnd t167
  (R (Value.bool false) w)
  (bi BinOp.add t155 (Value.int IntKind.i64 1) fun t168 =>
  again9 t168 w))
  (cal P f_tree_Tree_Root [t38] w fun t171 w =>
  ext 0 t171 fun t172 =>
  ext 1 t171 fun t173 =>
  efP P (Instr.alloc T_api_ID true (.tuple #[])) w fun t24 w =>
  stN 32 t24 t172 w fun w =>
  ldN 32 t24 w.heap fun t174 =>
  ldN 32 t17 w.heap fun t175 =>
  rdP P (eqS BinOp.eql T_api_ID (Operand.tmp 174) (Operand.tmp 175) t174 t175) w fun t176 =>
  R t176 w))))))))
theorem e_law11_TreeParts (t0 t1 t2 : Value) (w : World) (R : Value → World → Prop) : intp P A_law11_TreeParts (bodyOf Tryd.f6) (ini [t0, t1, t2]) w (retK P Tryd.f6.results.toList R) (fun _ _ _ => False) (retK P Tryd.f6.results.toList R) = c_law11_TreeParts t0 t1 t2 w R := by kernel_rfl
theorem k_law11_TreeParts : chk P Tryd.f6.ntmps A_law11_TreeParts (bodyOf Tryd.f6) = true := by kernel_rfl
theorem l_law11_TreeParts {t0 t1 t2 : Value} {w : World} {R : Value → World → Prop} (h : c_law11_TreeParts t0 t1 t2 w R) : cal P f_law11_TreeParts [t0, t1, t2] w R :=
  calls_of mixed Tryd.func6 rfl (by kernel_rfl) k_law11_TreeParts (Eq.mpr (e_law11_TreeParts t0 t1 t2 w R) h)
theorem s_law11_TreeParts {t0 t1 t2 : Value} {w : World} {Q : Value → World → Prop} (h : ∀ R : Value → World → Prop, (∀ v w', Q v w' → R v w') → c_law11_TreeParts t0 t1 t2 w R) : cal P f_law11_TreeParts [t0, t1, t2] w Q := l_law11_TreeParts (h Q fun _ _ h => h)

/-- flurry/flurrylaw11.TreeMoves -/
def A_law11_TreeMoves : An := (An.s (An.r []) (An.s (An.s (An.r [[23], [28]]) (An.s (An.s (An.r []) An.o) An.o)) (An.s (An.r []) (An.s (An.s (An.r [[41]]) (An.s (An.s (An.r []) An.o) An.o)) (An.s (An.dc [0, 1, 2, 3, 5, 6, 7, 8, 10, 11, 12, 13, 4, 9, 14, 15, 16] [15] []) (An.s (An.s (An.r []) (An.b (An.l [62] (An.s (An.r []) (An.s (An.s An.o An.o) (An.s (An.b (An.s (An.r []) (An.s (An.dc [0, 1, 2, 3, 4, 5, 6, 7, 8, 9, 10, 11, 12, 13, 14, 15] [15] []) (An.s (An.j [] (An.s (An.r []) (An.s (An.r []) An.o))) (An.s (An.dc [0, 1, 2, 3, 4, 5, 6, 7, 8, 9, 10] [5] []) (An.s (An.dc [0, 1, 2, 3, 4, 5, 6, 7, 8, 9, 10] [5] []) (An.s (An.s (An.r [[109], [115]]) (An.s (An.s (An.r []) An.o) An.o)) (An.s (An.r []) (An.b (An.l [119] (An.s (An.r []) (An.s (An.s An.o An.o) (An.s (An.b (An.s (An.r []) (An.dc [0, 1, 2, 3, 4, 5, 6, 7, 8] [8] []))) (An.r [])))))))))))))) (An.r []))))))) (An.s (An.r [[140]]) An.o)))))))
def c_law11_TreeMoves (t0 t1 t2 : Value) (w : World) (R : Value → World → Prop) : Prop :=
  bx T_flurrylaw11_Start t0 w fun t3 w =>
  cal P f_law11_live [] w fun t18 w =>
  notB t18 fun t19 =>
  jn1 (fun k0 =>
  gif t19 false
  (cal P f_law11_few [t1] w fun t22 w =>
  notB t22 fun t23 =>
  k0 t23 w)
  (k0 undef w)) fun _ t23_1 w =>
  pik t19 (Value.bool true) t23_1 fun t24 =>
  jn1 (fun k1 =>
  gif t24 false
  (lenS t2 fun t27 =>
  bi BinOp.gtr t27 (Value.int IntKind.i64 12) fun t28 =>
  k1 t28 w)
  (k1 undef w)) fun _ t28_1 w =>
  pik t24 (Value.bool true) t28_1 fun t29 =>
  cnd t29
  (cal P f_law11_live [] w fun t30 w =>
  R t30 w)
  (ldN 34 t3 w.heap fun t32 =>
  cal P f_law11_made [t32, t1] w fun t34 w =>
  ext 0 t34 fun t35 =>
  ext 1 t34 fun t36 =>
  notB t36 fun t38 =>
  jn1 (fun k2 =>
  gif t38 false
  (nilP false t35 fun t41 =>
  k2 t41 w)
  (k2 undef w)) fun _ t41_1 w =>
  pik t38 (Value.bool true) t41_1 fun t42 =>
  cnd t42
  (R t36 w)
  (drH w fun S w =>
  nilc t35 fun t45 =>
  fad 0 t45 fun t46 =>
  rdS S (fun w => ld1 t46 w.heap) fun t47 =>
  nilc t35 fun t50 =>
  fad 1 t50 fun t51 =>
  rdS S (fun w => ld1 t51 w.heap) fun t52 =>
  nilc t35 fun t55 =>
  fad 2 t55 fun t56 =>
  rdS S (fun w => ld1 t56 w.heap) fun t57 =>
  efS S (cal P f_tree_Tree_Clone [t47]) w fun t48 w =>
  efS S (cal P f_ref11_Tree_Clone [t52]) w fun t53 w =>
  rdS S (rdP P (Instr.build T_flurrylaw11_both #[(0, t48), (1, t53), (2, t57)])) fun t58 =>
  efC (bx T_flurrylaw11_both t58) w fun S t59 w =>
  lenS t2 fun t61 =>
  lp1 (Value.int IntKind.i64 0) w fun _ t62 w again3 =>
  bi BinOp.lss t62 t61 fun t63 =>
  cnd t63
  (ixs 1 t2 t62 fun t64 =>
  ld1 t64 w.heap fun t65 =>
  drH w fun S w =>
  nilc t35 fun t67 =>
  fad 2 t67 fun t68 =>
  rdS S (fun w => ld1 t68 w.heap) fun t69 =>
  cvi IntKind.i64 t65 fun t71 =>
  nilc t35 fun t73 =>
  fad 2 t73 fun t74 =>
  rdS S (fun w => ld1 t74 w.heap) fun t75 =>
  lenS t75 fun t76 =>
  bi BinOp.rem t71 t76 fun t77 =>
  ixs 32 t69 t77 fun t78 =>
  rdS S (fun w => ldN 32 t78 w.heap) fun t79 =>
  efS S (efP P (Instr.alloc T_api_ID true (.tuple #[]))) w fun t12 w =>
  efC (fun w K => stN 32 t12 t79 w (K undef)) w fun S _ w =>
  jn0 (fun k4 =>
  bi BinOp.gtr t65 (Value.int IntKind.u8 200) fun t81 =>
  cnd t81
  (rdP P (Instr.build T_api_ID #[(0, t65)]) w fun t83 =>
  stN 32 t12 t83 w fun w =>
  k4 w)
  (k4 w)) fun _ w =>
  drH w fun S w =>
  nilc t35 fun t86 =>
  fad 0 t86 fun t87 =>
  rdS S (fun w => ld1 t87 w.heap) fun t88 =>
  rdS S (fun w => ldN 32 t12 w.heap) fun t89 =>
  efC (cal P f_tree_Tree_Move [t88, t89]) w fun S t90 w =>
  ext 0 t90 fun t91 =>
  ext 1 t90 fun t92 =>
  drH w fun S w =>
  nilc t35 fun t95 =>
  fad 1 t95 fun t96 =>
  rdS S (fun w => ld1 t96 w.heap) fun t97 =>
  rdS S (fun w => ldN 32 t12 w.heap) fun t98 =>
  efC (cal P f_ref11_Tree_Move [t97, t98]) w fun S t99 w =>
  ext 0 t99 fun t100 =>
  ext 1 t99 fun t101 =>
  cal P f_slices_Equal_api_ID_api_ID [t91, t100] w fun t104 w =>
  notB t104 fun t105 =>
  jn1 (fun k5 =>
  gif t105 false
  (bi BinOp.neq t92 t101 fun t109 =>
  k5 t109 w)
  (k5 undef w)) fun _ t109_1 w =>
  pik t105 (Value.bool true) t109_1 fun t110 =>
  jn1 (fun k6 =>
  gif t110 false
  (ldN 32 t12 w.heap fun t113 =>
  cal P f_law11_both_whole [t35, t113] w fun t114 w =>
  notB t114 fun t115 =>
  k6 t115 w)
  (k6 undef w)) fun _ t115_1 w =>
  pik t110 (Value.bool true) t115_1 fun t116 =>
  cnd t116
  (R (Value.bool false) w)
  (lenS t91 fun t118 =>
  lp1 (Value.int IntKind.i64 0) w fun _ t119 w again7 =>
  bi BinOp.lss t119 t118 fun t120 =>
  cnd t120
  (drH w fun S w =>
  ixs 32 t91 t119 fun t124 =>
  ixa 32 1 t124 (Value.int IntKind.i64 0) fun t125 =>
  rdS S (fun w => ld1 t125 w.heap) fun t126 =>
  bi BinOp.xor t126 (Value.int IntKind.u8 255) fun t127 =>
  ixs 32 t91 t119 fun t128 =>
  ixa 32 1 t128 (Value.int IntKind.i64 0) fun t129 =>
  efC (fun w K => st1 t129 t127 w (K undef)) w fun S _ w =>
  bi BinOp.add t119 (Value.int IntKind.i64 1) fun t130 =>
  again7 t130 w)
  (bi BinOp.add t62 (Value.int IntKind.i64 1) fun t131 =>
  again3 t131 w)))
  (fad 0 t3 fun t133 =>
  ldN 32 t133 w.heap fun t134 =>
  cal P f_law11_both_whole [t35, t134] w fun t135 w =>
  jn1 (fun k8 =>
  gif t135 true
  (fad 0 t3 fun t138 =>
  ldN 32 t138 w.heap fun t139 =>
  cal P f_law11_both_whole [t59, t139] w fun t140 w =>
  k8 t140 w)
  (k8 undef w)) fun _ t140_1 w =>
  pik t135 t140_1 (Value.bool false) fun t141 =>
  R t141 w)))
theorem e_law11_TreeMoves (t0 t1 t2 : Value) (w : World) (R : Value → World → Prop) : intp P A_law11_TreeMoves (bodyOf Tryd.f7) (ini [t0, t1, t2]) w (retK P Tryd.f7.results.toList R) (fun _ _ _ => False) (retK P Tryd.f7.results.toList R) = c_law11_TreeMoves t0 t1 t2 w R := by kernel_rfl
theorem k_law11_TreeMoves : chk P Tryd.f7.ntmps A_law11_TreeMoves (bodyOf Tryd.f7) = true := by kernel_rfl
theorem l_law11_TreeMoves {t0 t1 t2 : Value} {w : World} {R : Value → World → Prop} (h : c_law11_TreeMoves t0 t1 t2 w R) : cal P f_law11_TreeMoves [t0, t1, t2] w R :=
  calls_of mixed Tryd.func7 rfl (by kernel_rfl) k_law11_TreeMoves (Eq.mpr (e_law11_TreeMoves t0 t1 t2 w R) h)
theorem s_law11_TreeMoves {t0 t1 t2 : Value} {w : World} {Q : Value → World → Prop} (h : ∀ R : Value → World → Prop, (∀ v w', Q v w' → R v w') → c_law11_TreeMoves t0 t1 t2 w R) : cal P f_law11_TreeMoves [t0, t1, t2] w Q := l_law11_TreeMoves (h Q fun _ _ h => h)

/-- flurry/flurrylaw11.TreeNone -/
def A_law11_TreeNone : An := (An.s (An.r []) (An.s (An.s (An.r [[21]]) (An.s (An.s (An.r []) An.o) An.o)) (An.s (An.s (An.r []) (An.b (An.l [28] (An.s (An.r []) (An.s (An.s An.o An.o) (An.s (An.b (An.s (An.r []) (An.s (An.r []) (An.s (An.r []) (An.s (An.r []) (An.s (An.r []) (An.s (An.d [0, 1, 2, 3, 4, 5, 6, 7, 8, 9, 10, 11, 12, 13, 14, 15, 16, 17, 18, 19, 20, 21, 22, 23, 24, 25, 26, 27, 28, 29, 30, 31, 32, 33, 34, 35, 36, 37, 38, 39, 40, 41, 42, 43, 44, 45, 46, 47, 48, 49, 50, 51, 52, 53, 56, 57, 54, 55, 58, 59, 60, 61, 62, 63, 64, 65, 69, 66, 67, 68, 70, 71, 72, 73, 74, 75, 76, 77, 78, 79, 80] [[60], [66], [70], [75], [79], [84], [88], [93], [98], [104], [116], [129], [134]]) (An.s (An.s (An.r []) An.o) An.o)))))))) (An.r []))))))) (An.s (An.r []) An.o))))
def c_law11_TreeNone (t0 t1 : Value) (w : World) (R : Value → World → Prop) : Prop :=
  bx T_api_Block t0 w fun t2 w =>
  bx T_api_ID t1 w fun t3 w =>
  cal P f_law11_live [] w fun t15 w =>
  notB t15 fun t16 =>
  jn1 (fun k0 =>
  gif t16 false
  (fad 33 t2 fun t18 =>
  ld1 t18 w.heap fun t19 =>
  lenS t19 fun t20 =>
  bi BinOp.gtr t20 (Value.int IntKind.i64 1000) fun t21 =>
  k0 t21 w)
  (k0 undef w)) fun _ t21_1 w =>
  pik t16 (Value.bool true) t21_1 fun t22 =>
  cnd t22
  (cal P f_law11_live [] w fun t23 w =>
  R t23 w)
  (rdP P (Instr.build T_tree_Tree #[]) w fun t24 =>
  bx T_tree_Tree t24 w fun t25 w =>
  efP P (Instr.buildSlice T_sl_p_tree_Tree 2 #[(0, (Value.pointer none)), (1, t25)]) w fun t26 w =>
  lenS t26 fun t27 =>
  lp1 (Value.int IntKind.i64 0) w fun _ t28 w again1 =>
  bi BinOp.lss t28 t27 fun t29 =>
  cnd t29
  (ixs 1 t26 t28 fun t30 =>
  ld1 t30 w.heap fun t31 =>
  ldN 34 t2 w.heap fun t34 =>
  cal P f_tree_Tree_Add [t31, t34] w fun t35 w =>
  ext 0 t35 fun t36 =>
  ext 1 t35 fun t37 =>
  efP P (Instr.alloc T_api_ID true (.tuple #[])) w fun t7 w =>
  stN 32 t7 t36 w fun w =>
  ldN 32 t3 w.heap fun t40 =>
  cal P f_tree_Tree_Get [t31, t40] w fun t41 w =>
  ext 0 t41 fun t42 =>
  ext 1 t41 fun t43 =>
  efP P (Instr.alloc T_api_Block true (.tuple #[])) w fun t9 w =>
  stN 34 t9 t42 w fun w =>
  ldN 32 t3 w.heap fun t46 =>
  cal P f_tree_Tree_Move [t31, t46] w fun t47 w =>
  ext 0 t47 fun t48 =>
  ext 1 t47 fun t49 =>
  cal P f_tree_Tree_Root [t31] w fun t52 w =>
  ext 0 t52 fun t53 =>
  ext 1 t52 fun t54 =>
  efP P (Instr.alloc T_api_ID true (.tuple #[])) w fun t13 w =>
  stN 32 t13 t53 w fun w =>
  drH w fun S w =>
  rdS S (fun w => ldN 32 t7 w.heap) fun t55 =>
  rdS S (rdP P (Instr.build T_api_ID #[])) fun t56 =>
  rdS S (rdP P (eqS BinOp.neq T_api_ID (Operand.tmp 55) (Operand.tmp 56) t55 t56)) fun t57 =>
  jn1 (fun k2 =>
  gif t57 false
  (bi BinOp.neq t37 (Value.int IntKind.i64 2) fun t60 =>
  k2 t60 w)
  (k2 undef w)) fun _ t60_1 w =>
  pik t57 (Value.bool true) t60_1 fun t61 =>
  jn1 (fun k3 =>
  gif t61 false
  (rdS S (fun w => ldN 34 t9 w.heap) fun t63 =>
  rdS S (rdP P (Instr.build T_api_Block #[])) fun t64 =>
  efS S (cal P f_ref03_Same [t63, t64]) w fun t65 w =>
  notB t65 fun t66 =>
  k3 t66 w)
  (k3 undef w)) fun _ t66_1 w =>
  pik t61 (Value.bool true) t66_1 fun t67 =>
  jn1 (fun k4 =>
  gif t67 false
  (bi BinOp.neq t43 (Value.int IntKind.i64 2) fun t70 =>
  k4 t70 w)
  (k4 undef w)) fun _ t70_1 w =>
  pik t67 (Value.bool true) t70_1 fun t71 =>
  jn1 (fun k5 =>
  gif t71 false
  (lenS t48 fun t74 =>
  bi BinOp.neq t74 (Value.int IntKind.i64 0) fun t75 =>
  k5 t75 w)
  (k5 undef w)) fun _ t75_1 w =>
  pik t71 (Value.bool true) t75_1 fun t76 =>
  jn1 (fun k6 =>
  gif t76 false
  (bi BinOp.neq t49 (Value.int IntKind.i64 2) fun t79 =>
  k6 t79 w)
  (k6 undef w)) fun _ t79_1 w =>
  pik t76 (Value.bool true) t79_1 fun t80 =>
  jn1 (fun k7 =>
  gif t80 false
  (rdS S (fun w => ldN 32 t13 w.heap) fun t82 =>
  rdS S (rdP P (Instr.build T_api_ID #[])) fun t83 =>
  rdS S (rdP P (eqS BinOp.neq T_api_ID (Operand.tmp 82) (Operand.tmp 83) t82 t83)) fun t84 =>
  k7 t84 w)
  (k7 undef w)) fun _ t84_1 w =>
  pik t80 (Value.bool true) t84_1 fun t85 =>
  jn1 (fun k8 =>
  gif t85 false
  (bi BinOp.neq t54 (Value.int IntKind.i64 0) fun t88 =>
  k8 t88 w)
  (k8 undef w)) fun _ t88_1 w =>
  pik t85 (Value.bool true) t88_1 fun t89 =>
  jn1 (fun k9 =>
  gif t89 false
  (rdS S (fun w => ldN 32 t3 w.heap) fun t92 =>
  efS S (cal P f_tree_Tree_Has [t31, t92]) w fun t93 w =>
  k9 t93 w)
  (k9 undef w)) fun _ t93_1 w =>
  pik t89 (Value.bool true) t93_1 fun t94 =>
  jn1 (fun k10 =>
  gif t94 false
  (efS S (cal P f_tree_Tree_Len [t31]) w fun t97 w =>
  bi BinOp.neq t97 (Value.int IntKind.i64 0) fun t98 =>
  k10 t98 w)
  (k10 undef w)) fun _ t98_1 w =>
  pik t94 (Value.bool true) t98_1 fun t99 =>
  jn1 (fun k11 =>
  gif t99 false
  (rdS S (fun w => ldN 32 t3 w.heap) fun t102 =>
  rdS S (fun w => ldN 32 t3 w.heap) fun t103 =>
  efS S (cal P f_tree_Tree_Within [t31, t102, t103]) w fun t104 w =>
  k11 t104 w)
  (k11 undef w)) fun _ t104_1 w =>
  pik t99 (Value.bool true) t104_1 fun t105 =>
  jn1 (fun k12 =>
  gif t105 false
  (rdS S (fun w => ldN 32 t3 w.heap) fun t108 =>
  rdS S (fun w => ldN 32 t3 w.heap) fun t112 =>
  efS S (cal P f_tree_Tree_Path [t31, t108]) w fun t109 w =>
  lenS t109 fun t110 =>
  efS S (cal P f_tree_Tree_Under [t31, t112]) w fun t113 w =>
  lenS t113 fun t114 =>
  bi BinOp.add t110 t114 fun t115 =>
  bi BinOp.neq t115 (Value.int IntKind.i64 0) fun t116 =>
  k12 t116 w)
  (k12 undef w)) fun _ t116_1 w =>
  pik t105 (Value.bool true) t116_1 fun t117 =>
  jn1 (fun k13 =>
  gif t117 false
  (rdS S (fun w => ldN 32 t3 w.heap) fun t120 =>
  efS S (cal P f_tree_Tree_Kids [t31, t120]) w fun t121 w =>
  efS S (cal P f_law11_told [t121, (Value.int IntKind.i64 9)]) w fun t122 w =>
  lenS t122 fun t123 =>
  efS S (cal P f_tree_Tree_All [t31]) w fun t125 w =>
  efS S (cal P f_law11_told [t125, (Value.int IntKind.i64 9)]) w fun t126 w =>
  lenS t126 fun t127 =>
  bi BinOp.add t123 t127 fun t128 =>
  bi BinOp.neq t128 (Value.int IntKind.i64 0) fun t129 =>
  k13 t129 w)
  (k13 undef w)) fun _ t129_1 w =>
  pik t117 (Value.bool true) t129_1 fun t130 =>
  jn1 (fun k14 =>
  gif t130 false
  (efS S (cal P f_tree_Tree_Clone [t31]) w fun t133 w =>
  nilP true t133 fun t134 =>
  k14 t134 w)
  (k14 undef w)) fun _ t134_1 w =>
  pik t130 (Value.bool true) t134_1 fun t135 =>
  cnd t135
  (R (Value.bool false) w)
  (bi BinOp.add t28 (Value.int IntKind.i64 1) fun t136 =>
  again1 t136 w))
  (R (Value.bool true) w))
theorem e_law11_TreeNone (t0 t1 : Value) (w : World) (R : Value → World → Prop) : intp P A_law11_TreeNone (bodyOf Tryd.f8) (ini [t0, t1]) w (retK P Tryd.f8.results.toList R) (fun _ _ _ => False) (retK P Tryd.f8.results.toList R) = c_law11_TreeNone t0 t1 w R := by kernel_rfl
theorem k_law11_TreeNone : chk P Tryd.f8.ntmps A_law11_TreeNone (bodyOf Tryd.f8) = true := by kernel_rfl
theorem l_law11_TreeNone {t0 t1 : Value} {w : World} {R : Value → World → Prop} (h : c_law11_TreeNone t0 t1 w R) : cal P f_law11_TreeNone [t0, t1] w R :=
  calls_of mixed Tryd.func8 rfl (by kernel_rfl) k_law11_TreeNone (Eq.mpr (e_law11_TreeNone t0 t1 w R) h)
theorem s_law11_TreeNone {t0 t1 : Value} {w : World} {Q : Value → World → Prop} (h : ∀ R : Value → World → Prop, (∀ v w', Q v w' → R v w') → c_law11_TreeNone t0 t1 w R) : cal P f_law11_TreeNone [t0, t1] w Q := l_law11_TreeNone (h Q fun _ _ h => h)

/-- flurry/flurrylaw11.live -/
def A_law11_live : An := (An.s (An.r []) (An.s (An.r []) (An.s (An.s (An.d [0, 1, 2, 3, 4, 5, 6, 7, 8, 9, 10, 11, 13, 14, 12, 15, 16, 17, 18, 19, 20, 21, 22, 24, 25, 23, 26, 27, 28] [[26], [37], [48]]) (An.s (An.s (An.r []) An.o) An.o)) (An.s (An.r []) (An.s (An.r [[63], [68]]) An.o)))))
def c_law11_live (w : World) (R : Value → World → Prop) : Prop :=
  rdP P (Instr.build T_api_ID #[(0, (Value.int IntKind.u8 9))]) w fun t6 =>
  rdP P (Instr.build T_flurrylaw11_Start #[(0, t6), (1, (Value.int IntKind.i64 5)), (2, (Value.int IntKind.i64 9))]) w fun t7 =>
  efP P (Instr.buildSlice T_sl_uint8 1 #[(0, (Value.int IntKind.u8 97))]) w fun t8 w =>
  efP P (convert T_sl_uint8 T_sl_uint8 t8) w fun t9 w =>
  rdP P (Instr.build T_flurrylaw11_Grow #[(1, t9)]) w fun t10 =>
  efP P (Instr.buildSlice T_sl_uint8 1 #[(0, (Value.int IntKind.u8 98))]) w fun t11 w =>
  efP P (convert T_sl_uint8 T_sl_uint8 t11) w fun t12 w =>
  rdP P (Instr.build T_flurrylaw11_Grow #[(0, (Value.int IntKind.u8 1)), (1, t12)]) w fun t13 =>
  efP P (Instr.buildSlice T_sl_uint8 1 #[(0, (Value.int IntKind.u8 99))]) w fun t14 w =>
  efP P (convert T_sl_uint8 T_sl_uint8 t14) w fun t15 w =>
  rdP P (Instr.build T_flurrylaw11_Grow #[(0, (Value.int IntKind.u8 1)), (1, t15)]) w fun t16 =>
  efP P (Instr.buildSlice T_sl_flurrylaw11_Grow 3 #[(0, t10), (1, t13), (2, t16)]) w fun t17 w =>
  cal P f_law11_grown [t7, t17] w fun t18 w =>
  ext 0 t18 fun t19 =>
  ext 1 t18 fun t20 =>
  drH w fun S w =>
  nilP false t19 fun t22 =>
  jn1 (fun k0 =>
  gif t22 false
  (lenS t20 fun t25 =>
  bi BinOp.neq t25 (Value.int IntKind.i64 4) fun t26 =>
  k0 t26 w)
  (k0 undef w)) fun _ t26_1 w =>
  pik t22 (Value.bool true) t26_1 fun t27 =>
  jn1 (fun k1 =>
  gif t27 false
  (ixs 32 t20 (Value.int IntKind.i64 2) fun t31 =>
  rdS S (fun w => ldN 32 t31 w.heap) fun t32 =>
  slc 32 t20 (some (Value.int IntKind.i64 1)) (some (Value.int IntKind.i64 3)) fun t35 =>
  efS S (cal P f_tree_Tree_Path [t19, t32]) w fun t33 w =>
  efS S (cal P f_slices_Equal_api_ID_api_ID [t33, t35]) w fun t36 w =>
  notB t36 fun t37 =>
  k1 t37 w)
  (k1 undef w)) fun _ t37_1 w =>
  pik t27 (Value.bool true) t37_1 fun t38 =>
  jn1 (fun k2 =>
  gif t38 false
  (ixs 32 t20 (Value.int IntKind.i64 1) fun t42 =>
  rdS S (fun w => ldN 32 t42 w.heap) fun t43 =>
  slc 32 t20 (some (Value.int IntKind.i64 1)) none fun t46 =>
  efS S (cal P f_tree_Tree_Under [t19, t43]) w fun t44 w =>
  efS S (cal P f_slices_Equal_api_ID_api_ID [t44, t46]) w fun t47 w =>
  notB t47 fun t48 =>
  k2 t48 w)
  (k2 undef w)) fun _ t48_1 w =>
  pik t38 (Value.bool true) t48_1 fun t49 =>
  cnd t49
  (R (Value.bool false) w)
  (ixs 32 t20 (Value.int IntKind.i64 1) fun t53 =>
  ldN 32 t53 w.heap fun t54 =>
  cal P f_tree_Tree_Move [t19, t54] w fun t55 w =>
  ext 0 t55 fun t56 =>
  ext 1 t55 fun t57 =>
  bi BinOp.eql t57 (Value.int IntKind.i64 0) fun t59 =>
  jn1 (fun k3 =>
  gif t59 true
  (lenS t56 fun t62 =>
  bi BinOp.eql t62 (Value.int IntKind.i64 0) fun t63 =>
  k3 t63 w)
  (k3 undef w)) fun _ t63_1 w =>
  pik t59 t63_1 (Value.bool false) fun t64 =>
  jn1 (fun k4 =>
  gif t64 true
  (cal P f_tree_Tree_Len [t19] w fun t67 w =>
  bi BinOp.eql t67 (Value.int IntKind.i64 2) fun t68 =>
  k4 t68 w)
  (k4 undef w)) fun _ t68_1 w =>
  pik t64 t68_1 (Value.bool false) fun t69 =>
  R t69 w)
theorem e_law11_live (w : World) (R : Value → World → Prop) : intp P A_law11_live (bodyOf Tryd.f9) (ini []) w (retK P Tryd.f9.results.toList R) (fun _ _ _ => False) (retK P Tryd.f9.results.toList R) = c_law11_live  w R := by kernel_rfl
theorem k_law11_live : chk P Tryd.f9.ntmps A_law11_live (bodyOf Tryd.f9) = true := by kernel_rfl
theorem l_law11_live {w : World} {R : Value → World → Prop} (h : c_law11_live w R) : cal P f_law11_live [] w R :=
  calls_of mixed Tryd.func9 rfl (by kernel_rfl) k_law11_live (Eq.mpr (e_law11_live w R) h)
theorem s_law11_live {w : World} {Q : Value → World → Prop} (h : ∀ R : Value → World → Prop, (∀ v w', Q v w' → R v w') → c_law11_live w R) : cal P f_law11_live [] w Q := l_law11_live (h Q fun _ _ h => h)

/-- flurry/flurrylaw11.few -/
def A_law11_few : An := (An.s (An.r []) (An.s (An.s (An.r []) (An.b (An.l [11] (An.s (An.r []) (An.s (An.s An.o An.o) (An.s (An.b (An.s (An.r []) (An.s (An.r [[24]]) (An.s (An.s (An.r []) An.o) An.o)))) (An.r []))))))) (An.s (An.r []) An.o)))
def c_law11_few (t0 : Value) (w : World) (R : Value → World → Prop) : Prop :=
  lenS t0 fun t7 =>
  rdP P (Builtin.min_ #[T_int, T_int] T_int #[t7, (Value.int IntKind.i64 80)]) w fun t8 =>
  slc 37 t0 none (some t8) fun t9 =>
  lenS t9 fun t10 =>
  lp1 (Value.int IntKind.i64 0) w fun _ t11 w again0 =>
  bi BinOp.lss t11 t10 fun t12 =>
  cnd t12
  (ixs 37 t9 t11 fun t13 =>
  ldN 37 t13 w.heap fun t14 =>
  efP P (Instr.alloc T_flurrylaw11_Grow true (.tuple #[])) w fun t4 w =>
  stN 37 t4 t14 w fun w =>
  fad 1 t4 fun t15 =>
  ld1 t15 w.heap fun t16 =>
  lenS t16 fun t17 =>
  bi BinOp.gtr t17 (Value.int IntKind.i64 1000) fun t18 =>
  jn1 (fun k1 =>
  gif t18 false
  (fad 3 t4 fun t20 =>
  fad 33 t20 fun t21 =>
  ld1 t21 w.heap fun t22 =>
  lenS t22 fun t23 =>
  bi BinOp.gtr t23 (Value.int IntKind.i64 1000) fun t24 =>
  k1 t24 w)
  (k1 undef w)) fun _ t24_1 w =>
  pik t18 (Value.bool true) t24_1 fun t25 =>
  cnd t25
  (R (Value.bool false) w)
  (bi BinOp.add t11 (Value.int IntKind.i64 1) fun t26 =>
  again0 t26 w))
  (lenS t0 fun t28 =>
  bi BinOp.leq t28 (Value.int IntKind.i64 40) fun t29 =>
  R t29 w)
theorem e_law11_few (t0 : Value) (w : World) (R : Value → World → Prop) : intp P A_law11_few (bodyOf Tryd.f10) (ini [t0]) w (retK P Tryd.f10.results.toList R) (fun _ _ _ => False) (retK P Tryd.f10.results.toList R) = c_law11_few t0 w R := by kernel_rfl
theorem k_law11_few : chk P Tryd.f10.ntmps A_law11_few (bodyOf Tryd.f10) = true := by kernel_rfl
theorem l_law11_few {t0 : Value} {w : World} {R : Value → World → Prop} (h : c_law11_few t0 w R) : cal P f_law11_few [t0] w R :=
  calls_of mixed Tryd.func10 rfl (by kernel_rfl) k_law11_few (Eq.mpr (e_law11_few t0 w R) h)
theorem s_law11_few {t0 : Value} {w : World} {Q : Value → World → Prop} (h : ∀ R : Value → World → Prop, (∀ v w', Q v w' → R v w') → c_law11_few t0 w R) : cal P f_law11_few [t0] w Q := l_law11_few (h Q fun _ _ h => h)

/-- flurry/flurrylaw11.grown -/
def A_law11_grown : An := (An.s (An.r []) (An.s (An.r []) (An.s (An.s (An.r [[29]]) (An.s (An.s (An.r []) An.o) An.o)) (An.s (An.dt (Pl.step 0 (Pl.step 1 (Pl.step 3 (Pl.step 4 (Pl.br (Pl.alt 2 (Pl.step 6 (Pl.step 5 (Pl.step 7 Pl.nil))) (Pl.alt 5 (Pl.step 2 (Pl.step 6 (Pl.step 7 Pl.nil))) Pl.non))))))) [] [8, 9]) (An.s (An.s (An.r []) (An.b (An.l [8, 9, 39] (An.s (An.r []) (An.s (An.s An.o An.o) (An.s (An.j [8, 9] (An.b (An.s (An.r []) (An.s (An.r []) (An.s (An.r []) (An.s (An.r []) (An.s (An.dt (Pl.step 0 (Pl.step 1 (Pl.step 4 (Pl.step 5 (Pl.step 6 (Pl.br (Pl.alt 2 (Pl.br (Pl.alt 3 (Pl.step 7 (Pl.step 8 (Pl.step 9 (Pl.step 10 Pl.nil)))) (Pl.alt 7 (Pl.step 3 (Pl.step 8 (Pl.step 9 (Pl.step 10 Pl.nil)))) Pl.non))) (Pl.alt 7 (Pl.step 2 (Pl.step 3 (Pl.step 8 (Pl.step 9 (Pl.step 10 Pl.nil))))) Pl.non)))))))) [8] [8, 9]) An.o))))))) (An.r []))))))) (An.s (An.r []) An.o))))))
def c_law11_grown (t0 t1 : Value) (w : World) (R : Value → World → Prop) : Prop :=
  bx T_flurrylaw11_Start t0 w fun t2 w =>
  fad 0 t2 fun t16 =>
  ldN 32 t16 w.heap fun t17 =>
  fad 32 t2 fun t18 =>
  ld1 t18 w.heap fun t19 =>
  fad 33 t2 fun t20 =>
  ld1 t20 w.heap fun t21 =>
  cal P f_tree_New [t17, t19, t21] w fun t22 w =>
  ext 0 t22 fun t23 =>
  ext 1 t22 fun t24 =>
  bi BinOp.neq t24 (Value.int IntKind.i64 0) fun t26 =>
  jn1 (fun k0 =>
  gif t26 false
  (nilP false t23 fun t29 =>
  k0 t29 w)
  (k0 undef w)) fun _ t29_1 w =>
  pik t26 (Value.bool true) t29_1 fun t30 =>
  cnd t30
  (R (Value.tuple #[(Value.pointer none), (Value.slice none 0 0)]) w)
  (drH w fun S w =>
  jn2 (fun k1 =>
  fad 0 t2 fun t31 =>
  rdS S (fun w => ldN 32 t31 w.heap) fun t32 =>
  fad 32 t2 fun t34 =>
  rdS S (fun w => ld1 t34 w.heap) fun t35 =>
  (efS S (efP P (Instr.buildSlice T_sl_api_ID 1 #[(0, t32)])) w fun t33_1 w =>
  efS S (efP P (Instr.buildSlice T_sl_int64 1 #[(0, t35)])) w fun t36_1 w =>
  k1 t33_1 t36_1 w) ∧
  ((efS S (efP P (Instr.buildSlice T_sl_int64 1 #[(0, t35)])) w fun t36 w =>
  efS S (efP P (Instr.buildSlice T_sl_api_ID 1 #[(0, t32)])) w fun t33 w =>
  k1 t33 t36 w) ∧
  (True))) fun _ t8 t9 w =>
  lenS t1 fun t38 =>
  lp3 t8 t9 (Value.int IntKind.i64 0) w fun _ t8_1 t9_1 t39 w again2 =>
  bi BinOp.lss t39 t38 fun t40 =>
  cnd t40
  (jn2 (fun k3 =>
  ixs 37 t1 t39 fun t41 =>
  ldN 37 t41 w.heap fun t42 =>
  efP P (Instr.alloc T_flurrylaw11_Grow true (.tuple #[])) w fun t11 w =>
  stN 37 t11 t42 w fun w =>
  ldN 34 t2 w.heap fun t43 =>
  ldN 37 t11 w.heap fun t44 =>
  cal P f_law11_block [t43, t44, t8_1, t9_1] w fun t47 w =>
  efP P (Instr.alloc T_api_Block true (.tuple #[])) w fun t12 w =>
  stN 34 t12 t47 w fun w =>
  ldN 34 t12 w.heap fun t50 =>
  cal P f_tree_Tree_Add [t23, t50] w fun t51 w =>
  ext 0 t51 fun t52 =>
  ext 1 t51 fun t53 =>
  efP P (Instr.alloc T_api_ID true (.tuple #[])) w fun t13 w =>
  stN 32 t13 t52 w fun w =>
  bi BinOp.eql t53 (Value.int IntKind.i64 0) fun t55 =>
  cnd t55
  (drH w fun S w =>
  jn2 (fun k4 =>
  rdS S (fun w => ldN 32 t13 w.heap) fun t57 =>
  fad 32 t12 fun t61 =>
  rdS S (fun w => ld1 t61 w.heap) fun t62 =>
  (efS S (efP P (Instr.buildSlice T_sl_api_ID 1 #[(0, t57)])) w fun t58_1 w =>
  (efS S (efP P (Builtin.append_ #[T_sl_api_ID, T_sl_api_ID] T_sl_api_ID #[t8_1, t58_1])) w fun t59_2 w =>
  efS S (efP P (Instr.buildSlice T_sl_int64 1 #[(0, t62)])) w fun t63_2 w =>
  efC (efP P (Builtin.append_ #[T_sl_int64, T_sl_int64] T_sl_int64 #[t9_1, t63_2])) w fun S t64_2 w =>
  k4 t59_2 t64_2 w) ∧
  ((efS S (efP P (Instr.buildSlice T_sl_int64 1 #[(0, t62)])) w fun t63_1 w =>
  efS S (efP P (Builtin.append_ #[T_sl_api_ID, T_sl_api_ID] T_sl_api_ID #[t8_1, t58_1])) w fun t59_1 w =>
  efC (efP P (Builtin.append_ #[T_sl_int64, T_sl_int64] T_sl_int64 #[t9_1, t63_1])) w fun S t64_1 w =>
  k4 t59_1 t64_1 w) ∧
  (True))) ∧
  ((efS S (efP P (Instr.buildSlice T_sl_int64 1 #[(0, t62)])) w fun t63 w =>
  efS S (efP P (Instr.buildSlice T_sl_api_ID 1 #[(0, t57)])) w fun t58 w =>
  efS S (efP P (Builtin.append_ #[T_sl_api_ID, T_sl_api_ID] T_sl_api_ID #[t8_1, t58])) w fun t59 w =>
  efC (efP P (Builtin.append_ #[T_sl_int64, T_sl_int64] T_sl_int64 #[t9_1, t63])) w fun S t64 w =>
  k4 t59 t64 w) ∧
  (True))) fun _ t8_2 t9_2 w =>
  k3 t8_2 t9_2 w)
  (k3 t8_1 t9_1 w)) fun _ t8_3 t9_3 w =>
  bi BinOp.add t39 (Value.int IntKind.i64 1) fun t65 =>
  again2 t8_3 t9_3 t65 w)
  (R (Value.tuple #[t23, t8_1]) w))
theorem e_law11_grown (t0 t1 : Value) (w : World) (R : Value → World → Prop) : intp P A_law11_grown (bodyOf Tryd.f11) (ini [t0, t1]) w (retK P Tryd.f11.results.toList R) (fun _ _ _ => False) (retK P Tryd.f11.results.toList R) = c_law11_grown t0 t1 w R := by kernel_rfl
theorem k_law11_grown : chk P Tryd.f11.ntmps A_law11_grown (bodyOf Tryd.f11) = true := by kernel_rfl
theorem l_law11_grown {t0 t1 : Value} {w : World} {R : Value → World → Prop} (h : c_law11_grown t0 t1 w R) : cal P f_law11_grown [t0, t1] w R :=
  calls_of mixed Tryd.func11 rfl (by kernel_rfl) k_law11_grown (Eq.mpr (e_law11_grown t0 t1 w R) h)
theorem s_law11_grown {t0 t1 : Value} {w : World} {Q : Value → World → Prop} (h : ∀ R : Value → World → Prop, (∀ v w', Q v w' → R v w') → c_law11_grown t0 t1 w R) : cal P f_law11_grown [t0, t1] w Q := l_law11_grown (h Q fun _ _ h => h)

/-- (*flurry/tree.Tree).Root -/
def A_tree_Tree_Root : An := (An.s (An.r []) (An.s (An.s (An.r []) (An.s (An.s (An.r []) An.o) An.o)) (An.s (An.d [0, 1, 2, 3, 4, 5, 6, 7, 8, 9] []) An.o)))
def c_tree_Tree_Root (t0 : Value) (w : World) (R : Value → World → Prop) : Prop :=
  efP P (Instr.alloc T_api_ID true (.tuple #[])) w fun t2 w =>
  cal P f_tree_Tree_none [t0] w fun t5 w =>
  cnd t5
  (rdP P (Instr.build T_api_ID #[]) w fun t6 =>
  stN 32 t2 t6 w fun w =>
  ldN 32 t2 w.heap fun r0 =>
  R (Value.tuple #[r0, (Value.int IntKind.i64 0)]) w)
  (drH w fun S w =>
  nilc t0 fun t8 =>
  fad 1 t8 fun t9 =>
  rdS S (fun w => ldN 32 t9 w.heap) fun t10 =>
  nilc t0 fun t12 =>
  fad 33 t12 fun t13 =>
  rdS S (fun w => ld1 t13 w.heap) fun t14 =>
  efS S (fun w K => stN 32 t2 t10 w (K undef)) w fun _ w =>
  ldN 32 t2 w.heap fun r1 =>
  R (Value.tuple #[r1, t14]) w)
theorem e_tree_Tree_Root (t0 : Value) (w : World) (R : Value → World → Prop) : intp P A_tree_Tree_Root (bodyOf Tryd.f12) (ini [t0]) w (retK P Tryd.f12.results.toList R) (fun _ _ _ => False) (retK P Tryd.f12.results.toList R) = c_tree_Tree_Root t0 w R := by kernel_rfl
theorem k_tree_Tree_Root : chk P Tryd.f12.ntmps A_tree_Tree_Root (bodyOf Tryd.f12) = true := by kernel_rfl
theorem l_tree_Tree_Root {t0 : Value} {w : World} {R : Value → World → Prop} (h : c_tree_Tree_Root t0 w R) : cal P f_tree_Tree_Root [t0] w R :=
  calls_of mixed Tryd.func12 rfl (by kernel_rfl) k_tree_Tree_Root (Eq.mpr (e_tree_Tree_Root t0 w R) h)
theorem s_tree_Tree_Root {t0 : Value} {w : World} {Q : Value → World → Prop} (h : ∀ R : Value → World → Prop, (∀ v w', Q v w' → R v w') → c_tree_Tree_Root t0 w R) : cal P f_tree_Tree_Root [t0] w Q := l_tree_Tree_Root (h Q fun _ _ h => h)

/-- (*flurry/tree.Tree).Path -/
def A_tree_Tree_Path : An := (An.s (An.r []) (An.s (An.s (An.r []) (An.s (An.s (An.r []) An.o) An.o)) (An.s (An.r []) (An.s (An.b (An.l [5] (An.s (An.s (An.r []) (An.s An.o An.o)) (An.b (An.s (An.r []) (An.dc [0, 1, 2, 3, 4, 5, 6, 7] [7] [])))))) (An.s (An.r []) (An.s (An.r []) An.o))))))
def c_tree_Tree_Path (t0 t1 : Value) (w : World) (R : Value → World → Prop) : Prop :=
  bx T_api_ID t1 w fun t3 w =>
  ldN 32 t3 w.heap fun t7 =>
  cal P f_tree_Tree_Has [t0, t7] w fun t8 w =>
  notB t8 fun t9 =>
  cnd t9
  (R (Value.slice none 0 0) w)
  (lp1 (Value.slice none 0 0) w fun _ t5 w again0 =>
  drw w fun w =>
  ldN 32 t3 w.heap fun t10 =>
  nilc t0 fun t12 =>
  fad 1 t12 fun t13 =>
  ldN 32 t13 w.heap fun t14 =>
  rdP P (eqS BinOp.neq T_api_ID (Operand.tmp 10) (Operand.tmp 14) t10 t14) w fun t15 =>
  cnd t15
  (ldN 32 t3 w.heap fun t17 =>
  efP P (Instr.buildSlice T_sl_api_ID 1 #[(0, t17)]) w fun t18 w =>
  efP P (Builtin.append_ #[T_sl_api_ID, T_sl_api_ID] T_sl_api_ID #[t5, t18]) w fun t19 w =>
  drH w fun S w =>
  nilc t0 fun t21 =>
  fad 35 t21 fun t22 =>
  rdS S (fun w => ld1 t22 w.heap) fun t23 =>
  rdS S (fun w => ldN 32 t3 w.heap) fun t24 =>
  rdS S (rdP P (Instr.lookup T_map_api_ID_api_Block t23 t24 false)) fun t25 =>
  fldv 0 32 true t25 fun t26 =>
  efC (fun w K => stN 32 t3 t26 w (K undef)) w fun S _ w =>
  again0 t19 w)
  (cal P f_slices_Reverse_api_ID_api_ID [t5] w fun t28 w =>
  R t5 w))
theorem e_tree_Tree_Path (t0 t1 : Value) (w : World) (R : Value → World → Prop) : intp P A_tree_Tree_Path (bodyOf Tryd.f13) (ini [t0, t1]) w (retK P Tryd.f13.results.toList R) (fun _ _ _ => False) (retK P Tryd.f13.results.toList R) = c_tree_Tree_Path t0 t1 w R := by kernel_rfl
theorem k_tree_Tree_Path : chk P Tryd.f13.ntmps A_tree_Tree_Path (bodyOf Tryd.f13) = true := by kernel_rfl
theorem l_tree_Tree_Path {t0 t1 : Value} {w : World} {R : Value → World → Prop} (h : c_tree_Tree_Path t0 t1 w R) : cal P f_tree_Tree_Path [t0, t1] w R :=
  calls_of mixed Tryd.func13 rfl (by kernel_rfl) k_tree_Tree_Path (Eq.mpr (e_tree_Tree_Path t0 t1 w R) h)
theorem s_tree_Tree_Path {t0 t1 : Value} {w : World} {Q : Value → World → Prop} (h : ∀ R : Value → World → Prop, (∀ v w', Q v w' → R v w') → c_tree_Tree_Path t0 t1 w R) : cal P f_tree_Tree_Path [t0, t1] w Q := l_tree_Tree_Path (h Q fun _ _ h => h)

/-- (*flurry/tree.Tree).Get -/
def A_tree_Tree_Get : An := (An.s (An.r []) (An.s (An.s (An.r []) (An.s (An.s (An.r []) An.o) An.o)) (An.s (An.dc [0, 1, 2, 3, 4, 5, 6, 7, 8, 9, 10, 11] [10] []) (An.s (An.s (An.r []) (An.s (An.s (An.r []) An.o) An.o)) (An.s (An.r []) An.o)))))
def c_tree_Tree_Get (t0 t1 : Value) (w : World) (R : Value → World → Prop) : Prop :=
  bx T_api_ID t1 w fun t3 w =>
  efP P (Instr.alloc T_api_Block true (.tuple #[])) w fun t4 w =>
  cal P f_tree_Tree_none [t0] w fun t9 w =>
  cnd t9
  (rdP P (Instr.build T_api_Block #[]) w fun t10 =>
  stN 34 t4 t10 w fun w =>
  ldN 34 t4 w.heap fun r0 =>
  R (Value.tuple #[r0, (Value.int IntKind.i64 2)]) w)
  (drH w fun S w =>
  nilc t0 fun t13 =>
  fad 35 t13 fun t14 =>
  rdS S (fun w => ld1 t14 w.heap) fun t15 =>
  rdS S (fun w => ldN 32 t3 w.heap) fun t16 =>
  rdS S (rdP P (Instr.lookup T_map_api_ID_api_Block t15 t16 true)) fun t17 =>
  ext 0 t17 fun t18 =>
  ext 1 t17 fun t19 =>
  efS S (efP P (Instr.alloc T_api_Block true (.tuple #[]))) w fun t6 w =>
  efC (fun w K => stN 34 t6 t18 w (K undef)) w fun S _ w =>
  notB t19 fun t21 =>
  cnd t21
  (rdP P (Instr.build T_api_Block #[]) w fun t22 =>
  stN 34 t4 t22 w fun w =>
  ldN 34 t4 w.heap fun r1 =>
  R (Value.tuple #[r1, (Value.int IntKind.i64 4)]) w)
  (ldN 34 t6 w.heap fun t23 =>
  cal P f_block_Clone [t23] w fun t24 w =>
  stN 34 t4 t24 w fun w =>
  ldN 34 t4 w.heap fun r2 =>
  R (Value.tuple #[r2, (Value.int IntKind.i64 0)]) w))
theorem e_tree_Tree_Get (t0 t1 : Value) (w : World) (R : Value → World → Prop) : intp P A_tree_Tree_Get (bodyOf Tryd.f14) (ini [t0, t1]) w (retK P Tryd.f14.results.toList R) (fun _ _ _ => False) (retK P Tryd.f14.results.toList R) = c_tree_Tree_Get t0 t1 w R := by kernel_rfl
theorem k_tree_Tree_Get : chk P Tryd.f14.ntmps A_tree_Tree_Get (bodyOf Tryd.f14) = true := by kernel_rfl
theorem l_tree_Tree_Get {t0 t1 : Value} {w : World} {R : Value → World → Prop} (h : c_tree_Tree_Get t0 t1 w R) : cal P f_tree_Tree_Get [t0, t1] w R :=
  calls_of mixed Tryd.func14 rfl (by kernel_rfl) k_tree_Tree_Get (Eq.mpr (e_tree_Tree_Get t0 t1 w R) h)
theorem s_tree_Tree_Get {t0 t1 : Value} {w : World} {Q : Value → World → Prop} (h : ∀ R : Value → World → Prop, (∀ v w', Q v w' → R v w') → c_tree_Tree_Get t0 t1 w R) : cal P f_tree_Tree_Get [t0, t1] w Q := l_tree_Tree_Get (h Q fun _ _ h => h)

/-- (*flurry/tree.Tree).Within -/
def A_tree_Tree_Within : An := (An.s (An.r []) (An.s (An.s (An.r [[15]]) (An.s (An.s (An.r []) An.o) An.o)) (An.s (An.b (An.l [] (An.s (An.s (An.r [[26]]) (An.s An.o An.o)) (An.b (An.dc [0, 1, 2, 3, 4, 5, 6, 7] [7] []))))) (An.s (An.r []) An.o))))
def c_tree_Tree_Within (t0 t1 t2 : Value) (w : World) (R : Value → World → Prop) : Prop :=
  bx T_api_ID t1 w fun t4 w =>
  bx T_api_ID t2 w fun t5 w =>
  ldN 32 t4 w.heap fun t8 =>
  cal P f_tree_Tree_Has [t0, t8] w fun t9 w =>
  notB t9 fun t10 =>
  jn1 (fun k0 =>
  gif t10 false
  (ldN 32 t5 w.heap fun t13 =>
  cal P f_tree_Tree_Has [t0, t13] w fun t14 w =>
  notB t14 fun t15 =>
  k0 t15 w)
  (k0 undef w)) fun _ t15_1 w =>
  pik t10 (Value.bool true) t15_1 fun t16 =>
  cnd t16
  (R (Value.bool false) w)
  (lp0 w fun _ w again1 =>
  drw w fun w =>
  ldN 32 t4 w.heap fun t17 =>
  ldN 32 t5 w.heap fun t18 =>
  rdP P (eqS BinOp.neq T_api_ID (Operand.tmp 17) (Operand.tmp 18) t17 t18) w fun t19 =>
  jn1 (fun k2 =>
  gif t19 true
  (ldN 32 t4 w.heap fun t21 =>
  nilc t0 fun t23 =>
  fad 1 t23 fun t24 =>
  ldN 32 t24 w.heap fun t25 =>
  rdP P (eqS BinOp.neq T_api_ID (Operand.tmp 21) (Operand.tmp 25) t21 t25) w fun t26 =>
  k2 t26 w)
  (k2 undef w)) fun _ t26_1 w =>
  pik t19 t26_1 (Value.bool false) fun t27 =>
  cnd t27
  (drH w fun S w =>
  nilc t0 fun t29 =>
  fad 35 t29 fun t30 =>
  rdS S (fun w => ld1 t30 w.heap) fun t31 =>
  rdS S (fun w => ldN 32 t4 w.heap) fun t32 =>
  rdS S (rdP P (Instr.lookup T_map_api_ID_api_Block t31 t32 false)) fun t33 =>
  fldv 0 32 true t33 fun t34 =>
  efC (fun w K => stN 32 t4 t34 w (K undef)) w fun S _ w =>
  again1 w)
  (ldN 32 t4 w.heap fun t35 =>
  ldN 32 t5 w.heap fun t36 =>
  rdP P (eqS BinOp.eql T_api_ID (Operand.tmp 35) (Operand.tmp 36) t35 t36) w fun t37 =>
  R t37 w))
theorem e_tree_Tree_Within (t0 t1 t2 : Value) (w : World) (R : Value → World → Prop) : intp P A_tree_Tree_Within (bodyOf Tryd.f15) (ini [t0, t1, t2]) w (retK P Tryd.f15.results.toList R) (fun _ _ _ => False) (retK P Tryd.f15.results.toList R) = c_tree_Tree_Within t0 t1 t2 w R := by kernel_rfl
theorem k_tree_Tree_Within : chk P Tryd.f15.ntmps A_tree_Tree_Within (bodyOf Tryd.f15) = true := by kernel_rfl
theorem l_tree_Tree_Within {t0 t1 t2 : Value} {w : World} {R : Value → World → Prop} (h : c_tree_Tree_Within t0 t1 t2 w R) : cal P f_tree_Tree_Within [t0, t1, t2] w R :=
  calls_of mixed Tryd.func15 rfl (by kernel_rfl) k_tree_Tree_Within (Eq.mpr (e_tree_Tree_Within t0 t1 t2 w R) h)
theorem s_tree_Tree_Within {t0 t1 t2 : Value} {w : World} {Q : Value → World → Prop} (h : ∀ R : Value → World → Prop, (∀ v w', Q v w' → R v w') → c_tree_Tree_Within t0 t1 t2 w R) : cal P f_tree_Tree_Within [t0, t1, t2] w Q := l_tree_Tree_Within (h Q fun _ _ h => h)

/-- slices.Contains[[]flurry/api.ID,flurry/api.ID] -/
def A_slices_Contains_api_ID_api_ID : An := (An.s (An.r []) (An.s (An.r []) An.o))
def c_slices_Contains_api_ID_api_ID (t0 t1 : Value) (w : World) (R : Value → World → Prop) : Prop :=
  bx T_api_ID t1 w fun t3 w =>
  ldN 32 t3 w.heap fun t6 =>
  cal P f_slices_Index_api_ID_api_ID [t0, t6] w fun t7 w =>
  bi BinOp.geq t7 (Value.int IntKind.i64 0) fun t8 =>
  R t8 w
theorem e_slices_Contains_api_ID_api_ID (t0 t1 : Value) (w : World) (R : Value → World → Prop) : intp P A_slices_Contains_api_ID_api_ID (bodyOf Tryd.f16) (ini [t0, t1]) w (retK P Tryd.f16.results.toList R) (fun _ _ _ => False) (retK P Tryd.f16.results.toList R) = c_slices_Contains_api_ID_api_ID t0 t1 w R := by kernel_rfl
theorem k_slices_Contains_api_ID_api_ID : chk P Tryd.f16.ntmps A_slices_Contains_api_ID_api_ID (bodyOf Tryd.f16) = true := by kernel_rfl
theorem l_slices_Contains_api_ID_api_ID {t0 t1 : Value} {w : World} {R : Value → World → Prop} (h : c_slices_Contains_api_ID_api_ID t0 t1 w R) : cal P f_slices_Contains_api_ID_api_ID [t0, t1] w R :=
  calls_of mixed Tryd.func16 rfl (by kernel_rfl) k_slices_Contains_api_ID_api_ID (Eq.mpr (e_slices_Contains_api_ID_api_ID t0 t1 w R) h)
theorem s_slices_Contains_api_ID_api_ID {t0 t1 : Value} {w : World} {Q : Value → World → Prop} (h : ∀ R : Value → World → Prop, (∀ v w', Q v w' → R v w') → c_slices_Contains_api_ID_api_ID t0 t1 w R) : cal P f_slices_Contains_api_ID_api_ID [t0, t1] w Q := l_slices_Contains_api_ID_api_ID (h Q fun _ _ h => h)

/-- flurry/tree.New -/
def A_tree_New : An := (An.s (An.r []) (An.s (An.s (An.r [[12], [16]]) (An.s (An.s (An.r []) An.o) An.o)) (An.s (An.r []) An.o)))
def c_tree_New (t0 t1 t2 : Value) (w : World) (R : Value → World → Prop) : Prop :=
  bx T_api_ID t0 w fun t3 w =>
  bi BinOp.lss t1 (Value.int IntKind.i64 0) fun t9 =>
  jn1 (fun k0 =>
  gif t9 false
  (bi BinOp.lss t2 (Value.int IntKind.i64 1) fun t12 =>
  k0 t12 w)
  (k0 undef w)) fun _ t12_1 w =>
  pik t9 (Value.bool true) t12_1 fun t13 =>
  jn1 (fun k1 =>
  gif t13 false
  (bi BinOp.gtr t2 (Value.int IntKind.i64 256) fun t16 =>
  k1 t16 w)
  (k1 undef w)) fun _ t16_1 w =>
  pik t13 (Value.bool true) t16_1 fun t17 =>
  cnd t17
  (R (Value.tuple #[(Value.pointer none), (Value.int IntKind.i64 1)]) w)
  (ldN 32 t3 w.heap fun t18 =>
  efP P (Instr.makeMap T_map_api_ID_api_Block none) w fun t21 w =>
  rdP P (Instr.build T_tree_Tree #[(0, (Value.bool true)), (1, t18), (2, t1), (3, t2), (4, t21)]) w fun t22 =>
  bx T_tree_Tree t22 w fun t23 w =>
  R (Value.tuple #[t23, (Value.int IntKind.i64 0)]) w)
theorem e_tree_New (t0 t1 t2 : Value) (w : World) (R : Value → World → Prop) : intp P A_tree_New (bodyOf Tryd.f17) (ini [t0, t1, t2]) w (retK P Tryd.f17.results.toList R) (fun _ _ _ => False) (retK P Tryd.f17.results.toList R) = c_tree_New t0 t1 t2 w R := by kernel_rfl
theorem k_tree_New : chk P Tryd.f17.ntmps A_tree_New (bodyOf Tryd.f17) = true := by kernel_rfl
theorem l_tree_New {t0 t1 t2 : Value} {w : World} {R : Value → World → Prop} (h : c_tree_New t0 t1 t2 w R) : cal P f_tree_New [t0, t1, t2] w R :=
  calls_of mixed Tryd.func17 rfl (by kernel_rfl) k_tree_New (Eq.mpr (e_tree_New t0 t1 t2 w R) h)
theorem s_tree_New {t0 t1 t2 : Value} {w : World} {Q : Value → World → Prop} (h : ∀ R : Value → World → Prop, (∀ v w', Q v w' → R v w') → c_tree_New t0 t1 t2 w R) : cal P f_tree_New [t0, t1, t2] w Q := l_tree_New (h Q fun _ _ h => h)

/-- flurry/flurrylaw11.block -/
def A_law11_block : An := (An.s (An.r []) (An.s (An.s (An.r []) (An.s (An.s (An.r []) An.o) An.o)) (An.s (An.r []) (An.s (An.dc [0, 1, 2, 3, 4, 5, 6, 7, 8, 9, 10, 11, 12, 13] [13] []) An.o))))
def c_law11_block (t0 t1 t2 t3 : Value) (w : World) (R : Value → World → Prop) : Prop :=
  bx T_flurrylaw11_Start t0 w fun t4 w =>
  bx T_flurrylaw11_Grow t1 w fun t5 w =>
  efP P (Instr.alloc T_api_Block true (.tuple #[])) w fun t8 w =>
  fad 2 t5 fun t10 =>
  ld1 t10 w.heap fun t11 =>
  cnd t11
  (fad 3 t5 fun t12 =>
  ldN 34 t12 w.heap fun t13 =>
  stN 34 t8 t13 w fun w =>
  ldN 34 t8 w.heap fun r0 =>
  R r0 w)
  (fad 0 t5 fun t14 =>
  ld1 t14 w.heap fun t15 =>
  cvi IntKind.i64 t15 fun t16 =>
  lenS t2 fun t18 =>
  bi BinOp.rem t16 t18 fun t19 =>
  drH w fun S w =>
  ixs 32 t2 t19 fun t22 =>
  rdS S (fun w => ldN 32 t22 w.heap) fun t23 =>
  ixs 1 t3 t19 fun t26 =>
  rdS S (fun w => ld1 t26 w.heap) fun t27 =>
  rdS S (rdP P (Builtin.min_ #[T_int64, T_int64] T_int64 #[t27, (Value.int IntKind.i64 4611686018427387904)])) fun t28 =>
  bi BinOp.add t28 (Value.int IntKind.i64 1) fun t29 =>
  fad 1 t5 fun t30 =>
  rdS S (fun w => ld1 t30 w.heap) fun t31 =>
  rdS S (rdP P (Instr.build T_api_Block #[(0, t23), (1, t29), (2, t31)])) fun t32 =>
  efC (fun w K => stN 34 t8 t32 w (K undef)) w fun S _ w =>
  ldN 34 t8 w.heap fun r1 =>
  R r1 w)
theorem e_law11_block (t0 t1 t2 t3 : Value) (w : World) (R : Value → World → Prop) : intp P A_law11_block (bodyOf Tryd.f18) (ini [t0, t1, t2, t3]) w (retK P Tryd.f18.results.toList R) (fun _ _ _ => False) (retK P Tryd.f18.results.toList R) = c_law11_block t0 t1 t2 t3 w R := by kernel_rfl
theorem k_law11_block : chk P Tryd.f18.ntmps A_law11_block (bodyOf Tryd.f18) = true := by kernel_rfl
theorem l_law11_block {t0 t1 t2 t3 : Value} {w : World} {R : Value → World → Prop} (h : c_law11_block t0 t1 t2 t3 w R) : cal P f_law11_block [t0, t1, t2, t3] w R :=
  calls_of mixed Tryd.func18 rfl (by kernel_rfl) k_law11_block (Eq.mpr (e_law11_block t0 t1 t2 t3 w R) h)
theorem s_law11_block {t0 t1 t2 t3 : Value} {w : World} {Q : Value → World → Prop} (h : ∀ R : Value → World → Prop, (∀ v w', Q v w' → R v w') → c_law11_block t0 t1 t2 t3 w R) : cal P f_law11_block [t0, t1, t2, t3] w Q := l_law11_block (h Q fun _ _ h => h)

/-- (*flurry/tree.Tree).Add -/
def A_tree_Tree_Add : An := (An.s (An.r []) (An.s (An.s (An.r []) (An.s (An.s (An.r []) An.o) An.o)) (An.s (An.r []) (An.s (An.s (An.r []) (An.s (An.s (An.r []) An.o) An.o)) (An.s (An.s (An.r []) (An.s (An.s (An.r []) An.o) An.o)) (An.s (An.r []) (An.s (An.s (An.r [[38], [45]]) (An.s (An.s (An.r []) An.o) An.o)) (An.s (An.s (An.r []) (An.s (An.s (An.r []) An.o) An.o)) (An.s (An.dc [0, 1, 2, 3, 4, 5, 6, 7] [7] []) (An.s (An.dc [0, 1, 2, 3, 4, 5, 6, 7, 8, 9, 10] [7, 10] []) (An.s (An.r []) An.o)))))))))))
def c_tree_Tree_Add (t0 t1 : Value) (w : World) (R : Value → World → Prop) : Prop :=
  bx T_api_Block t1 w fun t3 w =>
  efP P (Instr.alloc T_api_ID true (.tuple #[])) w fun t4 w =>
  cal P f_tree_Tree_none [t0] w fun t11 w =>
  cnd t11
  (rdP P (Instr.build T_api_ID #[]) w fun t12 =>
  stN 32 t4 t12 w fun w =>
  ldN 32 t4 w.heap fun r0 =>
  R (Value.tuple #[r0, (Value.int IntKind.i64 2)]) w)
  (ldN 34 t3 w.heap fun t14 =>
  cal P f_block_ID [t14] w fun t15 w =>
  ext 0 t15 fun t16 =>
  ext 1 t15 fun t17 =>
  efP P (Instr.alloc T_api_ID true (.tuple #[])) w fun t6 w =>
  stN 32 t6 t16 w fun w =>
  bi BinOp.neq t17 (Value.int IntKind.i64 0) fun t19 =>
  cnd t19
  (rdP P (Instr.build T_api_ID #[]) w fun t20 =>
  stN 32 t4 t20 w fun w =>
  ldN 32 t4 w.heap fun r1 =>
  R (Value.tuple #[r1, t17]) w)
  (ldN 32 t6 w.heap fun t23 =>
  cal P f_tree_Tree_Has [t0, t23] w fun t24 w =>
  cnd t24
  (rdP P (Instr.build T_api_ID #[]) w fun t25 =>
  stN 32 t4 t25 w fun w =>
  ldN 32 t4 w.heap fun r2 =>
  R (Value.tuple #[r2, (Value.int IntKind.i64 110)]) w)
  (fad 0 t3 fun t28 =>
  ldN 32 t28 w.heap fun t29 =>
  cal P f_tree_Tree_level [t0, t29] w fun t30 w =>
  ext 0 t30 fun t31 =>
  ext 1 t30 fun t32 =>
  notB t32 fun t34 =>
  jn1 (fun k3 =>
  gif t34 false
  (fad 32 t3 fun t36 =>
  ld1 t36 w.heap fun t37 =>
  bi BinOp.lss t37 (Value.int IntKind.i64 1) fun t38 =>
  k3 t38 w)
  (k3 undef w)) fun _ t38_1 w =>
  pik t34 (Value.bool true) t38_1 fun t39 =>
  jn1 (fun k4 =>
  gif t39 false
  (fad 32 t3 fun t41 =>
  ld1 t41 w.heap fun t42 =>
  bi BinOp.sub t42 (Value.int IntKind.i64 1) fun t43 =>
  bi BinOp.neq t43 t31 fun t45 =>
  k4 t45 w)
  (k4 undef w)) fun _ t45_1 w =>
  pik t39 (Value.bool true) t45_1 fun t46 =>
  cnd t46
  (rdP P (Instr.build T_api_ID #[]) w fun t47 =>
  stN 32 t4 t47 w fun w =>
  ldN 32 t4 w.heap fun r5 =>
  R (Value.tuple #[r5, (Value.int IntKind.i64 31)]) w)
  (drw w fun w =>
  nilc t0 fun t49 =>
  fad 35 t49 fun t50 =>
  ld1 t50 w.heap fun t51 =>
  rdP P (Builtin.len_ #[T_map_api_ID_api_Block] T_int #[t51]) w fun t52 =>
  nilc t0 fun t54 =>
  fad 34 t54 fun t55 =>
  ld1 t55 w.heap fun t56 =>
  bi BinOp.geq t52 t56 fun t57 =>
  cnd t57
  (rdP P (Instr.build T_api_ID #[]) w fun t58 =>
  stN 32 t4 t58 w fun w =>
  ldN 32 t4 w.heap fun r6 =>
  R (Value.tuple #[r6, (Value.int IntKind.i64 6)]) w)
  (drH w fun S w =>
  nilc t0 fun t60 =>
  fad 35 t60 fun t61 =>
  rdS S (fun w => ld1 t61 w.heap) fun t62 =>
  rdS S (fun w => ldN 32 t6 w.heap) fun t63 =>
  rdS S (fun w => ldN 34 t3 w.heap) fun t64 =>
  efS S (cal P f_block_Clone [t64]) w fun t65 w =>
  efC (fun w K => efU P (Instr.mapUpdate T_map_api_ID_api_Block t62 t63 t65) w (K undef)) w fun S _ w =>
  drH w fun S w =>
  nilc t0 fun t68 =>
  fad 36 t68 fun t69 =>
  rdS S (fun w => ld1 t69 w.heap) fun t70 =>
  rdS S (fun w => ldN 32 t6 w.heap) fun t71 =>
  efS S (efP P (Instr.buildSlice T_sl_api_ID 1 #[(0, t71)])) w fun t72 w =>
  efC (efP P (Builtin.append_ #[T_sl_api_ID, T_sl_api_ID] T_sl_api_ID #[t70, t72])) w fun S t73 w =>
  nilc t0 fun t74 =>
  fad 36 t74 fun t75 =>
  efC (fun w K => st1 t75 t73 w (K undef)) w fun S _ w =>
  ldN 32 t6 w.heap fun t76 =>
  stN 32 t4 t76 w fun w =>
  ldN 32 t4 w.heap fun r7 =>
  R (Value.tuple #[r7, (Value.int IntKind.i64 0)]) w)))))
theorem e_tree_Tree_Add (t0 t1 : Value) (w : World) (R : Value → World → Prop) : intp P A_tree_Tree_Add (bodyOf Tryd.f19) (ini [t0, t1]) w (retK P Tryd.f19.results.toList R) (fun _ _ _ => False) (retK P Tryd.f19.results.toList R) = c_tree_Tree_Add t0 t1 w R := by kernel_rfl
theorem k_tree_Tree_Add : chk P Tryd.f19.ntmps A_tree_Tree_Add (bodyOf Tryd.f19) = true := by kernel_rfl
theorem l_tree_Tree_Add {t0 t1 : Value} {w : World} {R : Value → World → Prop} (h : c_tree_Tree_Add t0 t1 w R) : cal P f_tree_Tree_Add [t0, t1] w R :=
  calls_of mixed Tryd.func19 rfl (by kernel_rfl) k_tree_Tree_Add (Eq.mpr (e_tree_Tree_Add t0 t1 w R) h)
theorem s_tree_Tree_Add {t0 t1 : Value} {w : World} {Q : Value → World → Prop} (h : ∀ R : Value → World → Prop, (∀ v w', Q v w' → R v w') → c_tree_Tree_Add t0 t1 w R) : cal P f_tree_Tree_Add [t0, t1] w Q := l_tree_Tree_Add (h Q fun _ _ h => h)

/-- (*flurry/tree.Tree).Move -/
def A_tree_Tree_Move : An := (An.s (An.r []) (An.s (An.s (An.r []) (An.s (An.s (An.r []) An.o) An.o)) (An.s (An.dc [0, 1, 2, 3, 4, 5, 6, 7, 8, 9, 10, 11] [10] []) (An.s (An.s (An.r [[32]]) (An.s (An.s (An.r []) An.o) An.o)) (An.s (An.r []) (An.s (An.r []) (An.s (An.s (An.r []) (An.b (An.l [42] (An.s (An.r []) (An.s (An.s An.o An.o) (An.s (An.b (An.s (An.r []) (An.dc [0, 1, 2, 3, 4, 5] [5] []))) (An.r []))))))) (An.s (An.dc [0, 1, 2, 3, 4, 5] [5] []) (An.s (An.dc [0, 1, 2, 3, 4, 5, 6, 7, 8, 9, 10, 11, 12, 13, 14, 15] [15] []) (An.s (An.r []) An.o))))))))))
def c_tree_Tree_Move (t0 t1 : Value) (w : World) (R : Value → World → Prop) : Prop :=
  bx T_p_tree_Tree t0 w fun t2 w =>
  bx T_api_ID t1 w fun t3 w =>
  ld1 t2 w.heap fun t12 =>
  cal P f_tree_Tree_none [t12] w fun t13 w =>
  cnd t13
  (R (Value.tuple #[(Value.slice none 0 0), (Value.int IntKind.i64 2)]) w)
  (drH w fun S w =>
  rdS S (fun w => ld1 t2 w.heap) fun t15 =>
  nilc t15 fun t16 =>
  fad 35 t16 fun t17 =>
  rdS S (fun w => ld1 t17 w.heap) fun t18 =>
  rdS S (fun w => ldN 32 t3 w.heap) fun t19 =>
  rdS S (rdP P (Instr.lookup T_map_api_ID_api_Block t18 t19 true)) fun t20 =>
  ext 0 t20 fun t21 =>
  ext 1 t20 fun t22 =>
  efS S (efP P (Instr.alloc T_api_Block true (.tuple #[]))) w fun t6 w =>
  efC (fun w K => stN 34 t6 t21 w (K undef)) w fun S _ w =>
  drw w fun w =>
  notB t22 fun t24 =>
  jn1 (fun k0 =>
  gif t24 false
  (fad 0 t6 fun t26 =>
  ldN 32 t26 w.heap fun t27 =>
  ld1 t2 w.heap fun t28 =>
  nilc t28 fun t29 =>
  fad 1 t29 fun t30 =>
  ldN 32 t30 w.heap fun t31 =>
  rdP P (eqS BinOp.neq T_api_ID (Operand.tmp 27) (Operand.tmp 31) t27 t31) w fun t32 =>
  k0 t32 w)
  (k0 undef w)) fun _ t32_1 w =>
  pik t24 (Value.bool true) t32_1 fun t33 =>
  cnd t33
  (R (Value.tuple #[(Value.slice none 0 0), (Value.int IntKind.i64 4)]) w)
  (ld1 t2 w.heap fun t34 =>
  cal P f_tree_Tree_those [t34, (Value.func (Fn.func f_tree_Tree_Move_1) #[] #[t2, t3])] w fun t36 w =>
  ld1 t2 w.heap fun t37 =>
  cal P f_tree_Tree_those [t37, (Value.func (Fn.func f_tree_Tree_Move_2) #[] #[t3, t2])] w fun t39 w =>
  lenS t36 fun t41 =>
  lp1 (Value.int IntKind.i64 0) w fun _ t42 w again1 =>
  bi BinOp.lss t42 t41 fun t43 =>
  cnd t43
  (ixs 32 t36 t42 fun t44 =>
  ldN 32 t44 w.heap fun t45 =>
  efP P (Instr.alloc T_api_ID true (.tuple #[])) w fun t11 w =>
  stN 32 t11 t45 w fun w =>
  drH w fun S w =>
  rdS S (fun w => ld1 t2 w.heap) fun t46 =>
  nilc t46 fun t47 =>
  fad 35 t47 fun t48 =>
  rdS S (fun w => ld1 t48 w.heap) fun t49 =>
  rdS S (fun w => ldN 32 t11 w.heap) fun t50 =>
  efC (efP P (Builtin.delete_ #[T_map_api_ID_api_Block, T_api_ID] T_ #[t49, t50])) w fun S _ w =>
  bi BinOp.add t42 (Value.int IntKind.i64 1) fun t51 =>
  again1 t51 w)
  (drH w fun S w =>
  rdS S (fun w => ld1 t2 w.heap) fun t52 =>
  nilc t52 fun t53 =>
  fad 35 t53 fun t54 =>
  rdS S (fun w => ld1 t54 w.heap) fun t55 =>
  rdS S (fun w => ldN 32 t3 w.heap) fun t56 =>
  efC (efP P (Builtin.delete_ #[T_map_api_ID_api_Block, T_api_ID] T_ #[t55, t56])) w fun S _ w =>
  drH w fun S w =>
  rdS S (fun w => ld1 t2 w.heap) fun t57 =>
  rdS S (fun w => ld1 t2 w.heap) fun t58 =>
  rdS S (fun w => ld1 t2 w.heap) fun t59 =>
  rdS S (fun w => ldN 32 t3 w.heap) fun t60 =>
  fad 32 t6 fun t61 =>
  rdS S (fun w => ld1 t61 w.heap) fun t62 =>
  nilc t57 fun t64 =>
  fad 1 t64 fun t65 =>
  efS S (fun w K => stN 32 t65 t60 w (K undef)) w fun _ w =>
  nilc t58 fun t66 =>
  fad 33 t66 fun t67 =>
  efS S (fun w K => st1 t67 t62 w (K undef)) w fun _ w =>
  nilc t59 fun t68 =>
  fad 36 t68 fun t69 =>
  efC (fun w K => st1 t69 t39 w (K undef)) w fun S _ w =>
  R (Value.tuple #[t36, (Value.int IntKind.i64 0)]) w)))
theorem e_tree_Tree_Move (t0 t1 : Value) (w : World) (R : Value → World → Prop) : intp P A_tree_Tree_Move (bodyOf Tryd.f20) (ini [t0, t1]) w (retK P Tryd.f20.results.toList R) (fun _ _ _ => False) (retK P Tryd.f20.results.toList R) = c_tree_Tree_Move t0 t1 w R := by kernel_rfl
theorem k_tree_Tree_Move : chk P Tryd.f20.ntmps A_tree_Tree_Move (bodyOf Tryd.f20) = true := by kernel_rfl
theorem l_tree_Tree_Move {t0 t1 : Value} {w : World} {R : Value → World → Prop} (h : c_tree_Tree_Move t0 t1 w R) : cal P f_tree_Tree_Move [t0, t1] w R :=
  calls_of mixed Tryd.func20 rfl (by kernel_rfl) k_tree_Tree_Move (Eq.mpr (e_tree_Tree_Move t0 t1 w R) h)
theorem s_tree_Tree_Move {t0 t1 : Value} {w : World} {Q : Value → World → Prop} (h : ∀ R : Value → World → Prop, (∀ v w', Q v w' → R v w') → c_tree_Tree_Move t0 t1 w R) : cal P f_tree_Tree_Move [t0, t1] w Q := l_tree_Tree_Move (h Q fun _ _ h => h)

/-- flurry/flurryref03.Same -/
def A_ref03_Same : An := (An.s (An.r []) (An.s (An.r [[15], [24]]) An.o))
def c_ref03_Same (t0 t1 : Value) (w : World) (R : Value → World → Prop) : Prop :=
  bx T_api_Block t0 w fun t2 w =>
  bx T_api_Block t1 w fun t3 w =>
  fad 0 t2 fun t5 =>
  ldN 32 t5 w.heap fun t6 =>
  fad 0 t3 fun t7 =>
  ldN 32 t7 w.heap fun t8 =>
  rdP P (eqS BinOp.eql T_api_ID (Operand.tmp 6) (Operand.tmp 8) t6 t8) w fun t9 =>
  jn1 (fun k0 =>
  gif t9 true
  (fad 32 t2 fun t11 =>
  ld1 t11 w.heap fun t12 =>
  fad 32 t3 fun t13 =>
  ld1 t13 w.heap fun t14 =>
  bi BinOp.eql t12 t14 fun t15 =>
  k0 t15 w)
  (k0 undef w)) fun _ t15_1 w =>
  pik t9 t15_1 (Value.bool false) fun t16 =>
  jn1 (fun k1 =>
  gif t16 true
  (fad 33 t2 fun t18 =>
  ld1 t18 w.heap fun t19 =>
  rdP P (convert T_sl_uint8 T_string t19) w fun t20 =>
  fad 33 t3 fun t21 =>
  ld1 t21 w.heap fun t22 =>
  rdP P (convert T_sl_uint8 T_string t22) w fun t23 =>
  rdP P (eqS BinOp.eql T_string (Operand.tmp 20) (Operand.tmp 23) t20 t23) w fun t24 =>
  k1 t24 w)
  (k1 undef w)) fun _ t24_1 w =>
  pik t16 t24_1 (Value.bool false) fun t25 =>
  R t25 w
theorem e_ref03_Same (t0 t1 : Value) (w : World) (R : Value → World → Prop) : intp P A_ref03_Same (bodyOf Tryd.f21) (ini [t0, t1]) w (retK P Tryd.f21.results.toList R) (fun _ _ _ => False) (retK P Tryd.f21.results.toList R) = c_ref03_Same t0 t1 w R := by kernel_rfl
theorem k_ref03_Same : chk P Tryd.f21.ntmps A_ref03_Same (bodyOf Tryd.f21) = true := by kernel_rfl
theorem l_ref03_Same {t0 t1 : Value} {w : World} {R : Value → World → Prop} (h : c_ref03_Same t0 t1 w R) : cal P f_ref03_Same [t0, t1] w R :=
  calls_of mixed Tryd.func21 rfl (by kernel_rfl) k_ref03_Same (Eq.mpr (e_ref03_Same t0 t1 w R) h)
theorem s_ref03_Same {t0 t1 : Value} {w : World} {Q : Value → World → Prop} (h : ∀ R : Value → World → Prop, (∀ v w', Q v w' → R v w') → c_ref03_Same t0 t1 w R) : cal P f_ref03_Same [t0, t1] w Q := l_ref03_Same (h Q fun _ _ h => h)

/-- flurry/flurrylaw11.made -/
def A_law11_made : An := (An.s (An.r []) (An.s (An.r []) (An.s (An.r []) (An.s (An.s (An.r [[49]]) (An.s (An.s (An.r []) An.o) An.o)) (An.s (An.s (An.r []) (An.s (An.s (An.r []) An.o) An.o)) (An.s (An.r []) (An.s (An.r []) (An.s (An.s (An.r []) (An.b (An.l [11, 65] (An.s (An.r []) (An.s (An.s An.o An.o) (An.s (An.j [11] (An.b (An.s (An.r []) (An.s (An.dt (Pl.step 0 (Pl.step 1 (Pl.step 2 (Pl.step 3 (Pl.step 4 (Pl.step 5 (Pl.step 6 (Pl.br (Pl.alt 7 (Pl.step 8 (Pl.step 9 Pl.nil)) (Pl.alt 8 (Pl.step 7 (Pl.step 9 Pl.nil)) Pl.non)))))))))) [7, 9] [14]) (An.s (An.r []) (An.s (An.r []) (An.s (An.s (An.r []) (An.b (An.l [88] (An.s (An.r []) (An.s (An.s An.o An.o) (An.s (An.b (An.s (An.r []) (An.r []))) (An.r []))))))) (An.s (An.r []) (An.s (An.s (An.r [[111]]) (An.s (An.s (An.r []) An.o) An.o)) (An.s (An.r []) (An.s (An.dt (Pl.step 0 (Pl.step 1 (Pl.step 2 (Pl.step 3 (Pl.step 4 (Pl.step 5 (Pl.step 8 (Pl.step 9 (Pl.step 10 (Pl.br (Pl.alt 6 (Pl.br (Pl.alt 7 (Pl.step 11 (Pl.step 12 (Pl.step 13 (Pl.step 14 (Pl.step 15 (Pl.step 16 Pl.nil)))))) (Pl.alt 11 (Pl.step 7 (Pl.step 12 (Pl.step 13 (Pl.step 14 (Pl.step 15 (Pl.step 16 Pl.nil)))))) Pl.non))) (Pl.alt 11 (Pl.step 6 (Pl.step 7 (Pl.step 12 (Pl.step 13 (Pl.step 14 (Pl.step 15 (Pl.step 16 Pl.nil))))))) Pl.non)))))))))))) [12, 15] [11]) An.o))))))))))) (An.r []))))))) (An.s (An.r []) An.o)))))))))
def c_law11_made (t0 t1 : Value) (w : World) (R : Value → World → Prop) : Prop :=
  bx T_flurrylaw11_Start t0 w fun t2 w =>
  fad 0 t2 fun t22 =>
  ldN 32 t22 w.heap fun t23 =>
  fad 32 t2 fun t24 =>
  ld1 t24 w.heap fun t25 =>
  fad 33 t2 fun t26 =>
  ld1 t26 w.heap fun t27 =>
  cal P f_tree_New [t23, t25, t27] w fun t28 w =>
  ext 0 t28 fun t29 =>
  ext 1 t28 fun t30 =>
  fad 0 t2 fun t32 =>
  ldN 32 t32 w.heap fun t33 =>
  fad 32 t2 fun t34 =>
  ld1 t34 w.heap fun t35 =>
  fad 33 t2 fun t36 =>
  ld1 t36 w.heap fun t37 =>
  cal P f_ref11_New [t33, t35, t37] w fun t38 w =>
  ext 0 t38 fun t39 =>
  ext 1 t38 fun t40 =>
  bi BinOp.neq t30 t40 fun t43 =>
  jn1 (fun k0 =>
  gif t43 false
  (nilP false t29 fun t46 =>
  bi BinOp.neq t30 (Value.int IntKind.i64 0) fun t48 =>
  rdP P (eqS BinOp.neq T_bool (Operand.tmp 46) (Operand.tmp 48) t46 t48) w fun t49 =>
  k0 t49 w)
  (k0 undef w)) fun _ t49_1 w =>
  pik t43 (Value.bool true) t49_1 fun t50 =>
  cnd t50
  (R (Value.tuple #[(Value.pointer none), (Value.bool false)]) w)
  (nilP false t29 fun t52 =>
  cnd t52
  (R (Value.tuple #[(Value.pointer none), (Value.bool true)]) w)
  (fad 0 t2 fun t55 =>
  ldN 32 t55 w.heap fun t56 =>
  efP P (Instr.buildSlice T_sl_api_ID 1 #[(0, t56)]) w fun t57 w =>
  rdP P (Instr.build T_flurrylaw11_both #[(0, t29), (1, t39), (2, t57)]) w fun t58 =>
  bx T_flurrylaw11_both t58 w fun t59 w =>
  fad 32 t2 fun t60 =>
  ld1 t60 w.heap fun t61 =>
  efP P (Instr.buildSlice T_sl_int64 1 #[(0, t61)]) w fun t62 w =>
  lenS t1 fun t64 =>
  lp2 t62 (Value.int IntKind.i64 0) w fun _ t11 t65 w again1 =>
  bi BinOp.lss t65 t64 fun t66 =>
  cnd t66
  (jn1 (fun k2 =>
  ixs 37 t1 t65 fun t67 =>
  ldN 37 t67 w.heap fun t68 =>
  efP P (Instr.alloc T_flurrylaw11_Grow true (.tuple #[])) w fun t13 w =>
  stN 37 t13 t68 w fun w =>
  drH w fun S w =>
  jn1 (fun k3 =>
  rdS S (fun w => ldN 34 t2 w.heap) fun t69 =>
  rdS S (fun w => ldN 37 t13 w.heap) fun t70 =>
  nilc t59 fun t72 =>
  fad 2 t72 fun t73 =>
  rdS S (fun w => ld1 t73 w.heap) fun t74 =>
  (efC (cal P f_law11_block [t69, t70, t74, t11]) w fun S t76_1 w =>
  efS S (efP P (Instr.alloc T_api_Block true (.tuple #[]))) w fun t14_1 w =>
  efC (fun w K => stN 34 t14_1 t76_1 w (K undef)) w fun S _ w =>
  k3 t14_1 w) ∧
  ((efS S (efP P (Instr.alloc T_api_Block true (.tuple #[]))) w fun t14 w =>
  efC (cal P f_law11_block [t69, t70, t74, t11]) w fun S t76 w =>
  efC (fun w K => stN 34 t14 t76 w (K undef)) w fun S _ w =>
  k3 t14 w) ∧
  (True))) fun _ t14_2 w =>
  ldN 34 t14_2 w.heap fun t77 =>
  cal P f_ref03_Clone [t77] w fun t78 w =>
  efP P (Instr.alloc T_api_Block true (.tuple #[])) w fun t15 w =>
  stN 34 t15 t78 w fun w =>
  ldN 34 t15 w.heap fun t81 =>
  cal P f_tree_Tree_Add [t29, t81] w fun t82 w =>
  ext 0 t82 fun t83 =>
  ext 1 t82 fun t84 =>
  efP P (Instr.alloc T_api_ID true (.tuple #[])) w fun t16 w =>
  stN 32 t16 t83 w fun w =>
  fad 33 t15 fun t85 =>
  ld1 t85 w.heap fun t86 =>
  lenS t86 fun t87 =>
  lp1 (Value.int IntKind.i64 0) w fun _ t88 w again4 =>
  bi BinOp.lss t88 t87 fun t89 =>
  cnd t89
  (fad 33 t15 fun t91 =>
  ld1 t91 w.heap fun t92 =>
  ixs 1 t92 t88 fun t94 =>
  ld1 t94 w.heap fun t95 =>
  bi BinOp.xor t95 (Value.int IntKind.u8 255) fun t96 =>
  ixs 1 t92 t88 fun t97 =>
  st1 t97 t96 w fun w =>
  bi BinOp.add t88 (Value.int IntKind.i64 1) fun t98 =>
  again4 t98 w)
  (ldN 34 t14_2 w.heap fun t101 =>
  cal P f_ref11_Tree_Add [t39, t101] w fun t102 w =>
  ext 0 t102 fun t103 =>
  ext 1 t102 fun t104 =>
  efP P (Instr.alloc T_api_ID true (.tuple #[])) w fun t19 w =>
  stN 32 t19 t103 w fun w =>
  ldN 32 t16 w.heap fun t105 =>
  ldN 32 t19 w.heap fun t106 =>
  rdP P (eqS BinOp.neq T_api_ID (Operand.tmp 105) (Operand.tmp 106) t105 t106) w fun t107 =>
  jn1 (fun k5 =>
  gif t107 false
  (bi BinOp.neq t84 t104 fun t111 =>
  k5 t111 w)
  (k5 undef w)) fun _ t111_1 w =>
  pik t107 (Value.bool true) t111_1 fun t112 =>
  cnd t112
  (R (Value.tuple #[(Value.pointer none), (Value.bool false)]) w)
  (bi BinOp.eql t84 (Value.int IntKind.i64 0) fun t114 =>
  cnd t114
  (drH w fun S w =>
  jn1 (fun k6 =>
  nilc t59 fun t117 =>
  fad 2 t117 fun t118 =>
  rdS S (fun w => ld1 t118 w.heap) fun t119 =>
  rdS S (fun w => ldN 32 t16 w.heap) fun t120 =>
  fad 32 t14_2 fun t124 =>
  rdS S (fun w => ld1 t124 w.heap) fun t125 =>
  (efS S (efP P (Instr.buildSlice T_sl_api_ID 1 #[(0, t120)])) w fun t121_1 w =>
  (efS S (efP P (Builtin.append_ #[T_sl_api_ID, T_sl_api_ID] T_sl_api_ID #[t119, t121_1])) w fun t122_2 w =>
  efS S (efP P (Instr.buildSlice T_sl_int64 1 #[(0, t125)])) w fun t126_2 w =>
  efC (efP P (Builtin.append_ #[T_sl_int64, T_sl_int64] T_sl_int64 #[t11, t126_2])) w fun S t127_2 w =>
  nilc t59 fun t128_2 =>
  fad 2 t128_2 fun t129_2 =>
  efC (fun w K => st1 t129_2 t122_2 w (K undef)) w fun S _ w =>
  k6 t127_2 w) ∧
  ((efS S (efP P (Instr.buildSlice T_sl_int64 1 #[(0, t125)])) w fun t126_1 w =>
  efS S (efP P (Builtin.append_ #[T_sl_api_ID, T_sl_api_ID] T_sl_api_ID #[t119, t121_1])) w fun t122_1 w =>
  efC (efP P (Builtin.append_ #[T_sl_int64, T_sl_int64] T_sl_int64 #[t11, t126_1])) w fun S t127_1 w =>
  nilc t59 fun t128_1 =>
  fad 2 t128_1 fun t129_1 =>
  efC (fun w K => st1 t129_1 t122_1 w (K undef)) w fun S _ w =>
  k6 t127_1 w) ∧
  (True))) ∧
  ((efS S (efP P (Instr.buildSlice T_sl_int64 1 #[(0, t125)])) w fun t126 w =>
  efS S (efP P (Instr.buildSlice T_sl_api_ID 1 #[(0, t120)])) w fun t121 w =>
  efS S (efP P (Builtin.append_ #[T_sl_api_ID, T_sl_api_ID] T_sl_api_ID #[t119, t121])) w fun t122 w =>
  efC (efP P (Builtin.append_ #[T_sl_int64, T_sl_int64] T_sl_int64 #[t11, t126])) w fun S t127 w =>
  nilc t59 fun t128 =>
  fad 2 t128 fun t129 =>
  efC (fun w K => st1 t129 t122 w (K undef)) w fun S _ w =>
  k6 t127 w) ∧
  (True))) fun _ t11_1 w =>
  k2 t11_1 w)
  (k2 t11 w)))) fun _ t11_2 w =>
  bi BinOp.add t65 (Value.int IntKind.i64 1) fun t130 =>
  again1 t11_2 t130 w)
  (R (Value.tuple #[t59, (Value.bool true)]) w)))
theorem e_law11_made (t0 t1 : Value) (w : World) (R : Value → World → Prop) : intp P A_law11_made (bodyOf Tryd.f22) (ini [t0, t1]) w (retK P Tryd.f22.results.toList R) (fun _ _ _ => False) (retK P Tryd.f22.results.toList R) = c_law11_made t0 t1 w R := by kernel_rfl
theorem k_law11_made : chk P Tryd.f22.ntmps A_law11_made (bodyOf Tryd.f22) = true := by kernel_rfl
theorem l_law11_made {t0 t1 : Value} {w : World} {R : Value → World → Prop} (h : c_law11_made t0 t1 w R) : cal P f_law11_made [t0, t1] w R :=
  calls_of mixed Tryd.func22 rfl (by kernel_rfl) k_law11_made (Eq.mpr (e_law11_made t0 t1 w R) h)
theorem s_law11_made {t0 t1 : Value} {w : World} {Q : Value → World → Prop} (h : ∀ R : Value → World → Prop, (∀ v w', Q v w' → R v w') → c_law11_made t0 t1 w R) : cal P f_law11_made [t0, t1] w Q := l_law11_made (h Q fun _ _ h => h)

/-- (*flurry/flurrylaw11.both).whole -/
def A_law11_both_whole : An := (An.s (An.r []) (An.s (An.r []) (An.s (An.r []) (An.s (An.s (An.d [0, 1, 2, 3, 4, 5, 6, 7, 8, 9, 10, 11, 12, 13, 14, 15, 16, 17, 18, 19, 20, 21, 22, 23, 24, 26, 27, 25, 28, 29, 30, 31, 32, 33, 34, 37, 35, 36, 38, 39, 40, 41, 42, 43, 44, 45, 48, 49, 50, 51, 52, 46, 47, 53, 54, 55, 56, 57, 58, 59, 60, 61] [[43], [53], [64], [79], [85]]) (An.s (An.s (An.r []) An.o) An.o)) (An.s (An.s (An.r []) (An.b (An.l [92] (An.s (An.r []) (An.s (An.s An.o An.o) (An.s (An.b (An.s (An.r []) (An.s (An.s (An.dc [0, 1, 2, 3, 4, 5, 6, 7, 8, 9, 10, 12, 13, 14, 15, 16, 17, 11, 18, 19, 20, 21, 22, 23, 24, 25, 26, 27, 29, 30, 31, 32, 33, 34, 28, 35, 36, 37] [2] [[115], [132]]) (An.s (An.s (An.r []) An.o) An.o)) (An.s (An.r []) (An.b (An.l [139] (An.s (An.r []) (An.s (An.s An.o An.o) (An.s (An.b (An.s (An.r []) (An.s (An.dc [0, 1, 2, 3, 4, 5, 7, 8, 9, 10, 11, 12, 6, 13, 14] [13] []) (An.s (An.s (An.r []) An.o) An.o)))) (An.r [])))))))))) (An.r []))))))) (An.s (An.r []) An.o))))))
def c_law11_both_whole (t0 t1 : Value) (w : World) (R : Value → World → Prop) : Prop :=
  bx T_api_ID t1 w fun t3 w =>
  nilc t0 fun t14 =>
  fad 0 t14 fun t15 =>
  ld1 t15 w.heap fun t16 =>
  cal P f_tree_Tree_Root [t16] w fun t17 w =>
  ext 0 t17 fun t18 =>
  ext 1 t17 fun t19 =>
  efP P (Instr.alloc T_api_ID true (.tuple #[])) w fun t5 w =>
  stN 32 t5 t18 w fun w =>
  nilc t0 fun t21 =>
  fad 1 t21 fun t22 =>
  ld1 t22 w.heap fun t23 =>
  cal P f_ref11_Tree_All [t23] w fun t24 w =>
  drH w fun S w =>
  rdS S (fun w => ldN 32 t5 w.heap) fun t25 =>
  nilc t0 fun t27 =>
  fad 1 t27 fun t28 =>
  rdS S (fun w => ld1 t28 w.heap) fun t29 =>
  nilc t29 fun t30 =>
  fad 0 t30 fun t31 =>
  rdS S (fun w => ldN 32 t31 w.heap) fun t32 =>
  rdS S (rdP P (eqS BinOp.neq T_api_ID (Operand.tmp 25) (Operand.tmp 32) t25 t32)) fun t33 =>
  jn1 (fun k0 =>
  gif t33 false
  (nilc t0 fun t37 =>
  fad 1 t37 fun t38 =>
  rdS S (fun w => ld1 t38 w.heap) fun t39 =>
  nilc t39 fun t40 =>
  fad 32 t40 fun t41 =>
  rdS S (fun w => ld1 t41 w.heap) fun t42 =>
  bi BinOp.neq t19 t42 fun t43 =>
  k0 t43 w)
  (k0 undef w)) fun _ t43_1 w =>
  pik t33 (Value.bool true) t43_1 fun t44 =>
  jn1 (fun k1 =>
  gif t44 false
  (nilc t0 fun t47 =>
  fad 0 t47 fun t48 =>
  rdS S (fun w => ld1 t48 w.heap) fun t49 =>
  lenS t24 fun t52 =>
  efS S (cal P f_tree_Tree_Len [t49]) w fun t50 w =>
  bi BinOp.neq t50 t52 fun t53 =>
  k1 t53 w)
  (k1 undef w)) fun _ t53_1 w =>
  pik t44 (Value.bool true) t53_1 fun t54 =>
  jn1 (fun k2 =>
  gif t54 false
  (nilc t0 fun t57 =>
  fad 0 t57 fun t58 =>
  rdS S (fun w => ld1 t58 w.heap) fun t59 =>
  efS S (cal P f_tree_Tree_All [t59]) w fun t60 w =>
  efS S (cal P f_law11_told [t60, (Value.int IntKind.i64 1048576)]) w fun t61 w =>
  efS S (cal P f_slices_Equal_api_ID_api_ID [t61, t24]) w fun t63 w =>
  notB t63 fun t64 =>
  k2 t64 w)
  (k2 undef w)) fun _ t64_1 w =>
  pik t54 (Value.bool true) t64_1 fun t65 =>
  jn1 (fun k3 =>
  gif t65 false
  (nilc t0 fun t68 =>
  fad 0 t68 fun t69 =>
  rdS S (fun w => ld1 t69 w.heap) fun t70 =>
  lenS t24 fun t75 =>
  rdS S (rdP P (Builtin.min_ #[T_int, T_int] T_int #[(Value.int IntKind.i64 2), t75])) fun t76 =>
  slc 32 t24 none (some t76) fun t77 =>
  efS S (cal P f_tree_Tree_All [t70]) w fun t71 w =>
  efS S (cal P f_law11_told [t71, (Value.int IntKind.i64 2)]) w fun t72 w =>
  efS S (cal P f_slices_Equal_api_ID_api_ID [t72, t77]) w fun t78 w =>
  notB t78 fun t79 =>
  k3 t79 w)
  (k3 undef w)) fun _ t79_1 w =>
  pik t65 (Value.bool true) t79_1 fun t80 =>
  jn1 (fun k4 =>
  gif t80 false
  (rdS S (fun w => ldN 32 t3 w.heap) fun t83 =>
  efS S (cal P f_law11_both_alike [t0, t83]) w fun t84 w =>
  notB t84 fun t85 =>
  k4 t85 w)
  (k4 undef w)) fun _ t85_1 w =>
  pik t80 (Value.bool true) t85_1 fun t86 =>
  cnd t86
  (R (Value.bool false) w)
  (nilc t0 fun t88 =>
  fad 2 t88 fun t89 =>
  ld1 t89 w.heap fun t90 =>
  lenS t90 fun t91 =>
  lp1 (Value.int IntKind.i64 0) w fun _ t92 w again5 =>
  bi BinOp.lss t92 t91 fun t93 =>
  cnd t93
  (ixs 32 t90 t92 fun t94 =>
  ldN 32 t94 w.heap fun t95 =>
  efP P (Instr.alloc T_api_ID true (.tuple #[])) w fun t9 w =>
  stN 32 t9 t95 w fun w =>
  drH w fun S w =>
  rdS S (fun w => ldN 32 t9 w.heap) fun t97 =>
  efC (cal P f_law11_both_alike [t0, t97]) w fun S t98 w =>
  notB t98 fun t99 =>
  jn1 (fun k6 =>
  gif t99 false
  (nilc t0 fun t102 =>
  fad 0 t102 fun t103 =>
  rdS S (fun w => ld1 t103 w.heap) fun t104 =>
  rdS S (fun w => ldN 32 t9 w.heap) fun t105 =>
  rdS S (fun w => ldN 32 t3 w.heap) fun t106 =>
  nilc t0 fun t109 =>
  fad 1 t109 fun t110 =>
  rdS S (fun w => ld1 t110 w.heap) fun t111 =>
  rdS S (fun w => ldN 32 t9 w.heap) fun t112 =>
  rdS S (fun w => ldN 32 t3 w.heap) fun t113 =>
  efS S (cal P f_tree_Tree_Within [t104, t105, t106]) w fun t107 w =>
  efS S (cal P f_ref11_Tree_Within [t111, t112, t113]) w fun t114 w =>
  rdS S (rdP P (eqS BinOp.neq T_bool (Operand.tmp 107) (Operand.tmp 114) t107 t114)) fun t115 =>
  k6 t115 w)
  (k6 undef w)) fun _ t115_1 w =>
  pik t99 (Value.bool true) t115_1 fun t116 =>
  jn1 (fun k7 =>
  gif t116 false
  (nilc t0 fun t119 =>
  fad 0 t119 fun t120 =>
  rdS S (fun w => ld1 t120 w.heap) fun t121 =>
  rdS S (fun w => ldN 32 t3 w.heap) fun t122 =>
  rdS S (fun w => ldN 32 t9 w.heap) fun t123 =>
  nilc t0 fun t126 =>
  fad 1 t126 fun t127 =>
  rdS S (fun w => ld1 t127 w.heap) fun t128 =>
  rdS S (fun w => ldN 32 t3 w.heap) fun t129 =>
  rdS S (fun w => ldN 32 t9 w.heap) fun t130 =>
  efS S (cal P f_tree_Tree_Within [t121, t122, t123]) w fun t124 w =>
  efS S (cal P f_ref11_Tree_Within [t128, t129, t130]) w fun t131 w =>
  rdS S (rdP P (eqS BinOp.neq T_bool (Operand.tmp 124) (Operand.tmp 131) t124 t131)) fun t132 =>
  k7 t132 w)
  (k7 undef w)) fun _ t132_1 w =>
  pik t116 (Value.bool true) t132_1 fun t133 =>
  cnd t133
  (R (Value.bool false) w)
  (nilc t0 fun t135 =>
  fad 2 t135 fun t136 =>
  ld1 t136 w.heap fun t137 =>
  lenS t137 fun t138 =>
  lp1 (Value.int IntKind.i64 0) w fun _ t139 w again8 =>
  bi BinOp.lss t139 t138 fun t140 =>
  cnd t140
  (ixs 32 t137 t139 fun t141 =>
  ldN 32 t141 w.heap fun t142 =>
  efP P (Instr.alloc T_api_ID true (.tuple #[])) w fun t11 w =>
  stN 32 t11 t142 w fun w =>
  drH w fun S w =>
  nilc t0 fun t144 =>
  fad 0 t144 fun t145 =>
  rdS S (fun w => ld1 t145 w.heap) fun t146 =>
  rdS S (fun w => ldN 32 t9 w.heap) fun t147 =>
  rdS S (fun w => ldN 32 t11 w.heap) fun t148 =>
  nilc t0 fun t151 =>
  fad 1 t151 fun t152 =>
  rdS S (fun w => ld1 t152 w.heap) fun t153 =>
  rdS S (fun w => ldN 32 t9 w.heap) fun t154 =>
  rdS S (fun w => ldN 32 t11 w.heap) fun t155 =>
  efS S (cal P f_tree_Tree_Within [t146, t147, t148]) w fun t149 w =>
  efC (cal P f_ref11_Tree_Within [t153, t154, t155]) w fun S t156 w =>
  rdS S (rdP P (eqS BinOp.neq T_bool (Operand.tmp 149) (Operand.tmp 156) t149 t156)) fun t157 =>
  cnd t157
  (R (Value.bool false) w)
  (bi BinOp.add t139 (Value.int IntKind.i64 1) fun t158 =>
  again8 t158 w))
  (bi BinOp.add t92 (Value.int IntKind.i64 1) fun t159 =>
  again5 t159 w)))
  (R (Value.bool true) w))
theorem e_law11_both_whole (t0 t1 : Value) (w : World) (R : Value → World → Prop) : intp P A_law11_both_whole (bodyOf Tryd.f23) (ini [t0, t1]) w (retK P Tryd.f23.results.toList R) (fun _ _ _ => False) (retK P Tryd.f23.results.toList R) = c_law11_both_whole t0 t1 w R := by kernel_rfl
theorem k_law11_both_whole : chk P Tryd.f23.ntmps A_law11_both_whole (bodyOf Tryd.f23) = true := by kernel_rfl
theorem l_law11_both_whole {t0 t1 : Value} {w : World} {R : Value → World → Prop} (h : c_law11_both_whole t0 t1 w R) : cal P f_law11_both_whole [t0, t1] w R :=
  calls_of mixed Tryd.func23 rfl (by kernel_rfl) k_law11_both_whole (Eq.mpr (e_law11_both_whole t0 t1 w R) h)
theorem s_law11_both_whole {t0 t1 : Value} {w : World} {Q : Value → World → Prop} (h : ∀ R : Value → World → Prop, (∀ v w', Q v w' → R v w') → c_law11_both_whole t0 t1 w R) : cal P f_law11_both_whole [t0, t1] w Q := l_law11_both_whole (h Q fun _ _ h => h)

/-- flurry/flurrylaw11.told -/
def A_law11_told : AnY := (AnY.s (AnY.c (An.r [])) (AnY.s (AnY.c (An.r [])) (AnY.s (AnY.s (AnY.c (An.r [])) (AnY.s (AnY.s (AnY.c (An.r [])) AnY.o) AnY.o)) (AnY.s (AnY.s (AnY.c (An.r [])) (AnY.b (AnY.f (AnY.c (An.r [])) (AnY.b (AnY.s (AnY.s (AnY.c (An.r [])) (AnY.s AnY.o AnY.o)) (AnY.c (An.r []))))))) (AnY.s (AnY.c (An.r [])) AnY.o)))))
def c_law11_told (t0 t1 : Value) (w : World) (R : Value → World → Prop) : Prop :=
  bx T_int t1 w fun t3 w =>
  efP P (Instr.alloc T_sl_api_ID true (.tuple #[])) w fun t5 w =>
  rdP P (eqS BinOp.eql T_iter_Seq_api_ID (Operand.tmp 7) (Operand.const Value.nilFunc) t0 Value.nilFunc) w fun t8 =>
  cnd t8
  (R (Value.slice none 0 0) w)
  (rng P t0 1 w (fun args0 w beg0 fin0 =>
  efP P (Instr.alloc T_api_ID true (.tuple #[])) w fun t6 w =>
  stN 32 t6 (args0.getD 0 undef) w fun w =>
  beg0 w fun w =>
  ld1 t5 w.heap fun t11 =>
  lenS t11 fun t12 =>
  ld1 t3 w.heap fun t13 =>
  bi BinOp.geq t12 t13 fun t14 =>
  cnd t14
  (fin0 (some (.exit 0)) w)
  (ld1 t5 w.heap fun t15 =>
  ldN 32 t6 w.heap fun t16 =>
  efP P (Instr.buildSlice T_sl_api_ID 1 #[(0, t16)]) w fun t17 w =>
  efP P (Builtin.append_ #[T_sl_api_ID, T_sl_api_ID] T_sl_api_ID #[t15, t17]) w fun t18 w =>
  st1 t5 t18 w fun w =>
  fin0 none w)) fun D0 => [(none, fun w =>
  ld1 t5 w.heap fun t19 =>
  takeD [D0] w fun w =>
  R t19 w), (some (.exit 0), fun w =>
  ld1 t5 w.heap fun t19_1 =>
  takeD [D0] w fun w =>
  R t19_1 w)])
theorem e_law11_told (t0 t1 : Value) (w : World) (R : Value → World → Prop) : intpY P A_law11_told (bodyOf Tryd.f24) (ini [t0, t1]) [] w (retY P Tryd.f24.results.toList R) (fun _ _ _ _ => False) (retY P Tryd.f24.results.toList R) = c_law11_told t0 t1 w R := by kernel_rfl
theorem k_law11_told : chkY P Tryd.f24.ntmps A_law11_told (bodyOf Tryd.f24) = true := by kernel_rfl
theorem l_law11_told {t0 t1 : Value} {w : World} {R : Value → World → Prop} (h : c_law11_told t0 t1 w R) : cal P f_law11_told [t0, t1] w R :=
  calls_ofY mixed Tryd.func24 rfl (by kernel_rfl) k_law11_told (Eq.mpr (e_law11_told t0 t1 w R) h)
theorem s_law11_told {t0 t1 : Value} {w : World} {Q : Value → World → Prop} (h : ∀ R : Value → World → Prop, (∀ v w', Q v w' → R v w') → c_law11_told t0 t1 w R) : cal P f_law11_told [t0, t1] w Q := l_law11_told (h Q fun _ _ h => h)

/-- (*flurry/tree.Tree).All -/
def A_tree_Tree_All : An := (An.s (An.r []) (An.s (An.r []) An.o))
def c_tree_Tree_All (t0 : Value) (w : World) (R : Value → World → Prop) : Prop :=
  cal P f_tree_Tree_those [t0, (Value.func (Fn.func f_tree_Tree_All_1) #[] #[])] w fun t4 w =>
  cal P f_tree_told [t4] w fun t5 w =>
  R t5 w
theorem e_tree_Tree_All (t0 : Value) (w : World) (R : Value → World → Prop) : intp P A_tree_Tree_All (bodyOf Tryd.f25) (ini [t0]) w (retK P Tryd.f25.results.toList R) (fun _ _ _ => False) (retK P Tryd.f25.results.toList R) = c_tree_Tree_All t0 w R := by kernel_rfl
theorem k_tree_Tree_All : chk P Tryd.f25.ntmps A_tree_Tree_All (bodyOf Tryd.f25) = true := by kernel_rfl
theorem l_tree_Tree_All {t0 : Value} {w : World} {R : Value → World → Prop} (h : c_tree_Tree_All t0 w R) : cal P f_tree_Tree_All [t0] w R :=
  calls_of mixed Tryd.func25 rfl (by kernel_rfl) k_tree_Tree_All (Eq.mpr (e_tree_Tree_All t0 w R) h)
theorem s_tree_Tree_All {t0 : Value} {w : World} {Q : Value → World → Prop} (h : ∀ R : Value → World → Prop, (∀ v w', Q v w' → R v w') → c_tree_Tree_All t0 w R) : cal P f_tree_Tree_All [t0] w Q := l_tree_Tree_All (h Q fun _ _ h => h)

/-- (*flurry/tree.Tree).Kids -/
def A_tree_Tree_Kids : An := (An.s (An.r []) (An.s (An.s (An.r []) (An.s (An.s (An.r []) An.o) An.o)) (An.s (An.r []) An.o)))
def c_tree_Tree_Kids (t0 t1 : Value) (w : World) (R : Value → World → Prop) : Prop :=
  bx T_p_tree_Tree t0 w fun t2 w =>
  bx T_api_ID t1 w fun t3 w =>
  ld1 t2 w.heap fun t5 =>
  ldN 32 t3 w.heap fun t6 =>
  cal P f_tree_Tree_Has [t5, t6] w fun t7 w =>
  notB t7 fun t8 =>
  cnd t8
  (cal P f_tree_told [(Value.slice none 0 0)] w fun t9 w =>
  R t9 w)
  (ld1 t2 w.heap fun t10 =>
  cal P f_tree_Tree_those [t10, (Value.func (Fn.func f_tree_Tree_Kids_1) #[] #[t2, t3])] w fun t12 w =>
  cal P f_tree_told [t12] w fun t13 w =>
  R t13 w)
theorem e_tree_Tree_Kids (t0 t1 : Value) (w : World) (R : Value → World → Prop) : intp P A_tree_Tree_Kids (bodyOf Tryd.f26) (ini [t0, t1]) w (retK P Tryd.f26.results.toList R) (fun _ _ _ => False) (retK P Tryd.f26.results.toList R) = c_tree_Tree_Kids t0 t1 w R := by kernel_rfl
theorem k_tree_Tree_Kids : chk P Tryd.f26.ntmps A_tree_Tree_Kids (bodyOf Tryd.f26) = true := by kernel_rfl
theorem l_tree_Tree_Kids {t0 t1 : Value} {w : World} {R : Value → World → Prop} (h : c_tree_Tree_Kids t0 t1 w R) : cal P f_tree_Tree_Kids [t0, t1] w R :=
  calls_of mixed Tryd.func26 rfl (by kernel_rfl) k_tree_Tree_Kids (Eq.mpr (e_tree_Tree_Kids t0 t1 w R) h)
theorem s_tree_Tree_Kids {t0 t1 : Value} {w : World} {Q : Value → World → Prop} (h : ∀ R : Value → World → Prop, (∀ v w', Q v w' → R v w') → c_tree_Tree_Kids t0 t1 w R) : cal P f_tree_Tree_Kids [t0, t1] w Q := l_tree_Tree_Kids (h Q fun _ _ h => h)

/-- (*flurry/tree.Tree).Len -/
def A_tree_Tree_Len : An := (An.s (An.r []) (An.s (An.s (An.r []) (An.s (An.s (An.r []) An.o) An.o)) (An.s (An.r []) An.o)))
def c_tree_Tree_Len (t0 : Value) (w : World) (R : Value → World → Prop) : Prop :=
  cal P f_tree_Tree_none [t0] w fun t4 w =>
  cnd t4
  (R (Value.int IntKind.i64 0) w)
  (nilc t0 fun t6 =>
  fad 35 t6 fun t7 =>
  ld1 t7 w.heap fun t8 =>
  rdP P (Builtin.len_ #[T_map_api_ID_api_Block] T_int #[t8]) w fun t9 =>
  R t9 w)
theorem e_tree_Tree_Len (t0 : Value) (w : World) (R : Value → World → Prop) : intp P A_tree_Tree_Len (bodyOf Tryd.f27) (ini [t0]) w (retK P Tryd.f27.results.toList R) (fun _ _ _ => False) (retK P Tryd.f27.results.toList R) = c_tree_Tree_Len t0 w R := by kernel_rfl
theorem k_tree_Tree_Len : chk P Tryd.f27.ntmps A_tree_Tree_Len (bodyOf Tryd.f27) = true := by kernel_rfl
theorem l_tree_Tree_Len {t0 : Value} {w : World} {R : Value → World → Prop} (h : c_tree_Tree_Len t0 w R) : cal P f_tree_Tree_Len [t0] w R :=
  calls_of mixed Tryd.func27 rfl (by kernel_rfl) k_tree_Tree_Len (Eq.mpr (e_tree_Tree_Len t0 w R) h)
theorem s_tree_Tree_Len {t0 : Value} {w : World} {Q : Value → World → Prop} (h : ∀ R : Value → World → Prop, (∀ v w', Q v w' → R v w') → c_tree_Tree_Len t0 w R) : cal P f_tree_Tree_Len [t0] w Q := l_tree_Tree_Len (h Q fun _ _ h => h)

/-- (*flurry/tree.Tree).Under -/
def A_tree_Tree_Under : An := (An.s (An.r []) (An.s (An.r []) An.o))
def c_tree_Tree_Under (t0 t1 : Value) (w : World) (R : Value → World → Prop) : Prop :=
  bx T_p_tree_Tree t0 w fun t2 w =>
  bx T_api_ID t1 w fun t3 w =>
  ld1 t2 w.heap fun t5 =>
  cal P f_tree_Tree_those [t5, (Value.func (Fn.func f_tree_Tree_Under_1) #[] #[t2, t3])] w fun t7 w =>
  R t7 w
theorem e_tree_Tree_Under (t0 t1 : Value) (w : World) (R : Value → World → Prop) : intp P A_tree_Tree_Under (bodyOf Tryd.f28) (ini [t0, t1]) w (retK P Tryd.f28.results.toList R) (fun _ _ _ => False) (retK P Tryd.f28.results.toList R) = c_tree_Tree_Under t0 t1 w R := by kernel_rfl
theorem k_tree_Tree_Under : chk P Tryd.f28.ntmps A_tree_Tree_Under (bodyOf Tryd.f28) = true := by kernel_rfl
theorem l_tree_Tree_Under {t0 t1 : Value} {w : World} {R : Value → World → Prop} (h : c_tree_Tree_Under t0 t1 w R) : cal P f_tree_Tree_Under [t0, t1] w R :=
  calls_of mixed Tryd.func28 rfl (by kernel_rfl) k_tree_Tree_Under (Eq.mpr (e_tree_Tree_Under t0 t1 w R) h)
theorem s_tree_Tree_Under {t0 t1 : Value} {w : World} {Q : Value → World → Prop} (h : ∀ R : Value → World → Prop, (∀ v w', Q v w' → R v w') → c_tree_Tree_Under t0 t1 w R) : cal P f_tree_Tree_Under [t0, t1] w Q := l_tree_Tree_Under (h Q fun _ _ h => h)

/-- (*flurry/tree.Tree).Clone -/
def A_tree_Tree_Clone : An := (An.s (An.r []) (An.s (An.s (An.r []) (An.s (An.s (An.r []) An.o) An.o)) (An.s (An.dt (Pl.step 0 (Pl.step 1 (Pl.step 2 (Pl.step 3 (Pl.step 4 (Pl.step 5 (Pl.step 6 (Pl.step 7 (Pl.step 8 (Pl.step 9 (Pl.step 10 (Pl.step 11 (Pl.step 13 (Pl.step 14 (Pl.step 15 (Pl.step 16 (Pl.br (Pl.alt 12 (Pl.step 17 (Pl.step 18 (Pl.step 19 (Pl.step 20 Pl.nil)))) (Pl.alt 17 (Pl.step 12 (Pl.step 18 (Pl.step 19 (Pl.step 20 Pl.nil)))) Pl.non))))))))))))))))))) [19] [3]) (An.s (An.s (An.r []) (An.b (An.l [] (An.s (An.r []) (An.s (An.s An.o An.o) (An.b (An.s (An.r []) (An.dc [0, 1, 2, 3, 4, 5, 6] [6] [])))))))) (An.s (An.r []) An.o)))))
def c_tree_Tree_Clone (t0 : Value) (w : World) (R : Value → World → Prop) : Prop :=
  cal P f_tree_Tree_none [t0] w fun t7 w =>
  cnd t7
  (R (Value.pointer none) w)
  (drH w fun S w =>
  jn1 (fun k0 =>
  nilc t0 fun t9 =>
  fad 1 t9 fun t10 =>
  rdS S (fun w => ldN 32 t10 w.heap) fun t11 =>
  nilc t0 fun t13 =>
  fad 33 t13 fun t14 =>
  rdS S (fun w => ld1 t14 w.heap) fun t15 =>
  nilc t0 fun t17 =>
  fad 34 t17 fun t18 =>
  rdS S (fun w => ld1 t18 w.heap) fun t19 =>
  nilc t0 fun t22 =>
  fad 36 t22 fun t23 =>
  rdS S (fun w => ld1 t23 w.heap) fun t24 =>
  (efS S (efP P (Instr.makeMap T_map_api_ID_api_Block none)) w fun t20_1 w =>
  efS S (cal P f_slices_Clone_api_ID_api_ID [t24]) w fun t25_1 w =>
  rdS S (rdP P (Instr.build T_tree_Tree #[(0, (Value.bool true)), (1, t11), (2, t15), (3, t19), (4, t20_1), (5, t25_1)])) fun t26_1 =>
  efC (bx T_tree_Tree t26_1) w fun S t27_1 w =>
  k0 t27_1 w) ∧
  ((efS S (cal P f_slices_Clone_api_ID_api_ID [t24]) w fun t25 w =>
  efS S (efP P (Instr.makeMap T_map_api_ID_api_Block none)) w fun t20 w =>
  rdS S (rdP P (Instr.build T_tree_Tree #[(0, (Value.bool true)), (1, t11), (2, t15), (3, t19), (4, t20), (5, t25)])) fun t26 =>
  efC (bx T_tree_Tree t26) w fun S t27 w =>
  k0 t27 w) ∧
  (True))) fun _ t3 w =>
  nilc t0 fun t29 =>
  fad 35 t29 fun t30 =>
  ld1 t30 w.heap fun t31 =>
  efP P (Instr.range T_map_api_ID_api_Block t31) w fun t32 w =>
  lp0 w fun _ w again1 =>
  efP P (Instr.next t32 false T_) w fun t33 w =>
  ext 0 t33 fun t34 =>
  cnd t34
  (rdP P (Instr.entry t32) w fun t35 =>
  ext 0 t35 fun t36 =>
  ext 1 t35 fun t37 =>
  efP P (Instr.alloc T_api_ID true (.tuple #[])) w fun t4 w =>
  efP P (Instr.alloc T_api_Block true (.tuple #[])) w fun t5 w =>
  stN 32 t4 t36 w fun w =>
  stN 34 t5 t37 w fun w =>
  drH w fun S w =>
  nilc t3 fun t39 =>
  fad 35 t39 fun t40 =>
  rdS S (fun w => ld1 t40 w.heap) fun t41 =>
  rdS S (fun w => ldN 32 t4 w.heap) fun t42 =>
  rdS S (fun w => ldN 34 t5 w.heap) fun t43 =>
  efC (fun w K => efU P (Instr.mapUpdate T_map_api_ID_api_Block t41 t42 t43) w (K undef)) w fun S _ w =>
  again1 w)
  (R t3 w))
theorem e_tree_Tree_Clone (t0 : Value) (w : World) (R : Value → World → Prop) : intp P A_tree_Tree_Clone (bodyOf Tryd.f29) (ini [t0]) w (retK P Tryd.f29.results.toList R) (fun _ _ _ => False) (retK P Tryd.f29.results.toList R) = c_tree_Tree_Clone t0 w R := by kernel_rfl
theorem k_tree_Tree_Clone : chk P Tryd.f29.ntmps A_tree_Tree_Clone (bodyOf Tryd.f29) = true := by kernel_rfl
theorem l_tree_Tree_Clone {t0 : Value} {w : World} {R : Value → World → Prop} (h : c_tree_Tree_Clone t0 w R) : cal P f_tree_Tree_Clone [t0] w R :=
  calls_of mixed Tryd.func29 rfl (by kernel_rfl) k_tree_Tree_Clone (Eq.mpr (e_tree_Tree_Clone t0 w R) h)
theorem s_tree_Tree_Clone {t0 : Value} {w : World} {Q : Value → World → Prop} (h : ∀ R : Value → World → Prop, (∀ v w', Q v w' → R v w') → c_tree_Tree_Clone t0 w R) : cal P f_tree_Tree_Clone [t0] w Q := l_tree_Tree_Clone (h Q fun _ _ h => h)

/-- (*flurry/flurryref11.Tree).Clone -/
def A_ref11_Tree_Clone : An := (An.s (An.r []) (An.s (An.dc [0, 1, 2, 3, 4, 5, 6, 7, 8, 9, 10, 11, 12, 13, 14] [13] []) (An.s (An.dc [0, 1, 2, 3, 4, 5, 6, 7, 8, 9, 10, 11, 12] [9, 12] []) (An.s (An.r []) An.o))))
def c_ref11_Tree_Clone (t0 : Value) (w : World) (R : Value → World → Prop) : Prop :=
  drH w fun S w =>
  nilc t0 fun t5 =>
  fad 0 t5 fun t6 =>
  rdS S (fun w => ldN 32 t6 w.heap) fun t7 =>
  nilc t0 fun t9 =>
  fad 32 t9 fun t10 =>
  rdS S (fun w => ld1 t10 w.heap) fun t11 =>
  nilc t0 fun t13 =>
  fad 33 t13 fun t14 =>
  rdS S (fun w => ld1 t14 w.heap) fun t15 =>
  rdS S (rdP P (Instr.build T_flurryref11_Tree #[(0, t7), (1, t11), (2, t15)])) fun t16 =>
  efC (bx T_flurryref11_Tree t16) w fun S t17 w =>
  drH w fun S w =>
  nilc t17 fun t20 =>
  fad 34 t20 fun t21 =>
  rdS S (fun w => ld1 t21 w.heap) fun t22 =>
  nilc t0 fun t24 =>
  fad 34 t24 fun t25 =>
  rdS S (fun w => ld1 t25 w.heap) fun t26 =>
  efC (efP P (Builtin.append_ #[T_sl_flurryref11_Node, T_sl_flurryref11_Node] T_sl_flurryref11_Node #[t22, t26])) w fun S t27 w =>
  nilc t17 fun t28 =>
  fad 34 t28 fun t29 =>
  efC (fun w K => st1 t29 t27 w (K undef)) w fun S _ w =>
  R t17 w
theorem e_ref11_Tree_Clone (t0 : Value) (w : World) (R : Value → World → Prop) : intp P A_ref11_Tree_Clone (bodyOf Tryd.f30) (ini [t0]) w (retK P Tryd.f30.results.toList R) (fun _ _ _ => False) (retK P Tryd.f30.results.toList R) = c_ref11_Tree_Clone t0 w R := by kernel_rfl
theorem k_ref11_Tree_Clone : chk P Tryd.f30.ntmps A_ref11_Tree_Clone (bodyOf Tryd.f30) = true := by kernel_rfl
theorem l_ref11_Tree_Clone {t0 : Value} {w : World} {R : Value → World → Prop} (h : c_ref11_Tree_Clone t0 w R) : cal P f_ref11_Tree_Clone [t0] w R :=
  calls_of mixed Tryd.func30 rfl (by kernel_rfl) k_ref11_Tree_Clone (Eq.mpr (e_ref11_Tree_Clone t0 w R) h)
theorem s_ref11_Tree_Clone {t0 : Value} {w : World} {Q : Value → World → Prop} (h : ∀ R : Value → World → Prop, (∀ v w', Q v w' → R v w') → c_ref11_Tree_Clone t0 w R) : cal P f_ref11_Tree_Clone [t0] w Q := l_ref11_Tree_Clone (h Q fun _ _ h => h)

/-- (*flurry/flurryref11.Tree).Move -/
def A_ref11_Tree_Move : An := (An.s (An.r []) (An.s (An.r []) (An.s (An.s (An.r [[29]]) (An.s (An.s (An.r []) An.o) An.o)) (An.s (An.r []) (An.s (An.r []) (An.s (An.s (An.r []) (An.b (An.l [7, 8, 9] (An.s (An.s (An.r []) (An.s An.o An.o)) (An.s (An.j [7, 8] (An.b (An.b (An.s (An.r []) (An.s An.o (An.s (An.dc [0, 1, 2, 3, 4, 5, 6, 7, 8, 9, 10, 11] [10] []) (An.s (An.r []) (An.r [])))))))) (An.r [])))))) (An.s (An.dc [0, 1, 2, 3, 4, 5, 6, 7, 8, 9, 10, 11, 12, 13, 14, 15, 16, 17, 18, 19, 20, 21, 22] [16, 19, 22] []) (An.s (An.r []) An.o))))))))
def c_ref11_Tree_Move (t0 t1 : Value) (w : World) (R : Value → World → Prop) : Prop :=
  bx T_api_ID t1 w fun t3 w =>
  ldN 32 t3 w.heap fun t11 =>
  cal P f_ref11_Tree_place [t0, t11] w fun t12 w =>
  drw w fun w =>
  bi BinOp.lss t12 (Value.int IntKind.i64 0) fun t14 =>
  jn1 (fun k0 =>
  gif t14 false
  (nilc t0 fun t17 =>
  fad 34 t17 fun t18 =>
  ld1 t18 w.heap fun t19 =>
  ixs 66 t19 t12 fun t21 =>
  fad 32 t21 fun t22 =>
  fad 0 t22 fun t23 =>
  ldN 32 t23 w.heap fun t24 =>
  nilc t0 fun t26 =>
  fad 0 t26 fun t27 =>
  ldN 32 t27 w.heap fun t28 =>
  rdP P (eqS BinOp.neq T_api_ID (Operand.tmp 24) (Operand.tmp 28) t24 t28) w fun t29 =>
  k0 t29 w)
  (k0 undef w)) fun _ t29_1 w =>
  pik t14 (Value.bool true) t29_1 fun t30 =>
  cnd t30
  (R (Value.tuple #[(Value.slice none 0 0), (Value.int IntKind.i64 4)]) w)
  (lp3 (Value.slice none 0 0) (Value.slice none 0 0) (Value.int IntKind.i64 0) w fun _ t7 t8 t9 w again1 =>
  nilc t0 fun t33 =>
  fad 34 t33 fun t34 =>
  ld1 t34 w.heap fun t35 =>
  lenS t35 fun t36 =>
  bi BinOp.lss t9 t36 fun t37 =>
  cnd t37
  (jn2 (fun k2 =>
  bi BinOp.eql t9 t12 fun t54 =>
  cnd t54
  (k2 t7 t8 w)
  (drH w fun S w =>
  nilc t0 fun t58 =>
  fad 34 t58 fun t59 =>
  rdS S (fun w => ld1 t59 w.heap) fun t60 =>
  ixs 66 t60 t9 fun t62 =>
  fad 0 t62 fun t63 =>
  rdS S (fun w => ldN 32 t63 w.heap) fun t64 =>
  rdS S (fun w => ldN 32 t3 w.heap) fun t65 =>
  efC (cal P f_ref11_Tree_Within [t0, t64, t65]) w fun S t66 w =>
  cnd t66
  (nilc t0 fun t69 =>
  fad 34 t69 fun t70 =>
  ld1 t70 w.heap fun t71 =>
  ixs 66 t71 t9 fun t73 =>
  ldN 66 t73 w.heap fun t74 =>
  efP P (Instr.buildSlice T_sl_flurryref11_Node 1 #[(0, t74)]) w fun t75 w =>
  efP P (Builtin.append_ #[T_sl_flurryref11_Node, T_sl_flurryref11_Node] T_sl_flurryref11_Node #[t8, t75]) w fun t76 w =>
  k2 t7 t76 w)
  (nilc t0 fun t42 =>
  fad 34 t42 fun t43 =>
  ld1 t43 w.heap fun t44 =>
  ixs 66 t44 t9 fun t46 =>
  fad 0 t46 fun t47 =>
  ldN 32 t47 w.heap fun t48 =>
  efP P (Instr.buildSlice T_sl_api_ID 1 #[(0, t48)]) w fun t49 w =>
  efP P (Builtin.append_ #[T_sl_api_ID, T_sl_api_ID] T_sl_api_ID #[t7, t49]) w fun t50 w =>
  k2 t50 t8 w))) fun _ t7_1 t8_1 w =>
  bi BinOp.add t9 (Value.int IntKind.i64 1) fun t39 =>
  again1 t7_1 t8_1 t39 w)
  (drH w fun S w =>
  rdS S (fun w => ldN 32 t3 w.heap) fun t80 =>
  nilc t0 fun t82 =>
  fad 34 t82 fun t83 =>
  rdS S (fun w => ld1 t83 w.heap) fun t84 =>
  ixs 66 t84 t12 fun t86 =>
  fad 32 t86 fun t87 =>
  fad 32 t87 fun t88 =>
  rdS S (fun w => ld1 t88 w.heap) fun t89 =>
  nilc t0 fun t91 =>
  fad 0 t91 fun t92 =>
  efC (fun w K => stN 32 t92 t80 w (K undef)) w fun S _ w =>
  nilc t0 fun t93 =>
  fad 32 t93 fun t94 =>
  efC (fun w K => st1 t94 t89 w (K undef)) w fun S _ w =>
  nilc t0 fun t95 =>
  fad 34 t95 fun t96 =>
  efC (fun w K => st1 t96 t8 w (K undef)) w fun S _ w =>
  R (Value.tuple #[t7, (Value.int IntKind.i64 0)]) w))
theorem e_ref11_Tree_Move (t0 t1 : Value) (w : World) (R : Value → World → Prop) : intp P A_ref11_Tree_Move (bodyOf Tryd.f31) (ini [t0, t1]) w (retK P Tryd.f31.results.toList R) (fun _ _ _ => False) (retK P Tryd.f31.results.toList R) = c_ref11_Tree_Move t0 t1 w R := by kernel_rfl
theorem k_ref11_Tree_Move : chk P Tryd.f31.ntmps A_ref11_Tree_Move (bodyOf Tryd.f31) = true := by kernel_rfl
theorem l_ref11_Tree_Move {t0 t1 : Value} {w : World} {R : Value → World → Prop} (h : c_ref11_Tree_Move t0 t1 w R) : cal P f_ref11_Tree_Move [t0, t1] w R :=
  calls_of mixed Tryd.func31 rfl (by kernel_rfl) k_ref11_Tree_Move (Eq.mpr (e_ref11_Tree_Move t0 t1 w R) h)
theorem s_ref11_Tree_Move {t0 t1 : Value} {w : World} {Q : Value → World → Prop} (h : ∀ R : Value → World → Prop, (∀ v w', Q v w' → R v w') → c_ref11_Tree_Move t0 t1 w R) : cal P f_ref11_Tree_Move [t0, t1] w Q := l_ref11_Tree_Move (h Q fun _ _ h => h)

/-- slices.Equal[[]flurry/api.ID,flurry/api.ID] -/
def A_slices_Equal_api_ID_api_ID : An := (An.s (An.r []) (An.s (An.s (An.r []) (An.s (An.s (An.r []) An.o) An.o)) (An.s (An.s (An.r []) (An.b (An.l [13] (An.s (An.r []) (An.s (An.s An.o An.o) (An.s (An.b (An.s (An.r []) (An.s (An.r []) (An.s (An.s (An.r []) An.o) An.o)))) (An.r []))))))) (An.s (An.r []) An.o))))
def c_slices_Equal_api_ID_api_ID (t0 t1 : Value) (w : World) (R : Value → World → Prop) : Prop :=
  lenS t0 fun t7 =>
  lenS t1 fun t9 =>
  bi BinOp.neq t7 t9 fun t10 =>
  cnd t10
  (R (Value.bool false) w)
  (lenS t0 fun t12 =>
  lp1 (Value.int IntKind.i64 0) w fun _ t13 w again0 =>
  bi BinOp.lss t13 t12 fun t14 =>
  cnd t14
  (drw w fun w =>
  ixs 32 t0 t13 fun t18 =>
  ldN 32 t18 w.heap fun t19 =>
  ixs 32 t1 t13 fun t22 =>
  ldN 32 t22 w.heap fun t23 =>
  rdP P (eqS BinOp.neq T_api_ID (Operand.tmp 19) (Operand.tmp 23) t19 t23) w fun t24 =>
  cnd t24
  (R (Value.bool false) w)
  (bi BinOp.add t13 (Value.int IntKind.i64 1) fun t25 =>
  again0 t25 w))
  (R (Value.bool true) w))
theorem e_slices_Equal_api_ID_api_ID (t0 t1 : Value) (w : World) (R : Value → World → Prop) : intp P A_slices_Equal_api_ID_api_ID (bodyOf Tryd.f32) (ini [t0, t1]) w (retK P Tryd.f32.results.toList R) (fun _ _ _ => False) (retK P Tryd.f32.results.toList R) = c_slices_Equal_api_ID_api_ID t0 t1 w R := by kernel_rfl
theorem k_slices_Equal_api_ID_api_ID : chk P Tryd.f32.ntmps A_slices_Equal_api_ID_api_ID (bodyOf Tryd.f32) = true := by kernel_rfl
theorem l_slices_Equal_api_ID_api_ID {t0 t1 : Value} {w : World} {R : Value → World → Prop} (h : c_slices_Equal_api_ID_api_ID t0 t1 w R) : cal P f_slices_Equal_api_ID_api_ID [t0, t1] w R :=
  calls_of mixed Tryd.func32 rfl (by kernel_rfl) k_slices_Equal_api_ID_api_ID (Eq.mpr (e_slices_Equal_api_ID_api_ID t0 t1 w R) h)
theorem s_slices_Equal_api_ID_api_ID {t0 t1 : Value} {w : World} {Q : Value → World → Prop} (h : ∀ R : Value → World → Prop, (∀ v w', Q v w' → R v w') → c_slices_Equal_api_ID_api_ID t0 t1 w R) : cal P f_slices_Equal_api_ID_api_ID [t0, t1] w Q := l_slices_Equal_api_ID_api_ID (h Q fun _ _ h => h)

/-- (*flurry/tree.Tree).Has -/
def A_tree_Tree_Has : An := (An.s (An.r []) (An.s (An.r []) (An.s (An.r []) An.o)))
def c_tree_Tree_Has (t0 t1 : Value) (w : World) (R : Value → World → Prop) : Prop :=
  bx T_api_ID t1 w fun t3 w =>
  ldN 32 t3 w.heap fun t9 =>
  cal P f_tree_Tree_level [t0, t9] w fun t10 w =>
  ext 0 t10 fun t11 =>
  ext 1 t10 fun t12 =>
  R t12 w
theorem e_tree_Tree_Has (t0 t1 : Value) (w : World) (R : Value → World → Prop) : intp P A_tree_Tree_Has (bodyOf Tryd.f33) (ini [t0, t1]) w (retK P Tryd.f33.results.toList R) (fun _ _ _ => False) (retK P Tryd.f33.results.toList R) = c_tree_Tree_Has t0 t1 w R := by kernel_rfl
theorem k_tree_Tree_Has : chk P Tryd.f33.ntmps A_tree_Tree_Has (bodyOf Tryd.f33) = true := by kernel_rfl
theorem l_tree_Tree_Has {t0 t1 : Value} {w : World} {R : Value → World → Prop} (h : c_tree_Tree_Has t0 t1 w R) : cal P f_tree_Tree_Has [t0, t1] w R :=
  calls_of mixed Tryd.func33 rfl (by kernel_rfl) k_tree_Tree_Has (Eq.mpr (e_tree_Tree_Has t0 t1 w R) h)
theorem s_tree_Tree_Has {t0 t1 : Value} {w : World} {Q : Value → World → Prop} (h : ∀ R : Value → World → Prop, (∀ v w', Q v w' → R v w') → c_tree_Tree_Has t0 t1 w R) : cal P f_tree_Tree_Has [t0, t1] w Q := l_tree_Tree_Has (h Q fun _ _ h => h)

/-- (*flurry/tree.Tree).none -/
def A_tree_Tree_none : An := (An.s (An.r []) (An.s (An.r [[10]]) An.o))
def c_tree_Tree_none (t0 : Value) (w : World) (R : Value → World → Prop) : Prop :=
  nilP false t0 fun t4 =>
  jn1 (fun k0 =>
  gif t4 false
  (nilc t0 fun t7 =>
  fad 0 t7 fun t8 =>
  ld1 t8 w.heap fun t9 =>
  notB t9 fun t10 =>
  k0 t10 w)
  (k0 undef w)) fun _ t10_1 w =>
  pik t4 (Value.bool true) t10_1 fun t11 =>
  R t11 w
theorem e_tree_Tree_none (t0 : Value) (w : World) (R : Value → World → Prop) : intp P A_tree_Tree_none (bodyOf Tryd.f34) (ini [t0]) w (retK P Tryd.f34.results.toList R) (fun _ _ _ => False) (retK P Tryd.f34.results.toList R) = c_tree_Tree_none t0 w R := by kernel_rfl
theorem k_tree_Tree_none : chk P Tryd.f34.ntmps A_tree_Tree_none (bodyOf Tryd.f34) = true := by kernel_rfl
theorem l_tree_Tree_none {t0 : Value} {w : World} {R : Value → World → Prop} (h : c_tree_Tree_none t0 w R) : cal P f_tree_Tree_none [t0] w R :=
  calls_of mixed Tryd.func34 rfl (by kernel_rfl) k_tree_Tree_none (Eq.mpr (e_tree_Tree_none t0 w R) h)
theorem s_tree_Tree_none {t0 : Value} {w : World} {Q : Value → World → Prop} (h : ∀ R : Value → World → Prop, (∀ v w', Q v w' → R v w') → c_tree_Tree_none t0 w R) : cal P f_tree_Tree_none [t0] w Q := l_tree_Tree_none (h Q fun _ _ h => h)

/-- slices.Reverse[[]flurry/api.ID,flurry/api.ID] -/
def A_slices_Reverse_api_ID_api_ID : An := (An.s (An.r []) (An.b (An.l [2, 3] (An.s (An.s (An.r []) (An.s An.o An.o)) (An.s (An.b (An.dc [0, 1, 2, 3, 4, 5, 6, 7, 8, 9, 10, 11, 12, 13, 14, 15] [13, 15] [])) (An.r []))))))
def c_slices_Reverse_api_ID_api_ID (t0 : Value) (w : World) (R : Value → World → Prop) : Prop :=
  lenS t0 fun t5 =>
  bi BinOp.sub t5 (Value.int IntKind.i64 1) fun t6 =>
  lp2 (Value.int IntKind.i64 0) t6 w fun _ t2 t3 w again0 =>
  bi BinOp.lss t2 t3 fun t9 =>
  cnd t9
  (drH w fun S w =>
  ixs 32 t0 t3 fun t20 =>
  rdS S (fun w => ldN 32 t20 w.heap) fun t21 =>
  ixs 32 t0 t2 fun t24 =>
  rdS S (fun w => ldN 32 t24 w.heap) fun t25 =>
  ixs 32 t0 t2 fun t26 =>
  efC (fun w K => stN 32 t26 t21 w (K undef)) w fun S _ w =>
  ixs 32 t0 t3 fun t27 =>
  efC (fun w K => stN 32 t27 t25 w (K undef)) w fun S _ w =>
  bi BinOp.add t2 (Value.int IntKind.i64 1) fun t11 =>
  bi BinOp.sub t3 (Value.int IntKind.i64 1) fun t13 =>
  again0 t11 t13 w)
  (R (Value.tuple #[]) w)
theorem e_slices_Reverse_api_ID_api_ID (t0 : Value) (w : World) (R : Value → World → Prop) : intp P A_slices_Reverse_api_ID_api_ID (bodyOf Tryd.f35) (ini [t0]) w (retK P Tryd.f35.results.toList R) (fun _ _ _ => False) (retK P Tryd.f35.results.toList R) = c_slices_Reverse_api_ID_api_ID t0 w R := by kernel_rfl
theorem k_slices_Reverse_api_ID_api_ID : chk P Tryd.f35.ntmps A_slices_Reverse_api_ID_api_ID (bodyOf Tryd.f35) = true := by kernel_rfl
theorem l_slices_Reverse_api_ID_api_ID {t0 : Value} {w : World} {R : Value → World → Prop} (h : c_slices_Reverse_api_ID_api_ID t0 w R) : cal P f_slices_Reverse_api_ID_api_ID [t0] w R :=
  calls_of mixed Tryd.func35 rfl (by kernel_rfl) k_slices_Reverse_api_ID_api_ID (Eq.mpr (e_slices_Reverse_api_ID_api_ID t0 w R) h)
theorem s_slices_Reverse_api_ID_api_ID {t0 : Value} {w : World} {Q : Value → World → Prop} (h : ∀ R : Value → World → Prop, (∀ v w', Q v w' → R v w') → c_slices_Reverse_api_ID_api_ID t0 w R) : cal P f_slices_Reverse_api_ID_api_ID [t0] w Q := l_slices_Reverse_api_ID_api_ID (h Q fun _ _ h => h)

/-- flurry/block.Clone -/
def A_block_Clone : An := (An.s (An.r []) (An.s (An.r []) (An.s (An.r []) An.o)))
def c_block_Clone (t0 : Value) (w : World) (R : Value → World → Prop) : Prop :=
  bx T_api_Block t0 w fun t1 w =>
  efP P (Instr.alloc T_api_Block true (.tuple #[])) w fun t2 w =>
  fad 33 t1 fun t3 =>
  ld1 t3 w.heap fun t4 =>
  cal P f_bytes_Clone [t4] w fun t5 w =>
  fad 33 t1 fun t6 =>
  st1 t6 t5 w fun w =>
  ldN 34 t1 w.heap fun t7 =>
  stN 34 t2 t7 w fun w =>
  ldN 34 t2 w.heap fun r0 =>
  R r0 w
theorem e_block_Clone (t0 : Value) (w : World) (R : Value → World → Prop) : intp P A_block_Clone (bodyOf Tryd.f36) (ini [t0]) w (retK P Tryd.f36.results.toList R) (fun _ _ _ => False) (retK P Tryd.f36.results.toList R) = c_block_Clone t0 w R := by kernel_rfl
theorem k_block_Clone : chk P Tryd.f36.ntmps A_block_Clone (bodyOf Tryd.f36) = true := by kernel_rfl
theorem l_block_Clone {t0 : Value} {w : World} {R : Value → World → Prop} (h : c_block_Clone t0 w R) : cal P f_block_Clone [t0] w R :=
  calls_of mixed Tryd.func36 rfl (by kernel_rfl) k_block_Clone (Eq.mpr (e_block_Clone t0 w R) h)
theorem s_block_Clone {t0 : Value} {w : World} {Q : Value → World → Prop} (h : ∀ R : Value → World → Prop, (∀ v w', Q v w' → R v w') → c_block_Clone t0 w R) : cal P f_block_Clone [t0] w Q := l_block_Clone (h Q fun _ _ h => h)

/-- slices.Index[[]flurry/api.ID,flurry/api.ID] -/
def A_slices_Index_api_ID_api_ID : An := (An.s (An.r []) (An.s (An.s (An.r []) (An.b (An.l [8] (An.s (An.r []) (An.s (An.s An.o An.o) (An.s (An.b (An.s (An.r []) (An.s (An.r []) (An.s (An.s (An.r []) An.o) An.o)))) (An.r []))))))) (An.s (An.r []) An.o)))
def c_slices_Index_api_ID_api_ID (t0 t1 : Value) (w : World) (R : Value → World → Prop) : Prop :=
  bx T_api_ID t1 w fun t3 w =>
  lenS t0 fun t7 =>
  lp1 (Value.int IntKind.i64 0) w fun _ t8 w again0 =>
  bi BinOp.lss t8 t7 fun t9 =>
  cnd t9
  (drw w fun w =>
  ldN 32 t3 w.heap fun t11 =>
  ixs 32 t0 t8 fun t14 =>
  ldN 32 t14 w.heap fun t15 =>
  rdP P (eqS BinOp.eql T_api_ID (Operand.tmp 11) (Operand.tmp 15) t11 t15) w fun t16 =>
  cnd t16
  (R t8 w)
  (bi BinOp.add t8 (Value.int IntKind.i64 1) fun t18 =>
  again0 t18 w))
  (R (Value.int IntKind.i64 (-1)) w)
theorem e_slices_Index_api_ID_api_ID (t0 t1 : Value) (w : World) (R : Value → World → Prop) : intp P A_slices_Index_api_ID_api_ID (bodyOf Tryd.f37) (ini [t0, t1]) w (retK P Tryd.f37.results.toList R) (fun _ _ _ => False) (retK P Tryd.f37.results.toList R) = c_slices_Index_api_ID_api_ID t0 t1 w R := by kernel_rfl
theorem k_slices_Index_api_ID_api_ID : chk P Tryd.f37.ntmps A_slices_Index_api_ID_api_ID (bodyOf Tryd.f37) = true := by kernel_rfl
theorem l_slices_Index_api_ID_api_ID {t0 t1 : Value} {w : World} {R : Value → World → Prop} (h : c_slices_Index_api_ID_api_ID t0 t1 w R) : cal P f_slices_Index_api_ID_api_ID [t0, t1] w R :=
  calls_of mixed Tryd.func37 rfl (by kernel_rfl) k_slices_Index_api_ID_api_ID (Eq.mpr (e_slices_Index_api_ID_api_ID t0 t1 w R) h)
theorem s_slices_Index_api_ID_api_ID {t0 t1 : Value} {w : World} {Q : Value → World → Prop} (h : ∀ R : Value → World → Prop, (∀ v w', Q v w' → R v w') → c_slices_Index_api_ID_api_ID t0 t1 w R) : cal P f_slices_Index_api_ID_api_ID [t0, t1] w Q := l_slices_Index_api_ID_api_ID (h Q fun _ _ h => h)

/-- flurry/block.ID -/
def A_block_ID : An := (An.s (An.r []) (An.s (An.r []) (An.s (An.s (An.r []) (An.s (An.s (An.r []) An.o) An.o)) (An.s (An.r []) An.o))))
def c_block_ID (t0 : Value) (w : World) (R : Value → World → Prop) : Prop :=
  bx T_api_Block t0 w fun t1 w =>
  efP P (Instr.alloc T_api_ID true (.tuple #[])) w fun t2 w =>
  ldN 34 t1 w.heap fun t7 =>
  cal P f_block_Bytes [t7] w fun t8 w =>
  ext 0 t8 fun t9 =>
  ext 1 t8 fun t10 =>
  bi BinOp.neq t10 (Value.int IntKind.i64 0) fun t12 =>
  cnd t12
  (rdP P (Instr.build T_api_ID #[]) w fun t13 =>
  stN 32 t2 t13 w fun w =>
  ldN 32 t2 w.heap fun r0 =>
  R (Value.tuple #[r0, t10]) w)
  (cal P f_sha_Sum [t9] w fun t16 w =>
  stN 32 t2 t16 w fun w =>
  ldN 32 t2 w.heap fun r1 =>
  R (Value.tuple #[r1, (Value.int IntKind.i64 0)]) w)
theorem e_block_ID (t0 : Value) (w : World) (R : Value → World → Prop) : intp P A_block_ID (bodyOf Tryd.f38) (ini [t0]) w (retK P Tryd.f38.results.toList R) (fun _ _ _ => False) (retK P Tryd.f38.results.toList R) = c_block_ID t0 w R := by kernel_rfl
theorem k_block_ID : chk P Tryd.f38.ntmps A_block_ID (bodyOf Tryd.f38) = true := by kernel_rfl
theorem l_block_ID {t0 : Value} {w : World} {R : Value → World → Prop} (h : c_block_ID t0 w R) : cal P f_block_ID [t0] w R :=
  calls_of mixed Tryd.func38 rfl (by kernel_rfl) k_block_ID (Eq.mpr (e_block_ID t0 w R) h)
theorem s_block_ID {t0 : Value} {w : World} {Q : Value → World → Prop} (h : ∀ R : Value → World → Prop, (∀ v w', Q v w' → R v w') → c_block_ID t0 w R) : cal P f_block_ID [t0] w Q := l_block_ID (h Q fun _ _ h => h)

/-- (*flurry/tree.Tree).level -/
def A_tree_Tree_level : An := (An.s (An.r []) (An.s (An.s (An.r []) (An.s (An.s (An.r []) An.o) An.o)) (An.s (An.s (An.r []) (An.s (An.s (An.r []) An.o) An.o)) (An.s (An.dc [0, 1, 2, 3, 4, 5, 6, 7, 8, 9, 10, 11] [10] []) (An.s (An.r []) An.o)))))
def c_tree_Tree_level (t0 t1 : Value) (w : World) (R : Value → World → Prop) : Prop :=
  bx T_api_ID t1 w fun t3 w =>
  cal P f_tree_Tree_none [t0] w fun t9 w =>
  cnd t9
  (R (Value.tuple #[(Value.int IntKind.i64 0), (Value.bool false)]) w)
  (drw w fun w =>
  ldN 32 t3 w.heap fun t10 =>
  nilc t0 fun t12 =>
  fad 1 t12 fun t13 =>
  ldN 32 t13 w.heap fun t14 =>
  rdP P (eqS BinOp.eql T_api_ID (Operand.tmp 10) (Operand.tmp 14) t10 t14) w fun t15 =>
  cnd t15
  (nilc t0 fun t17 =>
  fad 33 t17 fun t18 =>
  ld1 t18 w.heap fun t19 =>
  R (Value.tuple #[t19, (Value.bool true)]) w)
  (drH w fun S w =>
  nilc t0 fun t22 =>
  fad 35 t22 fun t23 =>
  rdS S (fun w => ld1 t23 w.heap) fun t24 =>
  rdS S (fun w => ldN 32 t3 w.heap) fun t25 =>
  rdS S (rdP P (Instr.lookup T_map_api_ID_api_Block t24 t25 true)) fun t26 =>
  ext 0 t26 fun t27 =>
  ext 1 t26 fun t28 =>
  efS S (efP P (Instr.alloc T_api_Block true (.tuple #[]))) w fun t6 w =>
  efC (fun w K => stN 34 t6 t27 w (K undef)) w fun S _ w =>
  fad 32 t6 fun t29 =>
  ld1 t29 w.heap fun t30 =>
  R (Value.tuple #[t30, t28]) w))
theorem e_tree_Tree_level (t0 t1 : Value) (w : World) (R : Value → World → Prop) : intp P A_tree_Tree_level (bodyOf Tryd.f39) (ini [t0, t1]) w (retK P Tryd.f39.results.toList R) (fun _ _ _ => False) (retK P Tryd.f39.results.toList R) = c_tree_Tree_level t0 t1 w R := by kernel_rfl
theorem k_tree_Tree_level : chk P Tryd.f39.ntmps A_tree_Tree_level (bodyOf Tryd.f39) = true := by kernel_rfl
theorem l_tree_Tree_level {t0 t1 : Value} {w : World} {R : Value → World → Prop} (h : c_tree_Tree_level t0 t1 w R) : cal P f_tree_Tree_level [t0, t1] w R :=
  calls_of mixed Tryd.func39 rfl (by kernel_rfl) k_tree_Tree_level (Eq.mpr (e_tree_Tree_level t0 t1 w R) h)
theorem s_tree_Tree_level {t0 t1 : Value} {w : World} {Q : Value → World → Prop} (h : ∀ R : Value → World → Prop, (∀ v w', Q v w' → R v w') → c_tree_Tree_level t0 t1 w R) : cal P f_tree_Tree_level [t0, t1] w Q := l_tree_Tree_level (h Q fun _ _ h => h)

/-- (*flurry/tree.Tree).those -/
def A_tree_Tree_those : An := (An.s (An.r []) (An.s (An.s (An.r []) (An.s (An.s (An.r []) An.o) An.o)) (An.s (An.r []) (An.s (An.s (An.r []) (An.b (An.l [5, 15] (An.s (An.r []) (An.s (An.s An.o An.o) (An.s (An.j [5] (An.b (An.s (An.r []) (An.s (An.r []) (An.s (An.r []) An.o))))) (An.r []))))))) (An.s (An.r []) An.o)))))
def c_tree_Tree_those (t0 t1 : Value) (w : World) (R : Value → World → Prop) : Prop :=
  cal P f_tree_Tree_none [t0] w fun t9 w =>
  cnd t9
  (R (Value.slice none 0 0) w)
  (nilc t0 fun t11 =>
  fad 36 t11 fun t12 =>
  ld1 t12 w.heap fun t13 =>
  lenS t13 fun t14 =>
  lp2 (Value.slice none 0 0) (Value.int IntKind.i64 0) w fun _ t5 t15 w again0 =>
  bi BinOp.lss t15 t14 fun t16 =>
  cnd t16
  (jn1 (fun k1 =>
  ixs 32 t13 t15 fun t17 =>
  ldN 32 t17 w.heap fun t18 =>
  efP P (Instr.alloc T_api_ID true (.tuple #[])) w fun t7 w =>
  stN 32 t7 t18 w fun w =>
  ldN 32 t7 w.heap fun t20 =>
  calV P t1 [t20] w fun t21 w =>
  cnd t21
  (ldN 32 t7 w.heap fun t23 =>
  efP P (Instr.buildSlice T_sl_api_ID 1 #[(0, t23)]) w fun t24 w =>
  efP P (Builtin.append_ #[T_sl_api_ID, T_sl_api_ID] T_sl_api_ID #[t5, t24]) w fun t25 w =>
  k1 t25 w)
  (k1 t5 w)) fun _ t5_1 w =>
  bi BinOp.add t15 (Value.int IntKind.i64 1) fun t26 =>
  again0 t5_1 t26 w)
  (R t5 w))
theorem e_tree_Tree_those (t0 t1 : Value) (w : World) (R : Value → World → Prop) : intp P A_tree_Tree_those (bodyOf Tryd.f40) (ini [t0, t1]) w (retK P Tryd.f40.results.toList R) (fun _ _ _ => False) (retK P Tryd.f40.results.toList R) = c_tree_Tree_those t0 t1 w R := by kernel_rfl
theorem k_tree_Tree_those : chk P Tryd.f40.ntmps A_tree_Tree_those (bodyOf Tryd.f40) = true := by kernel_rfl
theorem l_tree_Tree_those {t0 t1 : Value} {w : World} {R : Value → World → Prop} (h : c_tree_Tree_those t0 t1 w R) : cal P f_tree_Tree_those [t0, t1] w R :=
  calls_of mixed Tryd.func40 rfl (by kernel_rfl) k_tree_Tree_those (Eq.mpr (e_tree_Tree_those t0 t1 w R) h)
theorem s_tree_Tree_those {t0 t1 : Value} {w : World} {Q : Value → World → Prop} (h : ∀ R : Value → World → Prop, (∀ v w', Q v w' → R v w') → c_tree_Tree_those t0 t1 w R) : cal P f_tree_Tree_those [t0, t1] w Q := l_tree_Tree_those (h Q fun _ _ h => h)

/-- (*flurry/tree.Tree).Move$1 -/
def A_tree_Tree_Move_1 : An := (An.s (An.r []) (An.s (An.r []) An.o))
def c_tree_Tree_Move_1 (t0 t1 t2 : Value) (w : World) (R : Value → World → Prop) : Prop :=
  bx T_api_ID t0 w fun t3 w =>
  ld1 t1 w.heap fun t5 =>
  ldN 32 t3 w.heap fun t6 =>
  ldN 32 t2 w.heap fun t7 =>
  cal P f_tree_Tree_Within [t5, t6, t7] w fun t8 w =>
  notB t8 fun t9 =>
  R t9 w
theorem e_tree_Tree_Move_1 (t0 t1 t2 : Value) (w : World) (R : Value → World → Prop) : intp P A_tree_Tree_Move_1 (bodyOf Tryd.f41) (ini [t0, t1, t2]) w (retK P Tryd.f41.results.toList R) (fun _ _ _ => False) (retK P Tryd.f41.results.toList R) = c_tree_Tree_Move_1 t0 t1 t2 w R := by kernel_rfl
theorem k_tree_Tree_Move_1 : chk P Tryd.f41.ntmps A_tree_Tree_Move_1 (bodyOf Tryd.f41) = true := by kernel_rfl
theorem l_tree_Tree_Move_1 {t0 t1 t2 : Value} {w : World} {R : Value → World → Prop} (h : c_tree_Tree_Move_1 t0 t1 t2 w R) : cal P f_tree_Tree_Move_1 [t0, t1, t2] w R :=
  calls_of mixed Tryd.func41 rfl (by kernel_rfl) k_tree_Tree_Move_1 (Eq.mpr (e_tree_Tree_Move_1 t0 t1 t2 w R) h)
theorem s_tree_Tree_Move_1 {t0 t1 t2 : Value} {w : World} {Q : Value → World → Prop} (h : ∀ R : Value → World → Prop, (∀ v w', Q v w' → R v w') → c_tree_Tree_Move_1 t0 t1 t2 w R) : cal P f_tree_Tree_Move_1 [t0, t1, t2] w Q := l_tree_Tree_Move_1 (h Q fun _ _ h => h)

/-- (*flurry/tree.Tree).Move$2 -/
def A_tree_Tree_Move_2 : An := (An.s (An.r []) (An.s (An.r [[12]]) An.o))
def c_tree_Tree_Move_2 (t0 t1 t2 : Value) (w : World) (R : Value → World → Prop) : Prop :=
  bx T_api_ID t0 w fun t3 w =>
  ldN 32 t3 w.heap fun t5 =>
  ldN 32 t1 w.heap fun t6 =>
  rdP P (eqS BinOp.neq T_api_ID (Operand.tmp 5) (Operand.tmp 6) t5 t6) w fun t7 =>
  jn1 (fun k0 =>
  gif t7 true
  (ld1 t2 w.heap fun t9 =>
  ldN 32 t3 w.heap fun t10 =>
  ldN 32 t1 w.heap fun t11 =>
  cal P f_tree_Tree_Within [t9, t10, t11] w fun t12 w =>
  k0 t12 w)
  (k0 undef w)) fun _ t12_1 w =>
  pik t7 t12_1 (Value.bool false) fun t13 =>
  R t13 w
theorem e_tree_Tree_Move_2 (t0 t1 t2 : Value) (w : World) (R : Value → World → Prop) : intp P A_tree_Tree_Move_2 (bodyOf Tryd.f42) (ini [t0, t1, t2]) w (retK P Tryd.f42.results.toList R) (fun _ _ _ => False) (retK P Tryd.f42.results.toList R) = c_tree_Tree_Move_2 t0 t1 t2 w R := by kernel_rfl
theorem k_tree_Tree_Move_2 : chk P Tryd.f42.ntmps A_tree_Tree_Move_2 (bodyOf Tryd.f42) = true := by kernel_rfl
theorem l_tree_Tree_Move_2 {t0 t1 t2 : Value} {w : World} {R : Value → World → Prop} (h : c_tree_Tree_Move_2 t0 t1 t2 w R) : cal P f_tree_Tree_Move_2 [t0, t1, t2] w R :=
  calls_of mixed Tryd.func42 rfl (by kernel_rfl) k_tree_Tree_Move_2 (Eq.mpr (e_tree_Tree_Move_2 t0 t1 t2 w R) h)
theorem s_tree_Tree_Move_2 {t0 t1 t2 : Value} {w : World} {Q : Value → World → Prop} (h : ∀ R : Value → World → Prop, (∀ v w', Q v w' → R v w') → c_tree_Tree_Move_2 t0 t1 t2 w R) : cal P f_tree_Tree_Move_2 [t0, t1, t2] w Q := l_tree_Tree_Move_2 (h Q fun _ _ h => h)

/-- flurry/flurryref11.New -/
def A_ref11_New : An := (An.s (An.r []) (An.s (An.s (An.r [[12], [16]]) (An.s (An.s (An.r []) An.o) An.o)) (An.s (An.r []) An.o)))
def c_ref11_New (t0 t1 t2 : Value) (w : World) (R : Value → World → Prop) : Prop :=
  bx T_api_ID t0 w fun t3 w =>
  bi BinOp.lss t1 (Value.int IntKind.i64 0) fun t9 =>
  jn1 (fun k0 =>
  gif t9 false
  (bi BinOp.lss t2 (Value.int IntKind.i64 1) fun t12 =>
  k0 t12 w)
  (k0 undef w)) fun _ t12_1 w =>
  pik t9 (Value.bool true) t12_1 fun t13 =>
  jn1 (fun k1 =>
  gif t13 false
  (bi BinOp.gtr t2 (Value.int IntKind.i64 256) fun t16 =>
  k1 t16 w)
  (k1 undef w)) fun _ t16_1 w =>
  pik t13 (Value.bool true) t16_1 fun t17 =>
  cnd t17
  (R (Value.tuple #[(Value.pointer none), (Value.int IntKind.i64 1)]) w)
  (ldN 32 t3 w.heap fun t18 =>
  rdP P (Instr.build T_flurryref11_Tree #[(0, t18), (1, t1), (2, t2)]) w fun t21 =>
  bx T_flurryref11_Tree t21 w fun t22 w =>
  R (Value.tuple #[t22, (Value.int IntKind.i64 0)]) w)
theorem e_ref11_New (t0 t1 t2 : Value) (w : World) (R : Value → World → Prop) : intp P A_ref11_New (bodyOf Tryd.f43) (ini [t0, t1, t2]) w (retK P Tryd.f43.results.toList R) (fun _ _ _ => False) (retK P Tryd.f43.results.toList R) = c_ref11_New t0 t1 t2 w R := by kernel_rfl
theorem k_ref11_New : chk P Tryd.f43.ntmps A_ref11_New (bodyOf Tryd.f43) = true := by kernel_rfl
theorem l_ref11_New {t0 t1 t2 : Value} {w : World} {R : Value → World → Prop} (h : c_ref11_New t0 t1 t2 w R) : cal P f_ref11_New [t0, t1, t2] w R :=
  calls_of mixed Tryd.func43 rfl (by kernel_rfl) k_ref11_New (Eq.mpr (e_ref11_New t0 t1 t2 w R) h)
theorem s_ref11_New {t0 t1 t2 : Value} {w : World} {Q : Value → World → Prop} (h : ∀ R : Value → World → Prop, (∀ v w', Q v w' → R v w') → c_ref11_New t0 t1 t2 w R) : cal P f_ref11_New [t0, t1, t2] w Q := l_ref11_New (h Q fun _ _ h => h)

/-- flurry/flurryref03.Clone -/
def A_ref03_Clone : An := (An.s (An.r []) (An.s (An.r []) (An.s (An.r []) (An.s (An.r []) An.o))))
def c_ref03_Clone (t0 : Value) (w : World) (R : Value → World → Prop) : Prop :=
  bx T_api_Block t0 w fun t1 w =>
  efP P (Instr.alloc T_api_Block true (.tuple #[])) w fun t2 w =>
  fad 33 t1 fun t5 =>
  ld1 t5 w.heap fun t6 =>
  efP P (Builtin.append_ #[T_sl_uint8, T_sl_uint8] T_sl_uint8 #[(Value.slice none 0 0), t6]) w fun t7 w =>
  fad 33 t1 fun t8 =>
  st1 t8 t7 w fun w =>
  ldN 34 t1 w.heap fun t9 =>
  stN 34 t2 t9 w fun w =>
  ldN 34 t2 w.heap fun r0 =>
  R r0 w
theorem e_ref03_Clone (t0 : Value) (w : World) (R : Value → World → Prop) : intp P A_ref03_Clone (bodyOf Tryd.f44) (ini [t0]) w (retK P Tryd.f44.results.toList R) (fun _ _ _ => False) (retK P Tryd.f44.results.toList R) = c_ref03_Clone t0 w R := by kernel_rfl
theorem k_ref03_Clone : chk P Tryd.f44.ntmps A_ref03_Clone (bodyOf Tryd.f44) = true := by kernel_rfl
theorem l_ref03_Clone {t0 : Value} {w : World} {R : Value → World → Prop} (h : c_ref03_Clone t0 w R) : cal P f_ref03_Clone [t0] w R :=
  calls_of mixed Tryd.func44 rfl (by kernel_rfl) k_ref03_Clone (Eq.mpr (e_ref03_Clone t0 w R) h)
theorem s_ref03_Clone {t0 : Value} {w : World} {Q : Value → World → Prop} (h : ∀ R : Value → World → Prop, (∀ v w', Q v w' → R v w') → c_ref03_Clone t0 w R) : cal P f_ref03_Clone [t0] w Q := l_ref03_Clone (h Q fun _ _ h => h)

/-- (*flurry/flurryref11.Tree).Add -/
def A_ref11_Tree_Add : An := (An.s (An.r []) (An.s (An.r []) (An.s (An.b (An.s (An.r []) (An.s (An.s (An.r []) An.o) (An.s (An.r []) (An.s (An.s (An.r []) An.o) (An.s (An.dc [0, 1, 2, 3, 4, 5, 6, 7, 8, 9, 10, 11, 12, 13, 15, 16, 17, 14, 18, 19, 20] [3] [[32], [42]]) (An.s (An.s (An.r []) An.o) (An.s (An.r []) (An.s (An.s (An.r []) An.o) An.o))))))))) (An.s (An.dc [0, 1, 2, 3, 4, 5, 6, 7, 8, 9, 10, 11, 12, 13] [10, 13] []) (An.s (An.r []) An.o)))))
def c_ref11_Tree_Add (t0 t1 : Value) (w : World) (R : Value → World → Prop) : Prop :=
  bx T_api_Block t1 w fun t3 w =>
  efP P (Instr.alloc T_api_ID true (.tuple #[])) w fun t4 w =>
  ldN 34 t3 w.heap fun t9 =>
  cal P f_ref03_ID [t9] w fun t10 w =>
  ext 0 t10 fun t11 =>
  ext 1 t10 fun t12 =>
  efP P (Instr.alloc T_api_ID true (.tuple #[])) w fun t6 w =>
  stN 32 t6 t11 w fun w =>
  bi BinOp.neq t12 (Value.int IntKind.i64 0) fun t15 =>
  cnd t15
  (rdP P (Instr.build T_api_ID #[]) w fun t16 =>
  stN 32 t4 t16 w fun w =>
  ldN 32 t4 w.heap fun r0 =>
  R (Value.tuple #[r0, t12]) w)
  (ldN 32 t6 w.heap fun t20 =>
  cal P f_ref11_Tree_Has [t0, t20] w fun t21 w =>
  cnd t21
  (rdP P (Instr.build T_api_ID #[]) w fun t22 =>
  stN 32 t4 t22 w fun w =>
  ldN 32 t4 w.heap fun r1 =>
  R (Value.tuple #[r1, (Value.int IntKind.i64 110)]) w)
  (drH w fun S w =>
  fad 0 t3 fun t25 =>
  rdS S (fun w => ldN 32 t25 w.heap) fun t26 =>
  efC (cal P f_ref11_Tree_Has [t0, t26]) w fun S t27 w =>
  notB t27 fun t28 =>
  jn1 (fun k2 =>
  gif t28 false
  (fad 32 t3 fun t30 =>
  rdS S (fun w => ld1 t30 w.heap) fun t31 =>
  bi BinOp.lss t31 (Value.int IntKind.i64 1) fun t32 =>
  k2 t32 w)
  (k2 undef w)) fun _ t32_1 w =>
  pik t28 (Value.bool true) t32_1 fun t33 =>
  jn1 (fun k3 =>
  gif t33 false
  (fad 0 t3 fun t36 =>
  rdS S (fun w => ldN 32 t36 w.heap) fun t37 =>
  fad 32 t3 fun t39 =>
  rdS S (fun w => ld1 t39 w.heap) fun t40 =>
  bi BinOp.sub t40 (Value.int IntKind.i64 1) fun t41 =>
  efS S (cal P f_ref11_Tree_Height [t0, t37]) w fun t38 w =>
  bi BinOp.neq t38 t41 fun t42 =>
  k3 t42 w)
  (k3 undef w)) fun _ t42_1 w =>
  pik t33 (Value.bool true) t42_1 fun t43 =>
  cnd t43
  (rdP P (Instr.build T_api_ID #[]) w fun t44 =>
  stN 32 t4 t44 w fun w =>
  ldN 32 t4 w.heap fun r4 =>
  R (Value.tuple #[r4, (Value.int IntKind.i64 31)]) w)
  (drw w fun w =>
  nilc t0 fun t47 =>
  fad 34 t47 fun t48 =>
  ld1 t48 w.heap fun t49 =>
  lenS t49 fun t50 =>
  nilc t0 fun t52 =>
  fad 33 t52 fun t53 =>
  ld1 t53 w.heap fun t54 =>
  bi BinOp.geq t50 t54 fun t55 =>
  cnd t55
  (rdP P (Instr.build T_api_ID #[]) w fun t56 =>
  stN 32 t4 t56 w fun w =>
  ldN 32 t4 w.heap fun r5 =>
  R (Value.tuple #[r5, (Value.int IntKind.i64 6)]) w)
  (drH w fun S w =>
  nilc t0 fun t59 =>
  fad 34 t59 fun t60 =>
  rdS S (fun w => ld1 t60 w.heap) fun t61 =>
  rdS S (fun w => ldN 32 t6 w.heap) fun t62 =>
  rdS S (fun w => ldN 34 t3 w.heap) fun t63 =>
  efS S (cal P f_ref03_Clone [t63]) w fun t64 w =>
  rdS S (rdP P (Instr.build T_flurryref11_Node #[(0, t62), (1, t64)])) fun t65 =>
  efS S (efP P (Instr.buildSlice T_sl_flurryref11_Node 1 #[(0, t65)])) w fun t66 w =>
  efC (efP P (Builtin.append_ #[T_sl_flurryref11_Node, T_sl_flurryref11_Node] T_sl_flurryref11_Node #[t61, t66])) w fun S t67 w =>
  nilc t0 fun t68 =>
  fad 34 t68 fun t69 =>
  efC (fun w K => st1 t69 t67 w (K undef)) w fun S _ w =>
  ldN 32 t6 w.heap fun t70 =>
  stN 32 t4 t70 w fun w =>
  ldN 32 t4 w.heap fun r6 =>
  R (Value.tuple #[r6, (Value.int IntKind.i64 0)]) w))))
theorem e_ref11_Tree_Add (t0 t1 : Value) (w : World) (R : Value → World → Prop) : intp P A_ref11_Tree_Add (bodyOf Tryd.f45) (ini [t0, t1]) w (retK P Tryd.f45.results.toList R) (fun _ _ _ => False) (retK P Tryd.f45.results.toList R) = c_ref11_Tree_Add t0 t1 w R := by kernel_rfl
theorem k_ref11_Tree_Add : chk P Tryd.f45.ntmps A_ref11_Tree_Add (bodyOf Tryd.f45) = true := by kernel_rfl
theorem l_ref11_Tree_Add {t0 t1 : Value} {w : World} {R : Value → World → Prop} (h : c_ref11_Tree_Add t0 t1 w R) : cal P f_ref11_Tree_Add [t0, t1] w R :=
  calls_of mixed Tryd.func45 rfl (by kernel_rfl) k_ref11_Tree_Add (Eq.mpr (e_ref11_Tree_Add t0 t1 w R) h)
theorem s_ref11_Tree_Add {t0 t1 : Value} {w : World} {Q : Value → World → Prop} (h : ∀ R : Value → World → Prop, (∀ v w', Q v w' → R v w') → c_ref11_Tree_Add t0 t1 w R) : cal P f_ref11_Tree_Add [t0, t1] w Q := l_ref11_Tree_Add (h Q fun _ _ h => h)

/-- (*flurry/flurryref11.Tree).All -/
def A_ref11_Tree_All : An := (An.s (An.r []) (An.s (An.r []) (An.s (An.s (An.r []) (An.b (An.l [3, 4] (An.s (An.s (An.r []) (An.s An.o An.o)) (An.s (An.b (An.r [])) (An.r [])))))) (An.s (An.r []) An.o))))
def c_ref11_Tree_All (t0 : Value) (w : World) (R : Value → World → Prop) : Prop :=
  lp2 (Value.slice none 0 0) (Value.int IntKind.i64 0) w fun _ t3 t4 w again0 =>
  nilc t0 fun t7 =>
  fad 34 t7 fun t8 =>
  ld1 t8 w.heap fun t9 =>
  lenS t9 fun t10 =>
  bi BinOp.lss t4 t10 fun t11 =>
  cnd t11
  (nilc t0 fun t16 =>
  fad 34 t16 fun t17 =>
  ld1 t17 w.heap fun t18 =>
  ixs 66 t18 t4 fun t20 =>
  fad 0 t20 fun t21 =>
  ldN 32 t21 w.heap fun t22 =>
  efP P (Instr.buildSlice T_sl_api_ID 1 #[(0, t22)]) w fun t23 w =>
  efP P (Builtin.append_ #[T_sl_api_ID, T_sl_api_ID] T_sl_api_ID #[t3, t23]) w fun t24 w =>
  bi BinOp.add t4 (Value.int IntKind.i64 1) fun t13 =>
  again0 t24 t13 w)
  (R t3 w)
theorem e_ref11_Tree_All (t0 : Value) (w : World) (R : Value → World → Prop) : intp P A_ref11_Tree_All (bodyOf Tryd.f46) (ini [t0]) w (retK P Tryd.f46.results.toList R) (fun _ _ _ => False) (retK P Tryd.f46.results.toList R) = c_ref11_Tree_All t0 w R := by kernel_rfl
theorem k_ref11_Tree_All : chk P Tryd.f46.ntmps A_ref11_Tree_All (bodyOf Tryd.f46) = true := by kernel_rfl
theorem l_ref11_Tree_All {t0 : Value} {w : World} {R : Value → World → Prop} (h : c_ref11_Tree_All t0 w R) : cal P f_ref11_Tree_All [t0] w R :=
  calls_of mixed Tryd.func46 rfl (by kernel_rfl) k_ref11_Tree_All (Eq.mpr (e_ref11_Tree_All t0 w R) h)
theorem s_ref11_Tree_All {t0 : Value} {w : World} {Q : Value → World → Prop} (h : ∀ R : Value → World → Prop, (∀ v w', Q v w' → R v w') → c_ref11_Tree_All t0 w R) : cal P f_ref11_Tree_All [t0] w Q := l_ref11_Tree_All (h Q fun _ _ h => h)

/-- (*flurry/flurrylaw11.both).alike -/
def A_law11_both_alike : An := (An.s (An.r []) (An.s (An.dt (Pl.step 0 (Pl.step 1 (Pl.step 2 (Pl.step 3 (Pl.step 4 (Pl.br (Pl.alt 5 (Pl.step 6 (Pl.step 7 (Pl.step 8 (Pl.step 9 (Pl.step 10 (Pl.step 11 Pl.nil)))))) (Pl.alt 9 (Pl.step 5 (Pl.step 6 (Pl.step 7 (Pl.step 8 (Pl.step 10 (Pl.step 11 Pl.nil)))))) Pl.non)))))))) [5, 10] [5, 6]) (An.s (An.dt (Pl.step 0 (Pl.step 1 (Pl.step 2 (Pl.step 3 (Pl.step 4 (Pl.br (Pl.alt 5 (Pl.step 6 (Pl.step 7 (Pl.step 8 (Pl.step 9 (Pl.step 10 (Pl.step 11 Pl.nil)))))) (Pl.alt 9 (Pl.step 5 (Pl.step 6 (Pl.step 7 (Pl.step 8 (Pl.step 10 (Pl.step 11 Pl.nil)))))) Pl.non)))))))) [5, 10] [7, 8]) (An.s (An.s (An.r [[35]]) (An.s (An.s (An.r []) An.o) An.o)) (An.s (An.s (An.r []) (An.b (An.l [40] (An.s (An.r []) (An.s (An.s An.o An.o) (An.s (An.b (An.s (An.r []) (An.r []))) (An.r []))))))) (An.s (An.dc [0, 1, 2, 3, 4, 6, 7, 8, 9, 10, 5, 11, 12, 13, 14, 15, 16, 17, 18, 21, 22, 23, 24, 25, 19, 20, 26, 27, 28, 29, 30, 31, 32, 33, 34, 36, 37, 38, 39, 40, 35, 41, 42, 43, 44, 45, 46, 47, 48, 49, 51, 52, 53, 54, 55, 50, 56, 57, 58, 59] [11] [[78], [93], [108]]) An.o))))))
def c_law11_both_alike (t0 t1 : Value) (w : World) (R : Value → World → Prop) : Prop :=
  bx T_api_ID t1 w fun t3 w =>
  drH w fun S w =>
  jn2 (fun k0 =>
  nilc t0 fun t12 =>
  fad 0 t12 fun t13 =>
  rdS S (fun w => ld1 t13 w.heap) fun t14 =>
  rdS S (fun w => ldN 32 t3 w.heap) fun t15 =>
  (efC (cal P f_tree_Tree_Get [t14, t15]) w fun S t16_1 w =>
  ext 0 t16_1 fun t17_1 =>
  ext 1 t16_1 fun t18_1 =>
  efS S (efP P (Instr.alloc T_api_Block true (.tuple #[]))) w fun t5_1 w =>
  efC (fun w K => stN 34 t5_1 t17_1 w (K undef)) w fun S _ w =>
  k0 t5_1 t18_1 w) ∧
  ((efS S (efP P (Instr.alloc T_api_Block true (.tuple #[]))) w fun t5 w =>
  efC (cal P f_tree_Tree_Get [t14, t15]) w fun S t16 w =>
  ext 0 t16 fun t17 =>
  ext 1 t16 fun t18 =>
  efC (fun w K => stN 34 t5 t17 w (K undef)) w fun S _ w =>
  k0 t5 t18 w) ∧
  (True))) fun _ t5_2 t6 w =>
  drH w fun S w =>
  jn2 (fun k1 =>
  nilc t0 fun t21 =>
  fad 1 t21 fun t22 =>
  rdS S (fun w => ld1 t22 w.heap) fun t23 =>
  rdS S (fun w => ldN 32 t3 w.heap) fun t24 =>
  (efC (cal P f_ref11_Tree_Get [t23, t24]) w fun S t25_1 w =>
  ext 0 t25_1 fun t26_1 =>
  ext 1 t25_1 fun t27_1 =>
  efS S (efP P (Instr.alloc T_api_Block true (.tuple #[]))) w fun t7_1 w =>
  efC (fun w K => stN 34 t7_1 t26_1 w (K undef)) w fun S _ w =>
  k1 t7_1 t27_1 w) ∧
  ((efS S (efP P (Instr.alloc T_api_Block true (.tuple #[]))) w fun t7 w =>
  efC (cal P f_ref11_Tree_Get [t23, t24]) w fun S t25 w =>
  ext 0 t25 fun t26 =>
  ext 1 t25 fun t27 =>
  efC (fun w K => stN 34 t7 t26 w (K undef)) w fun S _ w =>
  k1 t7 t27 w) ∧
  (True))) fun _ t7_2 t8 w =>
  ldN 34 t5_2 w.heap fun t28 =>
  ldN 34 t7_2 w.heap fun t29 =>
  cal P f_ref03_Same [t28, t29] w fun t30 w =>
  notB t30 fun t31 =>
  jn1 (fun k2 =>
  gif t31 false
  (bi BinOp.neq t6 t8 fun t35 =>
  k2 t35 w)
  (k2 undef w)) fun _ t35_1 w =>
  pik t31 (Value.bool true) t35_1 fun t36 =>
  cnd t36
  (R (Value.bool false) w)
  (fad 33 t5_2 fun t37 =>
  ld1 t37 w.heap fun t38 =>
  lenS t38 fun t39 =>
  lp1 (Value.int IntKind.i64 0) w fun _ t40 w again3 =>
  bi BinOp.lss t40 t39 fun t41 =>
  cnd t41
  (fad 33 t5_2 fun t43 =>
  ld1 t43 w.heap fun t44 =>
  ixs 1 t44 t40 fun t46 =>
  ld1 t46 w.heap fun t47 =>
  bi BinOp.xor t47 (Value.int IntKind.u8 255) fun t48 =>
  ixs 1 t44 t40 fun t49 =>
  st1 t49 t48 w fun w =>
  bi BinOp.add t40 (Value.int IntKind.i64 1) fun t50 =>
  again3 t50 w)
  (drH w fun S w =>
  nilc t0 fun t52 =>
  fad 0 t52 fun t53 =>
  rdS S (fun w => ld1 t53 w.heap) fun t54 =>
  rdS S (fun w => ldN 32 t3 w.heap) fun t55 =>
  nilc t0 fun t58 =>
  fad 1 t58 fun t59 =>
  rdS S (fun w => ld1 t59 w.heap) fun t60 =>
  rdS S (fun w => ldN 32 t3 w.heap) fun t61 =>
  efS S (cal P f_tree_Tree_Has [t54, t55]) w fun t56 w =>
  efC (cal P f_ref11_Tree_Has [t60, t61]) w fun S t62 w =>
  rdS S (rdP P (eqS BinOp.eql T_bool (Operand.tmp 56) (Operand.tmp 62) t56 t62)) fun t63 =>
  jn1 (fun k4 =>
  gif t63 true
  (nilc t0 fun t66 =>
  fad 0 t66 fun t67 =>
  rdS S (fun w => ld1 t67 w.heap) fun t68 =>
  rdS S (fun w => ldN 32 t3 w.heap) fun t69 =>
  nilc t0 fun t73 =>
  fad 1 t73 fun t74 =>
  rdS S (fun w => ld1 t74 w.heap) fun t75 =>
  rdS S (fun w => ldN 32 t3 w.heap) fun t76 =>
  efS S (cal P f_tree_Tree_Kids [t68, t69]) w fun t70 w =>
  efS S (cal P f_law11_told [t70, (Value.int IntKind.i64 1048576)]) w fun t71 w =>
  efS S (cal P f_ref11_Tree_Kids [t75, t76]) w fun t77 w =>
  efS S (cal P f_slices_Equal_api_ID_api_ID [t71, t77]) w fun t78 w =>
  k4 t78 w)
  (k4 undef w)) fun _ t78_1 w =>
  pik t63 t78_1 (Value.bool false) fun t79 =>
  jn1 (fun k5 =>
  gif t79 true
  (nilc t0 fun t82 =>
  fad 0 t82 fun t83 =>
  rdS S (fun w => ld1 t83 w.heap) fun t84 =>
  rdS S (fun w => ldN 32 t3 w.heap) fun t85 =>
  nilc t0 fun t88 =>
  fad 1 t88 fun t89 =>
  rdS S (fun w => ld1 t89 w.heap) fun t90 =>
  rdS S (fun w => ldN 32 t3 w.heap) fun t91 =>
  efS S (cal P f_tree_Tree_Path [t84, t85]) w fun t86 w =>
  efS S (cal P f_ref11_Tree_Path [t90, t91]) w fun t92 w =>
  efS S (cal P f_slices_Equal_api_ID_api_ID [t86, t92]) w fun t93 w =>
  k5 t93 w)
  (k5 undef w)) fun _ t93_1 w =>
  pik t79 t93_1 (Value.bool false) fun t94 =>
  jn1 (fun k6 =>
  gif t94 true
  (nilc t0 fun t97 =>
  fad 0 t97 fun t98 =>
  rdS S (fun w => ld1 t98 w.heap) fun t99 =>
  rdS S (fun w => ldN 32 t3 w.heap) fun t100 =>
  nilc t0 fun t103 =>
  fad 1 t103 fun t104 =>
  rdS S (fun w => ld1 t104 w.heap) fun t105 =>
  rdS S (fun w => ldN 32 t3 w.heap) fun t106 =>
  efS S (cal P f_tree_Tree_Under [t99, t100]) w fun t101 w =>
  efS S (cal P f_ref11_Tree_Under [t105, t106]) w fun t107 w =>
  efS S (cal P f_slices_Equal_api_ID_api_ID [t101, t107]) w fun t108 w =>
  k6 t108 w)
  (k6 undef w)) fun _ t108_1 w =>
  pik t94 t108_1 (Value.bool false) fun t109 =>
  R t109 w))
theorem e_law11_both_alike (t0 t1 : Value) (w : World) (R : Value → World → Prop) : intp P A_law11_both_alike (bodyOf Tryd.f47) (ini [t0, t1]) w (retK P Tryd.f47.results.toList R) (fun _ _ _ => False) (retK P Tryd.f47.results.toList R) = c_law11_both_alike t0 t1 w R := by kernel_rfl
theorem k_law11_both_alike : chk P Tryd.f47.ntmps A_law11_both_alike (bodyOf Tryd.f47) = true := by kernel_rfl
theorem l_law11_both_alike {t0 t1 : Value} {w : World} {R : Value → World → Prop} (h : c_law11_both_alike t0 t1 w R) : cal P f_law11_both_alike [t0, t1] w R :=
  calls_of mixed Tryd.func47 rfl (by kernel_rfl) k_law11_both_alike (Eq.mpr (e_law11_both_alike t0 t1 w R) h)
theorem s_law11_both_alike {t0 t1 : Value} {w : World} {Q : Value → World → Prop} (h : ∀ R : Value → World → Prop, (∀ v w', Q v w' → R v w') → c_law11_both_alike t0 t1 w R) : cal P f_law11_both_alike [t0, t1] w Q := l_law11_both_alike (h Q fun _ _ h => h)

/-- (*flurry/flurryref11.Tree).Within -/
def A_ref11_Tree_Within : An := (An.s (An.r []) (An.s (An.s (An.r []) (An.s (An.s (An.r []) An.o) An.o)) (An.s (An.r []) (An.s (An.s (An.r []) (An.b (An.l [8] (An.s (An.s (An.r []) (An.s An.o An.o)) (An.s (An.b (An.s (An.r []) (An.s (An.s (An.r []) An.o) An.o))) (An.r [])))))) (An.s (An.r []) An.o)))))
def c_ref11_Tree_Within (t0 t1 t2 : Value) (w : World) (R : Value → World → Prop) : Prop :=
  bx T_api_ID t1 w fun t4 w =>
  bx T_api_ID t2 w fun t5 w =>
  ldN 32 t4 w.heap fun t10 =>
  cal P f_ref11_Tree_Has [t0, t10] w fun t11 w =>
  notB t11 fun t12 =>
  cnd t12
  (R (Value.bool false) w)
  (ldN 32 t4 w.heap fun t14 =>
  cal P f_ref11_Tree_Path [t0, t14] w fun t15 w =>
  lp1 (Value.int IntKind.i64 0) w fun _ t8 w again0 =>
  lenS t15 fun t18 =>
  bi BinOp.lss t8 t18 fun t19 =>
  cnd t19
  (drw w fun w =>
  ixs 32 t15 t8 fun t24 =>
  ldN 32 t24 w.heap fun t25 =>
  ldN 32 t5 w.heap fun t26 =>
  rdP P (eqS BinOp.eql T_api_ID (Operand.tmp 25) (Operand.tmp 26) t25 t26) w fun t27 =>
  cnd t27
  (R (Value.bool true) w)
  (bi BinOp.add t8 (Value.int IntKind.i64 1) fun t21 =>
  again0 t21 w))
  (drw w fun w =>
  ldN 32 t5 w.heap fun t28 =>
  nilc t0 fun t30 =>
  fad 0 t30 fun t31 =>
  ldN 32 t31 w.heap fun t32 =>
  rdP P (eqS BinOp.eql T_api_ID (Operand.tmp 28) (Operand.tmp 32) t28 t32) w fun t33 =>
  R t33 w))
theorem e_ref11_Tree_Within (t0 t1 t2 : Value) (w : World) (R : Value → World → Prop) : intp P A_ref11_Tree_Within (bodyOf Tryd.f48) (ini [t0, t1, t2]) w (retK P Tryd.f48.results.toList R) (fun _ _ _ => False) (retK P Tryd.f48.results.toList R) = c_ref11_Tree_Within t0 t1 t2 w R := by kernel_rfl
theorem k_ref11_Tree_Within : chk P Tryd.f48.ntmps A_ref11_Tree_Within (bodyOf Tryd.f48) = true := by kernel_rfl
theorem l_ref11_Tree_Within {t0 t1 t2 : Value} {w : World} {R : Value → World → Prop} (h : c_ref11_Tree_Within t0 t1 t2 w R) : cal P f_ref11_Tree_Within [t0, t1, t2] w R :=
  calls_of mixed Tryd.func48 rfl (by kernel_rfl) k_ref11_Tree_Within (Eq.mpr (e_ref11_Tree_Within t0 t1 t2 w R) h)
theorem s_ref11_Tree_Within {t0 t1 t2 : Value} {w : World} {Q : Value → World → Prop} (h : ∀ R : Value → World → Prop, (∀ v w', Q v w' → R v w') → c_ref11_Tree_Within t0 t1 t2 w R) : cal P f_ref11_Tree_Within [t0, t1, t2] w Q := l_ref11_Tree_Within (h Q fun _ _ h => h)

/-- flurry/tree.told -/
def A_tree_told : An := (An.s (An.r []) (An.s (An.r []) An.o))
def c_tree_told (t0 : Value) (w : World) (R : Value → World → Prop) : Prop :=
  bx T_sl_api_ID t0 w fun t1 w =>
  R (Value.func (Fn.func f_tree_told_1) #[] #[t1]) w
theorem e_tree_told (t0 : Value) (w : World) (R : Value → World → Prop) : intp P A_tree_told (bodyOf Tryd.f49) (ini [t0]) w (retK P Tryd.f49.results.toList R) (fun _ _ _ => False) (retK P Tryd.f49.results.toList R) = c_tree_told t0 w R := by kernel_rfl
theorem k_tree_told : chk P Tryd.f49.ntmps A_tree_told (bodyOf Tryd.f49) = true := by kernel_rfl
theorem l_tree_told {t0 : Value} {w : World} {R : Value → World → Prop} (h : c_tree_told t0 w R) : cal P f_tree_told [t0] w R :=
  calls_of mixed Tryd.func49 rfl (by kernel_rfl) k_tree_told (Eq.mpr (e_tree_told t0 w R) h)
theorem s_tree_told {t0 : Value} {w : World} {Q : Value → World → Prop} (h : ∀ R : Value → World → Prop, (∀ v w', Q v w' → R v w') → c_tree_told t0 w R) : cal P f_tree_told [t0] w Q := l_tree_told (h Q fun _ _ h => h)

/-- (*flurry/tree.Tree).All$1 -/
def A_tree_Tree_All_1 : An := (An.s (An.r []) (An.s (An.r []) An.o))
def c_tree_Tree_All_1 (t0 : Value) (w : World) (R : Value → World → Prop) : Prop :=
  bx T_api_ID t0 w fun t1 w =>
  R (Value.bool true) w
theorem e_tree_Tree_All_1 (t0 : Value) (w : World) (R : Value → World → Prop) : intp P A_tree_Tree_All_1 (bodyOf Tryd.f50) (ini [t0]) w (retK P Tryd.f50.results.toList R) (fun _ _ _ => False) (retK P Tryd.f50.results.toList R) = c_tree_Tree_All_1 t0 w R := by kernel_rfl
theorem k_tree_Tree_All_1 : chk P Tryd.f50.ntmps A_tree_Tree_All_1 (bodyOf Tryd.f50) = true := by kernel_rfl
theorem l_tree_Tree_All_1 {t0 : Value} {w : World} {R : Value → World → Prop} (h : c_tree_Tree_All_1 t0 w R) : cal P f_tree_Tree_All_1 [t0] w R :=
  calls_of mixed Tryd.func50 rfl (by kernel_rfl) k_tree_Tree_All_1 (Eq.mpr (e_tree_Tree_All_1 t0 w R) h)
theorem s_tree_Tree_All_1 {t0 : Value} {w : World} {Q : Value → World → Prop} (h : ∀ R : Value → World → Prop, (∀ v w', Q v w' → R v w') → c_tree_Tree_All_1 t0 w R) : cal P f_tree_Tree_All_1 [t0] w Q := l_tree_Tree_All_1 (h Q fun _ _ h => h)

/-- (*flurry/tree.Tree).Kids$1 -/
def A_tree_Tree_Kids_1 : An := (An.s (An.r []) (An.s (An.r []) An.o))
def c_tree_Tree_Kids_1 (t0 t1 t2 : Value) (w : World) (R : Value → World → Prop) : Prop :=
  bx T_api_ID t0 w fun t3 w =>
  drw w fun w =>
  ld1 t1 w.heap fun t5 =>
  nilc t5 fun t6 =>
  fad 35 t6 fun t7 =>
  ld1 t7 w.heap fun t8 =>
  ldN 32 t3 w.heap fun t9 =>
  rdP P (Instr.lookup T_map_api_ID_api_Block t8 t9 false) w fun t10 =>
  fldv 0 32 true t10 fun t11 =>
  ldN 32 t2 w.heap fun t12 =>
  rdP P (eqS BinOp.eql T_api_ID (Operand.tmp 11) (Operand.tmp 12) t11 t12) w fun t13 =>
  R t13 w
theorem e_tree_Tree_Kids_1 (t0 t1 t2 : Value) (w : World) (R : Value → World → Prop) : intp P A_tree_Tree_Kids_1 (bodyOf Tryd.f51) (ini [t0, t1, t2]) w (retK P Tryd.f51.results.toList R) (fun _ _ _ => False) (retK P Tryd.f51.results.toList R) = c_tree_Tree_Kids_1 t0 t1 t2 w R := by kernel_rfl
theorem k_tree_Tree_Kids_1 : chk P Tryd.f51.ntmps A_tree_Tree_Kids_1 (bodyOf Tryd.f51) = true := by kernel_rfl
theorem l_tree_Tree_Kids_1 {t0 t1 t2 : Value} {w : World} {R : Value → World → Prop} (h : c_tree_Tree_Kids_1 t0 t1 t2 w R) : cal P f_tree_Tree_Kids_1 [t0, t1, t2] w R :=
  calls_of mixed Tryd.func51 rfl (by kernel_rfl) k_tree_Tree_Kids_1 (Eq.mpr (e_tree_Tree_Kids_1 t0 t1 t2 w R) h)
theorem s_tree_Tree_Kids_1 {t0 t1 t2 : Value} {w : World} {Q : Value → World → Prop} (h : ∀ R : Value → World → Prop, (∀ v w', Q v w' → R v w') → c_tree_Tree_Kids_1 t0 t1 t2 w R) : cal P f_tree_Tree_Kids_1 [t0, t1, t2] w Q := l_tree_Tree_Kids_1 (h Q fun _ _ h => h)

/-- (*flurry/tree.Tree).Under$1 -/
def A_tree_Tree_Under_1 : An := (An.s (An.r []) (An.s (An.r []) An.o))
def c_tree_Tree_Under_1 (t0 t1 t2 : Value) (w : World) (R : Value → World → Prop) : Prop :=
  bx T_api_ID t0 w fun t3 w =>
  ld1 t1 w.heap fun t5 =>
  ldN 32 t3 w.heap fun t6 =>
  ldN 32 t2 w.heap fun t7 =>
  cal P f_tree_Tree_Within [t5, t6, t7] w fun t8 w =>
  R t8 w
theorem e_tree_Tree_Under_1 (t0 t1 t2 : Value) (w : World) (R : Value → World → Prop) : intp P A_tree_Tree_Under_1 (bodyOf Tryd.f52) (ini [t0, t1, t2]) w (retK P Tryd.f52.results.toList R) (fun _ _ _ => False) (retK P Tryd.f52.results.toList R) = c_tree_Tree_Under_1 t0 t1 t2 w R := by kernel_rfl
theorem k_tree_Tree_Under_1 : chk P Tryd.f52.ntmps A_tree_Tree_Under_1 (bodyOf Tryd.f52) = true := by kernel_rfl
theorem l_tree_Tree_Under_1 {t0 t1 t2 : Value} {w : World} {R : Value → World → Prop} (h : c_tree_Tree_Under_1 t0 t1 t2 w R) : cal P f_tree_Tree_Under_1 [t0, t1, t2] w R :=
  calls_of mixed Tryd.func52 rfl (by kernel_rfl) k_tree_Tree_Under_1 (Eq.mpr (e_tree_Tree_Under_1 t0 t1 t2 w R) h)
theorem s_tree_Tree_Under_1 {t0 t1 t2 : Value} {w : World} {Q : Value → World → Prop} (h : ∀ R : Value → World → Prop, (∀ v w', Q v w' → R v w') → c_tree_Tree_Under_1 t0 t1 t2 w R) : cal P f_tree_Tree_Under_1 [t0, t1, t2] w Q := l_tree_Tree_Under_1 (h Q fun _ _ h => h)

/-- slices.Clone[[]flurry/api.ID,flurry/api.ID] -/
def A_slices_Clone_api_ID_api_ID : An := (An.s (An.r []) (An.s (An.s (An.r []) (An.s (An.s (An.r []) An.o) An.o)) (An.s (An.r []) An.o)))
def c_slices_Clone_api_ID_api_ID (t0 : Value) (w : World) (R : Value → World → Prop) : Prop :=
  nilS false t0 fun t4 =>
  cnd t4
  (R (Value.slice none 0 0) w)
  (efP P (Instr.buildSlice T_sl_api_ID 0 #[]) w fun t5 w =>
  efP P (Builtin.append_ #[T_sl_api_ID, T_sl_api_ID] T_sl_api_ID #[t5, t0]) w fun t7 w =>
  R t7 w)
theorem e_slices_Clone_api_ID_api_ID (t0 : Value) (w : World) (R : Value → World → Prop) : intp P A_slices_Clone_api_ID_api_ID (bodyOf Tryd.f53) (ini [t0]) w (retK P Tryd.f53.results.toList R) (fun _ _ _ => False) (retK P Tryd.f53.results.toList R) = c_slices_Clone_api_ID_api_ID t0 w R := by kernel_rfl
theorem k_slices_Clone_api_ID_api_ID : chk P Tryd.f53.ntmps A_slices_Clone_api_ID_api_ID (bodyOf Tryd.f53) = true := by kernel_rfl
theorem l_slices_Clone_api_ID_api_ID {t0 : Value} {w : World} {R : Value → World → Prop} (h : c_slices_Clone_api_ID_api_ID t0 w R) : cal P f_slices_Clone_api_ID_api_ID [t0] w R :=
  calls_of mixed Tryd.func53 rfl (by kernel_rfl) k_slices_Clone_api_ID_api_ID (Eq.mpr (e_slices_Clone_api_ID_api_ID t0 w R) h)
theorem s_slices_Clone_api_ID_api_ID {t0 : Value} {w : World} {Q : Value → World → Prop} (h : ∀ R : Value → World → Prop, (∀ v w', Q v w' → R v w') → c_slices_Clone_api_ID_api_ID t0 w R) : cal P f_slices_Clone_api_ID_api_ID [t0] w Q := l_slices_Clone_api_ID_api_ID (h Q fun _ _ h => h)

/-- (*flurry/flurryref11.Tree).place -/
def A_ref11_Tree_place : An := (An.s (An.r []) (An.s (An.s (An.r []) (An.b (An.l [5] (An.s (An.s (An.r []) (An.s An.o An.o)) (An.s (An.b (An.s (An.r []) (An.s (An.s (An.r []) An.o) An.o))) (An.r [])))))) (An.s (An.r []) An.o)))
def c_ref11_Tree_place (t0 t1 : Value) (w : World) (R : Value → World → Prop) : Prop :=
  bx T_api_ID t1 w fun t3 w =>
  lp1 (Value.int IntKind.i64 0) w fun _ t5 w again0 =>
  nilc t0 fun t8 =>
  fad 34 t8 fun t9 =>
  ld1 t9 w.heap fun t10 =>
  lenS t10 fun t11 =>
  bi BinOp.lss t5 t11 fun t12 =>
  cnd t12
  (drw w fun w =>
  nilc t0 fun t16 =>
  fad 34 t16 fun t17 =>
  ld1 t17 w.heap fun t18 =>
  ixs 66 t18 t5 fun t20 =>
  fad 0 t20 fun t21 =>
  ldN 32 t21 w.heap fun t22 =>
  ldN 32 t3 w.heap fun t23 =>
  rdP P (eqS BinOp.eql T_api_ID (Operand.tmp 22) (Operand.tmp 23) t22 t23) w fun t24 =>
  cnd t24
  (R t5 w)
  (bi BinOp.add t5 (Value.int IntKind.i64 1) fun t14 =>
  again0 t14 w))
  (R (Value.int IntKind.i64 (-1)) w)
theorem e_ref11_Tree_place (t0 t1 : Value) (w : World) (R : Value → World → Prop) : intp P A_ref11_Tree_place (bodyOf Tryd.f54) (ini [t0, t1]) w (retK P Tryd.f54.results.toList R) (fun _ _ _ => False) (retK P Tryd.f54.results.toList R) = c_ref11_Tree_place t0 t1 w R := by kernel_rfl
theorem k_ref11_Tree_place : chk P Tryd.f54.ntmps A_ref11_Tree_place (bodyOf Tryd.f54) = true := by kernel_rfl
theorem l_ref11_Tree_place {t0 t1 : Value} {w : World} {R : Value → World → Prop} (h : c_ref11_Tree_place t0 t1 w R) : cal P f_ref11_Tree_place [t0, t1] w R :=
  calls_of mixed Tryd.func54 rfl (by kernel_rfl) k_ref11_Tree_place (Eq.mpr (e_ref11_Tree_place t0 t1 w R) h)
theorem s_ref11_Tree_place {t0 t1 : Value} {w : World} {Q : Value → World → Prop} (h : ∀ R : Value → World → Prop, (∀ v w', Q v w' → R v w') → c_ref11_Tree_place t0 t1 w R) : cal P f_ref11_Tree_place [t0, t1] w Q := l_ref11_Tree_place (h Q fun _ _ h => h)

/-- bytes.Clone -/
def A_bytes_Clone : An := (An.s (An.r []) (An.s (An.s (An.r []) (An.s (An.s (An.r []) An.o) An.o)) (An.s (An.r []) An.o)))
def c_bytes_Clone (t0 : Value) (w : World) (R : Value → World → Prop) : Prop :=
  nilS false t0 fun t4 =>
  cnd t4
  (R (Value.slice none 0 0) w)
  (efP P (Instr.buildSlice T_sl_uint8 0 #[]) w fun t5 w =>
  efP P (Builtin.append_ #[T_sl_uint8, T_sl_uint8] T_sl_uint8 #[t5, t0]) w fun t7 w =>
  R t7 w)
theorem e_bytes_Clone (t0 : Value) (w : World) (R : Value → World → Prop) : intp P A_bytes_Clone (bodyOf Tryd.f55) (ini [t0]) w (retK P Tryd.f55.results.toList R) (fun _ _ _ => False) (retK P Tryd.f55.results.toList R) = c_bytes_Clone t0 w R := by kernel_rfl
theorem k_bytes_Clone : chk P Tryd.f55.ntmps A_bytes_Clone (bodyOf Tryd.f55) = true := by kernel_rfl
theorem l_bytes_Clone {t0 : Value} {w : World} {R : Value → World → Prop} (h : c_bytes_Clone t0 w R) : cal P f_bytes_Clone [t0] w R :=
  calls_of mixed Tryd.func55 rfl (by kernel_rfl) k_bytes_Clone (Eq.mpr (e_bytes_Clone t0 w R) h)
theorem s_bytes_Clone {t0 : Value} {w : World} {Q : Value → World → Prop} (h : ∀ R : Value → World → Prop, (∀ v w', Q v w' → R v w') → c_bytes_Clone t0 w R) : cal P f_bytes_Clone [t0] w Q := l_bytes_Clone (h Q fun _ _ h => h)

/-- flurry/block.Bytes -/
def A_block_Bytes : An := (An.s (An.r []) (An.s (An.s (An.r []) (An.s (An.r []) (An.s (An.s (An.r []) An.o) An.o))) (An.s (An.r []) (An.s (An.r []) (An.s (An.r []) (An.s (An.r []) (An.s (An.r []) (An.s (An.r []) An.o))))))))
def c_block_Bytes (t0 : Value) (w : World) (R : Value → World → Prop) : Prop :=
  bx T_api_Block t0 w fun t1 w =>
  ldN 34 t1 w.heap fun t6 =>
  cal P f_block_Check [t6] w fun t7 w =>
  bi BinOp.neq t7 (Value.int IntKind.i64 0) fun t9 =>
  cnd t9
  (R (Value.tuple #[(Value.slice none 0 0), t7]) w)
  (cal P f_pack_New [(Value.int IntKind.i64 246)] w fun t11 w =>
  cal P f_pack_Packer_Short [t11, (Value.int IntKind.u16 0)] w fun t13 w =>
  fad 0 t1 fun t15 =>
  sla 32 1 t15 none none fun t16 =>
  cal P f_pack_Packer_Fixed [t11, t16] w fun t17 w =>
  fad 32 t1 fun t19 =>
  ld1 t19 w.heap fun t20 =>
  cvi IntKind.u64 t20 fun t21 =>
  cal P f_pack_Packer_Long [t11, t21] w fun t22 w =>
  fad 33 t1 fun t24 =>
  ld1 t24 w.heap fun t25 =>
  cal P f_pack_Packer_Bytes [t11, t25] w fun t26 w =>
  cal P f_pack_Packer_Out [t11] w fun t28 w =>
  ext 0 t28 fun t29 =>
  ext 1 t28 fun t30 =>
  R (Value.tuple #[t29, t30]) w)
theorem e_block_Bytes (t0 : Value) (w : World) (R : Value → World → Prop) : intp P A_block_Bytes (bodyOf Tryd.f56) (ini [t0]) w (retK P Tryd.f56.results.toList R) (fun _ _ _ => False) (retK P Tryd.f56.results.toList R) = c_block_Bytes t0 w R := by kernel_rfl
theorem k_block_Bytes : chk P Tryd.f56.ntmps A_block_Bytes (bodyOf Tryd.f56) = true := by kernel_rfl
theorem l_block_Bytes {t0 : Value} {w : World} {R : Value → World → Prop} (h : c_block_Bytes t0 w R) : cal P f_block_Bytes [t0] w R :=
  calls_of mixed Tryd.func56 rfl (by kernel_rfl) k_block_Bytes (Eq.mpr (e_block_Bytes t0 w R) h)
theorem s_block_Bytes {t0 : Value} {w : World} {Q : Value → World → Prop} (h : ∀ R : Value → World → Prop, (∀ v w', Q v w' → R v w') → c_block_Bytes t0 w R) : cal P f_block_Bytes [t0] w Q := l_block_Bytes (h Q fun _ _ h => h)

/-- flurry/sha.Sum -/
def A_sha_Sum : An := (An.s (An.r []) (An.s (An.r []) (An.s (An.r []) (An.s (An.r []) An.o))))
def c_sha_Sum (t0 : Value) (w : World) (R : Value → World → Prop) : Prop :=
  efP P (Instr.alloc T_api_ID true (.tuple #[])) w fun t2 w =>
  cal P f_sha_New [] w fun t4 w =>
  efP P (Instr.buildSlice T_sl_sl_uint8 1 #[(0, t0)]) w fun t7 w =>
  cal P f_sha_State_Write [t4, t7] w fun t8 w =>
  cal P f_sha_State_Sum [t4] w fun t10 w =>
  stN 32 t2 t10 w fun w =>
  ldN 32 t2 w.heap fun r0 =>
  R r0 w
theorem e_sha_Sum (t0 : Value) (w : World) (R : Value → World → Prop) : intp P A_sha_Sum (bodyOf Tryd.f57) (ini [t0]) w (retK P Tryd.f57.results.toList R) (fun _ _ _ => False) (retK P Tryd.f57.results.toList R) = c_sha_Sum t0 w R := by kernel_rfl
theorem k_sha_Sum : chk P Tryd.f57.ntmps A_sha_Sum (bodyOf Tryd.f57) = true := by kernel_rfl
theorem l_sha_Sum {t0 : Value} {w : World} {R : Value → World → Prop} (h : c_sha_Sum t0 w R) : cal P f_sha_Sum [t0] w R :=
  calls_of mixed Tryd.func57 rfl (by kernel_rfl) k_sha_Sum (Eq.mpr (e_sha_Sum t0 w R) h)
theorem s_sha_Sum {t0 : Value} {w : World} {Q : Value → World → Prop} (h : ∀ R : Value → World → Prop, (∀ v w', Q v w' → R v w') → c_sha_Sum t0 w R) : cal P f_sha_Sum [t0] w Q := l_sha_Sum (h Q fun _ _ h => h)

/-- flurry/flurryref03.ID -/
def A_ref03_ID : An := (An.s (An.r []) (An.s (An.r []) (An.s (An.s (An.r []) (An.s (An.s (An.r []) An.o) An.o)) (An.s (An.r []) An.o))))
def c_ref03_ID (t0 : Value) (w : World) (R : Value → World → Prop) : Prop :=
  bx T_api_Block t0 w fun t1 w =>
  efP P (Instr.alloc T_api_ID true (.tuple #[])) w fun t2 w =>
  ldN 34 t1 w.heap fun t7 =>
  cal P f_ref03_Bytes [t7] w fun t8 w =>
  ext 0 t8 fun t9 =>
  ext 1 t8 fun t10 =>
  bi BinOp.neq t10 (Value.int IntKind.i64 0) fun t12 =>
  cnd t12
  (rdP P (Instr.build T_api_ID #[]) w fun t13 =>
  stN 32 t2 t13 w fun w =>
  ldN 32 t2 w.heap fun r0 =>
  R (Value.tuple #[r0, t10]) w)
  (cal P f_ref02_Sum [t9] w fun t16 w =>
  stN 32 t2 t16 w fun w =>
  ldN 32 t2 w.heap fun r1 =>
  R (Value.tuple #[r1, (Value.int IntKind.i64 0)]) w)
theorem e_ref03_ID (t0 : Value) (w : World) (R : Value → World → Prop) : intp P A_ref03_ID (bodyOf Tryd.f58) (ini [t0]) w (retK P Tryd.f58.results.toList R) (fun _ _ _ => False) (retK P Tryd.f58.results.toList R) = c_ref03_ID t0 w R := by kernel_rfl
theorem k_ref03_ID : chk P Tryd.f58.ntmps A_ref03_ID (bodyOf Tryd.f58) = true := by kernel_rfl
theorem l_ref03_ID {t0 : Value} {w : World} {R : Value → World → Prop} (h : c_ref03_ID t0 w R) : cal P f_ref03_ID [t0] w R :=
  calls_of mixed Tryd.func58 rfl (by kernel_rfl) k_ref03_ID (Eq.mpr (e_ref03_ID t0 w R) h)
theorem s_ref03_ID {t0 : Value} {w : World} {Q : Value → World → Prop} (h : ∀ R : Value → World → Prop, (∀ v w', Q v w' → R v w') → c_ref03_ID t0 w R) : cal P f_ref03_ID [t0] w Q := l_ref03_ID (h Q fun _ _ h => h)

/-- (*flurry/flurryref11.Tree).Has -/
def A_ref11_Tree_Has : An := (An.s (An.r []) (An.s (An.d [0, 1, 2, 3, 4, 5, 6, 7, 8, 9, 10, 11, 12] [[15]]) An.o))
def c_ref11_Tree_Has (t0 t1 : Value) (w : World) (R : Value → World → Prop) : Prop :=
  bx T_api_ID t1 w fun t3 w =>
  drH w fun S w =>
  rdS S (fun w => ldN 32 t3 w.heap) fun t5 =>
  nilc t0 fun t7 =>
  fad 0 t7 fun t8 =>
  rdS S (fun w => ldN 32 t8 w.heap) fun t9 =>
  rdS S (rdP P (eqS BinOp.eql T_api_ID (Operand.tmp 5) (Operand.tmp 9) t5 t9)) fun t10 =>
  jn1 (fun k0 =>
  gif t10 false
  (rdS S (fun w => ldN 32 t3 w.heap) fun t13 =>
  efS S (cal P f_ref11_Tree_place [t0, t13]) w fun t14 w =>
  bi BinOp.geq t14 (Value.int IntKind.i64 0) fun t15 =>
  k0 t15 w)
  (k0 undef w)) fun _ t15_1 w =>
  pik t10 (Value.bool true) t15_1 fun t16 =>
  R t16 w
theorem e_ref11_Tree_Has (t0 t1 : Value) (w : World) (R : Value → World → Prop) : intp P A_ref11_Tree_Has (bodyOf Tryd.f59) (ini [t0, t1]) w (retK P Tryd.f59.results.toList R) (fun _ _ _ => False) (retK P Tryd.f59.results.toList R) = c_ref11_Tree_Has t0 t1 w R := by kernel_rfl
theorem k_ref11_Tree_Has : chk P Tryd.f59.ntmps A_ref11_Tree_Has (bodyOf Tryd.f59) = true := by kernel_rfl
theorem l_ref11_Tree_Has {t0 t1 : Value} {w : World} {R : Value → World → Prop} (h : c_ref11_Tree_Has t0 t1 w R) : cal P f_ref11_Tree_Has [t0, t1] w R :=
  calls_of mixed Tryd.func59 rfl (by kernel_rfl) k_ref11_Tree_Has (Eq.mpr (e_ref11_Tree_Has t0 t1 w R) h)
theorem s_ref11_Tree_Has {t0 t1 : Value} {w : World} {Q : Value → World → Prop} (h : ∀ R : Value → World → Prop, (∀ v w', Q v w' → R v w') → c_ref11_Tree_Has t0 t1 w R) : cal P f_ref11_Tree_Has [t0, t1] w Q := l_ref11_Tree_Has (h Q fun _ _ h => h)

/-- (*flurry/flurryref11.Tree).Height -/
def A_ref11_Tree_Height : An := (An.s (An.r []) (An.s (An.s (An.r []) (An.s (An.s (An.r []) An.o) An.o)) (An.s (An.r []) (An.s (An.s (An.r []) (An.s (An.s (An.r []) An.o) An.o)) (An.s (An.r []) An.o)))))
def c_ref11_Tree_Height (t0 t1 : Value) (w : World) (R : Value → World → Prop) : Prop :=
  bx T_api_ID t1 w fun t3 w =>
  drw w fun w =>
  ldN 32 t3 w.heap fun t6 =>
  nilc t0 fun t8 =>
  fad 0 t8 fun t9 =>
  ldN 32 t9 w.heap fun t10 =>
  rdP P (eqS BinOp.eql T_api_ID (Operand.tmp 6) (Operand.tmp 10) t6 t10) w fun t11 =>
  cnd t11
  (nilc t0 fun t13 =>
  fad 32 t13 fun t14 =>
  ld1 t14 w.heap fun t15 =>
  R t15 w)
  (ldN 32 t3 w.heap fun t17 =>
  cal P f_ref11_Tree_place [t0, t17] w fun t18 w =>
  bi BinOp.lss t18 (Value.int IntKind.i64 0) fun t20 =>
  cnd t20
  (R (Value.int IntKind.i64 (-1)) w)
  (nilc t0 fun t22 =>
  fad 34 t22 fun t23 =>
  ld1 t23 w.heap fun t24 =>
  ixs 66 t24 t18 fun t26 =>
  fad 32 t26 fun t27 =>
  fad 32 t27 fun t28 =>
  ld1 t28 w.heap fun t29 =>
  R t29 w))
theorem e_ref11_Tree_Height (t0 t1 : Value) (w : World) (R : Value → World → Prop) : intp P A_ref11_Tree_Height (bodyOf Tryd.f60) (ini [t0, t1]) w (retK P Tryd.f60.results.toList R) (fun _ _ _ => False) (retK P Tryd.f60.results.toList R) = c_ref11_Tree_Height t0 t1 w R := by kernel_rfl
theorem k_ref11_Tree_Height : chk P Tryd.f60.ntmps A_ref11_Tree_Height (bodyOf Tryd.f60) = true := by kernel_rfl
theorem l_ref11_Tree_Height {t0 t1 : Value} {w : World} {R : Value → World → Prop} (h : c_ref11_Tree_Height t0 t1 w R) : cal P f_ref11_Tree_Height [t0, t1] w R :=
  calls_of mixed Tryd.func60 rfl (by kernel_rfl) k_ref11_Tree_Height (Eq.mpr (e_ref11_Tree_Height t0 t1 w R) h)
theorem s_ref11_Tree_Height {t0 t1 : Value} {w : World} {Q : Value → World → Prop} (h : ∀ R : Value → World → Prop, (∀ v w', Q v w' → R v w') → c_ref11_Tree_Height t0 t1 w R) : cal P f_ref11_Tree_Height [t0, t1] w Q := l_ref11_Tree_Height (h Q fun _ _ h => h)

/-- (*flurry/flurryref11.Tree).Get -/
def A_ref11_Tree_Get : An := (An.s (An.r []) (An.s (An.r []) (An.s (An.s (An.r []) (An.s (An.s (An.r []) An.o) An.o)) (An.s (An.r []) An.o))))
def c_ref11_Tree_Get (t0 t1 : Value) (w : World) (R : Value → World → Prop) : Prop :=
  bx T_api_ID t1 w fun t3 w =>
  efP P (Instr.alloc T_api_Block true (.tuple #[])) w fun t4 w =>
  ldN 32 t3 w.heap fun t8 =>
  cal P f_ref11_Tree_place [t0, t8] w fun t9 w =>
  bi BinOp.lss t9 (Value.int IntKind.i64 0) fun t11 =>
  cnd t11
  (rdP P (Instr.build T_api_Block #[]) w fun t12 =>
  stN 34 t4 t12 w fun w =>
  ldN 34 t4 w.heap fun r0 =>
  R (Value.tuple #[r0, (Value.int IntKind.i64 4)]) w)
  (nilc t0 fun t14 =>
  fad 34 t14 fun t15 =>
  ld1 t15 w.heap fun t16 =>
  ixs 66 t16 t9 fun t18 =>
  fad 32 t18 fun t19 =>
  ldN 34 t19 w.heap fun t20 =>
  stN 34 t4 t20 w fun w =>
  ldN 34 t4 w.heap fun r1 =>
  R (Value.tuple #[r1, (Value.int IntKind.i64 0)]) w)
theorem e_ref11_Tree_Get (t0 t1 : Value) (w : World) (R : Value → World → Prop) : intp P A_ref11_Tree_Get (bodyOf Tryd.f61) (ini [t0, t1]) w (retK P Tryd.f61.results.toList R) (fun _ _ _ => False) (retK P Tryd.f61.results.toList R) = c_ref11_Tree_Get t0 t1 w R := by kernel_rfl
theorem k_ref11_Tree_Get : chk P Tryd.f61.ntmps A_ref11_Tree_Get (bodyOf Tryd.f61) = true := by kernel_rfl
theorem l_ref11_Tree_Get {t0 t1 : Value} {w : World} {R : Value → World → Prop} (h : c_ref11_Tree_Get t0 t1 w R) : cal P f_ref11_Tree_Get [t0, t1] w R :=
  calls_of mixed Tryd.func61 rfl (by kernel_rfl) k_ref11_Tree_Get (Eq.mpr (e_ref11_Tree_Get t0 t1 w R) h)
theorem s_ref11_Tree_Get {t0 t1 : Value} {w : World} {Q : Value → World → Prop} (h : ∀ R : Value → World → Prop, (∀ v w', Q v w' → R v w') → c_ref11_Tree_Get t0 t1 w R) : cal P f_ref11_Tree_Get [t0, t1] w Q := l_ref11_Tree_Get (h Q fun _ _ h => h)

/-- (*flurry/flurryref11.Tree).Kids -/
def A_ref11_Tree_Kids : An := (An.s (An.r []) (An.s (An.r []) (An.s (An.s (An.r []) (An.b (An.l [5, 6] (An.s (An.s (An.r [[17]]) (An.s An.o An.o)) (An.s (An.j [5] (An.b (An.s (An.r []) (An.s (An.r []) An.o)))) (An.r [])))))) (An.s (An.r []) An.o))))
def c_ref11_Tree_Kids (t0 t1 : Value) (w : World) (R : Value → World → Prop) : Prop :=
  bx T_api_ID t1 w fun t3 w =>
  lp2 (Value.slice none 0 0) (Value.int IntKind.i64 0) w fun _ t5 t6 w again0 =>
  nilc t0 fun t9 =>
  fad 34 t9 fun t10 =>
  ld1 t10 w.heap fun t11 =>
  lenS t11 fun t12 =>
  bi BinOp.lss t6 t12 fun t13 =>
  jn1 (fun k1 =>
  gif t13 true
  (ldN 32 t3 w.heap fun t16 =>
  cal P f_ref11_Tree_Has [t0, t16] w fun t17 w =>
  k1 t17 w)
  (k1 undef w)) fun _ t17_1 w =>
  pik t13 t17_1 (Value.bool false) fun t18 =>
  cnd t18
  (jn1 (fun k2 =>
  drw w fun w =>
  nilc t0 fun t22 =>
  fad 34 t22 fun t23 =>
  ld1 t23 w.heap fun t24 =>
  ixs 66 t24 t6 fun t26 =>
  fad 32 t26 fun t27 =>
  fad 0 t27 fun t28 =>
  ldN 32 t28 w.heap fun t29 =>
  ldN 32 t3 w.heap fun t30 =>
  rdP P (eqS BinOp.eql T_api_ID (Operand.tmp 29) (Operand.tmp 30) t29 t30) w fun t31 =>
  cnd t31
  (nilc t0 fun t34 =>
  fad 34 t34 fun t35 =>
  ld1 t35 w.heap fun t36 =>
  ixs 66 t36 t6 fun t38 =>
  fad 0 t38 fun t39 =>
  ldN 32 t39 w.heap fun t40 =>
  efP P (Instr.buildSlice T_sl_api_ID 1 #[(0, t40)]) w fun t41 w =>
  efP P (Builtin.append_ #[T_sl_api_ID, T_sl_api_ID] T_sl_api_ID #[t5, t41]) w fun t42 w =>
  k2 t42 w)
  (k2 t5 w)) fun _ t5_1 w =>
  bi BinOp.add t6 (Value.int IntKind.i64 1) fun t20 =>
  again0 t5_1 t20 w)
  (R t5 w)
theorem e_ref11_Tree_Kids (t0 t1 : Value) (w : World) (R : Value → World → Prop) : intp P A_ref11_Tree_Kids (bodyOf Tryd.f62) (ini [t0, t1]) w (retK P Tryd.f62.results.toList R) (fun _ _ _ => False) (retK P Tryd.f62.results.toList R) = c_ref11_Tree_Kids t0 t1 w R := by kernel_rfl
theorem k_ref11_Tree_Kids : chk P Tryd.f62.ntmps A_ref11_Tree_Kids (bodyOf Tryd.f62) = true := by kernel_rfl
theorem l_ref11_Tree_Kids {t0 t1 : Value} {w : World} {R : Value → World → Prop} (h : c_ref11_Tree_Kids t0 t1 w R) : cal P f_ref11_Tree_Kids [t0, t1] w R :=
  calls_of mixed Tryd.func62 rfl (by kernel_rfl) k_ref11_Tree_Kids (Eq.mpr (e_ref11_Tree_Kids t0 t1 w R) h)
theorem s_ref11_Tree_Kids {t0 t1 : Value} {w : World} {Q : Value → World → Prop} (h : ∀ R : Value → World → Prop, (∀ v w', Q v w' → R v w') → c_ref11_Tree_Kids t0 t1 w R) : cal P f_ref11_Tree_Kids [t0, t1] w Q := l_ref11_Tree_Kids (h Q fun _ _ h => h)

/-- (*flurry/flurryref11.Tree).Path -/
def A_ref11_Tree_Path : An := (An.s (An.r []) (An.s (An.r []) (An.s (An.s (An.r []) (An.b (An.l [5, 6] (An.s (An.s (An.r []) (An.s An.o An.o)) (An.s (An.b (An.r [])) (An.r [])))))) (An.s (An.r []) An.o))))
def c_ref11_Tree_Path (t0 t1 : Value) (w : World) (R : Value → World → Prop) : Prop :=
  bx T_api_ID t1 w fun t3 w =>
  ldN 32 t3 w.heap fun t8 =>
  cal P f_ref11_Tree_place [t0, t8] w fun t9 w =>
  lp2 (Value.slice none 0 0) t9 w fun _ t5 t6 w again0 =>
  bi BinOp.geq t6 (Value.int IntKind.i64 0) fun t11 =>
  cnd t11
  (nilc t0 fun t24 =>
  fad 34 t24 fun t25 =>
  ld1 t25 w.heap fun t26 =>
  ixs 66 t26 t6 fun t28 =>
  fad 0 t28 fun t29 =>
  ldN 32 t29 w.heap fun t30 =>
  efP P (Instr.buildSlice T_sl_api_ID 1 #[(0, t30)]) w fun t31 w =>
  efP P (Builtin.append_ #[T_sl_api_ID, T_sl_api_ID] T_sl_api_ID #[t31, t5]) w fun t33 w =>
  nilc t0 fun t14 =>
  fad 34 t14 fun t15 =>
  ld1 t15 w.heap fun t16 =>
  ixs 66 t16 t6 fun t18 =>
  fad 32 t18 fun t19 =>
  fad 0 t19 fun t20 =>
  ldN 32 t20 w.heap fun t21 =>
  cal P f_ref11_Tree_place [t0, t21] w fun t22 w =>
  again0 t33 t22 w)
  (R t5 w)
theorem e_ref11_Tree_Path (t0 t1 : Value) (w : World) (R : Value → World → Prop) : intp P A_ref11_Tree_Path (bodyOf Tryd.f63) (ini [t0, t1]) w (retK P Tryd.f63.results.toList R) (fun _ _ _ => False) (retK P Tryd.f63.results.toList R) = c_ref11_Tree_Path t0 t1 w R := by kernel_rfl
theorem k_ref11_Tree_Path : chk P Tryd.f63.ntmps A_ref11_Tree_Path (bodyOf Tryd.f63) = true := by kernel_rfl
theorem l_ref11_Tree_Path {t0 t1 : Value} {w : World} {R : Value → World → Prop} (h : c_ref11_Tree_Path t0 t1 w R) : cal P f_ref11_Tree_Path [t0, t1] w R :=
  calls_of mixed Tryd.func63 rfl (by kernel_rfl) k_ref11_Tree_Path (Eq.mpr (e_ref11_Tree_Path t0 t1 w R) h)
theorem s_ref11_Tree_Path {t0 t1 : Value} {w : World} {Q : Value → World → Prop} (h : ∀ R : Value → World → Prop, (∀ v w', Q v w' → R v w') → c_ref11_Tree_Path t0 t1 w R) : cal P f_ref11_Tree_Path [t0, t1] w Q := l_ref11_Tree_Path (h Q fun _ _ h => h)

/-- (*flurry/flurryref11.Tree).Under -/
def A_ref11_Tree_Under : An := (An.s (An.r []) (An.s (An.r []) (An.s (An.s (An.r []) (An.b (An.l [5, 6] (An.s (An.s (An.r []) (An.s An.o An.o)) (An.s (An.j [5] (An.b (An.s (An.dc [0, 1, 2, 3, 4, 5, 6, 7, 8, 9, 10] [10] []) (An.s (An.r []) An.o)))) (An.r [])))))) (An.s (An.r []) An.o))))
def c_ref11_Tree_Under (t0 t1 : Value) (w : World) (R : Value → World → Prop) : Prop :=
  bx T_api_ID t1 w fun t3 w =>
  lp2 (Value.slice none 0 0) (Value.int IntKind.i64 0) w fun _ t5 t6 w again0 =>
  nilc t0 fun t9 =>
  fad 34 t9 fun t10 =>
  ld1 t10 w.heap fun t11 =>
  lenS t11 fun t12 =>
  bi BinOp.lss t6 t12 fun t13 =>
  cnd t13
  (jn1 (fun k1 =>
  drH w fun S w =>
  nilc t0 fun t18 =>
  fad 34 t18 fun t19 =>
  rdS S (fun w => ld1 t19 w.heap) fun t20 =>
  ixs 66 t20 t6 fun t22 =>
  fad 0 t22 fun t23 =>
  rdS S (fun w => ldN 32 t23 w.heap) fun t24 =>
  rdS S (fun w => ldN 32 t3 w.heap) fun t25 =>
  efC (cal P f_ref11_Tree_Within [t0, t24, t25]) w fun S t26 w =>
  cnd t26
  (nilc t0 fun t29 =>
  fad 34 t29 fun t30 =>
  ld1 t30 w.heap fun t31 =>
  ixs 66 t31 t6 fun t33 =>
  fad 0 t33 fun t34 =>
  ldN 32 t34 w.heap fun t35 =>
  efP P (Instr.buildSlice T_sl_api_ID 1 #[(0, t35)]) w fun t36 w =>
  efP P (Builtin.append_ #[T_sl_api_ID, T_sl_api_ID] T_sl_api_ID #[t5, t36]) w fun t37 w =>
  k1 t37 w)
  (k1 t5 w)) fun _ t5_1 w =>
  bi BinOp.add t6 (Value.int IntKind.i64 1) fun t15 =>
  again0 t5_1 t15 w)
  (R t5 w)
theorem e_ref11_Tree_Under (t0 t1 : Value) (w : World) (R : Value → World → Prop) : intp P A_ref11_Tree_Under (bodyOf Tryd.f64) (ini [t0, t1]) w (retK P Tryd.f64.results.toList R) (fun _ _ _ => False) (retK P Tryd.f64.results.toList R) = c_ref11_Tree_Under t0 t1 w R := by kernel_rfl
theorem k_ref11_Tree_Under : chk P Tryd.f64.ntmps A_ref11_Tree_Under (bodyOf Tryd.f64) = true := by kernel_rfl
theorem l_ref11_Tree_Under {t0 t1 : Value} {w : World} {R : Value → World → Prop} (h : c_ref11_Tree_Under t0 t1 w R) : cal P f_ref11_Tree_Under [t0, t1] w R :=
  calls_of mixed Tryd.func64 rfl (by kernel_rfl) k_ref11_Tree_Under (Eq.mpr (e_ref11_Tree_Under t0 t1 w R) h)
theorem s_ref11_Tree_Under {t0 t1 : Value} {w : World} {Q : Value → World → Prop} (h : ∀ R : Value → World → Prop, (∀ v w', Q v w' → R v w') → c_ref11_Tree_Under t0 t1 w R) : cal P f_ref11_Tree_Under [t0, t1] w Q := l_ref11_Tree_Under (h Q fun _ _ h => h)

/-- flurry/tree.told$1 -/
def A_tree_told_1 : AnY := (AnY.s (AnY.c (An.r [])) (AnY.b (AnY.l [7] (AnY.s (AnY.c (An.r [])) (AnY.s (AnY.s AnY.o AnY.o) (AnY.s (AnY.b (AnY.s (AnY.c (An.r [])) (AnY.s AnY.y (AnY.s AnY.o AnY.o)))) (AnY.c (An.r []))))))))
def c_tree_told_1 (t0 t1 : Value) (w : World) (R : Value → World → Prop) : Prop :=
  ld1 t1 w.heap fun t5 =>
  lenS t5 fun t6 =>
  lp1 (Value.int IntKind.i64 0) w fun _ t7 w again0 =>
  bi BinOp.lss t7 t6 fun t8 =>
  cnd t8
  (ixs 32 t5 t7 fun t9 =>
  ldN 32 t9 w.heap fun t10 =>
  efP P (Instr.alloc T_api_ID true (.tuple #[])) w fun t4 w =>
  stN 32 t4 t10 w fun w =>
  ldN 32 t4 w.heap fun t12 =>
  calY P t0 [t12] w fun t13 w =>
  notB t13 fun t14 =>
  cnd t14
  (R (Value.tuple #[]) w)
  (bi BinOp.add t7 (Value.int IntKind.i64 1) fun t15 =>
  again0 t15 w))
  (R (Value.tuple #[]) w)
theorem e_tree_told_1 (t0 t1 : Value) (w : World) (R : Value → World → Prop) : intpY P A_tree_told_1 (bodyOf Tryd.f65) (ini [t0, t1]) [] w (retY P Tryd.f65.results.toList R) (fun _ _ _ _ => False) (retY P Tryd.f65.results.toList R) = c_tree_told_1 t0 t1 w R := by kernel_rfl
theorem k_tree_told_1 : chkY P Tryd.f65.ntmps A_tree_told_1 (bodyOf Tryd.f65) = true := by kernel_rfl
theorem l_tree_told_1 {t0 t1 : Value} {w : World} {R : Value → World → Prop} (h : c_tree_told_1 t0 t1 w R) : cal P f_tree_told_1 [t0, t1] w R :=
  calls_ofY mixed Tryd.func65 rfl (by kernel_rfl) k_tree_told_1 (Eq.mpr (e_tree_told_1 t0 t1 w R) h)
theorem s_tree_told_1 {t0 t1 : Value} {w : World} {Q : Value → World → Prop} (h : ∀ R : Value → World → Prop, (∀ v w', Q v w' → R v w') → c_tree_told_1 t0 t1 w R) : cal P f_tree_told_1 [t0, t1] w Q := l_tree_told_1 (h Q fun _ _ h => h)

/-- flurry/block.Check -/
def A_block_Check : An := (An.s (An.r []) (An.s (An.b (An.s (An.j [3] (An.s (An.r []) (An.s An.o (An.r [])))) (An.s (An.s (An.r []) An.o) (An.s (An.r [[19]]) (An.s (An.s (An.r []) An.o) An.o))))) (An.s (An.r []) An.o)))
def c_block_Check (t0 : Value) (w : World) (R : Value → World → Prop) : Prop :=
  bx T_api_Block t0 w fun t1 w =>
  jn1 (fun k0 =>
  fad 32 t1 fun t4 =>
  ld1 t4 w.heap fun t5 =>
  bi BinOp.lss t5 (Value.int IntKind.i64 0) fun t6 =>
  cnd t6
  (k0 t6 w)
  (fad 33 t1 fun t7 =>
  ld1 t7 w.heap fun t8 =>
  lenS t8 fun t9 =>
  bi BinOp.gtr t9 (Value.int IntKind.i64 200) fun t10 =>
  k0 t10 w)) fun _ t3 w =>
  cnd t3
  (R (Value.int IntKind.i64 30) w)
  (fad 32 t1 fun t12 =>
  ld1 t12 w.heap fun t13 =>
  bi BinOp.eql t13 (Value.int IntKind.i64 0) fun t14 =>
  jn1 (fun k1 =>
  gif t14 true
  (fad 0 t1 fun t16 =>
  ldN 32 t16 w.heap fun t17 =>
  rdP P (Instr.build T_api_ID #[]) w fun t18 =>
  rdP P (eqS BinOp.neq T_api_ID (Operand.tmp 17) (Operand.tmp 18) t17 t18) w fun t19 =>
  k1 t19 w)
  (k1 undef w)) fun _ t19_1 w =>
  pik t14 t19_1 (Value.bool false) fun t20 =>
  cnd t20
  (R (Value.int IntKind.i64 30) w)
  (R (Value.int IntKind.i64 0) w))
theorem e_block_Check (t0 : Value) (w : World) (R : Value → World → Prop) : intp P A_block_Check (bodyOf Tryd.f66) (ini [t0]) w (retK P Tryd.f66.results.toList R) (fun _ _ _ => False) (retK P Tryd.f66.results.toList R) = c_block_Check t0 w R := by kernel_rfl
theorem k_block_Check : chk P Tryd.f66.ntmps A_block_Check (bodyOf Tryd.f66) = true := by kernel_rfl
theorem l_block_Check {t0 : Value} {w : World} {R : Value → World → Prop} (h : c_block_Check t0 w R) : cal P f_block_Check [t0] w R :=
  calls_of mixed Tryd.func66 rfl (by kernel_rfl) k_block_Check (Eq.mpr (e_block_Check t0 w R) h)
theorem s_block_Check {t0 : Value} {w : World} {Q : Value → World → Prop} (h : ∀ R : Value → World → Prop, (∀ v w', Q v w' → R v w') → c_block_Check t0 w R) : cal P f_block_Check [t0] w Q := l_block_Check (h Q fun _ _ h => h)

/-- flurry/pack.New -/
def A_pack_New : An := (An.s (An.r []) (An.s (An.r []) (An.s (An.r []) (An.s (An.s (An.r [[15]]) (An.s (An.r []) An.o)) (An.s (An.r []) An.o)))))
def c_pack_New (t0 : Value) (w : World) (R : Value → World → Prop) : Prop :=
  rdP P (Instr.build T_pack_Packer #[(1, t0)]) w fun t5 =>
  bx T_pack_Packer t5 w fun t6 w =>
  nilc t6 fun t8 =>
  fad 0 t8 fun t9 =>
  fad 0 t9 fun t10 =>
  st1 t10 (Value.bool true) w fun w =>
  bi BinOp.lss t0 (Value.int IntKind.i64 0) fun t12 =>
  jn1 (fun k0 =>
  gif t12 false
  (bi BinOp.gtr t0 (Value.int IntKind.i64 8192) fun t15 =>
  k0 t15 w)
  (k0 undef w)) fun _ t15_1 w =>
  pik t12 (Value.bool true) t15_1 fun t16 =>
  cnd t16
  (nilc t6 fun t18 =>
  fad 0 t18 fun t19 =>
  fad 2 t19 fun t20 =>
  st1 t20 (Value.int IntKind.i64 1) w fun w =>
  R t6 w)
  (R t6 w)
theorem e_pack_New (t0 : Value) (w : World) (R : Value → World → Prop) : intp P A_pack_New (bodyOf Tryd.f67) (ini [t0]) w (retK P Tryd.f67.results.toList R) (fun _ _ _ => False) (retK P Tryd.f67.results.toList R) = c_pack_New t0 w R := by kernel_rfl
theorem k_pack_New : chk P Tryd.f67.ntmps A_pack_New (bodyOf Tryd.f67) = true := by kernel_rfl
theorem l_pack_New {t0 : Value} {w : World} {R : Value → World → Prop} (h : c_pack_New t0 w R) : cal P f_pack_New [t0] w R :=
  calls_of mixed Tryd.func67 rfl (by kernel_rfl) k_pack_New (Eq.mpr (e_pack_New t0 w R) h)
theorem s_pack_New {t0 : Value} {w : World} {Q : Value → World → Prop} (h : ∀ R : Value → World → Prop, (∀ v w', Q v w' → R v w') → c_pack_New t0 w R) : cal P f_pack_New [t0] w Q := l_pack_New (h Q fun _ _ h => h)

/-- (*flurry/pack.Packer).Short -/
def A_pack_Packer_Short : An := (An.r [])
def c_pack_Packer_Short (t0 t1 : Value) (w : World) (R : Value → World → Prop) : Prop :=
  cvi IntKind.u64 t1 fun t6 =>
  cal P f_pack_number [(Value.int IntKind.i64 2), t6] w fun t7 w =>
  cal P f_pack_Packer_put [t0, t7, (Value.slice none 0 0)] w fun t8 w =>
  R (Value.tuple #[]) w
theorem e_pack_Packer_Short (t0 t1 : Value) (w : World) (R : Value → World → Prop) : intp P A_pack_Packer_Short (bodyOf Tryd.f68) (ini [t0, t1]) w (retK P Tryd.f68.results.toList R) (fun _ _ _ => False) (retK P Tryd.f68.results.toList R) = c_pack_Packer_Short t0 t1 w R := by kernel_rfl
theorem k_pack_Packer_Short : chk P Tryd.f68.ntmps A_pack_Packer_Short (bodyOf Tryd.f68) = true := by kernel_rfl
theorem l_pack_Packer_Short {t0 t1 : Value} {w : World} {R : Value → World → Prop} (h : c_pack_Packer_Short t0 t1 w R) : cal P f_pack_Packer_Short [t0, t1] w R :=
  calls_of mixed Tryd.func68 rfl (by kernel_rfl) k_pack_Packer_Short (Eq.mpr (e_pack_Packer_Short t0 t1 w R) h)
theorem s_pack_Packer_Short {t0 t1 : Value} {w : World} {Q : Value → World → Prop} (h : ∀ R : Value → World → Prop, (∀ v w', Q v w' → R v w') → c_pack_Packer_Short t0 t1 w R) : cal P f_pack_Packer_Short [t0, t1] w Q := l_pack_Packer_Short (h Q fun _ _ h => h)

/-- (*flurry/pack.Packer).Fixed -/
def A_pack_Packer_Fixed : An := (An.r [])
def c_pack_Packer_Fixed (t0 t1 : Value) (w : World) (R : Value → World → Prop) : Prop :=
  cal P f_pack_Packer_put [t0, (Value.slice none 0 0), t1] w fun t6 w =>
  R (Value.tuple #[]) w
theorem e_pack_Packer_Fixed (t0 t1 : Value) (w : World) (R : Value → World → Prop) : intp P A_pack_Packer_Fixed (bodyOf Tryd.f69) (ini [t0, t1]) w (retK P Tryd.f69.results.toList R) (fun _ _ _ => False) (retK P Tryd.f69.results.toList R) = c_pack_Packer_Fixed t0 t1 w R := by kernel_rfl
theorem k_pack_Packer_Fixed : chk P Tryd.f69.ntmps A_pack_Packer_Fixed (bodyOf Tryd.f69) = true := by kernel_rfl
theorem l_pack_Packer_Fixed {t0 t1 : Value} {w : World} {R : Value → World → Prop} (h : c_pack_Packer_Fixed t0 t1 w R) : cal P f_pack_Packer_Fixed [t0, t1] w R :=
  calls_of mixed Tryd.func69 rfl (by kernel_rfl) k_pack_Packer_Fixed (Eq.mpr (e_pack_Packer_Fixed t0 t1 w R) h)
theorem s_pack_Packer_Fixed {t0 t1 : Value} {w : World} {Q : Value → World → Prop} (h : ∀ R : Value → World → Prop, (∀ v w', Q v w' → R v w') → c_pack_Packer_Fixed t0 t1 w R) : cal P f_pack_Packer_Fixed [t0, t1] w Q := l_pack_Packer_Fixed (h Q fun _ _ h => h)

/-- (*flurry/pack.Packer).Long -/
def A_pack_Packer_Long : An := (An.r [])
def c_pack_Packer_Long (t0 t1 : Value) (w : World) (R : Value → World → Prop) : Prop :=
  cal P f_pack_number [(Value.int IntKind.i64 8), t1] w fun t6 w =>
  cal P f_pack_Packer_put [t0, t6, (Value.slice none 0 0)] w fun t7 w =>
  R (Value.tuple #[]) w
theorem e_pack_Packer_Long (t0 t1 : Value) (w : World) (R : Value → World → Prop) : intp P A_pack_Packer_Long (bodyOf Tryd.f70) (ini [t0, t1]) w (retK P Tryd.f70.results.toList R) (fun _ _ _ => False) (retK P Tryd.f70.results.toList R) = c_pack_Packer_Long t0 t1 w R := by kernel_rfl
theorem k_pack_Packer_Long : chk P Tryd.f70.ntmps A_pack_Packer_Long (bodyOf Tryd.f70) = true := by kernel_rfl
theorem l_pack_Packer_Long {t0 t1 : Value} {w : World} {R : Value → World → Prop} (h : c_pack_Packer_Long t0 t1 w R) : cal P f_pack_Packer_Long [t0, t1] w R :=
  calls_of mixed Tryd.func70 rfl (by kernel_rfl) k_pack_Packer_Long (Eq.mpr (e_pack_Packer_Long t0 t1 w R) h)
theorem s_pack_Packer_Long {t0 t1 : Value} {w : World} {Q : Value → World → Prop} (h : ∀ R : Value → World → Prop, (∀ v w', Q v w' → R v w') → c_pack_Packer_Long t0 t1 w R) : cal P f_pack_Packer_Long [t0, t1] w Q := l_pack_Packer_Long (h Q fun _ _ h => h)

/-- (*flurry/pack.Packer).Bytes -/
def A_pack_Packer_Bytes : An := (An.r [])
def c_pack_Packer_Bytes (t0 t1 : Value) (w : World) (R : Value → World → Prop) : Prop :=
  lenS t1 fun t6 =>
  cvi IntKind.u64 t6 fun t7 =>
  cal P f_pack_number [(Value.int IntKind.i64 4), t7] w fun t8 w =>
  cal P f_pack_Packer_put [t0, t8, t1] w fun t10 w =>
  R (Value.tuple #[]) w
theorem e_pack_Packer_Bytes (t0 t1 : Value) (w : World) (R : Value → World → Prop) : intp P A_pack_Packer_Bytes (bodyOf Tryd.f71) (ini [t0, t1]) w (retK P Tryd.f71.results.toList R) (fun _ _ _ => False) (retK P Tryd.f71.results.toList R) = c_pack_Packer_Bytes t0 t1 w R := by kernel_rfl
theorem k_pack_Packer_Bytes : chk P Tryd.f71.ntmps A_pack_Packer_Bytes (bodyOf Tryd.f71) = true := by kernel_rfl
theorem l_pack_Packer_Bytes {t0 t1 : Value} {w : World} {R : Value → World → Prop} (h : c_pack_Packer_Bytes t0 t1 w R) : cal P f_pack_Packer_Bytes [t0, t1] w R :=
  calls_of mixed Tryd.func71 rfl (by kernel_rfl) k_pack_Packer_Bytes (Eq.mpr (e_pack_Packer_Bytes t0 t1 w R) h)
theorem s_pack_Packer_Bytes {t0 t1 : Value} {w : World} {Q : Value → World → Prop} (h : ∀ R : Value → World → Prop, (∀ v w', Q v w' → R v w') → c_pack_Packer_Bytes t0 t1 w R) : cal P f_pack_Packer_Bytes [t0, t1] w Q := l_pack_Packer_Bytes (h Q fun _ _ h => h)

/-- (*flurry/pack.Packer).Out -/
def A_pack_Packer_Out : An := (An.s (An.r []) (An.s (An.s (An.r []) (An.s (An.r []) (An.s (An.s (An.r []) An.o) An.o))) (An.s (An.r []) (An.s (An.r []) (An.s (An.r []) An.o)))))
def c_pack_Packer_Out (t0 : Value) (w : World) (R : Value → World → Prop) : Prop :=
  cal P f_pack_Packer_Err [t0] w fun t7 w =>
  bi BinOp.neq t7 (Value.int IntKind.i64 0) fun t9 =>
  cnd t9
  (R (Value.tuple #[(Value.slice none 0 0), t7]) w)
  (nilc t0 fun t12 =>
  fad 0 t12 fun t13 =>
  fad 1 t13 fun t14 =>
  ld1 t14 w.heap fun t15 =>
  lenS t15 fun t16 =>
  efP P (Instr.makeSlice T_sl_uint8 t16 t16) w fun t17 w =>
  nilc t0 fun t20 =>
  fad 0 t20 fun t21 =>
  fad 1 t21 fun t22 =>
  ld1 t22 w.heap fun t23 =>
  efP P (Builtin.copy_ #[T_sl_uint8, T_sl_uint8] T_int #[t17, t23]) w fun t24 w =>
  R (Value.tuple #[t17, (Value.int IntKind.i64 0)]) w)
theorem e_pack_Packer_Out (t0 : Value) (w : World) (R : Value → World → Prop) : intp P A_pack_Packer_Out (bodyOf Tryd.f72) (ini [t0]) w (retK P Tryd.f72.results.toList R) (fun _ _ _ => False) (retK P Tryd.f72.results.toList R) = c_pack_Packer_Out t0 w R := by kernel_rfl
theorem k_pack_Packer_Out : chk P Tryd.f72.ntmps A_pack_Packer_Out (bodyOf Tryd.f72) = true := by kernel_rfl
theorem l_pack_Packer_Out {t0 : Value} {w : World} {R : Value → World → Prop} (h : c_pack_Packer_Out t0 w R) : cal P f_pack_Packer_Out [t0] w R :=
  calls_of mixed Tryd.func72 rfl (by kernel_rfl) k_pack_Packer_Out (Eq.mpr (e_pack_Packer_Out t0 w R) h)
theorem s_pack_Packer_Out {t0 : Value} {w : World} {Q : Value → World → Prop} (h : ∀ R : Value → World → Prop, (∀ v w', Q v w' → R v w') → c_pack_Packer_Out t0 w R) : cal P f_pack_Packer_Out [t0] w Q := l_pack_Packer_Out (h Q fun _ _ h => h)

/-- flurry/sha.New -/
def A_sha_New : An := (An.s (An.r []) (An.s (An.r []) An.o))
def c_sha_New (w : World) (R : Value → World → Prop) : Prop :=
  cal P f_sha_first [] w fun t1 w =>
  rdP P (Instr.build T_sha_State #[(0, t1), (3, (Value.bool true))]) w fun t2 =>
  bx T_sha_State t2 w fun t3 w =>
  R t3 w
theorem e_sha_New (w : World) (R : Value → World → Prop) : intp P A_sha_New (bodyOf Tryd.f73) (ini []) w (retK P Tryd.f73.results.toList R) (fun _ _ _ => False) (retK P Tryd.f73.results.toList R) = c_sha_New  w R := by kernel_rfl
theorem k_sha_New : chk P Tryd.f73.ntmps A_sha_New (bodyOf Tryd.f73) = true := by kernel_rfl
theorem l_sha_New {w : World} {R : Value → World → Prop} (h : c_sha_New w R) : cal P f_sha_New [] w R :=
  calls_of mixed Tryd.func73 rfl (by kernel_rfl) k_sha_New (Eq.mpr (e_sha_New w R) h)
theorem s_sha_New {w : World} {Q : Value → World → Prop} (h : ∀ R : Value → World → Prop, (∀ v w', Q v w' → R v w') → c_sha_New w R) : cal P f_sha_New [] w Q := l_sha_New (h Q fun _ _ h => h)

/-- (*flurry/sha.State).Write -/
def A_sha_State_Write : An := (An.s (An.r []) (An.s (An.s (An.r []) (An.s (An.s (An.r []) An.o) An.o)) (An.s (An.s (An.r []) (An.b (An.l [12] (An.s (An.r []) (An.s (An.s An.o An.o) (An.s (An.b (An.s (An.r []) (An.s (An.r []) (An.s (An.r []) (An.s (An.b (An.l [7] (An.s (An.s (An.r []) (An.s An.o An.o)) (An.b (An.s (An.dc [0, 1, 2, 3, 4, 5, 6, 7, 8, 9, 10] [7, 10] []) (An.r [])))))) (An.r [])))))) (An.r []))))))) (An.s (An.r []) An.o))))
def c_sha_State_Write (t0 t1 : Value) (w : World) (R : Value → World → Prop) : Prop :=
  cal P f_sha_State_none [t0] w fun t9 w =>
  cnd t9
  (R (Value.int IntKind.i64 2) w)
  (lenS t1 fun t11 =>
  lp1 (Value.int IntKind.i64 0) w fun _ t12 w again0 =>
  bi BinOp.lss t12 t11 fun t13 =>
  cnd t13
  (ixs 1 t1 t12 fun t14 =>
  ld1 t14 w.heap fun t15 =>
  nilc t0 fun t17 =>
  fad 9 t17 fun t18 =>
  ld1 t18 w.heap fun t19 =>
  lenS t15 fun t21 =>
  bi BinOp.add t19 t21 fun t22 =>
  nilc t0 fun t23 =>
  fad 9 t23 fun t24 =>
  st1 t24 t22 w fun w =>
  nilc t0 fun t26 =>
  fad 8 t26 fun t27 =>
  ld1 t27 w.heap fun t28 =>
  efP P (Instr.buildSlice T_sl_sl_uint8 2 #[(0, t28), (1, t15)]) w fun t30 w =>
  cal P f_slices_Concat_byte_byte [t30] w fun t31 w =>
  lp1 t31 w fun _ t7 w again1 =>
  lenS t7 fun t33 =>
  bi BinOp.geq t33 (Value.int IntKind.i64 64) fun t34 =>
  cnd t34
  (drH w fun S w =>
  nilc t0 fun t37 =>
  fad 0 t37 fun t38 =>
  rdS S (fun w => ldN 8 t38 w.heap) fun t39 =>
  slc 1 t7 none (some (Value.int IntKind.i64 64)) fun t41 =>
  efC (cal P f_sha_mixed [t39, t41]) w fun S t42 w =>
  nilc t0 fun t43 =>
  fad 0 t43 fun t44 =>
  efC (fun w K => stN 8 t44 t42 w (K undef)) w fun S _ w =>
  slc 1 t7 (some (Value.int IntKind.i64 64)) none fun t46 =>
  again1 t46 w)
  (cal P f_bytes_Clone [t7] w fun t49 w =>
  nilc t0 fun t50 =>
  fad 8 t50 fun t51 =>
  st1 t51 t49 w fun w =>
  bi BinOp.add t12 (Value.int IntKind.i64 1) fun t52 =>
  again0 t52 w))
  (R (Value.int IntKind.i64 0) w))
theorem e_sha_State_Write (t0 t1 : Value) (w : World) (R : Value → World → Prop) : intp P A_sha_State_Write (bodyOf Tryd.f74) (ini [t0, t1]) w (retK P Tryd.f74.results.toList R) (fun _ _ _ => False) (retK P Tryd.f74.results.toList R) = c_sha_State_Write t0 t1 w R := by kernel_rfl
theorem k_sha_State_Write : chk P Tryd.f74.ntmps A_sha_State_Write (bodyOf Tryd.f74) = true := by kernel_rfl
theorem l_sha_State_Write {t0 t1 : Value} {w : World} {R : Value → World → Prop} (h : c_sha_State_Write t0 t1 w R) : cal P f_sha_State_Write [t0, t1] w R :=
  calls_of mixed Tryd.func74 rfl (by kernel_rfl) k_sha_State_Write (Eq.mpr (e_sha_State_Write t0 t1 w R) h)
theorem s_sha_State_Write {t0 t1 : Value} {w : World} {Q : Value → World → Prop} (h : ∀ R : Value → World → Prop, (∀ v w', Q v w' → R v w') → c_sha_State_Write t0 t1 w R) : cal P f_sha_State_Write [t0, t1] w Q := l_sha_State_Write (h Q fun _ _ h => h)

/-- (*flurry/sha.State).Sum -/
def A_sha_State_Sum : An := (An.s (An.r []) (An.s (An.r []) (An.s (An.s (An.r []) (An.s (An.s (An.r []) An.o) An.o)) (An.s (An.r []) (An.s (An.b (An.l [4] (An.s (An.s (An.r []) (An.s An.o An.o)) (An.b (An.r []))))) (An.s (An.r []) (An.s (An.s (An.r []) (An.b (An.l [4, 33] (An.s (An.r []) (An.s (An.s An.o An.o) (An.s (An.b (An.s (An.r []) (An.r []))) (An.r []))))))) (An.s (An.r []) (An.s (An.b (An.l [4] (An.s (An.s (An.r []) (An.s An.o An.o)) (An.s (An.b (An.dc [0, 1, 2, 3, 4] [3, 4] [])) (An.r []))))) (An.s (An.s (An.r []) (An.b (An.l [60] (An.s (An.r []) (An.s (An.s An.o An.o) (An.s (An.b (An.s (An.r []) (An.r []))) (An.r []))))))) (An.s (An.r []) An.o)))))))))))
def c_sha_State_Sum (t0 : Value) (w : World) (R : Value → World → Prop) : Prop :=
  efP P (Instr.alloc T_api_ID true (.tuple #[])) w fun t2 w =>
  efP P (Instr.alloc T_api_ID true (.tuple #[])) w fun t3 w =>
  cal P f_sha_State_none [t0] w fun t11 w =>
  cnd t11
  (ldN 32 t3 w.heap fun t12 =>
  stN 32 t2 t12 w fun w =>
  ldN 32 t2 w.heap fun r0 =>
  R r0 w)
  (nilc t0 fun t14 =>
  fad 8 t14 fun t15 =>
  ld1 t15 w.heap fun t16 =>
  cal P f_bytes_Clone [t16] w fun t17 w =>
  efP P (Instr.buildSlice T_sl_uint8 1 #[(0, (Value.int IntKind.u8 128))]) w fun t18 w =>
  efP P (Builtin.append_ #[T_sl_uint8, T_sl_uint8] T_sl_uint8 #[t17, t18]) w fun t19 w =>
  lp1 t19 w fun _ t4 w again1 =>
  lenS t4 fun t21 =>
  bi BinOp.rem t21 (Value.int IntKind.i64 64) fun t22 =>
  bi BinOp.neq t22 (Value.int IntKind.i64 56) fun t23 =>
  cnd t23
  (efP P (Instr.buildSlice T_sl_uint8 1 #[(0, (Value.int IntKind.u8 0))]) w fun t25 w =>
  efP P (Builtin.append_ #[T_sl_uint8, T_sl_uint8] T_sl_uint8 #[t4, t25]) w fun t26 w =>
  again1 t26 w)
  (nilc t0 fun t28 =>
  fad 9 t28 fun t29 =>
  ld1 t29 w.heap fun t30 =>
  cvi IntKind.u64 t30 fun t31 =>
  bi BinOp.mul t31 (Value.int IntKind.u64 8) fun t32 =>
  lp2 t4 (Value.int IntKind.i64 0) w fun _ t4_1 t33 w again2 =>
  bi BinOp.lss t33 (Value.int IntKind.i64 8) fun t34 =>
  cnd t34
  (bi BinOp.mul (Value.int IntKind.i64 8) t33 fun t39 =>
  bi BinOp.sub (Value.int IntKind.i64 56) t39 fun t40 =>
  sh BinOp.shr t32 t40 fun t41 =>
  cvi IntKind.u8 t41 fun t42 =>
  efP P (Instr.buildSlice T_sl_uint8 1 #[(0, t42)]) w fun t43 w =>
  efP P (Builtin.append_ #[T_sl_uint8, T_sl_uint8] T_sl_uint8 #[t4_1, t43]) w fun t44 w =>
  bi BinOp.add t33 (Value.int IntKind.i64 1) fun t45 =>
  again2 t44 t45 w)
  (nilc t0 fun t47 =>
  fad 0 t47 fun t48 =>
  ldN 8 t48 w.heap fun t49 =>
  efP P (Instr.alloc T_a8_uint32 true (.tuple #[])) w fun t7 w =>
  stN 8 t7 t49 w fun w =>
  lp1 t4_1 w fun _ t4_2 w again3 =>
  lenS t4_2 fun t51 =>
  bi BinOp.gtr t51 (Value.int IntKind.i64 0) fun t52 =>
  cnd t52
  (drH w fun S w =>
  rdS S (fun w => ldN 8 t7 w.heap) fun t55 =>
  slc 1 t4_2 none (some (Value.int IntKind.i64 64)) fun t57 =>
  efC (cal P f_sha_mixed [t55, t57]) w fun S t58 w =>
  efC (fun w K => stN 8 t7 t58 w (K undef)) w fun S _ w =>
  slc 1 t4_2 (some (Value.int IntKind.i64 64)) none fun t54 =>
  again3 t54 w)
  (ldN 8 t7 w.heap fun t59 =>
  lp1 (Value.int IntKind.i64 0) w fun _ t60 w again4 =>
  bi BinOp.lss t60 (Value.int IntKind.i64 8) fun t61 =>
  cnd t61
  (ixv 8 1 false t59 t60 fun t63 =>
  bi BinOp.mul (Value.int IntKind.i64 4) t60 fun t65 =>
  bi BinOp.mul (Value.int IntKind.i64 4) t60 fun t67 =>
  bi BinOp.add t67 (Value.int IntKind.i64 1) fun t68 =>
  bi BinOp.mul (Value.int IntKind.i64 4) t60 fun t70 =>
  bi BinOp.add t70 (Value.int IntKind.i64 2) fun t71 =>
  bi BinOp.mul (Value.int IntKind.i64 4) t60 fun t73 =>
  bi BinOp.add t73 (Value.int IntKind.i64 3) fun t74 =>
  sh BinOp.shr t63 (Value.int IntKind.u64 24) fun t76 =>
  cvi IntKind.u8 t76 fun t77 =>
  sh BinOp.shr t63 (Value.int IntKind.u64 16) fun t79 =>
  cvi IntKind.u8 t79 fun t80 =>
  sh BinOp.shr t63 (Value.int IntKind.u64 8) fun t82 =>
  cvi IntKind.u8 t82 fun t83 =>
  cvi IntKind.u8 t63 fun t85 =>
  ixa 32 1 t3 t65 fun t86 =>
  st1 t86 t77 w fun w =>
  ixa 32 1 t3 t68 fun t87 =>
  st1 t87 t80 w fun w =>
  ixa 32 1 t3 t71 fun t88 =>
  st1 t88 t83 w fun w =>
  ixa 32 1 t3 t74 fun t89 =>
  st1 t89 t85 w fun w =>
  bi BinOp.add t60 (Value.int IntKind.i64 1) fun t90 =>
  again4 t90 w)
  (ldN 32 t3 w.heap fun t91 =>
  stN 32 t2 t91 w fun w =>
  ldN 32 t2 w.heap fun r5 =>
  R r5 w)))))
theorem e_sha_State_Sum (t0 : Value) (w : World) (R : Value → World → Prop) : intp P A_sha_State_Sum (bodyOf Tryd.f75) (ini [t0]) w (retK P Tryd.f75.results.toList R) (fun _ _ _ => False) (retK P Tryd.f75.results.toList R) = c_sha_State_Sum t0 w R := by kernel_rfl
theorem k_sha_State_Sum : chk P Tryd.f75.ntmps A_sha_State_Sum (bodyOf Tryd.f75) = true := by kernel_rfl
theorem l_sha_State_Sum {t0 : Value} {w : World} {R : Value → World → Prop} (h : c_sha_State_Sum t0 w R) : cal P f_sha_State_Sum [t0] w R :=
  calls_of mixed Tryd.func75 rfl (by kernel_rfl) k_sha_State_Sum (Eq.mpr (e_sha_State_Sum t0 w R) h)
theorem s_sha_State_Sum {t0 : Value} {w : World} {Q : Value → World → Prop} (h : ∀ R : Value → World → Prop, (∀ v w', Q v w' → R v w') → c_sha_State_Sum t0 w R) : cal P f_sha_State_Sum [t0] w Q := l_sha_State_Sum (h Q fun _ _ h => h)

/-- flurry/flurryref03.Bytes -/
def A_ref03_Bytes : An := (An.s (An.r []) (An.s (An.s (An.r []) (An.s (An.r []) (An.s (An.s (An.r []) An.o) An.o))) (An.s (An.r []) (An.s (An.s (An.r []) (An.b (An.l [5, 6] (An.s (An.s (An.r []) (An.s An.o An.o)) (An.s (An.b (An.r [])) (An.r [])))))) (An.s (An.r []) (An.s (An.r []) (An.s (An.r []) An.o)))))))
def c_ref03_Bytes (t0 : Value) (w : World) (R : Value → World → Prop) : Prop :=
  bx T_api_Block t0 w fun t1 w =>
  ldN 34 t1 w.heap fun t7 =>
  cal P f_ref03_Check [t7] w fun t8 w =>
  bi BinOp.neq t8 (Value.int IntKind.i64 0) fun t10 =>
  cnd t10
  (R (Value.tuple #[(Value.slice none 0 0), t8]) w)
  (efP P (Instr.buildSlice T_sl_uint8 2 #[(0, (Value.int IntKind.u8 0)), (1, (Value.int IntKind.u8 0))]) w fun t12 w =>
  lp2 t12 (Value.int IntKind.i64 0) w fun _ t5 t6 w again0 =>
  bi BinOp.lss t6 (Value.int IntKind.i64 32) fun t14 =>
  cnd t14
  (fad 0 t1 fun t19 =>
  ixa 32 1 t19 t6 fun t20 =>
  ld1 t20 w.heap fun t21 =>
  efP P (Instr.buildSlice T_sl_uint8 1 #[(0, t21)]) w fun t22 w =>
  efP P (Builtin.append_ #[T_sl_uint8, T_sl_uint8] T_sl_uint8 #[t5, t22]) w fun t23 w =>
  bi BinOp.add t6 (Value.int IntKind.i64 1) fun t16 =>
  again0 t23 t16 w)
  (fad 32 t1 fun t25 =>
  ld1 t25 w.heap fun t26 =>
  cvi IntKind.u64 t26 fun t27 =>
  cal P f_ref01_Num [(Value.int IntKind.i64 8), t27] w fun t28 w =>
  efP P (Builtin.append_ #[T_sl_uint8, T_sl_uint8] T_sl_uint8 #[t5, t28]) w fun t29 w =>
  fad 33 t1 fun t31 =>
  ld1 t31 w.heap fun t32 =>
  lenS t32 fun t33 =>
  cvi IntKind.u64 t33 fun t34 =>
  cal P f_ref01_Num [(Value.int IntKind.i64 4), t34] w fun t35 w =>
  efP P (Builtin.append_ #[T_sl_uint8, T_sl_uint8] T_sl_uint8 #[t29, t35]) w fun t36 w =>
  fad 33 t1 fun t38 =>
  ld1 t38 w.heap fun t39 =>
  efP P (Builtin.append_ #[T_sl_uint8, T_sl_uint8] T_sl_uint8 #[t36, t39]) w fun t40 w =>
  R (Value.tuple #[t40, (Value.int IntKind.i64 0)]) w))
theorem e_ref03_Bytes (t0 : Value) (w : World) (R : Value → World → Prop) : intp P A_ref03_Bytes (bodyOf Tryd.f76) (ini [t0]) w (retK P Tryd.f76.results.toList R) (fun _ _ _ => False) (retK P Tryd.f76.results.toList R) = c_ref03_Bytes t0 w R := by kernel_rfl
theorem k_ref03_Bytes : chk P Tryd.f76.ntmps A_ref03_Bytes (bodyOf Tryd.f76) = true := by kernel_rfl
theorem l_ref03_Bytes {t0 : Value} {w : World} {R : Value → World → Prop} (h : c_ref03_Bytes t0 w R) : cal P f_ref03_Bytes [t0] w R :=
  calls_of mixed Tryd.func76 rfl (by kernel_rfl) k_ref03_Bytes (Eq.mpr (e_ref03_Bytes t0 w R) h)
theorem s_ref03_Bytes {t0 : Value} {w : World} {Q : Value → World → Prop} (h : ∀ R : Value → World → Prop, (∀ v w', Q v w' → R v w') → c_ref03_Bytes t0 w R) : cal P f_ref03_Bytes [t0] w Q := l_ref03_Bytes (h Q fun _ _ h => h)

/-- flurry/flurryref02.Sum -/
def A_ref02_Sum : An := (An.s (An.r []) (An.s (An.r []) (An.s (An.r []) (An.s (An.s (An.r []) (An.b (An.l [5] (An.s (An.s (An.r []) (An.s An.o An.o)) (An.s (An.b (An.dc [0, 1, 2, 3, 4, 5, 6, 7] [6, 7] [])) (An.r [])))))) (An.s (An.r []) (An.s (An.s (An.r []) (An.b (An.l [7] (An.s (An.s (An.r []) (An.s An.o An.o)) (An.s (An.b (An.r [])) (An.r [])))))) (An.s (An.r []) An.o)))))))
def c_ref02_Sum (t0 : Value) (w : World) (R : Value → World → Prop) : Prop :=
  efP P (Instr.alloc T_api_ID true (.tuple #[])) w fun t2 w =>
  cal P f_ref02_padded [t0] w fun t9 w =>
  rdP P (Instr.build T_a8_uint32 #[(0, (Value.int IntKind.u32 1779033703)), (1, (Value.int IntKind.u32 3144134277)), (2, (Value.int IntKind.u32 1013904242)), (3, (Value.int IntKind.u32 2773480762)), (4, (Value.int IntKind.u32 1359893119)), (5, (Value.int IntKind.u32 2600822924)), (6, (Value.int IntKind.u32 528734635)), (7, (Value.int IntKind.u32 1541459225))]) w fun t10 =>
  efP P (Instr.alloc T_a8_uint32 true (.tuple #[])) w fun t4 w =>
  stN 8 t4 t10 w fun w =>
  lp1 (Value.int IntKind.i64 0) w fun _ t5 w again0 =>
  lenS t9 fun t13 =>
  bi BinOp.lss t5 t13 fun t14 =>
  cnd t14
  (drH w fun S w =>
  rdS S (fun w => ldN 8 t4 w.heap) fun t17 =>
  bi BinOp.add t5 (Value.int IntKind.i64 64) fun t21 =>
  slc 1 t9 (some t5) (some t21) fun t22 =>
  efC (cal P f_ref02_goes [t17, t22]) w fun S t23 w =>
  efC (fun w K => stN 8 t4 t23 w (K undef)) w fun S _ w =>
  bi BinOp.add t5 (Value.int IntKind.i64 64) fun t16 =>
  again0 t16 w)
  (efP P (Instr.alloc T_api_ID true (.tuple #[])) w fun t6 w =>
  lp1 (Value.int IntKind.i64 0) w fun _ t7 w again1 =>
  bi BinOp.lss t7 (Value.int IntKind.i64 32) fun t25 =>
  cnd t25
  (bi BinOp.quo t7 (Value.int IntKind.i64 4) fun t30 =>
  ixa 8 1 t4 t30 fun t31 =>
  ld1 t31 w.heap fun t32 =>
  bi BinOp.rem t7 (Value.int IntKind.i64 4) fun t34 =>
  bi BinOp.mul (Value.int IntKind.i64 8) t34 fun t35 =>
  bi BinOp.sub (Value.int IntKind.i64 24) t35 fun t36 =>
  cvi IntKind.u64 t36 fun t37 =>
  sh BinOp.shr t32 t37 fun t38 =>
  cvi IntKind.u8 t38 fun t39 =>
  ixa 32 1 t6 t7 fun t40 =>
  st1 t40 t39 w fun w =>
  bi BinOp.add t7 (Value.int IntKind.i64 1) fun t27 =>
  again1 t27 w)
  (ldN 32 t6 w.heap fun t41 =>
  stN 32 t2 t41 w fun w =>
  ldN 32 t2 w.heap fun r2 =>
  R r2 w))
theorem e_ref02_Sum (t0 : Value) (w : World) (R : Value → World → Prop) : intp P A_ref02_Sum (bodyOf Tryd.f77) (ini [t0]) w (retK P Tryd.f77.results.toList R) (fun _ _ _ => False) (retK P Tryd.f77.results.toList R) = c_ref02_Sum t0 w R := by kernel_rfl
theorem k_ref02_Sum : chk P Tryd.f77.ntmps A_ref02_Sum (bodyOf Tryd.f77) = true := by kernel_rfl
theorem l_ref02_Sum {t0 : Value} {w : World} {R : Value → World → Prop} (h : c_ref02_Sum t0 w R) : cal P f_ref02_Sum [t0] w R :=
  calls_of mixed Tryd.func77 rfl (by kernel_rfl) k_ref02_Sum (Eq.mpr (e_ref02_Sum t0 w R) h)
theorem s_ref02_Sum {t0 : Value} {w : World} {Q : Value → World → Prop} (h : ∀ R : Value → World → Prop, (∀ v w', Q v w' → R v w') → c_ref02_Sum t0 w R) : cal P f_ref02_Sum [t0] w Q := l_ref02_Sum (h Q fun _ _ h => h)

/-- (*flurry/pack.Packer).put -/
def A_pack_Packer_put : An := (An.s (An.s (An.r []) (An.s An.o An.o)) (An.s (An.r []) (An.s (An.s (An.r [[32]]) (An.s (An.s (An.r []) An.o) An.o)) (An.r []))))
def c_pack_Packer_put (t0 t1 t2 : Value) (w : World) (R : Value → World → Prop) : Prop :=
  cal P f_pack_Packer_works [t0] w fun t8 w =>
  notB t8 fun t9 =>
  cnd t9
  (R (Value.tuple #[]) w)
  (drw w fun w =>
  nilc t0 fun t11 =>
  fad 3 t11 fun t12 =>
  ld1 t12 w.heap fun t13 =>
  nilc t0 fun t15 =>
  fad 0 t15 fun t16 =>
  fad 1 t16 fun t17 =>
  ld1 t17 w.heap fun t18 =>
  lenS t18 fun t19 =>
  bi BinOp.sub t13 t19 fun t20 =>
  lenS t1 fun t22 =>
  bi BinOp.gtr t22 t20 fun t24 =>
  jn1 (fun k0 =>
  gif t24 false
  (lenS t2 fun t27 =>
  lenS t1 fun t30 =>
  bi BinOp.sub t20 t30 fun t31 =>
  bi BinOp.gtr t27 t31 fun t32 =>
  k0 t32 w)
  (k0 undef w)) fun _ t32_1 w =>
  pik t24 (Value.bool true) t32_1 fun t33 =>
  cnd t33
  (nilc t0 fun t35 =>
  fad 0 t35 fun t36 =>
  cal P f_pack_kept_fails [t36, (Value.int IntKind.i64 10)] w fun t37 w =>
  R (Value.tuple #[]) w)
  (nilc t0 fun t40 =>
  fad 0 t40 fun t41 =>
  fad 1 t41 fun t42 =>
  ld1 t42 w.heap fun t43 =>
  efP P (Builtin.append_ #[T_sl_uint8, T_sl_uint8] T_sl_uint8 #[t43, t1]) w fun t45 w =>
  efP P (Builtin.append_ #[T_sl_uint8, T_sl_uint8] T_sl_uint8 #[t45, t2]) w fun t47 w =>
  nilc t0 fun t48 =>
  fad 0 t48 fun t49 =>
  fad 1 t49 fun t50 =>
  st1 t50 t47 w fun w =>
  R (Value.tuple #[]) w))
theorem e_pack_Packer_put (t0 t1 t2 : Value) (w : World) (R : Value → World → Prop) : intp P A_pack_Packer_put (bodyOf Tryd.f78) (ini [t0, t1, t2]) w (retK P Tryd.f78.results.toList R) (fun _ _ _ => False) (retK P Tryd.f78.results.toList R) = c_pack_Packer_put t0 t1 t2 w R := by kernel_rfl
theorem k_pack_Packer_put : chk P Tryd.f78.ntmps A_pack_Packer_put (bodyOf Tryd.f78) = true := by kernel_rfl
theorem l_pack_Packer_put {t0 t1 t2 : Value} {w : World} {R : Value → World → Prop} (h : c_pack_Packer_put t0 t1 t2 w R) : cal P f_pack_Packer_put [t0, t1, t2] w R :=
  calls_of mixed Tryd.func78 rfl (by kernel_rfl) k_pack_Packer_put (Eq.mpr (e_pack_Packer_put t0 t1 t2 w R) h)
theorem s_pack_Packer_put {t0 t1 t2 : Value} {w : World} {Q : Value → World → Prop} (h : ∀ R : Value → World → Prop, (∀ v w', Q v w' → R v w') → c_pack_Packer_put t0 t1 t2 w R) : cal P f_pack_Packer_put [t0, t1, t2] w Q := l_pack_Packer_put (h Q fun _ _ h => h)

/-- flurry/pack.number -/
def A_pack_number : An := (An.s (An.r []) (An.s (An.r []) (An.s (An.s (An.r []) (An.b (An.l [11] (An.s (An.r []) (An.s (An.s An.o An.o) (An.s (An.b (An.s (An.r []) (An.r []))) (An.r []))))))) (An.s (An.r []) An.o))))
def c_pack_number (t0 t1 : Value) (w : World) (R : Value → World → Prop) : Prop :=
  efP P (Instr.makeSlice T_sl_uint8 t0 t0) w fun t8 w =>
  lenS t8 fun t10 =>
  lp1 (Value.int IntKind.i64 0) w fun _ t11 w again0 =>
  bi BinOp.lss t11 t10 fun t12 =>
  cnd t12
  (bi BinOp.sub t0 (Value.int IntKind.i64 1) fun t16 =>
  bi BinOp.sub t16 t11 fun t18 =>
  bi BinOp.mul (Value.int IntKind.i64 8) t11 fun t21 =>
  sh BinOp.shr t1 t21 fun t22 =>
  cvi IntKind.u8 t22 fun t23 =>
  ixs 1 t8 t18 fun t24 =>
  st1 t24 t23 w fun w =>
  bi BinOp.add t11 (Value.int IntKind.i64 1) fun t25 =>
  again0 t25 w)
  (R t8 w)
theorem e_pack_number (t0 t1 : Value) (w : World) (R : Value → World → Prop) : intp P A_pack_number (bodyOf Tryd.f79) (ini [t0, t1]) w (retK P Tryd.f79.results.toList R) (fun _ _ _ => False) (retK P Tryd.f79.results.toList R) = c_pack_number t0 t1 w R := by kernel_rfl
theorem k_pack_number : chk P Tryd.f79.ntmps A_pack_number (bodyOf Tryd.f79) = true := by kernel_rfl
theorem l_pack_number {t0 t1 : Value} {w : World} {R : Value → World → Prop} (h : c_pack_number t0 t1 w R) : cal P f_pack_number [t0, t1] w R :=
  calls_of mixed Tryd.func79 rfl (by kernel_rfl) k_pack_number (Eq.mpr (e_pack_number t0 t1 w R) h)
theorem s_pack_number {t0 t1 : Value} {w : World} {Q : Value → World → Prop} (h : ∀ R : Value → World → Prop, (∀ v w', Q v w' → R v w') → c_pack_number t0 t1 w R) : cal P f_pack_number [t0, t1] w Q := l_pack_number (h Q fun _ _ h => h)

/-- (*flurry/pack.Packer).Err -/
def A_pack_Packer_Err : An := (An.s (An.r []) (An.s (An.s (An.r [[11]]) (An.s (An.s (An.r []) An.o) An.o)) (An.s (An.r []) An.o)))
def c_pack_Packer_Err (t0 : Value) (w : World) (R : Value → World → Prop) : Prop :=
  nilP false t0 fun t4 =>
  jn1 (fun k0 =>
  gif t4 false
  (nilc t0 fun t7 =>
  fad 0 t7 fun t8 =>
  fad 0 t8 fun t9 =>
  ld1 t9 w.heap fun t10 =>
  notB t10 fun t11 =>
  k0 t11 w)
  (k0 undef w)) fun _ t11_1 w =>
  pik t4 (Value.bool true) t11_1 fun t12 =>
  cnd t12
  (R (Value.int IntKind.i64 2) w)
  (nilc t0 fun t14 =>
  fad 0 t14 fun t15 =>
  fad 2 t15 fun t16 =>
  ld1 t16 w.heap fun t17 =>
  R t17 w)
theorem e_pack_Packer_Err (t0 : Value) (w : World) (R : Value → World → Prop) : intp P A_pack_Packer_Err (bodyOf Tryd.f80) (ini [t0]) w (retK P Tryd.f80.results.toList R) (fun _ _ _ => False) (retK P Tryd.f80.results.toList R) = c_pack_Packer_Err t0 w R := by kernel_rfl
theorem k_pack_Packer_Err : chk P Tryd.f80.ntmps A_pack_Packer_Err (bodyOf Tryd.f80) = true := by kernel_rfl
theorem l_pack_Packer_Err {t0 : Value} {w : World} {R : Value → World → Prop} (h : c_pack_Packer_Err t0 w R) : cal P f_pack_Packer_Err [t0] w R :=
  calls_of mixed Tryd.func80 rfl (by kernel_rfl) k_pack_Packer_Err (Eq.mpr (e_pack_Packer_Err t0 w R) h)
theorem s_pack_Packer_Err {t0 : Value} {w : World} {Q : Value → World → Prop} (h : ∀ R : Value → World → Prop, (∀ v w', Q v w' → R v w') → c_pack_Packer_Err t0 w R) : cal P f_pack_Packer_Err [t0] w Q := l_pack_Packer_Err (h Q fun _ _ h => h)

/-- flurry/sha.first -/
def A_sha_first : An := (An.s (An.r []) (An.s (An.r []) An.o))
def c_sha_first (w : World) (R : Value → World → Prop) : Prop :=
  efP P (Instr.alloc T_a8_uint32 true (.tuple #[])) w fun t0 w =>
  rdP P (Instr.build T_a8_uint32 #[(0, (Value.int IntKind.u32 1779033703)), (1, (Value.int IntKind.u32 3144134277)), (2, (Value.int IntKind.u32 1013904242)), (3, (Value.int IntKind.u32 2773480762)), (4, (Value.int IntKind.u32 1359893119)), (5, (Value.int IntKind.u32 2600822924)), (6, (Value.int IntKind.u32 528734635)), (7, (Value.int IntKind.u32 1541459225))]) w fun t1 =>
  stN 8 t0 t1 w fun w =>
  ldN 8 t0 w.heap fun r0 =>
  R r0 w
theorem e_sha_first (w : World) (R : Value → World → Prop) : intp P A_sha_first (bodyOf Tryd.f81) (ini []) w (retK P Tryd.f81.results.toList R) (fun _ _ _ => False) (retK P Tryd.f81.results.toList R) = c_sha_first  w R := by kernel_rfl
theorem k_sha_first : chk P Tryd.f81.ntmps A_sha_first (bodyOf Tryd.f81) = true := by kernel_rfl
theorem l_sha_first {w : World} {R : Value → World → Prop} (h : c_sha_first w R) : cal P f_sha_first [] w R :=
  calls_of mixed Tryd.func81 rfl (by kernel_rfl) k_sha_first (Eq.mpr (e_sha_first w R) h)
theorem s_sha_first {w : World} {Q : Value → World → Prop} (h : ∀ R : Value → World → Prop, (∀ v w', Q v w' → R v w') → c_sha_first w R) : cal P f_sha_first [] w Q := l_sha_first (h Q fun _ _ h => h)

/-- (*flurry/sha.State).none -/
def A_sha_State_none : An := (An.s (An.r []) (An.s (An.r [[10]]) An.o))
def c_sha_State_none (t0 : Value) (w : World) (R : Value → World → Prop) : Prop :=
  nilP false t0 fun t4 =>
  jn1 (fun k0 =>
  gif t4 false
  (nilc t0 fun t7 =>
  fad 10 t7 fun t8 =>
  ld1 t8 w.heap fun t9 =>
  notB t9 fun t10 =>
  k0 t10 w)
  (k0 undef w)) fun _ t10_1 w =>
  pik t4 (Value.bool true) t10_1 fun t11 =>
  R t11 w
theorem e_sha_State_none (t0 : Value) (w : World) (R : Value → World → Prop) : intp P A_sha_State_none (bodyOf Tryd.f82) (ini [t0]) w (retK P Tryd.f82.results.toList R) (fun _ _ _ => False) (retK P Tryd.f82.results.toList R) = c_sha_State_none t0 w R := by kernel_rfl
theorem k_sha_State_none : chk P Tryd.f82.ntmps A_sha_State_none (bodyOf Tryd.f82) = true := by kernel_rfl
theorem l_sha_State_none {t0 : Value} {w : World} {R : Value → World → Prop} (h : c_sha_State_none t0 w R) : cal P f_sha_State_none [t0] w R :=
  calls_of mixed Tryd.func82 rfl (by kernel_rfl) k_sha_State_none (Eq.mpr (e_sha_State_none t0 w R) h)
theorem s_sha_State_none {t0 : Value} {w : World} {Q : Value → World → Prop} (h : ∀ R : Value → World → Prop, (∀ v w', Q v w' → R v w') → c_sha_State_none t0 w R) : cal P f_sha_State_none [t0] w Q := l_sha_State_none (h Q fun _ _ h => h)

/-- slices.Concat[[]byte,byte] -/
def A_slices_Concat_byte_byte : An := (An.s (An.r []) (An.s (An.r []) (An.s (An.s (An.r []) (An.b (An.l [3, 11] (An.s (An.r []) (An.s (An.s An.o An.o) (An.s (An.j [3] (An.b (An.s (An.r []) (An.s (An.r []) (An.s (An.r []) (An.s (An.r []) An.o)))))) (An.r []))))))) (An.s (An.r []) (An.s (An.s (An.r []) (An.b (An.l [6, 27] (An.s (An.r []) (An.s (An.s An.o An.o) (An.s (An.b (An.s (An.r []) (An.r []))) (An.r []))))))) (An.s (An.r []) An.o))))))
def c_slices_Concat_byte_byte (t0 : Value) (w : World) (R : Value → World → Prop) : Prop :=
  lenS t0 fun t10 =>
  lp2 (Value.int IntKind.i64 0) (Value.int IntKind.i64 0) w fun _ t3 t11 w again0 =>
  bi BinOp.lss t11 t10 fun t12 =>
  cnd t12
  (jn1 (fun k1 =>
  ixs 1 t0 t11 fun t13 =>
  ld1 t13 w.heap fun t14 =>
  lenS t14 fun t17 =>
  bi BinOp.add t3 t17 fun t18 =>
  bi BinOp.lss t18 (Value.int IntKind.i64 0) fun t20 =>
  cnd t20
  (rdP P (Instr.makeInterface T_string (Value.string { data := #[108, 101, 110, 32, 111, 117, 116, 32, 111, 102, 32, 114, 97, 110, 103, 101] })) w fun t21 =>
  False)
  (k1 t18 w)) fun _ t3_1 w =>
  bi BinOp.add t11 (Value.int IntKind.i64 1) fun t22 =>
  again0 t3_1 t22 w)
  (cal P f_slices_Grow_byte_byte [(Value.slice none 0 0), t3] w fun t24 w =>
  lenS t0 fun t26 =>
  lp2 t24 (Value.int IntKind.i64 0) w fun _ t6 t27 w again2 =>
  bi BinOp.lss t27 t26 fun t28 =>
  cnd t28
  (ixs 1 t0 t27 fun t29 =>
  ld1 t29 w.heap fun t30 =>
  efP P (Builtin.append_ #[T_sl_uint8, T_sl_uint8] T_sl_uint8 #[t6, t30]) w fun t33 w =>
  bi BinOp.add t27 (Value.int IntKind.i64 1) fun t34 =>
  again2 t33 t34 w)
  (R t6 w))
theorem e_slices_Concat_byte_byte (t0 : Value) (w : World) (R : Value → World → Prop) : intp P A_slices_Concat_byte_byte (bodyOf Tryd.f83) (ini [t0]) w (retK P Tryd.f83.results.toList R) (fun _ _ _ => False) (retK P Tryd.f83.results.toList R) = c_slices_Concat_byte_byte t0 w R := by kernel_rfl
theorem k_slices_Concat_byte_byte : chk P Tryd.f83.ntmps A_slices_Concat_byte_byte (bodyOf Tryd.f83) = true := by kernel_rfl
theorem l_slices_Concat_byte_byte {t0 : Value} {w : World} {R : Value → World → Prop} (h : c_slices_Concat_byte_byte t0 w R) : cal P f_slices_Concat_byte_byte [t0] w R :=
  calls_of mixed Tryd.func83 rfl (by kernel_rfl) k_slices_Concat_byte_byte (Eq.mpr (e_slices_Concat_byte_byte t0 w R) h)
theorem s_slices_Concat_byte_byte {t0 : Value} {w : World} {Q : Value → World → Prop} (h : ∀ R : Value → World → Prop, (∀ v w', Q v w' → R v w') → c_slices_Concat_byte_byte t0 w R) : cal P f_slices_Concat_byte_byte [t0] w Q := l_slices_Concat_byte_byte (h Q fun _ _ h => h)

/-- flurry/sha.mixed -/
def A_sha_mixed : An := (An.s (An.r []) (An.s (An.r []) (An.s (An.s (An.r []) (An.b (An.l [18] (An.s (An.r []) (An.s (An.s An.o An.o) (An.s (An.b (An.s (An.r []) (An.s (An.r []) (An.s (An.r []) (An.s (An.r []) (An.s (An.r []) (An.s (An.r []) (An.r [])))))))) (An.r []))))))) (An.s (An.s (An.r []) (An.b (An.l [99] (An.s (An.r []) (An.s (An.s An.o An.o) (An.s (An.b (An.s (An.r []) (An.dc [0, 1, 2, 3, 4, 5, 6, 7, 8] [8] []))) (An.r []))))))) (An.s (An.r []) An.o)))))
def c_sha_mixed (t0 t1 : Value) (w : World) (R : Value → World → Prop) : Prop :=
  bx T_a8_uint32 t0 w fun t2 w =>
  efP P (Instr.alloc T_a8_uint32 true (.tuple #[])) w fun t4 w =>
  ldN 8 t2 w.heap fun t15 =>
  efP P (Instr.alloc T_a8_uint32 true (.tuple #[])) w fun t5 w =>
  stN 8 t5 t15 w fun w =>
  cal P f_sha_schedule [t1] w fun t17 w =>
  lp1 (Value.int IntKind.i64 0) w fun _ t18 w again0 =>
  bi BinOp.lss t18 (Value.int IntKind.i64 64) fun t19 =>
  cnd t19
  (ixv 64 1 false t17 t18 fun t21 =>
  drw w fun w =>
  ixa 8 1 t5 (Value.int IntKind.i64 0) fun t22 =>
  ld1 t22 w.heap fun t23 =>
  ixa 8 1 t5 (Value.int IntKind.i64 4) fun t24 =>
  ld1 t24 w.heap fun t25 =>
  cal P f_math_bits_RotateLeft32 [t25, (Value.int IntKind.i64 (-6))] w fun t27 w =>
  cal P f_math_bits_RotateLeft32 [t25, (Value.int IntKind.i64 (-11))] w fun t29 w =>
  bi BinOp.xor t27 t29 fun t30 =>
  cal P f_math_bits_RotateLeft32 [t25, (Value.int IntKind.i64 (-25))] w fun t32 w =>
  bi BinOp.xor t30 t32 fun t33 =>
  drw w fun w =>
  ixa 8 1 t5 (Value.int IntKind.i64 7) fun t34 =>
  ld1 t34 w.heap fun t35 =>
  bi BinOp.add t35 t33 fun t37 =>
  ixa 8 1 t5 (Value.int IntKind.i64 5) fun t39 =>
  ld1 t39 w.heap fun t40 =>
  bi BinOp.and t25 t40 fun t41 =>
  rdP P (Op.unary UnOp.xor t25) w fun t43 =>
  ixa 8 1 t5 (Value.int IntKind.i64 6) fun t44 =>
  ld1 t44 w.heap fun t45 =>
  bi BinOp.and t43 t45 fun t46 =>
  bi BinOp.xor t41 t46 fun t47 =>
  bi BinOp.add t37 t47 fun t48 =>
  ixa 64 1 (Value.pointer (some ⟨0, 0, none⟩)) t18 fun t50 =>
  ld1 t50 w.heap fun t51 =>
  bi BinOp.add t48 t51 fun t52 =>
  bi BinOp.add t52 t21 fun t54 =>
  cal P f_math_bits_RotateLeft32 [t23, (Value.int IntKind.i64 (-2))] w fun t56 w =>
  cal P f_math_bits_RotateLeft32 [t23, (Value.int IntKind.i64 (-13))] w fun t58 w =>
  bi BinOp.xor t56 t58 fun t59 =>
  cal P f_math_bits_RotateLeft32 [t23, (Value.int IntKind.i64 (-22))] w fun t61 w =>
  bi BinOp.xor t59 t61 fun t62 =>
  ixa 8 1 t5 (Value.int IntKind.i64 1) fun t65 =>
  ld1 t65 w.heap fun t66 =>
  bi BinOp.and t23 t66 fun t67 =>
  ixa 8 1 t5 (Value.int IntKind.i64 2) fun t69 =>
  ld1 t69 w.heap fun t70 =>
  bi BinOp.and t23 t70 fun t71 =>
  bi BinOp.xor t67 t71 fun t72 =>
  ixa 8 1 t5 (Value.int IntKind.i64 1) fun t73 =>
  ld1 t73 w.heap fun t74 =>
  ixa 8 1 t5 (Value.int IntKind.i64 2) fun t75 =>
  ld1 t75 w.heap fun t76 =>
  bi BinOp.and t74 t76 fun t77 =>
  bi BinOp.xor t72 t77 fun t78 =>
  bi BinOp.add t62 t78 fun t79 =>
  bi BinOp.add t54 t79 fun t82 =>
  ixa 8 1 t5 (Value.int IntKind.i64 1) fun t84 =>
  ld1 t84 w.heap fun t85 =>
  ixa 8 1 t5 (Value.int IntKind.i64 2) fun t86 =>
  ld1 t86 w.heap fun t87 =>
  ixa 8 1 t5 (Value.int IntKind.i64 3) fun t88 =>
  ld1 t88 w.heap fun t89 =>
  bi BinOp.add t89 t54 fun t91 =>
  ixa 8 1 t5 (Value.int IntKind.i64 5) fun t93 =>
  ld1 t93 w.heap fun t94 =>
  ixa 8 1 t5 (Value.int IntKind.i64 6) fun t95 =>
  ld1 t95 w.heap fun t96 =>
  rdP P (Instr.build T_a8_uint32 #[(0, t82), (1, t23), (2, t85), (3, t87), (4, t91), (5, t25), (6, t94), (7, t96)]) w fun t97 =>
  stN 8 t5 t97 w fun w =>
  bi BinOp.add t18 (Value.int IntKind.i64 1) fun t98 =>
  again0 t98 w)
  (lp1 (Value.int IntKind.i64 0) w fun _ t99 w again1 =>
  bi BinOp.lss t99 (Value.int IntKind.i64 8) fun t100 =>
  cnd t100
  (drH w fun S w =>
  ixa 8 1 t2 t99 fun t103 =>
  rdS S (fun w => ld1 t103 w.heap) fun t104 =>
  ixa 8 1 t5 t99 fun t106 =>
  rdS S (fun w => ld1 t106 w.heap) fun t107 =>
  bi BinOp.add t104 t107 fun t108 =>
  ixa 8 1 t2 t99 fun t109 =>
  efC (fun w K => st1 t109 t108 w (K undef)) w fun S _ w =>
  bi BinOp.add t99 (Value.int IntKind.i64 1) fun t110 =>
  again1 t110 w)
  (ldN 8 t2 w.heap fun t111 =>
  stN 8 t4 t111 w fun w =>
  ldN 8 t4 w.heap fun r2 =>
  R r2 w))
theorem e_sha_mixed (t0 t1 : Value) (w : World) (R : Value → World → Prop) : intp P A_sha_mixed (bodyOf Tryd.f84) (ini [t0, t1]) w (retK P Tryd.f84.results.toList R) (fun _ _ _ => False) (retK P Tryd.f84.results.toList R) = c_sha_mixed t0 t1 w R := by kernel_rfl
theorem k_sha_mixed : chk P Tryd.f84.ntmps A_sha_mixed (bodyOf Tryd.f84) = true := by kernel_rfl
theorem l_sha_mixed {t0 t1 : Value} {w : World} {R : Value → World → Prop} (h : c_sha_mixed t0 t1 w R) : cal P f_sha_mixed [t0, t1] w R :=
  calls_of mixed Tryd.func84 rfl (by kernel_rfl) k_sha_mixed (Eq.mpr (e_sha_mixed t0 t1 w R) h)
theorem s_sha_mixed {t0 t1 : Value} {w : World} {Q : Value → World → Prop} (h : ∀ R : Value → World → Prop, (∀ v w', Q v w' → R v w') → c_sha_mixed t0 t1 w R) : cal P f_sha_mixed [t0, t1] w Q := l_sha_mixed (h Q fun _ _ h => h)

/-- flurry/flurryref03.Check -/
def A_ref03_Check : An := (An.s (An.r []) (An.s (An.s (An.r [[10], [16], [20], [21]]) (An.s (An.s (An.r []) An.o) An.o)) (An.s (An.r []) An.o)))
def c_ref03_Check (t0 : Value) (w : World) (R : Value → World → Prop) : Prop :=
  bx T_api_Block t0 w fun t1 w =>
  fad 32 t1 fun t3 =>
  ld1 t3 w.heap fun t4 =>
  bi BinOp.lss t4 (Value.int IntKind.i64 0) fun t5 =>
  jn1 (fun k0 =>
  gif t5 false
  (fad 33 t1 fun t7 =>
  ld1 t7 w.heap fun t8 =>
  lenS t8 fun t9 =>
  bi BinOp.gtr t9 (Value.int IntKind.i64 200) fun t10 =>
  k0 t10 w)
  (k0 undef w)) fun _ t10_1 w =>
  pik t5 (Value.bool true) t10_1 fun t11 =>
  jn1 (fun k1 =>
  gif t11 false
  (fad 32 t1 fun t13 =>
  ld1 t13 w.heap fun t14 =>
  bi BinOp.eql t14 (Value.int IntKind.i64 0) fun t15 =>
  k1 t15 w)
  (k1 undef w)) fun _ t16 w =>
  jn1 (fun k2 =>
  gif t16 true
  (fad 0 t1 fun t17 =>
  ldN 32 t17 w.heap fun t18 =>
  rdP P (Instr.build T_api_ID #[]) w fun t19 =>
  rdP P (eqS BinOp.neq T_api_ID (Operand.tmp 18) (Operand.tmp 19) t18 t19) w fun t20 =>
  k2 t20 w)
  (k2 undef w)) fun _ t20_1 w =>
  jn1 (fun k3 =>
  gif t11 false
  (pik t16 t20_1 (Value.bool false) fun t21 =>
  k3 t21 w)
  (k3 undef w)) fun _ t21_1 w =>
  pik t11 (Value.bool true) t21_1 fun t22 =>
  cnd t22
  (R (Value.int IntKind.i64 30) w)
  (R (Value.int IntKind.i64 0) w)
theorem e_ref03_Check (t0 : Value) (w : World) (R : Value → World → Prop) : intp P A_ref03_Check (bodyOf Tryd.f85) (ini [t0]) w (retK P Tryd.f85.results.toList R) (fun _ _ _ => False) (retK P Tryd.f85.results.toList R) = c_ref03_Check t0 w R := by kernel_rfl
theorem k_ref03_Check : chk P Tryd.f85.ntmps A_ref03_Check (bodyOf Tryd.f85) = true := by kernel_rfl
theorem l_ref03_Check {t0 : Value} {w : World} {R : Value → World → Prop} (h : c_ref03_Check t0 w R) : cal P f_ref03_Check [t0] w R :=
  calls_of mixed Tryd.func85 rfl (by kernel_rfl) k_ref03_Check (Eq.mpr (e_ref03_Check t0 w R) h)
theorem s_ref03_Check {t0 : Value} {w : World} {Q : Value → World → Prop} (h : ∀ R : Value → World → Prop, (∀ v w', Q v w' → R v w') → c_ref03_Check t0 w R) : cal P f_ref03_Check [t0] w Q := l_ref03_Check (h Q fun _ _ h => h)

/-- flurry/flurryref01.Num -/
def A_ref01_Num : An := (An.s (An.r []) (An.s (An.r []) (An.s (An.s (An.r []) (An.b (An.l [1, 6] (An.s (An.s (An.r []) (An.s An.o An.o)) (An.s (An.b (An.s (An.r []) (An.r []))) (An.r [])))))) (An.s (An.r []) An.o))))
def c_ref01_Num (t0 t1 : Value) (w : World) (R : Value → World → Prop) : Prop :=
  efP P (Instr.makeSlice T_sl_uint8 t0 t0) w fun t8 w =>
  bi BinOp.sub t0 (Value.int IntKind.i64 1) fun t10 =>
  lp2 t1 t10 w fun _ t1_1 t6 w again0 =>
  bi BinOp.geq t6 (Value.int IntKind.i64 0) fun t12 =>
  cnd t12
  (bi BinOp.rem t1_1 (Value.int IntKind.u64 256) fun t18 =>
  cvi IntKind.u8 t18 fun t19 =>
  ixs 1 t8 t6 fun t20 =>
  st1 t20 t19 w fun w =>
  bi BinOp.quo t1_1 (Value.int IntKind.u64 256) fun t22 =>
  bi BinOp.sub t6 (Value.int IntKind.i64 1) fun t14 =>
  again0 t22 t14 w)
  (R t8 w)
theorem e_ref01_Num (t0 t1 : Value) (w : World) (R : Value → World → Prop) : intp P A_ref01_Num (bodyOf Tryd.f86) (ini [t0, t1]) w (retK P Tryd.f86.results.toList R) (fun _ _ _ => False) (retK P Tryd.f86.results.toList R) = c_ref01_Num t0 t1 w R := by kernel_rfl
theorem k_ref01_Num : chk P Tryd.f86.ntmps A_ref01_Num (bodyOf Tryd.f86) = true := by kernel_rfl
theorem l_ref01_Num {t0 t1 : Value} {w : World} {R : Value → World → Prop} (h : c_ref01_Num t0 t1 w R) : cal P f_ref01_Num [t0, t1] w R :=
  calls_of mixed Tryd.func86 rfl (by kernel_rfl) k_ref01_Num (Eq.mpr (e_ref01_Num t0 t1 w R) h)
theorem s_ref01_Num {t0 t1 : Value} {w : World} {Q : Value → World → Prop} (h : ∀ R : Value → World → Prop, (∀ v w', Q v w' → R v w') → c_ref01_Num t0 t1 w R) : cal P f_ref01_Num [t0, t1] w Q := l_ref01_Num (h Q fun _ _ h => h)

/-- flurry/flurryref02.padded -/
def A_ref02_padded : An := (An.s (An.r []) (An.s (An.r []) (An.s (An.r []) (An.s (An.b (An.l [3] (An.s (An.s (An.r []) (An.s An.o An.o)) (An.b (An.r []))))) (An.s (An.r []) (An.s (An.s (An.r []) (An.b (An.l [3, 5] (An.s (An.s (An.r []) (An.s An.o An.o)) (An.s (An.b (An.r [])) (An.r [])))))) (An.s (An.r []) An.o)))))))
def c_ref02_padded (t0 : Value) (w : World) (R : Value → World → Prop) : Prop :=
  efP P (Builtin.append_ #[T_sl_uint8, T_sl_uint8] T_sl_uint8 #[(Value.slice none 0 0), t0]) w fun t7 w =>
  efP P (Instr.buildSlice T_sl_uint8 1 #[(0, (Value.int IntKind.u8 128))]) w fun t9 w =>
  efP P (Builtin.append_ #[T_sl_uint8, T_sl_uint8] T_sl_uint8 #[t7, t9]) w fun t10 w =>
  lp1 t10 w fun _ t3 w again0 =>
  lenS t3 fun t12 =>
  bi BinOp.rem t12 (Value.int IntKind.i64 64) fun t13 =>
  bi BinOp.neq t13 (Value.int IntKind.i64 56) fun t14 =>
  cnd t14
  (efP P (Instr.buildSlice T_sl_uint8 1 #[(0, (Value.int IntKind.u8 0))]) w fun t16 w =>
  efP P (Builtin.append_ #[T_sl_uint8, T_sl_uint8] T_sl_uint8 #[t3, t16]) w fun t17 w =>
  again0 t17 w)
  (lenS t0 fun t19 =>
  cvi IntKind.u64 t19 fun t20 =>
  bi BinOp.mul t20 (Value.int IntKind.u64 8) fun t21 =>
  lp2 t3 (Value.int IntKind.i64 0) w fun _ t3_1 t5 w again1 =>
  bi BinOp.lss t5 (Value.int IntKind.i64 8) fun t23 =>
  cnd t23
  (bi BinOp.mul (Value.int IntKind.i64 8) t5 fun t29 =>
  bi BinOp.sub (Value.int IntKind.i64 56) t29 fun t30 =>
  cvi IntKind.u64 t30 fun t31 =>
  sh BinOp.shr t21 t31 fun t32 =>
  cvi IntKind.u8 t32 fun t33 =>
  efP P (Instr.buildSlice T_sl_uint8 1 #[(0, t33)]) w fun t34 w =>
  efP P (Builtin.append_ #[T_sl_uint8, T_sl_uint8] T_sl_uint8 #[t3_1, t34]) w fun t35 w =>
  bi BinOp.add t5 (Value.int IntKind.i64 1) fun t25 =>
  again1 t35 t25 w)
  (R t3_1 w))
theorem e_ref02_padded (t0 : Value) (w : World) (R : Value → World → Prop) : intp P A_ref02_padded (bodyOf Tryd.f87) (ini [t0]) w (retK P Tryd.f87.results.toList R) (fun _ _ _ => False) (retK P Tryd.f87.results.toList R) = c_ref02_padded t0 w R := by kernel_rfl
theorem k_ref02_padded : chk P Tryd.f87.ntmps A_ref02_padded (bodyOf Tryd.f87) = true := by kernel_rfl
theorem l_ref02_padded {t0 : Value} {w : World} {R : Value → World → Prop} (h : c_ref02_padded t0 w R) : cal P f_ref02_padded [t0] w R :=
  calls_of mixed Tryd.func87 rfl (by kernel_rfl) k_ref02_padded (Eq.mpr (e_ref02_padded t0 w R) h)
theorem s_ref02_padded {t0 : Value} {w : World} {Q : Value → World → Prop} (h : ∀ R : Value → World → Prop, (∀ v w', Q v w' → R v w') → c_ref02_padded t0 w R) : cal P f_ref02_padded [t0] w Q := l_ref02_padded (h Q fun _ _ h => h)

/-- flurry/flurryref02.goes -/
def A_ref02_goes : An := (An.s (An.r []) (An.s (An.r []) (An.s (An.r []) (An.s (An.r []) (An.s (An.s (An.r []) (An.b (An.l [8] (An.s (An.s (An.r []) (An.s An.o An.o)) (An.s (An.b (An.s (An.r []) (An.s (An.r []) (An.s (An.d [0, 1, 2, 4, 7, 11, 12, 13, 14, 15, 16, 17, 18, 19, 20, 22, 23, 24, 26, 27, 28, 3, 5, 6, 8, 9, 10, 21, 25, 29, 30] []) (An.s (An.d [0, 2, 5, 8, 9, 10, 11, 12, 13, 14, 15, 16, 17, 18, 19, 20, 21, 22, 1, 3, 4, 6, 7, 23, 24] []) (An.r [])))))) (An.r [])))))) (An.s (An.s (An.r []) (An.b (An.l [13] (An.s (An.s (An.r []) (An.s An.o An.o)) (An.s (An.b (An.dc [0, 1, 2, 3, 4, 5, 6, 7, 8] [8] [])) (An.r [])))))) (An.s (An.r []) An.o)))))))
def c_ref02_goes (t0 t1 : Value) (w : World) (R : Value → World → Prop) : Prop :=
  bx T_a8_uint32 t0 w fun t2 w =>
  efP P (Instr.alloc T_a8_uint32 true (.tuple #[])) w fun t4 w =>
  cal P f_ref02_words [t1] w fun t15 w =>
  efP P (Instr.alloc T_a64_uint32 true (.tuple #[])) w fun t5 w =>
  stN 64 t5 t15 w fun w =>
  cal P f_ref02_constants [] w fun t16 w =>
  efP P (Instr.alloc T_a64_uint32 true (.tuple #[])) w fun t6 w =>
  stN 64 t6 t16 w fun w =>
  ldN 8 t2 w.heap fun t17 =>
  efP P (Instr.alloc T_a8_uint32 true (.tuple #[])) w fun t7 w =>
  stN 8 t7 t17 w fun w =>
  lp1 (Value.int IntKind.i64 0) w fun _ t8 w again0 =>
  bi BinOp.lss t8 (Value.int IntKind.i64 64) fun t19 =>
  cnd t19
  (ixa 8 1 t7 (Value.int IntKind.i64 4) fun t22 =>
  ld1 t22 w.heap fun t23 =>
  ixa 8 1 t7 (Value.int IntKind.i64 0) fun t24 =>
  ld1 t24 w.heap fun t25 =>
  drH w fun S w =>
  ixa 8 1 t7 (Value.int IntKind.i64 7) fun t26 =>
  rdS S (fun w => ld1 t26 w.heap) fun t27 =>
  ixa 8 1 t7 (Value.int IntKind.i64 5) fun t38 =>
  rdS S (fun w => ld1 t38 w.heap) fun t39 =>
  bi BinOp.and t23 t39 fun t40 =>
  rdS S (rdP P (Op.unary UnOp.xor t23)) fun t42 =>
  ixa 8 1 t7 (Value.int IntKind.i64 6) fun t43 =>
  rdS S (fun w => ld1 t43 w.heap) fun t44 =>
  bi BinOp.and t42 t44 fun t45 =>
  bi BinOp.xor t40 t45 fun t46 =>
  ixa 64 1 t6 t8 fun t49 =>
  rdS S (fun w => ld1 t49 w.heap) fun t50 =>
  ixa 64 1 t5 t8 fun t53 =>
  rdS S (fun w => ld1 t53 w.heap) fun t54 =>
  efS S (cal P f_ref02_turned [t23, (Value.int IntKind.u64 6)]) w fun t29 w =>
  efS S (cal P f_ref02_turned [t23, (Value.int IntKind.u64 11)]) w fun t31 w =>
  bi BinOp.xor t29 t31 fun t32 =>
  efS S (cal P f_ref02_turned [t23, (Value.int IntKind.u64 25)]) w fun t34 w =>
  bi BinOp.xor t32 t34 fun t35 =>
  bi BinOp.add t27 t35 fun t36 =>
  bi BinOp.add t36 t46 fun t47 =>
  bi BinOp.add t47 t50 fun t51 =>
  bi BinOp.add t51 t54 fun t55 =>
  drH w fun S w =>
  ixa 8 1 t7 (Value.int IntKind.i64 1) fun t65 =>
  rdS S (fun w => ld1 t65 w.heap) fun t66 =>
  bi BinOp.and t25 t66 fun t67 =>
  ixa 8 1 t7 (Value.int IntKind.i64 2) fun t69 =>
  rdS S (fun w => ld1 t69 w.heap) fun t70 =>
  bi BinOp.and t25 t70 fun t71 =>
  bi BinOp.xor t67 t71 fun t72 =>
  ixa 8 1 t7 (Value.int IntKind.i64 1) fun t73 =>
  rdS S (fun w => ld1 t73 w.heap) fun t74 =>
  ixa 8 1 t7 (Value.int IntKind.i64 2) fun t75 =>
  rdS S (fun w => ld1 t75 w.heap) fun t76 =>
  bi BinOp.and t74 t76 fun t77 =>
  bi BinOp.xor t72 t77 fun t78 =>
  efS S (cal P f_ref02_turned [t25, (Value.int IntKind.u64 2)]) w fun t57 w =>
  efS S (cal P f_ref02_turned [t25, (Value.int IntKind.u64 13)]) w fun t59 w =>
  bi BinOp.xor t57 t59 fun t60 =>
  efS S (cal P f_ref02_turned [t25, (Value.int IntKind.u64 22)]) w fun t62 w =>
  bi BinOp.xor t60 t62 fun t63 =>
  bi BinOp.add t63 t78 fun t79 =>
  bi BinOp.add t55 t79 fun t82 =>
  ixa 8 1 t7 (Value.int IntKind.i64 0) fun t83 =>
  ld1 t83 w.heap fun t84 =>
  ixa 8 1 t7 (Value.int IntKind.i64 1) fun t85 =>
  ld1 t85 w.heap fun t86 =>
  ixa 8 1 t7 (Value.int IntKind.i64 2) fun t87 =>
  ld1 t87 w.heap fun t88 =>
  ixa 8 1 t7 (Value.int IntKind.i64 3) fun t89 =>
  ld1 t89 w.heap fun t90 =>
  bi BinOp.add t90 t55 fun t92 =>
  ixa 8 1 t7 (Value.int IntKind.i64 4) fun t93 =>
  ld1 t93 w.heap fun t94 =>
  ixa 8 1 t7 (Value.int IntKind.i64 5) fun t95 =>
  ld1 t95 w.heap fun t96 =>
  ixa 8 1 t7 (Value.int IntKind.i64 6) fun t97 =>
  ld1 t97 w.heap fun t98 =>
  rdP P (Instr.build T_a8_uint32 #[(0, t82), (1, t84), (2, t86), (3, t88), (4, t92), (5, t94), (6, t96), (7, t98)]) w fun t99 =>
  stN 8 t7 t99 w fun w =>
  bi BinOp.add t8 (Value.int IntKind.i64 1) fun t21 =>
  again0 t21 w)
  (lp1 (Value.int IntKind.i64 0) w fun _ t13 w again1 =>
  bi BinOp.lss t13 (Value.int IntKind.i64 8) fun t101 =>
  cnd t101
  (drH w fun S w =>
  ixa 8 1 t2 t13 fun t105 =>
  rdS S (fun w => ld1 t105 w.heap) fun t106 =>
  ixa 8 1 t7 t13 fun t108 =>
  rdS S (fun w => ld1 t108 w.heap) fun t109 =>
  bi BinOp.add t106 t109 fun t110 =>
  ixa 8 1 t2 t13 fun t111 =>
  efC (fun w K => st1 t111 t110 w (K undef)) w fun S _ w =>
  bi BinOp.add t13 (Value.int IntKind.i64 1) fun t103 =>
  again1 t103 w)
  (ldN 8 t2 w.heap fun t112 =>
  stN 8 t4 t112 w fun w =>
  ldN 8 t4 w.heap fun r2 =>
  R r2 w))
theorem e_ref02_goes (t0 t1 : Value) (w : World) (R : Value → World → Prop) : intp P A_ref02_goes (bodyOf Tryd.f88) (ini [t0, t1]) w (retK P Tryd.f88.results.toList R) (fun _ _ _ => False) (retK P Tryd.f88.results.toList R) = c_ref02_goes t0 t1 w R := by kernel_rfl
theorem k_ref02_goes : chk P Tryd.f88.ntmps A_ref02_goes (bodyOf Tryd.f88) = true := by kernel_rfl
theorem l_ref02_goes {t0 t1 : Value} {w : World} {R : Value → World → Prop} (h : c_ref02_goes t0 t1 w R) : cal P f_ref02_goes [t0, t1] w R :=
  calls_of mixed Tryd.func88 rfl (by kernel_rfl) k_ref02_goes (Eq.mpr (e_ref02_goes t0 t1 w R) h)
theorem s_ref02_goes {t0 t1 : Value} {w : World} {Q : Value → World → Prop} (h : ∀ R : Value → World → Prop, (∀ v w', Q v w' → R v w') → c_ref02_goes t0 t1 w R) : cal P f_ref02_goes [t0, t1] w Q := l_ref02_goes (h Q fun _ _ h => h)

/-- (*flurry/pack.Packer).works -/
def A_pack_Packer_works : An := (An.s (An.r []) (An.s (An.r [[10], [18]]) An.o))
def c_pack_Packer_works (t0 : Value) (w : World) (R : Value → World → Prop) : Prop :=
  nilP true t0 fun t4 =>
  jn1 (fun k0 =>
  gif t4 true
  (nilc t0 fun t7 =>
  fad 0 t7 fun t8 =>
  fad 0 t8 fun t9 =>
  ld1 t9 w.heap fun t10 =>
  k0 t10 w)
  (k0 undef w)) fun _ t10_1 w =>
  pik t4 t10_1 (Value.bool false) fun t11 =>
  jn1 (fun k1 =>
  gif t11 true
  (nilc t0 fun t14 =>
  fad 0 t14 fun t15 =>
  fad 2 t15 fun t16 =>
  ld1 t16 w.heap fun t17 =>
  bi BinOp.eql t17 (Value.int IntKind.i64 0) fun t18 =>
  k1 t18 w)
  (k1 undef w)) fun _ t18_1 w =>
  pik t11 t18_1 (Value.bool false) fun t19 =>
  R t19 w
theorem e_pack_Packer_works (t0 : Value) (w : World) (R : Value → World → Prop) : intp P A_pack_Packer_works (bodyOf Tryd.f89) (ini [t0]) w (retK P Tryd.f89.results.toList R) (fun _ _ _ => False) (retK P Tryd.f89.results.toList R) = c_pack_Packer_works t0 w R := by kernel_rfl
theorem k_pack_Packer_works : chk P Tryd.f89.ntmps A_pack_Packer_works (bodyOf Tryd.f89) = true := by kernel_rfl
theorem l_pack_Packer_works {t0 : Value} {w : World} {R : Value → World → Prop} (h : c_pack_Packer_works t0 w R) : cal P f_pack_Packer_works [t0] w R :=
  calls_of mixed Tryd.func89 rfl (by kernel_rfl) k_pack_Packer_works (Eq.mpr (e_pack_Packer_works t0 w R) h)
theorem s_pack_Packer_works {t0 : Value} {w : World} {Q : Value → World → Prop} (h : ∀ R : Value → World → Prop, (∀ v w', Q v w' → R v w') → c_pack_Packer_works t0 w R) : cal P f_pack_Packer_works [t0] w Q := l_pack_Packer_works (h Q fun _ _ h => h)

/-- (*flurry/pack.kept).fails -/
def A_pack_kept_fails : An := (An.s (An.r []) (An.s (An.r []) An.o))
def c_pack_kept_fails (t0 t1 : Value) (w : World) (R : Value → World → Prop) : Prop :=
  nilc t0 fun t5 =>
  fad 2 t5 fun t6 =>
  ld1 t6 w.heap fun t7 =>
  bi BinOp.eql t7 (Value.int IntKind.i64 0) fun t8 =>
  cnd t8
  (nilc t0 fun t11 =>
  fad 2 t11 fun t12 =>
  st1 t12 t1 w fun w =>
  R (Value.tuple #[]) w)
  (R (Value.tuple #[]) w)
theorem e_pack_kept_fails (t0 t1 : Value) (w : World) (R : Value → World → Prop) : intp P A_pack_kept_fails (bodyOf Tryd.f90) (ini [t0, t1]) w (retK P Tryd.f90.results.toList R) (fun _ _ _ => False) (retK P Tryd.f90.results.toList R) = c_pack_kept_fails t0 t1 w R := by kernel_rfl
theorem k_pack_kept_fails : chk P Tryd.f90.ntmps A_pack_kept_fails (bodyOf Tryd.f90) = true := by kernel_rfl
theorem l_pack_kept_fails {t0 t1 : Value} {w : World} {R : Value → World → Prop} (h : c_pack_kept_fails t0 t1 w R) : cal P f_pack_kept_fails [t0, t1] w R :=
  calls_of mixed Tryd.func90 rfl (by kernel_rfl) k_pack_kept_fails (Eq.mpr (e_pack_kept_fails t0 t1 w R) h)
theorem s_pack_kept_fails {t0 t1 : Value} {w : World} {Q : Value → World → Prop} (h : ∀ R : Value → World → Prop, (∀ v w', Q v w' → R v w') → c_pack_kept_fails t0 t1 w R) : cal P f_pack_kept_fails [t0, t1] w Q := l_pack_kept_fails (h Q fun _ _ h => h)

/-- slices.Grow[[]byte,byte] -/
def A_slices_Grow_byte_byte : An := (An.s (An.r []) (An.s (An.j [] (An.s (An.r []) (An.s (An.r []) An.o))) (An.s (An.s (An.r []) (An.s (An.r []) (An.s (An.r []) An.o))) (An.s (An.r []) An.o))))
def c_slices_Grow_byte_byte (t0 t1 : Value) (w : World) (R : Value → World → Prop) : Prop :=
  jn0 (fun k0 =>
  bi BinOp.lss t1 (Value.int IntKind.i64 0) fun t6 =>
  cnd t6
  (rdP P (Instr.makeInterface T_string (Value.string { data := #[99, 97, 110, 110, 111, 116, 32, 98, 101, 32, 110, 101, 103, 97, 116, 105, 118, 101] })) w fun t7 =>
  False)
  (k0 w)) fun _ w =>
  rdP P (Builtin.cap_ #[T_sl_uint8] T_int #[t0]) w fun t10 =>
  lenS t0 fun t12 =>
  bi BinOp.sub t10 t12 fun t13 =>
  bi BinOp.sub t1 t13 fun t14 =>
  bi BinOp.gtr t14 (Value.int IntKind.i64 0) fun t16 =>
  cnd t16
  (rdP P (Builtin.cap_ #[T_sl_uint8] T_int #[t0]) w fun t19 =>
  slc 1 t0 none (some t19) fun t20 =>
  efP P (Builtin.append_ #[T_sl_uint8, T_int] T_sl_uint8 #[t20, t14]) w fun t22 w =>
  lenS t0 fun t24 =>
  slc 1 t22 none (some t24) fun t25 =>
  R t25 w)
  (R t0 w)
theorem e_slices_Grow_byte_byte (t0 t1 : Value) (w : World) (R : Value → World → Prop) : intp P A_slices_Grow_byte_byte (bodyOf Tryd.f91) (ini [t0, t1]) w (retK P Tryd.f91.results.toList R) (fun _ _ _ => False) (retK P Tryd.f91.results.toList R) = c_slices_Grow_byte_byte t0 t1 w R := by kernel_rfl
theorem k_slices_Grow_byte_byte : chk P Tryd.f91.ntmps A_slices_Grow_byte_byte (bodyOf Tryd.f91) = true := by kernel_rfl
theorem l_slices_Grow_byte_byte {t0 t1 : Value} {w : World} {R : Value → World → Prop} (h : c_slices_Grow_byte_byte t0 t1 w R) : cal P f_slices_Grow_byte_byte [t0, t1] w R :=
  calls_of mixed Tryd.func91 rfl (by kernel_rfl) k_slices_Grow_byte_byte (Eq.mpr (e_slices_Grow_byte_byte t0 t1 w R) h)
theorem s_slices_Grow_byte_byte {t0 t1 : Value} {w : World} {Q : Value → World → Prop} (h : ∀ R : Value → World → Prop, (∀ v w', Q v w' → R v w') → c_slices_Grow_byte_byte t0 t1 w R) : cal P f_slices_Grow_byte_byte [t0, t1] w Q := l_slices_Grow_byte_byte (h Q fun _ _ h => h)

/-- flurry/sha.schedule -/
def A_sha_schedule : An := (An.s (An.r []) (An.s (An.r []) (An.s (An.s (An.r []) (An.b (An.l [9] (An.s (An.r []) (An.s (An.s An.o An.o) (An.s (An.j [] (An.b (An.s (An.r []) (An.s (An.s (An.r []) (An.s (An.s (An.dc [0, 1, 2, 3, 4, 5, 6, 7, 8, 9, 10, 11, 12, 13, 14, 15, 16, 17, 18, 19, 20, 21, 22, 23, 24, 25, 26, 27, 28, 29, 30, 31, 32, 33, 34, 35] [35] []) An.o) An.o)) (An.s (An.r []) (An.s (An.r []) (An.s (An.r []) (An.dc [0, 1, 2, 3, 4, 5, 6, 7, 8, 9, 10, 11, 12, 13, 14, 15] [15] [])))))))) (An.r []))))))) (An.s (An.r []) An.o))))
def c_sha_schedule (t0 : Value) (w : World) (R : Value → World → Prop) : Prop :=
  efP P (Instr.alloc T_a64_uint32 true (.tuple #[])) w fun t2 w =>
  efP P (Instr.alloc T_a64_uint32 true (.tuple #[])) w fun t3 w =>
  lp1 (Value.int IntKind.i64 0) w fun _ t9 w again0 =>
  bi BinOp.lss t9 (Value.int IntKind.i64 64) fun t10 =>
  cnd t10
  (jn0 (fun k1 =>
  bi BinOp.lss t9 (Value.int IntKind.i64 16) fun t13 =>
  cnd t13
  (drH w fun S w =>
  bi BinOp.mul (Value.int IntKind.i64 4) t9 fun t17 =>
  ixs 1 t0 t17 fun t18 =>
  rdS S (fun w => ld1 t18 w.heap) fun t19 =>
  cvi IntKind.u32 t19 fun t20 =>
  sh BinOp.shl t20 (Value.int IntKind.u64 24) fun t21 =>
  bi BinOp.mul (Value.int IntKind.i64 4) t9 fun t24 =>
  bi BinOp.add t24 (Value.int IntKind.i64 1) fun t25 =>
  ixs 1 t0 t25 fun t26 =>
  rdS S (fun w => ld1 t26 w.heap) fun t27 =>
  cvi IntKind.u32 t27 fun t28 =>
  sh BinOp.shl t28 (Value.int IntKind.u64 16) fun t29 =>
  bi BinOp.or t21 t29 fun t30 =>
  bi BinOp.mul (Value.int IntKind.i64 4) t9 fun t33 =>
  bi BinOp.add t33 (Value.int IntKind.i64 2) fun t34 =>
  ixs 1 t0 t34 fun t35 =>
  rdS S (fun w => ld1 t35 w.heap) fun t36 =>
  cvi IntKind.u32 t36 fun t37 =>
  sh BinOp.shl t37 (Value.int IntKind.u64 8) fun t38 =>
  bi BinOp.or t30 t38 fun t39 =>
  bi BinOp.mul (Value.int IntKind.i64 4) t9 fun t42 =>
  bi BinOp.add t42 (Value.int IntKind.i64 3) fun t43 =>
  ixs 1 t0 t43 fun t44 =>
  rdS S (fun w => ld1 t44 w.heap) fun t45 =>
  cvi IntKind.u32 t45 fun t46 =>
  bi BinOp.or t39 t46 fun t47 =>
  ixa 64 1 t3 t9 fun t48 =>
  efC (fun w K => st1 t48 t47 w (K undef)) w fun S _ w =>
  k1 w)
  (drw w fun w =>
  bi BinOp.sub t9 (Value.int IntKind.i64 15) fun t50 =>
  ixa 64 1 t3 t50 fun t51 =>
  ld1 t51 w.heap fun t52 =>
  bi BinOp.sub t9 (Value.int IntKind.i64 2) fun t54 =>
  ixa 64 1 t3 t54 fun t55 =>
  ld1 t55 w.heap fun t56 =>
  cal P f_math_bits_RotateLeft32 [t52, (Value.int IntKind.i64 (-7))] w fun t58 w =>
  cal P f_math_bits_RotateLeft32 [t52, (Value.int IntKind.i64 (-18))] w fun t60 w =>
  bi BinOp.xor t58 t60 fun t61 =>
  sh BinOp.shr t52 (Value.int IntKind.u64 3) fun t63 =>
  bi BinOp.xor t61 t63 fun t64 =>
  cal P f_math_bits_RotateLeft32 [t56, (Value.int IntKind.i64 (-17))] w fun t66 w =>
  cal P f_math_bits_RotateLeft32 [t56, (Value.int IntKind.i64 (-19))] w fun t68 w =>
  bi BinOp.xor t66 t68 fun t69 =>
  sh BinOp.shr t56 (Value.int IntKind.u64 10) fun t71 =>
  bi BinOp.xor t69 t71 fun t72 =>
  drH w fun S w =>
  bi BinOp.sub t9 (Value.int IntKind.i64 7) fun t76 =>
  ixa 64 1 t3 t76 fun t77 =>
  rdS S (fun w => ld1 t77 w.heap) fun t78 =>
  bi BinOp.add t72 t78 fun t79 =>
  bi BinOp.add t79 t64 fun t81 =>
  bi BinOp.sub t9 (Value.int IntKind.i64 16) fun t83 =>
  ixa 64 1 t3 t83 fun t84 =>
  rdS S (fun w => ld1 t84 w.heap) fun t85 =>
  bi BinOp.add t81 t85 fun t86 =>
  ixa 64 1 t3 t9 fun t87 =>
  efC (fun w K => st1 t87 t86 w (K undef)) w fun S _ w =>
  k1 w)) fun _ w =>
  bi BinOp.add t9 (Value.int IntKind.i64 1) fun t88 =>
  again0 t88 w)
  (ldN 64 t3 w.heap fun t89 =>
  stN 64 t2 t89 w fun w =>
  ldN 64 t2 w.heap fun r2 =>
  R r2 w)
theorem e_sha_schedule (t0 : Value) (w : World) (R : Value → World → Prop) : intp P A_sha_schedule (bodyOf Tryd.f92) (ini [t0]) w (retK P Tryd.f92.results.toList R) (fun _ _ _ => False) (retK P Tryd.f92.results.toList R) = c_sha_schedule t0 w R := by kernel_rfl
theorem k_sha_schedule : chk P Tryd.f92.ntmps A_sha_schedule (bodyOf Tryd.f92) = true := by kernel_rfl
theorem l_sha_schedule {t0 : Value} {w : World} {R : Value → World → Prop} (h : c_sha_schedule t0 w R) : cal P f_sha_schedule [t0] w R :=
  calls_of mixed Tryd.func92 rfl (by kernel_rfl) k_sha_schedule (Eq.mpr (e_sha_schedule t0 w R) h)
theorem s_sha_schedule {t0 : Value} {w : World} {Q : Value → World → Prop} (h : ∀ R : Value → World → Prop, (∀ v w', Q v w' → R v w') → c_sha_schedule t0 w R) : cal P f_sha_schedule [t0] w Q := l_sha_schedule (h Q fun _ _ h => h)

/-- math/bits.RotateLeft32 -/
def A_math_bits_RotateLeft32 : An := (An.s (An.r []) (An.s (An.r []) (An.s (An.r []) An.o)))
def c_math_bits_RotateLeft32 (t0 t1 : Value) (w : World) (R : Value → World → Prop) : Prop :=
  cvi IntKind.u64 t1 fun t7 =>
  bi BinOp.and t7 (Value.int IntKind.u64 31) fun t8 =>
  sh BinOp.shl t0 t8 fun t11 =>
  bi BinOp.sub (Value.int IntKind.u64 32) t8 fun t14 =>
  sh BinOp.shr t0 t14 fun t15 =>
  bi BinOp.or t11 t15 fun t16 =>
  R t16 w
theorem e_math_bits_RotateLeft32 (t0 t1 : Value) (w : World) (R : Value → World → Prop) : intp P A_math_bits_RotateLeft32 (bodyOf Tryd.f93) (ini [t0, t1]) w (retK P Tryd.f93.results.toList R) (fun _ _ _ => False) (retK P Tryd.f93.results.toList R) = c_math_bits_RotateLeft32 t0 t1 w R := by kernel_rfl
theorem k_math_bits_RotateLeft32 : chk P Tryd.f93.ntmps A_math_bits_RotateLeft32 (bodyOf Tryd.f93) = true := by kernel_rfl
theorem l_math_bits_RotateLeft32 {t0 t1 : Value} {w : World} {R : Value → World → Prop} (h : c_math_bits_RotateLeft32 t0 t1 w R) : cal P f_math_bits_RotateLeft32 [t0, t1] w R :=
  calls_of mixed Tryd.func93 rfl (by kernel_rfl) k_math_bits_RotateLeft32 (Eq.mpr (e_math_bits_RotateLeft32 t0 t1 w R) h)
theorem s_math_bits_RotateLeft32 {t0 t1 : Value} {w : World} {Q : Value → World → Prop} (h : ∀ R : Value → World → Prop, (∀ v w', Q v w' → R v w') → c_math_bits_RotateLeft32 t0 t1 w R) : cal P f_math_bits_RotateLeft32 [t0, t1] w Q := l_math_bits_RotateLeft32 (h Q fun _ _ h => h)

/-- flurry/flurryref02.words -/
def A_ref02_words : An := (An.s (An.r []) (An.s (An.r []) (An.s (An.s (An.r []) (An.b (An.l [4] (An.s (An.s (An.r []) (An.s An.o An.o)) (An.s (An.b (An.s (An.r []) (An.b (An.l [5] (An.s (An.s (An.r []) (An.s An.o An.o)) (An.s (An.b (An.dc [0, 1, 2, 3, 4, 5, 6, 7, 8, 9, 10, 11, 12, 13, 14, 15] [15] [])) (An.r []))))))) (An.r [])))))) (An.s (An.s (An.r []) (An.b (An.l [6] (An.s (An.s (An.r []) (An.s An.o An.o)) (An.s (An.b (An.s (An.r []) (An.s (An.r []) (An.s (An.r []) (An.s (An.r []) (An.dc [0, 1, 2, 3, 4, 5, 6, 7, 8, 9, 10, 11, 12, 13, 14, 15] [15] [])))))) (An.r [])))))) (An.s (An.r []) An.o)))))
def c_ref02_words (t0 : Value) (w : World) (R : Value → World → Prop) : Prop :=
  efP P (Instr.alloc T_a64_uint32 true (.tuple #[])) w fun t2 w =>
  efP P (Instr.alloc T_a64_uint32 true (.tuple #[])) w fun t3 w =>
  lp1 (Value.int IntKind.i64 0) w fun _ t4 w again0 =>
  bi BinOp.lss t4 (Value.int IntKind.i64 16) fun t12 =>
  cnd t12
  (lp1 (Value.int IntKind.i64 0) w fun _ t5 w again1 =>
  bi BinOp.lss t5 (Value.int IntKind.i64 4) fun t16 =>
  cnd t16
  (drH w fun S w =>
  ixa 64 1 t3 t4 fun t21 =>
  rdS S (fun w => ld1 t21 w.heap) fun t22 =>
  bi BinOp.mul t22 (Value.int IntKind.u32 256) fun t23 =>
  bi BinOp.mul (Value.int IntKind.i64 4) t4 fun t26 =>
  bi BinOp.add t26 t5 fun t28 =>
  ixs 1 t0 t28 fun t29 =>
  rdS S (fun w => ld1 t29 w.heap) fun t30 =>
  cvi IntKind.u32 t30 fun t31 =>
  bi BinOp.add t23 t31 fun t32 =>
  ixa 64 1 t3 t4 fun t33 =>
  efC (fun w K => st1 t33 t32 w (K undef)) w fun S _ w =>
  bi BinOp.add t5 (Value.int IntKind.i64 1) fun t18 =>
  again1 t18 w)
  (bi BinOp.add t4 (Value.int IntKind.i64 1) fun t14 =>
  again0 t14 w))
  (lp1 (Value.int IntKind.i64 16) w fun _ t6 w again2 =>
  bi BinOp.lss t6 (Value.int IntKind.i64 64) fun t35 =>
  cnd t35
  (bi BinOp.sub t6 (Value.int IntKind.i64 15) fun t39 =>
  ixa 64 1 t3 t39 fun t40 =>
  ld1 t40 w.heap fun t41 =>
  bi BinOp.sub t6 (Value.int IntKind.i64 2) fun t43 =>
  ixa 64 1 t3 t43 fun t44 =>
  ld1 t44 w.heap fun t45 =>
  cal P f_ref02_turned [t41, (Value.int IntKind.u64 7)] w fun t47 w =>
  cal P f_ref02_turned [t41, (Value.int IntKind.u64 18)] w fun t49 w =>
  bi BinOp.xor t47 t49 fun t50 =>
  sh BinOp.shr t41 (Value.int IntKind.u64 3) fun t52 =>
  bi BinOp.xor t50 t52 fun t53 =>
  cal P f_ref02_turned [t45, (Value.int IntKind.u64 17)] w fun t55 w =>
  cal P f_ref02_turned [t45, (Value.int IntKind.u64 19)] w fun t57 w =>
  bi BinOp.xor t55 t57 fun t58 =>
  sh BinOp.shr t45 (Value.int IntKind.u64 10) fun t60 =>
  bi BinOp.xor t58 t60 fun t61 =>
  drH w fun S w =>
  bi BinOp.sub t6 (Value.int IntKind.i64 7) fun t65 =>
  ixa 64 1 t3 t65 fun t66 =>
  rdS S (fun w => ld1 t66 w.heap) fun t67 =>
  bi BinOp.add t61 t67 fun t68 =>
  bi BinOp.add t68 t53 fun t70 =>
  bi BinOp.sub t6 (Value.int IntKind.i64 16) fun t72 =>
  ixa 64 1 t3 t72 fun t73 =>
  rdS S (fun w => ld1 t73 w.heap) fun t74 =>
  bi BinOp.add t70 t74 fun t75 =>
  ixa 64 1 t3 t6 fun t76 =>
  efC (fun w K => st1 t76 t75 w (K undef)) w fun S _ w =>
  bi BinOp.add t6 (Value.int IntKind.i64 1) fun t37 =>
  again2 t37 w)
  (ldN 64 t3 w.heap fun t77 =>
  stN 64 t2 t77 w fun w =>
  ldN 64 t2 w.heap fun r3 =>
  R r3 w))
theorem e_ref02_words (t0 : Value) (w : World) (R : Value → World → Prop) : intp P A_ref02_words (bodyOf Tryd.f94) (ini [t0]) w (retK P Tryd.f94.results.toList R) (fun _ _ _ => False) (retK P Tryd.f94.results.toList R) = c_ref02_words t0 w R := by kernel_rfl
theorem k_ref02_words : chk P Tryd.f94.ntmps A_ref02_words (bodyOf Tryd.f94) = true := by kernel_rfl
theorem l_ref02_words {t0 : Value} {w : World} {R : Value → World → Prop} (h : c_ref02_words t0 w R) : cal P f_ref02_words [t0] w R :=
  calls_of mixed Tryd.func94 rfl (by kernel_rfl) k_ref02_words (Eq.mpr (e_ref02_words t0 w R) h)
theorem s_ref02_words {t0 : Value} {w : World} {Q : Value → World → Prop} (h : ∀ R : Value → World → Prop, (∀ v w', Q v w' → R v w') → c_ref02_words t0 w R) : cal P f_ref02_words [t0] w Q := l_ref02_words (h Q fun _ _ h => h)

/-- flurry/flurryref02.constants -/
def A_ref02_constants : An := (An.s (An.r []) (An.s (An.r []) An.o))
def c_ref02_constants (w : World) (R : Value → World → Prop) : Prop :=
  efP P (Instr.alloc T_a64_uint32 true (.tuple #[])) w fun t0 w =>
  rdP P (Instr.build T_a64_uint32 #[(0, (Value.int IntKind.u32 1116352408)), (1, (Value.int IntKind.u32 1899447441)), (2, (Value.int IntKind.u32 3049323471)), (3, (Value.int IntKind.u32 3921009573)), (4, (Value.int IntKind.u32 961987163)), (5, (Value.int IntKind.u32 1508970993)), (6, (Value.int IntKind.u32 2453635748)), (7, (Value.int IntKind.u32 2870763221)), (8, (Value.int IntKind.u32 3624381080)), (9, (Value.int IntKind.u32 310598401)), (10, (Value.int IntKind.u32 607225278)), (11, (Value.int IntKind.u32 1426881987)), (12, (Value.int IntKind.u32 1925078388)), (13, (Value.int IntKind.u32 2162078206)), (14, (Value.int IntKind.u32 2614888103)), (15, (Value.int IntKind.u32 3248222580)), (16, (Value.int IntKind.u32 3835390401)), (17, (Value.int IntKind.u32 4022224774)), (18, (Value.int IntKind.u32 264347078)), (19, (Value.int IntKind.u32 604807628)), (20, (Value.int IntKind.u32 770255983)), (21, (Value.int IntKind.u32 1249150122)), (22, (Value.int IntKind.u32 1555081692)), (23, (Value.int IntKind.u32 1996064986)), (24, (Value.int IntKind.u32 2554220882)), (25, (Value.int IntKind.u32 2821834349)), (26, (Value.int IntKind.u32 2952996808)), (27, (Value.int IntKind.u32 3210313671)), (28, (Value.int IntKind.u32 3336571891)), (29, (Value.int IntKind.u32 3584528711)), (30, (Value.int IntKind.u32 113926993)), (31, (Value.int IntKind.u32 338241895)), (32, (Value.int IntKind.u32 666307205)), (33, (Value.int IntKind.u32 773529912)), (34, (Value.int IntKind.u32 1294757372)), (35, (Value.int IntKind.u32 1396182291)), (36, (Value.int IntKind.u32 1695183700)), (37, (Value.int IntKind.u32 1986661051)), (38, (Value.int IntKind.u32 2177026350)), (39, (Value.int IntKind.u32 2456956037)), (40, (Value.int IntKind.u32 2730485921)), (41, (Value.int IntKind.u32 2820302411)), (42, (Value.int IntKind.u32 3259730800)), (43, (Value.int IntKind.u32 3345764771)), (44, (Value.int IntKind.u32 3516065817)), (45, (Value.int IntKind.u32 3600352804)), (46, (Value.int IntKind.u32 4094571909)), (47, (Value.int IntKind.u32 275423344)), (48, (Value.int IntKind.u32 430227734)), (49, (Value.int IntKind.u32 506948616)), (50, (Value.int IntKind.u32 659060556)), (51, (Value.int IntKind.u32 883997877)), (52, (Value.int IntKind.u32 958139571)), (53, (Value.int IntKind.u32 1322822218)), (54, (Value.int IntKind.u32 1537002063)), (55, (Value.int IntKind.u32 1747873779)), (56, (Value.int IntKind.u32 1955562222)), (57, (Value.int IntKind.u32 2024104815)), (58, (Value.int IntKind.u32 2227730452)), (59, (Value.int IntKind.u32 2361852424)), (60, (Value.int IntKind.u32 2428436474)), (61, (Value.int IntKind.u32 2756734187)), (62, (Value.int IntKind.u32 3204031479)), (63, (Value.int IntKind.u32 3329325298))]) w fun t1 =>
  stN 64 t0 t1 w fun w =>
  ldN 64 t0 w.heap fun r0 =>
  R r0 w
theorem e_ref02_constants (w : World) (R : Value → World → Prop) : intp P A_ref02_constants (bodyOf Tryd.f95) (ini []) w (retK P Tryd.f95.results.toList R) (fun _ _ _ => False) (retK P Tryd.f95.results.toList R) = c_ref02_constants  w R := by kernel_rfl
theorem k_ref02_constants : chk P Tryd.f95.ntmps A_ref02_constants (bodyOf Tryd.f95) = true := by kernel_rfl
theorem l_ref02_constants {w : World} {R : Value → World → Prop} (h : c_ref02_constants w R) : cal P f_ref02_constants [] w R :=
  calls_of mixed Tryd.func95 rfl (by kernel_rfl) k_ref02_constants (Eq.mpr (e_ref02_constants w R) h)
theorem s_ref02_constants {w : World} {Q : Value → World → Prop} (h : ∀ R : Value → World → Prop, (∀ v w', Q v w' → R v w') → c_ref02_constants w R) : cal P f_ref02_constants [] w Q := l_ref02_constants (h Q fun _ _ h => h)

/-- flurry/flurryref02.turned -/
def A_ref02_turned : An := (An.s (An.r []) (An.s (An.r []) An.o))
def c_ref02_turned (t0 t1 : Value) (w : World) (R : Value → World → Prop) : Prop :=
  sh BinOp.shr t0 t1 fun t7 =>
  bi BinOp.sub (Value.int IntKind.u64 32) t1 fun t10 =>
  sh BinOp.shl t0 t10 fun t11 =>
  bi BinOp.or t7 t11 fun t12 =>
  R t12 w
theorem e_ref02_turned (t0 t1 : Value) (w : World) (R : Value → World → Prop) : intp P A_ref02_turned (bodyOf Tryd.f96) (ini [t0, t1]) w (retK P Tryd.f96.results.toList R) (fun _ _ _ => False) (retK P Tryd.f96.results.toList R) = c_ref02_turned t0 t1 w R := by kernel_rfl
theorem k_ref02_turned : chk P Tryd.f96.ntmps A_ref02_turned (bodyOf Tryd.f96) = true := by kernel_rfl
theorem l_ref02_turned {t0 t1 : Value} {w : World} {R : Value → World → Prop} (h : c_ref02_turned t0 t1 w R) : cal P f_ref02_turned [t0, t1] w R :=
  calls_of mixed Tryd.func96 rfl (by kernel_rfl) k_ref02_turned (Eq.mpr (e_ref02_turned t0 t1 w R) h)
theorem s_ref02_turned {t0 t1 : Value} {w : World} {Q : Value → World → Prop} (h : ∀ R : Value → World → Prop, (∀ v w', Q v w' → R v w') → c_ref02_turned t0 t1 w R) : cal P f_ref02_turned [t0, t1] w Q := l_ref02_turned (h Q fun _ _ h => h)

/-- gosem.cut.vars -/
def A_gosem_cut_vars : An := (An.r [])
def c_gosem_cut_vars (w : World) (R : Value → World → Prop) : Prop :=
  rdP P (Instr.build T_a64_uint32 #[(0, (Value.int IntKind.u32 1116352408)), (1, (Value.int IntKind.u32 1899447441)), (2, (Value.int IntKind.u32 3049323471)), (3, (Value.int IntKind.u32 3921009573)), (4, (Value.int IntKind.u32 961987163)), (5, (Value.int IntKind.u32 1508970993)), (6, (Value.int IntKind.u32 2453635748)), (7, (Value.int IntKind.u32 2870763221)), (8, (Value.int IntKind.u32 3624381080)), (9, (Value.int IntKind.u32 310598401)), (10, (Value.int IntKind.u32 607225278)), (11, (Value.int IntKind.u32 1426881987)), (12, (Value.int IntKind.u32 1925078388)), (13, (Value.int IntKind.u32 2162078206)), (14, (Value.int IntKind.u32 2614888103)), (15, (Value.int IntKind.u32 3248222580)), (16, (Value.int IntKind.u32 3835390401)), (17, (Value.int IntKind.u32 4022224774)), (18, (Value.int IntKind.u32 264347078)), (19, (Value.int IntKind.u32 604807628)), (20, (Value.int IntKind.u32 770255983)), (21, (Value.int IntKind.u32 1249150122)), (22, (Value.int IntKind.u32 1555081692)), (23, (Value.int IntKind.u32 1996064986)), (24, (Value.int IntKind.u32 2554220882)), (25, (Value.int IntKind.u32 2821834349)), (26, (Value.int IntKind.u32 2952996808)), (27, (Value.int IntKind.u32 3210313671)), (28, (Value.int IntKind.u32 3336571891)), (29, (Value.int IntKind.u32 3584528711)), (30, (Value.int IntKind.u32 113926993)), (31, (Value.int IntKind.u32 338241895)), (32, (Value.int IntKind.u32 666307205)), (33, (Value.int IntKind.u32 773529912)), (34, (Value.int IntKind.u32 1294757372)), (35, (Value.int IntKind.u32 1396182291)), (36, (Value.int IntKind.u32 1695183700)), (37, (Value.int IntKind.u32 1986661051)), (38, (Value.int IntKind.u32 2177026350)), (39, (Value.int IntKind.u32 2456956037)), (40, (Value.int IntKind.u32 2730485921)), (41, (Value.int IntKind.u32 2820302411)), (42, (Value.int IntKind.u32 3259730800)), (43, (Value.int IntKind.u32 3345764771)), (44, (Value.int IntKind.u32 3516065817)), (45, (Value.int IntKind.u32 3600352804)), (46, (Value.int IntKind.u32 4094571909)), (47, (Value.int IntKind.u32 275423344)), (48, (Value.int IntKind.u32 430227734)), (49, (Value.int IntKind.u32 506948616)), (50, (Value.int IntKind.u32 659060556)), (51, (Value.int IntKind.u32 883997877)), (52, (Value.int IntKind.u32 958139571)), (53, (Value.int IntKind.u32 1322822218)), (54, (Value.int IntKind.u32 1537002063)), (55, (Value.int IntKind.u32 1747873779)), (56, (Value.int IntKind.u32 1955562222)), (57, (Value.int IntKind.u32 2024104815)), (58, (Value.int IntKind.u32 2227730452)), (59, (Value.int IntKind.u32 2361852424)), (60, (Value.int IntKind.u32 2428436474)), (61, (Value.int IntKind.u32 2756734187)), (62, (Value.int IntKind.u32 3204031479)), (63, (Value.int IntKind.u32 3329325298))]) w fun t0 =>
  stN 64 (Value.pointer (some ⟨0, 0, none⟩)) t0 w fun w =>
  R (Value.tuple #[]) w
theorem e_gosem_cut_vars (w : World) (R : Value → World → Prop) : intp P A_gosem_cut_vars (bodyOf Tryd.f119) (ini []) w (retK P Tryd.f119.results.toList R) (fun _ _ _ => False) (retK P Tryd.f119.results.toList R) = c_gosem_cut_vars  w R := by kernel_rfl
theorem k_gosem_cut_vars : chk P Tryd.f119.ntmps A_gosem_cut_vars (bodyOf Tryd.f119) = true := by kernel_rfl
theorem l_gosem_cut_vars {w : World} {R : Value → World → Prop} (h : c_gosem_cut_vars w R) : cal P f_gosem_cut_vars [] w R :=
  calls_of mixed Tryd.func119 rfl (by kernel_rfl) k_gosem_cut_vars (Eq.mpr (e_gosem_cut_vars w R) h)
theorem s_gosem_cut_vars {w : World} {Q : Value → World → Prop} (h : ∀ R : Value → World → Prop, (∀ v w', Q v w' → R v w') → c_gosem_cut_vars w R) : cal P f_gosem_cut_vars [] w Q := l_gosem_cut_vars (h Q fun _ _ h => h)

end Go.Fx
