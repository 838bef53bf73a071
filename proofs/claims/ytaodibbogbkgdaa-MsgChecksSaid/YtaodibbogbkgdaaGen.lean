/-
  The readings of the functions that are walked (c_..), printed by program; each is held against the loaded code by the kernel (e_..), and gives the call (l_..).
-/
import Derived.Test.YtaodibbogbkgdaaFxE
import Derived.Test.YtaodibbogbkgdaaProg
import Derived.KernelRfl
set_option linter.unusedVariables false
set_option maxRecDepth 100000
namespace Go.Fx
noncomputable abbrev P : Program := Go.Proofs.Try.prog
open Go.Proofs
def bodyOf (f : Func) : Code := match f.body with | some c => c | none => .skip
theorem mixed : P.follows .mixedOrders = true := by kernel_rfl
abbrev f_law04_MsgWrites : FuncId := 3
abbrev f_law04_MsgReads : FuncId := 4
abbrev f_law04_MsgKinds : FuncId := 5
abbrev f_law04_MsgBack : FuncId := 6
abbrev f_law04_MsgApart : FuncId := 7
abbrev f_law04_MsgChecks : FuncId := 8
abbrev f_law04_begun : FuncId := 9
abbrev f_law04_few : FuncId := 10
abbrev f_msg_Bytes : FuncId := 11
abbrev f_ref04_Bytes : FuncId := 12
abbrev f_bytes_Equal : FuncId := 13
abbrev f_bytes_Clone : FuncId := 14
abbrev f_msg_Parse : FuncId := 15
abbrev f_ref04_Parse : FuncId := 16
abbrev f_ref04_Same : FuncId := 17
abbrev f_msg_Reply : FuncId := 18
abbrev f_ref04_Reply : FuncId := 19
abbrev f_msg_Name : FuncId := 20
abbrev f_ref04_Name : FuncId := 21
abbrev f_msg_Check : FuncId := 22
abbrev f_msg_Size : FuncId := 23
abbrev f_msg_Same : FuncId := 24
abbrev f_ref04_Clone : FuncId := 25
abbrev f_msg_Clone : FuncId := 26
abbrev f_ref04_Check : FuncId := 27
abbrev f_pack_New : FuncId := 28
abbrev f_pack_Packer_Byte : FuncId := 29
abbrev f_pack_Packer_Int : FuncId := 30
abbrev f_msg_counts : FuncId := 31
abbrev f_msg_bears : FuncId := 32
abbrev f_pack_Packer_Fixed : FuncId := 33
abbrev f_pack_Packer_Bytes : FuncId := 34
abbrev f_pack_Packer_Out : FuncId := 35
abbrev f_ref04_bears : FuncId := 36
abbrev f_ref04_four : FuncId := 37
abbrev f_pack_Read : FuncId := 38
abbrev f_pack_Unpacker_Byte : FuncId := 39
abbrev f_pack_Unpacker_Int : FuncId := 40
abbrev f_msg_read : FuncId := 41
abbrev f_pack_Unpacker_End : FuncId := 42
abbrev f_ref04_num : FuncId := 43
abbrev f_msg_Check_1 : FuncId := 44
abbrev f_msg_fits : FuncId := 45
abbrev f_slices_ContainsFunc_byte_byte : FuncId := 46
abbrev f_slices_Equal_api_ID_api_ID : FuncId := 47
abbrev f_slices_EqualFunc_byte_byte_byte_byte : FuncId := 48
abbrev f_slices_Clone_api_ID_api_ID : FuncId := 49
abbrev f_pack_Packer_put : FuncId := 50
abbrev f_pack_number : FuncId := 51
abbrev f_pack_Packer_Err : FuncId := 52
abbrev f_pack_value : FuncId := 53
abbrev f_pack_Unpacker_take : FuncId := 54
abbrev f_msg_take : FuncId := 55
abbrev f_pack_Unpacker_Bytes : FuncId := 56
abbrev f_pack_Unpacker_Err : FuncId := 57
abbrev f_slices_IndexFunc_byte_byte : FuncId := 58
abbrev f_pack_Packer_works : FuncId := 59
abbrev f_pack_kept_fails : FuncId := 60
abbrev f_pack_Unpacker_works : FuncId := 61
abbrev f_pack_Unpacker_Fixed : FuncId := 62
abbrev f_pack_Unpacker_counted : FuncId := 63
abbrev f_runtime_boundsError_Error : FuncId := 64
abbrev f_runtime_boundsError_RuntimeError : FuncId := 65
abbrev f_runtime_errorString_Error : FuncId := 66
abbrev f_runtime_errorString_RuntimeError : FuncId := 67
abbrev f_runtime_plainError_Error : FuncId := 68
abbrev f_runtime_plainError_RuntimeError : FuncId := 69
abbrev f_runtime_errorAddressString_Error : FuncId := 70
abbrev f_runtime_errorAddressString_RuntimeError : FuncId := 71
abbrev f_runtime_TypeAssertionError_Error : FuncId := 72
abbrev f_runtime_TypeAssertionError_RuntimeError : FuncId := 73
abbrev f_runtime_PanicNilError_Error : FuncId := 74
abbrev f_runtime_PanicNilError_RuntimeError : FuncId := 75
abbrev f_internal_abi_Type_Align : FuncId := 76
abbrev f_internal_runtime_maps_unhashableTypeError_Error : FuncId := 77
abbrev f_internal_runtime_maps_unhashableTypeError_RuntimeError : FuncId := 78
abbrev f_api_Errno_Error : FuncId := 79
abbrev f_msg_names_shape : FuncId := 80
abbrev f_msg_blocks_shape : FuncId := 81
abbrev f_msg_nothing_shape : FuncId := 82
abbrev f_msg_some_shape : FuncId := 83
abbrev f_internal_abi_Kind_String : FuncId := 84
abbrev T_ : TypeId := 0
abbrev T_func : TypeId := 1
abbrev T_int64 : TypeId := 2
abbrev T_int : TypeId := 3
abbrev T_bool : TypeId := 4
abbrev T_uint8 : TypeId := 5
abbrev T_internal_abi_BoundsErrorCode : TypeId := 6
abbrev T_struct_x_int64_y_int_signed_bool_code_abi_BoundsErrorCode : TypeId := 7
abbrev T_runtime_boundsError : TypeId := 8
abbrev T_string : TypeId := 9
abbrev T_runtime_errorString : TypeId := 10
abbrev T_runtime_plainError : TypeId := 11
abbrev T_uintptr : TypeId := 12
abbrev T_struct_msg_string_addr_uintptr : TypeId := 13
abbrev T_runtime_errorAddressString : TypeId := 14
abbrev T_p_runtime_TypeAssertionError : TypeId := 15
abbrev T_p_runtime_PanicNilError : TypeId := 16
abbrev T_p_abi_Type : TypeId := 17
abbrev T_struct_typ_p_abi_Type : TypeId := 18
abbrev T_internal_runtime_maps_unhashableTypeError : TypeId := 19
abbrev T_interface : TypeId := 20
abbrev T_int32 : TypeId := 21
abbrev T_sl_api_ID : TypeId := 22
abbrev T_sl_sl_uint8 : TypeId := 23
abbrev T_struct_Kind_int_Req_int64_IDs_sl_api_ID_Blocks_sl_sl_uint8 : TypeId := 24
abbrev T_api_Msg : TypeId := 25
abbrev T_func_bool : TypeId := 26
abbrev T_func_api_Msg_bool : TypeId := 27
abbrev T_sl_uint8 : TypeId := 28
abbrev T_api_Errno : TypeId := 29
abbrev T_sl_uint8_api_Errno : TypeId := 30
abbrev T_func_api_Msg_sl_uint8_api_Errno : TypeId := 31
abbrev T_func_sl_uint8_sl_uint8_bool : TypeId := 32
abbrev T_func_sl_uint8_sl_uint8 : TypeId := 33
abbrev T_api_Msg_api_Errno : TypeId := 34
abbrev T_func_sl_uint8_api_Msg_api_Errno : TypeId := 35
abbrev T_func_api_Msg_api_Msg_bool : TypeId := 36
abbrev T_func_sl_uint8_bool : TypeId := 37
abbrev T_func_int_int : TypeId := 38
abbrev T_func_int_string : TypeId := 39
abbrev T_func_int_bool : TypeId := 40
abbrev T_func_api_Msg_api_Errno : TypeId := 41
abbrev T_func_api_Msg_int : TypeId := 42
abbrev T_func_api_Msg_sl_uint8_bool : TypeId := 43
abbrev T_uint16 : TypeId := 44
abbrev T_func_api_Msg_api_Msg_sl_uint8_uint16_bool : TypeId := 45
abbrev T_func_api_Msg_api_Msg : TypeId := 46
abbrev T_a32_uint8 : TypeId := 47
abbrev T_api_ID : TypeId := 48
abbrev T_p_pack_Packer : TypeId := 49
abbrev T_func_int_p_pack_Packer : TypeId := 50
abbrev T_func_uint8 : TypeId := 51
abbrev T_func_uint32 : TypeId := 52
abbrev T_uint32 : TypeId := 53
abbrev T_func_msg_body_bool : TypeId := 54
abbrev T_interface_msg_shape : TypeId := 55
abbrev T_msg_body : TypeId := 56
abbrev T_func_int_msg_body : TypeId := 57
abbrev T_func_uint8_1 : TypeId := 58
abbrev T_func_sl_uint8 : TypeId := 59
abbrev T_func_sl_uint8_api_Errno : TypeId := 60
abbrev T_int_int_int : TypeId := 61
abbrev T_func_int_int_int_int : TypeId := 62
abbrev T_func_sl_uint8_int64_sl_uint8 : TypeId := 63
abbrev T_p_pack_Unpacker : TypeId := 64
abbrev T_func_sl_uint8_p_pack_Unpacker : TypeId := 65
abbrev T_func_uint8_2 : TypeId := 66
abbrev T_func_uint32_1 : TypeId := 67
abbrev T_func_p_pack_Unpacker_api_Msg_api_Msg : TypeId := 68
abbrev T_func_api_Errno : TypeId := 69
abbrev T_func_sl_uint8_int_int : TypeId := 70
abbrev T_a12_string : TypeId := 71
abbrev T_func_api_Msg_msg_body_bool : TypeId := 72
abbrev T_func_sl_sl_uint8_func_sl_uint8_bool_bool : TypeId := 73
abbrev T_func_sl_api_ID_sl_api_ID_bool : TypeId := 74
abbrev T_func_sl_sl_uint8_sl_sl_uint8_func_sl_uint8_sl_uint8_bool_boo : TypeId := 75
abbrev T_func_sl_api_ID_sl_api_ID : TypeId := 76
abbrev T_struct_made_bool_b_sl_uint8_err_api_Errno : TypeId := 77
abbrev T_pack_kept : TypeId := 78
abbrev T_struct_pack_kept_limit_int : TypeId := 79
abbrev T_pack_Packer : TypeId := 80
abbrev T_func_sl_uint8_sl_uint8_1 : TypeId := 81
abbrev T_func_int_uint64_sl_uint8 : TypeId := 82
abbrev T_uint64 : TypeId := 83
abbrev T_struct : TypeId := 84
abbrev T_msg_names : TypeId := 85
abbrev T_msg_names_bool : TypeId := 86
abbrev T_struct_one_bool : TypeId := 87
abbrev T_msg_blocks : TypeId := 88
abbrev T_msg_blocks_bool : TypeId := 89
abbrev T_msg_nothing : TypeId := 90
abbrev T_struct_n_int : TypeId := 91
abbrev T_msg_some : TypeId := 92
abbrev T_uint : TypeId := 93
abbrev T_struct_pack_kept : TypeId := 94
abbrev T_pack_Unpacker : TypeId := 95
abbrev T_func_sl_uint8_uint64 : TypeId := 96
abbrev T_func_int_sl_uint8 : TypeId := 97
abbrev T_func_p_pack_Unpacker_int_sl_api_ID : TypeId := 98
abbrev T_msg_some_bool : TypeId := 99
abbrev T_func_sl_sl_uint8_func_sl_uint8_bool_int : TypeId := 100
abbrev T_func_api_Errno_1 : TypeId := 101
abbrev T_func_int_int_sl_uint8 : TypeId := 102
abbrev T_p_pack_kept : TypeId := 103
abbrev T_func_string : TypeId := 104
abbrev T_struct_interface_p_abi_Type_concrete_p_abi_Type_asserted_p_a : TypeId := 105
abbrev T_runtime_TypeAssertionError : TypeId := 106
abbrev T_a0_p_runtime_PanicNilError : TypeId := 107
abbrev T_struct_a0_p_runtime_PanicNilError : TypeId := 108
abbrev T_runtime_PanicNilError : TypeId := 109
abbrev T_func_int : TypeId := 110
abbrev T_internal_abi_TFlag : TypeId := 111
abbrev T_internal_abi_Kind : TypeId := 112
abbrev T_func_unsafe_Pointer_unsafe_Pointer_bool : TypeId := 113
abbrev T_p_uint8 : TypeId := 114
abbrev T_internal_abi_NameOff : TypeId := 115
abbrev T_internal_abi_TypeOff : TypeId := 116
abbrev T_struct_Size_uintptr_PtrBytes_uintptr_Hash_uint32_TFlag_abi_T : TypeId := 117
abbrev T_internal_abi_Type : TypeId := 118
abbrev T_unsafe_Pointer : TypeId := 119
/-- flurry/flurrylaw04.MsgWrites -/
def A_law04_MsgWrites : An := (An.s (An.r []) (An.s (An.s (An.r [[12]]) (An.s (An.s (An.r []) An.o) An.o)) (An.s (An.r []) (An.s (An.r []) (An.s (An.r [[31]]) An.o)))))
def c_law04_MsgWrites (t0 : Value) (w : World) (R : Value → World → Prop) : Prop :=
  bx T_api_Msg t0 w fun t1 w =>
  cal P f_law04_begun [] w fun t7 w =>
  notB t7 fun t8 =>
  jn1 (fun k0 =>
  gif t8 false
  (ldN 4 t1 w.heap fun t10 =>
  cal P f_law04_few [t10] w fun t11 w =>
  notB t11 fun t12 =>
  k0 t12 w)
  (k0 undef w)) fun _ t12_1 w =>
  pik t8 (Value.bool true) t12_1 fun t13 =>
  cnd t13
  (cal P f_law04_begun [] w fun t14 w =>
  R t14 w)
  (ldN 4 t1 w.heap fun t16 =>
  cal P f_msg_Bytes [t16] w fun t17 w =>
  ext 0 t17 fun t18 =>
  ext 1 t17 fun t19 =>
  ldN 4 t1 w.heap fun t21 =>
  cal P f_ref04_Bytes [t21] w fun t22 w =>
  ext 0 t22 fun t23 =>
  ext 1 t22 fun t24 =>
  cal P f_bytes_Equal [t18, t23] w fun t27 w =>
  jn1 (fun k1 =>
  gif t27 true
  (bi BinOp.eql t19 t24 fun t31 =>
  k1 t31 w)
  (k1 undef w)) fun _ t31_1 w =>
  pik t27 t31_1 (Value.bool false) fun t32 =>
  R t32 w)
theorem e_law04_MsgWrites (t0 : Value) (w : World) (R : Value → World → Prop) : intp P A_law04_MsgWrites (bodyOf Try.f3) (ini [t0]) w (retK P Try.f3.results.toList R) (fun _ _ _ => False) (retK P Try.f3.results.toList R) = c_law04_MsgWrites t0 w R := by kernel_rfl
theorem k_law04_MsgWrites : chk P Try.f3.ntmps A_law04_MsgWrites (bodyOf Try.f3) = true := by kernel_rfl
theorem l_law04_MsgWrites {t0 : Value} {w : World} {R : Value → World → Prop} (h : c_law04_MsgWrites t0 w R) : cal P f_law04_MsgWrites [t0] w R :=
  calls_of mixed Try.func3 rfl (by kernel_rfl) k_law04_MsgWrites (Eq.mpr (e_law04_MsgWrites t0 w R) h)
theorem s_law04_MsgWrites {t0 : Value} {w : World} {Q : Value → World → Prop} (h : ∀ R : Value → World → Prop, (∀ v w', Q v w' → R v w') → c_law04_MsgWrites t0 w R) : cal P f_law04_MsgWrites [t0] w Q := l_law04_MsgWrites (h Q fun _ _ h => h)

/-- flurry/flurrylaw04.MsgReads -/
def A_law04_MsgReads : An := (An.s (An.r []) (An.s (An.s (An.r [[14]]) (An.s (An.s (An.r []) An.o) An.o)) (An.s (An.r []) (An.s (An.r []) (An.s (An.s (An.r []) (An.b (An.l [26] (An.s (An.r []) (An.s (An.s An.o An.o) (An.s (An.b (An.s (An.r []) (An.r []))) (An.r []))))))) (An.s (An.r []) (An.s (An.r [[47]]) An.o)))))))
def c_law04_MsgReads (t0 : Value) (w : World) (R : Value → World → Prop) : Prop :=
  cal P f_law04_begun [] w fun t9 w =>
  notB t9 fun t10 =>
  jn1 (fun k0 =>
  gif t10 false
  (lenS t0 fun t13 =>
  bi BinOp.gtr t13 (Value.int IntKind.i64 10000) fun t14 =>
  k0 t14 w)
  (k0 undef w)) fun _ t14_1 w =>
  pik t10 (Value.bool true) t14_1 fun t15 =>
  cnd t15
  (cal P f_law04_begun [] w fun t16 w =>
  R t16 w)
  (cal P f_bytes_Clone [t0] w fun t18 w =>
  cal P f_msg_Parse [t18] w fun t21 w =>
  ext 0 t21 fun t22 =>
  ext 1 t21 fun t23 =>
  efP P (Instr.alloc T_api_Msg true (.tuple #[])) w fun t4 w =>
  stN 4 t4 t22 w fun w =>
  lenS t18 fun t25 =>
  lp1 (Value.int IntKind.i64 0) w fun _ t26 w again1 =>
  bi BinOp.lss t26 t25 fun t27 =>
  cnd t27
  (ixs 1 t18 t26 fun t31 =>
  ld1 t31 w.heap fun t32 =>
  bi BinOp.xor t32 (Value.int IntKind.u8 255) fun t33 =>
  ixs 1 t18 t26 fun t34 =>
  st1 t34 t33 w fun w =>
  bi BinOp.add t26 (Value.int IntKind.i64 1) fun t35 =>
  again1 t35 w)
  (cal P f_ref04_Parse [t0] w fun t38 w =>
  ext 0 t38 fun t39 =>
  ext 1 t38 fun t40 =>
  efP P (Instr.alloc T_api_Msg true (.tuple #[])) w fun t7 w =>
  stN 4 t7 t39 w fun w =>
  ldN 4 t4 w.heap fun t41 =>
  ldN 4 t7 w.heap fun t42 =>
  cal P f_ref04_Same [t41, t42] w fun t43 w =>
  jn1 (fun k2 =>
  gif t43 true
  (bi BinOp.eql t23 t40 fun t47 =>
  k2 t47 w)
  (k2 undef w)) fun _ t47_1 w =>
  pik t43 t47_1 (Value.bool false) fun t48 =>
  R t48 w))
theorem e_law04_MsgReads (t0 : Value) (w : World) (R : Value → World → Prop) : intp P A_law04_MsgReads (bodyOf Try.f4) (ini [t0]) w (retK P Try.f4.results.toList R) (fun _ _ _ => False) (retK P Try.f4.results.toList R) = c_law04_MsgReads t0 w R := by kernel_rfl
theorem k_law04_MsgReads : chk P Try.f4.ntmps A_law04_MsgReads (bodyOf Try.f4) = true := by kernel_rfl
theorem l_law04_MsgReads {t0 : Value} {w : World} {R : Value → World → Prop} (h : c_law04_MsgReads t0 w R) : cal P f_law04_MsgReads [t0] w R :=
  calls_of mixed Try.func4 rfl (by kernel_rfl) k_law04_MsgReads (Eq.mpr (e_law04_MsgReads t0 w R) h)
theorem s_law04_MsgReads {t0 : Value} {w : World} {Q : Value → World → Prop} (h : ∀ R : Value → World → Prop, (∀ v w', Q v w' → R v w') → c_law04_MsgReads t0 w R) : cal P f_law04_MsgReads [t0] w Q := l_law04_MsgReads (h Q fun _ _ h => h)

/-- flurry/flurrylaw04.MsgKinds -/
def A_law04_MsgKinds : An := (An.s (An.r []) (An.s (An.r [[9], [16]]) An.o))
def c_law04_MsgKinds (t0 : Value) (w : World) (R : Value → World → Prop) : Prop :=
  cal P f_law04_begun [] w fun t3 w =>
  jn1 (fun k0 =>
  gif t3 true
  (cal P f_msg_Reply [t0] w fun t6 w =>
  cal P f_ref04_Reply [t0] w fun t8 w =>
  bi BinOp.eql t6 t8 fun t9 =>
  k0 t9 w)
  (k0 undef w)) fun _ t9_1 w =>
  pik t3 t9_1 (Value.bool false) fun t10 =>
  jn1 (fun k1 =>
  gif t10 true
  (cal P f_msg_Name [t0] w fun t13 w =>
  cal P f_ref04_Name [t0] w fun t15 w =>
  rdP P (eqS BinOp.eql T_string (Operand.tmp 13) (Operand.tmp 15) t13 t15) w fun t16 =>
  k1 t16 w)
  (k1 undef w)) fun _ t16_1 w =>
  pik t10 t16_1 (Value.bool false) fun t17 =>
  R t17 w
theorem e_law04_MsgKinds (t0 : Value) (w : World) (R : Value → World → Prop) : intp P A_law04_MsgKinds (bodyOf Try.f5) (ini [t0]) w (retK P Try.f5.results.toList R) (fun _ _ _ => False) (retK P Try.f5.results.toList R) = c_law04_MsgKinds t0 w R := by kernel_rfl
theorem k_law04_MsgKinds : chk P Try.f5.ntmps A_law04_MsgKinds (bodyOf Try.f5) = true := by kernel_rfl
theorem l_law04_MsgKinds {t0 : Value} {w : World} {R : Value → World → Prop} (h : c_law04_MsgKinds t0 w R) : cal P f_law04_MsgKinds [t0] w R :=
  calls_of mixed Try.func5 rfl (by kernel_rfl) k_law04_MsgKinds (Eq.mpr (e_law04_MsgKinds t0 w R) h)
theorem s_law04_MsgKinds {t0 : Value} {w : World} {Q : Value → World → Prop} (h : ∀ R : Value → World → Prop, (∀ v w', Q v w' → R v w') → c_law04_MsgKinds t0 w R) : cal P f_law04_MsgKinds [t0] w Q := l_law04_MsgKinds (h Q fun _ _ h => h)

/-- flurry/flurrylaw04.MsgBack -/
def A_law04_MsgBack : An := (An.s (An.r []) (An.s (An.s (An.r [[15], [20]]) (An.s (An.s (An.r []) An.o) An.o)) (An.s (An.r []) (An.s (An.s (An.r [[37], [44]]) (An.s (An.s (An.r []) An.o) An.o)) (An.s (An.j [] (An.s (An.r []) (An.s (An.s (An.r []) (An.s (An.r [[59]]) (An.s (An.s (An.r []) An.o) An.o))) An.o))) (An.s (An.r []) (An.s (An.s (An.r []) (An.s (An.s (An.r [[73]]) An.o) An.o)) (An.s (An.r []) (An.s (An.r [[85]]) An.o)))))))))
def c_law04_MsgBack (t0 t1 : Value) (w : World) (R : Value → World → Prop) : Prop :=
  bx T_api_Msg t0 w fun t2 w =>
  cal P f_law04_begun [] w fun t10 w =>
  notB t10 fun t11 =>
  jn1 (fun k0 =>
  gif t11 false
  (ldN 4 t2 w.heap fun t13 =>
  cal P f_law04_few [t13] w fun t14 w =>
  notB t14 fun t15 =>
  k0 t15 w)
  (k0 undef w)) fun _ t15_1 w =>
  pik t11 (Value.bool true) t15_1 fun t16 =>
  jn1 (fun k1 =>
  gif t16 false
  (lenS t1 fun t19 =>
  bi BinOp.gtr t19 (Value.int IntKind.i64 10000) fun t20 =>
  k1 t20 w)
  (k1 undef w)) fun _ t20_1 w =>
  pik t16 (Value.bool true) t20_1 fun t21 =>
  cnd t21
  (cal P f_law04_begun [] w fun t22 w =>
  R t22 w)
  (ldN 4 t2 w.heap fun t24 =>
  cal P f_msg_Bytes [t24] w fun t25 w =>
  ext 0 t25 fun t26 =>
  ext 1 t25 fun t27 =>
  bi BinOp.eql t27 (Value.int IntKind.i64 0) fun t29 =>
  ldN 4 t2 w.heap fun t30 =>
  cal P f_msg_Check [t30] w fun t31 w =>
  bi BinOp.eql t31 (Value.int IntKind.i64 0) fun t32 =>
  rdP P (eqS BinOp.neq T_bool (Operand.tmp 29) (Operand.tmp 32) t29 t32) w fun t33 =>
  jn1 (fun k2 =>
  gif t33 false
  (lenS t26 fun t36 =>
  bi BinOp.gtr t36 (Value.int IntKind.i64 4009) fun t37 =>
  k2 t37 w)
  (k2 undef w)) fun _ t37_1 w =>
  pik t33 (Value.bool true) t37_1 fun t38 =>
  jn1 (fun k3 =>
  gif t38 false
  (lenS t26 fun t41 =>
  ldN 4 t2 w.heap fun t42 =>
  cal P f_msg_Size [t42] w fun t43 w =>
  bi BinOp.neq t41 t43 fun t44 =>
  k3 t44 w)
  (k3 undef w)) fun _ t44_1 w =>
  pik t38 (Value.bool true) t44_1 fun t45 =>
  cnd t45
  (R (Value.bool false) w)
  (jn0 (fun k4 =>
  bi BinOp.eql t27 (Value.int IntKind.i64 0) fun t47 =>
  cnd t47
  (cal P f_msg_Parse [t26] w fun t50 w =>
  ext 0 t50 fun t51 =>
  ext 1 t50 fun t52 =>
  efP P (Instr.alloc T_api_Msg true (.tuple #[])) w fun t7 w =>
  stN 4 t7 t51 w fun w =>
  bi BinOp.neq t52 (Value.int IntKind.i64 0) fun t54 =>
  jn1 (fun k5 =>
  gif t54 false
  (ldN 4 t7 w.heap fun t56 =>
  ldN 4 t2 w.heap fun t57 =>
  cal P f_msg_Same [t56, t57] w fun t58 w =>
  notB t58 fun t59 =>
  k5 t59 w)
  (k5 undef w)) fun _ t59_1 w =>
  pik t54 (Value.bool true) t59_1 fun t60 =>
  cnd t60
  (R (Value.bool false) w)
  (k4 w))
  (k4 w)) fun _ w =>
  cal P f_msg_Parse [t1] w fun t63 w =>
  ext 0 t63 fun t64 =>
  ext 1 t63 fun t65 =>
  efP P (Instr.alloc T_api_Msg true (.tuple #[])) w fun t9 w =>
  stN 4 t9 t64 w fun w =>
  bi BinOp.neq t65 (Value.int IntKind.i64 0) fun t67 =>
  cnd t67
  (bi BinOp.eql t65 (Value.int IntKind.i64 40) fun t69 =>
  jn1 (fun k6 =>
  gif t69 true
  (ldN 4 t9 w.heap fun t71 =>
  rdP P (Instr.build T_api_Msg #[]) w fun t72 =>
  cal P f_msg_Same [t71, t72] w fun t73 w =>
  k6 t73 w)
  (k6 undef w)) fun _ t73_1 w =>
  pik t69 t73_1 (Value.bool false) fun t74 =>
  R t74 w)
  (ldN 4 t9 w.heap fun t76 =>
  cal P f_msg_Bytes [t76] w fun t77 w =>
  ext 0 t77 fun t78 =>
  ext 1 t77 fun t79 =>
  bi BinOp.eql t79 (Value.int IntKind.i64 0) fun t81 =>
  jn1 (fun k7 =>
  gif t81 true
  (cal P f_bytes_Equal [t78, t1] w fun t85 w =>
  k7 t85 w)
  (k7 undef w)) fun _ t85_1 w =>
  pik t81 t85_1 (Value.bool false) fun t86 =>
  R t86 w)))
theorem e_law04_MsgBack (t0 t1 : Value) (w : World) (R : Value → World → Prop) : intp P A_law04_MsgBack (bodyOf Try.f6) (ini [t0, t1]) w (retK P Try.f6.results.toList R) (fun _ _ _ => False) (retK P Try.f6.results.toList R) = c_law04_MsgBack t0 t1 w R := by kernel_rfl
theorem k_law04_MsgBack : chk P Try.f6.ntmps A_law04_MsgBack (bodyOf Try.f6) = true := by kernel_rfl
theorem l_law04_MsgBack {t0 t1 : Value} {w : World} {R : Value → World → Prop} (h : c_law04_MsgBack t0 t1 w R) : cal P f_law04_MsgBack [t0, t1] w R :=
  calls_of mixed Try.func6 rfl (by kernel_rfl) k_law04_MsgBack (Eq.mpr (e_law04_MsgBack t0 t1 w R) h)
theorem s_law04_MsgBack {t0 t1 : Value} {w : World} {Q : Value → World → Prop} (h : ∀ R : Value → World → Prop, (∀ v w', Q v w' → R v w') → c_law04_MsgBack t0 t1 w R) : cal P f_law04_MsgBack [t0, t1] w Q := l_law04_MsgBack (h Q fun _ _ h => h)

/-- flurry/flurrylaw04.MsgApart -/
def A_law04_MsgApart : An := (An.s (An.r []) (An.s (An.s (An.r [[18], [23], [28]]) (An.s (An.s (An.r []) An.o) An.o)) (An.s (An.r []) (An.s (An.r []) (An.s (An.s (An.r [[45]]) (An.s (An.s (An.r []) An.o) An.o)) (An.s (An.s (An.dc [0, 1, 3, 4, 2, 5, 6] [5] []) (An.s (An.s (An.r []) An.o) An.o)) (An.s (An.r []) (An.s (An.r []) (An.s (An.r [[81]]) An.o)))))))))
def c_law04_MsgApart (t0 t1 t2 t3 : Value) (w : World) (R : Value → World → Prop) : Prop :=
  bx T_api_Msg t0 w fun t4 w =>
  bx T_api_Msg t1 w fun t5 w =>
  cal P f_law04_begun [] w fun t13 w =>
  notB t13 fun t14 =>
  jn1 (fun k0 =>
  gif t14 false
  (ldN 4 t4 w.heap fun t16 =>
  cal P f_law04_few [t16] w fun t17 w =>
  notB t17 fun t18 =>
  k0 t18 w)
  (k0 undef w)) fun _ t18_1 w =>
  pik t14 (Value.bool true) t18_1 fun t19 =>
  jn1 (fun k1 =>
  gif t19 false
  (ldN 4 t5 w.heap fun t21 =>
  cal P f_law04_few [t21] w fun t22 w =>
  notB t22 fun t23 =>
  k1 t23 w)
  (k1 undef w)) fun _ t23_1 w =>
  pik t19 (Value.bool true) t23_1 fun t24 =>
  jn1 (fun k2 =>
  gif t24 false
  (lenS t2 fun t27 =>
  bi BinOp.gtr t27 (Value.int IntKind.i64 1000) fun t28 =>
  k2 t28 w)
  (k2 undef w)) fun _ t28_1 w =>
  pik t24 (Value.bool true) t28_1 fun t29 =>
  cnd t29
  (cal P f_law04_begun [] w fun t30 w =>
  R t30 w)
  (ldN 4 t4 w.heap fun t32 =>
  cal P f_msg_Bytes [t32] w fun t33 w =>
  ext 0 t33 fun t34 =>
  ext 1 t33 fun t35 =>
  ldN 4 t5 w.heap fun t37 =>
  cal P f_msg_Bytes [t37] w fun t38 w =>
  ext 0 t38 fun t39 =>
  ext 1 t38 fun t40 =>
  bi BinOp.neq t35 (Value.int IntKind.i64 0) fun t42 =>
  jn1 (fun k3 =>
  gif t42 false
  (bi BinOp.neq t40 (Value.int IntKind.i64 0) fun t45 =>
  k3 t45 w)
  (k3 undef w)) fun _ t45_1 w =>
  pik t42 (Value.bool true) t45_1 fun t46 =>
  cnd t46
  (R (Value.bool true) w)
  (drH w fun S w =>
  rdS S (fun w => ldN 4 t4 w.heap) fun t50 =>
  rdS S (fun w => ldN 4 t5 w.heap) fun t51 =>
  efS S (cal P f_bytes_Equal [t34, t39]) w fun t49 w =>
  efC (cal P f_msg_Same [t50, t51]) w fun S t52 w =>
  rdS S (rdP P (eqS BinOp.neq T_bool (Operand.tmp 49) (Operand.tmp 52) t49 t52)) fun t53 =>
  cnd t53
  (R (Value.bool false) w)
  (cal P f_bytes_Clone [t34] w fun t56 w =>
  efP P (Builtin.append_ #[T_sl_uint8, T_sl_uint8] T_sl_uint8 #[t56, t2]) w fun t58 w =>
  cal P f_msg_Parse [t58] w fun t59 w =>
  ext 0 t59 fun t60 =>
  ext 1 t59 fun t61 =>
  cvi IntKind.i64 t3 fun t65 =>
  lenS t34 fun t67 =>
  bi BinOp.rem t65 t67 fun t68 =>
  slc 1 t34 none (some t68) fun t69 =>
  cal P f_msg_Parse [t69] w fun t70 w =>
  ext 0 t70 fun t71 =>
  ext 1 t70 fun t72 =>
  bi BinOp.eql t61 (Value.int IntKind.i64 0) fun t74 =>
  lenS t2 fun t76 =>
  bi BinOp.eql t76 (Value.int IntKind.i64 0) fun t77 =>
  rdP P (eqS BinOp.eql T_bool (Operand.tmp 74) (Operand.tmp 77) t74 t77) w fun t78 =>
  jn1 (fun k4 =>
  gif t78 true
  (bi BinOp.eql t72 (Value.int IntKind.i64 40) fun t81 =>
  k4 t81 w)
  (k4 undef w)) fun _ t81_1 w =>
  pik t78 t81_1 (Value.bool false) fun t82 =>
  R t82 w)))
theorem e_law04_MsgApart (t0 t1 t2 t3 : Value) (w : World) (R : Value → World → Prop) : intp P A_law04_MsgApart (bodyOf Try.f7) (ini [t0, t1, t2, t3]) w (retK P Try.f7.results.toList R) (fun _ _ _ => False) (retK P Try.f7.results.toList R) = c_law04_MsgApart t0 t1 t2 t3 w R := by kernel_rfl
theorem k_law04_MsgApart : chk P Try.f7.ntmps A_law04_MsgApart (bodyOf Try.f7) = true := by kernel_rfl
theorem l_law04_MsgApart {t0 t1 t2 t3 : Value} {w : World} {R : Value → World → Prop} (h : c_law04_MsgApart t0 t1 t2 t3 w R) : cal P f_law04_MsgApart [t0, t1, t2, t3] w R :=
  calls_of mixed Try.func7 rfl (by kernel_rfl) k_law04_MsgApart (Eq.mpr (e_law04_MsgApart t0 t1 t2 t3 w R) h)
theorem s_law04_MsgApart {t0 t1 t2 t3 : Value} {w : World} {Q : Value → World → Prop} (h : ∀ R : Value → World → Prop, (∀ v w', Q v w' → R v w') → c_law04_MsgApart t0 t1 t2 t3 w R) : cal P f_law04_MsgApart [t0, t1, t2, t3] w Q := l_law04_MsgApart (h Q fun _ _ h => h)

/-- flurry/flurrylaw04.MsgChecks -/
def A_law04_MsgChecks : An := (An.s (An.r []) (An.s (An.s (An.r [[18], [23]]) (An.s (An.s (An.r []) An.o) An.o)) (An.s (An.r []) (An.s (An.r []) (An.s (An.r []) (An.s (An.s (An.dc [0, 2, 1, 3, 4, 5, 6, 7, 9, 10, 8, 11, 12, 13, 14, 15, 16, 17, 18, 19, 20, 21, 22, 23, 24, 25, 26, 27, 29, 30, 28, 31, 32] [3] [[47], [53], [59], [66]]) (An.s (An.s (An.r []) An.o) An.o)) (An.s (An.s (An.r []) (An.b (An.l [71] (An.s (An.r []) (An.s (An.s An.o An.o) (An.s (An.b (An.s (An.r []) (An.dc [0, 1, 2, 3, 4, 5, 6, 7, 8, 9] [9] []))) (An.r []))))))) (An.s (An.s (An.r []) (An.b (An.l [87] (An.s (An.r []) (An.s (An.s An.o An.o) (An.s (An.b (An.s (An.r []) (An.s (An.r []) (An.b (An.l [93] (An.s (An.r []) (An.s (An.s An.o An.o) (An.s (An.b (An.s (An.r []) (An.r []))) (An.r []))))))))) (An.r []))))))) (An.s (An.r []) An.o)))))))))
def c_law04_MsgChecks (t0 t1 : Value) (w : World) (R : Value → World → Prop) : Prop :=
  bx T_api_Msg t0 w fun t2 w =>
  bx T_api_Msg t1 w fun t3 w =>
  cal P f_law04_begun [] w fun t13 w =>
  notB t13 fun t14 =>
  jn1 (fun k0 =>
  gif t14 false
  (ldN 4 t2 w.heap fun t16 =>
  cal P f_law04_few [t16] w fun t17 w =>
  notB t17 fun t18 =>
  k0 t18 w)
  (k0 undef w)) fun _ t18_1 w =>
  pik t14 (Value.bool true) t18_1 fun t19 =>
  jn1 (fun k1 =>
  gif t19 false
  (ldN 4 t3 w.heap fun t21 =>
  cal P f_law04_few [t21] w fun t22 w =>
  notB t22 fun t23 =>
  k1 t23 w)
  (k1 undef w)) fun _ t23_1 w =>
  pik t19 (Value.bool true) t23_1 fun t24 =>
  cnd t24
  (cal P f_law04_begun [] w fun t25 w =>
  R t25 w)
  (ldN 4 t2 w.heap fun t26 =>
  cal P f_ref04_Clone [t26] w fun t27 w =>
  efP P (Instr.alloc T_api_Msg true (.tuple #[])) w fun t5 w =>
  stN 4 t5 t27 w fun w =>
  ldN 4 t2 w.heap fun t28 =>
  cal P f_msg_Clone [t28] w fun t29 w =>
  efP P (Instr.alloc T_api_Msg true (.tuple #[])) w fun t6 w =>
  stN 4 t6 t29 w fun w =>
  ldN 4 t2 w.heap fun t31 =>
  cal P f_ref04_Bytes [t31] w fun t32 w =>
  ext 0 t32 fun t33 =>
  ext 1 t32 fun t34 =>
  drH w fun S w =>
  rdS S (fun w => ldN 4 t2 w.heap) fun t35 =>
  rdS S (fun w => ldN 4 t2 w.heap) fun t37 =>
  efS S (cal P f_msg_Check [t35]) w fun t36 w =>
  efC (cal P f_ref04_Check [t37]) w fun S t38 w =>
  bi BinOp.neq t36 t38 fun t39 =>
  jn1 (fun k2 =>
  gif t39 false
  (rdS S (fun w => ldN 4 t2 w.heap) fun t41 =>
  rdS S (fun w => ldN 4 t3 w.heap) fun t42 =>
  rdS S (fun w => ldN 4 t2 w.heap) fun t44 =>
  rdS S (fun w => ldN 4 t3 w.heap) fun t45 =>
  efS S (cal P f_msg_Same [t41, t42]) w fun t43 w =>
  efS S (cal P f_ref04_Same [t44, t45]) w fun t46 w =>
  rdS S (rdP P (eqS BinOp.neq T_bool (Operand.tmp 43) (Operand.tmp 46) t43 t46)) fun t47 =>
  k2 t47 w)
  (k2 undef w)) fun _ t47_1 w =>
  pik t39 (Value.bool true) t47_1 fun t48 =>
  jn1 (fun k3 =>
  gif t48 false
  (rdS S (fun w => ldN 4 t2 w.heap) fun t50 =>
  rdS S (fun w => ldN 4 t2 w.heap) fun t51 =>
  efS S (cal P f_msg_Same [t50, t51]) w fun t52 w =>
  notB t52 fun t53 =>
  k3 t53 w)
  (k3 undef w)) fun _ t53_1 w =>
  pik t48 (Value.bool true) t53_1 fun t54 =>
  jn1 (fun k4 =>
  gif t54 false
  (rdS S (fun w => ldN 4 t6 w.heap) fun t56 =>
  rdS S (fun w => ldN 4 t2 w.heap) fun t57 =>
  efS S (cal P f_ref04_Same [t56, t57]) w fun t58 w =>
  notB t58 fun t59 =>
  k4 t59 w)
  (k4 undef w)) fun _ t59_1 w =>
  pik t54 (Value.bool true) t59_1 fun t60 =>
  jn1 (fun k5 =>
  gif t60 false
  (rdS S (fun w => ldN 4 t2 w.heap) fun t62 =>
  lenS t33 fun t65 =>
  efS S (cal P f_msg_Size [t62]) w fun t63 w =>
  bi BinOp.neq t63 t65 fun t66 =>
  k5 t66 w)
  (k5 undef w)) fun _ t66_1 w =>
  pik t60 (Value.bool true) t66_1 fun t67 =>
  cnd t67
  (R (Value.bool false) w)
  (fad 2 t6 fun t68 =>
  ld1 t68 w.heap fun t69 =>
  lenS t69 fun t70 =>
  lp1 (Value.int IntKind.i64 0) w fun _ t71 w again6 =>
  bi BinOp.lss t71 t70 fun t72 =>
  cnd t72
  (drH w fun S w =>
  fad 2 t6 fun t74 =>
  rdS S (fun w => ld1 t74 w.heap) fun t75 =>
  ixs 32 t75 t71 fun t77 =>
  ixa 32 1 t77 (Value.int IntKind.i64 0) fun t78 =>
  rdS S (fun w => ld1 t78 w.heap) fun t79 =>
  bi BinOp.xor t79 (Value.int IntKind.u8 255) fun t80 =>
  ixs 32 t75 t71 fun t81 =>
  ixa 32 1 t81 (Value.int IntKind.i64 0) fun t82 =>
  efC (fun w K => st1 t82 t80 w (K undef)) w fun S _ w =>
  bi BinOp.add t71 (Value.int IntKind.i64 1) fun t83 =>
  again6 t83 w)
  (fad 3 t6 fun t84 =>
  ld1 t84 w.heap fun t85 =>
  lenS t85 fun t86 =>
  lp1 (Value.int IntKind.i64 0) w fun _ t87 w again7 =>
  bi BinOp.lss t87 t86 fun t88 =>
  cnd t88
  (ixs 1 t85 t87 fun t89 =>
  ld1 t89 w.heap fun t90 =>
  lenS t90 fun t92 =>
  lp1 (Value.int IntKind.i64 0) w fun _ t93 w again8 =>
  bi BinOp.lss t93 t92 fun t94 =>
  cnd t94
  (ixs 1 t90 t93 fun t98 =>
  ld1 t98 w.heap fun t99 =>
  bi BinOp.xor t99 (Value.int IntKind.u8 255) fun t100 =>
  ixs 1 t90 t93 fun t101 =>
  st1 t101 t100 w fun w =>
  bi BinOp.add t93 (Value.int IntKind.i64 1) fun t102 =>
  again8 t102 w)
  (bi BinOp.add t87 (Value.int IntKind.i64 1) fun t103 =>
  again7 t103 w))
  (ldN 4 t2 w.heap fun t104 =>
  ldN 4 t5 w.heap fun t105 =>
  cal P f_ref04_Same [t104, t105] w fun t106 w =>
  R t106 w))))
theorem e_law04_MsgChecks (t0 t1 : Value) (w : World) (R : Value → World → Prop) : intp P A_law04_MsgChecks (bodyOf Try.f8) (ini [t0, t1]) w (retK P Try.f8.results.toList R) (fun _ _ _ => False) (retK P Try.f8.results.toList R) = c_law04_MsgChecks t0 t1 w R := by kernel_rfl
theorem k_law04_MsgChecks : chk P Try.f8.ntmps A_law04_MsgChecks (bodyOf Try.f8) = true := by kernel_rfl
theorem l_law04_MsgChecks {t0 t1 : Value} {w : World} {R : Value → World → Prop} (h : c_law04_MsgChecks t0 t1 w R) : cal P f_law04_MsgChecks [t0, t1] w R :=
  calls_of mixed Try.func8 rfl (by kernel_rfl) k_law04_MsgChecks (Eq.mpr (e_law04_MsgChecks t0 t1 w R) h)
theorem s_law04_MsgChecks {t0 t1 : Value} {w : World} {Q : Value → World → Prop} (h : ∀ R : Value → World → Prop, (∀ v w', Q v w' → R v w') → c_law04_MsgChecks t0 t1 w R) : cal P f_law04_MsgChecks [t0, t1] w Q := l_law04_MsgChecks (h Q fun _ _ h => h)

/-- flurry/flurrylaw04.begun -/
def A_law04_begun : An := (An.s (An.r []) (An.s (An.r []) (An.s (An.r []) (An.s (An.r []) (An.s (An.r [[23], [28], [33]]) An.o)))))
def c_law04_begun (w : World) (R : Value → World → Prop) : Prop :=
  efP P (Instr.buildSlice T_sl_uint8 1 #[(0, (Value.int IntKind.u8 9))]) w fun t6 w =>
  efP P (Instr.buildSlice T_sl_sl_uint8 1 #[(0, t6)]) w fun t7 w =>
  rdP P (Instr.build T_api_Msg #[(0, (Value.int IntKind.i64 8)), (1, (Value.int IntKind.i64 258)), (3, t7)]) w fun t8 =>
  efP P (Instr.alloc T_api_Msg true (.tuple #[])) w fun t1 w =>
  stN 4 t1 t8 w fun w =>
  ldN 4 t1 w.heap fun t10 =>
  cal P f_msg_Bytes [t10] w fun t11 w =>
  ext 0 t11 fun t12 =>
  ext 1 t11 fun t13 =>
  cal P f_msg_Parse [t12] w fun t16 w =>
  ext 0 t16 fun t17 =>
  ext 1 t16 fun t18 =>
  efP P (Instr.alloc T_api_Msg true (.tuple #[])) w fun t4 w =>
  stN 4 t4 t17 w fun w =>
  bi BinOp.eql t13 (Value.int IntKind.i64 0) fun t20 =>
  jn1 (fun k0 =>
  gif t20 true
  (bi BinOp.eql t18 (Value.int IntKind.i64 0) fun t23 =>
  k0 t23 w)
  (k0 undef w)) fun _ t23_1 w =>
  pik t20 t23_1 (Value.bool false) fun t24 =>
  jn1 (fun k1 =>
  gif t24 true
  (efP P (Instr.buildSlice T_sl_uint8 10 #[(0, (Value.int IntKind.u8 8)), (1, (Value.int IntKind.u8 0)), (2, (Value.int IntKind.u8 0)), (3, (Value.int IntKind.u8 1)), (4, (Value.int IntKind.u8 2)), (5, (Value.int IntKind.u8 0)), (6, (Value.int IntKind.u8 0)), (7, (Value.int IntKind.u8 0)), (8, (Value.int IntKind.u8 1)), (9, (Value.int IntKind.u8 9))]) w fun t27 w =>
  cal P f_bytes_Equal [t12, t27] w fun t28 w =>
  k1 t28 w)
  (k1 undef w)) fun _ t28_1 w =>
  pik t24 t28_1 (Value.bool false) fun t29 =>
  jn1 (fun k2 =>
  gif t29 true
  (ldN 4 t4 w.heap fun t31 =>
  ldN 4 t1 w.heap fun t32 =>
  cal P f_ref04_Same [t31, t32] w fun t33 w =>
  k2 t33 w)
  (k2 undef w)) fun _ t33_1 w =>
  pik t29 t33_1 (Value.bool false) fun t34 =>
  R t34 w
theorem e_law04_begun (w : World) (R : Value → World → Prop) : intp P A_law04_begun (bodyOf Try.f9) (ini []) w (retK P Try.f9.results.toList R) (fun _ _ _ => False) (retK P Try.f9.results.toList R) = c_law04_begun  w R := by kernel_rfl
theorem k_law04_begun : chk P Try.f9.ntmps A_law04_begun (bodyOf Try.f9) = true := by kernel_rfl
theorem l_law04_begun {w : World} {R : Value → World → Prop} (h : c_law04_begun w R) : cal P f_law04_begun [] w R :=
  calls_of mixed Try.func9 rfl (by kernel_rfl) k_law04_begun (Eq.mpr (e_law04_begun w R) h)
theorem s_law04_begun {w : World} {Q : Value → World → Prop} (h : ∀ R : Value → World → Prop, (∀ v w', Q v w' → R v w') → c_law04_begun w R) : cal P f_law04_begun [] w Q := l_law04_begun (h Q fun _ _ h => h)

/-- flurry/flurrylaw04.few -/
def A_law04_few : An := (An.s (An.r []) (An.s (An.s (An.r [[13]]) (An.s (An.s (An.r []) An.o) An.o)) (An.s (An.s (An.r []) (An.b (An.l [18] (An.s (An.r []) (An.s (An.s An.o An.o) (An.s (An.b (An.s (An.r []) (An.s (An.r []) (An.s (An.s (An.r []) An.o) An.o)))) (An.r []))))))) (An.s (An.r []) An.o))))
def c_law04_few (t0 : Value) (w : World) (R : Value → World → Prop) : Prop :=
  bx T_api_Msg t0 w fun t1 w =>
  fad 2 t1 fun t5 =>
  ld1 t5 w.heap fun t6 =>
  lenS t6 fun t7 =>
  bi BinOp.gtr t7 (Value.int IntKind.i64 100) fun t8 =>
  jn1 (fun k0 =>
  gif t8 false
  (fad 3 t1 fun t10 =>
  ld1 t10 w.heap fun t11 =>
  lenS t11 fun t12 =>
  bi BinOp.gtr t12 (Value.int IntKind.i64 40) fun t13 =>
  k0 t13 w)
  (k0 undef w)) fun _ t13_1 w =>
  pik t8 (Value.bool true) t13_1 fun t14 =>
  cnd t14
  (R (Value.bool false) w)
  (fad 3 t1 fun t15 =>
  ld1 t15 w.heap fun t16 =>
  lenS t16 fun t17 =>
  lp1 (Value.int IntKind.i64 0) w fun _ t18 w again1 =>
  bi BinOp.lss t18 t17 fun t19 =>
  cnd t19
  (ixs 1 t16 t18 fun t20 =>
  ld1 t20 w.heap fun t21 =>
  lenS t21 fun t23 =>
  bi BinOp.gtr t23 (Value.int IntKind.i64 600) fun t24 =>
  cnd t24
  (R (Value.bool false) w)
  (bi BinOp.add t18 (Value.int IntKind.i64 1) fun t25 =>
  again1 t25 w))
  (R (Value.bool true) w))
theorem e_law04_few (t0 : Value) (w : World) (R : Value → World → Prop) : intp P A_law04_few (bodyOf Try.f10) (ini [t0]) w (retK P Try.f10.results.toList R) (fun _ _ _ => False) (retK P Try.f10.results.toList R) = c_law04_few t0 w R := by kernel_rfl
theorem k_law04_few : chk P Try.f10.ntmps A_law04_few (bodyOf Try.f10) = true := by kernel_rfl
theorem l_law04_few {t0 : Value} {w : World} {R : Value → World → Prop} (h : c_law04_few t0 w R) : cal P f_law04_few [t0] w R :=
  calls_of mixed Try.func10 rfl (by kernel_rfl) k_law04_few (Eq.mpr (e_law04_few t0 w R) h)
theorem s_law04_few {t0 : Value} {w : World} {Q : Value → World → Prop} (h : ∀ R : Value → World → Prop, (∀ v w', Q v w' → R v w') → c_law04_few t0 w R) : cal P f_law04_few [t0] w Q := l_law04_few (h Q fun _ _ h => h)

/-- flurry/msg.Bytes -/
def A_msg_Bytes : An := (An.s (An.r []) (An.s (An.s (An.r []) (An.s (An.r []) (An.s (An.s (An.r []) An.o) An.o))) (An.s (An.r []) (An.s (An.r []) (An.s (An.r []) (An.s (An.j [] (An.s (An.r []) (An.s (An.r []) An.o))) (An.s (An.s (An.r []) (An.b (An.l [43] (An.s (An.r []) (An.s (An.s An.o An.o) (An.s (An.b (An.s (An.r []) (An.r []))) (An.r []))))))) (An.s (An.s (An.r []) (An.b (An.l [54] (An.s (An.r []) (An.s (An.s An.o An.o) (An.s (An.b (An.s (An.r []) (An.r []))) (An.r []))))))) (An.s (An.r []) An.o)))))))))
def c_msg_Bytes (t0 : Value) (w : World) (R : Value → World → Prop) : Prop :=
  bx T_api_Msg t0 w fun t1 w =>
  ldN 4 t1 w.heap fun t10 =>
  cal P f_msg_Check [t10] w fun t11 w =>
  bi BinOp.neq t11 (Value.int IntKind.i64 0) fun t13 =>
  cnd t13
  (R (Value.tuple #[(Value.slice none 0 0), t11]) w)
  (cal P f_pack_New [(Value.int IntKind.i64 4009)] w fun t15 w =>
  fad 0 t1 fun t17 =>
  ld1 t17 w.heap fun t18 =>
  cvi IntKind.u8 t18 fun t19 =>
  cal P f_pack_Packer_Byte [t15, t19] w fun t20 w =>
  fad 1 t1 fun t22 =>
  ld1 t22 w.heap fun t23 =>
  cvi IntKind.u32 t23 fun t24 =>
  cal P f_pack_Packer_Int [t15, t24] w fun t25 w =>
  jn0 (fun k0 =>
  fad 0 t1 fun t26 =>
  ld1 t26 w.heap fun t27 =>
  cal P f_msg_bears [t27] w fun t28 w =>
  cal P f_msg_counts [t28] w fun t29 w =>
  cnd t29
  (fad 2 t1 fun t31 =>
  ld1 t31 w.heap fun t32 =>
  lenS t32 fun t33 =>
  fad 3 t1 fun t34 =>
  ld1 t34 w.heap fun t35 =>
  lenS t35 fun t36 =>
  bi BinOp.add t33 t36 fun t37 =>
  cvi IntKind.u32 t37 fun t38 =>
  cal P f_pack_Packer_Int [t15, t38] w fun t39 w =>
  k0 w)
  (k0 w)) fun _ w =>
  fad 2 t1 fun t40 =>
  ld1 t40 w.heap fun t41 =>
  lenS t41 fun t42 =>
  lp1 (Value.int IntKind.i64 0) w fun _ t43 w again1 =>
  bi BinOp.lss t43 t42 fun t44 =>
  cnd t44
  (ixs 32 t41 t43 fun t45 =>
  ldN 32 t45 w.heap fun t46 =>
  efP P (Instr.alloc T_api_ID true (.tuple #[])) w fun t7 w =>
  stN 32 t7 t46 w fun w =>
  sla 32 1 t7 none none fun t48 =>
  cal P f_pack_Packer_Fixed [t15, t48] w fun t49 w =>
  bi BinOp.add t43 (Value.int IntKind.i64 1) fun t50 =>
  again1 t50 w)
  (fad 3 t1 fun t51 =>
  ld1 t51 w.heap fun t52 =>
  lenS t52 fun t53 =>
  lp1 (Value.int IntKind.i64 0) w fun _ t54 w again2 =>
  bi BinOp.lss t54 t53 fun t55 =>
  cnd t55
  (ixs 1 t52 t54 fun t56 =>
  ld1 t56 w.heap fun t57 =>
  cal P f_pack_Packer_Bytes [t15, t57] w fun t60 w =>
  bi BinOp.add t54 (Value.int IntKind.i64 1) fun t61 =>
  again2 t61 w)
  (cal P f_pack_Packer_Out [t15] w fun t63 w =>
  ext 0 t63 fun t64 =>
  ext 1 t63 fun t65 =>
  R (Value.tuple #[t64, t65]) w)))
theorem e_msg_Bytes (t0 : Value) (w : World) (R : Value → World → Prop) : intp P A_msg_Bytes (bodyOf Try.f11) (ini [t0]) w (retK P Try.f11.results.toList R) (fun _ _ _ => False) (retK P Try.f11.results.toList R) = c_msg_Bytes t0 w R := by kernel_rfl
theorem k_msg_Bytes : chk P Try.f11.ntmps A_msg_Bytes (bodyOf Try.f11) = true := by kernel_rfl
theorem l_msg_Bytes {t0 : Value} {w : World} {R : Value → World → Prop} (h : c_msg_Bytes t0 w R) : cal P f_msg_Bytes [t0] w R :=
  calls_of mixed Try.func11 rfl (by kernel_rfl) k_msg_Bytes (Eq.mpr (e_msg_Bytes t0 w R) h)
theorem s_msg_Bytes {t0 : Value} {w : World} {Q : Value → World → Prop} (h : ∀ R : Value → World → Prop, (∀ v w', Q v w' → R v w') → c_msg_Bytes t0 w R) : cal P f_msg_Bytes [t0] w Q := l_msg_Bytes (h Q fun _ _ h => h)

/-- flurry/flurryref04.Bytes -/
def A_ref04_Bytes : An := (An.s (An.r []) (An.s (An.s (An.r []) (An.s (An.r []) (An.s (An.s (An.r []) An.o) An.o))) (An.s (An.r []) (An.s (An.r []) (An.s (An.j [8] (An.s (An.r [[35]]) (An.s (An.r []) An.o))) (An.s (An.s (An.r []) (An.b (An.l [8, 9] (An.s (An.s (An.r []) (An.s An.o An.o)) (An.s (An.b (An.s (An.r []) (An.b (An.l [8, 10] (An.s (An.s (An.r []) (An.s An.o An.o)) (An.s (An.b (An.r [])) (An.r []))))))) (An.r [])))))) (An.s (An.s (An.r []) (An.b (An.l [8, 11] (An.s (An.s (An.r []) (An.s An.o An.o)) (An.s (An.b (An.dc [0, 1, 2, 3, 4, 5, 6, 8, 9, 10, 11, 12, 7, 13, 14] [13] [])) (An.r [])))))) (An.s (An.r []) An.o))))))))
def c_ref04_Bytes (t0 : Value) (w : World) (R : Value → World → Prop) : Prop :=
  bx T_api_Msg t0 w fun t1 w =>
  ldN 4 t1 w.heap fun t12 =>
  cal P f_ref04_Check [t12] w fun t13 w =>
  bi BinOp.neq t13 (Value.int IntKind.i64 0) fun t15 =>
  cnd t15
  (R (Value.tuple #[(Value.slice none 0 0), t13]) w)
  (fad 0 t1 fun t18 =>
  ld1 t18 w.heap fun t19 =>
  cal P f_ref04_bears [t19] w fun t20 w =>
  ext 0 t20 fun t21 =>
  ext 1 t20 fun t22 =>
  ext 2 t20 fun t23 =>
  fad 0 t1 fun t24 =>
  ld1 t24 w.heap fun t25 =>
  cvi IntKind.u8 t25 fun t26 =>
  efP P (Instr.buildSlice T_sl_uint8 1 #[(0, t26)]) w fun t27 w =>
  fad 1 t1 fun t28 =>
  ld1 t28 w.heap fun t29 =>
  cal P f_ref04_four [t27, t29] w fun t30 w =>
  jn1 (fun k0 =>
  bi BinOp.eql t23 (Value.int IntKind.i64 2) fun t32 =>
  jn1 (fun k1 =>
  gif t32 false
  (bi BinOp.eql t23 (Value.int IntKind.i64 4) fun t35 =>
  k1 t35 w)
  (k1 undef w)) fun _ t35_1 w =>
  pik t32 (Value.bool true) t35_1 fun t36 =>
  cnd t36
  (fad 2 t1 fun t38 =>
  ld1 t38 w.heap fun t39 =>
  lenS t39 fun t40 =>
  fad 3 t1 fun t41 =>
  ld1 t41 w.heap fun t42 =>
  lenS t42 fun t43 =>
  bi BinOp.add t40 t43 fun t44 =>
  cal P f_ref04_four [t30, t44] w fun t45 w =>
  k0 t45 w)
  (k0 t30 w)) fun _ t8 w =>
  lp2 t8 (Value.int IntKind.i64 0) w fun _ t8_1 t9 w again2 =>
  fad 2 t1 fun t47 =>
  ld1 t47 w.heap fun t48 =>
  lenS t48 fun t49 =>
  bi BinOp.lss t9 t49 fun t50 =>
  cnd t50
  (lp2 t8_1 (Value.int IntKind.i64 0) w fun _ t8_2 t10 w again3 =>
  bi BinOp.lss t10 (Value.int IntKind.i64 32) fun t54 =>
  cnd t54
  (fad 2 t1 fun t58 =>
  ld1 t58 w.heap fun t59 =>
  ixs 32 t59 t9 fun t62 =>
  ixa 32 1 t62 t10 fun t63 =>
  ld1 t63 w.heap fun t64 =>
  efP P (Instr.buildSlice T_sl_uint8 1 #[(0, t64)]) w fun t65 w =>
  efP P (Builtin.append_ #[T_sl_uint8, T_sl_uint8] T_sl_uint8 #[t8_2, t65]) w fun t66 w =>
  bi BinOp.add t10 (Value.int IntKind.i64 1) fun t56 =>
  again3 t66 t56 w)
  (bi BinOp.add t9 (Value.int IntKind.i64 1) fun t52 =>
  again2 t8_2 t52 w))
  (lp2 t8_1 (Value.int IntKind.i64 0) w fun _ t8_3 t11 w again4 =>
  fad 3 t1 fun t68 =>
  ld1 t68 w.heap fun t69 =>
  lenS t69 fun t70 =>
  bi BinOp.lss t11 t70 fun t71 =>
  cnd t71
  (drH w fun S w =>
  fad 3 t1 fun t75 =>
  rdS S (fun w => ld1 t75 w.heap) fun t76 =>
  ixs 1 t76 t11 fun t78 =>
  rdS S (fun w => ld1 t78 w.heap) fun t79 =>
  lenS t79 fun t80 =>
  fad 3 t1 fun t82 =>
  rdS S (fun w => ld1 t82 w.heap) fun t83 =>
  ixs 1 t83 t11 fun t85 =>
  rdS S (fun w => ld1 t85 w.heap) fun t86 =>
  efS S (cal P f_ref04_four [t8_3, t80]) w fun t81 w =>
  efC (efP P (Builtin.append_ #[T_sl_uint8, T_sl_uint8] T_sl_uint8 #[t81, t86])) w fun S t87 w =>
  bi BinOp.add t11 (Value.int IntKind.i64 1) fun t73 =>
  again4 t87 t73 w)
  (R (Value.tuple #[t8_3, (Value.int IntKind.i64 0)]) w)))
theorem e_ref04_Bytes (t0 : Value) (w : World) (R : Value → World → Prop) : intp P A_ref04_Bytes (bodyOf Try.f12) (ini [t0]) w (retK P Try.f12.results.toList R) (fun _ _ _ => False) (retK P Try.f12.results.toList R) = c_ref04_Bytes t0 w R := by kernel_rfl
theorem k_ref04_Bytes : chk P Try.f12.ntmps A_ref04_Bytes (bodyOf Try.f12) = true := by kernel_rfl
theorem l_ref04_Bytes {t0 : Value} {w : World} {R : Value → World → Prop} (h : c_ref04_Bytes t0 w R) : cal P f_ref04_Bytes [t0] w R :=
  calls_of mixed Try.func12 rfl (by kernel_rfl) k_ref04_Bytes (Eq.mpr (e_ref04_Bytes t0 w R) h)
theorem s_ref04_Bytes {t0 : Value} {w : World} {Q : Value → World → Prop} (h : ∀ R : Value → World → Prop, (∀ v w', Q v w' → R v w') → c_ref04_Bytes t0 w R) : cal P f_ref04_Bytes [t0] w Q := l_ref04_Bytes (h Q fun _ _ h => h)

/-- bytes.Equal -/
def A_bytes_Equal : An := (An.s (An.r []) (An.s (An.r []) An.o))
def c_bytes_Equal (t0 t1 : Value) (w : World) (R : Value → World → Prop) : Prop :=
  rdP P (convert T_sl_uint8 T_string t0) w fun t6 =>
  rdP P (convert T_sl_uint8 T_string t1) w fun t8 =>
  rdP P (eqS BinOp.eql T_string (Operand.tmp 6) (Operand.tmp 8) t6 t8) w fun t9 =>
  R t9 w
theorem e_bytes_Equal (t0 t1 : Value) (w : World) (R : Value → World → Prop) : intp P A_bytes_Equal (bodyOf Try.f13) (ini [t0, t1]) w (retK P Try.f13.results.toList R) (fun _ _ _ => False) (retK P Try.f13.results.toList R) = c_bytes_Equal t0 t1 w R := by kernel_rfl
theorem k_bytes_Equal : chk P Try.f13.ntmps A_bytes_Equal (bodyOf Try.f13) = true := by kernel_rfl
theorem l_bytes_Equal {t0 t1 : Value} {w : World} {R : Value → World → Prop} (h : c_bytes_Equal t0 t1 w R) : cal P f_bytes_Equal [t0, t1] w R :=
  calls_of mixed Try.func13 rfl (by kernel_rfl) k_bytes_Equal (Eq.mpr (e_bytes_Equal t0 t1 w R) h)
theorem s_bytes_Equal {t0 t1 : Value} {w : World} {Q : Value → World → Prop} (h : ∀ R : Value → World → Prop, (∀ v w', Q v w' → R v w') → c_bytes_Equal t0 t1 w R) : cal P f_bytes_Equal [t0, t1] w Q := l_bytes_Equal (h Q fun _ _ h => h)

/-- bytes.Clone -/
def A_bytes_Clone : An := (An.s (An.r []) (An.s (An.s (An.r []) (An.s (An.s (An.r []) An.o) An.o)) (An.s (An.r []) An.o)))
def c_bytes_Clone (t0 : Value) (w : World) (R : Value → World → Prop) : Prop :=
  nilS false t0 fun t4 =>
  cnd t4
  (R (Value.slice none 0 0) w)
  (efP P (Instr.buildSlice T_sl_uint8 0 #[]) w fun t5 w =>
  efP P (Builtin.append_ #[T_sl_uint8, T_sl_uint8] T_sl_uint8 #[t5, t0]) w fun t7 w =>
  R t7 w)
theorem e_bytes_Clone (t0 : Value) (w : World) (R : Value → World → Prop) : intp P A_bytes_Clone (bodyOf Try.f14) (ini [t0]) w (retK P Try.f14.results.toList R) (fun _ _ _ => False) (retK P Try.f14.results.toList R) = c_bytes_Clone t0 w R := by kernel_rfl
theorem k_bytes_Clone : chk P Try.f14.ntmps A_bytes_Clone (bodyOf Try.f14) = true := by kernel_rfl
theorem l_bytes_Clone {t0 : Value} {w : World} {R : Value → World → Prop} (h : c_bytes_Clone t0 w R) : cal P f_bytes_Clone [t0] w R :=
  calls_of mixed Try.func14 rfl (by kernel_rfl) k_bytes_Clone (Eq.mpr (e_bytes_Clone t0 w R) h)
theorem s_bytes_Clone {t0 : Value} {w : World} {Q : Value → World → Prop} (h : ∀ R : Value → World → Prop, (∀ v w', Q v w' → R v w') → c_bytes_Clone t0 w R) : cal P f_bytes_Clone [t0] w Q := l_bytes_Clone (h Q fun _ _ h => h)

/-- flurry/msg.Parse -/
def A_msg_Parse : An := (An.s (An.r []) (An.s (An.r []) (An.s (An.r []) (An.s (An.r []) (An.s (An.s (An.r [[24]]) (An.s (An.s (An.r []) An.o) An.o)) (An.s (An.r []) An.o))))))
def c_msg_Parse (t0 : Value) (w : World) (R : Value → World → Prop) : Prop :=
  efP P (Instr.alloc T_api_Msg true (.tuple #[])) w fun t2 w =>
  cal P f_pack_Read [t0] w fun t7 w =>
  cal P f_pack_Unpacker_Byte [t7] w fun t9 w =>
  cvi IntKind.i64 t9 fun t10 =>
  cal P f_pack_Unpacker_Int [t7] w fun t12 w =>
  cvi IntKind.i64 t12 fun t13 =>
  rdP P (Instr.build T_api_Msg #[(0, t10), (1, t13)]) w fun t14 =>
  efP P (Instr.alloc T_api_Msg true (.tuple #[])) w fun t5 w =>
  stN 4 t5 t14 w fun w =>
  ldN 4 t5 w.heap fun t16 =>
  cal P f_msg_read [t7, t16] w fun t17 w =>
  stN 4 t5 t17 w fun w =>
  cal P f_pack_Unpacker_End [t7] w fun t19 w =>
  bi BinOp.neq t19 (Value.int IntKind.i64 0) fun t20 =>
  jn1 (fun k0 =>
  gif t20 false
  (ldN 4 t5 w.heap fun t22 =>
  cal P f_msg_Check [t22] w fun t23 w =>
  bi BinOp.neq t23 (Value.int IntKind.i64 0) fun t24 =>
  k0 t24 w)
  (k0 undef w)) fun _ t24_1 w =>
  pik t20 (Value.bool true) t24_1 fun t25 =>
  cnd t25
  (rdP P (Instr.build T_api_Msg #[]) w fun t26 =>
  stN 4 t2 t26 w fun w =>
  ldN 4 t2 w.heap fun r1 =>
  R (Value.tuple #[r1, (Value.int IntKind.i64 40)]) w)
  (ldN 4 t5 w.heap fun t27 =>
  stN 4 t2 t27 w fun w =>
  ldN 4 t2 w.heap fun r2 =>
  R (Value.tuple #[r2, (Value.int IntKind.i64 0)]) w)
theorem e_msg_Parse (t0 : Value) (w : World) (R : Value → World → Prop) : intp P A_msg_Parse (bodyOf Try.f15) (ini [t0]) w (retK P Try.f15.results.toList R) (fun _ _ _ => False) (retK P Try.f15.results.toList R) = c_msg_Parse t0 w R := by kernel_rfl
theorem k_msg_Parse : chk P Try.f15.ntmps A_msg_Parse (bodyOf Try.f15) = true := by kernel_rfl
theorem l_msg_Parse {t0 : Value} {w : World} {R : Value → World → Prop} (h : c_msg_Parse t0 w R) : cal P f_msg_Parse [t0] w R :=
  calls_of mixed Try.func15 rfl (by kernel_rfl) k_msg_Parse (Eq.mpr (e_msg_Parse t0 w R) h)
theorem s_msg_Parse {t0 : Value} {w : World} {Q : Value → World → Prop} (h : ∀ R : Value → World → Prop, (∀ v w', Q v w' → R v w') → c_msg_Parse t0 w R) : cal P f_msg_Parse [t0] w Q := l_msg_Parse (h Q fun _ _ h => h)

/-- flurry/flurryref04.Parse -/
def A_ref04_Parse : An := (An.s (An.r []) (An.s (An.s (An.r []) (An.s (An.s (An.r []) An.o) An.o)) (An.s (An.dt (Pl.step 0 (Pl.step 1 (Pl.step 2 (Pl.step 3 (Pl.step 4 (Pl.br (Pl.alt 5 (Pl.step 6 (Pl.step 7 (Pl.step 8 Pl.nil))) (Pl.alt 7 (Pl.step 5 (Pl.step 6 (Pl.step 8 Pl.nil))) Pl.non)))))))) [8] [4]) (An.s (An.r []) (An.s (An.r []) (An.s (An.j [6, 8] (An.s (An.r [[38]]) (An.s (An.s (An.r []) (An.s (An.r []) (An.s (An.s (An.r [[50]]) (An.s (An.s (An.r []) An.o) An.o)) (An.r [])))) An.o))) (An.s (An.s (An.r []) (An.b (An.l [8, 10] (An.s (An.s (An.r [[59]]) (An.s An.o An.o)) (An.s (An.j [8] (An.b (An.s (An.s (An.r []) (An.s (An.s (An.s (An.r []) (An.s (An.s (An.r []) An.o) An.o)) (An.s (An.r []) (An.s (An.s (An.r []) (An.b (An.l [12] (An.s (An.s (An.r []) (An.s An.o An.o)) (An.s (An.b (An.r [])) (An.r [])))))) (An.s (An.r []) (An.s (An.r []) An.o))))) An.o)) (An.s (An.r []) (An.s (An.s (An.r [[103]]) (An.s (An.s (An.r []) An.o) An.o)) (An.s (An.dc [0, 1, 2, 3, 4, 5, 6, 7, 8, 9, 10, 11, 12, 13, 14] [12, 14] []) (An.r []))))))) (An.r [])))))) (An.s (An.s (An.r []) (An.s (An.r [[136]]) (An.s (An.s (An.r []) An.o) An.o))) (An.s (An.r []) An.o)))))))))
def c_ref04_Parse (t0 : Value) (w : World) (R : Value → World → Prop) : Prop :=
  efP P (Instr.alloc T_api_Msg true (.tuple #[])) w fun t2 w =>
  lenS t0 fun t17 =>
  bi BinOp.lss t17 (Value.int IntKind.i64 5) fun t18 =>
  cnd t18
  (rdP P (Instr.build T_api_Msg #[]) w fun t19 =>
  stN 4 t2 t19 w fun w =>
  ldN 4 t2 w.heap fun r0 =>
  R (Value.tuple #[r0, (Value.int IntKind.i64 40)]) w)
  (drH w fun S w =>
  jn1 (fun k1 =>
  ixs 1 t0 (Value.int IntKind.i64 0) fun t21 =>
  rdS S (fun w => ld1 t21 w.heap) fun t22 =>
  cvi IntKind.i64 t22 fun t23 =>
  (efS S (cal P f_ref04_num [t0, (Value.int IntKind.i64 1)]) w fun t25_1 w =>
  rdS S (rdP P (Instr.build T_api_Msg #[(0, t23), (1, t25_1)])) fun t26_1 =>
  efS S (efP P (Instr.alloc T_api_Msg true (.tuple #[]))) w fun t4_1 w =>
  efC (fun w K => stN 4 t4_1 t26_1 w (K undef)) w fun S _ w =>
  k1 t4_1 w) ∧
  ((efS S (efP P (Instr.alloc T_api_Msg true (.tuple #[]))) w fun t4 w =>
  efS S (cal P f_ref04_num [t0, (Value.int IntKind.i64 1)]) w fun t25 w =>
  rdS S (rdP P (Instr.build T_api_Msg #[(0, t23), (1, t25)])) fun t26 =>
  efC (fun w K => stN 4 t4 t26 w (K undef)) w fun S _ w =>
  k1 t4 w) ∧
  (True))) fun _ t4_2 w =>
  fad 0 t4_2 fun t28 =>
  ld1 t28 w.heap fun t29 =>
  cal P f_ref04_bears [t29] w fun t30 w =>
  ext 0 t30 fun t31 =>
  ext 1 t30 fun t32 =>
  ext 2 t30 fun t33 =>
  jn2 (fun k2 =>
  bi BinOp.eql t33 (Value.int IntKind.i64 2) fun t35 =>
  jn1 (fun k3 =>
  gif t35 false
  (bi BinOp.eql t33 (Value.int IntKind.i64 4) fun t38 =>
  k3 t38 w)
  (k3 undef w)) fun _ t38_1 w =>
  pik t35 (Value.bool true) t38_1 fun t39 =>
  cnd t39
  (cal P f_ref04_num [t0, (Value.int IntKind.i64 5)] w fun t42 w =>
  bi BinOp.add (Value.int IntKind.i64 5) (Value.int IntKind.i64 4) fun t44 =>
  bi BinOp.lss t42 (Value.int IntKind.i64 0) fun t46 =>
  jn1 (fun k4 =>
  gif t46 false
  (bi BinOp.gtr t42 t32 fun t50 =>
  k4 t50 w)
  (k4 undef w)) fun _ t50_1 w =>
  pik t46 (Value.bool true) t50_1 fun t51 =>
  cnd t51
  (rdP P (Instr.build T_api_Msg #[]) w fun t52 =>
  stN 4 t2 t52 w fun w =>
  ldN 4 t2 w.heap fun r5 =>
  R (Value.tuple #[r5, (Value.int IntKind.i64 40)]) w)
  (k2 t42 t44 w))
  (k2 t32 (Value.int IntKind.i64 5) w)) fun _ t6 t8 w =>
  lp2 t8 (Value.int IntKind.i64 0) w fun _ t8_1 t10 w again6 =>
  bi BinOp.lss t10 t6 fun t56 =>
  jn1 (fun k7 =>
  gif t56 true
  (bi BinOp.geq t33 (Value.int IntKind.i64 0) fun t59 =>
  k7 t59 w)
  (k7 undef w)) fun _ t59_1 w =>
  pik t56 t59_1 (Value.bool false) fun t60 =>
  cnd t60
  (jn1 (fun k8 =>
  bi BinOp.lss t33 (Value.int IntKind.i64 3) fun t64 =>
  cnd t64
  (lenS t0 fun t66 =>
  bi BinOp.sub t66 t8_1 fun t68 =>
  bi BinOp.lss t68 (Value.int IntKind.i64 32) fun t69 =>
  cnd t69
  (rdP P (Instr.build T_api_Msg #[]) w fun t70 =>
  stN 4 t2 t70 w fun w =>
  ldN 4 t2 w.heap fun r9 =>
  R (Value.tuple #[r9, (Value.int IntKind.i64 40)]) w)
  (efP P (Instr.alloc T_api_ID true (.tuple #[])) w fun t11 w =>
  lp1 (Value.int IntKind.i64 0) w fun _ t12 w again10 =>
  bi BinOp.lss t12 (Value.int IntKind.i64 32) fun t72 =>
  cnd t72
  (bi BinOp.add t8_1 t12 fun t79 =>
  ixs 1 t0 t79 fun t80 =>
  ld1 t80 w.heap fun t81 =>
  ixa 32 1 t11 t12 fun t82 =>
  st1 t82 t81 w fun w =>
  bi BinOp.add t12 (Value.int IntKind.i64 1) fun t74 =>
  again10 t74 w)
  (fad 2 t4_2 fun t83 =>
  ld1 t83 w.heap fun t84 =>
  ldN 32 t11 w.heap fun t85 =>
  efP P (Instr.buildSlice T_sl_api_ID 1 #[(0, t85)]) w fun t86 w =>
  efP P (Builtin.append_ #[T_sl_api_ID, T_sl_api_ID] T_sl_api_ID #[t84, t86]) w fun t87 w =>
  fad 2 t4_2 fun t88 =>
  st1 t88 t87 w fun w =>
  bi BinOp.add t8_1 (Value.int IntKind.i64 32) fun t90 =>
  k8 t90 w)))
  (cal P f_ref04_num [t0, t8_1] w fun t93 w =>
  bi BinOp.lss t93 (Value.int IntKind.i64 0) fun t95 =>
  jn1 (fun k11 =>
  gif t95 false
  (lenS t0 fun t99 =>
  bi BinOp.sub t99 t8_1 fun t101 =>
  bi BinOp.sub t101 (Value.int IntKind.i64 4) fun t102 =>
  bi BinOp.gtr t93 t102 fun t103 =>
  k11 t103 w)
  (k11 undef w)) fun _ t103_1 w =>
  pik t95 (Value.bool true) t103_1 fun t104 =>
  cnd t104
  (rdP P (Instr.build T_api_Msg #[]) w fun t105 =>
  stN 4 t2 t105 w fun w =>
  ldN 4 t2 w.heap fun r12 =>
  R (Value.tuple #[r12, (Value.int IntKind.i64 40)]) w)
  (drH w fun S w =>
  fad 3 t4_2 fun t106 =>
  rdS S (fun w => ld1 t106 w.heap) fun t107 =>
  bi BinOp.add t8_1 (Value.int IntKind.i64 4) fun t110 =>
  bi BinOp.add t8_1 (Value.int IntKind.i64 4) fun t112 =>
  bi BinOp.add t112 t93 fun t114 =>
  slc 1 t0 (some t110) (some t114) fun t115 =>
  efS S (efP P (Builtin.append_ #[T_sl_uint8, T_sl_uint8] T_sl_uint8 #[(Value.slice none 0 0), t115])) w fun t116 w =>
  efS S (efP P (Instr.buildSlice T_sl_sl_uint8 1 #[(0, t116)])) w fun t117 w =>
  efC (efP P (Builtin.append_ #[T_sl_sl_uint8, T_sl_sl_uint8] T_sl_sl_uint8 #[t107, t117])) w fun S t118 w =>
  fad 3 t4_2 fun t119 =>
  efC (fun w K => st1 t119 t118 w (K undef)) w fun S _ w =>
  bi BinOp.add (Value.int IntKind.i64 4) t93 fun t122 =>
  bi BinOp.add t8_1 t122 fun t123 =>
  k8 t123 w))) fun _ t8_2 w =>
  bi BinOp.add t10 (Value.int IntKind.i64 1) fun t62 =>
  again6 t8_2 t62 w)
  (ldN 4 t4_2 w.heap fun t125 =>
  cal P f_ref04_Bytes [t125] w fun t126 w =>
  ext 0 t126 fun t127 =>
  ext 1 t126 fun t128 =>
  bi BinOp.neq t128 (Value.int IntKind.i64 0) fun t130 =>
  jn1 (fun k13 =>
  gif t130 false
  (rdP P (convert T_sl_uint8 T_string t127) w fun t133 =>
  rdP P (convert T_sl_uint8 T_string t0) w fun t135 =>
  rdP P (eqS BinOp.neq T_string (Operand.tmp 133) (Operand.tmp 135) t133 t135) w fun t136 =>
  k13 t136 w)
  (k13 undef w)) fun _ t136_1 w =>
  pik t130 (Value.bool true) t136_1 fun t137 =>
  cnd t137
  (rdP P (Instr.build T_api_Msg #[]) w fun t138 =>
  stN 4 t2 t138 w fun w =>
  ldN 4 t2 w.heap fun r14 =>
  R (Value.tuple #[r14, (Value.int IntKind.i64 40)]) w)
  (ldN 4 t4_2 w.heap fun t139 =>
  stN 4 t2 t139 w fun w =>
  ldN 4 t2 w.heap fun r15 =>
  R (Value.tuple #[r15, (Value.int IntKind.i64 0)]) w)))
theorem e_ref04_Parse (t0 : Value) (w : World) (R : Value → World → Prop) : intp P A_ref04_Parse (bodyOf Try.f16) (ini [t0]) w (retK P Try.f16.results.toList R) (fun _ _ _ => False) (retK P Try.f16.results.toList R) = c_ref04_Parse t0 w R := by kernel_rfl
theorem k_ref04_Parse : chk P Try.f16.ntmps A_ref04_Parse (bodyOf Try.f16) = true := by kernel_rfl
theorem l_ref04_Parse {t0 : Value} {w : World} {R : Value → World → Prop} (h : c_ref04_Parse t0 w R) : cal P f_ref04_Parse [t0] w R :=
  calls_of mixed Try.func16 rfl (by kernel_rfl) k_ref04_Parse (Eq.mpr (e_ref04_Parse t0 w R) h)
theorem s_ref04_Parse {t0 : Value} {w : World} {Q : Value → World → Prop} (h : ∀ R : Value → World → Prop, (∀ v w', Q v w' → R v w') → c_ref04_Parse t0 w R) : cal P f_ref04_Parse [t0] w Q := l_ref04_Parse (h Q fun _ _ h => h)

/-- flurry/flurryref04.Same -/
def A_ref04_Same : An := (An.s (An.r []) (An.s (An.s (An.r [[17], [26], [35]]) (An.s (An.s (An.r []) An.o) An.o)) (An.s (An.s (An.r []) (An.b (An.l [5] (An.s (An.s (An.r []) (An.s An.o An.o)) (An.s (An.b (An.s (An.r []) (An.s (An.s (An.r []) An.o) An.o))) (An.r [])))))) (An.s (An.s (An.r []) (An.b (An.l [6] (An.s (An.s (An.r []) (An.s An.o An.o)) (An.s (An.b (An.s (An.r []) (An.s (An.s (An.r []) An.o) An.o))) (An.r [])))))) (An.s (An.r []) An.o)))))
def c_ref04_Same (t0 t1 : Value) (w : World) (R : Value → World → Prop) : Prop :=
  bx T_api_Msg t0 w fun t2 w =>
  bx T_api_Msg t1 w fun t3 w =>
  fad 0 t2 fun t7 =>
  ld1 t7 w.heap fun t8 =>
  fad 0 t3 fun t9 =>
  ld1 t9 w.heap fun t10 =>
  bi BinOp.neq t8 t10 fun t11 =>
  jn1 (fun k0 =>
  gif t11 false
  (fad 1 t2 fun t13 =>
  ld1 t13 w.heap fun t14 =>
  fad 1 t3 fun t15 =>
  ld1 t15 w.heap fun t16 =>
  bi BinOp.neq t14 t16 fun t17 =>
  k0 t17 w)
  (k0 undef w)) fun _ t17_1 w =>
  pik t11 (Value.bool true) t17_1 fun t18 =>
  jn1 (fun k1 =>
  gif t18 false
  (fad 2 t2 fun t20 =>
  ld1 t20 w.heap fun t21 =>
  lenS t21 fun t22 =>
  fad 2 t3 fun t23 =>
  ld1 t23 w.heap fun t24 =>
  lenS t24 fun t25 =>
  bi BinOp.neq t22 t25 fun t26 =>
  k1 t26 w)
  (k1 undef w)) fun _ t26_1 w =>
  pik t18 (Value.bool true) t26_1 fun t27 =>
  jn1 (fun k2 =>
  gif t27 false
  (fad 3 t2 fun t29 =>
  ld1 t29 w.heap fun t30 =>
  lenS t30 fun t31 =>
  fad 3 t3 fun t32 =>
  ld1 t32 w.heap fun t33 =>
  lenS t33 fun t34 =>
  bi BinOp.neq t31 t34 fun t35 =>
  k2 t35 w)
  (k2 undef w)) fun _ t35_1 w =>
  pik t27 (Value.bool true) t35_1 fun t36 =>
  cnd t36
  (R (Value.bool false) w)
  (lp1 (Value.int IntKind.i64 0) w fun _ t5 w again3 =>
  fad 2 t2 fun t38 =>
  ld1 t38 w.heap fun t39 =>
  lenS t39 fun t40 =>
  bi BinOp.lss t5 t40 fun t41 =>
  cnd t41
  (drw w fun w =>
  fad 2 t2 fun t44 =>
  ld1 t44 w.heap fun t45 =>
  ixs 32 t45 t5 fun t47 =>
  ldN 32 t47 w.heap fun t48 =>
  fad 2 t3 fun t49 =>
  ld1 t49 w.heap fun t50 =>
  ixs 32 t50 t5 fun t52 =>
  ldN 32 t52 w.heap fun t53 =>
  rdP P (eqS BinOp.neq T_api_ID (Operand.tmp 48) (Operand.tmp 53) t48 t53) w fun t54 =>
  cnd t54
  (R (Value.bool false) w)
  (bi BinOp.add t5 (Value.int IntKind.i64 1) fun t43 =>
  again3 t43 w))
  (lp1 (Value.int IntKind.i64 0) w fun _ t6 w again4 =>
  fad 3 t2 fun t56 =>
  ld1 t56 w.heap fun t57 =>
  lenS t57 fun t58 =>
  bi BinOp.lss t6 t58 fun t59 =>
  cnd t59
  (drw w fun w =>
  fad 3 t2 fun t62 =>
  ld1 t62 w.heap fun t63 =>
  ixs 1 t63 t6 fun t65 =>
  ld1 t65 w.heap fun t66 =>
  rdP P (convert T_sl_uint8 T_string t66) w fun t67 =>
  fad 3 t3 fun t68 =>
  ld1 t68 w.heap fun t69 =>
  ixs 1 t69 t6 fun t71 =>
  ld1 t71 w.heap fun t72 =>
  rdP P (convert T_sl_uint8 T_string t72) w fun t73 =>
  rdP P (eqS BinOp.neq T_string (Operand.tmp 67) (Operand.tmp 73) t67 t73) w fun t74 =>
  cnd t74
  (R (Value.bool false) w)
  (bi BinOp.add t6 (Value.int IntKind.i64 1) fun t61 =>
  again4 t61 w))
  (R (Value.bool true) w)))
theorem e_ref04_Same (t0 t1 : Value) (w : World) (R : Value → World → Prop) : intp P A_ref04_Same (bodyOf Try.f17) (ini [t0, t1]) w (retK P Try.f17.results.toList R) (fun _ _ _ => False) (retK P Try.f17.results.toList R) = c_ref04_Same t0 t1 w R := by kernel_rfl
theorem k_ref04_Same : chk P Try.f17.ntmps A_ref04_Same (bodyOf Try.f17) = true := by kernel_rfl
theorem l_ref04_Same {t0 t1 : Value} {w : World} {R : Value → World → Prop} (h : c_ref04_Same t0 t1 w R) : cal P f_ref04_Same [t0, t1] w R :=
  calls_of mixed Try.func17 rfl (by kernel_rfl) k_ref04_Same (Eq.mpr (e_ref04_Same t0 t1 w R) h)
theorem s_ref04_Same {t0 t1 : Value} {w : World} {Q : Value → World → Prop} (h : ∀ R : Value → World → Prop, (∀ v w', Q v w' → R v w') → c_ref04_Same t0 t1 w R) : cal P f_ref04_Same [t0, t1] w Q := l_ref04_Same (h Q fun _ _ h => h)

/-- flurry/msg.Reply -/
def A_msg_Reply : An := (An.s (An.r []) (An.s (An.s (An.r []) (An.b (An.s (An.j [4] (An.s (An.r []) (An.s An.o (An.s (An.r []) (An.s An.o (An.r [])))))) (An.s (An.s (An.r []) An.o) (An.s (An.r []) (An.s (An.s (An.r []) An.o) (An.s (An.j [12] (An.s (An.r []) (An.s An.o (An.r [])))) (An.s (An.s (An.r []) An.o) An.o)))))))) (An.s (An.r []) An.o)))
def c_msg_Reply (t0 : Value) (w : World) (R : Value → World → Prop) : Prop :=
  jn1 (fun k0 =>
  bi BinOp.eql t0 (Value.int IntKind.i64 1) fun t5 =>
  cnd t5
  (k0 t5 w)
  (bi BinOp.eql t0 (Value.int IntKind.i64 3) fun t6 =>
  cnd t6
  (k0 t6 w)
  (bi BinOp.eql t0 (Value.int IntKind.i64 5) fun t7 =>
  k0 t7 w))) fun _ t4 w =>
  cnd t4
  (bi BinOp.add t0 (Value.int IntKind.i64 1) fun t9 =>
  R t9 w)
  (bi BinOp.eql t0 (Value.int IntKind.i64 7) fun t11 =>
  cnd t11
  (R (Value.int IntKind.i64 8) w)
  (jn1 (fun k1 =>
  bi BinOp.eql t0 (Value.int IntKind.i64 9) fun t13 =>
  cnd t13
  (k1 t13 w)
  (bi BinOp.eql t0 (Value.int IntKind.i64 10) fun t14 =>
  k1 t14 w)) fun _ t12 w =>
  cnd t12
  (R (Value.int IntKind.i64 11) w)
  (R (Value.int IntKind.i64 0) w)))
theorem e_msg_Reply (t0 : Value) (w : World) (R : Value → World → Prop) : intp P A_msg_Reply (bodyOf Try.f18) (ini [t0]) w (retK P Try.f18.results.toList R) (fun _ _ _ => False) (retK P Try.f18.results.toList R) = c_msg_Reply t0 w R := by kernel_rfl
theorem k_msg_Reply : chk P Try.f18.ntmps A_msg_Reply (bodyOf Try.f18) = true := by kernel_rfl
theorem l_msg_Reply {t0 : Value} {w : World} {R : Value → World → Prop} (h : c_msg_Reply t0 w R) : cal P f_msg_Reply [t0] w R :=
  calls_of mixed Try.func18 rfl (by kernel_rfl) k_msg_Reply (Eq.mpr (e_msg_Reply t0 w R) h)
theorem s_msg_Reply {t0 : Value} {w : World} {Q : Value → World → Prop} (h : ∀ R : Value → World → Prop, (∀ v w', Q v w' → R v w') → c_msg_Reply t0 w R) : cal P f_msg_Reply [t0] w Q := l_msg_Reply (h Q fun _ _ h => h)

/-- flurry/flurryref04.Reply -/
def A_ref04_Reply : An := (An.s (An.r []) (An.s (An.r []) (An.b (An.s (An.j [4] (An.s (An.r []) (An.s An.o (An.s (An.r []) (An.s An.o (An.s (An.r []) (An.s An.o (An.r [])))))))) (An.s (An.s (An.r []) An.o) (An.s (An.j [11] (An.s (An.r []) (An.s An.o (An.r [])))) (An.s (An.s (An.r []) An.o) (An.s (An.r []) An.o))))))))
def c_ref04_Reply (t0 : Value) (w : World) (R : Value → World → Prop) : Prop :=
  jn1 (fun k0 =>
  bi BinOp.eql t0 (Value.int IntKind.i64 1) fun t5 =>
  cnd t5
  (k0 t5 w)
  (bi BinOp.eql t0 (Value.int IntKind.i64 3) fun t6 =>
  cnd t6
  (k0 t6 w)
  (bi BinOp.eql t0 (Value.int IntKind.i64 5) fun t7 =>
  cnd t7
  (k0 t7 w)
  (bi BinOp.eql t0 (Value.int IntKind.i64 7) fun t8 =>
  k0 t8 w)))) fun _ t4 w =>
  cnd t4
  (bi BinOp.add t0 (Value.int IntKind.i64 1) fun t10 =>
  R t10 w)
  (jn1 (fun k1 =>
  bi BinOp.eql t0 (Value.int IntKind.i64 9) fun t12 =>
  cnd t12
  (k1 t12 w)
  (bi BinOp.eql t0 (Value.int IntKind.i64 10) fun t13 =>
  k1 t13 w)) fun _ t11 w =>
  cnd t11
  (R (Value.int IntKind.i64 11) w)
  (R (Value.int IntKind.i64 0) w))
theorem e_ref04_Reply (t0 : Value) (w : World) (R : Value → World → Prop) : intp P A_ref04_Reply (bodyOf Try.f19) (ini [t0]) w (retK P Try.f19.results.toList R) (fun _ _ _ => False) (retK P Try.f19.results.toList R) = c_ref04_Reply t0 w R := by kernel_rfl
theorem k_ref04_Reply : chk P Try.f19.ntmps A_ref04_Reply (bodyOf Try.f19) = true := by kernel_rfl
theorem l_ref04_Reply {t0 : Value} {w : World} {R : Value → World → Prop} (h : c_ref04_Reply t0 w R) : cal P f_ref04_Reply [t0] w R :=
  calls_of mixed Try.func19 rfl (by kernel_rfl) k_ref04_Reply (Eq.mpr (e_ref04_Reply t0 w R) h)
theorem s_ref04_Reply {t0 : Value} {w : World} {Q : Value → World → Prop} (h : ∀ R : Value → World → Prop, (∀ v w', Q v w' → R v w') → c_ref04_Reply t0 w R) : cal P f_ref04_Reply [t0] w Q := l_ref04_Reply (h Q fun _ _ h => h)

/-- flurry/msg.Name -/
def A_msg_Name : An := (An.s (An.r []) (An.s (An.r []) (An.s (An.s (An.r [[9]]) (An.s (An.s (An.r []) An.o) An.o)) (An.s (An.r []) An.o))))
def c_msg_Name (t0 : Value) (w : World) (R : Value → World → Prop) : Prop :=
  rdP P (Instr.build T_a12_string #[(0, (Value.string { data := #[] })), (1, (Value.string { data := #[103, 101, 116, 95, 102, 114, 111, 110, 116, 105, 101, 114] })), (2, (Value.string { data := #[102, 114, 111, 110, 116, 105, 101, 114] })), (3, (Value.string { data := #[103, 101, 116, 95, 97, 99, 99, 101, 112, 116, 101, 100] })), (4, (Value.string { data := #[97, 99, 99, 101, 112, 116, 101, 100] })), (5, (Value.string { data := #[103, 101, 116, 95, 97, 110, 99, 101, 115, 116, 111, 114, 115] })), (6, (Value.string { data := #[97, 110, 99, 101, 115, 116, 111, 114, 115] })), (7, (Value.string { data := #[103, 101, 116] })), (8, (Value.string { data := #[112, 117, 116] })), (9, (Value.string { data := #[112, 117, 115, 104, 95, 113, 117, 101, 114, 121] })), (10, (Value.string { data := #[112, 117, 108, 108, 95, 113, 117, 101, 114, 121] })), (11, (Value.string { data := #[99, 104, 105, 116, 115] }))]) w fun t4 =>
  efP P (Instr.alloc T_a12_string true (.tuple #[])) w fun t3 w =>
  stN 12 t3 t4 w fun w =>
  bi BinOp.lss t0 (Value.int IntKind.i64 0) fun t6 =>
  jn1 (fun k0 =>
  gif t6 false
  (bi BinOp.geq t0 (Value.int IntKind.i64 12) fun t9 =>
  k0 t9 w)
  (k0 undef w)) fun _ t9_1 w =>
  pik t6 (Value.bool true) t9_1 fun t10 =>
  cnd t10
  (R (Value.string { data := #[] }) w)
  (ixa 12 1 t3 t0 fun t12 =>
  ld1 t12 w.heap fun t13 =>
  R t13 w)
theorem e_msg_Name (t0 : Value) (w : World) (R : Value → World → Prop) : intp P A_msg_Name (bodyOf Try.f20) (ini [t0]) w (retK P Try.f20.results.toList R) (fun _ _ _ => False) (retK P Try.f20.results.toList R) = c_msg_Name t0 w R := by kernel_rfl
theorem k_msg_Name : chk P Try.f20.ntmps A_msg_Name (bodyOf Try.f20) = true := by kernel_rfl
theorem l_msg_Name {t0 : Value} {w : World} {R : Value → World → Prop} (h : c_msg_Name t0 w R) : cal P f_msg_Name [t0] w R :=
  calls_of mixed Try.func20 rfl (by kernel_rfl) k_msg_Name (Eq.mpr (e_msg_Name t0 w R) h)
theorem s_msg_Name {t0 : Value} {w : World} {Q : Value → World → Prop} (h : ∀ R : Value → World → Prop, (∀ v w', Q v w' → R v w') → c_msg_Name t0 w R) : cal P f_msg_Name [t0] w Q := l_msg_Name (h Q fun _ _ h => h)

/-- flurry/flurryref04.Name -/
def A_ref04_Name : An := (An.s (An.r []) (An.s (An.r []) (An.b (An.s (An.r []) (An.s (An.s (An.r []) An.o) (An.s (An.r []) (An.s (An.s (An.r []) An.o) (An.s (An.r []) (An.s (An.s (An.r []) An.o) (An.s (An.r []) (An.s (An.s (An.r []) An.o) (An.s (An.r []) (An.s (An.s (An.r []) An.o) (An.s (An.r []) (An.s (An.s (An.r []) An.o) (An.s (An.r []) (An.s (An.s (An.r []) An.o) (An.s (An.r []) (An.s (An.s (An.r []) An.o) (An.s (An.r []) (An.s (An.s (An.r []) An.o) (An.s (An.r []) (An.s (An.s (An.r []) An.o) (An.s (An.r []) (An.s (An.s (An.r []) An.o) (An.s (An.r []) An.o))))))))))))))))))))))))))
def c_ref04_Name (t0 : Value) (w : World) (R : Value → World → Prop) : Prop :=
  bi BinOp.eql t0 (Value.int IntKind.i64 1) fun t5 =>
  cnd t5
  (R (Value.string { data := #[103, 101, 116, 95, 102, 114, 111, 110, 116, 105, 101, 114] }) w)
  (bi BinOp.eql t0 (Value.int IntKind.i64 2) fun t7 =>
  cnd t7
  (R (Value.string { data := #[102, 114, 111, 110, 116, 105, 101, 114] }) w)
  (bi BinOp.eql t0 (Value.int IntKind.i64 3) fun t9 =>
  cnd t9
  (R (Value.string { data := #[103, 101, 116, 95, 97, 99, 99, 101, 112, 116, 101, 100] }) w)
  (bi BinOp.eql t0 (Value.int IntKind.i64 4) fun t11 =>
  cnd t11
  (R (Value.string { data := #[97, 99, 99, 101, 112, 116, 101, 100] }) w)
  (bi BinOp.eql t0 (Value.int IntKind.i64 5) fun t13 =>
  cnd t13
  (R (Value.string { data := #[103, 101, 116, 95, 97, 110, 99, 101, 115, 116, 111, 114, 115] }) w)
  (bi BinOp.eql t0 (Value.int IntKind.i64 6) fun t15 =>
  cnd t15
  (R (Value.string { data := #[97, 110, 99, 101, 115, 116, 111, 114, 115] }) w)
  (bi BinOp.eql t0 (Value.int IntKind.i64 7) fun t17 =>
  cnd t17
  (R (Value.string { data := #[103, 101, 116] }) w)
  (bi BinOp.eql t0 (Value.int IntKind.i64 8) fun t19 =>
  cnd t19
  (R (Value.string { data := #[112, 117, 116] }) w)
  (bi BinOp.eql t0 (Value.int IntKind.i64 9) fun t21 =>
  cnd t21
  (R (Value.string { data := #[112, 117, 115, 104, 95, 113, 117, 101, 114, 121] }) w)
  (bi BinOp.eql t0 (Value.int IntKind.i64 10) fun t23 =>
  cnd t23
  (R (Value.string { data := #[112, 117, 108, 108, 95, 113, 117, 101, 114, 121] }) w)
  (bi BinOp.eql t0 (Value.int IntKind.i64 11) fun t25 =>
  cnd t25
  (R (Value.string { data := #[99, 104, 105, 116, 115] }) w)
  (R (Value.string { data := #[] }) w)))))))))))
theorem e_ref04_Name (t0 : Value) (w : World) (R : Value → World → Prop) : intp P A_ref04_Name (bodyOf Try.f21) (ini [t0]) w (retK P Try.f21.results.toList R) (fun _ _ _ => False) (retK P Try.f21.results.toList R) = c_ref04_Name t0 w R := by kernel_rfl
theorem k_ref04_Name : chk P Try.f21.ntmps A_ref04_Name (bodyOf Try.f21) = true := by kernel_rfl
theorem l_ref04_Name {t0 : Value} {w : World} {R : Value → World → Prop} (h : c_ref04_Name t0 w R) : cal P f_ref04_Name [t0] w R :=
  calls_of mixed Try.func21 rfl (by kernel_rfl) k_ref04_Name (Eq.mpr (e_ref04_Name t0 w R) h)
theorem s_ref04_Name {t0 : Value} {w : World} {Q : Value → World → Prop} (h : ∀ R : Value → World → Prop, (∀ v w', Q v w' → R v w') → c_ref04_Name t0 w R) : cal P f_ref04_Name [t0] w Q := l_ref04_Name (h Q fun _ _ h => h)

/-- flurry/msg.Check -/
def A_msg_Check : An := (An.s (An.r []) (An.s (An.r []) (An.s (An.r []) (An.s (An.s (An.r [[13], [18], [24], [30]]) (An.s (An.s (An.r []) An.o) An.o)) (An.s (An.r []) An.o)))))
def c_msg_Check (t0 : Value) (w : World) (R : Value → World → Prop) : Prop :=
  bx T_api_Msg t0 w fun t1 w =>
  fad 0 t1 fun t5 =>
  ld1 t5 w.heap fun t6 =>
  cal P f_msg_bears [t6] w fun t7 w =>
  rdP P (eqS BinOp.eql T_msg_body (Operand.tmp 8) (Operand.const Value.nilIface) t7 Value.nilIface) w fun t9 =>
  jn1 (fun k0 =>
  gif t9 false
  (fad 1 t1 fun t11 =>
  ld1 t11 w.heap fun t12 =>
  bi BinOp.lss t12 (Value.int IntKind.i64 0) fun t13 =>
  k0 t13 w)
  (k0 undef w)) fun _ t13_1 w =>
  pik t9 (Value.bool true) t13_1 fun t14 =>
  jn1 (fun k1 =>
  gif t14 false
  (fad 1 t1 fun t16 =>
  ld1 t16 w.heap fun t17 =>
  bi BinOp.gtr t17 (Value.int IntKind.i64 2147483647) fun t18 =>
  k1 t18 w)
  (k1 undef w)) fun _ t18_1 w =>
  pik t14 (Value.bool true) t18_1 fun t19 =>
  jn1 (fun k2 =>
  gif t19 false
  (ldN 4 t1 w.heap fun t21 =>
  cal P f_msg_fits [t21, t7] w fun t23 w =>
  notB t23 fun t24 =>
  k2 t24 w)
  (k2 undef w)) fun _ t24_1 w =>
  pik t19 (Value.bool true) t24_1 fun t25 =>
  jn1 (fun k3 =>
  gif t25 false
  (fad 3 t1 fun t27 =>
  ld1 t27 w.heap fun t28 =>
  cal P f_slices_ContainsFunc_byte_byte [t28, (Value.func (Fn.func f_msg_Check_1) #[] #[])] w fun t30 w =>
  k3 t30 w)
  (k3 undef w)) fun _ t30_1 w =>
  pik t25 (Value.bool true) t30_1 fun t31 =>
  cnd t31
  (R (Value.int IntKind.i64 40) w)
  (R (Value.int IntKind.i64 0) w)
theorem e_msg_Check (t0 : Value) (w : World) (R : Value → World → Prop) : intp P A_msg_Check (bodyOf Try.f22) (ini [t0]) w (retK P Try.f22.results.toList R) (fun _ _ _ => False) (retK P Try.f22.results.toList R) = c_msg_Check t0 w R := by kernel_rfl
theorem k_msg_Check : chk P Try.f22.ntmps A_msg_Check (bodyOf Try.f22) = true := by kernel_rfl
theorem l_msg_Check {t0 : Value} {w : World} {R : Value → World → Prop} (h : c_msg_Check t0 w R) : cal P f_msg_Check [t0] w R :=
  calls_of mixed Try.func22 rfl (by kernel_rfl) k_msg_Check (Eq.mpr (e_msg_Check t0 w R) h)
theorem s_msg_Check {t0 : Value} {w : World} {Q : Value → World → Prop} (h : ∀ R : Value → World → Prop, (∀ v w', Q v w' → R v w') → c_msg_Check t0 w R) : cal P f_msg_Check [t0] w Q := l_msg_Check (h Q fun _ _ h => h)

/-- flurry/msg.Size -/
def A_msg_Size : An := (An.s (An.r []) (An.s (An.r []) (An.s (An.r []) An.o)))
def c_msg_Size (t0 : Value) (w : World) (R : Value → World → Prop) : Prop :=
  bx T_api_Msg t0 w fun t1 w =>
  ldN 4 t1 w.heap fun t6 =>
  cal P f_msg_Bytes [t6] w fun t7 w =>
  ext 0 t7 fun t8 =>
  ext 1 t7 fun t9 =>
  lenS t8 fun t11 =>
  R t11 w
theorem e_msg_Size (t0 : Value) (w : World) (R : Value → World → Prop) : intp P A_msg_Size (bodyOf Try.f23) (ini [t0]) w (retK P Try.f23.results.toList R) (fun _ _ _ => False) (retK P Try.f23.results.toList R) = c_msg_Size t0 w R := by kernel_rfl
theorem k_msg_Size : chk P Try.f23.ntmps A_msg_Size (bodyOf Try.f23) = true := by kernel_rfl
theorem l_msg_Size {t0 : Value} {w : World} {R : Value → World → Prop} (h : c_msg_Size t0 w R) : cal P f_msg_Size [t0] w R :=
  calls_of mixed Try.func23 rfl (by kernel_rfl) k_msg_Size (Eq.mpr (e_msg_Size t0 w R) h)
theorem s_msg_Size {t0 : Value} {w : World} {Q : Value → World → Prop} (h : ∀ R : Value → World → Prop, (∀ v w', Q v w' → R v w') → c_msg_Size t0 w R) : cal P f_msg_Size [t0] w Q := l_msg_Size (h Q fun _ _ h => h)

/-- flurry/msg.Same -/
def A_msg_Same : An := (An.s (An.r []) (An.s (An.r [[15], [22], [29]]) An.o))
def c_msg_Same (t0 t1 : Value) (w : World) (R : Value → World → Prop) : Prop :=
  bx T_api_Msg t0 w fun t2 w =>
  bx T_api_Msg t1 w fun t3 w =>
  fad 0 t2 fun t5 =>
  ld1 t5 w.heap fun t6 =>
  fad 0 t3 fun t7 =>
  ld1 t7 w.heap fun t8 =>
  bi BinOp.eql t6 t8 fun t9 =>
  jn1 (fun k0 =>
  gif t9 true
  (fad 1 t2 fun t11 =>
  ld1 t11 w.heap fun t12 =>
  fad 1 t3 fun t13 =>
  ld1 t13 w.heap fun t14 =>
  bi BinOp.eql t12 t14 fun t15 =>
  k0 t15 w)
  (k0 undef w)) fun _ t15_1 w =>
  pik t9 t15_1 (Value.bool false) fun t16 =>
  jn1 (fun k1 =>
  gif t16 true
  (fad 2 t2 fun t18 =>
  ld1 t18 w.heap fun t19 =>
  fad 2 t3 fun t20 =>
  ld1 t20 w.heap fun t21 =>
  cal P f_slices_Equal_api_ID_api_ID [t19, t21] w fun t22 w =>
  k1 t22 w)
  (k1 undef w)) fun _ t22_1 w =>
  pik t16 t22_1 (Value.bool false) fun t23 =>
  jn1 (fun k2 =>
  gif t23 true
  (fad 3 t2 fun t25 =>
  ld1 t25 w.heap fun t26 =>
  fad 3 t3 fun t27 =>
  ld1 t27 w.heap fun t28 =>
  cal P f_slices_EqualFunc_byte_byte_byte_byte [t26, t28, (Value.func (Fn.func f_bytes_Equal) #[] #[])] w fun t29 w =>
  k2 t29 w)
  (k2 undef w)) fun _ t29_1 w =>
  pik t23 t29_1 (Value.bool false) fun t30 =>
  R t30 w
theorem e_msg_Same (t0 t1 : Value) (w : World) (R : Value → World → Prop) : intp P A_msg_Same (bodyOf Try.f24) (ini [t0, t1]) w (retK P Try.f24.results.toList R) (fun _ _ _ => False) (retK P Try.f24.results.toList R) = c_msg_Same t0 t1 w R := by kernel_rfl
theorem k_msg_Same : chk P Try.f24.ntmps A_msg_Same (bodyOf Try.f24) = true := by kernel_rfl
theorem l_msg_Same {t0 t1 : Value} {w : World} {R : Value → World → Prop} (h : c_msg_Same t0 t1 w R) : cal P f_msg_Same [t0, t1] w R :=
  calls_of mixed Try.func24 rfl (by kernel_rfl) k_msg_Same (Eq.mpr (e_msg_Same t0 t1 w R) h)
theorem s_msg_Same {t0 t1 : Value} {w : World} {Q : Value → World → Prop} (h : ∀ R : Value → World → Prop, (∀ v w', Q v w' → R v w') → c_msg_Same t0 t1 w R) : cal P f_msg_Same [t0, t1] w Q := l_msg_Same (h Q fun _ _ h => h)

/-- flurry/flurryref04.Clone -/
def A_ref04_Clone : An := (An.s (An.r []) (An.s (An.dt (Pl.step 0 (Pl.step 1 (Pl.step 2 (Pl.step 3 (Pl.step 4 (Pl.step 5 (Pl.br (Pl.alt 6 (Pl.step 7 (Pl.step 8 (Pl.step 9 Pl.nil))) (Pl.alt 8 (Pl.step 6 (Pl.step 7 (Pl.step 9 Pl.nil))) Pl.non))))))))) [9] [3]) (An.s (An.s (An.r []) (An.b (An.l [4] (An.s (An.s (An.r []) (An.s An.o An.o)) (An.s (An.b (An.dc [0, 1, 2, 3, 4, 5, 6, 7, 8, 9, 10, 11] [9, 11] [])) (An.r [])))))) (An.s (An.r []) An.o))))
def c_ref04_Clone (t0 : Value) (w : World) (R : Value → World → Prop) : Prop :=
  bx T_api_Msg t0 w fun t1 w =>
  efP P (Instr.alloc T_api_Msg true (.tuple #[])) w fun t2 w =>
  drH w fun S w =>
  jn1 (fun k0 =>
  fad 0 t1 fun t5 =>
  rdS S (fun w => ld1 t5 w.heap) fun t6 =>
  fad 1 t1 fun t7 =>
  rdS S (fun w => ld1 t7 w.heap) fun t8 =>
  fad 2 t1 fun t9 =>
  rdS S (fun w => ld1 t9 w.heap) fun t10 =>
  (efS S (efP P (Builtin.append_ #[T_sl_api_ID, T_sl_api_ID] T_sl_api_ID #[(Value.slice none 0 0), t10])) w fun t11_1 w =>
  rdS S (rdP P (Instr.build T_api_Msg #[(0, t6), (1, t8), (2, t11_1)])) fun t12_1 =>
  efS S (efP P (Instr.alloc T_api_Msg true (.tuple #[]))) w fun t3_1 w =>
  efC (fun w K => stN 4 t3_1 t12_1 w (K undef)) w fun S _ w =>
  k0 t3_1 w) ∧
  ((efS S (efP P (Instr.alloc T_api_Msg true (.tuple #[]))) w fun t3 w =>
  efS S (efP P (Builtin.append_ #[T_sl_api_ID, T_sl_api_ID] T_sl_api_ID #[(Value.slice none 0 0), t10])) w fun t11 w =>
  rdS S (rdP P (Instr.build T_api_Msg #[(0, t6), (1, t8), (2, t11)])) fun t12 =>
  efC (fun w K => stN 4 t3 t12 w (K undef)) w fun S _ w =>
  k0 t3 w) ∧
  (True))) fun _ t3_2 w =>
  lp1 (Value.int IntKind.i64 0) w fun _ t4 w again1 =>
  fad 3 t1 fun t14 =>
  ld1 t14 w.heap fun t15 =>
  lenS t15 fun t16 =>
  bi BinOp.lss t4 t16 fun t17 =>
  cnd t17
  (drH w fun S w =>
  fad 3 t3_2 fun t20 =>
  rdS S (fun w => ld1 t20 w.heap) fun t21 =>
  fad 3 t1 fun t22 =>
  rdS S (fun w => ld1 t22 w.heap) fun t23 =>
  ixs 1 t23 t4 fun t25 =>
  rdS S (fun w => ld1 t25 w.heap) fun t26 =>
  efS S (efP P (Builtin.append_ #[T_sl_uint8, T_sl_uint8] T_sl_uint8 #[(Value.slice none 0 0), t26])) w fun t27 w =>
  efS S (efP P (Instr.buildSlice T_sl_sl_uint8 1 #[(0, t27)])) w fun t28 w =>
  efC (efP P (Builtin.append_ #[T_sl_sl_uint8, T_sl_sl_uint8] T_sl_sl_uint8 #[t21, t28])) w fun S t29 w =>
  fad 3 t3_2 fun t30 =>
  efC (fun w K => st1 t30 t29 w (K undef)) w fun S _ w =>
  bi BinOp.add t4 (Value.int IntKind.i64 1) fun t19 =>
  again1 t19 w)
  (ldN 4 t3_2 w.heap fun t31 =>
  stN 4 t2 t31 w fun w =>
  ldN 4 t2 w.heap fun r2 =>
  R r2 w)
theorem e_ref04_Clone (t0 : Value) (w : World) (R : Value → World → Prop) : intp P A_ref04_Clone (bodyOf Try.f25) (ini [t0]) w (retK P Try.f25.results.toList R) (fun _ _ _ => False) (retK P Try.f25.results.toList R) = c_ref04_Clone t0 w R := by kernel_rfl
theorem k_ref04_Clone : chk P Try.f25.ntmps A_ref04_Clone (bodyOf Try.f25) = true := by kernel_rfl
theorem l_ref04_Clone {t0 : Value} {w : World} {R : Value → World → Prop} (h : c_ref04_Clone t0 w R) : cal P f_ref04_Clone [t0] w R :=
  calls_of mixed Try.func25 rfl (by kernel_rfl) k_ref04_Clone (Eq.mpr (e_ref04_Clone t0 w R) h)
theorem s_ref04_Clone {t0 : Value} {w : World} {Q : Value → World → Prop} (h : ∀ R : Value → World → Prop, (∀ v w', Q v w' → R v w') → c_ref04_Clone t0 w R) : cal P f_ref04_Clone [t0] w Q := l_ref04_Clone (h Q fun _ _ h => h)

/-- flurry/msg.Clone -/
def A_msg_Clone : An := (An.s (An.r []) (An.s (An.dt (Pl.step 0 (Pl.step 1 (Pl.step 2 (Pl.step 3 (Pl.step 4 (Pl.step 5 (Pl.br (Pl.alt 6 (Pl.step 7 (Pl.step 8 (Pl.step 9 Pl.nil))) (Pl.alt 8 (Pl.step 6 (Pl.step 7 (Pl.step 9 Pl.nil))) Pl.non))))))))) [9] [3]) (An.s (An.s (An.r []) (An.b (An.l [17] (An.s (An.r []) (An.s (An.s An.o An.o) (An.s (An.b (An.s (An.r []) (An.dc [0, 1, 2, 3, 4, 5, 6, 7] [5, 7] []))) (An.r []))))))) (An.s (An.r []) An.o))))
def c_msg_Clone (t0 : Value) (w : World) (R : Value → World → Prop) : Prop :=
  bx T_api_Msg t0 w fun t1 w =>
  efP P (Instr.alloc T_api_Msg true (.tuple #[])) w fun t2 w =>
  drH w fun S w =>
  jn1 (fun k0 =>
  fad 0 t1 fun t6 =>
  rdS S (fun w => ld1 t6 w.heap) fun t7 =>
  fad 1 t1 fun t8 =>
  rdS S (fun w => ld1 t8 w.heap) fun t9 =>
  fad 2 t1 fun t10 =>
  rdS S (fun w => ld1 t10 w.heap) fun t11 =>
  (efS S (cal P f_slices_Clone_api_ID_api_ID [t11]) w fun t12_1 w =>
  rdS S (rdP P (Instr.build T_api_Msg #[(0, t7), (1, t9), (2, t12_1)])) fun t13_1 =>
  efS S (efP P (Instr.alloc T_api_Msg true (.tuple #[]))) w fun t3_1 w =>
  efC (fun w K => stN 4 t3_1 t13_1 w (K undef)) w fun S _ w =>
  k0 t3_1 w) ∧
  ((efS S (efP P (Instr.alloc T_api_Msg true (.tuple #[]))) w fun t3 w =>
  efS S (cal P f_slices_Clone_api_ID_api_ID [t11]) w fun t12 w =>
  rdS S (rdP P (Instr.build T_api_Msg #[(0, t7), (1, t9), (2, t12)])) fun t13 =>
  efC (fun w K => stN 4 t3 t13 w (K undef)) w fun S _ w =>
  k0 t3 w) ∧
  (True))) fun _ t3_2 w =>
  fad 3 t1 fun t14 =>
  ld1 t14 w.heap fun t15 =>
  lenS t15 fun t16 =>
  lp1 (Value.int IntKind.i64 0) w fun _ t17 w again1 =>
  bi BinOp.lss t17 t16 fun t18 =>
  cnd t18
  (ixs 1 t15 t17 fun t19 =>
  ld1 t19 w.heap fun t20 =>
  drH w fun S w =>
  fad 3 t3_2 fun t21 =>
  rdS S (fun w => ld1 t21 w.heap) fun t22 =>
  efS S (cal P f_bytes_Clone [t20]) w fun t24 w =>
  efS S (efP P (Instr.buildSlice T_sl_sl_uint8 1 #[(0, t24)])) w fun t25 w =>
  efC (efP P (Builtin.append_ #[T_sl_sl_uint8, T_sl_sl_uint8] T_sl_sl_uint8 #[t22, t25])) w fun S t26 w =>
  fad 3 t3_2 fun t27 =>
  efC (fun w K => st1 t27 t26 w (K undef)) w fun S _ w =>
  bi BinOp.add t17 (Value.int IntKind.i64 1) fun t28 =>
  again1 t28 w)
  (ldN 4 t3_2 w.heap fun t29 =>
  stN 4 t2 t29 w fun w =>
  ldN 4 t2 w.heap fun r2 =>
  R r2 w)
theorem e_msg_Clone (t0 : Value) (w : World) (R : Value → World → Prop) : intp P A_msg_Clone (bodyOf Try.f26) (ini [t0]) w (retK P Try.f26.results.toList R) (fun _ _ _ => False) (retK P Try.f26.results.toList R) = c_msg_Clone t0 w R := by kernel_rfl
theorem k_msg_Clone : chk P Try.f26.ntmps A_msg_Clone (bodyOf Try.f26) = true := by kernel_rfl
theorem l_msg_Clone {t0 : Value} {w : World} {R : Value → World → Prop} (h : c_msg_Clone t0 w R) : cal P f_msg_Clone [t0] w R :=
  calls_of mixed Try.func26 rfl (by kernel_rfl) k_msg_Clone (Eq.mpr (e_msg_Clone t0 w R) h)
theorem s_msg_Clone {t0 : Value} {w : World} {Q : Value → World → Prop} (h : ∀ R : Value → World → Prop, (∀ v w', Q v w' → R v w') → c_msg_Clone t0 w R) : cal P f_msg_Clone [t0] w Q := l_msg_Clone (h Q fun _ _ h => h)

/-- flurry/flurryref04.Check -/
def A_ref04_Check : An := (An.s (An.r []) (An.s (An.r []) (An.s (An.s (An.r [[21], [26]]) (An.s (An.s (An.r []) An.o) An.o)) (An.s (An.r []) (An.s (An.r []) (An.s (An.j [6, 7] (An.s (An.r []) (An.s (An.s (An.r []) (An.r [])) An.o))) (An.s (An.s (An.r [[48], [52]]) (An.s (An.s (An.r []) An.o) An.o)) (An.s (An.s (An.r []) (An.b (An.l [8] (An.s (An.s (An.r []) (An.s An.o An.o)) (An.s (An.b (An.s (An.r []) (An.s (An.s (An.r []) An.o) An.o))) (An.r [])))))) (An.s (An.r []) An.o)))))))))
def c_ref04_Check (t0 : Value) (w : World) (R : Value → World → Prop) : Prop :=
  bx T_api_Msg t0 w fun t1 w =>
  fad 0 t1 fun t10 =>
  ld1 t10 w.heap fun t11 =>
  cal P f_ref04_bears [t11] w fun t12 w =>
  ext 0 t12 fun t13 =>
  ext 1 t12 fun t14 =>
  ext 2 t12 fun t15 =>
  bi BinOp.lss t15 (Value.int IntKind.i64 0) fun t17 =>
  jn1 (fun k0 =>
  gif t17 false
  (fad 1 t1 fun t19 =>
  ld1 t19 w.heap fun t20 =>
  bi BinOp.lss t20 (Value.int IntKind.i64 0) fun t21 =>
  k0 t21 w)
  (k0 undef w)) fun _ t21_1 w =>
  pik t17 (Value.bool true) t21_1 fun t22 =>
  jn1 (fun k1 =>
  gif t22 false
  (fad 1 t1 fun t24 =>
  ld1 t24 w.heap fun t25 =>
  bi BinOp.gtr t25 (Value.int IntKind.i64 2147483647) fun t26 =>
  k1 t26 w)
  (k1 undef w)) fun _ t26_1 w =>
  pik t22 (Value.bool true) t26_1 fun t27 =>
  cnd t27
  (R (Value.int IntKind.i64 40) w)
  (fad 2 t1 fun t28 =>
  ld1 t28 w.heap fun t29 =>
  lenS t29 fun t30 =>
  fad 3 t1 fun t31 =>
  ld1 t31 w.heap fun t32 =>
  lenS t32 fun t33 =>
  jn2 (fun k2 =>
  bi BinOp.geq t15 (Value.int IntKind.i64 3) fun t35 =>
  cnd t35
  (fad 3 t1 fun t36 =>
  ld1 t36 w.heap fun t37 =>
  lenS t37 fun t38 =>
  fad 2 t1 fun t39 =>
  ld1 t39 w.heap fun t40 =>
  lenS t40 fun t41 =>
  k2 t38 t41 w)
  (k2 t30 t33 w)) fun _ t6 t7 w =>
  bi BinOp.lss t6 t13 fun t44 =>
  jn1 (fun k3 =>
  gif t44 false
  (bi BinOp.gtr t6 t14 fun t48 =>
  k3 t48 w)
  (k3 undef w)) fun _ t48_1 w =>
  pik t44 (Value.bool true) t48_1 fun t49 =>
  jn1 (fun k4 =>
  gif t49 false
  (bi BinOp.neq t7 (Value.int IntKind.i64 0) fun t52 =>
  k4 t52 w)
  (k4 undef w)) fun _ t52_1 w =>
  pik t49 (Value.bool true) t52_1 fun t53 =>
  cnd t53
  (R (Value.int IntKind.i64 40) w)
  (lp1 (Value.int IntKind.i64 0) w fun _ t8 w again5 =>
  fad 3 t1 fun t55 =>
  ld1 t55 w.heap fun t56 =>
  lenS t56 fun t57 =>
  bi BinOp.lss t8 t57 fun t58 =>
  cnd t58
  (fad 3 t1 fun t61 =>
  ld1 t61 w.heap fun t62 =>
  ixs 1 t62 t8 fun t64 =>
  ld1 t64 w.heap fun t65 =>
  lenS t65 fun t66 =>
  bi BinOp.gtr t66 (Value.int IntKind.i64 246) fun t67 =>
  cnd t67
  (R (Value.int IntKind.i64 40) w)
  (bi BinOp.add t8 (Value.int IntKind.i64 1) fun t60 =>
  again5 t60 w))
  (R (Value.int IntKind.i64 0) w)))
theorem e_ref04_Check (t0 : Value) (w : World) (R : Value → World → Prop) : intp P A_ref04_Check (bodyOf Try.f27) (ini [t0]) w (retK P Try.f27.results.toList R) (fun _ _ _ => False) (retK P Try.f27.results.toList R) = c_ref04_Check t0 w R := by kernel_rfl
theorem k_ref04_Check : chk P Try.f27.ntmps A_ref04_Check (bodyOf Try.f27) = true := by kernel_rfl
theorem l_ref04_Check {t0 : Value} {w : World} {R : Value → World → Prop} (h : c_ref04_Check t0 w R) : cal P f_ref04_Check [t0] w R :=
  calls_of mixed Try.func27 rfl (by kernel_rfl) k_ref04_Check (Eq.mpr (e_ref04_Check t0 w R) h)
theorem s_ref04_Check {t0 : Value} {w : World} {Q : Value → World → Prop} (h : ∀ R : Value → World → Prop, (∀ v w', Q v w' → R v w') → c_ref04_Check t0 w R) : cal P f_ref04_Check [t0] w Q := l_ref04_Check (h Q fun _ _ h => h)

/-- flurry/pack.New -/
def A_pack_New : An := (An.s (An.r []) (An.s (An.r []) (An.s (An.r []) (An.s (An.s (An.r [[15]]) (An.s (An.r []) An.o)) (An.s (An.r []) An.o)))))
def c_pack_New (t0 : Value) (w : World) (R : Value → World → Prop) : Prop :=
  rdP P (Instr.build T_pack_Packer #[(1, t0)]) w fun t5 =>
  bx T_pack_Packer t5 w fun t6 w =>
  nilc t6 fun t8 =>
  fad 0 t8 fun t9 =>
  fad 0 t9 fun t10 =>
  st1 t10 (Value.bool true) w fun w =>
  bi BinOp.lss t0 (Value.int IntKind.i64 0) fun t12 =>
  jn1 (fun k0 =>
  gif t12 false
  (bi BinOp.gtr t0 (Value.int IntKind.i64 8192) fun t15 =>
  k0 t15 w)
  (k0 undef w)) fun _ t15_1 w =>
  pik t12 (Value.bool true) t15_1 fun t16 =>
  cnd t16
  (nilc t6 fun t18 =>
  fad 0 t18 fun t19 =>
  fad 2 t19 fun t20 =>
  st1 t20 (Value.int IntKind.i64 1) w fun w =>
  R t6 w)
  (R t6 w)
theorem e_pack_New (t0 : Value) (w : World) (R : Value → World → Prop) : intp P A_pack_New (bodyOf Try.f28) (ini [t0]) w (retK P Try.f28.results.toList R) (fun _ _ _ => False) (retK P Try.f28.results.toList R) = c_pack_New t0 w R := by kernel_rfl
theorem k_pack_New : chk P Try.f28.ntmps A_pack_New (bodyOf Try.f28) = true := by kernel_rfl
theorem l_pack_New {t0 : Value} {w : World} {R : Value → World → Prop} (h : c_pack_New t0 w R) : cal P f_pack_New [t0] w R :=
  calls_of mixed Try.func28 rfl (by kernel_rfl) k_pack_New (Eq.mpr (e_pack_New t0 w R) h)
theorem s_pack_New {t0 : Value} {w : World} {Q : Value → World → Prop} (h : ∀ R : Value → World → Prop, (∀ v w', Q v w' → R v w') → c_pack_New t0 w R) : cal P f_pack_New [t0] w Q := l_pack_New (h Q fun _ _ h => h)

/-- (*flurry/pack.Packer).Byte -/
def A_pack_Packer_Byte : An := (An.r [])
def c_pack_Packer_Byte (t0 t1 : Value) (w : World) (R : Value → World → Prop) : Prop :=
  cvi IntKind.u64 t1 fun t6 =>
  cal P f_pack_number [(Value.int IntKind.i64 1), t6] w fun t7 w =>
  cal P f_pack_Packer_put [t0, t7, (Value.slice none 0 0)] w fun t8 w =>
  R (Value.tuple #[]) w
theorem e_pack_Packer_Byte (t0 t1 : Value) (w : World) (R : Value → World → Prop) : intp P A_pack_Packer_Byte (bodyOf Try.f29) (ini [t0, t1]) w (retK P Try.f29.results.toList R) (fun _ _ _ => False) (retK P Try.f29.results.toList R) = c_pack_Packer_Byte t0 t1 w R := by kernel_rfl
theorem k_pack_Packer_Byte : chk P Try.f29.ntmps A_pack_Packer_Byte (bodyOf Try.f29) = true := by kernel_rfl
theorem l_pack_Packer_Byte {t0 t1 : Value} {w : World} {R : Value → World → Prop} (h : c_pack_Packer_Byte t0 t1 w R) : cal P f_pack_Packer_Byte [t0, t1] w R :=
  calls_of mixed Try.func29 rfl (by kernel_rfl) k_pack_Packer_Byte (Eq.mpr (e_pack_Packer_Byte t0 t1 w R) h)
theorem s_pack_Packer_Byte {t0 t1 : Value} {w : World} {Q : Value → World → Prop} (h : ∀ R : Value → World → Prop, (∀ v w', Q v w' → R v w') → c_pack_Packer_Byte t0 t1 w R) : cal P f_pack_Packer_Byte [t0, t1] w Q := l_pack_Packer_Byte (h Q fun _ _ h => h)

/-- (*flurry/pack.Packer).Int -/
def A_pack_Packer_Int : An := (An.r [])
def c_pack_Packer_Int (t0 t1 : Value) (w : World) (R : Value → World → Prop) : Prop :=
  cvi IntKind.u64 t1 fun t6 =>
  cal P f_pack_number [(Value.int IntKind.i64 4), t6] w fun t7 w =>
  cal P f_pack_Packer_put [t0, t7, (Value.slice none 0 0)] w fun t8 w =>
  R (Value.tuple #[]) w
theorem e_pack_Packer_Int (t0 t1 : Value) (w : World) (R : Value → World → Prop) : intp P A_pack_Packer_Int (bodyOf Try.f30) (ini [t0, t1]) w (retK P Try.f30.results.toList R) (fun _ _ _ => False) (retK P Try.f30.results.toList R) = c_pack_Packer_Int t0 t1 w R := by kernel_rfl
theorem k_pack_Packer_Int : chk P Try.f30.ntmps A_pack_Packer_Int (bodyOf Try.f30) = true := by kernel_rfl
theorem l_pack_Packer_Int {t0 t1 : Value} {w : World} {R : Value → World → Prop} (h : c_pack_Packer_Int t0 t1 w R) : cal P f_pack_Packer_Int [t0, t1] w R :=
  calls_of mixed Try.func30 rfl (by kernel_rfl) k_pack_Packer_Int (Eq.mpr (e_pack_Packer_Int t0 t1 w R) h)
theorem s_pack_Packer_Int {t0 t1 : Value} {w : World} {Q : Value → World → Prop} (h : ∀ R : Value → World → Prop, (∀ v w', Q v w' → R v w') → c_pack_Packer_Int t0 t1 w R) : cal P f_pack_Packer_Int [t0, t1] w Q := l_pack_Packer_Int (h Q fun _ _ h => h)

/-- flurry/msg.counts -/
def A_msg_counts : An := (An.s (An.r []) (An.s (An.s (An.r []) (An.s (An.r []) (An.s (An.s (An.r []) An.o) An.o))) (An.s (An.r []) (An.s (An.r [[22]]) An.o))))
def c_msg_counts (t0 : Value) (w : World) (R : Value → World → Prop) : Prop :=
  rdP P (Instr.typeAssert t0 T_msg_body T_msg_names true) w fun t9 =>
  ext 0 t9 fun t10 =>
  ext 1 t9 fun t11 =>
  efP P (Instr.alloc T_msg_names true (.tuple #[])) w fun t3 w =>
  stN 0 t3 t10 w fun w =>
  cnd t11
  (R (Value.bool true) w)
  (rdP P (Instr.typeAssert t0 T_msg_body T_msg_blocks true) w fun t15 =>
  ext 0 t15 fun t16 =>
  ext 1 t15 fun t17 =>
  efP P (Instr.alloc T_msg_blocks true (.tuple #[])) w fun t5 w =>
  stN 1 t5 t16 w fun w =>
  jn1 (fun k0 =>
  gif t17 true
  (fad 0 t5 fun t20 =>
  ld1 t20 w.heap fun t21 =>
  notB t21 fun t22 =>
  k0 t22 w)
  (k0 undef w)) fun _ t22_1 w =>
  pik t17 t22_1 (Value.bool false) fun t23 =>
  R t23 w)
theorem e_msg_counts (t0 : Value) (w : World) (R : Value → World → Prop) : intp P A_msg_counts (bodyOf Try.f31) (ini [t0]) w (retK P Try.f31.results.toList R) (fun _ _ _ => False) (retK P Try.f31.results.toList R) = c_msg_counts t0 w R := by kernel_rfl
theorem k_msg_counts : chk P Try.f31.ntmps A_msg_counts (bodyOf Try.f31) = true := by kernel_rfl
theorem l_msg_counts {t0 : Value} {w : World} {R : Value → World → Prop} (h : c_msg_counts t0 w R) : cal P f_msg_counts [t0] w R :=
  calls_of mixed Try.func31 rfl (by kernel_rfl) k_msg_counts (Eq.mpr (e_msg_counts t0 w R) h)
theorem s_msg_counts {t0 : Value} {w : World} {Q : Value → World → Prop} (h : ∀ R : Value → World → Prop, (∀ v w', Q v w' → R v w') → c_msg_counts t0 w R) : cal P f_msg_counts [t0] w Q := l_msg_counts (h Q fun _ _ h => h)

/-- flurry/msg.bears -/
def A_msg_bears : An := (An.s (An.r []) (An.s (An.s (An.r []) (An.b (An.s (An.r []) (An.s (An.s (An.r []) An.o) (An.s (An.j [8] (An.s (An.r []) (An.s An.o (An.s (An.r []) (An.s An.o (An.s (An.r []) (An.s An.o (An.r [])))))))) (An.s (An.s (An.r []) An.o) (An.s (An.r []) (An.s (An.s (An.r []) An.o) (An.s (An.j [19] (An.s (An.r []) (An.s An.o (An.r [])))) (An.s (An.s (An.r []) An.o) (An.s (An.r []) (An.s (An.s (An.r []) An.o) (An.s (An.j [28] (An.s (An.r []) (An.s An.o (An.r [])))) (An.s (An.s (An.r []) An.o) An.o)))))))))))))) (An.s (An.r []) An.o)))
def c_msg_bears (t0 : Value) (w : World) (R : Value → World → Prop) : Prop :=
  bi BinOp.eql t0 (Value.int IntKind.i64 1) fun t5 =>
  cnd t5
  (rdP P (Instr.build T_msg_nothing #[]) w fun t6 =>
  rdP P (Instr.makeInterface T_msg_nothing t6) w fun t7 =>
  R t7 w)
  (jn1 (fun k0 =>
  bi BinOp.eql t0 (Value.int IntKind.i64 2) fun t9 =>
  cnd t9
  (k0 t9 w)
  (bi BinOp.eql t0 (Value.int IntKind.i64 5) fun t10 =>
  cnd t10
  (k0 t10 w)
  (bi BinOp.eql t0 (Value.int IntKind.i64 7) fun t11 =>
  cnd t11
  (k0 t11 w)
  (bi BinOp.eql t0 (Value.int IntKind.i64 10) fun t12 =>
  k0 t12 w)))) fun _ t8 w =>
  cnd t8
  (rdP P (Instr.build T_msg_some #[(0, (Value.int IntKind.i64 1))]) w fun t13 =>
  rdP P (Instr.makeInterface T_msg_some t13) w fun t14 =>
  R t14 w)
  (bi BinOp.eql t0 (Value.int IntKind.i64 11) fun t16 =>
  cnd t16
  (rdP P (Instr.build T_msg_some #[(0, (Value.int IntKind.i64 2))]) w fun t17 =>
  rdP P (Instr.makeInterface T_msg_some t17) w fun t18 =>
  R t18 w)
  (jn1 (fun k1 =>
  bi BinOp.eql t0 (Value.int IntKind.i64 3) fun t20 =>
  cnd t20
  (k1 t20 w)
  (bi BinOp.eql t0 (Value.int IntKind.i64 4) fun t21 =>
  k1 t21 w)) fun _ t19 w =>
  cnd t19
  (rdP P (Instr.build T_msg_names #[]) w fun t22 =>
  rdP P (Instr.makeInterface T_msg_names t22) w fun t23 =>
  R t23 w)
  (bi BinOp.eql t0 (Value.int IntKind.i64 6) fun t25 =>
  cnd t25
  (rdP P (Instr.build T_msg_blocks #[]) w fun t26 =>
  rdP P (Instr.makeInterface T_msg_blocks t26) w fun t27 =>
  R t27 w)
  (jn1 (fun k2 =>
  bi BinOp.eql t0 (Value.int IntKind.i64 8) fun t29 =>
  cnd t29
  (k2 t29 w)
  (bi BinOp.eql t0 (Value.int IntKind.i64 9) fun t30 =>
  k2 t30 w)) fun _ t28 w =>
  cnd t28
  (rdP P (Instr.build T_msg_blocks #[(0, (Value.bool true))]) w fun t31 =>
  rdP P (Instr.makeInterface T_msg_blocks t31) w fun t32 =>
  R t32 w)
  (R Value.nilIface w))))))
theorem e_msg_bears (t0 : Value) (w : World) (R : Value → World → Prop) : intp P A_msg_bears (bodyOf Try.f32) (ini [t0]) w (retK P Try.f32.results.toList R) (fun _ _ _ => False) (retK P Try.f32.results.toList R) = c_msg_bears t0 w R := by kernel_rfl
theorem k_msg_bears : chk P Try.f32.ntmps A_msg_bears (bodyOf Try.f32) = true := by kernel_rfl
theorem l_msg_bears {t0 : Value} {w : World} {R : Value → World → Prop} (h : c_msg_bears t0 w R) : cal P f_msg_bears [t0] w R :=
  calls_of mixed Try.func32 rfl (by kernel_rfl) k_msg_bears (Eq.mpr (e_msg_bears t0 w R) h)
theorem s_msg_bears {t0 : Value} {w : World} {Q : Value → World → Prop} (h : ∀ R : Value → World → Prop, (∀ v w', Q v w' → R v w') → c_msg_bears t0 w R) : cal P f_msg_bears [t0] w Q := l_msg_bears (h Q fun _ _ h => h)

/-- (*flurry/pack.Packer).Fixed -/
def A_pack_Packer_Fixed : An := (An.r [])
def c_pack_Packer_Fixed (t0 t1 : Value) (w : World) (R : Value → World → Prop) : Prop :=
  cal P f_pack_Packer_put [t0, (Value.slice none 0 0), t1] w fun t6 w =>
  R (Value.tuple #[]) w
theorem e_pack_Packer_Fixed (t0 t1 : Value) (w : World) (R : Value → World → Prop) : intp P A_pack_Packer_Fixed (bodyOf Try.f33) (ini [t0, t1]) w (retK P Try.f33.results.toList R) (fun _ _ _ => False) (retK P Try.f33.results.toList R) = c_pack_Packer_Fixed t0 t1 w R := by kernel_rfl
theorem k_pack_Packer_Fixed : chk P Try.f33.ntmps A_pack_Packer_Fixed (bodyOf Try.f33) = true := by kernel_rfl
theorem l_pack_Packer_Fixed {t0 t1 : Value} {w : World} {R : Value → World → Prop} (h : c_pack_Packer_Fixed t0 t1 w R) : cal P f_pack_Packer_Fixed [t0, t1] w R :=
  calls_of mixed Try.func33 rfl (by kernel_rfl) k_pack_Packer_Fixed (Eq.mpr (e_pack_Packer_Fixed t0 t1 w R) h)
theorem s_pack_Packer_Fixed {t0 t1 : Value} {w : World} {Q : Value → World → Prop} (h : ∀ R : Value → World → Prop, (∀ v w', Q v w' → R v w') → c_pack_Packer_Fixed t0 t1 w R) : cal P f_pack_Packer_Fixed [t0, t1] w Q := l_pack_Packer_Fixed (h Q fun _ _ h => h)

/-- (*flurry/pack.Packer).Bytes -/
def A_pack_Packer_Bytes : An := (An.r [])
def c_pack_Packer_Bytes (t0 t1 : Value) (w : World) (R : Value → World → Prop) : Prop :=
  lenS t1 fun t6 =>
  cvi IntKind.u64 t6 fun t7 =>
  cal P f_pack_number [(Value.int IntKind.i64 4), t7] w fun t8 w =>
  cal P f_pack_Packer_put [t0, t8, t1] w fun t10 w =>
  R (Value.tuple #[]) w
theorem e_pack_Packer_Bytes (t0 t1 : Value) (w : World) (R : Value → World → Prop) : intp P A_pack_Packer_Bytes (bodyOf Try.f34) (ini [t0, t1]) w (retK P Try.f34.results.toList R) (fun _ _ _ => False) (retK P Try.f34.results.toList R) = c_pack_Packer_Bytes t0 t1 w R := by kernel_rfl
theorem k_pack_Packer_Bytes : chk P Try.f34.ntmps A_pack_Packer_Bytes (bodyOf Try.f34) = true := by kernel_rfl
theorem l_pack_Packer_Bytes {t0 t1 : Value} {w : World} {R : Value → World → Prop} (h : c_pack_Packer_Bytes t0 t1 w R) : cal P f_pack_Packer_Bytes [t0, t1] w R :=
  calls_of mixed Try.func34 rfl (by kernel_rfl) k_pack_Packer_Bytes (Eq.mpr (e_pack_Packer_Bytes t0 t1 w R) h)
theorem s_pack_Packer_Bytes {t0 t1 : Value} {w : World} {Q : Value → World → Prop} (h : ∀ R : Value → World → Prop, (∀ v w', Q v w' → R v w') → c_pack_Packer_Bytes t0 t1 w R) : cal P f_pack_Packer_Bytes [t0, t1] w Q := l_pack_Packer_Bytes (h Q fun _ _ h => h)

/-- (*flurry/pack.Packer).Out -/
def A_pack_Packer_Out : An := (An.s (An.r []) (An.s (An.s (An.r []) (An.s (An.r []) (An.s (An.s (An.r []) An.o) An.o))) (An.s (An.r []) (An.s (An.r []) (An.s (An.r []) An.o)))))
def c_pack_Packer_Out (t0 : Value) (w : World) (R : Value → World → Prop) : Prop :=
  cal P f_pack_Packer_Err [t0] w fun t7 w =>
  bi BinOp.neq t7 (Value.int IntKind.i64 0) fun t9 =>
  cnd t9
  (R (Value.tuple #[(Value.slice none 0 0), t7]) w)
  (nilc t0 fun t12 =>
  fad 0 t12 fun t13 =>
  fad 1 t13 fun t14 =>
  ld1 t14 w.heap fun t15 =>
  lenS t15 fun t16 =>
  efP P (Instr.makeSlice T_sl_uint8 t16 t16) w fun t17 w =>
  nilc t0 fun t20 =>
  fad 0 t20 fun t21 =>
  fad 1 t21 fun t22 =>
  ld1 t22 w.heap fun t23 =>
  efP P (Builtin.copy_ #[T_sl_uint8, T_sl_uint8] T_int #[t17, t23]) w fun t24 w =>
  R (Value.tuple #[t17, (Value.int IntKind.i64 0)]) w)
theorem e_pack_Packer_Out (t0 : Value) (w : World) (R : Value → World → Prop) : intp P A_pack_Packer_Out (bodyOf Try.f35) (ini [t0]) w (retK P Try.f35.results.toList R) (fun _ _ _ => False) (retK P Try.f35.results.toList R) = c_pack_Packer_Out t0 w R := by kernel_rfl
theorem k_pack_Packer_Out : chk P Try.f35.ntmps A_pack_Packer_Out (bodyOf Try.f35) = true := by kernel_rfl
theorem l_pack_Packer_Out {t0 : Value} {w : World} {R : Value → World → Prop} (h : c_pack_Packer_Out t0 w R) : cal P f_pack_Packer_Out [t0] w R :=
  calls_of mixed Try.func35 rfl (by kernel_rfl) k_pack_Packer_Out (Eq.mpr (e_pack_Packer_Out t0 w R) h)
theorem s_pack_Packer_Out {t0 : Value} {w : World} {Q : Value → World → Prop} (h : ∀ R : Value → World → Prop, (∀ v w', Q v w' → R v w') → c_pack_Packer_Out t0 w R) : cal P f_pack_Packer_Out [t0] w Q := l_pack_Packer_Out (h Q fun _ _ h => h)

/-- flurry/flurryref04.bears -/
def A_ref04_bears : An := (An.s (An.r []) (An.s (An.r []) (An.b (An.s (An.r []) (An.s (An.s (An.r []) An.o) (An.s (An.j [8] (An.s (An.r []) (An.s An.o (An.s (An.r []) (An.s An.o (An.s (An.r []) (An.s An.o (An.r [])))))))) (An.s (An.s (An.r []) An.o) (An.s (An.r []) (An.s (An.s (An.r []) An.o) (An.s (An.j [15] (An.s (An.r []) (An.s An.o (An.r [])))) (An.s (An.s (An.r []) An.o) (An.s (An.j [18] (An.s (An.r []) (An.s An.o (An.r [])))) (An.s (An.s (An.r []) An.o) (An.s (An.r []) (An.s (An.s (An.r []) An.o) (An.s (An.r []) An.o))))))))))))))))
def c_ref04_bears (t0 : Value) (w : World) (R : Value → World → Prop) : Prop :=
  bi BinOp.eql t0 (Value.int IntKind.i64 1) fun t7 =>
  cnd t7
  (R (Value.tuple #[(Value.int IntKind.i64 0), (Value.int IntKind.i64 0), (Value.int IntKind.i64 0)]) w)
  (jn1 (fun k0 =>
  bi BinOp.eql t0 (Value.int IntKind.i64 2) fun t9 =>
  cnd t9
  (k0 t9 w)
  (bi BinOp.eql t0 (Value.int IntKind.i64 5) fun t10 =>
  cnd t10
  (k0 t10 w)
  (bi BinOp.eql t0 (Value.int IntKind.i64 7) fun t11 =>
  cnd t11
  (k0 t11 w)
  (bi BinOp.eql t0 (Value.int IntKind.i64 10) fun t12 =>
  k0 t12 w)))) fun _ t8 w =>
  cnd t8
  (R (Value.tuple #[(Value.int IntKind.i64 1), (Value.int IntKind.i64 1), (Value.int IntKind.i64 1)]) w)
  (bi BinOp.eql t0 (Value.int IntKind.i64 11) fun t14 =>
  cnd t14
  (R (Value.tuple #[(Value.int IntKind.i64 2), (Value.int IntKind.i64 2), (Value.int IntKind.i64 1)]) w)
  (jn1 (fun k1 =>
  bi BinOp.eql t0 (Value.int IntKind.i64 3) fun t16 =>
  cnd t16
  (k1 t16 w)
  (bi BinOp.eql t0 (Value.int IntKind.i64 4) fun t17 =>
  k1 t17 w)) fun _ t15 w =>
  cnd t15
  (R (Value.tuple #[(Value.int IntKind.i64 0), (Value.int IntKind.i64 32), (Value.int IntKind.i64 2)]) w)
  (jn1 (fun k2 =>
  bi BinOp.eql t0 (Value.int IntKind.i64 8) fun t19 =>
  cnd t19
  (k2 t19 w)
  (bi BinOp.eql t0 (Value.int IntKind.i64 9) fun t20 =>
  k2 t20 w)) fun _ t18 w =>
  cnd t18
  (R (Value.tuple #[(Value.int IntKind.i64 1), (Value.int IntKind.i64 1), (Value.int IntKind.i64 3)]) w)
  (bi BinOp.eql t0 (Value.int IntKind.i64 6) fun t22 =>
  cnd t22
  (R (Value.tuple #[(Value.int IntKind.i64 0), (Value.int IntKind.i64 16), (Value.int IntKind.i64 4)]) w)
  (R (Value.tuple #[(Value.int IntKind.i64 0), (Value.int IntKind.i64 0), (Value.int IntKind.i64 (-1))]) w))))))
theorem e_ref04_bears (t0 : Value) (w : World) (R : Value → World → Prop) : intp P A_ref04_bears (bodyOf Try.f36) (ini [t0]) w (retK P Try.f36.results.toList R) (fun _ _ _ => False) (retK P Try.f36.results.toList R) = c_ref04_bears t0 w R := by kernel_rfl
theorem k_ref04_bears : chk P Try.f36.ntmps A_ref04_bears (bodyOf Try.f36) = true := by kernel_rfl
theorem l_ref04_bears {t0 : Value} {w : World} {R : Value → World → Prop} (h : c_ref04_bears t0 w R) : cal P f_ref04_bears [t0] w R :=
  calls_of mixed Try.func36 rfl (by kernel_rfl) k_ref04_bears (Eq.mpr (e_ref04_bears t0 w R) h)
theorem s_ref04_bears {t0 : Value} {w : World} {Q : Value → World → Prop} (h : ∀ R : Value → World → Prop, (∀ v w', Q v w' → R v w') → c_ref04_bears t0 w R) : cal P f_ref04_bears [t0] w Q := l_ref04_bears (h Q fun _ _ h => h)

/-- flurry/flurryref04.four -/
def A_ref04_four : An := (An.s (An.r []) (An.s (An.r []) An.o))
def c_ref04_four (t0 t1 : Value) (w : World) (R : Value → World → Prop) : Prop :=
  sh BinOp.shr t1 (Value.int IntKind.u64 24) fun t7 =>
  cvi IntKind.u8 t7 fun t8 =>
  sh BinOp.shr t1 (Value.int IntKind.u64 16) fun t10 =>
  cvi IntKind.u8 t10 fun t11 =>
  sh BinOp.shr t1 (Value.int IntKind.u64 8) fun t13 =>
  cvi IntKind.u8 t13 fun t14 =>
  cvi IntKind.u8 t1 fun t16 =>
  efP P (Instr.buildSlice T_sl_uint8 4 #[(0, t8), (1, t11), (2, t14), (3, t16)]) w fun t17 w =>
  efP P (Builtin.append_ #[T_sl_uint8, T_sl_uint8] T_sl_uint8 #[t0, t17]) w fun t18 w =>
  R t18 w
theorem e_ref04_four (t0 t1 : Value) (w : World) (R : Value → World → Prop) : intp P A_ref04_four (bodyOf Try.f37) (ini [t0, t1]) w (retK P Try.f37.results.toList R) (fun _ _ _ => False) (retK P Try.f37.results.toList R) = c_ref04_four t0 t1 w R := by kernel_rfl
theorem k_ref04_four : chk P Try.f37.ntmps A_ref04_four (bodyOf Try.f37) = true := by kernel_rfl
theorem l_ref04_four {t0 t1 : Value} {w : World} {R : Value → World → Prop} (h : c_ref04_four t0 t1 w R) : cal P f_ref04_four [t0, t1] w R :=
  calls_of mixed Try.func37 rfl (by kernel_rfl) k_ref04_four (Eq.mpr (e_ref04_four t0 t1 w R) h)
theorem s_ref04_four {t0 t1 : Value} {w : World} {Q : Value → World → Prop} (h : ∀ R : Value → World → Prop, (∀ v w', Q v w' → R v w') → c_ref04_four t0 t1 w R) : cal P f_ref04_four [t0, t1] w Q := l_ref04_four (h Q fun _ _ h => h)

/-- flurry/pack.Read -/
def A_pack_Read : An := (An.s (An.r []) (An.s (An.r []) (An.s (An.r []) (An.s (An.r []) (An.s (An.r []) (An.s (An.r []) An.o))))))
def c_pack_Read (t0 : Value) (w : World) (R : Value → World → Prop) : Prop :=
  rdP P (Instr.build T_pack_Unpacker #[]) w fun t4 =>
  bx T_pack_Unpacker t4 w fun t5 w =>
  nilc t5 fun t7 =>
  fad 0 t7 fun t8 =>
  fad 0 t8 fun t9 =>
  st1 t9 (Value.bool true) w fun w =>
  lenS t0 fun t12 =>
  efP P (Instr.makeSlice T_sl_uint8 t12 t12) w fun t13 w =>
  nilc t5 fun t14 =>
  fad 0 t14 fun t15 =>
  fad 1 t15 fun t16 =>
  st1 t16 t13 w fun w =>
  nilc t5 fun t18 =>
  fad 0 t18 fun t19 =>
  fad 1 t19 fun t20 =>
  ld1 t20 w.heap fun t21 =>
  efP P (Builtin.copy_ #[T_sl_uint8, T_sl_uint8] T_int #[t21, t0]) w fun t23 w =>
  R t5 w
theorem e_pack_Read (t0 : Value) (w : World) (R : Value → World → Prop) : intp P A_pack_Read (bodyOf Try.f38) (ini [t0]) w (retK P Try.f38.results.toList R) (fun _ _ _ => False) (retK P Try.f38.results.toList R) = c_pack_Read t0 w R := by kernel_rfl
theorem k_pack_Read : chk P Try.f38.ntmps A_pack_Read (bodyOf Try.f38) = true := by kernel_rfl
theorem l_pack_Read {t0 : Value} {w : World} {R : Value → World → Prop} (h : c_pack_Read t0 w R) : cal P f_pack_Read [t0] w R :=
  calls_of mixed Try.func38 rfl (by kernel_rfl) k_pack_Read (Eq.mpr (e_pack_Read t0 w R) h)
theorem s_pack_Read {t0 : Value} {w : World} {Q : Value → World → Prop} (h : ∀ R : Value → World → Prop, (∀ v w', Q v w' → R v w') → c_pack_Read t0 w R) : cal P f_pack_Read [t0] w Q := l_pack_Read (h Q fun _ _ h => h)

/-- (*flurry/pack.Unpacker).Byte -/
def A_pack_Unpacker_Byte : An := (An.s (An.r []) (An.s (An.r []) An.o))
def c_pack_Unpacker_Byte (t0 : Value) (w : World) (R : Value → World → Prop) : Prop :=
  cal P f_pack_Unpacker_take [t0, (Value.int IntKind.i64 1)] w fun t4 w =>
  cal P f_pack_value [t4] w fun t5 w =>
  cvi IntKind.u8 t5 fun t6 =>
  R t6 w
theorem e_pack_Unpacker_Byte (t0 : Value) (w : World) (R : Value → World → Prop) : intp P A_pack_Unpacker_Byte (bodyOf Try.f39) (ini [t0]) w (retK P Try.f39.results.toList R) (fun _ _ _ => False) (retK P Try.f39.results.toList R) = c_pack_Unpacker_Byte t0 w R := by kernel_rfl
theorem k_pack_Unpacker_Byte : chk P Try.f39.ntmps A_pack_Unpacker_Byte (bodyOf Try.f39) = true := by kernel_rfl
theorem l_pack_Unpacker_Byte {t0 : Value} {w : World} {R : Value → World → Prop} (h : c_pack_Unpacker_Byte t0 w R) : cal P f_pack_Unpacker_Byte [t0] w R :=
  calls_of mixed Try.func39 rfl (by kernel_rfl) k_pack_Unpacker_Byte (Eq.mpr (e_pack_Unpacker_Byte t0 w R) h)
theorem s_pack_Unpacker_Byte {t0 : Value} {w : World} {Q : Value → World → Prop} (h : ∀ R : Value → World → Prop, (∀ v w', Q v w' → R v w') → c_pack_Unpacker_Byte t0 w R) : cal P f_pack_Unpacker_Byte [t0] w Q := l_pack_Unpacker_Byte (h Q fun _ _ h => h)

/-- (*flurry/pack.Unpacker).Int -/
def A_pack_Unpacker_Int : An := (An.s (An.r []) (An.s (An.r []) An.o))
def c_pack_Unpacker_Int (t0 : Value) (w : World) (R : Value → World → Prop) : Prop :=
  cal P f_pack_Unpacker_take [t0, (Value.int IntKind.i64 4)] w fun t4 w =>
  cal P f_pack_value [t4] w fun t5 w =>
  cvi IntKind.u32 t5 fun t6 =>
  R t6 w
theorem e_pack_Unpacker_Int (t0 : Value) (w : World) (R : Value → World → Prop) : intp P A_pack_Unpacker_Int (bodyOf Try.f40) (ini [t0]) w (retK P Try.f40.results.toList R) (fun _ _ _ => False) (retK P Try.f40.results.toList R) = c_pack_Unpacker_Int t0 w R := by kernel_rfl
theorem k_pack_Unpacker_Int : chk P Try.f40.ntmps A_pack_Unpacker_Int (bodyOf Try.f40) = true := by kernel_rfl
theorem l_pack_Unpacker_Int {t0 : Value} {w : World} {R : Value → World → Prop} (h : c_pack_Unpacker_Int t0 w R) : cal P f_pack_Unpacker_Int [t0] w R :=
  calls_of mixed Try.func40 rfl (by kernel_rfl) k_pack_Unpacker_Int (Eq.mpr (e_pack_Unpacker_Int t0 w R) h)
theorem s_pack_Unpacker_Int {t0 : Value} {w : World} {Q : Value → World → Prop} (h : ∀ R : Value → World → Prop, (∀ v w', Q v w' → R v w') → c_pack_Unpacker_Int t0 w R) : cal P f_pack_Unpacker_Int [t0] w Q := l_pack_Unpacker_Int (h Q fun _ _ h => h)

/-- flurry/msg.read -/
def A_msg_read : An := (An.s (An.r []) (An.s (An.r []) (An.s (An.r []) (An.s (An.j [6] (An.s (An.r []) (An.s (An.s (An.r []) (An.s (An.r []) (An.s (An.s (An.r []) An.o) An.o))) An.o))) (An.s (An.j [] (An.s (An.r []) (An.b (An.s (An.r []) (An.s (An.r []) (An.s (An.r []) (An.s (An.r []) (An.s (An.r []) (An.s (An.s (An.j [6] (An.s (An.r []) (An.s (An.r []) An.o))) (An.s (An.r []) (An.b (An.l [42] (An.s (An.r []) (An.s (An.s An.o An.o) (An.s (An.b (An.dc [0, 1, 2, 3, 4, 5, 6, 7] [5, 7] [])) (An.r [])))))))) An.o))))))))) (An.s (An.r []) An.o))))))
def c_msg_read (t0 t1 : Value) (w : World) (R : Value → World → Prop) : Prop :=
  bx T_api_Msg t1 w fun t3 w =>
  efP P (Instr.alloc T_api_Msg true (.tuple #[])) w fun t4 w =>
  fad 0 t3 fun t7 =>
  ld1 t7 w.heap fun t8 =>
  cal P f_msg_bears [t8] w fun t9 w =>
  jn1 (fun k0 =>
  cal P f_msg_counts [t9] w fun t11 w =>
  cnd t11
  (cal P f_pack_Unpacker_Int [t0] w fun t13 w =>
  cvi IntKind.i64 t13 fun t14 =>
  bi BinOp.gtr t14 (Value.int IntKind.i64 32) fun t16 =>
  cnd t16
  (rdP P (Instr.build T_api_Msg #[]) w fun t17 =>
  stN 4 t4 t17 w fun w =>
  ldN 4 t4 w.heap fun r1 =>
  R r1 w)
  (k0 t14 w))
  (k0 (Value.int IntKind.i64 0) w)) fun _ t6 w =>
  jn0 (fun k2 =>
  rdP P (Instr.typeAssert t9 T_msg_body T_msg_some true) w fun t19 =>
  ext 1 t19 fun t20 =>
  ext 0 t19 fun t21 =>
  cnd t20
  (rdP P (Instr.typeAssert t9 T_msg_body T_msg_some false) w fun t24 =>
  fldv 0 1 false t24 fun t25 =>
  cal P f_msg_take [t0, t25] w fun t26 w =>
  fad 2 t3 fun t27 =>
  st1 t27 t26 w fun w =>
  k2 w)
  (rdP P (Instr.typeAssert t9 T_msg_body T_msg_names true) w fun t28 =>
  ext 1 t28 fun t29 =>
  ext 0 t28 fun t30 =>
  cnd t29
  (cal P f_msg_take [t0, t6] w fun t33 w =>
  fad 2 t3 fun t34 =>
  st1 t34 t33 w fun w =>
  k2 w)
  (rdP P (Instr.typeAssert t9 T_msg_body T_msg_blocks true) w fun t35 =>
  ext 1 t35 fun t36 =>
  ext 0 t35 fun t37 =>
  cnd t36
  (jn1 (fun k3 =>
  rdP P (Instr.typeAssert t9 T_msg_body T_msg_blocks false) w fun t39 =>
  fldv 0 1 false t39 fun t40 =>
  cnd t40
  (k3 (Value.int IntKind.i64 1) w)
  (k3 t6 w)) fun _ t6_1 w =>
  lp1 (Value.int IntKind.i64 0) w fun _ t42 w again4 =>
  bi BinOp.lss t42 t6_1 fun t43 =>
  cnd t43
  (drH w fun S w =>
  fad 3 t3 fun t44 =>
  rdS S (fun w => ld1 t44 w.heap) fun t45 =>
  efS S (cal P f_pack_Unpacker_Bytes [t0, (Value.int IntKind.i64 246)]) w fun t47 w =>
  efS S (efP P (Instr.buildSlice T_sl_sl_uint8 1 #[(0, t47)])) w fun t48 w =>
  efC (efP P (Builtin.append_ #[T_sl_sl_uint8, T_sl_sl_uint8] T_sl_sl_uint8 #[t45, t48])) w fun S t49 w =>
  fad 3 t3 fun t50 =>
  efC (fun w K => st1 t50 t49 w (K undef)) w fun S _ w =>
  bi BinOp.add t42 (Value.int IntKind.i64 1) fun t51 =>
  again4 t51 w)
  (k2 w))
  (k2 w)))) fun _ w =>
  ldN 4 t3 w.heap fun t52 =>
  stN 4 t4 t52 w fun w =>
  ldN 4 t4 w.heap fun r5 =>
  R r5 w
theorem e_msg_read (t0 t1 : Value) (w : World) (R : Value → World → Prop) : intp P A_msg_read (bodyOf Try.f41) (ini [t0, t1]) w (retK P Try.f41.results.toList R) (fun _ _ _ => False) (retK P Try.f41.results.toList R) = c_msg_read t0 t1 w R := by kernel_rfl
theorem k_msg_read : chk P Try.f41.ntmps A_msg_read (bodyOf Try.f41) = true := by kernel_rfl
theorem l_msg_read {t0 t1 : Value} {w : World} {R : Value → World → Prop} (h : c_msg_read t0 t1 w R) : cal P f_msg_read [t0, t1] w R :=
  calls_of mixed Try.func41 rfl (by kernel_rfl) k_msg_read (Eq.mpr (e_msg_read t0 t1 w R) h)
theorem s_msg_read {t0 t1 : Value} {w : World} {Q : Value → World → Prop} (h : ∀ R : Value → World → Prop, (∀ v w', Q v w' → R v w') → c_msg_read t0 t1 w R) : cal P f_msg_read [t0, t1] w Q := l_msg_read (h Q fun _ _ h => h)

/-- (*flurry/pack.Unpacker).End -/
def A_pack_Unpacker_End : An := (An.s (An.r []) (An.s (An.s (An.r []) (An.s (An.r [[15]]) (An.s (An.s (An.r []) An.o) An.o))) (An.s (An.r []) An.o)))
def c_pack_Unpacker_End (t0 : Value) (w : World) (R : Value → World → Prop) : Prop :=
  cal P f_pack_Unpacker_Err [t0] w fun t5 w =>
  bi BinOp.neq t5 (Value.int IntKind.i64 0) fun t7 =>
  jn1 (fun k0 =>
  gif t7 false
  (nilc t0 fun t10 =>
  fad 0 t10 fun t11 =>
  fad 1 t11 fun t12 =>
  ld1 t12 w.heap fun t13 =>
  lenS t13 fun t14 =>
  bi BinOp.eql t14 (Value.int IntKind.i64 0) fun t15 =>
  k0 t15 w)
  (k0 undef w)) fun _ t15_1 w =>
  pik t7 (Value.bool true) t15_1 fun t16 =>
  cnd t16
  (R t5 w)
  (R (Value.int IntKind.i64 12) w)
theorem e_pack_Unpacker_End (t0 : Value) (w : World) (R : Value → World → Prop) : intp P A_pack_Unpacker_End (bodyOf Try.f42) (ini [t0]) w (retK P Try.f42.results.toList R) (fun _ _ _ => False) (retK P Try.f42.results.toList R) = c_pack_Unpacker_End t0 w R := by kernel_rfl
theorem k_pack_Unpacker_End : chk P Try.f42.ntmps A_pack_Unpacker_End (bodyOf Try.f42) = true := by kernel_rfl
theorem l_pack_Unpacker_End {t0 : Value} {w : World} {R : Value → World → Prop} (h : c_pack_Unpacker_End t0 w R) : cal P f_pack_Unpacker_End [t0] w R :=
  calls_of mixed Try.func42 rfl (by kernel_rfl) k_pack_Unpacker_End (Eq.mpr (e_pack_Unpacker_End t0 w R) h)
theorem s_pack_Unpacker_End {t0 : Value} {w : World} {Q : Value → World → Prop} (h : ∀ R : Value → World → Prop, (∀ v w', Q v w' → R v w') → c_pack_Unpacker_End t0 w R) : cal P f_pack_Unpacker_End [t0] w Q := l_pack_Unpacker_End (h Q fun _ _ h => h)

/-- flurry/flurryref04.num -/
def A_ref04_num : An := (An.s (An.r []) (An.s (An.s (An.r [[14]]) (An.s (An.s (An.r []) An.o) An.o)) (An.s (An.r []) An.o)))
def c_ref04_num (t0 t1 : Value) (w : World) (R : Value → World → Prop) : Prop :=
  lenS t0 fun t7 =>
  bi BinOp.gtr t1 t7 fun t8 =>
  jn1 (fun k0 =>
  gif t8 false
  (lenS t0 fun t11 =>
  bi BinOp.sub t11 t1 fun t13 =>
  bi BinOp.lss t13 (Value.int IntKind.i64 4) fun t14 =>
  k0 t14 w)
  (k0 undef w)) fun _ t14_1 w =>
  pik t8 (Value.bool true) t14_1 fun t15 =>
  cnd t15
  (R (Value.int IntKind.i64 (-1)) w)
  (drw w fun w =>
  ixs 1 t0 t1 fun t18 =>
  ld1 t18 w.heap fun t19 =>
  cvi IntKind.i64 t19 fun t20 =>
  bi BinOp.mul t20 (Value.int IntKind.i64 16777216) fun t21 =>
  bi BinOp.add t1 (Value.int IntKind.i64 1) fun t24 =>
  ixs 1 t0 t24 fun t25 =>
  ld1 t25 w.heap fun t26 =>
  cvi IntKind.i64 t26 fun t27 =>
  bi BinOp.mul t27 (Value.int IntKind.i64 65536) fun t28 =>
  bi BinOp.add t21 t28 fun t29 =>
  bi BinOp.add t1 (Value.int IntKind.i64 2) fun t32 =>
  ixs 1 t0 t32 fun t33 =>
  ld1 t33 w.heap fun t34 =>
  cvi IntKind.i64 t34 fun t35 =>
  bi BinOp.mul t35 (Value.int IntKind.i64 256) fun t36 =>
  bi BinOp.add t29 t36 fun t37 =>
  bi BinOp.add t1 (Value.int IntKind.i64 3) fun t40 =>
  ixs 1 t0 t40 fun t41 =>
  ld1 t41 w.heap fun t42 =>
  cvi IntKind.i64 t42 fun t43 =>
  bi BinOp.add t37 t43 fun t44 =>
  R t44 w)
theorem e_ref04_num (t0 t1 : Value) (w : World) (R : Value → World → Prop) : intp P A_ref04_num (bodyOf Try.f43) (ini [t0, t1]) w (retK P Try.f43.results.toList R) (fun _ _ _ => False) (retK P Try.f43.results.toList R) = c_ref04_num t0 t1 w R := by kernel_rfl
theorem k_ref04_num : chk P Try.f43.ntmps A_ref04_num (bodyOf Try.f43) = true := by kernel_rfl
theorem l_ref04_num {t0 t1 : Value} {w : World} {R : Value → World → Prop} (h : c_ref04_num t0 t1 w R) : cal P f_ref04_num [t0, t1] w R :=
  calls_of mixed Try.func43 rfl (by kernel_rfl) k_ref04_num (Eq.mpr (e_ref04_num t0 t1 w R) h)
theorem s_ref04_num {t0 t1 : Value} {w : World} {Q : Value → World → Prop} (h : ∀ R : Value → World → Prop, (∀ v w', Q v w' → R v w') → c_ref04_num t0 t1 w R) : cal P f_ref04_num [t0, t1] w Q := l_ref04_num (h Q fun _ _ h => h)

/-- flurry/msg.Check$1 -/
def A_msg_Check_1 : An := (An.s (An.r []) (An.s (An.r []) An.o))
def c_msg_Check_1 (t0 : Value) (w : World) (R : Value → World → Prop) : Prop :=
  lenS t0 fun t4 =>
  bi BinOp.gtr t4 (Value.int IntKind.i64 246) fun t5 =>
  R t5 w
theorem e_msg_Check_1 (t0 : Value) (w : World) (R : Value → World → Prop) : intp P A_msg_Check_1 (bodyOf Try.f44) (ini [t0]) w (retK P Try.f44.results.toList R) (fun _ _ _ => False) (retK P Try.f44.results.toList R) = c_msg_Check_1 t0 w R := by kernel_rfl
theorem k_msg_Check_1 : chk P Try.f44.ntmps A_msg_Check_1 (bodyOf Try.f44) = true := by kernel_rfl
theorem l_msg_Check_1 {t0 : Value} {w : World} {R : Value → World → Prop} (h : c_msg_Check_1 t0 w R) : cal P f_msg_Check_1 [t0] w R :=
  calls_of mixed Try.func44 rfl (by kernel_rfl) k_msg_Check_1 (Eq.mpr (e_msg_Check_1 t0 w R) h)
theorem s_msg_Check_1 {t0 : Value} {w : World} {Q : Value → World → Prop} (h : ∀ R : Value → World → Prop, (∀ v w', Q v w' → R v w') → c_msg_Check_1 t0 w R) : cal P f_msg_Check_1 [t0] w Q := l_msg_Check_1 (h Q fun _ _ h => h)

/-- flurry/msg.fits -/
def A_msg_fits : An := (An.s (An.r []) (An.s (An.r []) (An.s (An.s (An.r []) (An.s (An.r []) (An.s (An.s (An.r [[31]]) An.o) An.o))) (An.s (An.s (An.r []) (An.s (An.r []) (An.s (An.s (An.r [[43], [49], [51], [52]]) An.o) An.o))) (An.s (An.s (An.r []) (An.s (An.r []) (An.s (An.s (An.r [[64]]) An.o) An.o))) (An.s (An.r [[70]]) An.o))))))
def c_msg_fits (t0 t1 : Value) (w : World) (R : Value → World → Prop) : Prop :=
  bx T_api_Msg t0 w fun t2 w =>
  drw w fun w =>
  fad 2 t2 fun t13 =>
  ld1 t13 w.heap fun t14 =>
  lenS t14 fun t15 =>
  fad 3 t2 fun t16 =>
  ld1 t16 w.heap fun t17 =>
  lenS t17 fun t18 =>
  rdP P (Instr.typeAssert t1 T_msg_body T_msg_some true) w fun t21 =>
  ext 0 t21 fun t22 =>
  ext 1 t21 fun t23 =>
  efP P (Instr.alloc T_msg_some true (.tuple #[])) w fun t7 w =>
  stN 1 t7 t22 w fun w =>
  cnd t23
  (fad 0 t7 fun t26 =>
  ld1 t26 w.heap fun t27 =>
  bi BinOp.eql t15 t27 fun t28 =>
  jn1 (fun k0 =>
  gif t28 true
  (bi BinOp.eql t18 (Value.int IntKind.i64 0) fun t31 =>
  k0 t31 w)
  (k0 undef w)) fun _ t31_1 w =>
  pik t28 t31_1 (Value.bool false) fun t32 =>
  R t32 w)
  (rdP P (Instr.typeAssert t1 T_msg_body T_msg_blocks true) w fun t35 =>
  ext 0 t35 fun t36 =>
  ext 1 t35 fun t37 =>
  efP P (Instr.alloc T_msg_blocks true (.tuple #[])) w fun t9 w =>
  stN 1 t9 t36 w fun w =>
  cnd t37
  (bi BinOp.eql t15 (Value.int IntKind.i64 0) fun t40 =>
  jn1 (fun k1 =>
  gif t40 true
  (bi BinOp.leq t18 (Value.int IntKind.i64 16) fun t43 =>
  k1 t43 w)
  (k1 undef w)) fun _ t43_1 w =>
  pik t40 t43_1 (Value.bool false) fun t44 =>
  jn1 (fun k2 =>
  gif t44 true
  (fad 0 t9 fun t46 =>
  ld1 t46 w.heap fun t47 =>
  notB t47 fun t48 =>
  k2 t48 w)
  (k2 undef w)) fun _ t49 w =>
  jn1 (fun k3 =>
  gif t49 false
  (bi BinOp.eql t18 (Value.int IntKind.i64 1) fun t51 =>
  k3 t51 w)
  (k3 undef w)) fun _ t51_1 w =>
  jn1 (fun k4 =>
  gif t44 true
  (pik t49 (Value.bool true) t51_1 fun t52 =>
  k4 t52 w)
  (k4 undef w)) fun _ t52_1 w =>
  pik t44 t52_1 (Value.bool false) fun t53 =>
  R t53 w)
  (rdP P (Instr.typeAssert t1 T_msg_body T_msg_names true) w fun t56 =>
  ext 0 t56 fun t57 =>
  ext 1 t56 fun t58 =>
  efP P (Instr.alloc T_msg_names true (.tuple #[])) w fun t11 w =>
  stN 0 t11 t57 w fun w =>
  cnd t58
  (bi BinOp.leq t15 (Value.int IntKind.i64 32) fun t61 =>
  jn1 (fun k5 =>
  gif t61 true
  (bi BinOp.eql t18 (Value.int IntKind.i64 0) fun t64 =>
  k5 t64 w)
  (k5 undef w)) fun _ t64_1 w =>
  pik t61 t64_1 (Value.bool false) fun t65 =>
  R t65 w)
  (bi BinOp.eql t15 (Value.int IntKind.i64 0) fun t67 =>
  jn1 (fun k6 =>
  gif t67 true
  (bi BinOp.eql t18 (Value.int IntKind.i64 0) fun t70 =>
  k6 t70 w)
  (k6 undef w)) fun _ t70_1 w =>
  pik t67 t70_1 (Value.bool false) fun t71 =>
  R t71 w)))
theorem e_msg_fits (t0 t1 : Value) (w : World) (R : Value → World → Prop) : intp P A_msg_fits (bodyOf Try.f45) (ini [t0, t1]) w (retK P Try.f45.results.toList R) (fun _ _ _ => False) (retK P Try.f45.results.toList R) = c_msg_fits t0 t1 w R := by kernel_rfl
theorem k_msg_fits : chk P Try.f45.ntmps A_msg_fits (bodyOf Try.f45) = true := by kernel_rfl
theorem l_msg_fits {t0 t1 : Value} {w : World} {R : Value → World → Prop} (h : c_msg_fits t0 t1 w R) : cal P f_msg_fits [t0, t1] w R :=
  calls_of mixed Try.func45 rfl (by kernel_rfl) k_msg_fits (Eq.mpr (e_msg_fits t0 t1 w R) h)
theorem s_msg_fits {t0 t1 : Value} {w : World} {Q : Value → World → Prop} (h : ∀ R : Value → World → Prop, (∀ v w', Q v w' → R v w') → c_msg_fits t0 t1 w R) : cal P f_msg_fits [t0, t1] w Q := l_msg_fits (h Q fun _ _ h => h)

/-- slices.ContainsFunc[[][]byte,[]byte] -/
def A_slices_ContainsFunc_byte_byte : An := (An.s (An.r []) (An.s (An.r []) An.o))
def c_slices_ContainsFunc_byte_byte (t0 t1 : Value) (w : World) (R : Value → World → Prop) : Prop :=
  cal P f_slices_IndexFunc_byte_byte [t0, t1] w fun t7 w =>
  bi BinOp.geq t7 (Value.int IntKind.i64 0) fun t8 =>
  R t8 w
theorem e_slices_ContainsFunc_byte_byte (t0 t1 : Value) (w : World) (R : Value → World → Prop) : intp P A_slices_ContainsFunc_byte_byte (bodyOf Try.f46) (ini [t0, t1]) w (retK P Try.f46.results.toList R) (fun _ _ _ => False) (retK P Try.f46.results.toList R) = c_slices_ContainsFunc_byte_byte t0 t1 w R := by kernel_rfl
theorem k_slices_ContainsFunc_byte_byte : chk P Try.f46.ntmps A_slices_ContainsFunc_byte_byte (bodyOf Try.f46) = true := by kernel_rfl
theorem l_slices_ContainsFunc_byte_byte {t0 t1 : Value} {w : World} {R : Value → World → Prop} (h : c_slices_ContainsFunc_byte_byte t0 t1 w R) : cal P f_slices_ContainsFunc_byte_byte [t0, t1] w R :=
  calls_of mixed Try.func46 rfl (by kernel_rfl) k_slices_ContainsFunc_byte_byte (Eq.mpr (e_slices_ContainsFunc_byte_byte t0 t1 w R) h)
theorem s_slices_ContainsFunc_byte_byte {t0 t1 : Value} {w : World} {Q : Value → World → Prop} (h : ∀ R : Value → World → Prop, (∀ v w', Q v w' → R v w') → c_slices_ContainsFunc_byte_byte t0 t1 w R) : cal P f_slices_ContainsFunc_byte_byte [t0, t1] w Q := l_slices_ContainsFunc_byte_byte (h Q fun _ _ h => h)

/-- slices.Equal[[]flurry/api.ID,flurry/api.ID] -/
def A_slices_Equal_api_ID_api_ID : An := (An.s (An.r []) (An.s (An.s (An.r []) (An.s (An.s (An.r []) An.o) An.o)) (An.s (An.s (An.r []) (An.b (An.l [13] (An.s (An.r []) (An.s (An.s An.o An.o) (An.s (An.b (An.s (An.r []) (An.s (An.r []) (An.s (An.s (An.r []) An.o) An.o)))) (An.r []))))))) (An.s (An.r []) An.o))))
def c_slices_Equal_api_ID_api_ID (t0 t1 : Value) (w : World) (R : Value → World → Prop) : Prop :=
  lenS t0 fun t7 =>
  lenS t1 fun t9 =>
  bi BinOp.neq t7 t9 fun t10 =>
  cnd t10
  (R (Value.bool false) w)
  (lenS t0 fun t12 =>
  lp1 (Value.int IntKind.i64 0) w fun _ t13 w again0 =>
  bi BinOp.lss t13 t12 fun t14 =>
  cnd t14
  (drw w fun w =>
  ixs 32 t0 t13 fun t18 =>
  ldN 32 t18 w.heap fun t19 =>
  ixs 32 t1 t13 fun t22 =>
  ldN 32 t22 w.heap fun t23 =>
  rdP P (eqS BinOp.neq T_api_ID (Operand.tmp 19) (Operand.tmp 23) t19 t23) w fun t24 =>
  cnd t24
  (R (Value.bool false) w)
  (bi BinOp.add t13 (Value.int IntKind.i64 1) fun t25 =>
  again0 t25 w))
  (R (Value.bool true) w))
theorem e_slices_Equal_api_ID_api_ID (t0 t1 : Value) (w : World) (R : Value → World → Prop) : intp P A_slices_Equal_api_ID_api_ID (bodyOf Try.f47) (ini [t0, t1]) w (retK P Try.f47.results.toList R) (fun _ _ _ => False) (retK P Try.f47.results.toList R) = c_slices_Equal_api_ID_api_ID t0 t1 w R := by kernel_rfl
theorem k_slices_Equal_api_ID_api_ID : chk P Try.f47.ntmps A_slices_Equal_api_ID_api_ID (bodyOf Try.f47) = true := by kernel_rfl
theorem l_slices_Equal_api_ID_api_ID {t0 t1 : Value} {w : World} {R : Value → World → Prop} (h : c_slices_Equal_api_ID_api_ID t0 t1 w R) : cal P f_slices_Equal_api_ID_api_ID [t0, t1] w R :=
  calls_of mixed Try.func47 rfl (by kernel_rfl) k_slices_Equal_api_ID_api_ID (Eq.mpr (e_slices_Equal_api_ID_api_ID t0 t1 w R) h)
theorem s_slices_Equal_api_ID_api_ID {t0 t1 : Value} {w : World} {Q : Value → World → Prop} (h : ∀ R : Value → World → Prop, (∀ v w', Q v w' → R v w') → c_slices_Equal_api_ID_api_ID t0 t1 w R) : cal P f_slices_Equal_api_ID_api_ID [t0, t1] w Q := l_slices_Equal_api_ID_api_ID (h Q fun _ _ h => h)

/-- slices.EqualFunc[[][]byte,[][]byte,[]byte,[]byte] -/
def A_slices_EqualFunc_byte_byte_byte_byte : An := (An.s (An.r []) (An.s (An.s (An.r []) (An.s (An.s (An.r []) An.o) An.o)) (An.s (An.s (An.r []) (An.b (An.l [17] (An.s (An.r []) (An.s (An.s An.o An.o) (An.s (An.b (An.s (An.r []) (An.s (An.r []) (An.s (An.r []) (An.s (An.s (An.r []) An.o) An.o))))) (An.r []))))))) (An.s (An.r []) An.o))))
def c_slices_EqualFunc_byte_byte_byte_byte (t0 t1 t2 : Value) (w : World) (R : Value → World → Prop) : Prop :=
  lenS t0 fun t11 =>
  lenS t1 fun t13 =>
  bi BinOp.neq t11 t13 fun t14 =>
  cnd t14
  (R (Value.bool false) w)
  (lenS t0 fun t16 =>
  lp1 (Value.int IntKind.i64 0) w fun _ t17 w again0 =>
  bi BinOp.lss t17 t16 fun t18 =>
  cnd t18
  (ixs 1 t0 t17 fun t20 =>
  ld1 t20 w.heap fun t21 =>
  ixs 1 t1 t17 fun t24 =>
  ld1 t24 w.heap fun t25 =>
  calV P t2 [t21, t25] w fun t29 w =>
  notB t29 fun t30 =>
  cnd t30
  (R (Value.bool false) w)
  (bi BinOp.add t17 (Value.int IntKind.i64 1) fun t31 =>
  again0 t31 w))
  (R (Value.bool true) w))
theorem e_slices_EqualFunc_byte_byte_byte_byte (t0 t1 t2 : Value) (w : World) (R : Value → World → Prop) : intp P A_slices_EqualFunc_byte_byte_byte_byte (bodyOf Try.f48) (ini [t0, t1, t2]) w (retK P Try.f48.results.toList R) (fun _ _ _ => False) (retK P Try.f48.results.toList R) = c_slices_EqualFunc_byte_byte_byte_byte t0 t1 t2 w R := by kernel_rfl
theorem k_slices_EqualFunc_byte_byte_byte_byte : chk P Try.f48.ntmps A_slices_EqualFunc_byte_byte_byte_byte (bodyOf Try.f48) = true := by kernel_rfl
theorem l_slices_EqualFunc_byte_byte_byte_byte {t0 t1 t2 : Value} {w : World} {R : Value → World → Prop} (h : c_slices_EqualFunc_byte_byte_byte_byte t0 t1 t2 w R) : cal P f_slices_EqualFunc_byte_byte_byte_byte [t0, t1, t2] w R :=
  calls_of mixed Try.func48 rfl (by kernel_rfl) k_slices_EqualFunc_byte_byte_byte_byte (Eq.mpr (e_slices_EqualFunc_byte_byte_byte_byte t0 t1 t2 w R) h)
theorem s_slices_EqualFunc_byte_byte_byte_byte {t0 t1 t2 : Value} {w : World} {Q : Value → World → Prop} (h : ∀ R : Value → World → Prop, (∀ v w', Q v w' → R v w') → c_slices_EqualFunc_byte_byte_byte_byte t0 t1 t2 w R) : cal P f_slices_EqualFunc_byte_byte_byte_byte [t0, t1, t2] w Q := l_slices_EqualFunc_byte_byte_byte_byte (h Q fun _ _ h => h)

/-- slices.Clone[[]flurry/api.ID,flurry/api.ID] -/
def A_slices_Clone_api_ID_api_ID : An := (An.s (An.r []) (An.s (An.s (An.r []) (An.s (An.s (An.r []) An.o) An.o)) (An.s (An.r []) An.o)))
def c_slices_Clone_api_ID_api_ID (t0 : Value) (w : World) (R : Value → World → Prop) : Prop :=
  nilS false t0 fun t4 =>
  cnd t4
  (R (Value.slice none 0 0) w)
  (efP P (Instr.buildSlice T_sl_api_ID 0 #[]) w fun t5 w =>
  efP P (Builtin.append_ #[T_sl_api_ID, T_sl_api_ID] T_sl_api_ID #[t5, t0]) w fun t7 w =>
  R t7 w)
theorem e_slices_Clone_api_ID_api_ID (t0 : Value) (w : World) (R : Value → World → Prop) : intp P A_slices_Clone_api_ID_api_ID (bodyOf Try.f49) (ini [t0]) w (retK P Try.f49.results.toList R) (fun _ _ _ => False) (retK P Try.f49.results.toList R) = c_slices_Clone_api_ID_api_ID t0 w R := by kernel_rfl
theorem k_slices_Clone_api_ID_api_ID : chk P Try.f49.ntmps A_slices_Clone_api_ID_api_ID (bodyOf Try.f49) = true := by kernel_rfl
theorem l_slices_Clone_api_ID_api_ID {t0 : Value} {w : World} {R : Value → World → Prop} (h : c_slices_Clone_api_ID_api_ID t0 w R) : cal P f_slices_Clone_api_ID_api_ID [t0] w R :=
  calls_of mixed Try.func49 rfl (by kernel_rfl) k_slices_Clone_api_ID_api_ID (Eq.mpr (e_slices_Clone_api_ID_api_ID t0 w R) h)
theorem s_slices_Clone_api_ID_api_ID {t0 : Value} {w : World} {Q : Value → World → Prop} (h : ∀ R : Value → World → Prop, (∀ v w', Q v w' → R v w') → c_slices_Clone_api_ID_api_ID t0 w R) : cal P f_slices_Clone_api_ID_api_ID [t0] w Q := l_slices_Clone_api_ID_api_ID (h Q fun _ _ h => h)

/-- (*flurry/pack.Packer).put -/
def A_pack_Packer_put : An := (An.s (An.s (An.r []) (An.s An.o An.o)) (An.s (An.r []) (An.s (An.s (An.r [[32]]) (An.s (An.s (An.r []) An.o) An.o)) (An.r []))))
def c_pack_Packer_put (t0 t1 t2 : Value) (w : World) (R : Value → World → Prop) : Prop :=
  cal P f_pack_Packer_works [t0] w fun t8 w =>
  notB t8 fun t9 =>
  cnd t9
  (R (Value.tuple #[]) w)
  (drw w fun w =>
  nilc t0 fun t11 =>
  fad 3 t11 fun t12 =>
  ld1 t12 w.heap fun t13 =>
  nilc t0 fun t15 =>
  fad 0 t15 fun t16 =>
  fad 1 t16 fun t17 =>
  ld1 t17 w.heap fun t18 =>
  lenS t18 fun t19 =>
  bi BinOp.sub t13 t19 fun t20 =>
  lenS t1 fun t22 =>
  bi BinOp.gtr t22 t20 fun t24 =>
  jn1 (fun k0 =>
  gif t24 false
  (lenS t2 fun t27 =>
  lenS t1 fun t30 =>
  bi BinOp.sub t20 t30 fun t31 =>
  bi BinOp.gtr t27 t31 fun t32 =>
  k0 t32 w)
  (k0 undef w)) fun _ t32_1 w =>
  pik t24 (Value.bool true) t32_1 fun t33 =>
  cnd t33
  (nilc t0 fun t35 =>
  fad 0 t35 fun t36 =>
  cal P f_pack_kept_fails [t36, (Value.int IntKind.i64 10)] w fun t37 w =>
  R (Value.tuple #[]) w)
  (nilc t0 fun t40 =>
  fad 0 t40 fun t41 =>
  fad 1 t41 fun t42 =>
  ld1 t42 w.heap fun t43 =>
  efP P (Builtin.append_ #[T_sl_uint8, T_sl_uint8] T_sl_uint8 #[t43, t1]) w fun t45 w =>
  efP P (Builtin.append_ #[T_sl_uint8, T_sl_uint8] T_sl_uint8 #[t45, t2]) w fun t47 w =>
  nilc t0 fun t48 =>
  fad 0 t48 fun t49 =>
  fad 1 t49 fun t50 =>
  st1 t50 t47 w fun w =>
  R (Value.tuple #[]) w))
theorem e_pack_Packer_put (t0 t1 t2 : Value) (w : World) (R : Value → World → Prop) : intp P A_pack_Packer_put (bodyOf Try.f50) (ini [t0, t1, t2]) w (retK P Try.f50.results.toList R) (fun _ _ _ => False) (retK P Try.f50.results.toList R) = c_pack_Packer_put t0 t1 t2 w R := by kernel_rfl
theorem k_pack_Packer_put : chk P Try.f50.ntmps A_pack_Packer_put (bodyOf Try.f50) = true := by kernel_rfl
theorem l_pack_Packer_put {t0 t1 t2 : Value} {w : World} {R : Value → World → Prop} (h : c_pack_Packer_put t0 t1 t2 w R) : cal P f_pack_Packer_put [t0, t1, t2] w R :=
  calls_of mixed Try.func50 rfl (by kernel_rfl) k_pack_Packer_put (Eq.mpr (e_pack_Packer_put t0 t1 t2 w R) h)
theorem s_pack_Packer_put {t0 t1 t2 : Value} {w : World} {Q : Value → World → Prop} (h : ∀ R : Value → World → Prop, (∀ v w', Q v w' → R v w') → c_pack_Packer_put t0 t1 t2 w R) : cal P f_pack_Packer_put [t0, t1, t2] w Q := l_pack_Packer_put (h Q fun _ _ h => h)

/-- flurry/pack.number -/
def A_pack_number : An := (An.s (An.r []) (An.s (An.r []) (An.s (An.s (An.r []) (An.b (An.l [11] (An.s (An.r []) (An.s (An.s An.o An.o) (An.s (An.b (An.s (An.r []) (An.r []))) (An.r []))))))) (An.s (An.r []) An.o))))
def c_pack_number (t0 t1 : Value) (w : World) (R : Value → World → Prop) : Prop :=
  efP P (Instr.makeSlice T_sl_uint8 t0 t0) w fun t8 w =>
  lenS t8 fun t10 =>
  lp1 (Value.int IntKind.i64 0) w fun _ t11 w again0 =>
  bi BinOp.lss t11 t10 fun t12 =>
  cnd t12
  (bi BinOp.sub t0 (Value.int IntKind.i64 1) fun t16 =>
  bi BinOp.sub t16 t11 fun t18 =>
  bi BinOp.mul (Value.int IntKind.i64 8) t11 fun t21 =>
  sh BinOp.shr t1 t21 fun t22 =>
  cvi IntKind.u8 t22 fun t23 =>
  ixs 1 t8 t18 fun t24 =>
  st1 t24 t23 w fun w =>
  bi BinOp.add t11 (Value.int IntKind.i64 1) fun t25 =>
  again0 t25 w)
  (R t8 w)
theorem e_pack_number (t0 t1 : Value) (w : World) (R : Value → World → Prop) : intp P A_pack_number (bodyOf Try.f51) (ini [t0, t1]) w (retK P Try.f51.results.toList R) (fun _ _ _ => False) (retK P Try.f51.results.toList R) = c_pack_number t0 t1 w R := by kernel_rfl
theorem k_pack_number : chk P Try.f51.ntmps A_pack_number (bodyOf Try.f51) = true := by kernel_rfl
theorem l_pack_number {t0 t1 : Value} {w : World} {R : Value → World → Prop} (h : c_pack_number t0 t1 w R) : cal P f_pack_number [t0, t1] w R :=
  calls_of mixed Try.func51 rfl (by kernel_rfl) k_pack_number (Eq.mpr (e_pack_number t0 t1 w R) h)
theorem s_pack_number {t0 t1 : Value} {w : World} {Q : Value → World → Prop} (h : ∀ R : Value → World → Prop, (∀ v w', Q v w' → R v w') → c_pack_number t0 t1 w R) : cal P f_pack_number [t0, t1] w Q := l_pack_number (h Q fun _ _ h => h)

/-- (*flurry/pack.Packer).Err -/
def A_pack_Packer_Err : An := (An.s (An.r []) (An.s (An.s (An.r [[11]]) (An.s (An.s (An.r []) An.o) An.o)) (An.s (An.r []) An.o)))
def c_pack_Packer_Err (t0 : Value) (w : World) (R : Value → World → Prop) : Prop :=
  nilP false t0 fun t4 =>
  jn1 (fun k0 =>
  gif t4 false
  (nilc t0 fun t7 =>
  fad 0 t7 fun t8 =>
  fad 0 t8 fun t9 =>
  ld1 t9 w.heap fun t10 =>
  notB t10 fun t11 =>
  k0 t11 w)
  (k0 undef w)) fun _ t11_1 w =>
  pik t4 (Value.bool true) t11_1 fun t12 =>
  cnd t12
  (R (Value.int IntKind.i64 2) w)
  (nilc t0 fun t14 =>
  fad 0 t14 fun t15 =>
  fad 2 t15 fun t16 =>
  ld1 t16 w.heap fun t17 =>
  R t17 w)
theorem e_pack_Packer_Err (t0 : Value) (w : World) (R : Value → World → Prop) : intp P A_pack_Packer_Err (bodyOf Try.f52) (ini [t0]) w (retK P Try.f52.results.toList R) (fun _ _ _ => False) (retK P Try.f52.results.toList R) = c_pack_Packer_Err t0 w R := by kernel_rfl
theorem k_pack_Packer_Err : chk P Try.f52.ntmps A_pack_Packer_Err (bodyOf Try.f52) = true := by kernel_rfl
theorem l_pack_Packer_Err {t0 : Value} {w : World} {R : Value → World → Prop} (h : c_pack_Packer_Err t0 w R) : cal P f_pack_Packer_Err [t0] w R :=
  calls_of mixed Try.func52 rfl (by kernel_rfl) k_pack_Packer_Err (Eq.mpr (e_pack_Packer_Err t0 w R) h)
theorem s_pack_Packer_Err {t0 : Value} {w : World} {Q : Value → World → Prop} (h : ∀ R : Value → World → Prop, (∀ v w', Q v w' → R v w') → c_pack_Packer_Err t0 w R) : cal P f_pack_Packer_Err [t0] w Q := l_pack_Packer_Err (h Q fun _ _ h => h)

/-- flurry/pack.value -/
def A_pack_value : An := (An.s (An.r []) (An.s (An.r []) (An.s (An.s (An.r []) (An.b (An.l [3, 8] (An.s (An.r []) (An.s (An.s An.o An.o) (An.s (An.b (An.s (An.r []) (An.r []))) (An.r []))))))) (An.s (An.r []) An.o))))
def c_pack_value (t0 : Value) (w : World) (R : Value → World → Prop) : Prop :=
  lenS t0 fun t7 =>
  lp2 (Value.int IntKind.u64 0) (Value.int IntKind.i64 0) w fun _ t3 t8 w again0 =>
  bi BinOp.lss t8 t7 fun t9 =>
  cnd t9
  (ixs 1 t0 t8 fun t10 =>
  ld1 t10 w.heap fun t11 =>
  sh BinOp.shl t3 (Value.int IntKind.u64 8) fun t13 =>
  cvi IntKind.u64 t11 fun t15 =>
  bi BinOp.or t13 t15 fun t16 =>
  bi BinOp.add t8 (Value.int IntKind.i64 1) fun t17 =>
  again0 t16 t17 w)
  (R t3 w)
theorem e_pack_value (t0 : Value) (w : World) (R : Value → World → Prop) : intp P A_pack_value (bodyOf Try.f53) (ini [t0]) w (retK P Try.f53.results.toList R) (fun _ _ _ => False) (retK P Try.f53.results.toList R) = c_pack_value t0 w R := by kernel_rfl
theorem k_pack_value : chk P Try.f53.ntmps A_pack_value (bodyOf Try.f53) = true := by kernel_rfl
theorem l_pack_value {t0 : Value} {w : World} {R : Value → World → Prop} (h : c_pack_value t0 w R) : cal P f_pack_value [t0] w R :=
  calls_of mixed Try.func53 rfl (by kernel_rfl) k_pack_value (Eq.mpr (e_pack_value t0 w R) h)
theorem s_pack_value {t0 : Value} {w : World} {Q : Value → World → Prop} (h : ∀ R : Value → World → Prop, (∀ v w', Q v w' → R v w') → c_pack_value t0 w R) : cal P f_pack_value [t0] w Q := l_pack_value (h Q fun _ _ h => h)

/-- (*flurry/pack.Unpacker).take -/
def A_pack_Unpacker_take : An := (An.s (An.r []) (An.s (An.b (An.s (An.r []) (An.s (An.s (An.r []) An.o) (An.s (An.r []) (An.s (An.s (An.r []) (An.s (An.r []) An.o)) (An.s (An.r []) (An.s (An.s (An.r []) (An.s (An.r []) An.o)) An.o))))))) (An.s (An.r []) (An.s (An.r []) (An.s (An.r []) (An.s (An.r []) An.o))))))
def c_pack_Unpacker_take (t0 t1 : Value) (w : World) (R : Value → World → Prop) : Prop :=
  cal P f_pack_Unpacker_works [t0] w fun t8 w =>
  notB t8 fun t9 =>
  cnd t9
  (R (Value.slice none 0 0) w)
  (bi BinOp.lss t1 (Value.int IntKind.i64 0) fun t12 =>
  cnd t12
  (nilc t0 fun t14 =>
  fad 0 t14 fun t15 =>
  cal P f_pack_kept_fails [t15, (Value.int IntKind.i64 1)] w fun t16 w =>
  R (Value.slice none 0 0) w)
  (nilc t0 fun t20 =>
  fad 0 t20 fun t21 =>
  fad 1 t21 fun t22 =>
  ld1 t22 w.heap fun t23 =>
  lenS t23 fun t24 =>
  bi BinOp.gtr t1 t24 fun t25 =>
  cnd t25
  (nilc t0 fun t27 =>
  fad 0 t27 fun t28 =>
  cal P f_pack_kept_fails [t28, (Value.int IntKind.i64 11)] w fun t29 w =>
  R (Value.slice none 0 0) w)
  (efP P (Instr.makeSlice T_sl_uint8 t1 t1) w fun t31 w =>
  nilc t0 fun t34 =>
  fad 0 t34 fun t35 =>
  fad 1 t35 fun t36 =>
  ld1 t36 w.heap fun t37 =>
  efP P (Builtin.copy_ #[T_sl_uint8, T_sl_uint8] T_int #[t31, t37]) w fun t38 w =>
  nilc t0 fun t41 =>
  fad 0 t41 fun t42 =>
  fad 1 t42 fun t43 =>
  ld1 t43 w.heap fun t44 =>
  slc 1 t44 (some t1) none fun t46 =>
  nilc t0 fun t47 =>
  fad 0 t47 fun t48 =>
  fad 1 t48 fun t49 =>
  st1 t49 t46 w fun w =>
  R t31 w)))
theorem e_pack_Unpacker_take (t0 t1 : Value) (w : World) (R : Value → World → Prop) : intp P A_pack_Unpacker_take (bodyOf Try.f54) (ini [t0, t1]) w (retK P Try.f54.results.toList R) (fun _ _ _ => False) (retK P Try.f54.results.toList R) = c_pack_Unpacker_take t0 t1 w R := by kernel_rfl
theorem k_pack_Unpacker_take : chk P Try.f54.ntmps A_pack_Unpacker_take (bodyOf Try.f54) = true := by kernel_rfl
theorem l_pack_Unpacker_take {t0 t1 : Value} {w : World} {R : Value → World → Prop} (h : c_pack_Unpacker_take t0 t1 w R) : cal P f_pack_Unpacker_take [t0, t1] w R :=
  calls_of mixed Try.func54 rfl (by kernel_rfl) k_pack_Unpacker_take (Eq.mpr (e_pack_Unpacker_take t0 t1 w R) h)
theorem s_pack_Unpacker_take {t0 t1 : Value} {w : World} {Q : Value → World → Prop} (h : ∀ R : Value → World → Prop, (∀ v w', Q v w' → R v w') → c_pack_Unpacker_take t0 t1 w R) : cal P f_pack_Unpacker_take [t0, t1] w Q := l_pack_Unpacker_take (h Q fun _ _ h => h)

/-- flurry/msg.take -/
def A_msg_take : An := (An.s (An.r []) (An.s (An.r []) (An.s (An.s (An.r []) (An.b (An.l [5, 7] (An.s (An.r []) (An.s (An.s An.o An.o) (An.s (An.b (An.r [])) (An.r []))))))) (An.s (An.r []) An.o))))
def c_msg_take (t0 t1 : Value) (w : World) (R : Value → World → Prop) : Prop :=
  lp2 (Value.slice none 0 0) (Value.int IntKind.i64 0) w fun _ t5 t7 w again0 =>
  bi BinOp.lss t7 t1 fun t8 =>
  cnd t8
  (cal P f_pack_Unpacker_Fixed [t0, (Value.int IntKind.i64 32)] w fun t11 w =>
  efP P (Builtin.append_ #[T_sl_uint8, T_int] T_sl_uint8 #[t11, (Value.int IntKind.i64 32)]) w fun t12 w =>
  slc 1 t12 none (some (Value.int IntKind.i64 32)) fun t13 =>
  rdP P (Instr.arrayAt T_api_ID t13) w fun t14 =>
  ldN 32 t14 w.heap fun t15 =>
  efP P (Instr.buildSlice T_sl_api_ID 1 #[(0, t15)]) w fun t16 w =>
  efP P (Builtin.append_ #[T_sl_api_ID, T_sl_api_ID] T_sl_api_ID #[t5, t16]) w fun t17 w =>
  bi BinOp.add t7 (Value.int IntKind.i64 1) fun t18 =>
  again0 t17 t18 w)
  (R t5 w)
theorem e_msg_take (t0 t1 : Value) (w : World) (R : Value → World → Prop) : intp P A_msg_take (bodyOf Try.f55) (ini [t0, t1]) w (retK P Try.f55.results.toList R) (fun _ _ _ => False) (retK P Try.f55.results.toList R) = c_msg_take t0 t1 w R := by kernel_rfl
theorem k_msg_take : chk P Try.f55.ntmps A_msg_take (bodyOf Try.f55) = true := by kernel_rfl
theorem l_msg_take {t0 t1 : Value} {w : World} {R : Value → World → Prop} (h : c_msg_take t0 t1 w R) : cal P f_msg_take [t0, t1] w R :=
  calls_of mixed Try.func55 rfl (by kernel_rfl) k_msg_take (Eq.mpr (e_msg_take t0 t1 w R) h)
theorem s_msg_take {t0 t1 : Value} {w : World} {Q : Value → World → Prop} (h : ∀ R : Value → World → Prop, (∀ v w', Q v w' → R v w') → c_msg_take t0 t1 w R) : cal P f_msg_take [t0, t1] w Q := l_msg_take (h Q fun _ _ h => h)

/-- (*flurry/pack.Unpacker).Bytes -/
def A_pack_Unpacker_Bytes : An := (An.s (An.r []) (An.s (An.r []) An.o))
def c_pack_Unpacker_Bytes (t0 t1 : Value) (w : World) (R : Value → World → Prop) : Prop :=
  cal P f_pack_Unpacker_counted [t0, (Value.int IntKind.i64 4), t1] w fun t7 w =>
  R t7 w
theorem e_pack_Unpacker_Bytes (t0 t1 : Value) (w : World) (R : Value → World → Prop) : intp P A_pack_Unpacker_Bytes (bodyOf Try.f56) (ini [t0, t1]) w (retK P Try.f56.results.toList R) (fun _ _ _ => False) (retK P Try.f56.results.toList R) = c_pack_Unpacker_Bytes t0 t1 w R := by kernel_rfl
theorem k_pack_Unpacker_Bytes : chk P Try.f56.ntmps A_pack_Unpacker_Bytes (bodyOf Try.f56) = true := by kernel_rfl
theorem l_pack_Unpacker_Bytes {t0 t1 : Value} {w : World} {R : Value → World → Prop} (h : c_pack_Unpacker_Bytes t0 t1 w R) : cal P f_pack_Unpacker_Bytes [t0, t1] w R :=
  calls_of mixed Try.func56 rfl (by kernel_rfl) k_pack_Unpacker_Bytes (Eq.mpr (e_pack_Unpacker_Bytes t0 t1 w R) h)
theorem s_pack_Unpacker_Bytes {t0 t1 : Value} {w : World} {Q : Value → World → Prop} (h : ∀ R : Value → World → Prop, (∀ v w', Q v w' → R v w') → c_pack_Unpacker_Bytes t0 t1 w R) : cal P f_pack_Unpacker_Bytes [t0, t1] w Q := l_pack_Unpacker_Bytes (h Q fun _ _ h => h)

/-- (*flurry/pack.Unpacker).Err -/
def A_pack_Unpacker_Err : An := (An.s (An.r []) (An.s (An.s (An.r [[11]]) (An.s (An.s (An.r []) An.o) An.o)) (An.s (An.r []) An.o)))
def c_pack_Unpacker_Err (t0 : Value) (w : World) (R : Value → World → Prop) : Prop :=
  nilP false t0 fun t4 =>
  jn1 (fun k0 =>
  gif t4 false
  (nilc t0 fun t7 =>
  fad 0 t7 fun t8 =>
  fad 0 t8 fun t9 =>
  ld1 t9 w.heap fun t10 =>
  notB t10 fun t11 =>
  k0 t11 w)
  (k0 undef w)) fun _ t11_1 w =>
  pik t4 (Value.bool true) t11_1 fun t12 =>
  cnd t12
  (R (Value.int IntKind.i64 2) w)
  (nilc t0 fun t14 =>
  fad 0 t14 fun t15 =>
  fad 2 t15 fun t16 =>
  ld1 t16 w.heap fun t17 =>
  R t17 w)
theorem e_pack_Unpacker_Err (t0 : Value) (w : World) (R : Value → World → Prop) : intp P A_pack_Unpacker_Err (bodyOf Try.f57) (ini [t0]) w (retK P Try.f57.results.toList R) (fun _ _ _ => False) (retK P Try.f57.results.toList R) = c_pack_Unpacker_Err t0 w R := by kernel_rfl
theorem k_pack_Unpacker_Err : chk P Try.f57.ntmps A_pack_Unpacker_Err (bodyOf Try.f57) = true := by kernel_rfl
theorem l_pack_Unpacker_Err {t0 : Value} {w : World} {R : Value → World → Prop} (h : c_pack_Unpacker_Err t0 w R) : cal P f_pack_Unpacker_Err [t0] w R :=
  calls_of mixed Try.func57 rfl (by kernel_rfl) k_pack_Unpacker_Err (Eq.mpr (e_pack_Unpacker_Err t0 w R) h)
theorem s_pack_Unpacker_Err {t0 : Value} {w : World} {Q : Value → World → Prop} (h : ∀ R : Value → World → Prop, (∀ v w', Q v w' → R v w') → c_pack_Unpacker_Err t0 w R) : cal P f_pack_Unpacker_Err [t0] w Q := l_pack_Unpacker_Err (h Q fun _ _ h => h)

/-- slices.IndexFunc[[][]byte,[]byte] -/
def A_slices_IndexFunc_byte_byte : An := (An.s (An.r []) (An.s (An.s (An.r []) (An.b (An.l [8] (An.s (An.r []) (An.s (An.s An.o An.o) (An.s (An.b (An.s (An.r []) (An.s (An.r []) (An.s (An.s (An.r []) An.o) An.o)))) (An.r []))))))) (An.s (An.r []) An.o)))
def c_slices_IndexFunc_byte_byte (t0 t1 : Value) (w : World) (R : Value → World → Prop) : Prop :=
  lenS t0 fun t7 =>
  lp1 (Value.int IntKind.i64 0) w fun _ t8 w again0 =>
  bi BinOp.lss t8 t7 fun t9 =>
  cnd t9
  (ixs 1 t0 t8 fun t14 =>
  ld1 t14 w.heap fun t15 =>
  calV P t1 [t15] w fun t16 w =>
  cnd t16
  (R t8 w)
  (bi BinOp.add t8 (Value.int IntKind.i64 1) fun t18 =>
  again0 t18 w))
  (R (Value.int IntKind.i64 (-1)) w)
theorem e_slices_IndexFunc_byte_byte (t0 t1 : Value) (w : World) (R : Value → World → Prop) : intp P A_slices_IndexFunc_byte_byte (bodyOf Try.f58) (ini [t0, t1]) w (retK P Try.f58.results.toList R) (fun _ _ _ => False) (retK P Try.f58.results.toList R) = c_slices_IndexFunc_byte_byte t0 t1 w R := by kernel_rfl
theorem k_slices_IndexFunc_byte_byte : chk P Try.f58.ntmps A_slices_IndexFunc_byte_byte (bodyOf Try.f58) = true := by kernel_rfl
theorem l_slices_IndexFunc_byte_byte {t0 t1 : Value} {w : World} {R : Value → World → Prop} (h : c_slices_IndexFunc_byte_byte t0 t1 w R) : cal P f_slices_IndexFunc_byte_byte [t0, t1] w R :=
  calls_of mixed Try.func58 rfl (by kernel_rfl) k_slices_IndexFunc_byte_byte (Eq.mpr (e_slices_IndexFunc_byte_byte t0 t1 w R) h)
theorem s_slices_IndexFunc_byte_byte {t0 t1 : Value} {w : World} {Q : Value → World → Prop} (h : ∀ R : Value → World → Prop, (∀ v w', Q v w' → R v w') → c_slices_IndexFunc_byte_byte t0 t1 w R) : cal P f_slices_IndexFunc_byte_byte [t0, t1] w Q := l_slices_IndexFunc_byte_byte (h Q fun _ _ h => h)

/-- (*flurry/pack.Packer).works -/
def A_pack_Packer_works : An := (An.s (An.r []) (An.s (An.r [[10], [18]]) An.o))
def c_pack_Packer_works (t0 : Value) (w : World) (R : Value → World → Prop) : Prop :=
  nilP true t0 fun t4 =>
  jn1 (fun k0 =>
  gif t4 true
  (nilc t0 fun t7 =>
  fad 0 t7 fun t8 =>
  fad 0 t8 fun t9 =>
  ld1 t9 w.heap fun t10 =>
  k0 t10 w)
  (k0 undef w)) fun _ t10_1 w =>
  pik t4 t10_1 (Value.bool false) fun t11 =>
  jn1 (fun k1 =>
  gif t11 true
  (nilc t0 fun t14 =>
  fad 0 t14 fun t15 =>
  fad 2 t15 fun t16 =>
  ld1 t16 w.heap fun t17 =>
  bi BinOp.eql t17 (Value.int IntKind.i64 0) fun t18 =>
  k1 t18 w)
  (k1 undef w)) fun _ t18_1 w =>
  pik t11 t18_1 (Value.bool false) fun t19 =>
  R t19 w
theorem e_pack_Packer_works (t0 : Value) (w : World) (R : Value → World → Prop) : intp P A_pack_Packer_works (bodyOf Try.f59) (ini [t0]) w (retK P Try.f59.results.toList R) (fun _ _ _ => False) (retK P Try.f59.results.toList R) = c_pack_Packer_works t0 w R := by kernel_rfl
theorem k_pack_Packer_works : chk P Try.f59.ntmps A_pack_Packer_works (bodyOf Try.f59) = true := by kernel_rfl
theorem l_pack_Packer_works {t0 : Value} {w : World} {R : Value → World → Prop} (h : c_pack_Packer_works t0 w R) : cal P f_pack_Packer_works [t0] w R :=
  calls_of mixed Try.func59 rfl (by kernel_rfl) k_pack_Packer_works (Eq.mpr (e_pack_Packer_works t0 w R) h)
theorem s_pack_Packer_works {t0 : Value} {w : World} {Q : Value → World → Prop} (h : ∀ R : Value → World → Prop, (∀ v w', Q v w' → R v w') → c_pack_Packer_works t0 w R) : cal P f_pack_Packer_works [t0] w Q := l_pack_Packer_works (h Q fun _ _ h => h)

/-- (*flurry/pack.kept).fails -/
def A_pack_kept_fails : An := (An.s (An.r []) (An.s (An.r []) An.o))
def c_pack_kept_fails (t0 t1 : Value) (w : World) (R : Value → World → Prop) : Prop :=
  nilc t0 fun t5 =>
  fad 2 t5 fun t6 =>
  ld1 t6 w.heap fun t7 =>
  bi BinOp.eql t7 (Value.int IntKind.i64 0) fun t8 =>
  cnd t8
  (nilc t0 fun t11 =>
  fad 2 t11 fun t12 =>
  st1 t12 t1 w fun w =>
  R (Value.tuple #[]) w)
  (R (Value.tuple #[]) w)
theorem e_pack_kept_fails (t0 t1 : Value) (w : World) (R : Value → World → Prop) : intp P A_pack_kept_fails (bodyOf Try.f60) (ini [t0, t1]) w (retK P Try.f60.results.toList R) (fun _ _ _ => False) (retK P Try.f60.results.toList R) = c_pack_kept_fails t0 t1 w R := by kernel_rfl
theorem k_pack_kept_fails : chk P Try.f60.ntmps A_pack_kept_fails (bodyOf Try.f60) = true := by kernel_rfl
theorem l_pack_kept_fails {t0 t1 : Value} {w : World} {R : Value → World → Prop} (h : c_pack_kept_fails t0 t1 w R) : cal P f_pack_kept_fails [t0, t1] w R :=
  calls_of mixed Try.func60 rfl (by kernel_rfl) k_pack_kept_fails (Eq.mpr (e_pack_kept_fails t0 t1 w R) h)
theorem s_pack_kept_fails {t0 t1 : Value} {w : World} {Q : Value → World → Prop} (h : ∀ R : Value → World → Prop, (∀ v w', Q v w' → R v w') → c_pack_kept_fails t0 t1 w R) : cal P f_pack_kept_fails [t0, t1] w Q := l_pack_kept_fails (h Q fun _ _ h => h)

/-- (*flurry/pack.Unpacker).works -/
def A_pack_Unpacker_works : An := (An.s (An.r []) (An.s (An.r [[10], [18]]) An.o))
def c_pack_Unpacker_works (t0 : Value) (w : World) (R : Value → World → Prop) : Prop :=
  nilP true t0 fun t4 =>
  jn1 (fun k0 =>
  gif t4 true
  (nilc t0 fun t7 =>
  fad 0 t7 fun t8 =>
  fad 0 t8 fun t9 =>
  ld1 t9 w.heap fun t10 =>
  k0 t10 w)
  (k0 undef w)) fun _ t10_1 w =>
  pik t4 t10_1 (Value.bool false) fun t11 =>
  jn1 (fun k1 =>
  gif t11 true
  (nilc t0 fun t14 =>
  fad 0 t14 fun t15 =>
  fad 2 t15 fun t16 =>
  ld1 t16 w.heap fun t17 =>
  bi BinOp.eql t17 (Value.int IntKind.i64 0) fun t18 =>
  k1 t18 w)
  (k1 undef w)) fun _ t18_1 w =>
  pik t11 t18_1 (Value.bool false) fun t19 =>
  R t19 w
theorem e_pack_Unpacker_works (t0 : Value) (w : World) (R : Value → World → Prop) : intp P A_pack_Unpacker_works (bodyOf Try.f61) (ini [t0]) w (retK P Try.f61.results.toList R) (fun _ _ _ => False) (retK P Try.f61.results.toList R) = c_pack_Unpacker_works t0 w R := by kernel_rfl
theorem k_pack_Unpacker_works : chk P Try.f61.ntmps A_pack_Unpacker_works (bodyOf Try.f61) = true := by kernel_rfl
theorem l_pack_Unpacker_works {t0 : Value} {w : World} {R : Value → World → Prop} (h : c_pack_Unpacker_works t0 w R) : cal P f_pack_Unpacker_works [t0] w R :=
  calls_of mixed Try.func61 rfl (by kernel_rfl) k_pack_Unpacker_works (Eq.mpr (e_pack_Unpacker_works t0 w R) h)
theorem s_pack_Unpacker_works {t0 : Value} {w : World} {Q : Value → World → Prop} (h : ∀ R : Value → World → Prop, (∀ v w', Q v w' → R v w') → c_pack_Unpacker_works t0 w R) : cal P f_pack_Unpacker_works [t0] w Q := l_pack_Unpacker_works (h Q fun _ _ h => h)

/-- (*flurry/pack.Unpacker).Fixed -/
def A_pack_Unpacker_Fixed : An := (An.s (An.r []) (An.s (An.r []) An.o))
def c_pack_Unpacker_Fixed (t0 t1 : Value) (w : World) (R : Value → World → Prop) : Prop :=
  cal P f_pack_Unpacker_take [t0, t1] w fun t7 w =>
  R t7 w
theorem e_pack_Unpacker_Fixed (t0 t1 : Value) (w : World) (R : Value → World → Prop) : intp P A_pack_Unpacker_Fixed (bodyOf Try.f62) (ini [t0, t1]) w (retK P Try.f62.results.toList R) (fun _ _ _ => False) (retK P Try.f62.results.toList R) = c_pack_Unpacker_Fixed t0 t1 w R := by kernel_rfl
theorem k_pack_Unpacker_Fixed : chk P Try.f62.ntmps A_pack_Unpacker_Fixed (bodyOf Try.f62) = true := by kernel_rfl
theorem l_pack_Unpacker_Fixed {t0 t1 : Value} {w : World} {R : Value → World → Prop} (h : c_pack_Unpacker_Fixed t0 t1 w R) : cal P f_pack_Unpacker_Fixed [t0, t1] w R :=
  calls_of mixed Try.func62 rfl (by kernel_rfl) k_pack_Unpacker_Fixed (Eq.mpr (e_pack_Unpacker_Fixed t0 t1 w R) h)
theorem s_pack_Unpacker_Fixed {t0 t1 : Value} {w : World} {Q : Value → World → Prop} (h : ∀ R : Value → World → Prop, (∀ v w', Q v w' → R v w') → c_pack_Unpacker_Fixed t0 t1 w R) : cal P f_pack_Unpacker_Fixed [t0, t1] w Q := l_pack_Unpacker_Fixed (h Q fun _ _ h => h)

/-- (*flurry/pack.Unpacker).counted -/
def A_pack_Unpacker_counted : An := (An.s (An.r []) (An.s (An.s (An.r []) (An.s (An.s (An.r []) An.o) An.o)) (An.s (An.s (An.r []) (An.s (An.s (An.r []) (An.s (An.r []) An.o)) An.o)) (An.s (An.s (An.r []) (An.s (An.s (An.r []) (An.s (An.r []) An.o)) An.o)) (An.s (An.r []) (An.s (An.b (An.s (An.r []) (An.s (An.s (An.r []) (An.s (An.r []) An.o)) (An.s (An.r []) (An.s (An.s (An.r []) (An.s (An.r []) An.o)) An.o))))) (An.s (An.r []) (An.s (An.r []) An.o))))))))
def c_pack_Unpacker_counted (t0 t1 t2 : Value) (w : World) (R : Value → World → Prop) : Prop :=
  cal P f_pack_Unpacker_works [t0] w fun t9 w =>
  notB t9 fun t10 =>
  cnd t10
  (R (Value.slice none 0 0) w)
  (bi BinOp.lss t2 (Value.int IntKind.i64 0) fun t12 =>
  cnd t12
  (nilc t0 fun t14 =>
  fad 0 t14 fun t15 =>
  cal P f_pack_kept_fails [t15, (Value.int IntKind.i64 1)] w fun t16 w =>
  R (Value.slice none 0 0) w)
  (nilc t0 fun t18 =>
  fad 0 t18 fun t19 =>
  fad 1 t19 fun t20 =>
  ld1 t20 w.heap fun t21 =>
  lenS t21 fun t22 =>
  bi BinOp.lss t22 t1 fun t24 =>
  cnd t24
  (nilc t0 fun t26 =>
  fad 0 t26 fun t27 =>
  cal P f_pack_kept_fails [t27, (Value.int IntKind.i64 11)] w fun t28 w =>
  R (Value.slice none 0 0) w)
  (nilc t0 fun t30 =>
  fad 0 t30 fun t31 =>
  fad 1 t31 fun t32 =>
  ld1 t32 w.heap fun t33 =>
  slc 1 t33 none (some t1) fun t35 =>
  cal P f_pack_value [t35] w fun t36 w =>
  cvi IntKind.u64 t2 fun t40 =>
  bi BinOp.gtr t36 t40 fun t41 =>
  cnd t41
  (nilc t0 fun t43 =>
  fad 0 t43 fun t44 =>
  cal P f_pack_kept_fails [t44, (Value.int IntKind.i64 3)] w fun t45 w =>
  R (Value.slice none 0 0) w)
  (nilc t0 fun t49 =>
  fad 0 t49 fun t50 =>
  fad 1 t50 fun t51 =>
  ld1 t51 w.heap fun t52 =>
  lenS t52 fun t53 =>
  bi BinOp.sub t53 t1 fun t55 =>
  cvi IntKind.u64 t55 fun t56 =>
  bi BinOp.gtr t36 t56 fun t57 =>
  cnd t57
  (nilc t0 fun t59 =>
  fad 0 t59 fun t60 =>
  cal P f_pack_kept_fails [t60, (Value.int IntKind.i64 11)] w fun t61 w =>
  R (Value.slice none 0 0) w)
  (nilc t0 fun t64 =>
  fad 0 t64 fun t65 =>
  fad 1 t65 fun t66 =>
  ld1 t66 w.heap fun t67 =>
  slc 1 t67 (some t1) none fun t69 =>
  nilc t0 fun t70 =>
  fad 0 t70 fun t71 =>
  fad 1 t71 fun t72 =>
  st1 t72 t69 w fun w =>
  cvi IntKind.i64 t36 fun t75 =>
  cal P f_pack_Unpacker_take [t0, t75] w fun t76 w =>
  R t76 w)))))
theorem e_pack_Unpacker_counted (t0 t1 t2 : Value) (w : World) (R : Value → World → Prop) : intp P A_pack_Unpacker_counted (bodyOf Try.f63) (ini [t0, t1, t2]) w (retK P Try.f63.results.toList R) (fun _ _ _ => False) (retK P Try.f63.results.toList R) = c_pack_Unpacker_counted t0 t1 t2 w R := by kernel_rfl
theorem k_pack_Unpacker_counted : chk P Try.f63.ntmps A_pack_Unpacker_counted (bodyOf Try.f63) = true := by kernel_rfl
theorem l_pack_Unpacker_counted {t0 t1 t2 : Value} {w : World} {R : Value → World → Prop} (h : c_pack_Unpacker_counted t0 t1 t2 w R) : cal P f_pack_Unpacker_counted [t0, t1, t2] w R :=
  calls_of mixed Try.func63 rfl (by kernel_rfl) k_pack_Unpacker_counted (Eq.mpr (e_pack_Unpacker_counted t0 t1 t2 w R) h)
theorem s_pack_Unpacker_counted {t0 t1 t2 : Value} {w : World} {Q : Value → World → Prop} (h : ∀ R : Value → World → Prop, (∀ v w', Q v w' → R v w') → c_pack_Unpacker_counted t0 t1 t2 w R) : cal P f_pack_Unpacker_counted [t0, t1, t2] w Q := l_pack_Unpacker_counted (h Q fun _ _ h => h)

end Go.Fx
