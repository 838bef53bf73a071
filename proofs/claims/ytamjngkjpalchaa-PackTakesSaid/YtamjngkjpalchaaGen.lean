/-
  The readings of the functions that are walked (c_..), printed by program; each is held against the loaded code by the kernel (e_..), and gives the call (l_..).
-/
import Derived.Test.YtamjngkjpalchaaFxE
import Derived.Test.YtamjngkjpalchaaProg
import Derived.KernelRfl
set_option linter.unusedVariables false
set_option maxRecDepth 100000
namespace Go.Fx
noncomputable abbrev P : Program := Go.Proofs.Try.prog
open Go.Proofs
def bodyOf (f : Func) : Code := match f.body with | some c => c | none => .skip
theorem mixed : P.follows .mixedOrders = true := by kernel_rfl
abbrev f_law01_PackOrder : FuncId := 3
abbrev f_law01_PackPuts : FuncId := 4
abbrev f_law01_PackParts : FuncId := 5
abbrev f_law01_PackNone : FuncId := 6
abbrev f_law01_PackBack : FuncId := 7
abbrev f_law01_PackTakes : FuncId := 8
abbrev f_pack_New : FuncId := 9
abbrev f_law01_live : FuncId := 10
abbrev f_law01_put : FuncId := 11
abbrev f_pack_Packer_Out : FuncId := 12
abbrev f_bytes_Compare : FuncId := 13
abbrev f_bytes_Equal : FuncId := 14
abbrev f_law01_few : FuncId := 15
abbrev f_ref01_New : FuncId := 16
abbrev f_law01_puts : FuncId := 17
abbrev f_pack_Packer_Len : FuncId := 18
abbrev f_pack_Packer_Err : FuncId := 19
abbrev f_ref01_Packer_Out : FuncId := 20
abbrev f_bytes_Clone : FuncId := 21
abbrev f_pack_Unpacker_Byte : FuncId := 22
abbrev f_pack_Unpacker_Short : FuncId := 23
abbrev f_pack_Unpacker_Int : FuncId := 24
abbrev f_pack_Unpacker_Long : FuncId := 25
abbrev f_pack_Unpacker_Fixed : FuncId := 26
abbrev f_pack_Unpacker_Bytes : FuncId := 27
abbrev f_pack_Unpacker_Text : FuncId := 28
abbrev f_pack_Unpacker_Rest : FuncId := 29
abbrev f_pack_Unpacker_Err : FuncId := 30
abbrev f_pack_Unpacker_End : FuncId := 31
abbrev f_pack_Read : FuncId := 32
abbrev f_law01_back : FuncId := 33
abbrev f_ref01_Read : FuncId := 34
abbrev f_law01_takes : FuncId := 35
abbrev f_ref01_Unpacker_End : FuncId := 36
abbrev f_pack_Packer_Short : FuncId := 37
abbrev f_pack_Packer_Bytes : FuncId := 38
abbrev f_pack_Packer_Text : FuncId := 39
abbrev f_internal_bytealg_Compare : FuncId := 40
abbrev f_pack_Packer_Fixed : FuncId := 41
abbrev f_ref01_Packer_Fixed : FuncId := 42
abbrev f_pack_Packer_Byte : FuncId := 43
abbrev f_ref01_Packer_Num : FuncId := 44
abbrev f_ref01_Packer_Bytes : FuncId := 45
abbrev f_pack_Packer_Int : FuncId := 46
abbrev f_ref01_Packer_Text : FuncId := 47
abbrev f_pack_Packer_Long : FuncId := 48
abbrev f_pack_value : FuncId := 49
abbrev f_pack_Unpacker_take : FuncId := 50
abbrev f_pack_Unpacker_counted : FuncId := 51
abbrev f_ref01_Unpacker_Fixed : FuncId := 52
abbrev f_ref01_Unpacker_Num : FuncId := 53
abbrev f_ref01_Unpacker_Bytes : FuncId := 54
abbrev f_ref01_Unpacker_Text : FuncId := 55
abbrev f_pack_Packer_put : FuncId := 56
abbrev f_pack_number : FuncId := 57
abbrev f_pack_Packer_works : FuncId := 58
abbrev f_pack_kept_fails : FuncId := 59
abbrev f_ref01_Num : FuncId := 60
abbrev f_pack_Unpacker_works : FuncId := 61
abbrev f_ref01_Val : FuncId := 62
abbrev f_ref01_Unpacker_counted : FuncId := 63
abbrev f_runtime_boundsError_Error : FuncId := 64
abbrev f_runtime_boundsError_RuntimeError : FuncId := 65
abbrev f_runtime_errorString_Error : FuncId := 66
abbrev f_runtime_errorString_RuntimeError : FuncId := 67
abbrev f_runtime_plainError_Error : FuncId := 68
abbrev f_runtime_plainError_RuntimeError : FuncId := 69
abbrev f_runtime_errorAddressString_Error : FuncId := 70
abbrev f_runtime_errorAddressString_RuntimeError : FuncId := 71
abbrev f_runtime_TypeAssertionError_Error : FuncId := 72
abbrev f_runtime_TypeAssertionError_RuntimeError : FuncId := 73
abbrev f_runtime_PanicNilError_Error : FuncId := 74
abbrev f_runtime_PanicNilError_RuntimeError : FuncId := 75
abbrev f_internal_abi_Type_Align : FuncId := 76
abbrev f_internal_runtime_maps_unhashableTypeError_Error : FuncId := 77
abbrev f_internal_runtime_maps_unhashableTypeError_RuntimeError : FuncId := 78
abbrev f_api_Errno_Error : FuncId := 79
abbrev f_internal_abi_Kind_String : FuncId := 80
abbrev T_ : TypeId := 0
abbrev T_func : TypeId := 1
abbrev T_int64 : TypeId := 2
abbrev T_int : TypeId := 3
abbrev T_bool : TypeId := 4
abbrev T_uint8 : TypeId := 5
abbrev T_internal_abi_BoundsErrorCode : TypeId := 6
abbrev T_struct_x_int64_y_int_signed_bool_code_abi_BoundsErrorCode : TypeId := 7
abbrev T_runtime_boundsError : TypeId := 8
abbrev T_string : TypeId := 9
abbrev T_runtime_errorString : TypeId := 10
abbrev T_runtime_plainError : TypeId := 11
abbrev T_uintptr : TypeId := 12
abbrev T_struct_msg_string_addr_uintptr : TypeId := 13
abbrev T_runtime_errorAddressString : TypeId := 14
abbrev T_p_runtime_TypeAssertionError : TypeId := 15
abbrev T_p_runtime_PanicNilError : TypeId := 16
abbrev T_p_abi_Type : TypeId := 17
abbrev T_struct_typ_p_abi_Type : TypeId := 18
abbrev T_internal_runtime_maps_unhashableTypeError : TypeId := 19
abbrev T_interface : TypeId := 20
abbrev T_int32 : TypeId := 21
abbrev T_uint64 : TypeId := 22
abbrev T_sl_int : TypeId := 23
abbrev T_p_pack_Packer : TypeId := 24
abbrev T_func_int_p_pack_Packer : TypeId := 25
abbrev T_func_bool : TypeId := 26
abbrev T_func_p_pack_Packer_flurrylaw01_Item : TypeId := 27
abbrev T_sl_uint8 : TypeId := 28
abbrev T_struct_Do_int_V_uint64_B_sl_uint8_N_int : TypeId := 29
abbrev T_flurrylaw01_Item : TypeId := 30
abbrev T_api_Errno : TypeId := 31
abbrev T_sl_uint8_api_Errno : TypeId := 32
abbrev T_func_sl_uint8_api_Errno : TypeId := 33
abbrev T_uint : TypeId := 34
abbrev T_func_sl_uint8_sl_uint8_int : TypeId := 35
abbrev T_func_sl_uint8_sl_uint8_bool : TypeId := 36
abbrev T_func_uint64_uint64_uint8_bool : TypeId := 37
abbrev T_sl_flurrylaw01_Item : TypeId := 38
abbrev T_func_sl_flurrylaw01_Item_bool : TypeId := 39
abbrev T_p_flurryref01_Packer : TypeId := 40
abbrev T_func_int_p_flurryref01_Packer : TypeId := 41
abbrev T_func_p_pack_Packer_p_flurryref01_Packer_flurrylaw01_Item : TypeId := 42
abbrev T_func_int : TypeId := 43
abbrev T_struct_B_sl_uint8_Limit_int_E_api_Errno : TypeId := 44
abbrev T_flurryref01_Packer : TypeId := 45
abbrev T_func_api_Errno : TypeId := 46
abbrev T_func_int_sl_flurrylaw01_Item_bool : TypeId := 47
abbrev T_func_sl_uint8_sl_uint8 : TypeId := 48
abbrev T_func_sl_flurrylaw01_Item_sl_flurrylaw01_Item_bool : TypeId := 49
abbrev T_struct_made_bool_b_sl_uint8_err_api_Errno : TypeId := 50
abbrev T_pack_kept : TypeId := 51
abbrev T_struct_pack_kept_limit_int : TypeId := 52
abbrev T_pack_Packer : TypeId := 53
abbrev T_sl_p_pack_Packer : TypeId := 54
abbrev T_p_pack_Unpacker : TypeId := 55
abbrev T_struct_pack_kept : TypeId := 56
abbrev T_pack_Unpacker : TypeId := 57
abbrev T_sl_p_pack_Unpacker : TypeId := 58
abbrev T_func_uint8 : TypeId := 59
abbrev T_uint16 : TypeId := 60
abbrev T_func_uint16 : TypeId := 61
abbrev T_uint32 : TypeId := 62
abbrev T_func_uint32 : TypeId := 63
abbrev T_func_uint64 : TypeId := 64
abbrev T_func_int_sl_uint8 : TypeId := 65
abbrev T_func_int_string : TypeId := 66
abbrev T_func_flurrylaw01_Item_bool : TypeId := 67
abbrev T_func_sl_uint8_p_pack_Unpacker : TypeId := 68
abbrev T_func_p_pack_Unpacker_flurrylaw01_Item_bool : TypeId := 69
abbrev T_func_sl_flurrylaw01_Item_uint16_bool : TypeId := 70
abbrev T_p_flurryref01_Unpacker : TypeId := 71
abbrev T_func_sl_uint8_p_flurryref01_Unpacker : TypeId := 72
abbrev T_func_p_pack_Unpacker_p_flurryref01_Unpacker_flurrylaw01_Item : TypeId := 73
abbrev T_struct_B_sl_uint8_E_api_Errno : TypeId := 74
abbrev T_flurryref01_Unpacker : TypeId := 75
abbrev T_func_sl_uint8_sl_flurrylaw01_Item_bool : TypeId := 76
abbrev T_func_uint16_1 : TypeId := 77
abbrev T_func_sl_uint8 : TypeId := 78
abbrev T_func_string : TypeId := 79
abbrev T_func_uint8_1 : TypeId := 80
abbrev T_func_uint8_2 : TypeId := 81
abbrev T_func_int_uint64 : TypeId := 82
abbrev T_func_uint32_1 : TypeId := 83
abbrev T_func_uint64_1 : TypeId := 84
abbrev T_func_sl_uint8_uint64 : TypeId := 85
abbrev T_func_int_int_sl_uint8 : TypeId := 86
abbrev T_func_int_uint64_1 : TypeId := 87
abbrev T_func_sl_uint8_sl_uint8_1 : TypeId := 88
abbrev T_func_int_uint64_sl_uint8 : TypeId := 89
abbrev T_func_api_Errno_1 : TypeId := 90
abbrev T_p_pack_kept : TypeId := 91
abbrev T_func_string_1 : TypeId := 92
abbrev T_struct_interface_p_abi_Type_concrete_p_abi_Type_asserted_p_a : TypeId := 93
abbrev T_runtime_TypeAssertionError : TypeId := 94
abbrev T_a0_p_runtime_PanicNilError : TypeId := 95
abbrev T_struct_a0_p_runtime_PanicNilError : TypeId := 96
abbrev T_runtime_PanicNilError : TypeId := 97
abbrev T_internal_abi_TFlag : TypeId := 98
abbrev T_internal_abi_Kind : TypeId := 99
abbrev T_func_unsafe_Pointer_unsafe_Pointer_bool : TypeId := 100
abbrev T_p_uint8 : TypeId := 101
abbrev T_internal_abi_NameOff : TypeId := 102
abbrev T_internal_abi_TypeOff : TypeId := 103
abbrev T_struct_Size_uintptr_PtrBytes_uintptr_Hash_uint32_TFlag_abi_T : TypeId := 104
abbrev T_internal_abi_Type : TypeId := 105
abbrev T_unsafe_Pointer : TypeId := 106
/-- flurry/flurrylaw01.PackOrder -/
def A_law01_PackOrder : An := (An.s (An.r []) (An.s (An.r []) (An.s (An.r []) (An.s (An.s (An.r [[25], [29]]) (An.s (An.s (An.r []) An.o) An.o)) (An.s (An.r []) (An.s (An.r []) (An.s (An.r []) (An.s (An.r []) (An.s (An.j [0, 1] (An.s (An.r []) (An.s (An.r []) An.o))) (An.s (An.r [[69], [75], [81], [91], [100]]) An.o))))))))))
def c_law01_PackOrder (t0 t1 t2 : Value) (w : World) (R : Value → World → Prop) : Prop :=
  efP P (Instr.buildSlice T_sl_int 4 #[(0, (Value.int IntKind.i64 1)), (1, (Value.int IntKind.i64 2)), (2, (Value.int IntKind.i64 4)), (3, (Value.int IntKind.i64 8))]) w fun t14 w =>
  bi BinOp.rem t2 (Value.int IntKind.u8 4) fun t16 =>
  ixs 1 t14 t16 fun t17 =>
  ld1 t17 w.heap fun t18 =>
  cal P f_pack_New [(Value.int IntKind.i64 8)] w fun t19 w =>
  cal P f_pack_New [(Value.int IntKind.i64 8)] w fun t20 w =>
  cal P f_law01_live [] w fun t21 w =>
  notB t21 fun t22 =>
  jn1 (fun k0 =>
  gif t22 false
  (nilP false t19 fun t25 =>
  k0 t25 w)
  (k0 undef w)) fun _ t25_1 w =>
  pik t22 (Value.bool true) t25_1 fun t26 =>
  jn1 (fun k1 =>
  gif t26 false
  (nilP false t20 fun t29 =>
  k1 t29 w)
  (k1 undef w)) fun _ t29_1 w =>
  pik t26 (Value.bool true) t29_1 fun t30 =>
  cnd t30
  (R (Value.bool false) w)
  (rdP P (Instr.build T_flurrylaw01_Item #[(0, t18), (1, t0)]) w fun t34 =>
  cal P f_law01_put [t19, t34] w fun t35 w =>
  rdP P (Instr.build T_flurrylaw01_Item #[(0, t18), (1, t1)]) w fun t39 =>
  cal P f_law01_put [t20, t39] w fun t40 w =>
  cal P f_pack_Packer_Out [t19] w fun t43 w =>
  ext 0 t43 fun t44 =>
  ext 1 t43 fun t45 =>
  cal P f_pack_Packer_Out [t20] w fun t48 w =>
  ext 0 t48 fun t49 =>
  ext 1 t48 fun t50 =>
  jn2 (fun k2 =>
  bi BinOp.lss t18 (Value.int IntKind.i64 8) fun t52 =>
  cnd t52
  (drw w fun w =>
  bi BinOp.mul (Value.int IntKind.i64 8) t18 fun t55 =>
  cvi IntKind.u64 t55 fun t56 =>
  sh BinOp.shl (Value.int IntKind.u64 1) t56 fun t57 =>
  bi BinOp.rem t0 t57 fun t58 =>
  bi BinOp.mul (Value.int IntKind.i64 8) t18 fun t61 =>
  cvi IntKind.u64 t61 fun t62 =>
  sh BinOp.shl (Value.int IntKind.u64 1) t62 fun t63 =>
  bi BinOp.rem t1 t63 fun t64 =>
  k2 t58 t64 w)
  (k2 t0 t1 w)) fun _ t0_1 t1_1 w =>
  bi BinOp.eql t45 (Value.int IntKind.i64 0) fun t66 =>
  jn1 (fun k3 =>
  gif t66 true
  (bi BinOp.eql t50 (Value.int IntKind.i64 0) fun t69 =>
  k3 t69 w)
  (k3 undef w)) fun _ t69_1 w =>
  pik t66 t69_1 (Value.bool false) fun t70 =>
  jn1 (fun k4 =>
  gif t70 true
  (lenS t44 fun t73 =>
  bi BinOp.eql t73 t18 fun t75 =>
  k4 t75 w)
  (k4 undef w)) fun _ t75_1 w =>
  pik t70 t75_1 (Value.bool false) fun t76 =>
  jn1 (fun k5 =>
  gif t76 true
  (lenS t49 fun t79 =>
  bi BinOp.eql t79 t18 fun t81 =>
  k5 t81 w)
  (k5 undef w)) fun _ t81_1 w =>
  pik t76 t81_1 (Value.bool false) fun t82 =>
  jn1 (fun k6 =>
  gif t82 true
  (cal P f_bytes_Compare [t44, t49] w fun t86 w =>
  bi BinOp.lss t86 (Value.int IntKind.i64 0) fun t87 =>
  bi BinOp.lss t0_1 t1_1 fun t90 =>
  rdP P (eqS BinOp.eql T_bool (Operand.tmp 87) (Operand.tmp 90) t87 t90) w fun t91 =>
  k6 t91 w)
  (k6 undef w)) fun _ t91_1 w =>
  pik t82 t91_1 (Value.bool false) fun t92 =>
  jn1 (fun k7 =>
  gif t92 true
  (cal P f_bytes_Equal [t44, t49] w fun t96 w =>
  bi BinOp.eql t0_1 t1_1 fun t99 =>
  rdP P (eqS BinOp.eql T_bool (Operand.tmp 96) (Operand.tmp 99) t96 t99) w fun t100 =>
  k7 t100 w)
  (k7 undef w)) fun _ t100_1 w =>
  pik t92 t100_1 (Value.bool false) fun t101 =>
  R t101 w)
theorem e_law01_PackOrder (t0 t1 t2 : Value) (w : World) (R : Value → World → Prop) : intp P A_law01_PackOrder (bodyOf Try.f3) (ini [t0, t1, t2]) w (retK P Try.f3.results.toList R) (fun _ _ _ => False) (retK P Try.f3.results.toList R) = c_law01_PackOrder t0 t1 t2 w R := by kernel_rfl
theorem k_law01_PackOrder : chk P Try.f3.ntmps A_law01_PackOrder (bodyOf Try.f3) = true := by kernel_rfl
theorem l_law01_PackOrder {t0 t1 t2 : Value} {w : World} {R : Value → World → Prop} (h : c_law01_PackOrder t0 t1 t2 w R) : cal P f_law01_PackOrder [t0, t1, t2] w R :=
  calls_of mixed Try.func3 rfl (by kernel_rfl) k_law01_PackOrder (Eq.mpr (e_law01_PackOrder t0 t1 t2 w R) h)
theorem s_law01_PackOrder {t0 t1 t2 : Value} {w : World} {Q : Value → World → Prop} (h : ∀ R : Value → World → Prop, (∀ v w', Q v w' → R v w') → c_law01_PackOrder t0 t1 t2 w R) : cal P f_law01_PackOrder [t0, t1, t2] w Q := l_law01_PackOrder (h Q fun _ _ h => h)

/-- flurry/flurrylaw01.PackPuts -/
def A_law01_PackPuts : An := (An.s (An.r []) (An.s (An.s (An.r [[20]]) (An.s (An.s (An.r []) An.o) An.o)) (An.s (An.r []) (An.s (An.s (An.r []) (An.s (An.s (An.r []) An.o) An.o)) (An.s (An.s (An.r []) (An.b (An.l [31] (An.s (An.r []) (An.s (An.s An.o An.o) (An.s (An.b (An.s (An.r []) (An.s (An.r []) (An.s (An.d [0, 2, 3, 4, 5, 6, 1, 7, 8, 9, 11, 12, 13, 14, 10, 15, 16] [[54]]) (An.s (An.s (An.r []) An.o) An.o))))) (An.r []))))))) (An.s (An.r []) (An.s (An.r []) (An.s (An.s (An.r [[74]]) (An.s (An.s (An.r []) An.o) An.o)) (An.s (An.s (An.r []) (An.b (An.l [78] (An.s (An.r []) (An.s (An.s An.o An.o) (An.s (An.b (An.s (An.r []) (An.r []))) (An.r []))))))) (An.s (An.r []) (An.s (An.r [[99]]) An.o)))))))))))
def c_law01_PackPuts (t0 t1 : Value) (w : World) (R : Value → World → Prop) : Prop :=
  cal P f_law01_live [] w fun t15 w =>
  notB t15 fun t16 =>
  jn1 (fun k0 =>
  gif t16 false
  (cal P f_law01_few [t1] w fun t19 w =>
  notB t19 fun t20 =>
  k0 t20 w)
  (k0 undef w)) fun _ t20_1 w =>
  pik t16 (Value.bool true) t20_1 fun t21 =>
  cnd t21
  (cal P f_law01_live [] w fun t22 w =>
  R t22 w)
  (cal P f_pack_New [t0] w fun t24 w =>
  cal P f_ref01_New [t0] w fun t26 w =>
  nilP false t24 fun t28 =>
  cnd t28
  (R (Value.bool false) w)
  (lenS t1 fun t30 =>
  lp1 (Value.int IntKind.i64 0) w fun _ t31 w again1 =>
  bi BinOp.lss t31 t30 fun t32 =>
  cnd t32
  (ixs 4 t1 t31 fun t33 =>
  ldN 4 t33 w.heap fun t34 =>
  efP P (Instr.alloc T_flurrylaw01_Item true (.tuple #[])) w fun t8 w =>
  stN 4 t8 t34 w fun w =>
  ldN 4 t8 w.heap fun t37 =>
  cal P f_law01_puts [t24, t26, t37] w fun t38 w =>
  drH w fun S w =>
  nilc t26 fun t42 =>
  fad 0 t42 fun t43 =>
  rdS S (fun w => ld1 t43 w.heap) fun t44 =>
  lenS t44 fun t45 =>
  efS S (cal P f_pack_Packer_Len [t24]) w fun t40 w =>
  bi BinOp.neq t40 t45 fun t46 =>
  jn1 (fun k2 =>
  gif t46 false
  (nilc t26 fun t51 =>
  fad 2 t51 fun t52 =>
  rdS S (fun w => ld1 t52 w.heap) fun t53 =>
  efS S (cal P f_pack_Packer_Err [t24]) w fun t49 w =>
  bi BinOp.neq t49 t53 fun t54 =>
  k2 t54 w)
  (k2 undef w)) fun _ t54_1 w =>
  pik t46 (Value.bool true) t54_1 fun t55 =>
  cnd t55
  (R (Value.bool false) w)
  (bi BinOp.add t31 (Value.int IntKind.i64 1) fun t56 =>
  again1 t56 w))
  (cal P f_pack_Packer_Out [t24] w fun t59 w =>
  ext 0 t59 fun t60 =>
  ext 1 t59 fun t61 =>
  cal P f_ref01_Packer_Out [t26] w fun t64 w =>
  ext 0 t64 fun t65 =>
  ext 1 t64 fun t66 =>
  cal P f_bytes_Equal [t60, t65] w fun t69 w =>
  notB t69 fun t70 =>
  jn1 (fun k3 =>
  gif t70 false
  (bi BinOp.neq t61 t66 fun t74 =>
  k3 t74 w)
  (k3 undef w)) fun _ t74_1 w =>
  pik t70 (Value.bool true) t74_1 fun t75 =>
  cnd t75
  (R (Value.bool false) w)
  (lenS t60 fun t77 =>
  lp1 (Value.int IntKind.i64 0) w fun _ t78 w again4 =>
  bi BinOp.lss t78 t77 fun t79 =>
  cnd t79
  (ixs 1 t60 t78 fun t83 =>
  ld1 t83 w.heap fun t84 =>
  bi BinOp.xor t84 (Value.int IntKind.u8 255) fun t85 =>
  ixs 1 t60 t78 fun t86 =>
  st1 t86 t85 w fun w =>
  bi BinOp.add t78 (Value.int IntKind.i64 1) fun t87 =>
  again4 t87 w)
  (cal P f_pack_Packer_Out [t24] w fun t90 w =>
  ext 0 t90 fun t91 =>
  ext 1 t90 fun t92 =>
  cal P f_bytes_Equal [t91, t65] w fun t95 w =>
  jn1 (fun k5 =>
  gif t95 true
  (bi BinOp.eql t92 t66 fun t99 =>
  k5 t99 w)
  (k5 undef w)) fun _ t99_1 w =>
  pik t95 t99_1 (Value.bool false) fun t100 =>
  R t100 w)))))
theorem e_law01_PackPuts (t0 t1 : Value) (w : World) (R : Value → World → Prop) : intp P A_law01_PackPuts (bodyOf Try.f4) (ini [t0, t1]) w (retK P Try.f4.results.toList R) (fun _ _ _ => False) (retK P Try.f4.results.toList R) = c_law01_PackPuts t0 t1 w R := by kernel_rfl
theorem k_law01_PackPuts : chk P Try.f4.ntmps A_law01_PackPuts (bodyOf Try.f4) = true := by kernel_rfl
theorem l_law01_PackPuts {t0 t1 : Value} {w : World} {R : Value → World → Prop} (h : c_law01_PackPuts t0 t1 w R) : cal P f_law01_PackPuts [t0, t1] w R :=
  calls_of mixed Try.func4 rfl (by kernel_rfl) k_law01_PackPuts (Eq.mpr (e_law01_PackPuts t0 t1 w R) h)
theorem s_law01_PackPuts {t0 t1 : Value} {w : World} {Q : Value → World → Prop} (h : ∀ R : Value → World → Prop, (∀ v w', Q v w' → R v w') → c_law01_PackPuts t0 t1 w R) : cal P f_law01_PackPuts [t0, t1] w Q := l_law01_PackPuts (h Q fun _ _ h => h)

/-- flurry/flurrylaw01.PackParts -/
def A_law01_PackParts : An := (An.s (An.r []) (An.s (An.s (An.r [[23], [28]]) (An.s (An.s (An.r []) An.o) An.o)) (An.s (An.r []) (An.s (An.s (An.r [[38], [42]]) (An.s (An.s (An.r []) An.o) An.o)) (An.s (An.s (An.r []) (An.b (An.l [46] (An.s (An.r []) (An.s (An.s An.o An.o) (An.s (An.b (An.s (An.r []) (An.s (An.r []) (An.r [])))) (An.r []))))))) (An.s (An.s (An.r []) (An.b (An.l [59] (An.s (An.r []) (An.s (An.s An.o An.o) (An.s (An.b (An.s (An.r []) (An.s (An.r []) (An.r [])))) (An.r []))))))) (An.s (An.r []) (An.s (An.r []) (An.s (An.r []) (An.s (An.s (An.r [[89], [97]]) (An.s (An.s (An.r [[104]]) An.o) An.o)) (An.s (An.r [[114], [124]]) An.o)))))))))))
def c_law01_PackParts (t0 t1 : Value) (w : World) (R : Value → World → Prop) : Prop :=
  cal P f_law01_live [] w fun t18 w =>
  notB t18 fun t19 =>
  jn1 (fun k0 =>
  gif t19 false
  (cal P f_law01_few [t0] w fun t22 w =>
  notB t22 fun t23 =>
  k0 t23 w)
  (k0 undef w)) fun _ t23_1 w =>
  pik t19 (Value.bool true) t23_1 fun t24 =>
  jn1 (fun k1 =>
  gif t24 false
  (cal P f_law01_few [t1] w fun t27 w =>
  notB t27 fun t28 =>
  k1 t28 w)
  (k1 undef w)) fun _ t28_1 w =>
  pik t24 (Value.bool true) t28_1 fun t29 =>
  cnd t29
  (cal P f_law01_live [] w fun t30 w =>
  R t30 w)
  (cal P f_pack_New [(Value.int IntKind.i64 8192)] w fun t31 w =>
  cal P f_pack_New [(Value.int IntKind.i64 8192)] w fun t32 w =>
  cal P f_pack_New [(Value.int IntKind.i64 8192)] w fun t33 w =>
  nilP false t31 fun t35 =>
  jn1 (fun k2 =>
  gif t35 false
  (nilP false t32 fun t38 =>
  k2 t38 w)
  (k2 undef w)) fun _ t38_1 w =>
  pik t35 (Value.bool true) t38_1 fun t39 =>
  jn1 (fun k3 =>
  gif t39 false
  (nilP false t33 fun t42 =>
  k3 t42 w)
  (k3 undef w)) fun _ t42_1 w =>
  pik t39 (Value.bool true) t42_1 fun t43 =>
  cnd t43
  (R (Value.bool false) w)
  (lenS t0 fun t45 =>
  lp1 (Value.int IntKind.i64 0) w fun _ t46 w again4 =>
  bi BinOp.lss t46 t45 fun t47 =>
  cnd t47
  (ixs 4 t0 t46 fun t48 =>
  ldN 4 t48 w.heap fun t49 =>
  efP P (Instr.alloc T_flurrylaw01_Item true (.tuple #[])) w fun t9 w =>
  stN 4 t9 t49 w fun w =>
  ldN 4 t9 w.heap fun t51 =>
  cal P f_law01_put [t31, t51] w fun t52 w =>
  ldN 4 t9 w.heap fun t54 =>
  cal P f_law01_put [t33, t54] w fun t55 w =>
  bi BinOp.add t46 (Value.int IntKind.i64 1) fun t56 =>
  again4 t56 w)
  (lenS t1 fun t58 =>
  lp1 (Value.int IntKind.i64 0) w fun _ t59 w again5 =>
  bi BinOp.lss t59 t58 fun t60 =>
  cnd t60
  (ixs 4 t1 t59 fun t61 =>
  ldN 4 t61 w.heap fun t62 =>
  efP P (Instr.alloc T_flurrylaw01_Item true (.tuple #[])) w fun t11 w =>
  stN 4 t11 t62 w fun w =>
  ldN 4 t11 w.heap fun t64 =>
  cal P f_law01_put [t32, t64] w fun t65 w =>
  ldN 4 t11 w.heap fun t67 =>
  cal P f_law01_put [t33, t67] w fun t68 w =>
  bi BinOp.add t59 (Value.int IntKind.i64 1) fun t69 =>
  again5 t69 w)
  (cal P f_pack_Packer_Out [t31] w fun t72 w =>
  ext 0 t72 fun t73 =>
  ext 1 t72 fun t74 =>
  cal P f_pack_Packer_Out [t32] w fun t77 w =>
  ext 0 t77 fun t78 =>
  ext 1 t77 fun t79 =>
  cal P f_pack_Packer_Out [t33] w fun t82 w =>
  ext 0 t82 fun t83 =>
  ext 1 t82 fun t84 =>
  bi BinOp.neq t74 (Value.int IntKind.i64 0) fun t86 =>
  jn1 (fun k6 =>
  gif t86 false
  (bi BinOp.neq t79 (Value.int IntKind.i64 0) fun t89 =>
  k6 t89 w)
  (k6 undef w)) fun _ t89_1 w =>
  pik t86 (Value.bool true) t89_1 fun t90 =>
  jn1 (fun k7 =>
  gif t90 false
  (lenS t73 fun t93 =>
  lenS t78 fun t95 =>
  bi BinOp.add t93 t95 fun t96 =>
  bi BinOp.gtr t96 (Value.int IntKind.i64 8192) fun t97 =>
  k7 t97 w)
  (k7 undef w)) fun _ t97_1 w =>
  pik t90 (Value.bool true) t97_1 fun t98 =>
  cnd t98
  (bi BinOp.neq t84 (Value.int IntKind.i64 0) fun t100 =>
  jn1 (fun k8 =>
  gif t100 true
  (lenS t83 fun t103 =>
  bi BinOp.eql t103 (Value.int IntKind.i64 0) fun t104 =>
  k8 t104 w)
  (k8 undef w)) fun _ t104_1 w =>
  pik t100 t104_1 (Value.bool false) fun t105 =>
  R t105 w)
  (bi BinOp.eql t84 (Value.int IntKind.i64 0) fun t107 =>
  jn1 (fun k9 =>
  gif t107 true
  (cal P f_bytes_Clone [t73] w fun t111 w =>
  efP P (Builtin.append_ #[T_sl_uint8, T_sl_uint8] T_sl_uint8 #[t111, t78]) w fun t113 w =>
  cal P f_bytes_Equal [t83, t113] w fun t114 w =>
  k9 t114 w)
  (k9 undef w)) fun _ t114_1 w =>
  pik t107 t114_1 (Value.bool false) fun t115 =>
  jn1 (fun k10 =>
  gif t115 true
  (cal P f_pack_Packer_Len [t33] w fun t118 w =>
  cal P f_pack_Packer_Len [t31] w fun t120 w =>
  cal P f_pack_Packer_Len [t32] w fun t122 w =>
  bi BinOp.add t120 t122 fun t123 =>
  bi BinOp.eql t118 t123 fun t124 =>
  k10 t124 w)
  (k10 undef w)) fun _ t124_1 w =>
  pik t115 t124_1 (Value.bool false) fun t125 =>
  R t125 w)))))
theorem e_law01_PackParts (t0 t1 : Value) (w : World) (R : Value → World → Prop) : intp P A_law01_PackParts (bodyOf Try.f5) (ini [t0, t1]) w (retK P Try.f5.results.toList R) (fun _ _ _ => False) (retK P Try.f5.results.toList R) = c_law01_PackParts t0 t1 w R := by kernel_rfl
theorem k_law01_PackParts : chk P Try.f5.ntmps A_law01_PackParts (bodyOf Try.f5) = true := by kernel_rfl
theorem l_law01_PackParts {t0 t1 : Value} {w : World} {R : Value → World → Prop} (h : c_law01_PackParts t0 t1 w R) : cal P f_law01_PackParts [t0, t1] w R :=
  calls_of mixed Try.func5 rfl (by kernel_rfl) k_law01_PackParts (Eq.mpr (e_law01_PackParts t0 t1 w R) h)
theorem s_law01_PackParts {t0 t1 : Value} {w : World} {Q : Value → World → Prop} (h : ∀ R : Value → World → Prop, (∀ v w', Q v w' → R v w') → c_law01_PackParts t0 t1 w R) : cal P f_law01_PackParts [t0, t1] w Q := l_law01_PackParts (h Q fun _ _ h => h)

/-- flurry/flurrylaw01.PackNone -/
def A_law01_PackNone : An := (An.s (An.r []) (An.s (An.s (An.r [[15]]) (An.s (An.s (An.r []) An.o) An.o)) (An.s (An.s (An.r []) (An.b (An.l [22] (An.s (An.r []) (An.s (An.s An.o An.o) (An.s (An.b (An.s (An.r []) (An.s (An.r []) (An.s (An.r []) (An.s (An.r [[40], [45], [49]]) (An.s (An.s (An.r []) An.o) An.o)))))) (An.r []))))))) (An.s (An.s (An.r []) (An.b (An.l [56] (An.s (An.r []) (An.s (An.s An.o An.o) (An.s (An.b (An.s (An.r []) (An.s (An.r [[66], [71], [76], [84], [92], [99], [104], [109], [114]]) (An.s (An.s (An.r []) An.o) An.o)))) (An.r []))))))) (An.s (An.r []) An.o)))))
def c_law01_PackNone (t0 : Value) (w : World) (R : Value → World → Prop) : Prop :=
  bx T_flurrylaw01_Item t0 w fun t1 w =>
  cal P f_law01_live [] w fun t9 w =>
  notB t9 fun t10 =>
  jn1 (fun k0 =>
  gif t10 false
  (fad 2 t1 fun t12 =>
  ld1 t12 w.heap fun t13 =>
  lenS t13 fun t14 =>
  bi BinOp.gtr t14 (Value.int IntKind.i64 100000) fun t15 =>
  k0 t15 w)
  (k0 undef w)) fun _ t15_1 w =>
  pik t10 (Value.bool true) t15_1 fun t16 =>
  cnd t16
  (cal P f_law01_live [] w fun t17 w =>
  R t17 w)
  (rdP P (Instr.build T_pack_Packer #[]) w fun t18 =>
  bx T_pack_Packer t18 w fun t19 w =>
  efP P (Instr.buildSlice T_sl_p_pack_Packer 2 #[(0, (Value.pointer none)), (1, t19)]) w fun t20 w =>
  lenS t20 fun t21 =>
  lp1 (Value.int IntKind.i64 0) w fun _ t22 w again1 =>
  bi BinOp.lss t22 t21 fun t23 =>
  cnd t23
  (ixs 1 t20 t22 fun t24 =>
  ld1 t24 w.heap fun t25 =>
  ldN 4 t1 w.heap fun t27 =>
  cal P f_law01_put [t25, t27] w fun t28 w =>
  cal P f_pack_Packer_Out [t25] w fun t31 w =>
  ext 0 t31 fun t32 =>
  ext 1 t31 fun t33 =>
  cal P f_pack_Packer_Len [t25] w fun t35 w =>
  bi BinOp.neq t35 (Value.int IntKind.i64 0) fun t36 =>
  jn1 (fun k2 =>
  gif t36 false
  (cal P f_pack_Packer_Err [t25] w fun t39 w =>
  bi BinOp.neq t39 (Value.int IntKind.i64 2) fun t40 =>
  k2 t40 w)
  (k2 undef w)) fun _ t40_1 w =>
  pik t36 (Value.bool true) t40_1 fun t41 =>
  jn1 (fun k3 =>
  gif t41 false
  (lenS t32 fun t44 =>
  bi BinOp.neq t44 (Value.int IntKind.i64 0) fun t45 =>
  k3 t45 w)
  (k3 undef w)) fun _ t45_1 w =>
  pik t41 (Value.bool true) t45_1 fun t46 =>
  jn1 (fun k4 =>
  gif t46 false
  (bi BinOp.neq t33 (Value.int IntKind.i64 2) fun t49 =>
  k4 t49 w)
  (k4 undef w)) fun _ t49_1 w =>
  pik t46 (Value.bool true) t49_1 fun t50 =>
  cnd t50
  (R (Value.bool false) w)
  (bi BinOp.add t22 (Value.int IntKind.i64 1) fun t51 =>
  again1 t51 w))
  (rdP P (Instr.build T_pack_Unpacker #[]) w fun t52 =>
  bx T_pack_Unpacker t52 w fun t53 w =>
  efP P (Instr.buildSlice T_sl_p_pack_Unpacker 2 #[(0, (Value.pointer none)), (1, t53)]) w fun t54 w =>
  lenS t54 fun t55 =>
  lp1 (Value.int IntKind.i64 0) w fun _ t56 w again5 =>
  bi BinOp.lss t56 t55 fun t57 =>
  cnd t57
  (ixs 1 t54 t56 fun t58 =>
  ld1 t58 w.heap fun t59 =>
  cal P f_pack_Unpacker_Byte [t59] w fun t61 w =>
  bi BinOp.neq t61 (Value.int IntKind.u8 0) fun t62 =>
  jn1 (fun k6 =>
  gif t62 false
  (cal P f_pack_Unpacker_Short [t59] w fun t65 w =>
  bi BinOp.neq t65 (Value.int IntKind.u16 0) fun t66 =>
  k6 t66 w)
  (k6 undef w)) fun _ t66_1 w =>
  pik t62 (Value.bool true) t66_1 fun t67 =>
  jn1 (fun k7 =>
  gif t67 false
  (cal P f_pack_Unpacker_Int [t59] w fun t70 w =>
  bi BinOp.neq t70 (Value.int IntKind.u32 0) fun t71 =>
  k7 t71 w)
  (k7 undef w)) fun _ t71_1 w =>
  pik t67 (Value.bool true) t71_1 fun t72 =>
  jn1 (fun k8 =>
  gif t72 false
  (cal P f_pack_Unpacker_Long [t59] w fun t75 w =>
  bi BinOp.neq t75 (Value.int IntKind.u64 0) fun t76 =>
  k8 t76 w)
  (k8 undef w)) fun _ t76_1 w =>
  pik t72 (Value.bool true) t76_1 fun t77 =>
  jn1 (fun k9 =>
  gif t77 false
  (fad 3 t1 fun t80 =>
  ld1 t80 w.heap fun t81 =>
  cal P f_pack_Unpacker_Fixed [t59, t81] w fun t82 w =>
  lenS t82 fun t83 =>
  bi BinOp.neq t83 (Value.int IntKind.i64 0) fun t84 =>
  k9 t84 w)
  (k9 undef w)) fun _ t84_1 w =>
  pik t77 (Value.bool true) t84_1 fun t85 =>
  jn1 (fun k10 =>
  gif t85 false
  (fad 3 t1 fun t88 =>
  ld1 t88 w.heap fun t89 =>
  cal P f_pack_Unpacker_Bytes [t59, t89] w fun t90 w =>
  lenS t90 fun t91 =>
  bi BinOp.neq t91 (Value.int IntKind.i64 0) fun t92 =>
  k10 t92 w)
  (k10 undef w)) fun _ t92_1 w =>
  pik t85 (Value.bool true) t92_1 fun t93 =>
  jn1 (fun k11 =>
  gif t93 false
  (fad 3 t1 fun t96 =>
  ld1 t96 w.heap fun t97 =>
  cal P f_pack_Unpacker_Text [t59, t97] w fun t98 w =>
  rdP P (eqS BinOp.neq T_string (Operand.tmp 98) (Operand.const (Value.string { data := #[] })) t98 (Value.string { data := #[] })) w fun t99 =>
  k11 t99 w)
  (k11 undef w)) fun _ t99_1 w =>
  pik t93 (Value.bool true) t99_1 fun t100 =>
  jn1 (fun k12 =>
  gif t100 false
  (cal P f_pack_Unpacker_Rest [t59] w fun t103 w =>
  bi BinOp.neq t103 (Value.int IntKind.i64 0) fun t104 =>
  k12 t104 w)
  (k12 undef w)) fun _ t104_1 w =>
  pik t100 (Value.bool true) t104_1 fun t105 =>
  jn1 (fun k13 =>
  gif t105 false
  (cal P f_pack_Unpacker_Err [t59] w fun t108 w =>
  bi BinOp.neq t108 (Value.int IntKind.i64 2) fun t109 =>
  k13 t109 w)
  (k13 undef w)) fun _ t109_1 w =>
  pik t105 (Value.bool true) t109_1 fun t110 =>
  jn1 (fun k14 =>
  gif t110 false
  (cal P f_pack_Unpacker_End [t59] w fun t113 w =>
  bi BinOp.neq t113 (Value.int IntKind.i64 2) fun t114 =>
  k14 t114 w)
  (k14 undef w)) fun _ t114_1 w =>
  pik t110 (Value.bool true) t114_1 fun t115 =>
  cnd t115
  (R (Value.bool false) w)
  (bi BinOp.add t56 (Value.int IntKind.i64 1) fun t116 =>
  again5 t116 w))
  (R (Value.bool true) w)))
theorem e_law01_PackNone (t0 : Value) (w : World) (R : Value → World → Prop) : intp P A_law01_PackNone (bodyOf Try.f6) (ini [t0]) w (retK P Try.f6.results.toList R) (fun _ _ _ => False) (retK P Try.f6.results.toList R) = c_law01_PackNone t0 w R := by kernel_rfl
theorem k_law01_PackNone : chk P Try.f6.ntmps A_law01_PackNone (bodyOf Try.f6) = true := by kernel_rfl
theorem l_law01_PackNone {t0 : Value} {w : World} {R : Value → World → Prop} (h : c_law01_PackNone t0 w R) : cal P f_law01_PackNone [t0] w R :=
  calls_of mixed Try.func6 rfl (by kernel_rfl) k_law01_PackNone (Eq.mpr (e_law01_PackNone t0 w R) h)
theorem s_law01_PackNone {t0 : Value} {w : World} {Q : Value → World → Prop} (h : ∀ R : Value → World → Prop, (∀ v w', Q v w' → R v w') → c_law01_PackNone t0 w R) : cal P f_law01_PackNone [t0] w Q := l_law01_PackNone (h Q fun _ _ h => h)

/-- flurry/flurrylaw01.PackBack -/
def A_law01_PackBack : An := (An.s (An.r []) (An.s (An.r []) (An.s (An.s (An.r [[20], [25]]) (An.s (An.s (An.r [[30]]) An.o) An.o)) (An.s (An.s (An.r []) (An.b (An.l [34] (An.s (An.r []) (An.s (An.s An.o An.o) (An.s (An.b (An.s (An.r []) (An.r []))) (An.r []))))))) (An.s (An.r []) (An.s (An.s (An.r []) (An.s (An.s (An.r [[53], [58]]) An.o) An.o)) (An.s (An.r []) (An.s (An.s (An.r []) (An.s (An.s (An.r []) An.o) An.o)) (An.s (An.s (An.r []) (An.b (An.l [66] (An.s (An.r []) (An.s (An.s An.o An.o) (An.s (An.b (An.s (An.r []) (An.s (An.r []) (An.s (An.s (An.r []) An.o) An.o)))) (An.r []))))))) (An.s (An.s (An.r [[81]]) (An.s (An.s (An.r []) An.o) An.o)) (An.s (An.s (An.r []) (An.s (An.s (An.r []) An.o) An.o)) (An.s (An.r []) (An.s (An.s (An.r []) (An.s (An.s (An.r []) An.o) An.o)) (An.s (An.s (An.r []) (An.b (An.l [98] (An.s (An.r []) (An.s (An.s An.o An.o) (An.s (An.b (An.s (An.r []) (An.r []))) (An.r []))))))) (An.s (An.r []) An.o)))))))))))))))
def c_law01_PackBack (t0 t1 : Value) (w : World) (R : Value → World → Prop) : Prop :=
  cal P f_pack_New [(Value.int IntKind.i64 8192)] w fun t15 w =>
  cal P f_law01_live [] w fun t16 w =>
  notB t16 fun t17 =>
  jn1 (fun k0 =>
  gif t17 false
  (nilP false t15 fun t20 =>
  k0 t20 w)
  (k0 undef w)) fun _ t20_1 w =>
  pik t17 (Value.bool true) t20_1 fun t21 =>
  jn1 (fun k1 =>
  gif t21 false
  (cal P f_law01_few [t0] w fun t24 w =>
  notB t24 fun t25 =>
  k1 t25 w)
  (k1 undef w)) fun _ t25_1 w =>
  pik t21 (Value.bool true) t25_1 fun t26 =>
  cnd t26
  (cal P f_law01_live [] w fun t27 w =>
  jn1 (fun k2 =>
  gif t27 true
  (nilP true t15 fun t30 =>
  k2 t30 w)
  (k2 undef w)) fun _ t30_1 w =>
  pik t27 t30_1 (Value.bool false) fun t31 =>
  R t31 w)
  (lenS t0 fun t33 =>
  lp1 (Value.int IntKind.i64 0) w fun _ t34 w again3 =>
  bi BinOp.lss t34 t33 fun t35 =>
  cnd t35
  (ixs 4 t0 t34 fun t36 =>
  ldN 4 t36 w.heap fun t37 =>
  efP P (Instr.alloc T_flurrylaw01_Item true (.tuple #[])) w fun t7 w =>
  stN 4 t7 t37 w fun w =>
  ldN 4 t7 w.heap fun t39 =>
  cal P f_law01_put [t15, t39] w fun t40 w =>
  bi BinOp.add t34 (Value.int IntKind.i64 1) fun t41 =>
  again3 t41 w)
  (cal P f_pack_Packer_Out [t15] w fun t44 w =>
  ext 0 t44 fun t45 =>
  ext 1 t44 fun t46 =>
  bi BinOp.neq t46 (Value.int IntKind.i64 0) fun t48 =>
  cnd t48
  (bi BinOp.eql t46 (Value.int IntKind.i64 10) fun t50 =>
  jn1 (fun k4 =>
  gif t50 false
  (bi BinOp.eql t46 (Value.int IntKind.i64 3) fun t53 =>
  k4 t53 w)
  (k4 undef w)) fun _ t53_1 w =>
  pik t50 (Value.bool true) t53_1 fun t54 =>
  jn1 (fun k5 =>
  gif t54 true
  (lenS t45 fun t57 =>
  bi BinOp.eql t57 (Value.int IntKind.i64 0) fun t58 =>
  k5 t58 w)
  (k5 undef w)) fun _ t58_1 w =>
  pik t54 t58_1 (Value.bool false) fun t59 =>
  R t59 w)
  (cal P f_pack_Read [t45] w fun t61 w =>
  nilP false t61 fun t63 =>
  cnd t63
  (R (Value.bool false) w)
  (lenS t0 fun t65 =>
  lp1 (Value.int IntKind.i64 0) w fun _ t66 w again6 =>
  bi BinOp.lss t66 t65 fun t67 =>
  cnd t67
  (ixs 4 t0 t66 fun t68 =>
  ldN 4 t68 w.heap fun t69 =>
  efP P (Instr.alloc T_flurrylaw01_Item true (.tuple #[])) w fun t12 w =>
  stN 4 t12 t69 w fun w =>
  ldN 4 t12 w.heap fun t71 =>
  cal P f_law01_back [t61, t71] w fun t72 w =>
  notB t72 fun t73 =>
  cnd t73
  (R (Value.bool false) w)
  (bi BinOp.add t66 (Value.int IntKind.i64 1) fun t74 =>
  again6 t74 w))
  (cal P f_pack_Unpacker_End [t61] w fun t76 w =>
  bi BinOp.neq t76 (Value.int IntKind.i64 0) fun t77 =>
  jn1 (fun k7 =>
  gif t77 false
  (cal P f_pack_Unpacker_Rest [t61] w fun t80 w =>
  bi BinOp.neq t80 (Value.int IntKind.i64 0) fun t81 =>
  k7 t81 w)
  (k7 undef w)) fun _ t81_1 w =>
  pik t77 (Value.bool true) t81_1 fun t82 =>
  cnd t82
  (R (Value.bool false) w)
  (lenS t45 fun t84 =>
  bi BinOp.eql t84 (Value.int IntKind.i64 0) fun t85 =>
  cnd t85
  (R (Value.bool true) w)
  (cvi IntKind.i64 t1 fun t88 =>
  lenS t45 fun t90 =>
  bi BinOp.rem t88 t90 fun t91 =>
  slc 1 t45 none (some t91) fun t92 =>
  cal P f_pack_Read [t92] w fun t93 w =>
  nilP false t93 fun t95 =>
  cnd t95
  (R (Value.bool false) w)
  (lenS t0 fun t97 =>
  lp1 (Value.int IntKind.i64 0) w fun _ t98 w again8 =>
  bi BinOp.lss t98 t97 fun t99 =>
  cnd t99
  (ixs 4 t0 t98 fun t100 =>
  ldN 4 t100 w.heap fun t101 =>
  efP P (Instr.alloc T_flurrylaw01_Item true (.tuple #[])) w fun t14 w =>
  stN 4 t14 t101 w fun w =>
  ldN 4 t14 w.heap fun t103 =>
  cal P f_law01_back [t93, t103] w fun t104 w =>
  bi BinOp.add t98 (Value.int IntKind.i64 1) fun t105 =>
  again8 t105 w)
  (cal P f_pack_Unpacker_Err [t93] w fun t107 w =>
  bi BinOp.eql t107 (Value.int IntKind.i64 11) fun t108 =>
  R t108 w)))))))))
theorem e_law01_PackBack (t0 t1 : Value) (w : World) (R : Value → World → Prop) : intp P A_law01_PackBack (bodyOf Try.f7) (ini [t0, t1]) w (retK P Try.f7.results.toList R) (fun _ _ _ => False) (retK P Try.f7.results.toList R) = c_law01_PackBack t0 t1 w R := by kernel_rfl
theorem k_law01_PackBack : chk P Try.f7.ntmps A_law01_PackBack (bodyOf Try.f7) = true := by kernel_rfl
theorem l_law01_PackBack {t0 t1 : Value} {w : World} {R : Value → World → Prop} (h : c_law01_PackBack t0 t1 w R) : cal P f_law01_PackBack [t0, t1] w R :=
  calls_of mixed Try.func7 rfl (by kernel_rfl) k_law01_PackBack (Eq.mpr (e_law01_PackBack t0 t1 w R) h)
theorem s_law01_PackBack {t0 t1 : Value} {w : World} {Q : Value → World → Prop} (h : ∀ R : Value → World → Prop, (∀ v w', Q v w' → R v w') → c_law01_PackBack t0 t1 w R) : cal P f_law01_PackBack [t0, t1] w Q := l_law01_PackBack (h Q fun _ _ h => h)

/-- flurry/flurrylaw01.PackTakes -/
def A_law01_PackTakes : An := (An.s (An.r []) (An.s (An.s (An.r [[16], [21]]) (An.s (An.s (An.r []) An.o) An.o)) (An.s (An.r []) (An.s (An.r []) (An.s (An.s (An.r []) (An.s (An.s (An.r []) An.o) An.o)) (An.s (An.s (An.r []) (An.b (An.l [34] (An.s (An.r []) (An.s (An.s An.o An.o) (An.s (An.b (An.s (An.r []) (An.r []))) (An.r []))))))) (An.s (An.s (An.r []) (An.b (An.l [46] (An.s (An.r []) (An.s (An.s An.o An.o) (An.s (An.b (An.s (An.r []) (An.s (An.dc [0, 1, 2, 3, 4, 5, 6, 8, 9, 10, 11, 12, 7, 13, 14, 15, 16, 18, 19, 20, 21, 17, 22, 23, 24, 25, 27, 26, 28, 29, 30] [3] [[63], [72], [79]]) (An.s (An.s (An.r []) An.o) An.o)))) (An.r []))))))) (An.s (An.r []) An.o))))))))
def c_law01_PackTakes (t0 t1 : Value) (w : World) (R : Value → World → Prop) : Prop :=
  cal P f_law01_live [] w fun t11 w =>
  notB t11 fun t12 =>
  jn1 (fun k0 =>
  gif t12 false
  (lenS t0 fun t15 =>
  bi BinOp.gtr t15 (Value.int IntKind.i64 20000) fun t16 =>
  k0 t16 w)
  (k0 undef w)) fun _ t16_1 w =>
  pik t12 (Value.bool true) t16_1 fun t17 =>
  jn1 (fun k1 =>
  gif t17 false
  (lenS t1 fun t20 =>
  bi BinOp.gtr t20 (Value.int IntKind.i64 200) fun t21 =>
  k1 t21 w)
  (k1 undef w)) fun _ t21_1 w =>
  pik t17 (Value.bool true) t21_1 fun t22 =>
  cnd t22
  (cal P f_law01_live [] w fun t23 w =>
  R t23 w)
  (cal P f_bytes_Clone [t0] w fun t25 w =>
  cal P f_pack_Read [t25] w fun t27 w =>
  cal P f_ref01_Read [t0] w fun t29 w =>
  nilP false t27 fun t31 =>
  cnd t31
  (R (Value.bool false) w)
  (lenS t25 fun t33 =>
  lp1 (Value.int IntKind.i64 0) w fun _ t34 w again2 =>
  bi BinOp.lss t34 t33 fun t35 =>
  cnd t35
  (ixs 1 t25 t34 fun t39 =>
  ld1 t39 w.heap fun t40 =>
  bi BinOp.xor t40 (Value.int IntKind.u8 255) fun t41 =>
  ixs 1 t25 t34 fun t42 =>
  st1 t42 t41 w fun w =>
  bi BinOp.add t34 (Value.int IntKind.i64 1) fun t43 =>
  again2 t43 w)
  (lenS t1 fun t45 =>
  lp1 (Value.int IntKind.i64 0) w fun _ t46 w again3 =>
  bi BinOp.lss t46 t45 fun t47 =>
  cnd t47
  (ixs 4 t1 t46 fun t48 =>
  ldN 4 t48 w.heap fun t49 =>
  efP P (Instr.alloc T_flurrylaw01_Item true (.tuple #[])) w fun t10 w =>
  stN 4 t10 t49 w fun w =>
  drH w fun S w =>
  rdS S (fun w => ldN 4 t10 w.heap) fun t52 =>
  efC (cal P f_law01_takes [t27, t29, t52]) w fun S t53 w =>
  notB t53 fun t54 =>
  jn1 (fun k4 =>
  gif t54 false
  (nilc t29 fun t59 =>
  fad 0 t59 fun t60 =>
  rdS S (fun w => ld1 t60 w.heap) fun t61 =>
  lenS t61 fun t62 =>
  efS S (cal P f_pack_Unpacker_Rest [t27]) w fun t57 w =>
  bi BinOp.neq t57 t62 fun t63 =>
  k4 t63 w)
  (k4 undef w)) fun _ t63_1 w =>
  pik t54 (Value.bool true) t63_1 fun t64 =>
  jn1 (fun k5 =>
  gif t64 false
  (nilc t29 fun t69 =>
  fad 1 t69 fun t70 =>
  rdS S (fun w => ld1 t70 w.heap) fun t71 =>
  efS S (cal P f_pack_Unpacker_Err [t27]) w fun t67 w =>
  bi BinOp.neq t67 t71 fun t72 =>
  k5 t72 w)
  (k5 undef w)) fun _ t72_1 w =>
  pik t64 (Value.bool true) t72_1 fun t73 =>
  jn1 (fun k6 =>
  gif t73 false
  (efS S (cal P f_pack_Unpacker_End [t27]) w fun t76 w =>
  efS S (cal P f_ref01_Unpacker_End [t29]) w fun t78 w =>
  bi BinOp.neq t76 t78 fun t79 =>
  k6 t79 w)
  (k6 undef w)) fun _ t79_1 w =>
  pik t73 (Value.bool true) t79_1 fun t80 =>
  cnd t80
  (R (Value.bool false) w)
  (bi BinOp.add t46 (Value.int IntKind.i64 1) fun t81 =>
  again3 t81 w))
  (cal P f_pack_Unpacker_End [t27] w fun t83 w =>
  cal P f_ref01_Unpacker_End [t29] w fun t85 w =>
  bi BinOp.eql t83 t85 fun t86 =>
  R t86 w))))
theorem e_law01_PackTakes (t0 t1 : Value) (w : World) (R : Value → World → Prop) : intp P A_law01_PackTakes (bodyOf Try.f8) (ini [t0, t1]) w (retK P Try.f8.results.toList R) (fun _ _ _ => False) (retK P Try.f8.results.toList R) = c_law01_PackTakes t0 t1 w R := by kernel_rfl
theorem k_law01_PackTakes : chk P Try.f8.ntmps A_law01_PackTakes (bodyOf Try.f8) = true := by kernel_rfl
theorem l_law01_PackTakes {t0 t1 : Value} {w : World} {R : Value → World → Prop} (h : c_law01_PackTakes t0 t1 w R) : cal P f_law01_PackTakes [t0, t1] w R :=
  calls_of mixed Try.func8 rfl (by kernel_rfl) k_law01_PackTakes (Eq.mpr (e_law01_PackTakes t0 t1 w R) h)
theorem s_law01_PackTakes {t0 t1 : Value} {w : World} {Q : Value → World → Prop} (h : ∀ R : Value → World → Prop, (∀ v w', Q v w' → R v w') → c_law01_PackTakes t0 t1 w R) : cal P f_law01_PackTakes [t0, t1] w Q := l_law01_PackTakes (h Q fun _ _ h => h)

/-- flurry/pack.New -/
def A_pack_New : An := (An.s (An.r []) (An.s (An.r []) (An.s (An.r []) (An.s (An.s (An.r [[15]]) (An.s (An.r []) An.o)) (An.s (An.r []) An.o)))))
def c_pack_New (t0 : Value) (w : World) (R : Value → World → Prop) : Prop :=
  rdP P (Instr.build T_pack_Packer #[(1, t0)]) w fun t5 =>
  bx T_pack_Packer t5 w fun t6 w =>
  nilc t6 fun t8 =>
  fad 0 t8 fun t9 =>
  fad 0 t9 fun t10 =>
  st1 t10 (Value.bool true) w fun w =>
  bi BinOp.lss t0 (Value.int IntKind.i64 0) fun t12 =>
  jn1 (fun k0 =>
  gif t12 false
  (bi BinOp.gtr t0 (Value.int IntKind.i64 8192) fun t15 =>
  k0 t15 w)
  (k0 undef w)) fun _ t15_1 w =>
  pik t12 (Value.bool true) t15_1 fun t16 =>
  cnd t16
  (nilc t6 fun t18 =>
  fad 0 t18 fun t19 =>
  fad 2 t19 fun t20 =>
  st1 t20 (Value.int IntKind.i64 1) w fun w =>
  R t6 w)
  (R t6 w)
theorem e_pack_New (t0 : Value) (w : World) (R : Value → World → Prop) : intp P A_pack_New (bodyOf Try.f9) (ini [t0]) w (retK P Try.f9.results.toList R) (fun _ _ _ => False) (retK P Try.f9.results.toList R) = c_pack_New t0 w R := by kernel_rfl
theorem k_pack_New : chk P Try.f9.ntmps A_pack_New (bodyOf Try.f9) = true := by kernel_rfl
theorem l_pack_New {t0 : Value} {w : World} {R : Value → World → Prop} (h : c_pack_New t0 w R) : cal P f_pack_New [t0] w R :=
  calls_of mixed Try.func9 rfl (by kernel_rfl) k_pack_New (Eq.mpr (e_pack_New t0 w R) h)
theorem s_pack_New {t0 : Value} {w : World} {Q : Value → World → Prop} (h : ∀ R : Value → World → Prop, (∀ v w', Q v w' → R v w') → c_pack_New t0 w R) : cal P f_pack_New [t0] w Q := l_pack_New (h Q fun _ _ h => h)

/-- flurry/flurrylaw01.live -/
def A_law01_live : An := (An.s (An.r []) (An.s (An.r []) (An.s (An.s (An.r []) (An.s (An.s (An.r []) An.o) An.o)) (An.s (An.r []) (An.s (An.r []) (An.s (An.r []) (An.s (An.r []) (An.s (An.r [[24]]) An.o))))))))
def c_law01_live (w : World) (R : Value → World → Prop) : Prop :=
  cal P f_pack_New [(Value.int IntKind.i64 20)] w fun t4 w =>
  nilP false t4 fun t6 =>
  cnd t6
  (R (Value.bool false) w)
  (cal P f_pack_Packer_Short [t4, (Value.int IntKind.u16 258)] w fun t8 w =>
  efP P (Instr.buildSlice T_sl_uint8 2 #[(0, (Value.int IntKind.u8 7)), (1, (Value.int IntKind.u8 8))]) w fun t10 w =>
  cal P f_pack_Packer_Bytes [t4, t10] w fun t11 w =>
  cal P f_pack_Packer_Text [t4, (Value.string { data := #[195, 169] })] w fun t13 w =>
  cal P f_pack_Packer_Out [t4] w fun t16 w =>
  ext 0 t16 fun t17 =>
  ext 1 t16 fun t18 =>
  bi BinOp.eql t18 (Value.int IntKind.i64 0) fun t20 =>
  jn1 (fun k0 =>
  gif t20 true
  (efP P (Instr.buildSlice T_sl_uint8 12 #[(0, (Value.int IntKind.u8 1)), (1, (Value.int IntKind.u8 2)), (2, (Value.int IntKind.u8 0)), (3, (Value.int IntKind.u8 0)), (4, (Value.int IntKind.u8 0)), (5, (Value.int IntKind.u8 2)), (6, (Value.int IntKind.u8 7)), (7, (Value.int IntKind.u8 8)), (8, (Value.int IntKind.u8 0)), (9, (Value.int IntKind.u8 2)), (10, (Value.int IntKind.u8 195)), (11, (Value.int IntKind.u8 169))]) w fun t23 w =>
  cal P f_bytes_Equal [t17, t23] w fun t24 w =>
  k0 t24 w)
  (k0 undef w)) fun _ t24_1 w =>
  pik t20 t24_1 (Value.bool false) fun t25 =>
  R t25 w)
theorem e_law01_live (w : World) (R : Value → World → Prop) : intp P A_law01_live (bodyOf Try.f10) (ini []) w (retK P Try.f10.results.toList R) (fun _ _ _ => False) (retK P Try.f10.results.toList R) = c_law01_live  w R := by kernel_rfl
theorem k_law01_live : chk P Try.f10.ntmps A_law01_live (bodyOf Try.f10) = true := by kernel_rfl
theorem l_law01_live {w : World} {R : Value → World → Prop} (h : c_law01_live w R) : cal P f_law01_live [] w R :=
  calls_of mixed Try.func10 rfl (by kernel_rfl) k_law01_live (Eq.mpr (e_law01_live w R) h)
theorem s_law01_live {w : World} {Q : Value → World → Prop} (h : ∀ R : Value → World → Prop, (∀ v w', Q v w' → R v w') → c_law01_live w R) : cal P f_law01_live [] w Q := l_law01_live (h Q fun _ _ h => h)

/-- flurry/flurrylaw01.put -/
def A_law01_put : An := (An.s (An.r []) (An.d [0, 2, 1, 3] []))
def c_law01_put (t0 t1 : Value) (w : World) (R : Value → World → Prop) : Prop :=
  bx T_flurrylaw01_Item t1 w fun t3 w =>
  drH w fun S w =>
  rdS S (fun w => ldN 4 t3 w.heap) fun t6 =>
  efS S (cal P f_ref01_New [(Value.int IntKind.i64 0)]) w fun t5 w =>
  efS S (cal P f_law01_puts [t0, t5, t6]) w fun t7 w =>
  R (Value.tuple #[]) w
theorem e_law01_put (t0 t1 : Value) (w : World) (R : Value → World → Prop) : intp P A_law01_put (bodyOf Try.f11) (ini [t0, t1]) w (retK P Try.f11.results.toList R) (fun _ _ _ => False) (retK P Try.f11.results.toList R) = c_law01_put t0 t1 w R := by kernel_rfl
theorem k_law01_put : chk P Try.f11.ntmps A_law01_put (bodyOf Try.f11) = true := by kernel_rfl
theorem l_law01_put {t0 t1 : Value} {w : World} {R : Value → World → Prop} (h : c_law01_put t0 t1 w R) : cal P f_law01_put [t0, t1] w R :=
  calls_of mixed Try.func11 rfl (by kernel_rfl) k_law01_put (Eq.mpr (e_law01_put t0 t1 w R) h)
theorem s_law01_put {t0 t1 : Value} {w : World} {Q : Value → World → Prop} (h : ∀ R : Value → World → Prop, (∀ v w', Q v w' → R v w') → c_law01_put t0 t1 w R) : cal P f_law01_put [t0, t1] w Q := l_law01_put (h Q fun _ _ h => h)

/-- (*flurry/pack.Packer).Out -/
def A_pack_Packer_Out : An := (An.s (An.r []) (An.s (An.s (An.r []) (An.s (An.r []) (An.s (An.s (An.r []) An.o) An.o))) (An.s (An.r []) (An.s (An.r []) (An.s (An.r []) An.o)))))
def c_pack_Packer_Out (t0 : Value) (w : World) (R : Value → World → Prop) : Prop :=
  cal P f_pack_Packer_Err [t0] w fun t7 w =>
  bi BinOp.neq t7 (Value.int IntKind.i64 0) fun t9 =>
  cnd t9
  (R (Value.tuple #[(Value.slice none 0 0), t7]) w)
  (nilc t0 fun t12 =>
  fad 0 t12 fun t13 =>
  fad 1 t13 fun t14 =>
  ld1 t14 w.heap fun t15 =>
  lenS t15 fun t16 =>
  efP P (Instr.makeSlice T_sl_uint8 t16 t16) w fun t17 w =>
  nilc t0 fun t20 =>
  fad 0 t20 fun t21 =>
  fad 1 t21 fun t22 =>
  ld1 t22 w.heap fun t23 =>
  efP P (Builtin.copy_ #[T_sl_uint8, T_sl_uint8] T_int #[t17, t23]) w fun t24 w =>
  R (Value.tuple #[t17, (Value.int IntKind.i64 0)]) w)
theorem e_pack_Packer_Out (t0 : Value) (w : World) (R : Value → World → Prop) : intp P A_pack_Packer_Out (bodyOf Try.f12) (ini [t0]) w (retK P Try.f12.results.toList R) (fun _ _ _ => False) (retK P Try.f12.results.toList R) = c_pack_Packer_Out t0 w R := by kernel_rfl
theorem k_pack_Packer_Out : chk P Try.f12.ntmps A_pack_Packer_Out (bodyOf Try.f12) = true := by kernel_rfl
theorem l_pack_Packer_Out {t0 : Value} {w : World} {R : Value → World → Prop} (h : c_pack_Packer_Out t0 w R) : cal P f_pack_Packer_Out [t0] w R :=
  calls_of mixed Try.func12 rfl (by kernel_rfl) k_pack_Packer_Out (Eq.mpr (e_pack_Packer_Out t0 w R) h)
theorem s_pack_Packer_Out {t0 : Value} {w : World} {Q : Value → World → Prop} (h : ∀ R : Value → World → Prop, (∀ v w', Q v w' → R v w') → c_pack_Packer_Out t0 w R) : cal P f_pack_Packer_Out [t0] w Q := l_pack_Packer_Out (h Q fun _ _ h => h)

/-- bytes.Compare -/
def A_bytes_Compare : An := (An.s (An.r []) (An.s (An.r []) An.o))
def c_bytes_Compare (t0 t1 : Value) (w : World) (R : Value → World → Prop) : Prop :=
  efN P f_internal_bytealg_Compare [t0, t1] w fun t7 w =>
  R t7 w
theorem e_bytes_Compare (t0 t1 : Value) (w : World) (R : Value → World → Prop) : intp P A_bytes_Compare (bodyOf Try.f13) (ini [t0, t1]) w (retK P Try.f13.results.toList R) (fun _ _ _ => False) (retK P Try.f13.results.toList R) = c_bytes_Compare t0 t1 w R := by kernel_rfl
theorem k_bytes_Compare : chk P Try.f13.ntmps A_bytes_Compare (bodyOf Try.f13) = true := by kernel_rfl
theorem l_bytes_Compare {t0 t1 : Value} {w : World} {R : Value → World → Prop} (h : c_bytes_Compare t0 t1 w R) : cal P f_bytes_Compare [t0, t1] w R :=
  calls_of mixed Try.func13 rfl (by kernel_rfl) k_bytes_Compare (Eq.mpr (e_bytes_Compare t0 t1 w R) h)
theorem s_bytes_Compare {t0 t1 : Value} {w : World} {Q : Value → World → Prop} (h : ∀ R : Value → World → Prop, (∀ v w', Q v w' → R v w') → c_bytes_Compare t0 t1 w R) : cal P f_bytes_Compare [t0, t1] w Q := l_bytes_Compare (h Q fun _ _ h => h)

/-- bytes.Equal -/
def A_bytes_Equal : An := (An.s (An.r []) (An.s (An.r []) An.o))
def c_bytes_Equal (t0 t1 : Value) (w : World) (R : Value → World → Prop) : Prop :=
  rdP P (convert T_sl_uint8 T_string t0) w fun t6 =>
  rdP P (convert T_sl_uint8 T_string t1) w fun t8 =>
  rdP P (eqS BinOp.eql T_string (Operand.tmp 6) (Operand.tmp 8) t6 t8) w fun t9 =>
  R t9 w
theorem e_bytes_Equal (t0 t1 : Value) (w : World) (R : Value → World → Prop) : intp P A_bytes_Equal (bodyOf Try.f14) (ini [t0, t1]) w (retK P Try.f14.results.toList R) (fun _ _ _ => False) (retK P Try.f14.results.toList R) = c_bytes_Equal t0 t1 w R := by kernel_rfl
theorem k_bytes_Equal : chk P Try.f14.ntmps A_bytes_Equal (bodyOf Try.f14) = true := by kernel_rfl
theorem l_bytes_Equal {t0 t1 : Value} {w : World} {R : Value → World → Prop} (h : c_bytes_Equal t0 t1 w R) : cal P f_bytes_Equal [t0, t1] w R :=
  calls_of mixed Try.func14 rfl (by kernel_rfl) k_bytes_Equal (Eq.mpr (e_bytes_Equal t0 t1 w R) h)
theorem s_bytes_Equal {t0 t1 : Value} {w : World} {Q : Value → World → Prop} (h : ∀ R : Value → World → Prop, (∀ v w', Q v w' → R v w') → c_bytes_Equal t0 t1 w R) : cal P f_bytes_Equal [t0, t1] w Q := l_bytes_Equal (h Q fun _ _ h => h)

/-- flurry/flurrylaw01.few -/
def A_law01_few : An := (An.s (An.r []) (An.s (An.r []) (An.s (An.s (An.r []) (An.b (An.l [3, 12] (An.s (An.r []) (An.s (An.s An.o An.o) (An.s (An.b (An.s (An.r []) (An.r []))) (An.r []))))))) (An.s (An.r [[29]]) An.o))))
def c_law01_few (t0 : Value) (w : World) (R : Value → World → Prop) : Prop :=
  lenS t0 fun t8 =>
  rdP P (Builtin.min_ #[T_int, T_int] T_int #[t8, (Value.int IntKind.i64 300)]) w fun t9 =>
  slc 4 t0 none (some t9) fun t10 =>
  lenS t10 fun t11 =>
  lp2 (Value.int IntKind.i64 0) (Value.int IntKind.i64 0) w fun _ t3 t12 w again0 =>
  bi BinOp.lss t12 t11 fun t13 =>
  cnd t13
  (ixs 4 t10 t12 fun t14 =>
  ldN 4 t14 w.heap fun t15 =>
  efP P (Instr.alloc T_flurrylaw01_Item true (.tuple #[])) w fun t5 w =>
  stN 4 t5 t15 w fun w =>
  fad 2 t5 fun t17 =>
  ld1 t17 w.heap fun t18 =>
  lenS t18 fun t19 =>
  rdP P (Builtin.min_ #[T_int, T_int] T_int #[t19, (Value.int IntKind.i64 1048576)]) w fun t20 =>
  bi BinOp.add t3 t20 fun t21 =>
  rdP P (Builtin.min_ #[T_int, T_int] T_int #[t21, (Value.int IntKind.i64 1048576)]) w fun t22 =>
  bi BinOp.add t12 (Value.int IntKind.i64 1) fun t23 =>
  again0 t22 t23 w)
  (lenS t0 fun t25 =>
  bi BinOp.leq t25 (Value.int IntKind.i64 200) fun t26 =>
  jn1 (fun k1 =>
  gif t26 true
  (bi BinOp.leq t3 (Value.int IntKind.i64 200000) fun t29 =>
  k1 t29 w)
  (k1 undef w)) fun _ t29_1 w =>
  pik t26 t29_1 (Value.bool false) fun t30 =>
  R t30 w)
theorem e_law01_few (t0 : Value) (w : World) (R : Value → World → Prop) : intp P A_law01_few (bodyOf Try.f15) (ini [t0]) w (retK P Try.f15.results.toList R) (fun _ _ _ => False) (retK P Try.f15.results.toList R) = c_law01_few t0 w R := by kernel_rfl
theorem k_law01_few : chk P Try.f15.ntmps A_law01_few (bodyOf Try.f15) = true := by kernel_rfl
theorem l_law01_few {t0 : Value} {w : World} {R : Value → World → Prop} (h : c_law01_few t0 w R) : cal P f_law01_few [t0] w R :=
  calls_of mixed Try.func15 rfl (by kernel_rfl) k_law01_few (Eq.mpr (e_law01_few t0 w R) h)
theorem s_law01_few {t0 : Value} {w : World} {Q : Value → World → Prop} (h : ∀ R : Value → World → Prop, (∀ v w', Q v w' → R v w') → c_law01_few t0 w R) : cal P f_law01_few [t0] w Q := l_law01_few (h Q fun _ _ h => h)

/-- flurry/flurryref01.New -/
def A_ref01_New : An := (An.s (An.r []) (An.s (An.r []) (An.s (An.s (An.r [[11]]) (An.s (An.r []) An.o)) (An.s (An.r []) An.o))))
def c_ref01_New (t0 : Value) (w : World) (R : Value → World → Prop) : Prop :=
  rdP P (Instr.build T_flurryref01_Packer #[(1, t0)]) w fun t5 =>
  bx T_flurryref01_Packer t5 w fun t6 w =>
  bi BinOp.lss t0 (Value.int IntKind.i64 0) fun t8 =>
  jn1 (fun k0 =>
  gif t8 false
  (bi BinOp.gtr t0 (Value.int IntKind.i64 8192) fun t11 =>
  k0 t11 w)
  (k0 undef w)) fun _ t11_1 w =>
  pik t8 (Value.bool true) t11_1 fun t12 =>
  cnd t12
  (nilc t6 fun t14 =>
  fad 2 t14 fun t15 =>
  st1 t15 (Value.int IntKind.i64 1) w fun w =>
  R t6 w)
  (R t6 w)
theorem e_ref01_New (t0 : Value) (w : World) (R : Value → World → Prop) : intp P A_ref01_New (bodyOf Try.f16) (ini [t0]) w (retK P Try.f16.results.toList R) (fun _ _ _ => False) (retK P Try.f16.results.toList R) = c_ref01_New t0 w R := by kernel_rfl
theorem k_ref01_New : chk P Try.f16.ntmps A_ref01_New (bodyOf Try.f16) = true := by kernel_rfl
theorem l_ref01_New {t0 : Value} {w : World} {R : Value → World → Prop} (h : c_ref01_New t0 w R) : cal P f_ref01_New [t0] w R :=
  calls_of mixed Try.func16 rfl (by kernel_rfl) k_ref01_New (Eq.mpr (e_ref01_New t0 w R) h)
theorem s_ref01_New {t0 : Value} {w : World} {Q : Value → World → Prop} (h : ∀ R : Value → World → Prop, (∀ v w', Q v w' → R v w') → c_ref01_New t0 w R) : cal P f_ref01_New [t0] w Q := l_ref01_New (h Q fun _ _ h => h)

/-- flurry/flurrylaw01.puts -/
def A_law01_puts : An := (An.s (An.r []) (An.s (An.r []) (An.b (An.s (An.r []) (An.s (An.s (An.r []) (An.r [])) (An.s (An.r []) (An.s (An.s (An.r []) (An.r [])) (An.s (An.r []) (An.s (An.s (An.r []) (An.r [])) (An.s (An.r []) (An.s (An.s (An.r []) (An.r [])) (An.s (An.r []) (An.s (An.s (An.r []) (An.r [])) (An.s (An.r []) (An.s (An.s (An.r []) (An.r [])) (An.s (An.r []) (An.s (An.s (An.r []) (An.r [])) An.o)))))))))))))))))
def c_law01_puts (t0 t1 t2 : Value) (w : World) (R : Value → World → Prop) : Prop :=
  bx T_flurrylaw01_Item t2 w fun t5 w =>
  fad 0 t5 fun t6 =>
  ld1 t6 w.heap fun t7 =>
  bi BinOp.eql t7 (Value.int IntKind.i64 0) fun t9 =>
  cnd t9
  (fad 2 t5 fun t11 =>
  ld1 t11 w.heap fun t12 =>
  cal P f_pack_Packer_Fixed [t0, t12] w fun t13 w =>
  fad 2 t5 fun t15 =>
  ld1 t15 w.heap fun t16 =>
  cal P f_ref01_Packer_Fixed [t1, t16] w fun t17 w =>
  R (Value.tuple #[]) w)
  (bi BinOp.eql t7 (Value.int IntKind.i64 1) fun t19 =>
  cnd t19
  (fad 1 t5 fun t21 =>
  ld1 t21 w.heap fun t22 =>
  cvi IntKind.u8 t22 fun t23 =>
  cal P f_pack_Packer_Byte [t0, t23] w fun t24 w =>
  fad 1 t5 fun t26 =>
  ld1 t26 w.heap fun t27 =>
  bi BinOp.rem t27 (Value.int IntKind.u64 256) fun t28 =>
  cal P f_ref01_Packer_Num [t1, (Value.int IntKind.i64 1), t28] w fun t29 w =>
  R (Value.tuple #[]) w)
  (bi BinOp.eql t7 (Value.int IntKind.i64 2) fun t31 =>
  cnd t31
  (fad 1 t5 fun t33 =>
  ld1 t33 w.heap fun t34 =>
  cvi IntKind.u16 t34 fun t35 =>
  cal P f_pack_Packer_Short [t0, t35] w fun t36 w =>
  fad 1 t5 fun t38 =>
  ld1 t38 w.heap fun t39 =>
  bi BinOp.rem t39 (Value.int IntKind.u64 65536) fun t40 =>
  cal P f_ref01_Packer_Num [t1, (Value.int IntKind.i64 2), t40] w fun t41 w =>
  R (Value.tuple #[]) w)
  (bi BinOp.eql t7 (Value.int IntKind.i64 3) fun t43 =>
  cnd t43
  (fad 2 t5 fun t45 =>
  ld1 t45 w.heap fun t46 =>
  cal P f_pack_Packer_Bytes [t0, t46] w fun t47 w =>
  fad 2 t5 fun t49 =>
  ld1 t49 w.heap fun t50 =>
  cal P f_ref01_Packer_Bytes [t1, t50] w fun t51 w =>
  R (Value.tuple #[]) w)
  (bi BinOp.eql t7 (Value.int IntKind.i64 4) fun t53 =>
  cnd t53
  (fad 1 t5 fun t55 =>
  ld1 t55 w.heap fun t56 =>
  cvi IntKind.u32 t56 fun t57 =>
  cal P f_pack_Packer_Int [t0, t57] w fun t58 w =>
  fad 1 t5 fun t60 =>
  ld1 t60 w.heap fun t61 =>
  bi BinOp.rem t61 (Value.int IntKind.u64 4294967296) fun t62 =>
  cal P f_ref01_Packer_Num [t1, (Value.int IntKind.i64 4), t62] w fun t63 w =>
  R (Value.tuple #[]) w)
  (bi BinOp.eql t7 (Value.int IntKind.i64 5) fun t65 =>
  cnd t65
  (fad 2 t5 fun t67 =>
  ld1 t67 w.heap fun t68 =>
  rdP P (convert T_sl_uint8 T_string t68) w fun t69 =>
  cal P f_pack_Packer_Text [t0, t69] w fun t70 w =>
  fad 2 t5 fun t72 =>
  ld1 t72 w.heap fun t73 =>
  rdP P (convert T_sl_uint8 T_string t73) w fun t74 =>
  cal P f_ref01_Packer_Text [t1, t74] w fun t75 w =>
  R (Value.tuple #[]) w)
  (bi BinOp.eql t7 (Value.int IntKind.i64 8) fun t77 =>
  cnd t77
  (fad 1 t5 fun t79 =>
  ld1 t79 w.heap fun t80 =>
  cal P f_pack_Packer_Long [t0, t80] w fun t81 w =>
  fad 1 t5 fun t83 =>
  ld1 t83 w.heap fun t84 =>
  cal P f_ref01_Packer_Num [t1, (Value.int IntKind.i64 8), t84] w fun t85 w =>
  R (Value.tuple #[]) w)
  (R (Value.tuple #[]) w)))))))
theorem e_law01_puts (t0 t1 t2 : Value) (w : World) (R : Value → World → Prop) : intp P A_law01_puts (bodyOf Try.f17) (ini [t0, t1, t2]) w (retK P Try.f17.results.toList R) (fun _ _ _ => False) (retK P Try.f17.results.toList R) = c_law01_puts t0 t1 t2 w R := by kernel_rfl
theorem k_law01_puts : chk P Try.f17.ntmps A_law01_puts (bodyOf Try.f17) = true := by kernel_rfl
theorem l_law01_puts {t0 t1 t2 : Value} {w : World} {R : Value → World → Prop} (h : c_law01_puts t0 t1 t2 w R) : cal P f_law01_puts [t0, t1, t2] w R :=
  calls_of mixed Try.func17 rfl (by kernel_rfl) k_law01_puts (Eq.mpr (e_law01_puts t0 t1 t2 w R) h)
theorem s_law01_puts {t0 t1 t2 : Value} {w : World} {Q : Value → World → Prop} (h : ∀ R : Value → World → Prop, (∀ v w', Q v w' → R v w') → c_law01_puts t0 t1 t2 w R) : cal P f_law01_puts [t0, t1, t2] w Q := l_law01_puts (h Q fun _ _ h => h)

/-- (*flurry/pack.Packer).Len -/
def A_pack_Packer_Len : An := (An.s (An.r []) (An.s (An.s (An.r []) (An.s (An.s (An.r []) An.o) An.o)) (An.s (An.r []) An.o)))
def c_pack_Packer_Len (t0 : Value) (w : World) (R : Value → World → Prop) : Prop :=
  nilP false t0 fun t4 =>
  cnd t4
  (R (Value.int IntKind.i64 0) w)
  (nilc t0 fun t6 =>
  fad 0 t6 fun t7 =>
  fad 1 t7 fun t8 =>
  ld1 t8 w.heap fun t9 =>
  lenS t9 fun t10 =>
  R t10 w)
theorem e_pack_Packer_Len (t0 : Value) (w : World) (R : Value → World → Prop) : intp P A_pack_Packer_Len (bodyOf Try.f18) (ini [t0]) w (retK P Try.f18.results.toList R) (fun _ _ _ => False) (retK P Try.f18.results.toList R) = c_pack_Packer_Len t0 w R := by kernel_rfl
theorem k_pack_Packer_Len : chk P Try.f18.ntmps A_pack_Packer_Len (bodyOf Try.f18) = true := by kernel_rfl
theorem l_pack_Packer_Len {t0 : Value} {w : World} {R : Value → World → Prop} (h : c_pack_Packer_Len t0 w R) : cal P f_pack_Packer_Len [t0] w R :=
  calls_of mixed Try.func18 rfl (by kernel_rfl) k_pack_Packer_Len (Eq.mpr (e_pack_Packer_Len t0 w R) h)
theorem s_pack_Packer_Len {t0 : Value} {w : World} {Q : Value → World → Prop} (h : ∀ R : Value → World → Prop, (∀ v w', Q v w' → R v w') → c_pack_Packer_Len t0 w R) : cal P f_pack_Packer_Len [t0] w Q := l_pack_Packer_Len (h Q fun _ _ h => h)

/-- (*flurry/pack.Packer).Err -/
def A_pack_Packer_Err : An := (An.s (An.r []) (An.s (An.s (An.r [[11]]) (An.s (An.s (An.r []) An.o) An.o)) (An.s (An.r []) An.o)))
def c_pack_Packer_Err (t0 : Value) (w : World) (R : Value → World → Prop) : Prop :=
  nilP false t0 fun t4 =>
  jn1 (fun k0 =>
  gif t4 false
  (nilc t0 fun t7 =>
  fad 0 t7 fun t8 =>
  fad 0 t8 fun t9 =>
  ld1 t9 w.heap fun t10 =>
  notB t10 fun t11 =>
  k0 t11 w)
  (k0 undef w)) fun _ t11_1 w =>
  pik t4 (Value.bool true) t11_1 fun t12 =>
  cnd t12
  (R (Value.int IntKind.i64 2) w)
  (nilc t0 fun t14 =>
  fad 0 t14 fun t15 =>
  fad 2 t15 fun t16 =>
  ld1 t16 w.heap fun t17 =>
  R t17 w)
theorem e_pack_Packer_Err (t0 : Value) (w : World) (R : Value → World → Prop) : intp P A_pack_Packer_Err (bodyOf Try.f19) (ini [t0]) w (retK P Try.f19.results.toList R) (fun _ _ _ => False) (retK P Try.f19.results.toList R) = c_pack_Packer_Err t0 w R := by kernel_rfl
theorem k_pack_Packer_Err : chk P Try.f19.ntmps A_pack_Packer_Err (bodyOf Try.f19) = true := by kernel_rfl
theorem l_pack_Packer_Err {t0 : Value} {w : World} {R : Value → World → Prop} (h : c_pack_Packer_Err t0 w R) : cal P f_pack_Packer_Err [t0] w R :=
  calls_of mixed Try.func19 rfl (by kernel_rfl) k_pack_Packer_Err (Eq.mpr (e_pack_Packer_Err t0 w R) h)
theorem s_pack_Packer_Err {t0 : Value} {w : World} {Q : Value → World → Prop} (h : ∀ R : Value → World → Prop, (∀ v w', Q v w' → R v w') → c_pack_Packer_Err t0 w R) : cal P f_pack_Packer_Err [t0] w Q := l_pack_Packer_Err (h Q fun _ _ h => h)

/-- (*flurry/flurryref01.Packer).Out -/
def A_ref01_Packer_Out : An := (An.s (An.r []) (An.s (An.s (An.r []) (An.s (An.s (An.r []) An.o) An.o)) (An.s (An.r []) An.o)))
def c_ref01_Packer_Out (t0 : Value) (w : World) (R : Value → World → Prop) : Prop :=
  nilc t0 fun t5 =>
  fad 2 t5 fun t6 =>
  ld1 t6 w.heap fun t7 =>
  bi BinOp.neq t7 (Value.int IntKind.i64 0) fun t8 =>
  cnd t8
  (drw w fun w =>
  nilc t0 fun t10 =>
  fad 2 t10 fun t11 =>
  ld1 t11 w.heap fun t12 =>
  R (Value.tuple #[(Value.slice none 0 0), t12]) w)
  (nilc t0 fun t14 =>
  fad 0 t14 fun t15 =>
  ld1 t15 w.heap fun t16 =>
  R (Value.tuple #[t16, (Value.int IntKind.i64 0)]) w)
theorem e_ref01_Packer_Out (t0 : Value) (w : World) (R : Value → World → Prop) : intp P A_ref01_Packer_Out (bodyOf Try.f20) (ini [t0]) w (retK P Try.f20.results.toList R) (fun _ _ _ => False) (retK P Try.f20.results.toList R) = c_ref01_Packer_Out t0 w R := by kernel_rfl
theorem k_ref01_Packer_Out : chk P Try.f20.ntmps A_ref01_Packer_Out (bodyOf Try.f20) = true := by kernel_rfl
theorem l_ref01_Packer_Out {t0 : Value} {w : World} {R : Value → World → Prop} (h : c_ref01_Packer_Out t0 w R) : cal P f_ref01_Packer_Out [t0] w R :=
  calls_of mixed Try.func20 rfl (by kernel_rfl) k_ref01_Packer_Out (Eq.mpr (e_ref01_Packer_Out t0 w R) h)
theorem s_ref01_Packer_Out {t0 : Value} {w : World} {Q : Value → World → Prop} (h : ∀ R : Value → World → Prop, (∀ v w', Q v w' → R v w') → c_ref01_Packer_Out t0 w R) : cal P f_ref01_Packer_Out [t0] w Q := l_ref01_Packer_Out (h Q fun _ _ h => h)

/-- bytes.Clone -/
def A_bytes_Clone : An := (An.s (An.r []) (An.s (An.s (An.r []) (An.s (An.s (An.r []) An.o) An.o)) (An.s (An.r []) An.o)))
def c_bytes_Clone (t0 : Value) (w : World) (R : Value → World → Prop) : Prop :=
  nilS false t0 fun t4 =>
  cnd t4
  (R (Value.slice none 0 0) w)
  (efP P (Instr.buildSlice T_sl_uint8 0 #[]) w fun t5 w =>
  efP P (Builtin.append_ #[T_sl_uint8, T_sl_uint8] T_sl_uint8 #[t5, t0]) w fun t7 w =>
  R t7 w)
theorem e_bytes_Clone (t0 : Value) (w : World) (R : Value → World → Prop) : intp P A_bytes_Clone (bodyOf Try.f21) (ini [t0]) w (retK P Try.f21.results.toList R) (fun _ _ _ => False) (retK P Try.f21.results.toList R) = c_bytes_Clone t0 w R := by kernel_rfl
theorem k_bytes_Clone : chk P Try.f21.ntmps A_bytes_Clone (bodyOf Try.f21) = true := by kernel_rfl
theorem l_bytes_Clone {t0 : Value} {w : World} {R : Value → World → Prop} (h : c_bytes_Clone t0 w R) : cal P f_bytes_Clone [t0] w R :=
  calls_of mixed Try.func21 rfl (by kernel_rfl) k_bytes_Clone (Eq.mpr (e_bytes_Clone t0 w R) h)
theorem s_bytes_Clone {t0 : Value} {w : World} {Q : Value → World → Prop} (h : ∀ R : Value → World → Prop, (∀ v w', Q v w' → R v w') → c_bytes_Clone t0 w R) : cal P f_bytes_Clone [t0] w Q := l_bytes_Clone (h Q fun _ _ h => h)

/-- (*flurry/pack.Unpacker).Byte -/
def A_pack_Unpacker_Byte : An := (An.s (An.r []) (An.s (An.r []) An.o))
def c_pack_Unpacker_Byte (t0 : Value) (w : World) (R : Value → World → Prop) : Prop :=
  cal P f_pack_Unpacker_take [t0, (Value.int IntKind.i64 1)] w fun t4 w =>
  cal P f_pack_value [t4] w fun t5 w =>
  cvi IntKind.u8 t5 fun t6 =>
  R t6 w
theorem e_pack_Unpacker_Byte (t0 : Value) (w : World) (R : Value → World → Prop) : intp P A_pack_Unpacker_Byte (bodyOf Try.f22) (ini [t0]) w (retK P Try.f22.results.toList R) (fun _ _ _ => False) (retK P Try.f22.results.toList R) = c_pack_Unpacker_Byte t0 w R := by kernel_rfl
theorem k_pack_Unpacker_Byte : chk P Try.f22.ntmps A_pack_Unpacker_Byte (bodyOf Try.f22) = true := by kernel_rfl
theorem l_pack_Unpacker_Byte {t0 : Value} {w : World} {R : Value → World → Prop} (h : c_pack_Unpacker_Byte t0 w R) : cal P f_pack_Unpacker_Byte [t0] w R :=
  calls_of mixed Try.func22 rfl (by kernel_rfl) k_pack_Unpacker_Byte (Eq.mpr (e_pack_Unpacker_Byte t0 w R) h)
theorem s_pack_Unpacker_Byte {t0 : Value} {w : World} {Q : Value → World → Prop} (h : ∀ R : Value → World → Prop, (∀ v w', Q v w' → R v w') → c_pack_Unpacker_Byte t0 w R) : cal P f_pack_Unpacker_Byte [t0] w Q := l_pack_Unpacker_Byte (h Q fun _ _ h => h)

/-- (*flurry/pack.Unpacker).Short -/
def A_pack_Unpacker_Short : An := (An.s (An.r []) (An.s (An.r []) An.o))
def c_pack_Unpacker_Short (t0 : Value) (w : World) (R : Value → World → Prop) : Prop :=
  cal P f_pack_Unpacker_take [t0, (Value.int IntKind.i64 2)] w fun t4 w =>
  cal P f_pack_value [t4] w fun t5 w =>
  cvi IntKind.u16 t5 fun t6 =>
  R t6 w
theorem e_pack_Unpacker_Short (t0 : Value) (w : World) (R : Value → World → Prop) : intp P A_pack_Unpacker_Short (bodyOf Try.f23) (ini [t0]) w (retK P Try.f23.results.toList R) (fun _ _ _ => False) (retK P Try.f23.results.toList R) = c_pack_Unpacker_Short t0 w R := by kernel_rfl
theorem k_pack_Unpacker_Short : chk P Try.f23.ntmps A_pack_Unpacker_Short (bodyOf Try.f23) = true := by kernel_rfl
theorem l_pack_Unpacker_Short {t0 : Value} {w : World} {R : Value → World → Prop} (h : c_pack_Unpacker_Short t0 w R) : cal P f_pack_Unpacker_Short [t0] w R :=
  calls_of mixed Try.func23 rfl (by kernel_rfl) k_pack_Unpacker_Short (Eq.mpr (e_pack_Unpacker_Short t0 w R) h)
theorem s_pack_Unpacker_Short {t0 : Value} {w : World} {Q : Value → World → Prop} (h : ∀ R : Value → World → Prop, (∀ v w', Q v w' → R v w') → c_pack_Unpacker_Short t0 w R) : cal P f_pack_Unpacker_Short [t0] w Q := l_pack_Unpacker_Short (h Q fun _ _ h => h)

/-- (*flurry/pack.Unpacker).Int -/
def A_pack_Unpacker_Int : An := (An.s (An.r []) (An.s (An.r []) An.o))
def c_pack_Unpacker_Int (t0 : Value) (w : World) (R : Value → World → Prop) : Prop :=
  cal P f_pack_Unpacker_take [t0, (Value.int IntKind.i64 4)] w fun t4 w =>
  cal P f_pack_value [t4] w fun t5 w =>
  cvi IntKind.u32 t5 fun t6 =>
  R t6 w
theorem e_pack_Unpacker_Int (t0 : Value) (w : World) (R : Value → World → Prop) : intp P A_pack_Unpacker_Int (bodyOf Try.f24) (ini [t0]) w (retK P Try.f24.results.toList R) (fun _ _ _ => False) (retK P Try.f24.results.toList R) = c_pack_Unpacker_Int t0 w R := by kernel_rfl
theorem k_pack_Unpacker_Int : chk P Try.f24.ntmps A_pack_Unpacker_Int (bodyOf Try.f24) = true := by kernel_rfl
theorem l_pack_Unpacker_Int {t0 : Value} {w : World} {R : Value → World → Prop} (h : c_pack_Unpacker_Int t0 w R) : cal P f_pack_Unpacker_Int [t0] w R :=
  calls_of mixed Try.func24 rfl (by kernel_rfl) k_pack_Unpacker_Int (Eq.mpr (e_pack_Unpacker_Int t0 w R) h)
theorem s_pack_Unpacker_Int {t0 : Value} {w : World} {Q : Value → World → Prop} (h : ∀ R : Value → World → Prop, (∀ v w', Q v w' → R v w') → c_pack_Unpacker_Int t0 w R) : cal P f_pack_Unpacker_Int [t0] w Q := l_pack_Unpacker_Int (h Q fun _ _ h => h)

/-- (*flurry/pack.Unpacker).Long -/
def A_pack_Unpacker_Long : An := (An.s (An.r []) (An.s (An.r []) An.o))
def c_pack_Unpacker_Long (t0 : Value) (w : World) (R : Value → World → Prop) : Prop :=
  cal P f_pack_Unpacker_take [t0, (Value.int IntKind.i64 8)] w fun t4 w =>
  cal P f_pack_value [t4] w fun t5 w =>
  R t5 w
theorem e_pack_Unpacker_Long (t0 : Value) (w : World) (R : Value → World → Prop) : intp P A_pack_Unpacker_Long (bodyOf Try.f25) (ini [t0]) w (retK P Try.f25.results.toList R) (fun _ _ _ => False) (retK P Try.f25.results.toList R) = c_pack_Unpacker_Long t0 w R := by kernel_rfl
theorem k_pack_Unpacker_Long : chk P Try.f25.ntmps A_pack_Unpacker_Long (bodyOf Try.f25) = true := by kernel_rfl
theorem l_pack_Unpacker_Long {t0 : Value} {w : World} {R : Value → World → Prop} (h : c_pack_Unpacker_Long t0 w R) : cal P f_pack_Unpacker_Long [t0] w R :=
  calls_of mixed Try.func25 rfl (by kernel_rfl) k_pack_Unpacker_Long (Eq.mpr (e_pack_Unpacker_Long t0 w R) h)
theorem s_pack_Unpacker_Long {t0 : Value} {w : World} {Q : Value → World → Prop} (h : ∀ R : Value → World → Prop, (∀ v w', Q v w' → R v w') → c_pack_Unpacker_Long t0 w R) : cal P f_pack_Unpacker_Long [t0] w Q := l_pack_Unpacker_Long (h Q fun _ _ h => h)

/-- (*flurry/pack.Unpacker).Fixed -/
def A_pack_Unpacker_Fixed : An := (An.s (An.r []) (An.s (An.r []) An.o))
def c_pack_Unpacker_Fixed (t0 t1 : Value) (w : World) (R : Value → World → Prop) : Prop :=
  cal P f_pack_Unpacker_take [t0, t1] w fun t7 w =>
  R t7 w
theorem e_pack_Unpacker_Fixed (t0 t1 : Value) (w : World) (R : Value → World → Prop) : intp P A_pack_Unpacker_Fixed (bodyOf Try.f26) (ini [t0, t1]) w (retK P Try.f26.results.toList R) (fun _ _ _ => False) (retK P Try.f26.results.toList R) = c_pack_Unpacker_Fixed t0 t1 w R := by kernel_rfl
theorem k_pack_Unpacker_Fixed : chk P Try.f26.ntmps A_pack_Unpacker_Fixed (bodyOf Try.f26) = true := by kernel_rfl
theorem l_pack_Unpacker_Fixed {t0 t1 : Value} {w : World} {R : Value → World → Prop} (h : c_pack_Unpacker_Fixed t0 t1 w R) : cal P f_pack_Unpacker_Fixed [t0, t1] w R :=
  calls_of mixed Try.func26 rfl (by kernel_rfl) k_pack_Unpacker_Fixed (Eq.mpr (e_pack_Unpacker_Fixed t0 t1 w R) h)
theorem s_pack_Unpacker_Fixed {t0 t1 : Value} {w : World} {Q : Value → World → Prop} (h : ∀ R : Value → World → Prop, (∀ v w', Q v w' → R v w') → c_pack_Unpacker_Fixed t0 t1 w R) : cal P f_pack_Unpacker_Fixed [t0, t1] w Q := l_pack_Unpacker_Fixed (h Q fun _ _ h => h)

/-- (*flurry/pack.Unpacker).Bytes -/
def A_pack_Unpacker_Bytes : An := (An.s (An.r []) (An.s (An.r []) An.o))
def c_pack_Unpacker_Bytes (t0 t1 : Value) (w : World) (R : Value → World → Prop) : Prop :=
  cal P f_pack_Unpacker_counted [t0, (Value.int IntKind.i64 4), t1] w fun t7 w =>
  R t7 w
theorem e_pack_Unpacker_Bytes (t0 t1 : Value) (w : World) (R : Value → World → Prop) : intp P A_pack_Unpacker_Bytes (bodyOf Try.f27) (ini [t0, t1]) w (retK P Try.f27.results.toList R) (fun _ _ _ => False) (retK P Try.f27.results.toList R) = c_pack_Unpacker_Bytes t0 t1 w R := by kernel_rfl
theorem k_pack_Unpacker_Bytes : chk P Try.f27.ntmps A_pack_Unpacker_Bytes (bodyOf Try.f27) = true := by kernel_rfl
theorem l_pack_Unpacker_Bytes {t0 t1 : Value} {w : World} {R : Value → World → Prop} (h : c_pack_Unpacker_Bytes t0 t1 w R) : cal P f_pack_Unpacker_Bytes [t0, t1] w R :=
  calls_of mixed Try.func27 rfl (by kernel_rfl) k_pack_Unpacker_Bytes (Eq.mpr (e_pack_Unpacker_Bytes t0 t1 w R) h)
theorem s_pack_Unpacker_Bytes {t0 t1 : Value} {w : World} {Q : Value → World → Prop} (h : ∀ R : Value → World → Prop, (∀ v w', Q v w' → R v w') → c_pack_Unpacker_Bytes t0 t1 w R) : cal P f_pack_Unpacker_Bytes [t0, t1] w Q := l_pack_Unpacker_Bytes (h Q fun _ _ h => h)

/-- (*flurry/pack.Unpacker).Text -/
def A_pack_Unpacker_Text : An := (An.s (An.r []) (An.s (An.r []) An.o))
def c_pack_Unpacker_Text (t0 t1 : Value) (w : World) (R : Value → World → Prop) : Prop :=
  cal P f_pack_Unpacker_counted [t0, (Value.int IntKind.i64 2), t1] w fun t7 w =>
  rdP P (convert T_sl_uint8 T_string t7) w fun t8 =>
  R t8 w
theorem e_pack_Unpacker_Text (t0 t1 : Value) (w : World) (R : Value → World → Prop) : intp P A_pack_Unpacker_Text (bodyOf Try.f28) (ini [t0, t1]) w (retK P Try.f28.results.toList R) (fun _ _ _ => False) (retK P Try.f28.results.toList R) = c_pack_Unpacker_Text t0 t1 w R := by kernel_rfl
theorem k_pack_Unpacker_Text : chk P Try.f28.ntmps A_pack_Unpacker_Text (bodyOf Try.f28) = true := by kernel_rfl
theorem l_pack_Unpacker_Text {t0 t1 : Value} {w : World} {R : Value → World → Prop} (h : c_pack_Unpacker_Text t0 t1 w R) : cal P f_pack_Unpacker_Text [t0, t1] w R :=
  calls_of mixed Try.func28 rfl (by kernel_rfl) k_pack_Unpacker_Text (Eq.mpr (e_pack_Unpacker_Text t0 t1 w R) h)
theorem s_pack_Unpacker_Text {t0 t1 : Value} {w : World} {Q : Value → World → Prop} (h : ∀ R : Value → World → Prop, (∀ v w', Q v w' → R v w') → c_pack_Unpacker_Text t0 t1 w R) : cal P f_pack_Unpacker_Text [t0, t1] w Q := l_pack_Unpacker_Text (h Q fun _ _ h => h)

/-- (*flurry/pack.Unpacker).Rest -/
def A_pack_Unpacker_Rest : An := (An.s (An.r []) (An.s (An.s (An.r []) (An.s (An.s (An.r []) An.o) An.o)) (An.s (An.r []) An.o)))
def c_pack_Unpacker_Rest (t0 : Value) (w : World) (R : Value → World → Prop) : Prop :=
  nilP false t0 fun t4 =>
  cnd t4
  (R (Value.int IntKind.i64 0) w)
  (nilc t0 fun t6 =>
  fad 0 t6 fun t7 =>
  fad 1 t7 fun t8 =>
  ld1 t8 w.heap fun t9 =>
  lenS t9 fun t10 =>
  R t10 w)
theorem e_pack_Unpacker_Rest (t0 : Value) (w : World) (R : Value → World → Prop) : intp P A_pack_Unpacker_Rest (bodyOf Try.f29) (ini [t0]) w (retK P Try.f29.results.toList R) (fun _ _ _ => False) (retK P Try.f29.results.toList R) = c_pack_Unpacker_Rest t0 w R := by kernel_rfl
theorem k_pack_Unpacker_Rest : chk P Try.f29.ntmps A_pack_Unpacker_Rest (bodyOf Try.f29) = true := by kernel_rfl
theorem l_pack_Unpacker_Rest {t0 : Value} {w : World} {R : Value → World → Prop} (h : c_pack_Unpacker_Rest t0 w R) : cal P f_pack_Unpacker_Rest [t0] w R :=
  calls_of mixed Try.func29 rfl (by kernel_rfl) k_pack_Unpacker_Rest (Eq.mpr (e_pack_Unpacker_Rest t0 w R) h)
theorem s_pack_Unpacker_Rest {t0 : Value} {w : World} {Q : Value → World → Prop} (h : ∀ R : Value → World → Prop, (∀ v w', Q v w' → R v w') → c_pack_Unpacker_Rest t0 w R) : cal P f_pack_Unpacker_Rest [t0] w Q := l_pack_Unpacker_Rest (h Q fun _ _ h => h)

/-- (*flurry/pack.Unpacker).Err -/
def A_pack_Unpacker_Err : An := (An.s (An.r []) (An.s (An.s (An.r [[11]]) (An.s (An.s (An.r []) An.o) An.o)) (An.s (An.r []) An.o)))
def c_pack_Unpacker_Err (t0 : Value) (w : World) (R : Value → World → Prop) : Prop :=
  nilP false t0 fun t4 =>
  jn1 (fun k0 =>
  gif t4 false
  (nilc t0 fun t7 =>
  fad 0 t7 fun t8 =>
  fad 0 t8 fun t9 =>
  ld1 t9 w.heap fun t10 =>
  notB t10 fun t11 =>
  k0 t11 w)
  (k0 undef w)) fun _ t11_1 w =>
  pik t4 (Value.bool true) t11_1 fun t12 =>
  cnd t12
  (R (Value.int IntKind.i64 2) w)
  (nilc t0 fun t14 =>
  fad 0 t14 fun t15 =>
  fad 2 t15 fun t16 =>
  ld1 t16 w.heap fun t17 =>
  R t17 w)
theorem e_pack_Unpacker_Err (t0 : Value) (w : World) (R : Value → World → Prop) : intp P A_pack_Unpacker_Err (bodyOf Try.f30) (ini [t0]) w (retK P Try.f30.results.toList R) (fun _ _ _ => False) (retK P Try.f30.results.toList R) = c_pack_Unpacker_Err t0 w R := by kernel_rfl
theorem k_pack_Unpacker_Err : chk P Try.f30.ntmps A_pack_Unpacker_Err (bodyOf Try.f30) = true := by kernel_rfl
theorem l_pack_Unpacker_Err {t0 : Value} {w : World} {R : Value → World → Prop} (h : c_pack_Unpacker_Err t0 w R) : cal P f_pack_Unpacker_Err [t0] w R :=
  calls_of mixed Try.func30 rfl (by kernel_rfl) k_pack_Unpacker_Err (Eq.mpr (e_pack_Unpacker_Err t0 w R) h)
theorem s_pack_Unpacker_Err {t0 : Value} {w : World} {Q : Value → World → Prop} (h : ∀ R : Value → World → Prop, (∀ v w', Q v w' → R v w') → c_pack_Unpacker_Err t0 w R) : cal P f_pack_Unpacker_Err [t0] w Q := l_pack_Unpacker_Err (h Q fun _ _ h => h)

/-- (*flurry/pack.Unpacker).End -/
def A_pack_Unpacker_End : An := (An.s (An.r []) (An.s (An.s (An.r []) (An.s (An.r [[15]]) (An.s (An.s (An.r []) An.o) An.o))) (An.s (An.r []) An.o)))
def c_pack_Unpacker_End (t0 : Value) (w : World) (R : Value → World → Prop) : Prop :=
  cal P f_pack_Unpacker_Err [t0] w fun t5 w =>
  bi BinOp.neq t5 (Value.int IntKind.i64 0) fun t7 =>
  jn1 (fun k0 =>
  gif t7 false
  (nilc t0 fun t10 =>
  fad 0 t10 fun t11 =>
  fad 1 t11 fun t12 =>
  ld1 t12 w.heap fun t13 =>
  lenS t13 fun t14 =>
  bi BinOp.eql t14 (Value.int IntKind.i64 0) fun t15 =>
  k0 t15 w)
  (k0 undef w)) fun _ t15_1 w =>
  pik t7 (Value.bool true) t15_1 fun t16 =>
  cnd t16
  (R t5 w)
  (R (Value.int IntKind.i64 12) w)
theorem e_pack_Unpacker_End (t0 : Value) (w : World) (R : Value → World → Prop) : intp P A_pack_Unpacker_End (bodyOf Try.f31) (ini [t0]) w (retK P Try.f31.results.toList R) (fun _ _ _ => False) (retK P Try.f31.results.toList R) = c_pack_Unpacker_End t0 w R := by kernel_rfl
theorem k_pack_Unpacker_End : chk P Try.f31.ntmps A_pack_Unpacker_End (bodyOf Try.f31) = true := by kernel_rfl
theorem l_pack_Unpacker_End {t0 : Value} {w : World} {R : Value → World → Prop} (h : c_pack_Unpacker_End t0 w R) : cal P f_pack_Unpacker_End [t0] w R :=
  calls_of mixed Try.func31 rfl (by kernel_rfl) k_pack_Unpacker_End (Eq.mpr (e_pack_Unpacker_End t0 w R) h)
theorem s_pack_Unpacker_End {t0 : Value} {w : World} {Q : Value → World → Prop} (h : ∀ R : Value → World → Prop, (∀ v w', Q v w' → R v w') → c_pack_Unpacker_End t0 w R) : cal P f_pack_Unpacker_End [t0] w Q := l_pack_Unpacker_End (h Q fun _ _ h => h)

/-- flurry/pack.Read -/
def A_pack_Read : An := (An.s (An.r []) (An.s (An.r []) (An.s (An.r []) (An.s (An.r []) (An.s (An.r []) (An.s (An.r []) An.o))))))
def c_pack_Read (t0 : Value) (w : World) (R : Value → World → Prop) : Prop :=
  rdP P (Instr.build T_pack_Unpacker #[]) w fun t4 =>
  bx T_pack_Unpacker t4 w fun t5 w =>
  nilc t5 fun t7 =>
  fad 0 t7 fun t8 =>
  fad 0 t8 fun t9 =>
  st1 t9 (Value.bool true) w fun w =>
  lenS t0 fun t12 =>
  efP P (Instr.makeSlice T_sl_uint8 t12 t12) w fun t13 w =>
  nilc t5 fun t14 =>
  fad 0 t14 fun t15 =>
  fad 1 t15 fun t16 =>
  st1 t16 t13 w fun w =>
  nilc t5 fun t18 =>
  fad 0 t18 fun t19 =>
  fad 1 t19 fun t20 =>
  ld1 t20 w.heap fun t21 =>
  efP P (Builtin.copy_ #[T_sl_uint8, T_sl_uint8] T_int #[t21, t0]) w fun t23 w =>
  R t5 w
theorem e_pack_Read (t0 : Value) (w : World) (R : Value → World → Prop) : intp P A_pack_Read (bodyOf Try.f32) (ini [t0]) w (retK P Try.f32.results.toList R) (fun _ _ _ => False) (retK P Try.f32.results.toList R) = c_pack_Read t0 w R := by kernel_rfl
theorem k_pack_Read : chk P Try.f32.ntmps A_pack_Read (bodyOf Try.f32) = true := by kernel_rfl
theorem l_pack_Read {t0 : Value} {w : World} {R : Value → World → Prop} (h : c_pack_Read t0 w R) : cal P f_pack_Read [t0] w R :=
  calls_of mixed Try.func32 rfl (by kernel_rfl) k_pack_Read (Eq.mpr (e_pack_Read t0 w R) h)
theorem s_pack_Read {t0 : Value} {w : World} {Q : Value → World → Prop} (h : ∀ R : Value → World → Prop, (∀ v w', Q v w' → R v w') → c_pack_Read t0 w R) : cal P f_pack_Read [t0] w Q := l_pack_Read (h Q fun _ _ h => h)

/-- flurry/flurrylaw01.back -/
def A_law01_back : An := (An.s (An.r []) (An.s (An.s (An.r []) (An.b (An.s (An.r []) (An.s (An.s (An.d [0, 1, 2, 3, 5, 6, 4, 7, 8] []) An.o) (An.s (An.r []) (An.s (An.s (An.d [0, 2, 3, 4, 1, 5, 6] []) An.o) (An.s (An.r []) (An.s (An.s (An.d [0, 2, 3, 4, 1, 5, 6] []) An.o) (An.s (An.r []) (An.s (An.s (An.d [0, 1, 2, 3, 5, 6, 4, 7, 8] []) An.o) (An.s (An.r []) (An.s (An.s (An.d [0, 2, 3, 4, 1, 5, 6] []) An.o) (An.s (An.r []) (An.s (An.s (An.d [0, 1, 2, 3, 5, 6, 7, 4, 8, 9] []) An.o) (An.s (An.r []) (An.s (An.s (An.d [0, 2, 3, 1, 4, 5] []) An.o) An.o)))))))))))))))) (An.s (An.r []) An.o)))
def c_law01_back (t0 t1 : Value) (w : World) (R : Value → World → Prop) : Prop :=
  bx T_flurrylaw01_Item t1 w fun t3 w =>
  fad 0 t3 fun t5 =>
  ld1 t5 w.heap fun t6 =>
  bi BinOp.eql t6 (Value.int IntKind.i64 0) fun t8 =>
  cnd t8
  (drH w fun S w =>
  fad 2 t3 fun t10 =>
  rdS S (fun w => ld1 t10 w.heap) fun t11 =>
  lenS t11 fun t12 =>
  fad 2 t3 fun t14 =>
  rdS S (fun w => ld1 t14 w.heap) fun t15 =>
  efS S (cal P f_pack_Unpacker_Fixed [t0, t12]) w fun t13 w =>
  efS S (cal P f_bytes_Equal [t13, t15]) w fun t16 w =>
  R t16 w)
  (bi BinOp.eql t6 (Value.int IntKind.i64 1) fun t18 =>
  cnd t18
  (drH w fun S w =>
  fad 1 t3 fun t21 =>
  rdS S (fun w => ld1 t21 w.heap) fun t22 =>
  cvi IntKind.u8 t22 fun t23 =>
  efS S (cal P f_pack_Unpacker_Byte [t0]) w fun t20 w =>
  bi BinOp.eql t20 t23 fun t24 =>
  R t24 w)
  (bi BinOp.eql t6 (Value.int IntKind.i64 2) fun t26 =>
  cnd t26
  (drH w fun S w =>
  fad 1 t3 fun t29 =>
  rdS S (fun w => ld1 t29 w.heap) fun t30 =>
  cvi IntKind.u16 t30 fun t31 =>
  efS S (cal P f_pack_Unpacker_Short [t0]) w fun t28 w =>
  bi BinOp.eql t28 t31 fun t32 =>
  R t32 w)
  (bi BinOp.eql t6 (Value.int IntKind.i64 3) fun t34 =>
  cnd t34
  (drH w fun S w =>
  fad 2 t3 fun t36 =>
  rdS S (fun w => ld1 t36 w.heap) fun t37 =>
  lenS t37 fun t38 =>
  fad 2 t3 fun t40 =>
  rdS S (fun w => ld1 t40 w.heap) fun t41 =>
  efS S (cal P f_pack_Unpacker_Bytes [t0, t38]) w fun t39 w =>
  efS S (cal P f_bytes_Equal [t39, t41]) w fun t42 w =>
  R t42 w)
  (bi BinOp.eql t6 (Value.int IntKind.i64 4) fun t44 =>
  cnd t44
  (drH w fun S w =>
  fad 1 t3 fun t47 =>
  rdS S (fun w => ld1 t47 w.heap) fun t48 =>
  cvi IntKind.u32 t48 fun t49 =>
  efS S (cal P f_pack_Unpacker_Int [t0]) w fun t46 w =>
  bi BinOp.eql t46 t49 fun t50 =>
  R t50 w)
  (bi BinOp.eql t6 (Value.int IntKind.i64 5) fun t52 =>
  cnd t52
  (drH w fun S w =>
  fad 2 t3 fun t54 =>
  rdS S (fun w => ld1 t54 w.heap) fun t55 =>
  lenS t55 fun t56 =>
  fad 2 t3 fun t58 =>
  rdS S (fun w => ld1 t58 w.heap) fun t59 =>
  rdS S (rdP P (convert T_sl_uint8 T_string t59)) fun t60 =>
  efS S (cal P f_pack_Unpacker_Text [t0, t56]) w fun t57 w =>
  rdS S (rdP P (eqS BinOp.eql T_string (Operand.tmp 57) (Operand.tmp 60) t57 t60)) fun t61 =>
  R t61 w)
  (bi BinOp.eql t6 (Value.int IntKind.i64 8) fun t63 =>
  cnd t63
  (drH w fun S w =>
  fad 1 t3 fun t66 =>
  rdS S (fun w => ld1 t66 w.heap) fun t67 =>
  efS S (cal P f_pack_Unpacker_Long [t0]) w fun t65 w =>
  bi BinOp.eql t65 t67 fun t68 =>
  R t68 w)
  (R (Value.bool true) w)))))))
theorem e_law01_back (t0 t1 : Value) (w : World) (R : Value → World → Prop) : intp P A_law01_back (bodyOf Try.f33) (ini [t0, t1]) w (retK P Try.f33.results.toList R) (fun _ _ _ => False) (retK P Try.f33.results.toList R) = c_law01_back t0 t1 w R := by kernel_rfl
theorem k_law01_back : chk P Try.f33.ntmps A_law01_back (bodyOf Try.f33) = true := by kernel_rfl
theorem l_law01_back {t0 t1 : Value} {w : World} {R : Value → World → Prop} (h : c_law01_back t0 t1 w R) : cal P f_law01_back [t0, t1] w R :=
  calls_of mixed Try.func33 rfl (by kernel_rfl) k_law01_back (Eq.mpr (e_law01_back t0 t1 w R) h)
theorem s_law01_back {t0 t1 : Value} {w : World} {Q : Value → World → Prop} (h : ∀ R : Value → World → Prop, (∀ v w', Q v w' → R v w') → c_law01_back t0 t1 w R) : cal P f_law01_back [t0, t1] w Q := l_law01_back (h Q fun _ _ h => h)

/-- flurry/flurryref01.Read -/
def A_ref01_Read : An := (An.s (An.r []) (An.s (An.r []) (An.s (An.r []) An.o)))
def c_ref01_Read (t0 : Value) (w : World) (R : Value → World → Prop) : Prop :=
  efP P (Builtin.append_ #[T_sl_uint8, T_sl_uint8] T_sl_uint8 #[(Value.slice none 0 0), t0]) w fun t6 w =>
  rdP P (Instr.build T_flurryref01_Unpacker #[(0, t6)]) w fun t7 =>
  bx T_flurryref01_Unpacker t7 w fun t8 w =>
  R t8 w
theorem e_ref01_Read (t0 : Value) (w : World) (R : Value → World → Prop) : intp P A_ref01_Read (bodyOf Try.f34) (ini [t0]) w (retK P Try.f34.results.toList R) (fun _ _ _ => False) (retK P Try.f34.results.toList R) = c_ref01_Read t0 w R := by kernel_rfl
theorem k_ref01_Read : chk P Try.f34.ntmps A_ref01_Read (bodyOf Try.f34) = true := by kernel_rfl
theorem l_ref01_Read {t0 : Value} {w : World} {R : Value → World → Prop} (h : c_ref01_Read t0 w R) : cal P f_ref01_Read [t0] w R :=
  calls_of mixed Try.func34 rfl (by kernel_rfl) k_ref01_Read (Eq.mpr (e_ref01_Read t0 w R) h)
theorem s_ref01_Read {t0 : Value} {w : World} {Q : Value → World → Prop} (h : ∀ R : Value → World → Prop, (∀ v w', Q v w' → R v w') → c_ref01_Read t0 w R) : cal P f_ref01_Read [t0] w Q := l_ref01_Read (h Q fun _ _ h => h)

/-- flurry/flurrylaw01.takes -/
def A_law01_takes : An := (An.s (An.r []) (An.s (An.s (An.r []) (An.b (An.s (An.r []) (An.s (An.s (An.d [0, 1, 2, 4, 5, 6, 3, 7, 8, 9] []) An.o) (An.s (An.r []) (An.s (An.s (An.r []) An.o) (An.s (An.r []) (An.s (An.s (An.r []) An.o) (An.s (An.r []) (An.s (An.s (An.d [0, 1, 2, 4, 5, 6, 3, 7, 8, 9] []) An.o) (An.s (An.r []) (An.s (An.s (An.r []) An.o) (An.s (An.r []) (An.s (An.s (An.d [0, 1, 2, 4, 5, 6, 3, 7, 8, 9] []) An.o) (An.s (An.r []) (An.s (An.s (An.r []) An.o) An.o)))))))))))))))) (An.s (An.r []) An.o)))
def c_law01_takes (t0 t1 t2 : Value) (w : World) (R : Value → World → Prop) : Prop :=
  bx T_flurrylaw01_Item t2 w fun t5 w =>
  fad 0 t5 fun t7 =>
  ld1 t7 w.heap fun t8 =>
  bi BinOp.eql t8 (Value.int IntKind.i64 0) fun t10 =>
  cnd t10
  (drH w fun S w =>
  fad 3 t5 fun t12 =>
  rdS S (fun w => ld1 t12 w.heap) fun t13 =>
  fad 3 t5 fun t16 =>
  rdS S (fun w => ld1 t16 w.heap) fun t17 =>
  efS S (cal P f_pack_Unpacker_Fixed [t0, t13]) w fun t14 w =>
  efS S (cal P f_ref01_Unpacker_Fixed [t1, t17]) w fun t18 w =>
  efS S (cal P f_bytes_Equal [t14, t18]) w fun t19 w =>
  R t19 w)
  (bi BinOp.eql t8 (Value.int IntKind.i64 1) fun t21 =>
  cnd t21
  (cal P f_pack_Unpacker_Byte [t0] w fun t23 w =>
  cvi IntKind.u64 t23 fun t24 =>
  cal P f_ref01_Unpacker_Num [t1, (Value.int IntKind.i64 1)] w fun t26 w =>
  bi BinOp.eql t24 t26 fun t27 =>
  R t27 w)
  (bi BinOp.eql t8 (Value.int IntKind.i64 2) fun t29 =>
  cnd t29
  (cal P f_pack_Unpacker_Short [t0] w fun t31 w =>
  cvi IntKind.u64 t31 fun t32 =>
  cal P f_ref01_Unpacker_Num [t1, (Value.int IntKind.i64 2)] w fun t34 w =>
  bi BinOp.eql t32 t34 fun t35 =>
  R t35 w)
  (bi BinOp.eql t8 (Value.int IntKind.i64 3) fun t37 =>
  cnd t37
  (drH w fun S w =>
  fad 3 t5 fun t39 =>
  rdS S (fun w => ld1 t39 w.heap) fun t40 =>
  fad 3 t5 fun t43 =>
  rdS S (fun w => ld1 t43 w.heap) fun t44 =>
  efS S (cal P f_pack_Unpacker_Bytes [t0, t40]) w fun t41 w =>
  efS S (cal P f_ref01_Unpacker_Bytes [t1, t44]) w fun t45 w =>
  efS S (cal P f_bytes_Equal [t41, t45]) w fun t46 w =>
  R t46 w)
  (bi BinOp.eql t8 (Value.int IntKind.i64 4) fun t48 =>
  cnd t48
  (cal P f_pack_Unpacker_Int [t0] w fun t50 w =>
  cvi IntKind.u64 t50 fun t51 =>
  cal P f_ref01_Unpacker_Num [t1, (Value.int IntKind.i64 4)] w fun t53 w =>
  bi BinOp.eql t51 t53 fun t54 =>
  R t54 w)
  (bi BinOp.eql t8 (Value.int IntKind.i64 5) fun t56 =>
  cnd t56
  (drH w fun S w =>
  fad 3 t5 fun t58 =>
  rdS S (fun w => ld1 t58 w.heap) fun t59 =>
  fad 3 t5 fun t62 =>
  rdS S (fun w => ld1 t62 w.heap) fun t63 =>
  efS S (cal P f_pack_Unpacker_Text [t0, t59]) w fun t60 w =>
  efS S (cal P f_ref01_Unpacker_Text [t1, t63]) w fun t64 w =>
  rdS S (rdP P (eqS BinOp.eql T_string (Operand.tmp 60) (Operand.tmp 64) t60 t64)) fun t65 =>
  R t65 w)
  (bi BinOp.eql t8 (Value.int IntKind.i64 8) fun t67 =>
  cnd t67
  (cal P f_pack_Unpacker_Long [t0] w fun t69 w =>
  cal P f_ref01_Unpacker_Num [t1, (Value.int IntKind.i64 8)] w fun t71 w =>
  bi BinOp.eql t69 t71 fun t72 =>
  R t72 w)
  (R (Value.bool true) w)))))))
theorem e_law01_takes (t0 t1 t2 : Value) (w : World) (R : Value → World → Prop) : intp P A_law01_takes (bodyOf Try.f35) (ini [t0, t1, t2]) w (retK P Try.f35.results.toList R) (fun _ _ _ => False) (retK P Try.f35.results.toList R) = c_law01_takes t0 t1 t2 w R := by kernel_rfl
theorem k_law01_takes : chk P Try.f35.ntmps A_law01_takes (bodyOf Try.f35) = true := by kernel_rfl
theorem l_law01_takes {t0 t1 t2 : Value} {w : World} {R : Value → World → Prop} (h : c_law01_takes t0 t1 t2 w R) : cal P f_law01_takes [t0, t1, t2] w R :=
  calls_of mixed Try.func35 rfl (by kernel_rfl) k_law01_takes (Eq.mpr (e_law01_takes t0 t1 t2 w R) h)
theorem s_law01_takes {t0 t1 t2 : Value} {w : World} {Q : Value → World → Prop} (h : ∀ R : Value → World → Prop, (∀ v w', Q v w' → R v w') → c_law01_takes t0 t1 t2 w R) : cal P f_law01_takes [t0, t1, t2] w Q := l_law01_takes (h Q fun _ _ h => h)

/-- (*flurry/flurryref01.Unpacker).End -/
def A_ref01_Unpacker_End : An := (An.s (An.r []) (An.s (An.s (An.r [[14]]) (An.s (An.s (An.r []) An.o) An.o)) (An.s (An.r []) An.o)))
def c_ref01_Unpacker_End (t0 : Value) (w : World) (R : Value → World → Prop) : Prop :=
  nilc t0 fun t4 =>
  fad 1 t4 fun t5 =>
  ld1 t5 w.heap fun t6 =>
  bi BinOp.eql t6 (Value.int IntKind.i64 0) fun t7 =>
  jn1 (fun k0 =>
  gif t7 true
  (nilc t0 fun t10 =>
  fad 0 t10 fun t11 =>
  ld1 t11 w.heap fun t12 =>
  lenS t12 fun t13 =>
  bi BinOp.gtr t13 (Value.int IntKind.i64 0) fun t14 =>
  k0 t14 w)
  (k0 undef w)) fun _ t14_1 w =>
  pik t7 t14_1 (Value.bool false) fun t15 =>
  cnd t15
  (R (Value.int IntKind.i64 12) w)
  (nilc t0 fun t17 =>
  fad 1 t17 fun t18 =>
  ld1 t18 w.heap fun t19 =>
  R t19 w)
theorem e_ref01_Unpacker_End (t0 : Value) (w : World) (R : Value → World → Prop) : intp P A_ref01_Unpacker_End (bodyOf Try.f36) (ini [t0]) w (retK P Try.f36.results.toList R) (fun _ _ _ => False) (retK P Try.f36.results.toList R) = c_ref01_Unpacker_End t0 w R := by kernel_rfl
theorem k_ref01_Unpacker_End : chk P Try.f36.ntmps A_ref01_Unpacker_End (bodyOf Try.f36) = true := by kernel_rfl
theorem l_ref01_Unpacker_End {t0 : Value} {w : World} {R : Value → World → Prop} (h : c_ref01_Unpacker_End t0 w R) : cal P f_ref01_Unpacker_End [t0] w R :=
  calls_of mixed Try.func36 rfl (by kernel_rfl) k_ref01_Unpacker_End (Eq.mpr (e_ref01_Unpacker_End t0 w R) h)
theorem s_ref01_Unpacker_End {t0 : Value} {w : World} {Q : Value → World → Prop} (h : ∀ R : Value → World → Prop, (∀ v w', Q v w' → R v w') → c_ref01_Unpacker_End t0 w R) : cal P f_ref01_Unpacker_End [t0] w Q := l_ref01_Unpacker_End (h Q fun _ _ h => h)

/-- (*flurry/pack.Packer).Short -/
def A_pack_Packer_Short : An := (An.r [])
def c_pack_Packer_Short (t0 t1 : Value) (w : World) (R : Value → World → Prop) : Prop :=
  cvi IntKind.u64 t1 fun t6 =>
  cal P f_pack_number [(Value.int IntKind.i64 2), t6] w fun t7 w =>
  cal P f_pack_Packer_put [t0, t7, (Value.slice none 0 0)] w fun t8 w =>
  R (Value.tuple #[]) w
theorem e_pack_Packer_Short (t0 t1 : Value) (w : World) (R : Value → World → Prop) : intp P A_pack_Packer_Short (bodyOf Try.f37) (ini [t0, t1]) w (retK P Try.f37.results.toList R) (fun _ _ _ => False) (retK P Try.f37.results.toList R) = c_pack_Packer_Short t0 t1 w R := by kernel_rfl
theorem k_pack_Packer_Short : chk P Try.f37.ntmps A_pack_Packer_Short (bodyOf Try.f37) = true := by kernel_rfl
theorem l_pack_Packer_Short {t0 t1 : Value} {w : World} {R : Value → World → Prop} (h : c_pack_Packer_Short t0 t1 w R) : cal P f_pack_Packer_Short [t0, t1] w R :=
  calls_of mixed Try.func37 rfl (by kernel_rfl) k_pack_Packer_Short (Eq.mpr (e_pack_Packer_Short t0 t1 w R) h)
theorem s_pack_Packer_Short {t0 t1 : Value} {w : World} {Q : Value → World → Prop} (h : ∀ R : Value → World → Prop, (∀ v w', Q v w' → R v w') → c_pack_Packer_Short t0 t1 w R) : cal P f_pack_Packer_Short [t0, t1] w Q := l_pack_Packer_Short (h Q fun _ _ h => h)

/-- (*flurry/pack.Packer).Bytes -/
def A_pack_Packer_Bytes : An := (An.r [])
def c_pack_Packer_Bytes (t0 t1 : Value) (w : World) (R : Value → World → Prop) : Prop :=
  lenS t1 fun t6 =>
  cvi IntKind.u64 t6 fun t7 =>
  cal P f_pack_number [(Value.int IntKind.i64 4), t7] w fun t8 w =>
  cal P f_pack_Packer_put [t0, t8, t1] w fun t10 w =>
  R (Value.tuple #[]) w
theorem e_pack_Packer_Bytes (t0 t1 : Value) (w : World) (R : Value → World → Prop) : intp P A_pack_Packer_Bytes (bodyOf Try.f38) (ini [t0, t1]) w (retK P Try.f38.results.toList R) (fun _ _ _ => False) (retK P Try.f38.results.toList R) = c_pack_Packer_Bytes t0 t1 w R := by kernel_rfl
theorem k_pack_Packer_Bytes : chk P Try.f38.ntmps A_pack_Packer_Bytes (bodyOf Try.f38) = true := by kernel_rfl
theorem l_pack_Packer_Bytes {t0 t1 : Value} {w : World} {R : Value → World → Prop} (h : c_pack_Packer_Bytes t0 t1 w R) : cal P f_pack_Packer_Bytes [t0, t1] w R :=
  calls_of mixed Try.func38 rfl (by kernel_rfl) k_pack_Packer_Bytes (Eq.mpr (e_pack_Packer_Bytes t0 t1 w R) h)
theorem s_pack_Packer_Bytes {t0 t1 : Value} {w : World} {Q : Value → World → Prop} (h : ∀ R : Value → World → Prop, (∀ v w', Q v w' → R v w') → c_pack_Packer_Bytes t0 t1 w R) : cal P f_pack_Packer_Bytes [t0, t1] w Q := l_pack_Packer_Bytes (h Q fun _ _ h => h)

/-- (*flurry/pack.Packer).Text -/
def A_pack_Packer_Text : An := (An.s (An.s (An.r []) (An.s An.o An.o)) (An.s (An.s (An.r []) (An.s (An.s (An.r []) An.o) An.o)) (An.s (An.r []) (An.s (An.r []) (An.r [])))))
def c_pack_Packer_Text (t0 t1 : Value) (w : World) (R : Value → World → Prop) : Prop :=
  cal P f_pack_Packer_works [t0] w fun t6 w =>
  notB t6 fun t7 =>
  cnd t7
  (R (Value.tuple #[]) w)
  (lenT t1 fun t9 =>
  bi BinOp.gtr t9 (Value.int IntKind.i64 65535) fun t10 =>
  cnd t10
  (nilc t0 fun t12 =>
  fad 0 t12 fun t13 =>
  cal P f_pack_kept_fails [t13, (Value.int IntKind.i64 3)] w fun t14 w =>
  R (Value.tuple #[]) w)
  (lenT t1 fun t16 =>
  efP P (Instr.makeSlice T_sl_uint8 t16 t16) w fun t17 w =>
  efP P (Builtin.copy_ #[T_sl_uint8, T_string] T_int #[t17, t1]) w fun t20 w =>
  lenT t1 fun t23 =>
  cvi IntKind.u64 t23 fun t24 =>
  cal P f_pack_number [(Value.int IntKind.i64 2), t24] w fun t25 w =>
  cal P f_pack_Packer_put [t0, t25, t17] w fun t27 w =>
  R (Value.tuple #[]) w))
theorem e_pack_Packer_Text (t0 t1 : Value) (w : World) (R : Value → World → Prop) : intp P A_pack_Packer_Text (bodyOf Try.f39) (ini [t0, t1]) w (retK P Try.f39.results.toList R) (fun _ _ _ => False) (retK P Try.f39.results.toList R) = c_pack_Packer_Text t0 t1 w R := by kernel_rfl
theorem k_pack_Packer_Text : chk P Try.f39.ntmps A_pack_Packer_Text (bodyOf Try.f39) = true := by kernel_rfl
theorem l_pack_Packer_Text {t0 t1 : Value} {w : World} {R : Value → World → Prop} (h : c_pack_Packer_Text t0 t1 w R) : cal P f_pack_Packer_Text [t0, t1] w R :=
  calls_of mixed Try.func39 rfl (by kernel_rfl) k_pack_Packer_Text (Eq.mpr (e_pack_Packer_Text t0 t1 w R) h)
theorem s_pack_Packer_Text {t0 t1 : Value} {w : World} {Q : Value → World → Prop} (h : ∀ R : Value → World → Prop, (∀ v w', Q v w' → R v w') → c_pack_Packer_Text t0 t1 w R) : cal P f_pack_Packer_Text [t0, t1] w Q := l_pack_Packer_Text (h Q fun _ _ h => h)

/-- (*flurry/pack.Packer).Fixed -/
def A_pack_Packer_Fixed : An := (An.r [])
def c_pack_Packer_Fixed (t0 t1 : Value) (w : World) (R : Value → World → Prop) : Prop :=
  cal P f_pack_Packer_put [t0, (Value.slice none 0 0), t1] w fun t6 w =>
  R (Value.tuple #[]) w
theorem e_pack_Packer_Fixed (t0 t1 : Value) (w : World) (R : Value → World → Prop) : intp P A_pack_Packer_Fixed (bodyOf Try.f41) (ini [t0, t1]) w (retK P Try.f41.results.toList R) (fun _ _ _ => False) (retK P Try.f41.results.toList R) = c_pack_Packer_Fixed t0 t1 w R := by kernel_rfl
theorem k_pack_Packer_Fixed : chk P Try.f41.ntmps A_pack_Packer_Fixed (bodyOf Try.f41) = true := by kernel_rfl
theorem l_pack_Packer_Fixed {t0 t1 : Value} {w : World} {R : Value → World → Prop} (h : c_pack_Packer_Fixed t0 t1 w R) : cal P f_pack_Packer_Fixed [t0, t1] w R :=
  calls_of mixed Try.func41 rfl (by kernel_rfl) k_pack_Packer_Fixed (Eq.mpr (e_pack_Packer_Fixed t0 t1 w R) h)
theorem s_pack_Packer_Fixed {t0 t1 : Value} {w : World} {Q : Value → World → Prop} (h : ∀ R : Value → World → Prop, (∀ v w', Q v w' → R v w') → c_pack_Packer_Fixed t0 t1 w R) : cal P f_pack_Packer_Fixed [t0, t1] w Q := l_pack_Packer_Fixed (h Q fun _ _ h => h)

/-- (*flurry/flurryref01.Packer).Fixed -/
def A_ref01_Packer_Fixed : An := (An.s (An.j [] (An.s (An.r [[22]]) (An.s (An.r []) An.o))) (An.s (An.r []) (An.s (An.r []) An.o)))
def c_ref01_Packer_Fixed (t0 t1 : Value) (w : World) (R : Value → World → Prop) : Prop :=
  jn0 (fun k0 =>
  drw w fun w =>
  nilc t0 fun t5 =>
  fad 2 t5 fun t6 =>
  ld1 t6 w.heap fun t7 =>
  bi BinOp.eql t7 (Value.int IntKind.i64 0) fun t8 =>
  jn1 (fun k1 =>
  gif t8 true
  (lenS t1 fun t11 =>
  nilc t0 fun t13 =>
  fad 1 t13 fun t14 =>
  ld1 t14 w.heap fun t15 =>
  nilc t0 fun t17 =>
  fad 0 t17 fun t18 =>
  ld1 t18 w.heap fun t19 =>
  lenS t19 fun t20 =>
  bi BinOp.sub t15 t20 fun t21 =>
  bi BinOp.gtr t11 t21 fun t22 =>
  k1 t22 w)
  (k1 undef w)) fun _ t22_1 w =>
  pik t8 t22_1 (Value.bool false) fun t23 =>
  cnd t23
  (nilc t0 fun t25 =>
  fad 2 t25 fun t26 =>
  st1 t26 (Value.int IntKind.i64 10) w fun w =>
  k0 w)
  (k0 w)) fun _ w =>
  nilc t0 fun t28 =>
  fad 2 t28 fun t29 =>
  ld1 t29 w.heap fun t30 =>
  bi BinOp.eql t30 (Value.int IntKind.i64 0) fun t31 =>
  cnd t31
  (nilc t0 fun t34 =>
  fad 0 t34 fun t35 =>
  ld1 t35 w.heap fun t36 =>
  efP P (Builtin.append_ #[T_sl_uint8, T_sl_uint8] T_sl_uint8 #[t36, t1]) w fun t38 w =>
  nilc t0 fun t39 =>
  fad 0 t39 fun t40 =>
  st1 t40 t38 w fun w =>
  R (Value.tuple #[]) w)
  (R (Value.tuple #[]) w)
theorem e_ref01_Packer_Fixed (t0 t1 : Value) (w : World) (R : Value → World → Prop) : intp P A_ref01_Packer_Fixed (bodyOf Try.f42) (ini [t0, t1]) w (retK P Try.f42.results.toList R) (fun _ _ _ => False) (retK P Try.f42.results.toList R) = c_ref01_Packer_Fixed t0 t1 w R := by kernel_rfl
theorem k_ref01_Packer_Fixed : chk P Try.f42.ntmps A_ref01_Packer_Fixed (bodyOf Try.f42) = true := by kernel_rfl
theorem l_ref01_Packer_Fixed {t0 t1 : Value} {w : World} {R : Value → World → Prop} (h : c_ref01_Packer_Fixed t0 t1 w R) : cal P f_ref01_Packer_Fixed [t0, t1] w R :=
  calls_of mixed Try.func42 rfl (by kernel_rfl) k_ref01_Packer_Fixed (Eq.mpr (e_ref01_Packer_Fixed t0 t1 w R) h)
theorem s_ref01_Packer_Fixed {t0 t1 : Value} {w : World} {Q : Value → World → Prop} (h : ∀ R : Value → World → Prop, (∀ v w', Q v w' → R v w') → c_ref01_Packer_Fixed t0 t1 w R) : cal P f_ref01_Packer_Fixed [t0, t1] w Q := l_ref01_Packer_Fixed (h Q fun _ _ h => h)

/-- (*flurry/pack.Packer).Byte -/
def A_pack_Packer_Byte : An := (An.r [])
def c_pack_Packer_Byte (t0 t1 : Value) (w : World) (R : Value → World → Prop) : Prop :=
  cvi IntKind.u64 t1 fun t6 =>
  cal P f_pack_number [(Value.int IntKind.i64 1), t6] w fun t7 w =>
  cal P f_pack_Packer_put [t0, t7, (Value.slice none 0 0)] w fun t8 w =>
  R (Value.tuple #[]) w
theorem e_pack_Packer_Byte (t0 t1 : Value) (w : World) (R : Value → World → Prop) : intp P A_pack_Packer_Byte (bodyOf Try.f43) (ini [t0, t1]) w (retK P Try.f43.results.toList R) (fun _ _ _ => False) (retK P Try.f43.results.toList R) = c_pack_Packer_Byte t0 t1 w R := by kernel_rfl
theorem k_pack_Packer_Byte : chk P Try.f43.ntmps A_pack_Packer_Byte (bodyOf Try.f43) = true := by kernel_rfl
theorem l_pack_Packer_Byte {t0 t1 : Value} {w : World} {R : Value → World → Prop} (h : c_pack_Packer_Byte t0 t1 w R) : cal P f_pack_Packer_Byte [t0, t1] w R :=
  calls_of mixed Try.func43 rfl (by kernel_rfl) k_pack_Packer_Byte (Eq.mpr (e_pack_Packer_Byte t0 t1 w R) h)
theorem s_pack_Packer_Byte {t0 t1 : Value} {w : World} {Q : Value → World → Prop} (h : ∀ R : Value → World → Prop, (∀ v w', Q v w' → R v w') → c_pack_Packer_Byte t0 t1 w R) : cal P f_pack_Packer_Byte [t0, t1] w Q := l_pack_Packer_Byte (h Q fun _ _ h => h)

/-- (*flurry/flurryref01.Packer).Num -/
def A_ref01_Packer_Num : An := (An.r [])
def c_ref01_Packer_Num (t0 t1 t2 : Value) (w : World) (R : Value → World → Prop) : Prop :=
  cal P f_ref01_Num [t1, t2] w fun t9 w =>
  cal P f_ref01_Packer_Fixed [t0, t9] w fun t10 w =>
  R (Value.tuple #[]) w
theorem e_ref01_Packer_Num (t0 t1 t2 : Value) (w : World) (R : Value → World → Prop) : intp P A_ref01_Packer_Num (bodyOf Try.f44) (ini [t0, t1, t2]) w (retK P Try.f44.results.toList R) (fun _ _ _ => False) (retK P Try.f44.results.toList R) = c_ref01_Packer_Num t0 t1 t2 w R := by kernel_rfl
theorem k_ref01_Packer_Num : chk P Try.f44.ntmps A_ref01_Packer_Num (bodyOf Try.f44) = true := by kernel_rfl
theorem l_ref01_Packer_Num {t0 t1 t2 : Value} {w : World} {R : Value → World → Prop} (h : c_ref01_Packer_Num t0 t1 t2 w R) : cal P f_ref01_Packer_Num [t0, t1, t2] w R :=
  calls_of mixed Try.func44 rfl (by kernel_rfl) k_ref01_Packer_Num (Eq.mpr (e_ref01_Packer_Num t0 t1 t2 w R) h)
theorem s_ref01_Packer_Num {t0 t1 t2 : Value} {w : World} {Q : Value → World → Prop} (h : ∀ R : Value → World → Prop, (∀ v w', Q v w' → R v w') → c_ref01_Packer_Num t0 t1 t2 w R) : cal P f_ref01_Packer_Num [t0, t1, t2] w Q := l_ref01_Packer_Num (h Q fun _ _ h => h)

/-- (*flurry/flurryref01.Packer).Bytes -/
def A_ref01_Packer_Bytes : An := (An.s (An.r []) (An.r []))
def c_ref01_Packer_Bytes (t0 t1 : Value) (w : World) (R : Value → World → Prop) : Prop :=
  lenS t1 fun t6 =>
  cvi IntKind.u64 t6 fun t7 =>
  cal P f_ref01_Num [(Value.int IntKind.i64 4), t7] w fun t8 w =>
  efP P (Builtin.append_ #[T_sl_uint8, T_sl_uint8] T_sl_uint8 #[t8, t1]) w fun t12 w =>
  cal P f_ref01_Packer_Fixed [t0, t12] w fun t13 w =>
  R (Value.tuple #[]) w
theorem e_ref01_Packer_Bytes (t0 t1 : Value) (w : World) (R : Value → World → Prop) : intp P A_ref01_Packer_Bytes (bodyOf Try.f45) (ini [t0, t1]) w (retK P Try.f45.results.toList R) (fun _ _ _ => False) (retK P Try.f45.results.toList R) = c_ref01_Packer_Bytes t0 t1 w R := by kernel_rfl
theorem k_ref01_Packer_Bytes : chk P Try.f45.ntmps A_ref01_Packer_Bytes (bodyOf Try.f45) = true := by kernel_rfl
theorem l_ref01_Packer_Bytes {t0 t1 : Value} {w : World} {R : Value → World → Prop} (h : c_ref01_Packer_Bytes t0 t1 w R) : cal P f_ref01_Packer_Bytes [t0, t1] w R :=
  calls_of mixed Try.func45 rfl (by kernel_rfl) k_ref01_Packer_Bytes (Eq.mpr (e_ref01_Packer_Bytes t0 t1 w R) h)
theorem s_ref01_Packer_Bytes {t0 t1 : Value} {w : World} {Q : Value → World → Prop} (h : ∀ R : Value → World → Prop, (∀ v w', Q v w' → R v w') → c_ref01_Packer_Bytes t0 t1 w R) : cal P f_ref01_Packer_Bytes [t0, t1] w Q := l_ref01_Packer_Bytes (h Q fun _ _ h => h)

/-- (*flurry/pack.Packer).Int -/
def A_pack_Packer_Int : An := (An.r [])
def c_pack_Packer_Int (t0 t1 : Value) (w : World) (R : Value → World → Prop) : Prop :=
  cvi IntKind.u64 t1 fun t6 =>
  cal P f_pack_number [(Value.int IntKind.i64 4), t6] w fun t7 w =>
  cal P f_pack_Packer_put [t0, t7, (Value.slice none 0 0)] w fun t8 w =>
  R (Value.tuple #[]) w
theorem e_pack_Packer_Int (t0 t1 : Value) (w : World) (R : Value → World → Prop) : intp P A_pack_Packer_Int (bodyOf Try.f46) (ini [t0, t1]) w (retK P Try.f46.results.toList R) (fun _ _ _ => False) (retK P Try.f46.results.toList R) = c_pack_Packer_Int t0 t1 w R := by kernel_rfl
theorem k_pack_Packer_Int : chk P Try.f46.ntmps A_pack_Packer_Int (bodyOf Try.f46) = true := by kernel_rfl
theorem l_pack_Packer_Int {t0 t1 : Value} {w : World} {R : Value → World → Prop} (h : c_pack_Packer_Int t0 t1 w R) : cal P f_pack_Packer_Int [t0, t1] w R :=
  calls_of mixed Try.func46 rfl (by kernel_rfl) k_pack_Packer_Int (Eq.mpr (e_pack_Packer_Int t0 t1 w R) h)
theorem s_pack_Packer_Int {t0 t1 : Value} {w : World} {Q : Value → World → Prop} (h : ∀ R : Value → World → Prop, (∀ v w', Q v w' → R v w') → c_pack_Packer_Int t0 t1 w R) : cal P f_pack_Packer_Int [t0, t1] w Q := l_pack_Packer_Int (h Q fun _ _ h => h)

/-- (*flurry/flurryref01.Packer).Text -/
def A_ref01_Packer_Text : An := (An.s (An.j [] (An.s (An.r [[13]]) (An.s (An.r []) An.o))) (An.s (An.r []) (An.r [])))
def c_ref01_Packer_Text (t0 t1 : Value) (w : World) (R : Value → World → Prop) : Prop :=
  jn0 (fun k0 =>
  nilc t0 fun t6 =>
  fad 2 t6 fun t7 =>
  ld1 t7 w.heap fun t8 =>
  bi BinOp.eql t8 (Value.int IntKind.i64 0) fun t9 =>
  jn1 (fun k1 =>
  gif t9 true
  (lenT t1 fun t12 =>
  bi BinOp.gtr t12 (Value.int IntKind.i64 65535) fun t13 =>
  k1 t13 w)
  (k1 undef w)) fun _ t13_1 w =>
  pik t9 t13_1 (Value.bool false) fun t14 =>
  cnd t14
  (nilc t0 fun t16 =>
  fad 2 t16 fun t17 =>
  st1 t17 (Value.int IntKind.i64 3) w fun w =>
  k0 w)
  (k0 w)) fun _ w =>
  lenT t1 fun t19 =>
  cvi IntKind.u64 t19 fun t20 =>
  cal P f_ref01_Num [(Value.int IntKind.i64 2), t20] w fun t21 w =>
  efP P (convert T_string T_sl_uint8 t1) w fun t25 w =>
  efP P (Builtin.append_ #[T_sl_uint8, T_sl_uint8] T_sl_uint8 #[t21, t25]) w fun t26 w =>
  cal P f_ref01_Packer_Fixed [t0, t26] w fun t27 w =>
  R (Value.tuple #[]) w
theorem e_ref01_Packer_Text (t0 t1 : Value) (w : World) (R : Value → World → Prop) : intp P A_ref01_Packer_Text (bodyOf Try.f47) (ini [t0, t1]) w (retK P Try.f47.results.toList R) (fun _ _ _ => False) (retK P Try.f47.results.toList R) = c_ref01_Packer_Text t0 t1 w R := by kernel_rfl
theorem k_ref01_Packer_Text : chk P Try.f47.ntmps A_ref01_Packer_Text (bodyOf Try.f47) = true := by kernel_rfl
theorem l_ref01_Packer_Text {t0 t1 : Value} {w : World} {R : Value → World → Prop} (h : c_ref01_Packer_Text t0 t1 w R) : cal P f_ref01_Packer_Text [t0, t1] w R :=
  calls_of mixed Try.func47 rfl (by kernel_rfl) k_ref01_Packer_Text (Eq.mpr (e_ref01_Packer_Text t0 t1 w R) h)
theorem s_ref01_Packer_Text {t0 t1 : Value} {w : World} {Q : Value → World → Prop} (h : ∀ R : Value → World → Prop, (∀ v w', Q v w' → R v w') → c_ref01_Packer_Text t0 t1 w R) : cal P f_ref01_Packer_Text [t0, t1] w Q := l_ref01_Packer_Text (h Q fun _ _ h => h)

/-- (*flurry/pack.Packer).Long -/
def A_pack_Packer_Long : An := (An.r [])
def c_pack_Packer_Long (t0 t1 : Value) (w : World) (R : Value → World → Prop) : Prop :=
  cal P f_pack_number [(Value.int IntKind.i64 8), t1] w fun t6 w =>
  cal P f_pack_Packer_put [t0, t6, (Value.slice none 0 0)] w fun t7 w =>
  R (Value.tuple #[]) w
theorem e_pack_Packer_Long (t0 t1 : Value) (w : World) (R : Value → World → Prop) : intp P A_pack_Packer_Long (bodyOf Try.f48) (ini [t0, t1]) w (retK P Try.f48.results.toList R) (fun _ _ _ => False) (retK P Try.f48.results.toList R) = c_pack_Packer_Long t0 t1 w R := by kernel_rfl
theorem k_pack_Packer_Long : chk P Try.f48.ntmps A_pack_Packer_Long (bodyOf Try.f48) = true := by kernel_rfl
theorem l_pack_Packer_Long {t0 t1 : Value} {w : World} {R : Value → World → Prop} (h : c_pack_Packer_Long t0 t1 w R) : cal P f_pack_Packer_Long [t0, t1] w R :=
  calls_of mixed Try.func48 rfl (by kernel_rfl) k_pack_Packer_Long (Eq.mpr (e_pack_Packer_Long t0 t1 w R) h)
theorem s_pack_Packer_Long {t0 t1 : Value} {w : World} {Q : Value → World → Prop} (h : ∀ R : Value → World → Prop, (∀ v w', Q v w' → R v w') → c_pack_Packer_Long t0 t1 w R) : cal P f_pack_Packer_Long [t0, t1] w Q := l_pack_Packer_Long (h Q fun _ _ h => h)

/-- flurry/pack.value -/
def A_pack_value : An := (An.s (An.r []) (An.s (An.r []) (An.s (An.s (An.r []) (An.b (An.l [3, 8] (An.s (An.r []) (An.s (An.s An.o An.o) (An.s (An.b (An.s (An.r []) (An.r []))) (An.r []))))))) (An.s (An.r []) An.o))))
def c_pack_value (t0 : Value) (w : World) (R : Value → World → Prop) : Prop :=
  lenS t0 fun t7 =>
  lp2 (Value.int IntKind.u64 0) (Value.int IntKind.i64 0) w fun _ t3 t8 w again0 =>
  bi BinOp.lss t8 t7 fun t9 =>
  cnd t9
  (ixs 1 t0 t8 fun t10 =>
  ld1 t10 w.heap fun t11 =>
  sh BinOp.shl t3 (Value.int IntKind.u64 8) fun t13 =>
  cvi IntKind.u64 t11 fun t15 =>
  bi BinOp.or t13 t15 fun t16 =>
  bi BinOp.add t8 (Value.int IntKind.i64 1) fun t17 =>
  again0 t16 t17 w)
  (R t3 w)
theorem e_pack_value (t0 : Value) (w : World) (R : Value → World → Prop) : intp P A_pack_value (bodyOf Try.f49) (ini [t0]) w (retK P Try.f49.results.toList R) (fun _ _ _ => False) (retK P Try.f49.results.toList R) = c_pack_value t0 w R := by kernel_rfl
theorem k_pack_value : chk P Try.f49.ntmps A_pack_value (bodyOf Try.f49) = true := by kernel_rfl
theorem l_pack_value {t0 : Value} {w : World} {R : Value → World → Prop} (h : c_pack_value t0 w R) : cal P f_pack_value [t0] w R :=
  calls_of mixed Try.func49 rfl (by kernel_rfl) k_pack_value (Eq.mpr (e_pack_value t0 w R) h)
theorem s_pack_value {t0 : Value} {w : World} {Q : Value → World → Prop} (h : ∀ R : Value → World → Prop, (∀ v w', Q v w' → R v w') → c_pack_value t0 w R) : cal P f_pack_value [t0] w Q := l_pack_value (h Q fun _ _ h => h)

/-- (*flurry/pack.Unpacker).take -/
def A_pack_Unpacker_take : An := (An.s (An.r []) (An.s (An.b (An.s (An.r []) (An.s (An.s (An.r []) An.o) (An.s (An.r []) (An.s (An.s (An.r []) (An.s (An.r []) An.o)) (An.s (An.r []) (An.s (An.s (An.r []) (An.s (An.r []) An.o)) An.o))))))) (An.s (An.r []) (An.s (An.r []) (An.s (An.r []) (An.s (An.r []) An.o))))))
def c_pack_Unpacker_take (t0 t1 : Value) (w : World) (R : Value → World → Prop) : Prop :=
  cal P f_pack_Unpacker_works [t0] w fun t8 w =>
  notB t8 fun t9 =>
  cnd t9
  (R (Value.slice none 0 0) w)
  (bi BinOp.lss t1 (Value.int IntKind.i64 0) fun t12 =>
  cnd t12
  (nilc t0 fun t14 =>
  fad 0 t14 fun t15 =>
  cal P f_pack_kept_fails [t15, (Value.int IntKind.i64 1)] w fun t16 w =>
  R (Value.slice none 0 0) w)
  (nilc t0 fun t20 =>
  fad 0 t20 fun t21 =>
  fad 1 t21 fun t22 =>
  ld1 t22 w.heap fun t23 =>
  lenS t23 fun t24 =>
  bi BinOp.gtr t1 t24 fun t25 =>
  cnd t25
  (nilc t0 fun t27 =>
  fad 0 t27 fun t28 =>
  cal P f_pack_kept_fails [t28, (Value.int IntKind.i64 11)] w fun t29 w =>
  R (Value.slice none 0 0) w)
  (efP P (Instr.makeSlice T_sl_uint8 t1 t1) w fun t31 w =>
  nilc t0 fun t34 =>
  fad 0 t34 fun t35 =>
  fad 1 t35 fun t36 =>
  ld1 t36 w.heap fun t37 =>
  efP P (Builtin.copy_ #[T_sl_uint8, T_sl_uint8] T_int #[t31, t37]) w fun t38 w =>
  nilc t0 fun t41 =>
  fad 0 t41 fun t42 =>
  fad 1 t42 fun t43 =>
  ld1 t43 w.heap fun t44 =>
  slc 1 t44 (some t1) none fun t46 =>
  nilc t0 fun t47 =>
  fad 0 t47 fun t48 =>
  fad 1 t48 fun t49 =>
  st1 t49 t46 w fun w =>
  R t31 w)))
theorem e_pack_Unpacker_take (t0 t1 : Value) (w : World) (R : Value → World → Prop) : intp P A_pack_Unpacker_take (bodyOf Try.f50) (ini [t0, t1]) w (retK P Try.f50.results.toList R) (fun _ _ _ => False) (retK P Try.f50.results.toList R) = c_pack_Unpacker_take t0 t1 w R := by kernel_rfl
theorem k_pack_Unpacker_take : chk P Try.f50.ntmps A_pack_Unpacker_take (bodyOf Try.f50) = true := by kernel_rfl
theorem l_pack_Unpacker_take {t0 t1 : Value} {w : World} {R : Value → World → Prop} (h : c_pack_Unpacker_take t0 t1 w R) : cal P f_pack_Unpacker_take [t0, t1] w R :=
  calls_of mixed Try.func50 rfl (by kernel_rfl) k_pack_Unpacker_take (Eq.mpr (e_pack_Unpacker_take t0 t1 w R) h)
theorem s_pack_Unpacker_take {t0 t1 : Value} {w : World} {Q : Value → World → Prop} (h : ∀ R : Value → World → Prop, (∀ v w', Q v w' → R v w') → c_pack_Unpacker_take t0 t1 w R) : cal P f_pack_Unpacker_take [t0, t1] w Q := l_pack_Unpacker_take (h Q fun _ _ h => h)

/-- (*flurry/pack.Unpacker).counted -/
def A_pack_Unpacker_counted : An := (An.s (An.r []) (An.s (An.s (An.r []) (An.s (An.s (An.r []) An.o) An.o)) (An.s (An.s (An.r []) (An.s (An.s (An.r []) (An.s (An.r []) An.o)) An.o)) (An.s (An.s (An.r []) (An.s (An.s (An.r []) (An.s (An.r []) An.o)) An.o)) (An.s (An.r []) (An.s (An.b (An.s (An.r []) (An.s (An.s (An.r []) (An.s (An.r []) An.o)) (An.s (An.r []) (An.s (An.s (An.r []) (An.s (An.r []) An.o)) An.o))))) (An.s (An.r []) (An.s (An.r []) An.o))))))))
def c_pack_Unpacker_counted (t0 t1 t2 : Value) (w : World) (R : Value → World → Prop) : Prop :=
  cal P f_pack_Unpacker_works [t0] w fun t9 w =>
  notB t9 fun t10 =>
  cnd t10
  (R (Value.slice none 0 0) w)
  (bi BinOp.lss t2 (Value.int IntKind.i64 0) fun t12 =>
  cnd t12
  (nilc t0 fun t14 =>
  fad 0 t14 fun t15 =>
  cal P f_pack_kept_fails [t15, (Value.int IntKind.i64 1)] w fun t16 w =>
  R (Value.slice none 0 0) w)
  (nilc t0 fun t18 =>
  fad 0 t18 fun t19 =>
  fad 1 t19 fun t20 =>
  ld1 t20 w.heap fun t21 =>
  lenS t21 fun t22 =>
  bi BinOp.lss t22 t1 fun t24 =>
  cnd t24
  (nilc t0 fun t26 =>
  fad 0 t26 fun t27 =>
  cal P f_pack_kept_fails [t27, (Value.int IntKind.i64 11)] w fun t28 w =>
  R (Value.slice none 0 0) w)
  (nilc t0 fun t30 =>
  fad 0 t30 fun t31 =>
  fad 1 t31 fun t32 =>
  ld1 t32 w.heap fun t33 =>
  slc 1 t33 none (some t1) fun t35 =>
  cal P f_pack_value [t35] w fun t36 w =>
  cvi IntKind.u64 t2 fun t40 =>
  bi BinOp.gtr t36 t40 fun t41 =>
  cnd t41
  (nilc t0 fun t43 =>
  fad 0 t43 fun t44 =>
  cal P f_pack_kept_fails [t44, (Value.int IntKind.i64 3)] w fun t45 w =>
  R (Value.slice none 0 0) w)
  (nilc t0 fun t49 =>
  fad 0 t49 fun t50 =>
  fad 1 t50 fun t51 =>
  ld1 t51 w.heap fun t52 =>
  lenS t52 fun t53 =>
  bi BinOp.sub t53 t1 fun t55 =>
  cvi IntKind.u64 t55 fun t56 =>
  bi BinOp.gtr t36 t56 fun t57 =>
  cnd t57
  (nilc t0 fun t59 =>
  fad 0 t59 fun t60 =>
  cal P f_pack_kept_fails [t60, (Value.int IntKind.i64 11)] w fun t61 w =>
  R (Value.slice none 0 0) w)
  (nilc t0 fun t64 =>
  fad 0 t64 fun t65 =>
  fad 1 t65 fun t66 =>
  ld1 t66 w.heap fun t67 =>
  slc 1 t67 (some t1) none fun t69 =>
  nilc t0 fun t70 =>
  fad 0 t70 fun t71 =>
  fad 1 t71 fun t72 =>
  st1 t72 t69 w fun w =>
  cvi IntKind.i64 t36 fun t75 =>
  cal P f_pack_Unpacker_take [t0, t75] w fun t76 w =>
  R t76 w)))))
theorem e_pack_Unpacker_counted (t0 t1 t2 : Value) (w : World) (R : Value → World → Prop) : intp P A_pack_Unpacker_counted (bodyOf Try.f51) (ini [t0, t1, t2]) w (retK P Try.f51.results.toList R) (fun _ _ _ => False) (retK P Try.f51.results.toList R) = c_pack_Unpacker_counted t0 t1 t2 w R := by kernel_rfl
theorem k_pack_Unpacker_counted : chk P Try.f51.ntmps A_pack_Unpacker_counted (bodyOf Try.f51) = true := by kernel_rfl
theorem l_pack_Unpacker_counted {t0 t1 t2 : Value} {w : World} {R : Value → World → Prop} (h : c_pack_Unpacker_counted t0 t1 t2 w R) : cal P f_pack_Unpacker_counted [t0, t1, t2] w R :=
  calls_of mixed Try.func51 rfl (by kernel_rfl) k_pack_Unpacker_counted (Eq.mpr (e_pack_Unpacker_counted t0 t1 t2 w R) h)
theorem s_pack_Unpacker_counted {t0 t1 t2 : Value} {w : World} {Q : Value → World → Prop} (h : ∀ R : Value → World → Prop, (∀ v w', Q v w' → R v w') → c_pack_Unpacker_counted t0 t1 t2 w R) : cal P f_pack_Unpacker_counted [t0, t1, t2] w Q := l_pack_Unpacker_counted (h Q fun _ _ h => h)

/-- (*flurry/flurryref01.Unpacker).Fixed -/
def A_ref01_Unpacker_Fixed : An := (An.s (An.r []) (An.s (An.j [] (An.s (An.r [[13]]) (An.s (An.r []) An.o))) (An.s (An.j [] (An.s (An.r [[30]]) (An.s (An.r []) An.o))) (An.s (An.s (An.r []) (An.s (An.s (An.r []) An.o) An.o)) (An.s (An.r []) (An.s (An.r []) (An.s (An.r []) An.o)))))))
def c_ref01_Unpacker_Fixed (t0 t1 : Value) (w : World) (R : Value → World → Prop) : Prop :=
  jn0 (fun k0 =>
  nilc t0 fun t7 =>
  fad 1 t7 fun t8 =>
  ld1 t8 w.heap fun t9 =>
  bi BinOp.eql t9 (Value.int IntKind.i64 0) fun t10 =>
  jn1 (fun k1 =>
  gif t10 true
  (bi BinOp.lss t1 (Value.int IntKind.i64 0) fun t13 =>
  k1 t13 w)
  (k1 undef w)) fun _ t13_1 w =>
  pik t10 t13_1 (Value.bool false) fun t14 =>
  cnd t14
  (nilc t0 fun t16 =>
  fad 1 t16 fun t17 =>
  st1 t17 (Value.int IntKind.i64 1) w fun w =>
  k0 w)
  (k0 w)) fun _ w =>
  jn0 (fun k2 =>
  nilc t0 fun t19 =>
  fad 1 t19 fun t20 =>
  ld1 t20 w.heap fun t21 =>
  bi BinOp.eql t21 (Value.int IntKind.i64 0) fun t22 =>
  jn1 (fun k3 =>
  gif t22 true
  (nilc t0 fun t26 =>
  fad 0 t26 fun t27 =>
  ld1 t27 w.heap fun t28 =>
  lenS t28 fun t29 =>
  bi BinOp.gtr t1 t29 fun t30 =>
  k3 t30 w)
  (k3 undef w)) fun _ t30_1 w =>
  pik t22 t30_1 (Value.bool false) fun t31 =>
  cnd t31
  (nilc t0 fun t33 =>
  fad 1 t33 fun t34 =>
  st1 t34 (Value.int IntKind.i64 11) w fun w =>
  k2 w)
  (k2 w)) fun _ w =>
  nilc t0 fun t36 =>
  fad 1 t36 fun t37 =>
  ld1 t37 w.heap fun t38 =>
  bi BinOp.neq t38 (Value.int IntKind.i64 0) fun t39 =>
  cnd t39
  (R (Value.slice none 0 0) w)
  (nilc t0 fun t41 =>
  fad 0 t41 fun t42 =>
  ld1 t42 w.heap fun t43 =>
  slc 1 t43 none (some t1) fun t45 =>
  nilc t0 fun t48 =>
  fad 0 t48 fun t49 =>
  ld1 t49 w.heap fun t50 =>
  slc 1 t50 (some t1) none fun t52 =>
  nilc t0 fun t53 =>
  fad 0 t53 fun t54 =>
  st1 t54 t52 w fun w =>
  R t45 w)
theorem e_ref01_Unpacker_Fixed (t0 t1 : Value) (w : World) (R : Value → World → Prop) : intp P A_ref01_Unpacker_Fixed (bodyOf Try.f52) (ini [t0, t1]) w (retK P Try.f52.results.toList R) (fun _ _ _ => False) (retK P Try.f52.results.toList R) = c_ref01_Unpacker_Fixed t0 t1 w R := by kernel_rfl
theorem k_ref01_Unpacker_Fixed : chk P Try.f52.ntmps A_ref01_Unpacker_Fixed (bodyOf Try.f52) = true := by kernel_rfl
theorem l_ref01_Unpacker_Fixed {t0 t1 : Value} {w : World} {R : Value → World → Prop} (h : c_ref01_Unpacker_Fixed t0 t1 w R) : cal P f_ref01_Unpacker_Fixed [t0, t1] w R :=
  calls_of mixed Try.func52 rfl (by kernel_rfl) k_ref01_Unpacker_Fixed (Eq.mpr (e_ref01_Unpacker_Fixed t0 t1 w R) h)
theorem s_ref01_Unpacker_Fixed {t0 t1 : Value} {w : World} {Q : Value → World → Prop} (h : ∀ R : Value → World → Prop, (∀ v w', Q v w' → R v w') → c_ref01_Unpacker_Fixed t0 t1 w R) : cal P f_ref01_Unpacker_Fixed [t0, t1] w Q := l_ref01_Unpacker_Fixed (h Q fun _ _ h => h)

/-- (*flurry/flurryref01.Unpacker).Num -/
def A_ref01_Unpacker_Num : An := (An.s (An.r []) (An.s (An.r []) An.o))
def c_ref01_Unpacker_Num (t0 t1 : Value) (w : World) (R : Value → World → Prop) : Prop :=
  cal P f_ref01_Unpacker_Fixed [t0, t1] w fun t7 w =>
  cal P f_ref01_Val [t7] w fun t8 w =>
  R t8 w
theorem e_ref01_Unpacker_Num (t0 t1 : Value) (w : World) (R : Value → World → Prop) : intp P A_ref01_Unpacker_Num (bodyOf Try.f53) (ini [t0, t1]) w (retK P Try.f53.results.toList R) (fun _ _ _ => False) (retK P Try.f53.results.toList R) = c_ref01_Unpacker_Num t0 t1 w R := by kernel_rfl
theorem k_ref01_Unpacker_Num : chk P Try.f53.ntmps A_ref01_Unpacker_Num (bodyOf Try.f53) = true := by kernel_rfl
theorem l_ref01_Unpacker_Num {t0 t1 : Value} {w : World} {R : Value → World → Prop} (h : c_ref01_Unpacker_Num t0 t1 w R) : cal P f_ref01_Unpacker_Num [t0, t1] w R :=
  calls_of mixed Try.func53 rfl (by kernel_rfl) k_ref01_Unpacker_Num (Eq.mpr (e_ref01_Unpacker_Num t0 t1 w R) h)
theorem s_ref01_Unpacker_Num {t0 t1 : Value} {w : World} {Q : Value → World → Prop} (h : ∀ R : Value → World → Prop, (∀ v w', Q v w' → R v w') → c_ref01_Unpacker_Num t0 t1 w R) : cal P f_ref01_Unpacker_Num [t0, t1] w Q := l_ref01_Unpacker_Num (h Q fun _ _ h => h)

/-- (*flurry/flurryref01.Unpacker).Bytes -/
def A_ref01_Unpacker_Bytes : An := (An.s (An.r []) (An.s (An.r []) An.o))
def c_ref01_Unpacker_Bytes (t0 t1 : Value) (w : World) (R : Value → World → Prop) : Prop :=
  cal P f_ref01_Unpacker_counted [t0, (Value.int IntKind.i64 4), t1] w fun t7 w =>
  R t7 w
theorem e_ref01_Unpacker_Bytes (t0 t1 : Value) (w : World) (R : Value → World → Prop) : intp P A_ref01_Unpacker_Bytes (bodyOf Try.f54) (ini [t0, t1]) w (retK P Try.f54.results.toList R) (fun _ _ _ => False) (retK P Try.f54.results.toList R) = c_ref01_Unpacker_Bytes t0 t1 w R := by kernel_rfl
theorem k_ref01_Unpacker_Bytes : chk P Try.f54.ntmps A_ref01_Unpacker_Bytes (bodyOf Try.f54) = true := by kernel_rfl
theorem l_ref01_Unpacker_Bytes {t0 t1 : Value} {w : World} {R : Value → World → Prop} (h : c_ref01_Unpacker_Bytes t0 t1 w R) : cal P f_ref01_Unpacker_Bytes [t0, t1] w R :=
  calls_of mixed Try.func54 rfl (by kernel_rfl) k_ref01_Unpacker_Bytes (Eq.mpr (e_ref01_Unpacker_Bytes t0 t1 w R) h)
theorem s_ref01_Unpacker_Bytes {t0 t1 : Value} {w : World} {Q : Value → World → Prop} (h : ∀ R : Value → World → Prop, (∀ v w', Q v w' → R v w') → c_ref01_Unpacker_Bytes t0 t1 w R) : cal P f_ref01_Unpacker_Bytes [t0, t1] w Q := l_ref01_Unpacker_Bytes (h Q fun _ _ h => h)

/-- (*flurry/flurryref01.Unpacker).Text -/
def A_ref01_Unpacker_Text : An := (An.s (An.r []) (An.s (An.r []) An.o))
def c_ref01_Unpacker_Text (t0 t1 : Value) (w : World) (R : Value → World → Prop) : Prop :=
  cal P f_ref01_Unpacker_counted [t0, (Value.int IntKind.i64 2), t1] w fun t7 w =>
  rdP P (convert T_sl_uint8 T_string t7) w fun t8 =>
  R t8 w
theorem e_ref01_Unpacker_Text (t0 t1 : Value) (w : World) (R : Value → World → Prop) : intp P A_ref01_Unpacker_Text (bodyOf Try.f55) (ini [t0, t1]) w (retK P Try.f55.results.toList R) (fun _ _ _ => False) (retK P Try.f55.results.toList R) = c_ref01_Unpacker_Text t0 t1 w R := by kernel_rfl
theorem k_ref01_Unpacker_Text : chk P Try.f55.ntmps A_ref01_Unpacker_Text (bodyOf Try.f55) = true := by kernel_rfl
theorem l_ref01_Unpacker_Text {t0 t1 : Value} {w : World} {R : Value → World → Prop} (h : c_ref01_Unpacker_Text t0 t1 w R) : cal P f_ref01_Unpacker_Text [t0, t1] w R :=
  calls_of mixed Try.func55 rfl (by kernel_rfl) k_ref01_Unpacker_Text (Eq.mpr (e_ref01_Unpacker_Text t0 t1 w R) h)
theorem s_ref01_Unpacker_Text {t0 t1 : Value} {w : World} {Q : Value → World → Prop} (h : ∀ R : Value → World → Prop, (∀ v w', Q v w' → R v w') → c_ref01_Unpacker_Text t0 t1 w R) : cal P f_ref01_Unpacker_Text [t0, t1] w Q := l_ref01_Unpacker_Text (h Q fun _ _ h => h)

/-- (*flurry/pack.Packer).put -/
def A_pack_Packer_put : An := (An.s (An.s (An.r []) (An.s An.o An.o)) (An.s (An.r []) (An.s (An.s (An.r [[32]]) (An.s (An.s (An.r []) An.o) An.o)) (An.r []))))
def c_pack_Packer_put (t0 t1 t2 : Value) (w : World) (R : Value → World → Prop) : Prop :=
  cal P f_pack_Packer_works [t0] w fun t8 w =>
  notB t8 fun t9 =>
  cnd t9
  (R (Value.tuple #[]) w)
  (drw w fun w =>
  nilc t0 fun t11 =>
  fad 3 t11 fun t12 =>
  ld1 t12 w.heap fun t13 =>
  nilc t0 fun t15 =>
  fad 0 t15 fun t16 =>
  fad 1 t16 fun t17 =>
  ld1 t17 w.heap fun t18 =>
  lenS t18 fun t19 =>
  bi BinOp.sub t13 t19 fun t20 =>
  lenS t1 fun t22 =>
  bi BinOp.gtr t22 t20 fun t24 =>
  jn1 (fun k0 =>
  gif t24 false
  (lenS t2 fun t27 =>
  lenS t1 fun t30 =>
  bi BinOp.sub t20 t30 fun t31 =>
  bi BinOp.gtr t27 t31 fun t32 =>
  k0 t32 w)
  (k0 undef w)) fun _ t32_1 w =>
  pik t24 (Value.bool true) t32_1 fun t33 =>
  cnd t33
  (nilc t0 fun t35 =>
  fad 0 t35 fun t36 =>
  cal P f_pack_kept_fails [t36, (Value.int IntKind.i64 10)] w fun t37 w =>
  R (Value.tuple #[]) w)
  (nilc t0 fun t40 =>
  fad 0 t40 fun t41 =>
  fad 1 t41 fun t42 =>
  ld1 t42 w.heap fun t43 =>
  efP P (Builtin.append_ #[T_sl_uint8, T_sl_uint8] T_sl_uint8 #[t43, t1]) w fun t45 w =>
  efP P (Builtin.append_ #[T_sl_uint8, T_sl_uint8] T_sl_uint8 #[t45, t2]) w fun t47 w =>
  nilc t0 fun t48 =>
  fad 0 t48 fun t49 =>
  fad 1 t49 fun t50 =>
  st1 t50 t47 w fun w =>
  R (Value.tuple #[]) w))
theorem e_pack_Packer_put (t0 t1 t2 : Value) (w : World) (R : Value → World → Prop) : intp P A_pack_Packer_put (bodyOf Try.f56) (ini [t0, t1, t2]) w (retK P Try.f56.results.toList R) (fun _ _ _ => False) (retK P Try.f56.results.toList R) = c_pack_Packer_put t0 t1 t2 w R := by kernel_rfl
theorem k_pack_Packer_put : chk P Try.f56.ntmps A_pack_Packer_put (bodyOf Try.f56) = true := by kernel_rfl
theorem l_pack_Packer_put {t0 t1 t2 : Value} {w : World} {R : Value → World → Prop} (h : c_pack_Packer_put t0 t1 t2 w R) : cal P f_pack_Packer_put [t0, t1, t2] w R :=
  calls_of mixed Try.func56 rfl (by kernel_rfl) k_pack_Packer_put (Eq.mpr (e_pack_Packer_put t0 t1 t2 w R) h)
theorem s_pack_Packer_put {t0 t1 t2 : Value} {w : World} {Q : Value → World → Prop} (h : ∀ R : Value → World → Prop, (∀ v w', Q v w' → R v w') → c_pack_Packer_put t0 t1 t2 w R) : cal P f_pack_Packer_put [t0, t1, t2] w Q := l_pack_Packer_put (h Q fun _ _ h => h)

/-- flurry/pack.number -/
def A_pack_number : An := (An.s (An.r []) (An.s (An.r []) (An.s (An.s (An.r []) (An.b (An.l [11] (An.s (An.r []) (An.s (An.s An.o An.o) (An.s (An.b (An.s (An.r []) (An.r []))) (An.r []))))))) (An.s (An.r []) An.o))))
def c_pack_number (t0 t1 : Value) (w : World) (R : Value → World → Prop) : Prop :=
  efP P (Instr.makeSlice T_sl_uint8 t0 t0) w fun t8 w =>
  lenS t8 fun t10 =>
  lp1 (Value.int IntKind.i64 0) w fun _ t11 w again0 =>
  bi BinOp.lss t11 t10 fun t12 =>
  cnd t12
  (bi BinOp.sub t0 (Value.int IntKind.i64 1) fun t16 =>
  bi BinOp.sub t16 t11 fun t18 =>
  bi BinOp.mul (Value.int IntKind.i64 8) t11 fun t21 =>
  sh BinOp.shr t1 t21 fun t22 =>
  cvi IntKind.u8 t22 fun t23 =>
  ixs 1 t8 t18 fun t24 =>
  st1 t24 t23 w fun w =>
  bi BinOp.add t11 (Value.int IntKind.i64 1) fun t25 =>
  again0 t25 w)
  (R t8 w)
theorem e_pack_number (t0 t1 : Value) (w : World) (R : Value → World → Prop) : intp P A_pack_number (bodyOf Try.f57) (ini [t0, t1]) w (retK P Try.f57.results.toList R) (fun _ _ _ => False) (retK P Try.f57.results.toList R) = c_pack_number t0 t1 w R := by kernel_rfl
theorem k_pack_number : chk P Try.f57.ntmps A_pack_number (bodyOf Try.f57) = true := by kernel_rfl
theorem l_pack_number {t0 t1 : Value} {w : World} {R : Value → World → Prop} (h : c_pack_number t0 t1 w R) : cal P f_pack_number [t0, t1] w R :=
  calls_of mixed Try.func57 rfl (by kernel_rfl) k_pack_number (Eq.mpr (e_pack_number t0 t1 w R) h)
theorem s_pack_number {t0 t1 : Value} {w : World} {Q : Value → World → Prop} (h : ∀ R : Value → World → Prop, (∀ v w', Q v w' → R v w') → c_pack_number t0 t1 w R) : cal P f_pack_number [t0, t1] w Q := l_pack_number (h Q fun _ _ h => h)

/-- (*flurry/pack.Packer).works -/
def A_pack_Packer_works : An := (An.s (An.r []) (An.s (An.r [[10], [18]]) An.o))
def c_pack_Packer_works (t0 : Value) (w : World) (R : Value → World → Prop) : Prop :=
  nilP true t0 fun t4 =>
  jn1 (fun k0 =>
  gif t4 true
  (nilc t0 fun t7 =>
  fad 0 t7 fun t8 =>
  fad 0 t8 fun t9 =>
  ld1 t9 w.heap fun t10 =>
  k0 t10 w)
  (k0 undef w)) fun _ t10_1 w =>
  pik t4 t10_1 (Value.bool false) fun t11 =>
  jn1 (fun k1 =>
  gif t11 true
  (nilc t0 fun t14 =>
  fad 0 t14 fun t15 =>
  fad 2 t15 fun t16 =>
  ld1 t16 w.heap fun t17 =>
  bi BinOp.eql t17 (Value.int IntKind.i64 0) fun t18 =>
  k1 t18 w)
  (k1 undef w)) fun _ t18_1 w =>
  pik t11 t18_1 (Value.bool false) fun t19 =>
  R t19 w
theorem e_pack_Packer_works (t0 : Value) (w : World) (R : Value → World → Prop) : intp P A_pack_Packer_works (bodyOf Try.f58) (ini [t0]) w (retK P Try.f58.results.toList R) (fun _ _ _ => False) (retK P Try.f58.results.toList R) = c_pack_Packer_works t0 w R := by kernel_rfl
theorem k_pack_Packer_works : chk P Try.f58.ntmps A_pack_Packer_works (bodyOf Try.f58) = true := by kernel_rfl
theorem l_pack_Packer_works {t0 : Value} {w : World} {R : Value → World → Prop} (h : c_pack_Packer_works t0 w R) : cal P f_pack_Packer_works [t0] w R :=
  calls_of mixed Try.func58 rfl (by kernel_rfl) k_pack_Packer_works (Eq.mpr (e_pack_Packer_works t0 w R) h)
theorem s_pack_Packer_works {t0 : Value} {w : World} {Q : Value → World → Prop} (h : ∀ R : Value → World → Prop, (∀ v w', Q v w' → R v w') → c_pack_Packer_works t0 w R) : cal P f_pack_Packer_works [t0] w Q := l_pack_Packer_works (h Q fun _ _ h => h)

/-- (*flurry/pack.kept).fails -/
def A_pack_kept_fails : An := (An.s (An.r []) (An.s (An.r []) An.o))
def c_pack_kept_fails (t0 t1 : Value) (w : World) (R : Value → World → Prop) : Prop :=
  nilc t0 fun t5 =>
  fad 2 t5 fun t6 =>
  ld1 t6 w.heap fun t7 =>
  bi BinOp.eql t7 (Value.int IntKind.i64 0) fun t8 =>
  cnd t8
  (nilc t0 fun t11 =>
  fad 2 t11 fun t12 =>
  st1 t12 t1 w fun w =>
  R (Value.tuple #[]) w)
  (R (Value.tuple #[]) w)
theorem e_pack_kept_fails (t0 t1 : Value) (w : World) (R : Value → World → Prop) : intp P A_pack_kept_fails (bodyOf Try.f59) (ini [t0, t1]) w (retK P Try.f59.results.toList R) (fun _ _ _ => False) (retK P Try.f59.results.toList R) = c_pack_kept_fails t0 t1 w R := by kernel_rfl
theorem k_pack_kept_fails : chk P Try.f59.ntmps A_pack_kept_fails (bodyOf Try.f59) = true := by kernel_rfl
theorem l_pack_kept_fails {t0 t1 : Value} {w : World} {R : Value → World → Prop} (h : c_pack_kept_fails t0 t1 w R) : cal P f_pack_kept_fails [t0, t1] w R :=
  calls_of mixed Try.func59 rfl (by kernel_rfl) k_pack_kept_fails (Eq.mpr (e_pack_kept_fails t0 t1 w R) h)
theorem s_pack_kept_fails {t0 t1 : Value} {w : World} {Q : Value → World → Prop} (h : ∀ R : Value → World → Prop, (∀ v w', Q v w' → R v w') → c_pack_kept_fails t0 t1 w R) : cal P f_pack_kept_fails [t0, t1] w Q := l_pack_kept_fails (h Q fun _ _ h => h)

/-- flurry/flurryref01.Num -/
def A_ref01_Num : An := (An.s (An.r []) (An.s (An.r []) (An.s (An.s (An.r []) (An.b (An.l [1, 6] (An.s (An.s (An.r []) (An.s An.o An.o)) (An.s (An.b (An.s (An.r []) (An.r []))) (An.r [])))))) (An.s (An.r []) An.o))))
def c_ref01_Num (t0 t1 : Value) (w : World) (R : Value → World → Prop) : Prop :=
  efP P (Instr.makeSlice T_sl_uint8 t0 t0) w fun t8 w =>
  bi BinOp.sub t0 (Value.int IntKind.i64 1) fun t10 =>
  lp2 t1 t10 w fun _ t1_1 t6 w again0 =>
  bi BinOp.geq t6 (Value.int IntKind.i64 0) fun t12 =>
  cnd t12
  (bi BinOp.rem t1_1 (Value.int IntKind.u64 256) fun t18 =>
  cvi IntKind.u8 t18 fun t19 =>
  ixs 1 t8 t6 fun t20 =>
  st1 t20 t19 w fun w =>
  bi BinOp.quo t1_1 (Value.int IntKind.u64 256) fun t22 =>
  bi BinOp.sub t6 (Value.int IntKind.i64 1) fun t14 =>
  again0 t22 t14 w)
  (R t8 w)
theorem e_ref01_Num (t0 t1 : Value) (w : World) (R : Value → World → Prop) : intp P A_ref01_Num (bodyOf Try.f60) (ini [t0, t1]) w (retK P Try.f60.results.toList R) (fun _ _ _ => False) (retK P Try.f60.results.toList R) = c_ref01_Num t0 t1 w R := by kernel_rfl
theorem k_ref01_Num : chk P Try.f60.ntmps A_ref01_Num (bodyOf Try.f60) = true := by kernel_rfl
theorem l_ref01_Num {t0 t1 : Value} {w : World} {R : Value → World → Prop} (h : c_ref01_Num t0 t1 w R) : cal P f_ref01_Num [t0, t1] w R :=
  calls_of mixed Try.func60 rfl (by kernel_rfl) k_ref01_Num (Eq.mpr (e_ref01_Num t0 t1 w R) h)
theorem s_ref01_Num {t0 t1 : Value} {w : World} {Q : Value → World → Prop} (h : ∀ R : Value → World → Prop, (∀ v w', Q v w' → R v w') → c_ref01_Num t0 t1 w R) : cal P f_ref01_Num [t0, t1] w Q := l_ref01_Num (h Q fun _ _ h => h)

/-- (*flurry/pack.Unpacker).works -/
def A_pack_Unpacker_works : An := (An.s (An.r []) (An.s (An.r [[10], [18]]) An.o))
def c_pack_Unpacker_works (t0 : Value) (w : World) (R : Value → World → Prop) : Prop :=
  nilP true t0 fun t4 =>
  jn1 (fun k0 =>
  gif t4 true
  (nilc t0 fun t7 =>
  fad 0 t7 fun t8 =>
  fad 0 t8 fun t9 =>
  ld1 t9 w.heap fun t10 =>
  k0 t10 w)
  (k0 undef w)) fun _ t10_1 w =>
  pik t4 t10_1 (Value.bool false) fun t11 =>
  jn1 (fun k1 =>
  gif t11 true
  (nilc t0 fun t14 =>
  fad 0 t14 fun t15 =>
  fad 2 t15 fun t16 =>
  ld1 t16 w.heap fun t17 =>
  bi BinOp.eql t17 (Value.int IntKind.i64 0) fun t18 =>
  k1 t18 w)
  (k1 undef w)) fun _ t18_1 w =>
  pik t11 t18_1 (Value.bool false) fun t19 =>
  R t19 w
theorem e_pack_Unpacker_works (t0 : Value) (w : World) (R : Value → World → Prop) : intp P A_pack_Unpacker_works (bodyOf Try.f61) (ini [t0]) w (retK P Try.f61.results.toList R) (fun _ _ _ => False) (retK P Try.f61.results.toList R) = c_pack_Unpacker_works t0 w R := by kernel_rfl
theorem k_pack_Unpacker_works : chk P Try.f61.ntmps A_pack_Unpacker_works (bodyOf Try.f61) = true := by kernel_rfl
theorem l_pack_Unpacker_works {t0 : Value} {w : World} {R : Value → World → Prop} (h : c_pack_Unpacker_works t0 w R) : cal P f_pack_Unpacker_works [t0] w R :=
  calls_of mixed Try.func61 rfl (by kernel_rfl) k_pack_Unpacker_works (Eq.mpr (e_pack_Unpacker_works t0 w R) h)
theorem s_pack_Unpacker_works {t0 : Value} {w : World} {Q : Value → World → Prop} (h : ∀ R : Value → World → Prop, (∀ v w', Q v w' → R v w') → c_pack_Unpacker_works t0 w R) : cal P f_pack_Unpacker_works [t0] w Q := l_pack_Unpacker_works (h Q fun _ _ h => h)

/-- flurry/flurryref01.Val -/
def A_ref01_Val : An := (An.s (An.r []) (An.s (An.r []) (An.s (An.s (An.r []) (An.b (An.l [3, 4] (An.s (An.s (An.r []) (An.s An.o An.o)) (An.s (An.b (An.r [])) (An.r [])))))) (An.s (An.r []) An.o))))
def c_ref01_Val (t0 : Value) (w : World) (R : Value → World → Prop) : Prop :=
  lp2 (Value.int IntKind.u64 0) (Value.int IntKind.i64 0) w fun _ t3 t4 w again0 =>
  lenS t0 fun t7 =>
  bi BinOp.lss t4 t7 fun t8 =>
  cnd t8
  (bi BinOp.mul (Value.int IntKind.u64 256) t3 fun t12 =>
  ixs 1 t0 t4 fun t15 =>
  ld1 t15 w.heap fun t16 =>
  cvi IntKind.u64 t16 fun t17 =>
  bi BinOp.add t12 t17 fun t18 =>
  bi BinOp.add t4 (Value.int IntKind.i64 1) fun t10 =>
  again0 t18 t10 w)
  (R t3 w)
theorem e_ref01_Val (t0 : Value) (w : World) (R : Value → World → Prop) : intp P A_ref01_Val (bodyOf Try.f62) (ini [t0]) w (retK P Try.f62.results.toList R) (fun _ _ _ => False) (retK P Try.f62.results.toList R) = c_ref01_Val t0 w R := by kernel_rfl
theorem k_ref01_Val : chk P Try.f62.ntmps A_ref01_Val (bodyOf Try.f62) = true := by kernel_rfl
theorem l_ref01_Val {t0 : Value} {w : World} {R : Value → World → Prop} (h : c_ref01_Val t0 w R) : cal P f_ref01_Val [t0] w R :=
  calls_of mixed Try.func62 rfl (by kernel_rfl) k_ref01_Val (Eq.mpr (e_ref01_Val t0 w R) h)
theorem s_ref01_Val {t0 : Value} {w : World} {Q : Value → World → Prop} (h : ∀ R : Value → World → Prop, (∀ v w', Q v w' → R v w') → c_ref01_Val t0 w R) : cal P f_ref01_Val [t0] w Q := l_ref01_Val (h Q fun _ _ h => h)

/-- (*flurry/flurryref01.Unpacker).counted -/
def A_ref01_Unpacker_counted : An := (An.s (An.r []) (An.s (An.j [] (An.s (An.r [[17]]) (An.s (An.r []) An.o))) (An.s (An.r []) (An.s (An.r []) (An.s (An.j [] (An.s (An.r [[39]]) (An.s (An.r []) An.o))) (An.s (An.r []) (An.s (An.s (An.r []) (An.s (An.s (An.r []) (An.s (An.r []) An.o)) An.o)) (An.s (An.r []) An.o))))))))
def c_ref01_Unpacker_counted (t0 t1 t2 : Value) (w : World) (R : Value → World → Prop) : Prop :=
  jn0 (fun k0 =>
  nilc t0 fun t11 =>
  fad 1 t11 fun t12 =>
  ld1 t12 w.heap fun t13 =>
  bi BinOp.eql t13 (Value.int IntKind.i64 0) fun t14 =>
  jn1 (fun k1 =>
  gif t14 true
  (bi BinOp.lss t2 (Value.int IntKind.i64 0) fun t17 =>
  k1 t17 w)
  (k1 undef w)) fun _ t17_1 w =>
  pik t14 t17_1 (Value.bool false) fun t18 =>
  cnd t18
  (nilc t0 fun t20 =>
  fad 1 t20 fun t21 =>
  st1 t21 (Value.int IntKind.i64 1) w fun w =>
  k0 w)
  (k0 w)) fun _ w =>
  nilc t0 fun t23 =>
  fad 0 t23 fun t24 =>
  ld1 t24 w.heap fun t25 =>
  cal P f_ref01_Unpacker_Num [t0, t1] w fun t28 w =>
  jn0 (fun k2 =>
  nilc t0 fun t30 =>
  fad 1 t30 fun t31 =>
  ld1 t31 w.heap fun t32 =>
  bi BinOp.eql t32 (Value.int IntKind.i64 0) fun t33 =>
  jn1 (fun k3 =>
  gif t33 true
  (rdP P (Builtin.max_ #[T_int, T_int] T_int #[t2, (Value.int IntKind.i64 0)]) w fun t37 =>
  cvi IntKind.u64 t37 fun t38 =>
  bi BinOp.gtr t28 t38 fun t39 =>
  k3 t39 w)
  (k3 undef w)) fun _ t39_1 w =>
  pik t33 t39_1 (Value.bool false) fun t40 =>
  cnd t40
  (nilc t0 fun t42 =>
  fad 1 t42 fun t43 =>
  st1 t43 (Value.int IntKind.i64 3) w fun w =>
  k2 w)
  (k2 w)) fun _ w =>
  cvi IntKind.i64 t28 fun t46 =>
  cal P f_ref01_Unpacker_Fixed [t0, t46] w fun t47 w =>
  nilc t0 fun t49 =>
  fad 1 t49 fun t50 =>
  ld1 t50 w.heap fun t51 =>
  bi BinOp.neq t51 (Value.int IntKind.i64 0) fun t52 =>
  cnd t52
  (nilc t0 fun t55 =>
  fad 0 t55 fun t56 =>
  st1 t56 t25 w fun w =>
  R (Value.slice none 0 0) w)
  (R t47 w)
theorem e_ref01_Unpacker_counted (t0 t1 t2 : Value) (w : World) (R : Value → World → Prop) : intp P A_ref01_Unpacker_counted (bodyOf Try.f63) (ini [t0, t1, t2]) w (retK P Try.f63.results.toList R) (fun _ _ _ => False) (retK P Try.f63.results.toList R) = c_ref01_Unpacker_counted t0 t1 t2 w R := by kernel_rfl
theorem k_ref01_Unpacker_counted : chk P Try.f63.ntmps A_ref01_Unpacker_counted (bodyOf Try.f63) = true := by kernel_rfl
theorem l_ref01_Unpacker_counted {t0 t1 t2 : Value} {w : World} {R : Value → World → Prop} (h : c_ref01_Unpacker_counted t0 t1 t2 w R) : cal P f_ref01_Unpacker_counted [t0, t1, t2] w R :=
  calls_of mixed Try.func63 rfl (by kernel_rfl) k_ref01_Unpacker_counted (Eq.mpr (e_ref01_Unpacker_counted t0 t1 t2 w R) h)
theorem s_ref01_Unpacker_counted {t0 t1 t2 : Value} {w : World} {Q : Value → World → Prop} (h : ∀ R : Value → World → Prop, (∀ v w', Q v w' → R v w') → c_ref01_Unpacker_counted t0 t1 t2 w R) : cal P f_ref01_Unpacker_counted [t0, t1, t2] w Q := l_ref01_Unpacker_counted (h Q fun _ _ h => h)

end Go.Fx
