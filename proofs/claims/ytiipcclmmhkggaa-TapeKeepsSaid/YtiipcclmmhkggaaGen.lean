/-
  The readings of the functions that are walked (c_..), printed by program; each is held against the loaded code by the kernel (e_..), and gives the call (l_..).
-/
import Derived.Test.YtiipcclmmhkggaaFxE
import Derived.Test.YtiipcclmmhkggaaProg
import Derived.KernelRfl
set_option linter.unusedVariables false
set_option maxRecDepth 100000
namespace Go.Fx
noncomputable abbrev P : Program := Go.Proofs.Try.prog
open Go.Proofs
def bodyOf (f : Func) : Code := match f.body with | some c => c | none => .skip
theorem mixed : P.follows .mixedOrders = true := by kernel_rfl
abbrev f_law08_TapeFull : FuncId := 3
abbrev f_law08_TapeArmed : FuncId := 4
abbrev f_law08_TapeNone : FuncId := 5
abbrev f_law08_TapeKeeps : FuncId := 6
abbrev f_law08_TapeDoes : FuncId := 7
abbrev f_tape_Of : FuncId := 8
abbrev f_law08_begun : FuncId := 9
abbrev f_tape_Tape_Append : FuncId := 10
abbrev f_tape_Tape_Len : FuncId := 11
abbrev f_tape_Tape_On : FuncId := 12
abbrev f_bytes_Equal : FuncId := 13
abbrev f_tape_Tape_Bytes : FuncId := 14
abbrev f_tape_New : FuncId := 15
abbrev f_tape_Tape_Arm : FuncId := 16
abbrev f_bytes_Join : FuncId := 17
abbrev f_tape_Tape_Truncate : FuncId := 18
abbrev f_tape_Tape_Calm : FuncId := 19
abbrev f_tape_Tape_Crash : FuncId := 20
abbrev f_tape_Tape_Restart : FuncId := 21
abbrev f_tape_Tape_Clone : FuncId := 22
abbrev f_law08_few : FuncId := 23
abbrev f_bytes_HasPrefix : FuncId := 24
abbrev f_bytes_Clone : FuncId := 25
abbrev f_ref08_Of : FuncId := 26
abbrev f_law08_does : FuncId := 27
abbrev f_law08_same : FuncId := 28
abbrev f_tape_told : FuncId := 29
abbrev f_tape_Tape_may : FuncId := 30
abbrev f_tape_Tape_goes : FuncId := 31
abbrev f_internal_bytealg_MakeNoZero : FuncId := 32
abbrev f_ref08_Tape_Append : FuncId := 33
abbrev f_ref08_Tape_Truncate : FuncId := 34
abbrev f_ref08_Tape_Arm : FuncId := 35
abbrev f_ref08_Tape_Calm : FuncId := 36
abbrev f_ref08_Tape_Crash : FuncId := 37
abbrev f_ref08_Tape_Restart : FuncId := 38
abbrev f_runtime_boundsError_Error : FuncId := 39
abbrev f_runtime_boundsError_RuntimeError : FuncId := 40
abbrev f_runtime_errorString_Error : FuncId := 41
abbrev f_runtime_errorString_RuntimeError : FuncId := 42
abbrev f_runtime_plainError_Error : FuncId := 43
abbrev f_runtime_plainError_RuntimeError : FuncId := 44
abbrev f_runtime_errorAddressString_Error : FuncId := 45
abbrev f_runtime_errorAddressString_RuntimeError : FuncId := 46
abbrev f_runtime_TypeAssertionError_Error : FuncId := 47
abbrev f_runtime_TypeAssertionError_RuntimeError : FuncId := 48
abbrev f_runtime_PanicNilError_Error : FuncId := 49
abbrev f_runtime_PanicNilError_RuntimeError : FuncId := 50
abbrev f_internal_abi_Type_Align : FuncId := 51
abbrev f_internal_runtime_maps_unhashableTypeError_Error : FuncId := 52
abbrev f_internal_runtime_maps_unhashableTypeError_RuntimeError : FuncId := 53
abbrev f_api_Errno_Error : FuncId := 54
abbrev f_internal_abi_Kind_String : FuncId := 55
abbrev T_ : TypeId := 0
abbrev T_func : TypeId := 1
abbrev T_int64 : TypeId := 2
abbrev T_int : TypeId := 3
abbrev T_bool : TypeId := 4
abbrev T_uint8 : TypeId := 5
abbrev T_internal_abi_BoundsErrorCode : TypeId := 6
abbrev T_struct_x_int64_y_int_signed_bool_code_abi_BoundsErrorCode : TypeId := 7
abbrev T_runtime_boundsError : TypeId := 8
abbrev T_string : TypeId := 9
abbrev T_runtime_errorString : TypeId := 10
abbrev T_runtime_plainError : TypeId := 11
abbrev T_uintptr : TypeId := 12
abbrev T_struct_msg_string_addr_uintptr : TypeId := 13
abbrev T_runtime_errorAddressString : TypeId := 14
abbrev T_p_runtime_TypeAssertionError : TypeId := 15
abbrev T_p_runtime_PanicNilError : TypeId := 16
abbrev T_p_abi_Type : TypeId := 17
abbrev T_struct_typ_p_abi_Type : TypeId := 18
abbrev T_internal_runtime_maps_unhashableTypeError : TypeId := 19
abbrev T_interface : TypeId := 20
abbrev T_int32 : TypeId := 21
abbrev T_uint16 : TypeId := 22
abbrev T_sl_uint8 : TypeId := 23
abbrev T_p_tape_Tape : TypeId := 24
abbrev T_api_Errno : TypeId := 25
abbrev T_p_tape_Tape_api_Errno : TypeId := 26
abbrev T_func_sl_uint8_p_tape_Tape_api_Errno : TypeId := 27
abbrev T_func_bool : TypeId := 28
abbrev T_func_sl_uint8_api_Errno : TypeId := 29
abbrev T_func_int : TypeId := 30
abbrev T_func_sl_uint8_sl_uint8_bool : TypeId := 31
abbrev T_func_sl_uint8 : TypeId := 32
abbrev T_func_uint16_sl_uint8_bool : TypeId := 33
abbrev T_sl_sl_uint8 : TypeId := 34
abbrev T_func_p_tape_Tape : TypeId := 35
abbrev T_func_int_api_Errno : TypeId := 36
abbrev T_func_sl_sl_uint8_sl_uint8_sl_uint8 : TypeId := 37
abbrev T_func_uint16_sl_sl_uint8_bool : TypeId := 38
abbrev T_struct_b_sl_uint8_armed_int_off_bool_made_bool : TypeId := 39
abbrev T_tape_Tape : TypeId := 40
abbrev T_sl_p_tape_Tape : TypeId := 41
abbrev T_func_api_Errno : TypeId := 42
abbrev T_func_int_sl_uint8_bool : TypeId := 43
abbrev T_sl_flurrylaw08_Op : TypeId := 44
abbrev T_sl_flurrylaw08_Op_bool : TypeId := 45
abbrev T_func_sl_flurrylaw08_Op_sl_flurrylaw08_Op_bool : TypeId := 46
abbrev T_struct_Do_int_N_int_L_sl_sl_uint8 : TypeId := 47
abbrev T_flurrylaw08_Op : TypeId := 48
abbrev T_func_sl_flurrylaw08_Op_bool : TypeId := 49
abbrev T_func_sl_uint8_sl_uint8 : TypeId := 50
abbrev T_p_flurryref08_Tape : TypeId := 51
abbrev T_p_flurryref08_Tape_api_Errno : TypeId := 52
abbrev T_func_sl_uint8_p_flurryref08_Tape_api_Errno : TypeId := 53
abbrev T_func_p_tape_Tape_p_flurryref08_Tape_flurrylaw08_Op_bool : TypeId := 54
abbrev T_func_p_tape_Tape_p_flurryref08_Tape_bool : TypeId := 55
abbrev T_func_sl_uint8_sl_flurrylaw08_Op_bool : TypeId := 56
abbrev T_func_int_sl_uint8 : TypeId := 57
abbrev T_struct_B_sl_uint8_Off_bool_Left_int : TypeId := 58
abbrev T_flurryref08_Tape : TypeId := 59
abbrev T_func_sl_sl_uint8_api_Errno : TypeId := 60
abbrev T_func_string : TypeId := 61
abbrev T_struct_interface_p_abi_Type_concrete_p_abi_Type_asserted_p_a : TypeId := 62
abbrev T_runtime_TypeAssertionError : TypeId := 63
abbrev T_a0_p_runtime_PanicNilError : TypeId := 64
abbrev T_struct_a0_p_runtime_PanicNilError : TypeId := 65
abbrev T_runtime_PanicNilError : TypeId := 66
abbrev T_uint32 : TypeId := 67
abbrev T_internal_abi_TFlag : TypeId := 68
abbrev T_internal_abi_Kind : TypeId := 69
abbrev T_func_unsafe_Pointer_unsafe_Pointer_bool : TypeId := 70
abbrev T_p_uint8 : TypeId := 71
abbrev T_internal_abi_NameOff : TypeId := 72
abbrev T_internal_abi_TypeOff : TypeId := 73
abbrev T_struct_Size_uintptr_PtrBytes_uintptr_Hash_uint32_TFlag_abi_T : TypeId := 74
abbrev T_internal_abi_Type : TypeId := 75
abbrev T_unsafe_Pointer : TypeId := 76
/-- flurry/flurrylaw08.TapeFull -/
def A_law08_TapeFull : An := (An.s (An.r []) (An.s (An.r []) (An.s (An.r []) (An.s (An.s (An.r [[24], [28], [33]]) (An.s (An.s (An.r [[38], [42]]) An.o) An.o)) (An.s (An.r []) (An.s (An.s (An.r [[53]]) (An.s (An.s (An.r []) An.o) An.o)) (An.s (An.r []) (An.s (An.s (An.r []) (An.s (An.s (An.r [[70], [74]]) An.o) An.o)) (An.s (An.r [[85], [93]]) An.o)))))))))
def c_law08_TapeFull (t0 t1 : Value) (w : World) (R : Value → World → Prop) : Prop :=
  cvi IntKind.i64 t0 fun t11 =>
  bi BinOp.rem t11 (Value.int IntKind.i64 300) fun t12 =>
  bi BinOp.sub (Value.int IntKind.i64 262144) t12 fun t13 =>
  efP P (Instr.makeSlice T_sl_uint8 t13 t13) w fun t16 w =>
  cal P f_tape_Of [t16] w fun t17 w =>
  ext 0 t17 fun t18 =>
  ext 1 t17 fun t19 =>
  cal P f_law08_begun [] w fun t20 w =>
  notB t20 fun t21 =>
  jn1 (fun k0 =>
  gif t21 false
  (bi BinOp.neq t19 (Value.int IntKind.i64 0) fun t24 =>
  k0 t24 w)
  (k0 undef w)) fun _ t24_1 w =>
  pik t21 (Value.bool true) t24_1 fun t25 =>
  jn1 (fun k1 =>
  gif t25 false
  (nilP false t18 fun t28 =>
  k1 t28 w)
  (k1 undef w)) fun _ t28_1 w =>
  pik t25 (Value.bool true) t28_1 fun t29 =>
  jn1 (fun k2 =>
  gif t29 false
  (lenS t1 fun t32 =>
  bi BinOp.gtr t32 (Value.int IntKind.i64 2000) fun t33 =>
  k2 t33 w)
  (k2 undef w)) fun _ t33_1 w =>
  pik t29 (Value.bool true) t33_1 fun t34 =>
  cnd t34
  (cal P f_law08_begun [] w fun t35 w =>
  jn1 (fun k3 =>
  gif t35 true
  (bi BinOp.eql t19 (Value.int IntKind.i64 0) fun t38 =>
  k3 t38 w)
  (k3 undef w)) fun _ t38_1 w =>
  pik t35 t38_1 (Value.bool false) fun t39 =>
  jn1 (fun k4 =>
  gif t39 true
  (nilP true t18 fun t42 =>
  k4 t42 w)
  (k4 undef w)) fun _ t42_1 w =>
  pik t39 t42_1 (Value.bool false) fun t43 =>
  R t43 w)
  (efP P (Instr.makeSlice T_sl_uint8 (Value.int IntKind.i64 262145) (Value.int IntKind.i64 262145)) w fun t45 w =>
  cal P f_tape_Of [t45] w fun t46 w =>
  ext 0 t46 fun t47 =>
  ext 1 t46 fun t48 =>
  nilP true t47 fun t50 =>
  jn1 (fun k5 =>
  gif t50 false
  (bi BinOp.neq t48 (Value.int IntKind.i64 3) fun t53 =>
  k5 t53 w)
  (k5 undef w)) fun _ t53_1 w =>
  pik t50 (Value.bool true) t53_1 fun t54 =>
  cnd t54
  (R (Value.bool false) w)
  (efP P (Instr.buildSlice T_sl_sl_uint8 2 #[(0, t1), (1, (Value.slice none 0 0))]) w fun t57 w =>
  cal P f_tape_Tape_Append [t18, t57] w fun t58 w =>
  lenS t1 fun t60 =>
  bi BinOp.sub (Value.int IntKind.i64 262144) t13 fun t62 =>
  bi BinOp.gtr t60 t62 fun t63 =>
  cnd t63
  (bi BinOp.eql t58 (Value.int IntKind.i64 6) fun t65 =>
  jn1 (fun k6 =>
  gif t65 true
  (cal P f_tape_Tape_Len [t18] w fun t68 w =>
  bi BinOp.eql t68 t13 fun t70 =>
  k6 t70 w)
  (k6 undef w)) fun _ t70_1 w =>
  pik t65 t70_1 (Value.bool false) fun t71 =>
  jn1 (fun k7 =>
  gif t71 true
  (cal P f_tape_Tape_On [t18] w fun t74 w =>
  k7 t74 w)
  (k7 undef w)) fun _ t74_1 w =>
  pik t71 t74_1 (Value.bool false) fun t75 =>
  R t75 w)
  (bi BinOp.eql t58 (Value.int IntKind.i64 0) fun t77 =>
  jn1 (fun k8 =>
  gif t77 true
  (cal P f_tape_Tape_Len [t18] w fun t80 w =>
  lenS t1 fun t83 =>
  bi BinOp.add t13 t83 fun t84 =>
  bi BinOp.eql t80 t84 fun t85 =>
  k8 t85 w)
  (k8 undef w)) fun _ t85_1 w =>
  pik t77 t85_1 (Value.bool false) fun t86 =>
  jn1 (fun k9 =>
  gif t86 true
  (cal P f_tape_Tape_Bytes [t18] w fun t89 w =>
  slc 1 t89 (some t13) none fun t91 =>
  cal P f_bytes_Equal [t91, t1] w fun t93 w =>
  k9 t93 w)
  (k9 undef w)) fun _ t93_1 w =>
  pik t86 t93_1 (Value.bool false) fun t94 =>
  R t94 w)))
theorem e_law08_TapeFull (t0 t1 : Value) (w : World) (R : Value → World → Prop) : intp P A_law08_TapeFull (bodyOf Try.f3) (ini [t0, t1]) w (retK P Try.f3.results.toList R) (fun _ _ _ => False) (retK P Try.f3.results.toList R) = c_law08_TapeFull t0 t1 w R := by kernel_rfl
theorem k_law08_TapeFull : chk P Try.f3.ntmps A_law08_TapeFull (bodyOf Try.f3) = true := by kernel_rfl
theorem l_law08_TapeFull {t0 t1 : Value} {w : World} {R : Value → World → Prop} (h : c_law08_TapeFull t0 t1 w R) : cal P f_law08_TapeFull [t0, t1] w R :=
  calls_of mixed Try.func3 rfl (by kernel_rfl) k_law08_TapeFull (Eq.mpr (e_law08_TapeFull t0 t1 w R) h)
theorem s_law08_TapeFull {t0 t1 : Value} {w : World} {Q : Value → World → Prop} (h : ∀ R : Value → World → Prop, (∀ v w', Q v w' → R v w') → c_law08_TapeFull t0 t1 w R) : cal P f_law08_TapeFull [t0, t1] w Q := l_law08_TapeFull (h Q fun _ _ h => h)

/-- flurry/flurrylaw08.TapeArmed -/
def A_law08_TapeArmed : An := (An.s (An.r []) (An.s (An.r []) (An.s (An.s (An.r [[16], [21]]) (An.s (An.s (An.r [[26]]) An.o) An.o)) (An.s (An.r []) (An.s (An.s (An.r []) (An.b (An.l [6, 30] (An.s (An.r []) (An.s (An.s An.o An.o) (An.s (An.b (An.s (An.r []) (An.s (An.s (An.r []) (An.s (An.s (An.r []) An.o) An.o)) (An.r [])))) (An.r []))))))) (An.s (An.s (An.r []) (An.s (An.s (An.r []) An.o) An.o)) (An.s (An.s (An.r []) (An.b (An.l [49] (An.s (An.r []) (An.s (An.s An.o An.o) (An.s (An.b (An.s (An.r []) (An.r []))) (An.r []))))))) (An.s (An.r [[72], [84]]) An.o))))))))
def c_law08_TapeArmed (t0 t1 : Value) (w : World) (R : Value → World → Prop) : Prop :=
  cal P f_tape_New [] w fun t11 w =>
  cal P f_law08_begun [] w fun t12 w =>
  notB t12 fun t13 =>
  jn1 (fun k0 =>
  gif t13 false
  (nilP false t11 fun t16 =>
  k0 t16 w)
  (k0 undef w)) fun _ t16_1 w =>
  pik t13 (Value.bool true) t16_1 fun t17 =>
  jn1 (fun k1 =>
  gif t17 false
  (lenS t1 fun t20 =>
  bi BinOp.gtr t20 (Value.int IntKind.i64 40) fun t21 =>
  k1 t21 w)
  (k1 undef w)) fun _ t21_1 w =>
  pik t17 (Value.bool true) t21_1 fun t22 =>
  cnd t22
  (cal P f_law08_begun [] w fun t23 w =>
  jn1 (fun k2 =>
  gif t23 true
  (nilP true t11 fun t26 =>
  k2 t26 w)
  (k2 undef w)) fun _ t26_1 w =>
  pik t23 t26_1 (Value.bool false) fun t27 =>
  R t27 w)
  (lenS t1 fun t29 =>
  lp2 (Value.int IntKind.i64 0) (Value.int IntKind.i64 0) w fun _ t6 t30 w again3 =>
  bi BinOp.lss t30 t29 fun t31 =>
  cnd t31
  (ixs 1 t1 t30 fun t32 =>
  ld1 t32 w.heap fun t33 =>
  lenS t33 fun t35 =>
  bi BinOp.gtr t35 (Value.int IntKind.i64 500) fun t36 =>
  cnd t36
  (R (Value.bool true) w)
  (lenS t33 fun t39 =>
  bi BinOp.add t6 t39 fun t40 =>
  bi BinOp.add t30 (Value.int IntKind.i64 1) fun t41 =>
  again3 t40 t41 w))
  (cvi IntKind.i64 t0 fun t44 =>
  cal P f_tape_Tape_Arm [t11, t44] w fun t45 w =>
  bi BinOp.neq t45 (Value.int IntKind.i64 0) fun t46 =>
  cnd t46
  (R (Value.bool false) w)
  (lenS t1 fun t48 =>
  lp1 (Value.int IntKind.i64 0) w fun _ t49 w again4 =>
  bi BinOp.lss t49 t48 fun t50 =>
  cnd t50
  (ixs 1 t1 t49 fun t51 =>
  ld1 t51 w.heap fun t52 =>
  efP P (Instr.buildSlice T_sl_sl_uint8 1 #[(0, t52)]) w fun t55 w =>
  cal P f_tape_Tape_Append [t11, t55] w fun t56 w =>
  bi BinOp.add t49 (Value.int IntKind.i64 1) fun t57 =>
  again4 t57 w)
  (cal P f_tape_Tape_Len [t11] w fun t59 w =>
  cvi IntKind.i64 t0 fun t62 =>
  rdP P (Builtin.min_ #[T_int, T_int] T_int #[t6, t62]) w fun t63 =>
  bi BinOp.eql t59 t63 fun t64 =>
  jn1 (fun k5 =>
  gif t64 true
  (cal P f_tape_Tape_On [t11] w fun t67 w =>
  cvi IntKind.i64 t0 fun t70 =>
  bi BinOp.leq t6 t70 fun t71 =>
  rdP P (eqS BinOp.eql T_bool (Operand.tmp 67) (Operand.tmp 71) t67 t71) w fun t72 =>
  k5 t72 w)
  (k5 undef w)) fun _ t72_1 w =>
  pik t64 t72_1 (Value.bool false) fun t73 =>
  jn1 (fun k6 =>
  gif t73 true
  (cal P f_tape_Tape_Bytes [t11] w fun t76 w =>
  cal P f_bytes_Join [t1, (Value.slice none 0 0)] w fun t78 w =>
  cvi IntKind.i64 t0 fun t81 =>
  rdP P (Builtin.min_ #[T_int, T_int] T_int #[t6, t81]) w fun t82 =>
  slc 1 t78 none (some t82) fun t83 =>
  cal P f_bytes_Equal [t76, t83] w fun t84 w =>
  k6 t84 w)
  (k6 undef w)) fun _ t84_1 w =>
  pik t73 t84_1 (Value.bool false) fun t85 =>
  R t85 w))))
theorem e_law08_TapeArmed (t0 t1 : Value) (w : World) (R : Value → World → Prop) : intp P A_law08_TapeArmed (bodyOf Try.f4) (ini [t0, t1]) w (retK P Try.f4.results.toList R) (fun _ _ _ => False) (retK P Try.f4.results.toList R) = c_law08_TapeArmed t0 t1 w R := by kernel_rfl
theorem k_law08_TapeArmed : chk P Try.f4.ntmps A_law08_TapeArmed (bodyOf Try.f4) = true := by kernel_rfl
theorem l_law08_TapeArmed {t0 t1 : Value} {w : World} {R : Value → World → Prop} (h : c_law08_TapeArmed t0 t1 w R) : cal P f_law08_TapeArmed [t0, t1] w R :=
  calls_of mixed Try.func4 rfl (by kernel_rfl) k_law08_TapeArmed (Eq.mpr (e_law08_TapeArmed t0 t1 w R) h)
theorem s_law08_TapeArmed {t0 t1 : Value} {w : World} {Q : Value → World → Prop} (h : ∀ R : Value → World → Prop, (∀ v w', Q v w' → R v w') → c_law08_TapeArmed t0 t1 w R) : cal P f_law08_TapeArmed [t0, t1] w Q := l_law08_TapeArmed (h Q fun _ _ h => h)

/-- flurry/flurrylaw08.TapeNone -/
def A_law08_TapeNone : An := (An.s (An.r []) (An.s (An.s (An.r []) (An.b (An.l [11] (An.s (An.r []) (An.s (An.s An.o An.o) (An.s (An.b (An.s (An.r []) (An.s (An.r [[24], [30], [35], [40], [45], [49], [55], [60], [65]]) (An.s (An.s (An.r []) An.o) An.o)))) (An.r []))))))) (An.s (An.r []) An.o)))
def c_law08_TapeNone (t0 t1 : Value) (w : World) (R : Value → World → Prop) : Prop :=
  rdP P (Instr.build T_tape_Tape #[]) w fun t7 =>
  bx T_tape_Tape t7 w fun t8 w =>
  efP P (Instr.buildSlice T_sl_p_tape_Tape 2 #[(0, (Value.pointer none)), (1, t8)]) w fun t9 w =>
  lenS t9 fun t10 =>
  lp1 (Value.int IntKind.i64 0) w fun _ t11 w again0 =>
  bi BinOp.lss t11 t10 fun t12 =>
  cnd t12
  (ixs 1 t9 t11 fun t13 =>
  ld1 t13 w.heap fun t14 =>
  efP P (Instr.buildSlice T_sl_sl_uint8 1 #[(0, t1)]) w fun t17 w =>
  cal P f_tape_Tape_Append [t14, t17] w fun t18 w =>
  bi BinOp.neq t18 (Value.int IntKind.i64 2) fun t19 =>
  jn1 (fun k1 =>
  gif t19 false
  (cal P f_tape_Tape_Truncate [t14, t0] w fun t23 w =>
  bi BinOp.neq t23 (Value.int IntKind.i64 2) fun t24 =>
  k1 t24 w)
  (k1 undef w)) fun _ t24_1 w =>
  pik t19 (Value.bool true) t24_1 fun t25 =>
  jn1 (fun k2 =>
  gif t25 false
  (cal P f_tape_Tape_Arm [t14, t0] w fun t29 w =>
  bi BinOp.neq t29 (Value.int IntKind.i64 2) fun t30 =>
  k2 t30 w)
  (k2 undef w)) fun _ t30_1 w =>
  pik t25 (Value.bool true) t30_1 fun t31 =>
  jn1 (fun k3 =>
  gif t31 false
  (cal P f_tape_Tape_Calm [t14] w fun t34 w =>
  bi BinOp.neq t34 (Value.int IntKind.i64 2) fun t35 =>
  k3 t35 w)
  (k3 undef w)) fun _ t35_1 w =>
  pik t31 (Value.bool true) t35_1 fun t36 =>
  jn1 (fun k4 =>
  gif t36 false
  (cal P f_tape_Tape_Crash [t14] w fun t39 w =>
  bi BinOp.neq t39 (Value.int IntKind.i64 2) fun t40 =>
  k4 t40 w)
  (k4 undef w)) fun _ t40_1 w =>
  pik t36 (Value.bool true) t40_1 fun t41 =>
  jn1 (fun k5 =>
  gif t41 false
  (cal P f_tape_Tape_Restart [t14] w fun t44 w =>
  bi BinOp.neq t44 (Value.int IntKind.i64 2) fun t45 =>
  k5 t45 w)
  (k5 undef w)) fun _ t45_1 w =>
  pik t41 (Value.bool true) t45_1 fun t46 =>
  jn1 (fun k6 =>
  gif t46 false
  (cal P f_tape_Tape_On [t14] w fun t49 w =>
  k6 t49 w)
  (k6 undef w)) fun _ t49_1 w =>
  pik t46 (Value.bool true) t49_1 fun t50 =>
  jn1 (fun k7 =>
  gif t50 false
  (cal P f_tape_Tape_Bytes [t14] w fun t53 w =>
  lenS t53 fun t54 =>
  bi BinOp.neq t54 (Value.int IntKind.i64 0) fun t55 =>
  k7 t55 w)
  (k7 undef w)) fun _ t55_1 w =>
  pik t50 (Value.bool true) t55_1 fun t56 =>
  jn1 (fun k8 =>
  gif t56 false
  (cal P f_tape_Tape_Len [t14] w fun t59 w =>
  bi BinOp.neq t59 (Value.int IntKind.i64 0) fun t60 =>
  k8 t60 w)
  (k8 undef w)) fun _ t60_1 w =>
  pik t56 (Value.bool true) t60_1 fun t61 =>
  jn1 (fun k9 =>
  gif t61 false
  (cal P f_tape_Tape_Clone [t14] w fun t64 w =>
  nilP true t64 fun t65 =>
  k9 t65 w)
  (k9 undef w)) fun _ t65_1 w =>
  pik t61 (Value.bool true) t65_1 fun t66 =>
  cnd t66
  (R (Value.bool false) w)
  (bi BinOp.add t11 (Value.int IntKind.i64 1) fun t67 =>
  again0 t67 w))
  (cal P f_law08_begun [] w fun t68 w =>
  R t68 w)
theorem e_law08_TapeNone (t0 t1 : Value) (w : World) (R : Value → World → Prop) : intp P A_law08_TapeNone (bodyOf Try.f5) (ini [t0, t1]) w (retK P Try.f5.results.toList R) (fun _ _ _ => False) (retK P Try.f5.results.toList R) = c_law08_TapeNone t0 t1 w R := by kernel_rfl
theorem k_law08_TapeNone : chk P Try.f5.ntmps A_law08_TapeNone (bodyOf Try.f5) = true := by kernel_rfl
theorem l_law08_TapeNone {t0 t1 : Value} {w : World} {R : Value → World → Prop} (h : c_law08_TapeNone t0 t1 w R) : cal P f_law08_TapeNone [t0, t1] w R :=
  calls_of mixed Try.func5 rfl (by kernel_rfl) k_law08_TapeNone (Eq.mpr (e_law08_TapeNone t0 t1 w R) h)
theorem s_law08_TapeNone {t0 t1 : Value} {w : World} {Q : Value → World → Prop} (h : ∀ R : Value → World → Prop, (∀ v w', Q v w' → R v w') → c_law08_TapeNone t0 t1 w R) : cal P f_law08_TapeNone [t0, t1] w Q := l_law08_TapeNone (h Q fun _ _ h => h)

/-- flurry/flurrylaw08.TapeKeeps -/
def A_law08_TapeKeeps : An := (An.s (An.r []) (An.s (An.r []) (An.s (An.r []) (An.s (An.s (An.r [[23], [27]]) (An.s (An.s (An.r [[32]]) An.o) An.o)) (An.s (An.r []) (An.s (An.s (An.r []) (An.b (An.l [6, 36] (An.s (An.r []) (An.s (An.s An.o An.o) (An.s (An.b (An.s (An.r []) (An.s (An.j [6] (An.s (An.r []) (An.b (An.s (An.r []) (An.s (An.s (An.r []) (An.s (An.r []) (An.s (An.r []) (An.s (An.s (An.r [[65]]) (An.s (An.s (An.r []) An.o) An.o)) (An.s (An.r []) (An.s (An.s (An.r [[78], [83], [84], [89], [92], [94], [99], [100]]) (An.s (An.s (An.r []) An.o) An.o)) (An.r []))))))) (An.s (An.r []) (An.s (An.s (An.r []) (An.s (An.s (An.s (An.r [[118]]) (An.s (An.s (An.r []) An.o) An.o)) (An.r [])) An.o)) (An.s (An.r []) (An.s (An.r []) (An.s (An.r []) (An.s (An.r []) (An.s (An.r []) (An.s (An.r []) An.o))))))))))))) (An.s (An.r []) (An.s (An.s (An.r []) An.o) An.o))))) (An.r []))))))) (An.s (An.r []) An.o)))))))
def c_law08_TapeKeeps (t0 : Value) (w : World) (R : Value → World → Prop) : Prop :=
  cal P f_law08_few [t0] w fun t15 w =>
  ext 0 t15 fun t16 =>
  ext 1 t15 fun t17 =>
  cal P f_tape_New [] w fun t18 w =>
  cal P f_law08_begun [] w fun t19 w =>
  notB t19 fun t20 =>
  jn1 (fun k0 =>
  gif t20 false
  (notB t17 fun t23 =>
  k0 t23 w)
  (k0 undef w)) fun _ t23_1 w =>
  pik t20 (Value.bool true) t23_1 fun t24 =>
  jn1 (fun k1 =>
  gif t24 false
  (nilP false t18 fun t27 =>
  k1 t27 w)
  (k1 undef w)) fun _ t27_1 w =>
  pik t24 (Value.bool true) t27_1 fun t28 =>
  cnd t28
  (cal P f_law08_begun [] w fun t29 w =>
  jn1 (fun k2 =>
  gif t29 true
  (nilP true t18 fun t32 =>
  k2 t32 w)
  (k2 undef w)) fun _ t32_1 w =>
  pik t29 t32_1 (Value.bool false) fun t33 =>
  R t33 w)
  (lenS t16 fun t35 =>
  lp2 (Value.slice none 0 0) (Value.int IntKind.i64 0) w fun _ t6 t36 w again3 =>
  bi BinOp.lss t36 t35 fun t37 =>
  cnd t37
  (ixs 3 t16 t36 fun t38 =>
  ldN 3 t38 w.heap fun t39 =>
  efP P (Instr.alloc T_flurrylaw08_Op true (.tuple #[])) w fun t8 w =>
  stN 3 t8 t39 w fun w =>
  jn1 (fun k4 =>
  fad 0 t8 fun t40 =>
  ld1 t40 w.heap fun t41 =>
  bi BinOp.eql t41 (Value.int IntKind.i64 0) fun t43 =>
  cnd t43
  (fad 2 t8 fun t44 =>
  ld1 t44 w.heap fun t45 =>
  cal P f_bytes_Join [t45, (Value.slice none 0 0)] w fun t46 w =>
  fad 2 t8 fun t48 =>
  ld1 t48 w.heap fun t49 =>
  cal P f_tape_Tape_Append [t18, t49] w fun t50 w =>
  cal P f_tape_Tape_Bytes [t18] w fun t52 w =>
  lenS t52 fun t54 =>
  lenS t6 fun t56 =>
  bi BinOp.lss t54 t56 fun t57 =>
  jn1 (fun k5 =>
  gif t57 false
  (lenS t6 fun t61 =>
  slc 1 t52 none (some t61) fun t62 =>
  cal P f_bytes_Equal [t62, t6] w fun t64 w =>
  notB t64 fun t65 =>
  k5 t65 w)
  (k5 undef w)) fun _ t65_1 w =>
  pik t57 (Value.bool true) t65_1 fun t66 =>
  cnd t66
  (R (Value.bool false) w)
  (lenS t6 fun t69 =>
  slc 1 t52 (some t69) none fun t70 =>
  cal P f_bytes_HasPrefix [t46, t70] w fun t73 w =>
  notB t73 fun t74 =>
  jn1 (fun k6 =>
  gif t74 false
  (bi BinOp.eql t50 (Value.int IntKind.i64 0) fun t77 =>
  k6 t77 w)
  (k6 undef w)) fun _ t78 w =>
  jn1 (fun k7 =>
  gif t78 true
  (lenS t70 fun t80 =>
  lenS t46 fun t82 =>
  bi BinOp.neq t80 t82 fun t83 =>
  k7 t83 w)
  (k7 undef w)) fun _ t83_1 w =>
  jn1 (fun k8 =>
  gif t74 false
  (pik t78 t83_1 (Value.bool false) fun t84 =>
  k8 t84 w)
  (k8 undef w)) fun _ t84_1 w =>
  pik t74 (Value.bool true) t84_1 fun t85 =>
  jn1 (fun k9 =>
  gif t85 false
  (bi BinOp.eql t50 (Value.int IntKind.i64 5) fun t88 =>
  k9 t88 w)
  (k9 undef w)) fun _ t89 w =>
  jn1 (fun k10 =>
  gif t89 true
  (lenS t46 fun t91 =>
  bi BinOp.gtr t91 (Value.int IntKind.i64 0) fun t92 =>
  k10 t92 w)
  (k10 undef w)) fun _ t92_1 w =>
  jn1 (fun k11 =>
  gif t85 false
  (pik t89 t92_1 (Value.bool false) fun t93 =>
  k11 t93 w)
  (k11 undef w)) fun _ t94 w =>
  jn1 (fun k12 =>
  gif t94 true
  (lenS t70 fun t96 =>
  lenS t46 fun t98 =>
  bi BinOp.eql t96 t98 fun t99 =>
  k12 t99 w)
  (k12 undef w)) fun _ t99_1 w =>
  jn1 (fun k13 =>
  gif t85 false
  (pik t94 t99_1 (Value.bool false) fun t100 =>
  k13 t100 w)
  (k13 undef w)) fun _ t100_1 w =>
  pik t85 (Value.bool true) t100_1 fun t101 =>
  cnd t101
  (R (Value.bool false) w)
  (k4 t52 w)))
  (bi BinOp.eql t41 (Value.int IntKind.i64 1) fun t104 =>
  cnd t104
  (fad 1 t8 fun t106 =>
  ld1 t106 w.heap fun t107 =>
  cal P f_tape_Tape_Truncate [t18, t107] w fun t108 w =>
  bi BinOp.eql t108 (Value.int IntKind.i64 0) fun t109 =>
  cnd t109
  (fad 1 t8 fun t110 =>
  ld1 t110 w.heap fun t111 =>
  bi BinOp.lss t111 (Value.int IntKind.i64 0) fun t112 =>
  jn1 (fun k14 =>
  gif t112 false
  (fad 1 t8 fun t114 =>
  ld1 t114 w.heap fun t115 =>
  lenS t6 fun t117 =>
  bi BinOp.gtr t115 t117 fun t118 =>
  k14 t118 w)
  (k14 undef w)) fun _ t118_1 w =>
  pik t112 (Value.bool true) t118_1 fun t119 =>
  cnd t119
  (R (Value.bool false) w)
  (fad 1 t8 fun t121 =>
  ld1 t121 w.heap fun t122 =>
  slc 1 t6 none (some t122) fun t123 =>
  k4 t123 w))
  (k4 t6 w))
  (bi BinOp.eql t41 (Value.int IntKind.i64 2) fun t125 =>
  cnd t125
  (fad 1 t8 fun t127 =>
  ld1 t127 w.heap fun t128 =>
  cal P f_tape_Tape_Arm [t18, t128] w fun t129 w =>
  k4 t6 w)
  (bi BinOp.eql t41 (Value.int IntKind.i64 4) fun t131 =>
  cnd t131
  (cal P f_tape_Tape_Crash [t18] w fun t133 w =>
  k4 t6 w)
  (bi BinOp.eql t41 (Value.int IntKind.i64 5) fun t135 =>
  cnd t135
  (cal P f_tape_Tape_Restart [t18] w fun t137 w =>
  k4 t6 w)
  (k4 t6 w)))))) fun _ t6_1 w =>
  cal P f_tape_Tape_Bytes [t18] w fun t139 w =>
  cal P f_bytes_Equal [t139, t6_1] w fun t141 w =>
  notB t141 fun t142 =>
  cnd t142
  (R (Value.bool false) w)
  (bi BinOp.add t36 (Value.int IntKind.i64 1) fun t143 =>
  again3 t6_1 t143 w))
  (R (Value.bool true) w))
theorem e_law08_TapeKeeps (t0 : Value) (w : World) (R : Value → World → Prop) : intp P A_law08_TapeKeeps (bodyOf Try.f6) (ini [t0]) w (retK P Try.f6.results.toList R) (fun _ _ _ => False) (retK P Try.f6.results.toList R) = c_law08_TapeKeeps t0 w R := by kernel_rfl
theorem k_law08_TapeKeeps : chk P Try.f6.ntmps A_law08_TapeKeeps (bodyOf Try.f6) = true := by kernel_rfl
theorem l_law08_TapeKeeps {t0 : Value} {w : World} {R : Value → World → Prop} (h : c_law08_TapeKeeps t0 w R) : cal P f_law08_TapeKeeps [t0] w R :=
  calls_of mixed Try.func6 rfl (by kernel_rfl) k_law08_TapeKeeps (Eq.mpr (e_law08_TapeKeeps t0 w R) h)
theorem s_law08_TapeKeeps {t0 : Value} {w : World} {Q : Value → World → Prop} (h : ∀ R : Value → World → Prop, (∀ v w', Q v w' → R v w') → c_law08_TapeKeeps t0 w R) : cal P f_law08_TapeKeeps [t0] w Q := l_law08_TapeKeeps (h Q fun _ _ h => h)

/-- flurry/flurrylaw08.TapeDoes -/
def A_law08_TapeDoes : An := (An.s (An.r []) (An.s (An.r []) (An.s (An.s (An.r [[25], [30]]) (An.s (An.s (An.r []) An.o) An.o)) (An.s (An.r []) (An.s (An.r []) (An.s (An.r []) (An.s (An.s (An.r [[50], [54]]) (An.s (An.s (An.r []) An.o) An.o)) (An.s (An.s (An.r []) (An.b (An.l [58] (An.s (An.r []) (An.s (An.s An.o An.o) (An.s (An.b (An.s (An.r []) (An.r []))) (An.r []))))))) (An.s (An.s (An.r []) (An.b (An.l [8, 70] (An.s (An.r []) (An.s (An.s An.o An.o) (An.s (An.j [8] (An.b (An.s (An.r []) (An.s (An.s (An.r [[83]]) (An.s (An.s (An.r []) An.o) An.o)) (An.s (An.s (An.r []) (An.s An.o An.o)) (An.s (An.r []) (An.s (An.s (An.r [[96]]) (An.s (An.s (An.r []) An.o) An.o)) (An.s (An.r []) (An.s (An.r []) (An.r [])))))))))) (An.r []))))))) (An.s (An.r []) An.o))))))))))
def c_law08_TapeDoes (t0 t1 : Value) (w : World) (R : Value → World → Prop) : Prop :=
  cal P f_law08_few [t1] w fun t18 w =>
  ext 0 t18 fun t19 =>
  ext 1 t18 fun t20 =>
  cal P f_law08_begun [] w fun t21 w =>
  notB t21 fun t22 =>
  jn1 (fun k0 =>
  gif t22 false
  (notB t20 fun t25 =>
  k0 t25 w)
  (k0 undef w)) fun _ t25_1 w =>
  pik t22 (Value.bool true) t25_1 fun t26 =>
  jn1 (fun k1 =>
  gif t26 false
  (lenS t0 fun t29 =>
  bi BinOp.gtr t29 (Value.int IntKind.i64 1000) fun t30 =>
  k1 t30 w)
  (k1 undef w)) fun _ t30_1 w =>
  pik t26 (Value.bool true) t30_1 fun t31 =>
  cnd t31
  (cal P f_law08_begun [] w fun t32 w =>
  R t32 w)
  (cal P f_bytes_Clone [t0] w fun t34 w =>
  cal P f_tape_Of [t34] w fun t37 w =>
  ext 0 t37 fun t38 =>
  ext 1 t37 fun t39 =>
  cal P f_ref08_Of [t0] w fun t42 w =>
  ext 0 t42 fun t43 =>
  ext 1 t42 fun t44 =>
  bi BinOp.neq t39 t44 fun t47 =>
  jn1 (fun k2 =>
  gif t47 false
  (nilP false t38 fun t50 =>
  k2 t50 w)
  (k2 undef w)) fun _ t50_1 w =>
  pik t47 (Value.bool true) t50_1 fun t51 =>
  jn1 (fun k3 =>
  gif t51 false
  (nilP false t43 fun t54 =>
  k3 t54 w)
  (k3 undef w)) fun _ t54_1 w =>
  pik t51 (Value.bool true) t54_1 fun t55 =>
  cnd t55
  (R (Value.bool false) w)
  (lenS t34 fun t57 =>
  lp1 (Value.int IntKind.i64 0) w fun _ t58 w again4 =>
  bi BinOp.lss t58 t57 fun t59 =>
  cnd t59
  (ixs 1 t34 t58 fun t63 =>
  ld1 t63 w.heap fun t64 =>
  bi BinOp.xor t64 (Value.int IntKind.u8 255) fun t65 =>
  ixs 1 t34 t58 fun t66 =>
  st1 t66 t65 w fun w =>
  bi BinOp.add t58 (Value.int IntKind.i64 1) fun t67 =>
  again4 t67 w)
  (lenS t19 fun t69 =>
  lp2 t38 (Value.int IntKind.i64 0) w fun _ t8 t70 w again5 =>
  bi BinOp.lss t70 t69 fun t71 =>
  cnd t71
  (jn1 (fun k6 =>
  ixs 3 t19 t70 fun t72 =>
  ldN 3 t72 w.heap fun t73 =>
  efP P (Instr.alloc T_flurrylaw08_Op true (.tuple #[])) w fun t14 w =>
  stN 3 t14 t73 w fun w =>
  ldN 3 t14 w.heap fun t76 =>
  cal P f_law08_does [t8, t43, t76] w fun t77 w =>
  notB t77 fun t78 =>
  jn1 (fun k7 =>
  gif t78 false
  (cal P f_law08_same [t8, t43] w fun t82 w =>
  notB t82 fun t83 =>
  k7 t83 w)
  (k7 undef w)) fun _ t83_1 w =>
  pik t78 (Value.bool true) t83_1 fun t84 =>
  cnd t84
  (R (Value.bool false) w)
  (fad 0 t14 fun t85 =>
  ld1 t85 w.heap fun t86 =>
  bi BinOp.neq t86 (Value.int IntKind.i64 6) fun t87 =>
  cnd t87
  (k6 t8 w)
  (cal P f_tape_Tape_Clone [t8] w fun t89 w =>
  nilP false t89 fun t91 =>
  jn1 (fun k8 =>
  gif t91 false
  (cal P f_law08_same [t89, t43] w fun t95 w =>
  notB t95 fun t96 =>
  k8 t96 w)
  (k8 undef w)) fun _ t96_1 w =>
  pik t91 (Value.bool true) t96_1 fun t97 =>
  cnd t97
  (R (Value.bool false) w)
  (efP P (Instr.buildSlice T_sl_uint8 3 #[(0, (Value.int IntKind.u8 1)), (1, (Value.int IntKind.u8 2)), (2, (Value.int IntKind.u8 3))]) w fun t99 w =>
  efP P (Instr.buildSlice T_sl_sl_uint8 1 #[(0, t99)]) w fun t100 w =>
  cal P f_tape_Tape_Append [t8, t100] w fun t101 w =>
  cal P f_tape_Tape_Crash [t8] w fun t103 w =>
  k6 t89 w)))) fun _ t8_1 w =>
  bi BinOp.add t70 (Value.int IntKind.i64 1) fun t105 =>
  again5 t8_1 t105 w)
  (cal P f_law08_same [t8, t43] w fun t108 w =>
  R t108 w))))
theorem e_law08_TapeDoes (t0 t1 : Value) (w : World) (R : Value → World → Prop) : intp P A_law08_TapeDoes (bodyOf Try.f7) (ini [t0, t1]) w (retK P Try.f7.results.toList R) (fun _ _ _ => False) (retK P Try.f7.results.toList R) = c_law08_TapeDoes t0 t1 w R := by kernel_rfl
theorem k_law08_TapeDoes : chk P Try.f7.ntmps A_law08_TapeDoes (bodyOf Try.f7) = true := by kernel_rfl
theorem l_law08_TapeDoes {t0 t1 : Value} {w : World} {R : Value → World → Prop} (h : c_law08_TapeDoes t0 t1 w R) : cal P f_law08_TapeDoes [t0, t1] w R :=
  calls_of mixed Try.func7 rfl (by kernel_rfl) k_law08_TapeDoes (Eq.mpr (e_law08_TapeDoes t0 t1 w R) h)
theorem s_law08_TapeDoes {t0 t1 : Value} {w : World} {Q : Value → World → Prop} (h : ∀ R : Value → World → Prop, (∀ v w', Q v w' → R v w') → c_law08_TapeDoes t0 t1 w R) : cal P f_law08_TapeDoes [t0, t1] w Q := l_law08_TapeDoes (h Q fun _ _ h => h)

/-- flurry/tape.Of -/
def A_tape_Of : An := (An.s (An.r []) (An.s (An.s (An.r []) (An.s (An.s (An.r []) An.o) An.o)) (An.s (An.r []) (An.s (An.r []) (An.s (An.r []) An.o)))))
def c_tape_Of (t0 : Value) (w : World) (R : Value → World → Prop) : Prop :=
  lenS t0 fun t6 =>
  bi BinOp.gtr t6 (Value.int IntKind.i64 262144) fun t7 =>
  cnd t7
  (R (Value.tuple #[(Value.pointer none), (Value.int IntKind.i64 3)]) w)
  (cal P f_tape_New [] w fun t8 w =>
  cal P f_tape_told [t0] w fun t11 w =>
  nilc t8 fun t12 =>
  fad 0 t12 fun t13 =>
  st1 t13 t11 w fun w =>
  R (Value.tuple #[t8, (Value.int IntKind.i64 0)]) w)
theorem e_tape_Of (t0 : Value) (w : World) (R : Value → World → Prop) : intp P A_tape_Of (bodyOf Try.f8) (ini [t0]) w (retK P Try.f8.results.toList R) (fun _ _ _ => False) (retK P Try.f8.results.toList R) = c_tape_Of t0 w R := by kernel_rfl
theorem k_tape_Of : chk P Try.f8.ntmps A_tape_Of (bodyOf Try.f8) = true := by kernel_rfl
theorem l_tape_Of {t0 : Value} {w : World} {R : Value → World → Prop} (h : c_tape_Of t0 w R) : cal P f_tape_Of [t0] w R :=
  calls_of mixed Try.func8 rfl (by kernel_rfl) k_tape_Of (Eq.mpr (e_tape_Of t0 w R) h)
theorem s_tape_Of {t0 : Value} {w : World} {Q : Value → World → Prop} (h : ∀ R : Value → World → Prop, (∀ v w', Q v w' → R v w') → c_tape_Of t0 w R) : cal P f_tape_Of [t0] w Q := l_tape_Of (h Q fun _ _ h => h)

/-- flurry/flurrylaw08.begun -/
def A_law08_begun : An := (An.s (An.r []) (An.s (An.r []) (An.s (An.r [[7], [12], [20], [25], [31]]) An.o)))
def c_law08_begun (w : World) (R : Value → World → Prop) : Prop :=
  cal P f_tape_New [] w fun t2 w =>
  nilP true t2 fun t4 =>
  jn1 (fun k0 =>
  gif t4 true
  (cal P f_tape_Tape_On [t2] w fun t7 w =>
  k0 t7 w)
  (k0 undef w)) fun _ t7_1 w =>
  pik t4 t7_1 (Value.bool false) fun t8 =>
  jn1 (fun k1 =>
  gif t8 true
  (cal P f_tape_Tape_Arm [t2, (Value.int IntKind.i64 3)] w fun t11 w =>
  bi BinOp.eql t11 (Value.int IntKind.i64 0) fun t12 =>
  k1 t12 w)
  (k1 undef w)) fun _ t12_1 w =>
  pik t8 t12_1 (Value.bool false) fun t13 =>
  jn1 (fun k2 =>
  gif t13 true
  (efP P (Instr.buildSlice T_sl_uint8 2 #[(0, (Value.int IntKind.u8 1)), (1, (Value.int IntKind.u8 2))]) w fun t16 w =>
  efP P (Instr.buildSlice T_sl_uint8 3 #[(0, (Value.int IntKind.u8 3)), (1, (Value.int IntKind.u8 4)), (2, (Value.int IntKind.u8 5))]) w fun t17 w =>
  efP P (Instr.buildSlice T_sl_sl_uint8 2 #[(0, t16), (1, t17)]) w fun t18 w =>
  cal P f_tape_Tape_Append [t2, t18] w fun t19 w =>
  bi BinOp.eql t19 (Value.int IntKind.i64 5) fun t20 =>
  k2 t20 w)
  (k2 undef w)) fun _ t20_1 w =>
  pik t13 t20_1 (Value.bool false) fun t21 =>
  jn1 (fun k3 =>
  gif t21 true
  (cal P f_tape_Tape_On [t2] w fun t24 w =>
  notB t24 fun t25 =>
  k3 t25 w)
  (k3 undef w)) fun _ t25_1 w =>
  pik t21 t25_1 (Value.bool false) fun t26 =>
  jn1 (fun k4 =>
  gif t26 true
  (cal P f_tape_Tape_Bytes [t2] w fun t29 w =>
  efP P (Instr.buildSlice T_sl_uint8 3 #[(0, (Value.int IntKind.u8 1)), (1, (Value.int IntKind.u8 2)), (2, (Value.int IntKind.u8 3))]) w fun t30 w =>
  cal P f_bytes_Equal [t29, t30] w fun t31 w =>
  k4 t31 w)
  (k4 undef w)) fun _ t31_1 w =>
  pik t26 t31_1 (Value.bool false) fun t32 =>
  R t32 w
theorem e_law08_begun (w : World) (R : Value → World → Prop) : intp P A_law08_begun (bodyOf Try.f9) (ini []) w (retK P Try.f9.results.toList R) (fun _ _ _ => False) (retK P Try.f9.results.toList R) = c_law08_begun  w R := by kernel_rfl
theorem k_law08_begun : chk P Try.f9.ntmps A_law08_begun (bodyOf Try.f9) = true := by kernel_rfl
theorem l_law08_begun {w : World} {R : Value → World → Prop} (h : c_law08_begun w R) : cal P f_law08_begun [] w R :=
  calls_of mixed Try.func9 rfl (by kernel_rfl) k_law08_begun (Eq.mpr (e_law08_begun w R) h)
theorem s_law08_begun {w : World} {Q : Value → World → Prop} (h : ∀ R : Value → World → Prop, (∀ v w', Q v w' → R v w') → c_law08_begun w R) : cal P f_law08_begun [] w Q := l_law08_begun (h Q fun _ _ h => h)

/-- (*flurry/tape.Tape).Append -/
def A_tape_Tape_Append : An := (An.s (An.r []) (An.s (An.s (An.r []) (An.s (An.r []) (An.s (An.s (An.r []) An.o) An.o))) (An.s (An.r []) (An.s (An.s (An.r []) (An.b (An.l [6, 25] (An.s (An.r []) (An.s (An.s An.o An.o) (An.s (An.b (An.s (An.r []) (An.s (An.s (An.r []) (An.s (An.s (An.r []) An.o) An.o)) (An.r [])))) (An.r []))))))) (An.s (An.s (An.r []) (An.b (An.l [40] (An.s (An.r []) (An.s (An.s An.o An.o) (An.s (An.b (An.s (An.r []) (An.s (An.r []) (An.s (An.j [11] (An.s (An.r []) (An.s (An.s (An.r []) (An.r [])) An.o))) (An.s (An.dc [0, 1, 2, 3, 4, 5, 6, 7, 8, 9, 10, 11] [8, 11] []) (An.s (An.r []) (An.s (An.s (An.r []) (An.s (An.r []) An.o)) An.o))))))) (An.r []))))))) (An.s (An.r []) An.o))))))
def c_tape_Tape_Append (t0 t1 : Value) (w : World) (R : Value → World → Prop) : Prop :=
  cal P f_tape_Tape_may [t0] w fun t13 w =>
  bi BinOp.neq t13 (Value.int IntKind.i64 0) fun t15 =>
  cnd t15
  (R t13 w)
  (nilc t0 fun t18 =>
  fad 0 t18 fun t19 =>
  ld1 t19 w.heap fun t20 =>
  lenS t20 fun t21 =>
  bi BinOp.sub (Value.int IntKind.i64 262144) t21 fun t22 =>
  lenS t1 fun t24 =>
  lp2 t22 (Value.int IntKind.i64 0) w fun _ t6 t25 w again0 =>
  bi BinOp.lss t25 t24 fun t26 =>
  cnd t26
  (ixs 1 t1 t25 fun t27 =>
  ld1 t27 w.heap fun t28 =>
  lenS t28 fun t30 =>
  bi BinOp.gtr t30 t6 fun t32 =>
  cnd t32
  (R (Value.int IntKind.i64 6) w)
  (lenS t28 fun t35 =>
  bi BinOp.sub t6 t35 fun t36 =>
  bi BinOp.add t25 (Value.int IntKind.i64 1) fun t37 =>
  again0 t36 t37 w))
  (lenS t1 fun t39 =>
  lp1 (Value.int IntKind.i64 0) w fun _ t40 w again1 =>
  bi BinOp.lss t40 t39 fun t41 =>
  cnd t41
  (ixs 1 t1 t40 fun t42 =>
  ld1 t42 w.heap fun t43 =>
  lenS t43 fun t45 =>
  jn1 (fun k2 =>
  nilc t0 fun t47 =>
  fad 1 t47 fun t48 =>
  ld1 t48 w.heap fun t49 =>
  bi BinOp.neq t49 (Value.int IntKind.i64 (-1)) fun t50 =>
  cnd t50
  (nilc t0 fun t53 =>
  fad 1 t53 fun t54 =>
  ld1 t54 w.heap fun t55 =>
  rdP P (Builtin.min_ #[T_int, T_int] T_int #[t45, t55]) w fun t56 =>
  nilc t0 fun t58 =>
  fad 1 t58 fun t59 =>
  ld1 t59 w.heap fun t60 =>
  bi BinOp.sub t60 t56 fun t62 =>
  nilc t0 fun t63 =>
  fad 1 t63 fun t64 =>
  st1 t64 t62 w fun w =>
  k2 t56 w)
  (k2 t45 w)) fun _ t11 w =>
  drH w fun S w =>
  nilc t0 fun t67 =>
  fad 0 t67 fun t68 =>
  rdS S (fun w => ld1 t68 w.heap) fun t69 =>
  slc 1 t43 none (some t11) fun t72 =>
  efC (efP P (Builtin.append_ #[T_sl_uint8, T_sl_uint8] T_sl_uint8 #[t69, t72])) w fun S t73 w =>
  nilc t0 fun t74 =>
  fad 0 t74 fun t75 =>
  efC (fun w K => st1 t75 t73 w (K undef)) w fun S _ w =>
  lenS t43 fun t78 =>
  bi BinOp.lss t11 t78 fun t79 =>
  cnd t79
  (cal P f_tape_Tape_goes [t0] w fun t81 w =>
  R (Value.int IntKind.i64 5) w)
  (bi BinOp.add t40 (Value.int IntKind.i64 1) fun t82 =>
  again1 t82 w))
  (R (Value.int IntKind.i64 0) w)))
theorem e_tape_Tape_Append (t0 t1 : Value) (w : World) (R : Value → World → Prop) : intp P A_tape_Tape_Append (bodyOf Try.f10) (ini [t0, t1]) w (retK P Try.f10.results.toList R) (fun _ _ _ => False) (retK P Try.f10.results.toList R) = c_tape_Tape_Append t0 t1 w R := by kernel_rfl
theorem k_tape_Tape_Append : chk P Try.f10.ntmps A_tape_Tape_Append (bodyOf Try.f10) = true := by kernel_rfl
theorem l_tape_Tape_Append {t0 t1 : Value} {w : World} {R : Value → World → Prop} (h : c_tape_Tape_Append t0 t1 w R) : cal P f_tape_Tape_Append [t0, t1] w R :=
  calls_of mixed Try.func10 rfl (by kernel_rfl) k_tape_Tape_Append (Eq.mpr (e_tape_Tape_Append t0 t1 w R) h)
theorem s_tape_Tape_Append {t0 t1 : Value} {w : World} {Q : Value → World → Prop} (h : ∀ R : Value → World → Prop, (∀ v w', Q v w' → R v w') → c_tape_Tape_Append t0 t1 w R) : cal P f_tape_Tape_Append [t0, t1] w Q := l_tape_Tape_Append (h Q fun _ _ h => h)

/-- (*flurry/tape.Tape).Len -/
def A_tape_Tape_Len : An := (An.s (An.r []) (An.s (An.s (An.r []) (An.s (An.s (An.r []) An.o) An.o)) (An.s (An.r []) An.o)))
def c_tape_Tape_Len (t0 : Value) (w : World) (R : Value → World → Prop) : Prop :=
  cal P f_tape_Tape_may [t0] w fun t4 w =>
  bi BinOp.eql t4 (Value.int IntKind.i64 2) fun t5 =>
  cnd t5
  (R (Value.int IntKind.i64 0) w)
  (nilc t0 fun t7 =>
  fad 0 t7 fun t8 =>
  ld1 t8 w.heap fun t9 =>
  lenS t9 fun t10 =>
  R t10 w)
theorem e_tape_Tape_Len (t0 : Value) (w : World) (R : Value → World → Prop) : intp P A_tape_Tape_Len (bodyOf Try.f11) (ini [t0]) w (retK P Try.f11.results.toList R) (fun _ _ _ => False) (retK P Try.f11.results.toList R) = c_tape_Tape_Len t0 w R := by kernel_rfl
theorem k_tape_Tape_Len : chk P Try.f11.ntmps A_tape_Tape_Len (bodyOf Try.f11) = true := by kernel_rfl
theorem l_tape_Tape_Len {t0 : Value} {w : World} {R : Value → World → Prop} (h : c_tape_Tape_Len t0 w R) : cal P f_tape_Tape_Len [t0] w R :=
  calls_of mixed Try.func11 rfl (by kernel_rfl) k_tape_Tape_Len (Eq.mpr (e_tape_Tape_Len t0 w R) h)
theorem s_tape_Tape_Len {t0 : Value} {w : World} {Q : Value → World → Prop} (h : ∀ R : Value → World → Prop, (∀ v w', Q v w' → R v w') → c_tape_Tape_Len t0 w R) : cal P f_tape_Tape_Len [t0] w Q := l_tape_Tape_Len (h Q fun _ _ h => h)

/-- (*flurry/tape.Tape).On -/
def A_tape_Tape_On : An := (An.s (An.r []) (An.s (An.r []) An.o))
def c_tape_Tape_On (t0 : Value) (w : World) (R : Value → World → Prop) : Prop :=
  cal P f_tape_Tape_may [t0] w fun t4 w =>
  bi BinOp.eql t4 (Value.int IntKind.i64 0) fun t5 =>
  R t5 w
theorem e_tape_Tape_On (t0 : Value) (w : World) (R : Value → World → Prop) : intp P A_tape_Tape_On (bodyOf Try.f12) (ini [t0]) w (retK P Try.f12.results.toList R) (fun _ _ _ => False) (retK P Try.f12.results.toList R) = c_tape_Tape_On t0 w R := by kernel_rfl
theorem k_tape_Tape_On : chk P Try.f12.ntmps A_tape_Tape_On (bodyOf Try.f12) = true := by kernel_rfl
theorem l_tape_Tape_On {t0 : Value} {w : World} {R : Value → World → Prop} (h : c_tape_Tape_On t0 w R) : cal P f_tape_Tape_On [t0] w R :=
  calls_of mixed Try.func12 rfl (by kernel_rfl) k_tape_Tape_On (Eq.mpr (e_tape_Tape_On t0 w R) h)
theorem s_tape_Tape_On {t0 : Value} {w : World} {Q : Value → World → Prop} (h : ∀ R : Value → World → Prop, (∀ v w', Q v w' → R v w') → c_tape_Tape_On t0 w R) : cal P f_tape_Tape_On [t0] w Q := l_tape_Tape_On (h Q fun _ _ h => h)

/-- bytes.Equal -/
def A_bytes_Equal : An := (An.s (An.r []) (An.s (An.r []) An.o))
def c_bytes_Equal (t0 t1 : Value) (w : World) (R : Value → World → Prop) : Prop :=
  rdP P (convert T_sl_uint8 T_string t0) w fun t6 =>
  rdP P (convert T_sl_uint8 T_string t1) w fun t8 =>
  rdP P (eqS BinOp.eql T_string (Operand.tmp 6) (Operand.tmp 8) t6 t8) w fun t9 =>
  R t9 w
theorem e_bytes_Equal (t0 t1 : Value) (w : World) (R : Value → World → Prop) : intp P A_bytes_Equal (bodyOf Try.f13) (ini [t0, t1]) w (retK P Try.f13.results.toList R) (fun _ _ _ => False) (retK P Try.f13.results.toList R) = c_bytes_Equal t0 t1 w R := by kernel_rfl
theorem k_bytes_Equal : chk P Try.f13.ntmps A_bytes_Equal (bodyOf Try.f13) = true := by kernel_rfl
theorem l_bytes_Equal {t0 t1 : Value} {w : World} {R : Value → World → Prop} (h : c_bytes_Equal t0 t1 w R) : cal P f_bytes_Equal [t0, t1] w R :=
  calls_of mixed Try.func13 rfl (by kernel_rfl) k_bytes_Equal (Eq.mpr (e_bytes_Equal t0 t1 w R) h)
theorem s_bytes_Equal {t0 t1 : Value} {w : World} {Q : Value → World → Prop} (h : ∀ R : Value → World → Prop, (∀ v w', Q v w' → R v w') → c_bytes_Equal t0 t1 w R) : cal P f_bytes_Equal [t0, t1] w Q := l_bytes_Equal (h Q fun _ _ h => h)

/-- (*flurry/tape.Tape).Bytes -/
def A_tape_Tape_Bytes : An := (An.s (An.r []) (An.s (An.s (An.r []) (An.s (An.s (An.r []) An.o) An.o)) (An.s (An.r []) An.o)))
def c_tape_Tape_Bytes (t0 : Value) (w : World) (R : Value → World → Prop) : Prop :=
  cal P f_tape_Tape_may [t0] w fun t4 w =>
  bi BinOp.eql t4 (Value.int IntKind.i64 2) fun t5 =>
  cnd t5
  (R (Value.slice none 0 0) w)
  (nilc t0 fun t7 =>
  fad 0 t7 fun t8 =>
  ld1 t8 w.heap fun t9 =>
  cal P f_tape_told [t9] w fun t10 w =>
  R t10 w)
theorem e_tape_Tape_Bytes (t0 : Value) (w : World) (R : Value → World → Prop) : intp P A_tape_Tape_Bytes (bodyOf Try.f14) (ini [t0]) w (retK P Try.f14.results.toList R) (fun _ _ _ => False) (retK P Try.f14.results.toList R) = c_tape_Tape_Bytes t0 w R := by kernel_rfl
theorem k_tape_Tape_Bytes : chk P Try.f14.ntmps A_tape_Tape_Bytes (bodyOf Try.f14) = true := by kernel_rfl
theorem l_tape_Tape_Bytes {t0 : Value} {w : World} {R : Value → World → Prop} (h : c_tape_Tape_Bytes t0 w R) : cal P f_tape_Tape_Bytes [t0] w R :=
  calls_of mixed Try.func14 rfl (by kernel_rfl) k_tape_Tape_Bytes (Eq.mpr (e_tape_Tape_Bytes t0 w R) h)
theorem s_tape_Tape_Bytes {t0 : Value} {w : World} {Q : Value → World → Prop} (h : ∀ R : Value → World → Prop, (∀ v w', Q v w' → R v w') → c_tape_Tape_Bytes t0 w R) : cal P f_tape_Tape_Bytes [t0] w Q := l_tape_Tape_Bytes (h Q fun _ _ h => h)

/-- flurry/tape.New -/
def A_tape_New : An := (An.s (An.r []) (An.s (An.r []) An.o))
def c_tape_New (w : World) (R : Value → World → Prop) : Prop :=
  rdP P (Instr.build T_tape_Tape #[(1, (Value.int IntKind.i64 (-1))), (3, (Value.bool true))]) w fun t1 =>
  bx T_tape_Tape t1 w fun t2 w =>
  R t2 w
theorem e_tape_New (w : World) (R : Value → World → Prop) : intp P A_tape_New (bodyOf Try.f15) (ini []) w (retK P Try.f15.results.toList R) (fun _ _ _ => False) (retK P Try.f15.results.toList R) = c_tape_New  w R := by kernel_rfl
theorem k_tape_New : chk P Try.f15.ntmps A_tape_New (bodyOf Try.f15) = true := by kernel_rfl
theorem l_tape_New {w : World} {R : Value → World → Prop} (h : c_tape_New w R) : cal P f_tape_New [] w R :=
  calls_of mixed Try.func15 rfl (by kernel_rfl) k_tape_New (Eq.mpr (e_tape_New w R) h)
theorem s_tape_New {w : World} {Q : Value → World → Prop} (h : ∀ R : Value → World → Prop, (∀ v w', Q v w' → R v w') → c_tape_New w R) : cal P f_tape_New [] w Q := l_tape_New (h Q fun _ _ h => h)

/-- (*flurry/tape.Tape).Arm -/
def A_tape_Tape_Arm : An := (An.s (An.r []) (An.s (An.s (An.r []) (An.s (An.r []) (An.s (An.s (An.r []) An.o) An.o))) (An.s (An.s (An.r []) (An.s (An.s (An.r []) An.o) An.o)) (An.s (An.r []) (An.s (An.r []) An.o)))))
def c_tape_Tape_Arm (t0 t1 : Value) (w : World) (R : Value → World → Prop) : Prop :=
  cal P f_tape_Tape_may [t0] w fun t7 w =>
  bi BinOp.neq t7 (Value.int IntKind.i64 0) fun t9 =>
  cnd t9
  (R t7 w)
  (bi BinOp.lss t1 (Value.int IntKind.i64 0) fun t12 =>
  cnd t12
  (R (Value.int IntKind.i64 1) w)
  (nilc t0 fun t15 =>
  fad 1 t15 fun t16 =>
  st1 t16 t1 w fun w =>
  R (Value.int IntKind.i64 0) w))
theorem e_tape_Tape_Arm (t0 t1 : Value) (w : World) (R : Value → World → Prop) : intp P A_tape_Tape_Arm (bodyOf Try.f16) (ini [t0, t1]) w (retK P Try.f16.results.toList R) (fun _ _ _ => False) (retK P Try.f16.results.toList R) = c_tape_Tape_Arm t0 t1 w R := by kernel_rfl
theorem k_tape_Tape_Arm : chk P Try.f16.ntmps A_tape_Tape_Arm (bodyOf Try.f16) = true := by kernel_rfl
theorem l_tape_Tape_Arm {t0 t1 : Value} {w : World} {R : Value → World → Prop} (h : c_tape_Tape_Arm t0 t1 w R) : cal P f_tape_Tape_Arm [t0, t1] w R :=
  calls_of mixed Try.func16 rfl (by kernel_rfl) k_tape_Tape_Arm (Eq.mpr (e_tape_Tape_Arm t0 t1 w R) h)
theorem s_tape_Tape_Arm {t0 t1 : Value} {w : World} {Q : Value → World → Prop} (h : ∀ R : Value → World → Prop, (∀ v w', Q v w' → R v w') → c_tape_Tape_Arm t0 t1 w R) : cal P f_tape_Tape_Arm [t0, t1] w Q := l_tape_Tape_Arm (h Q fun _ _ h => h)

/-- bytes.Join -/
def A_bytes_Join : An := (An.s (An.r []) (An.s (An.s (An.r []) (An.s (An.s (An.r []) An.o) An.o)) (An.s (An.s (An.r []) (An.s (An.s (An.r []) An.o) An.o)) (An.s (An.r []) (An.s (An.j [5] (An.s (An.r []) (An.s (An.s (An.j [] (An.s (An.r []) (An.s (An.r []) An.o))) (An.r [])) An.o))) (An.s (An.s (An.r []) (An.b (An.l [5, 44] (An.s (An.r []) (An.s (An.s An.o An.o) (An.s (An.b (An.s (An.r []) (An.s (An.j [] (An.s (An.r []) (An.s (An.r []) An.o))) (An.r [])))) (An.r []))))))) (An.s (An.r []) (An.s (An.r []) (An.s (An.s (An.r []) (An.b (An.l [9, 72] (An.s (An.r []) (An.s (An.s An.o An.o) (An.s (An.b (An.s (An.r []) (An.s (An.r []) (An.r [])))) (An.r []))))))) (An.s (An.r []) An.o))))))))))
def c_bytes_Join (t0 t1 : Value) (w : World) (R : Value → World → Prop) : Prop :=
  lenS t0 fun t13 =>
  bi BinOp.eql t13 (Value.int IntKind.i64 0) fun t14 =>
  cnd t14
  (efP P (Instr.buildSlice T_sl_uint8 0 #[]) w fun t15 w =>
  R t15 w)
  (lenS t0 fun t17 =>
  bi BinOp.eql t17 (Value.int IntKind.i64 1) fun t18 =>
  cnd t18
  (ixs 1 t0 (Value.int IntKind.i64 0) fun t20 =>
  ld1 t20 w.heap fun t21 =>
  efP P (Builtin.append_ #[T_sl_uint8, T_sl_uint8] T_sl_uint8 #[(Value.slice none 0 0), t21]) w fun t22 w =>
  R t22 w)
  (jn1 (fun k0 =>
  lenS t1 fun t24 =>
  bi BinOp.gtr t24 (Value.int IntKind.i64 0) fun t25 =>
  cnd t25
  (jn0 (fun k1 =>
  lenS t1 fun t27 =>
  lenS t0 fun t29 =>
  bi BinOp.sub t29 (Value.int IntKind.i64 1) fun t30 =>
  bi BinOp.quo (Value.int IntKind.i64 9223372036854775807) t30 fun t31 =>
  bi BinOp.geq t27 t31 fun t32 =>
  cnd t32
  (False)
  (k1 w)) fun _ w =>
  lenS t1 fun t36 =>
  lenS t0 fun t38 =>
  bi BinOp.sub t38 (Value.int IntKind.i64 1) fun t39 =>
  bi BinOp.mul t36 t39 fun t40 =>
  bi BinOp.add (Value.int IntKind.i64 0) t40 fun t41 =>
  k0 t41 w)
  (k0 (Value.int IntKind.i64 0) w)) fun _ t5 w =>
  lenS t0 fun t43 =>
  lp2 t5 (Value.int IntKind.i64 0) w fun _ t5_1 t44 w again2 =>
  bi BinOp.lss t44 t43 fun t45 =>
  cnd t45
  (ixs 1 t0 t44 fun t46 =>
  ld1 t46 w.heap fun t47 =>
  jn0 (fun k3 =>
  lenS t47 fun t49 =>
  bi BinOp.sub (Value.int IntKind.i64 9223372036854775807) t5_1 fun t51 =>
  bi BinOp.gtr t49 t51 fun t52 =>
  cnd t52
  (False)
  (k3 w)) fun _ w =>
  lenS t47 fun t56 =>
  bi BinOp.add t5_1 t56 fun t57 =>
  bi BinOp.add t44 (Value.int IntKind.i64 1) fun t58 =>
  again2 t57 t58 w)
  (efN P f_internal_bytealg_MakeNoZero [t5_1] w fun t60 w =>
  rdP P (Instr.sliceAt T_sl_uint8 t60 none (some t5_1) (some t5_1)) w fun t63 =>
  ixs 1 t0 (Value.int IntKind.i64 0) fun t66 =>
  ld1 t66 w.heap fun t67 =>
  efP P (Builtin.copy_ #[T_sl_uint8, T_sl_uint8] T_int #[t63, t67]) w fun t68 w =>
  slc 1 t0 (some (Value.int IntKind.i64 1)) none fun t70 =>
  lenS t70 fun t71 =>
  lp2 t68 (Value.int IntKind.i64 0) w fun _ t9 t72 w again4 =>
  bi BinOp.lss t72 t71 fun t73 =>
  cnd t73
  (ixs 1 t70 t72 fun t74 =>
  ld1 t74 w.heap fun t75 =>
  slc 1 t63 (some t9) none fun t79 =>
  efP P (Builtin.copy_ #[T_sl_uint8, T_sl_uint8] T_int #[t79, t1]) w fun t81 w =>
  bi BinOp.add t9 t81 fun t82 =>
  slc 1 t63 (some t82) none fun t86 =>
  efP P (Builtin.copy_ #[T_sl_uint8, T_sl_uint8] T_int #[t86, t75]) w fun t88 w =>
  bi BinOp.add t82 t88 fun t89 =>
  bi BinOp.add t72 (Value.int IntKind.i64 1) fun t90 =>
  again4 t89 t90 w)
  (R t63 w))))
theorem e_bytes_Join (t0 t1 : Value) (w : World) (R : Value → World → Prop) : intp P A_bytes_Join (bodyOf Try.f17) (ini [t0, t1]) w (retK P Try.f17.results.toList R) (fun _ _ _ => False) (retK P Try.f17.results.toList R) = c_bytes_Join t0 t1 w R := by kernel_rfl
theorem k_bytes_Join : chk P Try.f17.ntmps A_bytes_Join (bodyOf Try.f17) = true := by kernel_rfl
theorem l_bytes_Join {t0 t1 : Value} {w : World} {R : Value → World → Prop} (h : c_bytes_Join t0 t1 w R) : cal P f_bytes_Join [t0, t1] w R :=
  calls_of mixed Try.func17 rfl (by kernel_rfl) k_bytes_Join (Eq.mpr (e_bytes_Join t0 t1 w R) h)
theorem s_bytes_Join {t0 t1 : Value} {w : World} {Q : Value → World → Prop} (h : ∀ R : Value → World → Prop, (∀ v w', Q v w' → R v w') → c_bytes_Join t0 t1 w R) : cal P f_bytes_Join [t0, t1] w Q := l_bytes_Join (h Q fun _ _ h => h)

/-- (*flurry/tape.Tape).Truncate -/
def A_tape_Tape_Truncate : An := (An.s (An.r []) (An.s (An.s (An.r []) (An.s (An.r []) (An.s (An.s (An.r []) An.o) An.o))) (An.s (An.s (An.r [[20]]) (An.s (An.s (An.r []) An.o) An.o)) (An.s (An.r []) (An.s (An.r []) An.o)))))
def c_tape_Tape_Truncate (t0 t1 : Value) (w : World) (R : Value → World → Prop) : Prop :=
  cal P f_tape_Tape_may [t0] w fun t7 w =>
  bi BinOp.neq t7 (Value.int IntKind.i64 0) fun t9 =>
  cnd t9
  (R t7 w)
  (bi BinOp.lss t1 (Value.int IntKind.i64 0) fun t12 =>
  jn1 (fun k0 =>
  gif t12 false
  (nilc t0 fun t16 =>
  fad 0 t16 fun t17 =>
  ld1 t17 w.heap fun t18 =>
  lenS t18 fun t19 =>
  bi BinOp.gtr t1 t19 fun t20 =>
  k0 t20 w)
  (k0 undef w)) fun _ t20_1 w =>
  pik t12 (Value.bool true) t20_1 fun t21 =>
  cnd t21
  (R (Value.int IntKind.i64 1) w)
  (nilc t0 fun t24 =>
  fad 0 t24 fun t25 =>
  ld1 t25 w.heap fun t26 =>
  slc 1 t26 none (some t1) fun t28 =>
  cal P f_tape_told [t28] w fun t29 w =>
  nilc t0 fun t30 =>
  fad 0 t30 fun t31 =>
  st1 t31 t29 w fun w =>
  R (Value.int IntKind.i64 0) w))
theorem e_tape_Tape_Truncate (t0 t1 : Value) (w : World) (R : Value → World → Prop) : intp P A_tape_Tape_Truncate (bodyOf Try.f18) (ini [t0, t1]) w (retK P Try.f18.results.toList R) (fun _ _ _ => False) (retK P Try.f18.results.toList R) = c_tape_Tape_Truncate t0 t1 w R := by kernel_rfl
theorem k_tape_Tape_Truncate : chk P Try.f18.ntmps A_tape_Tape_Truncate (bodyOf Try.f18) = true := by kernel_rfl
theorem l_tape_Tape_Truncate {t0 t1 : Value} {w : World} {R : Value → World → Prop} (h : c_tape_Tape_Truncate t0 t1 w R) : cal P f_tape_Tape_Truncate [t0, t1] w R :=
  calls_of mixed Try.func18 rfl (by kernel_rfl) k_tape_Tape_Truncate (Eq.mpr (e_tape_Tape_Truncate t0 t1 w R) h)
theorem s_tape_Tape_Truncate {t0 t1 : Value} {w : World} {Q : Value → World → Prop} (h : ∀ R : Value → World → Prop, (∀ v w', Q v w' → R v w') → c_tape_Tape_Truncate t0 t1 w R) : cal P f_tape_Tape_Truncate [t0, t1] w Q := l_tape_Tape_Truncate (h Q fun _ _ h => h)

/-- (*flurry/tape.Tape).Calm -/
def A_tape_Tape_Calm : An := (An.s (An.r []) (An.s (An.r []) (An.s (An.s (An.r []) (An.s (An.r []) An.o)) (An.s (An.r []) An.o))))
def c_tape_Tape_Calm (t0 : Value) (w : World) (R : Value → World → Prop) : Prop :=
  cal P f_tape_Tape_may [t0] w fun t5 w =>
  bi BinOp.eql t5 (Value.int IntKind.i64 0) fun t7 =>
  cnd t7
  (nilc t0 fun t9 =>
  fad 1 t9 fun t10 =>
  st1 t10 (Value.int IntKind.i64 (-1)) w fun w =>
  R t5 w)
  (R t5 w)
theorem e_tape_Tape_Calm (t0 : Value) (w : World) (R : Value → World → Prop) : intp P A_tape_Tape_Calm (bodyOf Try.f19) (ini [t0]) w (retK P Try.f19.results.toList R) (fun _ _ _ => False) (retK P Try.f19.results.toList R) = c_tape_Tape_Calm t0 w R := by kernel_rfl
theorem k_tape_Tape_Calm : chk P Try.f19.ntmps A_tape_Tape_Calm (bodyOf Try.f19) = true := by kernel_rfl
theorem l_tape_Tape_Calm {t0 : Value} {w : World} {R : Value → World → Prop} (h : c_tape_Tape_Calm t0 w R) : cal P f_tape_Tape_Calm [t0] w R :=
  calls_of mixed Try.func19 rfl (by kernel_rfl) k_tape_Tape_Calm (Eq.mpr (e_tape_Tape_Calm t0 w R) h)
theorem s_tape_Tape_Calm {t0 : Value} {w : World} {Q : Value → World → Prop} (h : ∀ R : Value → World → Prop, (∀ v w', Q v w' → R v w') → c_tape_Tape_Calm t0 w R) : cal P f_tape_Tape_Calm [t0] w Q := l_tape_Tape_Calm (h Q fun _ _ h => h)

/-- (*flurry/tape.Tape).Crash -/
def A_tape_Tape_Crash : An := (An.s (An.r []) (An.s (An.r []) (An.s (An.s (An.r []) (An.s (An.r []) An.o)) (An.s (An.r []) An.o))))
def c_tape_Tape_Crash (t0 : Value) (w : World) (R : Value → World → Prop) : Prop :=
  cal P f_tape_Tape_may [t0] w fun t5 w =>
  bi BinOp.eql t5 (Value.int IntKind.i64 0) fun t7 =>
  cnd t7
  (cal P f_tape_Tape_goes [t0] w fun t9 w =>
  R t5 w)
  (R t5 w)
theorem e_tape_Tape_Crash (t0 : Value) (w : World) (R : Value → World → Prop) : intp P A_tape_Tape_Crash (bodyOf Try.f20) (ini [t0]) w (retK P Try.f20.results.toList R) (fun _ _ _ => False) (retK P Try.f20.results.toList R) = c_tape_Tape_Crash t0 w R := by kernel_rfl
theorem k_tape_Tape_Crash : chk P Try.f20.ntmps A_tape_Tape_Crash (bodyOf Try.f20) = true := by kernel_rfl
theorem l_tape_Tape_Crash {t0 : Value} {w : World} {R : Value → World → Prop} (h : c_tape_Tape_Crash t0 w R) : cal P f_tape_Tape_Crash [t0] w R :=
  calls_of mixed Try.func20 rfl (by kernel_rfl) k_tape_Tape_Crash (Eq.mpr (e_tape_Tape_Crash t0 w R) h)
theorem s_tape_Tape_Crash {t0 : Value} {w : World} {Q : Value → World → Prop} (h : ∀ R : Value → World → Prop, (∀ v w', Q v w' → R v w') → c_tape_Tape_Crash t0 w R) : cal P f_tape_Tape_Crash [t0] w Q := l_tape_Tape_Crash (h Q fun _ _ h => h)

/-- (*flurry/tape.Tape).Restart -/
def A_tape_Tape_Restart : An := (An.s (An.r []) (An.s (An.s (An.r []) (An.b (An.s (An.r []) (An.s (An.s (An.r []) An.o) (An.s (An.r []) (An.s (An.s (An.r []) (An.s (An.r []) An.o)) An.o)))))) (An.s (An.r []) An.o)))
def c_tape_Tape_Restart (t0 : Value) (w : World) (R : Value → World → Prop) : Prop :=
  cal P f_tape_Tape_may [t0] w fun t4 w =>
  bi BinOp.eql t4 (Value.int IntKind.i64 0) fun t6 =>
  cnd t6
  (R (Value.int IntKind.i64 7) w)
  (bi BinOp.eql t4 (Value.int IntKind.i64 5) fun t8 =>
  cnd t8
  (nilc t0 fun t10 =>
  fad 2 t10 fun t11 =>
  st1 t11 (Value.bool false) w fun w =>
  R (Value.int IntKind.i64 0) w)
  (R (Value.int IntKind.i64 2) w))
theorem e_tape_Tape_Restart (t0 : Value) (w : World) (R : Value → World → Prop) : intp P A_tape_Tape_Restart (bodyOf Try.f21) (ini [t0]) w (retK P Try.f21.results.toList R) (fun _ _ _ => False) (retK P Try.f21.results.toList R) = c_tape_Tape_Restart t0 w R := by kernel_rfl
theorem k_tape_Tape_Restart : chk P Try.f21.ntmps A_tape_Tape_Restart (bodyOf Try.f21) = true := by kernel_rfl
theorem l_tape_Tape_Restart {t0 : Value} {w : World} {R : Value → World → Prop} (h : c_tape_Tape_Restart t0 w R) : cal P f_tape_Tape_Restart [t0] w R :=
  calls_of mixed Try.func21 rfl (by kernel_rfl) k_tape_Tape_Restart (Eq.mpr (e_tape_Tape_Restart t0 w R) h)
theorem s_tape_Tape_Restart {t0 : Value} {w : World} {Q : Value → World → Prop} (h : ∀ R : Value → World → Prop, (∀ v w', Q v w' → R v w') → c_tape_Tape_Restart t0 w R) : cal P f_tape_Tape_Restart [t0] w Q := l_tape_Tape_Restart (h Q fun _ _ h => h)

/-- (*flurry/tape.Tape).Clone -/
def A_tape_Tape_Clone : An := (An.s (An.r []) (An.s (An.s (An.r []) (An.s (An.s (An.r []) An.o) An.o)) (An.s (An.r []) (An.s (An.r []) (An.s (An.r []) An.o)))))
def c_tape_Tape_Clone (t0 : Value) (w : World) (R : Value → World → Prop) : Prop :=
  cal P f_tape_Tape_may [t0] w fun t5 w =>
  bi BinOp.eql t5 (Value.int IntKind.i64 2) fun t6 =>
  cnd t6
  (R (Value.pointer none) w)
  (nilc t0 fun t8 =>
  ldN 4 t8 w.heap fun t9 =>
  efP P (Instr.alloc T_tape_Tape true (.tuple #[])) w fun t3 w =>
  stN 4 t3 t9 w fun w =>
  nilc t0 fun t11 =>
  fad 0 t11 fun t12 =>
  ld1 t12 w.heap fun t13 =>
  cal P f_tape_told [t13] w fun t14 w =>
  fad 0 t3 fun t15 =>
  st1 t15 t14 w fun w =>
  R t3 w)
theorem e_tape_Tape_Clone (t0 : Value) (w : World) (R : Value → World → Prop) : intp P A_tape_Tape_Clone (bodyOf Try.f22) (ini [t0]) w (retK P Try.f22.results.toList R) (fun _ _ _ => False) (retK P Try.f22.results.toList R) = c_tape_Tape_Clone t0 w R := by kernel_rfl
theorem k_tape_Tape_Clone : chk P Try.f22.ntmps A_tape_Tape_Clone (bodyOf Try.f22) = true := by kernel_rfl
theorem l_tape_Tape_Clone {t0 : Value} {w : World} {R : Value → World → Prop} (h : c_tape_Tape_Clone t0 w R) : cal P f_tape_Tape_Clone [t0] w R :=
  calls_of mixed Try.func22 rfl (by kernel_rfl) k_tape_Tape_Clone (Eq.mpr (e_tape_Tape_Clone t0 w R) h)
theorem s_tape_Tape_Clone {t0 : Value} {w : World} {Q : Value → World → Prop} (h : ∀ R : Value → World → Prop, (∀ v w', Q v w' → R v w') → c_tape_Tape_Clone t0 w R) : cal P f_tape_Tape_Clone [t0] w Q := l_tape_Tape_Clone (h Q fun _ _ h => h)

/-- flurry/flurrylaw08.few -/
def A_law08_few : An := (An.s (An.r []) (An.s (An.r []) (An.s (An.s (An.r []) (An.b (An.l [15] (An.s (An.r []) (An.s (An.s An.o An.o) (An.s (An.b (An.s (An.r []) (An.s (An.s (An.r []) (An.s (An.s (An.r []) An.o) An.o)) (An.s (An.r []) (An.b (An.l [26] (An.s (An.r []) (An.s (An.s An.o An.o) (An.s (An.b (An.s (An.r []) (An.s (An.r []) (An.s (An.s (An.r []) An.o) An.o)))) (An.r [])))))))))) (An.r []))))))) (An.s (An.r []) An.o))))
def c_law08_few (t0 : Value) (w : World) (R : Value → World → Prop) : Prop :=
  lenS t0 fun t10 =>
  rdP P (Builtin.min_ #[T_int, T_int] T_int #[t10, (Value.int IntKind.i64 60)]) w fun t11 =>
  slc 3 t0 none (some t11) fun t12 =>
  lenS t12 fun t14 =>
  lp1 (Value.int IntKind.i64 0) w fun _ t15 w again0 =>
  bi BinOp.lss t15 t14 fun t16 =>
  cnd t16
  (ixs 3 t12 t15 fun t17 =>
  ldN 3 t17 w.heap fun t18 =>
  efP P (Instr.alloc T_flurrylaw08_Op true (.tuple #[])) w fun t5 w =>
  stN 3 t5 t18 w fun w =>
  fad 2 t5 fun t19 =>
  ld1 t19 w.heap fun t20 =>
  lenS t20 fun t21 =>
  bi BinOp.gtr t21 (Value.int IntKind.i64 20) fun t22 =>
  cnd t22
  (R (Value.tuple #[(Value.slice none 0 0), (Value.bool false)]) w)
  (fad 2 t5 fun t23 =>
  ld1 t23 w.heap fun t24 =>
  lenS t24 fun t25 =>
  lp1 (Value.int IntKind.i64 0) w fun _ t26 w again1 =>
  bi BinOp.lss t26 t25 fun t27 =>
  cnd t27
  (ixs 1 t24 t26 fun t28 =>
  ld1 t28 w.heap fun t29 =>
  lenS t29 fun t31 =>
  bi BinOp.gtr t31 (Value.int IntKind.i64 200) fun t32 =>
  cnd t32
  (R (Value.tuple #[(Value.slice none 0 0), (Value.bool false)]) w)
  (bi BinOp.add t26 (Value.int IntKind.i64 1) fun t33 =>
  again1 t33 w))
  (bi BinOp.add t15 (Value.int IntKind.i64 1) fun t34 =>
  again0 t34 w)))
  (R (Value.tuple #[t12, (Value.bool true)]) w)
theorem e_law08_few (t0 : Value) (w : World) (R : Value → World → Prop) : intp P A_law08_few (bodyOf Try.f23) (ini [t0]) w (retK P Try.f23.results.toList R) (fun _ _ _ => False) (retK P Try.f23.results.toList R) = c_law08_few t0 w R := by kernel_rfl
theorem k_law08_few : chk P Try.f23.ntmps A_law08_few (bodyOf Try.f23) = true := by kernel_rfl
theorem l_law08_few {t0 : Value} {w : World} {R : Value → World → Prop} (h : c_law08_few t0 w R) : cal P f_law08_few [t0] w R :=
  calls_of mixed Try.func23 rfl (by kernel_rfl) k_law08_few (Eq.mpr (e_law08_few t0 w R) h)
theorem s_law08_few {t0 : Value} {w : World} {Q : Value → World → Prop} (h : ∀ R : Value → World → Prop, (∀ v w', Q v w' → R v w') → c_law08_few t0 w R) : cal P f_law08_few [t0] w Q := l_law08_few (h Q fun _ _ h => h)

/-- bytes.HasPrefix -/
def A_bytes_HasPrefix : An := (An.s (An.r []) (An.s (An.r [[16]]) An.o))
def c_bytes_HasPrefix (t0 t1 : Value) (w : World) (R : Value → World → Prop) : Prop :=
  lenS t0 fun t6 =>
  lenS t1 fun t8 =>
  bi BinOp.geq t6 t8 fun t9 =>
  jn1 (fun k0 =>
  gif t9 true
  (lenS t1 fun t13 =>
  slc 1 t0 none (some t13) fun t14 =>
  cal P f_bytes_Equal [t14, t1] w fun t16 w =>
  k0 t16 w)
  (k0 undef w)) fun _ t16_1 w =>
  pik t9 t16_1 (Value.bool false) fun t17 =>
  R t17 w
theorem e_bytes_HasPrefix (t0 t1 : Value) (w : World) (R : Value → World → Prop) : intp P A_bytes_HasPrefix (bodyOf Try.f24) (ini [t0, t1]) w (retK P Try.f24.results.toList R) (fun _ _ _ => False) (retK P Try.f24.results.toList R) = c_bytes_HasPrefix t0 t1 w R := by kernel_rfl
theorem k_bytes_HasPrefix : chk P Try.f24.ntmps A_bytes_HasPrefix (bodyOf Try.f24) = true := by kernel_rfl
theorem l_bytes_HasPrefix {t0 t1 : Value} {w : World} {R : Value → World → Prop} (h : c_bytes_HasPrefix t0 t1 w R) : cal P f_bytes_HasPrefix [t0, t1] w R :=
  calls_of mixed Try.func24 rfl (by kernel_rfl) k_bytes_HasPrefix (Eq.mpr (e_bytes_HasPrefix t0 t1 w R) h)
theorem s_bytes_HasPrefix {t0 t1 : Value} {w : World} {Q : Value → World → Prop} (h : ∀ R : Value → World → Prop, (∀ v w', Q v w' → R v w') → c_bytes_HasPrefix t0 t1 w R) : cal P f_bytes_HasPrefix [t0, t1] w Q := l_bytes_HasPrefix (h Q fun _ _ h => h)

/-- bytes.Clone -/
def A_bytes_Clone : An := (An.s (An.r []) (An.s (An.s (An.r []) (An.s (An.s (An.r []) An.o) An.o)) (An.s (An.r []) An.o)))
def c_bytes_Clone (t0 : Value) (w : World) (R : Value → World → Prop) : Prop :=
  nilS false t0 fun t4 =>
  cnd t4
  (R (Value.slice none 0 0) w)
  (efP P (Instr.buildSlice T_sl_uint8 0 #[]) w fun t5 w =>
  efP P (Builtin.append_ #[T_sl_uint8, T_sl_uint8] T_sl_uint8 #[t5, t0]) w fun t7 w =>
  R t7 w)
theorem e_bytes_Clone (t0 : Value) (w : World) (R : Value → World → Prop) : intp P A_bytes_Clone (bodyOf Try.f25) (ini [t0]) w (retK P Try.f25.results.toList R) (fun _ _ _ => False) (retK P Try.f25.results.toList R) = c_bytes_Clone t0 w R := by kernel_rfl
theorem k_bytes_Clone : chk P Try.f25.ntmps A_bytes_Clone (bodyOf Try.f25) = true := by kernel_rfl
theorem l_bytes_Clone {t0 : Value} {w : World} {R : Value → World → Prop} (h : c_bytes_Clone t0 w R) : cal P f_bytes_Clone [t0] w R :=
  calls_of mixed Try.func25 rfl (by kernel_rfl) k_bytes_Clone (Eq.mpr (e_bytes_Clone t0 w R) h)
theorem s_bytes_Clone {t0 : Value} {w : World} {Q : Value → World → Prop} (h : ∀ R : Value → World → Prop, (∀ v w', Q v w' → R v w') → c_bytes_Clone t0 w R) : cal P f_bytes_Clone [t0] w Q := l_bytes_Clone (h Q fun _ _ h => h)

/-- flurry/flurryref08.Of -/
def A_ref08_Of : An := (An.s (An.r []) (An.s (An.s (An.r []) (An.s (An.s (An.r []) An.o) An.o)) (An.s (An.r []) An.o)))
def c_ref08_Of (t0 : Value) (w : World) (R : Value → World → Prop) : Prop :=
  lenS t0 fun t5 =>
  bi BinOp.gtr t5 (Value.int IntKind.i64 262144) fun t6 =>
  cnd t6
  (R (Value.tuple #[(Value.pointer none), (Value.int IntKind.i64 3)]) w)
  (efP P (Builtin.append_ #[T_sl_uint8, T_sl_uint8] T_sl_uint8 #[(Value.slice none 0 0), t0]) w fun t8 w =>
  rdP P (Instr.build T_flurryref08_Tape #[(0, t8), (2, (Value.int IntKind.i64 (-1)))]) w fun t9 =>
  bx T_flurryref08_Tape t9 w fun t10 w =>
  R (Value.tuple #[t10, (Value.int IntKind.i64 0)]) w)
theorem e_ref08_Of (t0 : Value) (w : World) (R : Value → World → Prop) : intp P A_ref08_Of (bodyOf Try.f26) (ini [t0]) w (retK P Try.f26.results.toList R) (fun _ _ _ => False) (retK P Try.f26.results.toList R) = c_ref08_Of t0 w R := by kernel_rfl
theorem k_ref08_Of : chk P Try.f26.ntmps A_ref08_Of (bodyOf Try.f26) = true := by kernel_rfl
theorem l_ref08_Of {t0 : Value} {w : World} {R : Value → World → Prop} (h : c_ref08_Of t0 w R) : cal P f_ref08_Of [t0] w R :=
  calls_of mixed Try.func26 rfl (by kernel_rfl) k_ref08_Of (Eq.mpr (e_ref08_Of t0 w R) h)
theorem s_ref08_Of {t0 : Value} {w : World} {Q : Value → World → Prop} (h : ∀ R : Value → World → Prop, (∀ v w', Q v w' → R v w') → c_ref08_Of t0 w R) : cal P f_ref08_Of [t0] w Q := l_ref08_Of (h Q fun _ _ h => h)

/-- flurry/flurrylaw08.does -/
def A_law08_does : An := (An.s (An.r []) (An.s (An.s (An.r []) (An.b (An.s (An.r []) (An.s (An.s (An.dc [0, 1, 2, 4, 5, 6, 3, 7, 8, 9] [7] []) An.o) (An.s (An.r []) (An.s (An.s (An.dc [0, 1, 2, 4, 5, 6, 3, 7, 8, 9] [7] []) An.o) (An.s (An.r []) (An.s (An.s (An.dc [0, 1, 2, 4, 5, 6, 3, 7, 8, 9] [7] []) An.o) (An.s (An.r []) (An.s (An.s (An.r []) An.o) (An.s (An.r []) (An.s (An.s (An.r []) An.o) (An.s (An.r []) (An.s (An.s (An.r []) An.o) (An.s (An.r []) (An.s (An.s (An.r []) (An.s (An.r []) (An.b (An.l [71] (An.s (An.r []) (An.s (An.s An.o An.o) (An.s (An.b (An.s (An.r []) (An.r []))) (An.r [])))))))) An.o)))))))))))))))) (An.s (An.r []) An.o)))
def c_law08_does (t0 t1 t2 : Value) (w : World) (R : Value → World → Prop) : Prop :=
  bx T_flurrylaw08_Op t2 w fun t5 w =>
  fad 0 t5 fun t9 =>
  ld1 t9 w.heap fun t10 =>
  bi BinOp.eql t10 (Value.int IntKind.i64 0) fun t12 =>
  cnd t12
  (drH w fun S w =>
  fad 2 t5 fun t14 =>
  rdS S (fun w => ld1 t14 w.heap) fun t15 =>
  fad 2 t5 fun t18 =>
  rdS S (fun w => ld1 t18 w.heap) fun t19 =>
  efS S (cal P f_tape_Tape_Append [t0, t15]) w fun t16 w =>
  efC (cal P f_ref08_Tape_Append [t1, t19]) w fun S t20 w =>
  bi BinOp.eql t16 t20 fun t21 =>
  R t21 w)
  (bi BinOp.eql t10 (Value.int IntKind.i64 1) fun t23 =>
  cnd t23
  (drH w fun S w =>
  fad 1 t5 fun t25 =>
  rdS S (fun w => ld1 t25 w.heap) fun t26 =>
  fad 1 t5 fun t29 =>
  rdS S (fun w => ld1 t29 w.heap) fun t30 =>
  efS S (cal P f_tape_Tape_Truncate [t0, t26]) w fun t27 w =>
  efC (cal P f_ref08_Tape_Truncate [t1, t30]) w fun S t31 w =>
  bi BinOp.eql t27 t31 fun t32 =>
  R t32 w)
  (bi BinOp.eql t10 (Value.int IntKind.i64 2) fun t34 =>
  cnd t34
  (drH w fun S w =>
  fad 1 t5 fun t36 =>
  rdS S (fun w => ld1 t36 w.heap) fun t37 =>
  fad 1 t5 fun t40 =>
  rdS S (fun w => ld1 t40 w.heap) fun t41 =>
  efS S (cal P f_tape_Tape_Arm [t0, t37]) w fun t38 w =>
  efC (cal P f_ref08_Tape_Arm [t1, t41]) w fun S t42 w =>
  bi BinOp.eql t38 t42 fun t43 =>
  R t43 w)
  (bi BinOp.eql t10 (Value.int IntKind.i64 3) fun t45 =>
  cnd t45
  (cal P f_tape_Tape_Calm [t0] w fun t47 w =>
  cal P f_ref08_Tape_Calm [t1] w fun t49 w =>
  bi BinOp.eql t47 t49 fun t50 =>
  R t50 w)
  (bi BinOp.eql t10 (Value.int IntKind.i64 4) fun t52 =>
  cnd t52
  (cal P f_tape_Tape_Crash [t0] w fun t54 w =>
  cal P f_ref08_Tape_Crash [t1] w fun t56 w =>
  bi BinOp.eql t54 t56 fun t57 =>
  R t57 w)
  (bi BinOp.eql t10 (Value.int IntKind.i64 5) fun t59 =>
  cnd t59
  (cal P f_tape_Tape_Restart [t0] w fun t61 w =>
  cal P f_ref08_Tape_Restart [t1] w fun t63 w =>
  bi BinOp.eql t61 t63 fun t64 =>
  R t64 w)
  (bi BinOp.eql t10 (Value.int IntKind.i64 7) fun t66 =>
  cnd t66
  (cal P f_tape_Tape_Bytes [t0] w fun t68 w =>
  lenS t68 fun t70 =>
  lp1 (Value.int IntKind.i64 0) w fun _ t71 w again0 =>
  bi BinOp.lss t71 t70 fun t72 =>
  cnd t72
  (ixs 1 t68 t71 fun t76 =>
  ld1 t76 w.heap fun t77 =>
  bi BinOp.xor t77 (Value.int IntKind.u8 255) fun t78 =>
  ixs 1 t68 t71 fun t79 =>
  st1 t79 t78 w fun w =>
  bi BinOp.add t71 (Value.int IntKind.i64 1) fun t80 =>
  again0 t80 w)
  (R (Value.bool true) w))
  (R (Value.bool true) w)))))))
theorem e_law08_does (t0 t1 t2 : Value) (w : World) (R : Value → World → Prop) : intp P A_law08_does (bodyOf Try.f27) (ini [t0, t1, t2]) w (retK P Try.f27.results.toList R) (fun _ _ _ => False) (retK P Try.f27.results.toList R) = c_law08_does t0 t1 t2 w R := by kernel_rfl
theorem k_law08_does : chk P Try.f27.ntmps A_law08_does (bodyOf Try.f27) = true := by kernel_rfl
theorem l_law08_does {t0 t1 t2 : Value} {w : World} {R : Value → World → Prop} (h : c_law08_does t0 t1 t2 w R) : cal P f_law08_does [t0, t1, t2] w R :=
  calls_of mixed Try.func27 rfl (by kernel_rfl) k_law08_does (Eq.mpr (e_law08_does t0 t1 t2 w R) h)
theorem s_law08_does {t0 t1 t2 : Value} {w : World} {Q : Value → World → Prop} (h : ∀ R : Value → World → Prop, (∀ v w', Q v w' → R v w') → c_law08_does t0 t1 t2 w R) : cal P f_law08_does [t0, t1, t2] w Q := l_law08_does (h Q fun _ _ h => h)

/-- flurry/flurrylaw08.same -/
def A_law08_same : An := (An.s (An.r []) (An.s (An.d [0, 2, 3, 4, 5, 6, 1, 7, 8, 9, 11, 12, 13, 14, 15, 10, 16, 17, 18, 19, 21, 22, 23, 24, 20, 25, 26, 27] [[21], [30]]) An.o))
def c_law08_same (t0 t1 : Value) (w : World) (R : Value → World → Prop) : Prop :=
  drH w fun S w =>
  nilc t1 fun t8 =>
  fad 1 t8 fun t9 =>
  rdS S (fun w => ld1 t9 w.heap) fun t10 =>
  notB t10 fun t11 =>
  efS S (cal P f_tape_Tape_On [t0]) w fun t6 w =>
  rdS S (rdP P (eqS BinOp.eql T_bool (Operand.tmp 6) (Operand.tmp 11) t6 t11)) fun t12 =>
  jn1 (fun k0 =>
  gif t12 true
  (nilc t1 fun t17 =>
  fad 0 t17 fun t18 =>
  rdS S (fun w => ld1 t18 w.heap) fun t19 =>
  lenS t19 fun t20 =>
  efS S (cal P f_tape_Tape_Len [t0]) w fun t15 w =>
  bi BinOp.eql t15 t20 fun t21 =>
  k0 t21 w)
  (k0 undef w)) fun _ t21_1 w =>
  pik t12 t21_1 (Value.bool false) fun t22 =>
  jn1 (fun k1 =>
  gif t22 true
  (nilc t1 fun t27 =>
  fad 0 t27 fun t28 =>
  rdS S (fun w => ld1 t28 w.heap) fun t29 =>
  efS S (cal P f_tape_Tape_Bytes [t0]) w fun t25 w =>
  efS S (cal P f_bytes_Equal [t25, t29]) w fun t30 w =>
  k1 t30 w)
  (k1 undef w)) fun _ t30_1 w =>
  pik t22 t30_1 (Value.bool false) fun t31 =>
  R t31 w
theorem e_law08_same (t0 t1 : Value) (w : World) (R : Value → World → Prop) : intp P A_law08_same (bodyOf Try.f28) (ini [t0, t1]) w (retK P Try.f28.results.toList R) (fun _ _ _ => False) (retK P Try.f28.results.toList R) = c_law08_same t0 t1 w R := by kernel_rfl
theorem k_law08_same : chk P Try.f28.ntmps A_law08_same (bodyOf Try.f28) = true := by kernel_rfl
theorem l_law08_same {t0 t1 : Value} {w : World} {R : Value → World → Prop} (h : c_law08_same t0 t1 w R) : cal P f_law08_same [t0, t1] w R :=
  calls_of mixed Try.func28 rfl (by kernel_rfl) k_law08_same (Eq.mpr (e_law08_same t0 t1 w R) h)
theorem s_law08_same {t0 t1 : Value} {w : World} {Q : Value → World → Prop} (h : ∀ R : Value → World → Prop, (∀ v w', Q v w' → R v w') → c_law08_same t0 t1 w R) : cal P f_law08_same [t0, t1] w Q := l_law08_same (h Q fun _ _ h => h)

/-- flurry/tape.told -/
def A_tape_told : An := (An.s (An.r []) (An.s (An.r []) (An.s (An.r []) (An.s (An.r []) An.o))))
def c_tape_told (t0 : Value) (w : World) (R : Value → World → Prop) : Prop :=
  lenS t0 fun t6 =>
  efP P (Instr.makeSlice T_sl_uint8 t6 t6) w fun t7 w =>
  efP P (Builtin.copy_ #[T_sl_uint8, T_sl_uint8] T_int #[t7, t0]) w fun t10 w =>
  rdP P (Instr.sliceAt T_sl_uint8 t7 none (some t10) (some t10)) w fun t14 =>
  R t14 w
theorem e_tape_told (t0 : Value) (w : World) (R : Value → World → Prop) : intp P A_tape_told (bodyOf Try.f29) (ini [t0]) w (retK P Try.f29.results.toList R) (fun _ _ _ => False) (retK P Try.f29.results.toList R) = c_tape_told t0 w R := by kernel_rfl
theorem k_tape_told : chk P Try.f29.ntmps A_tape_told (bodyOf Try.f29) = true := by kernel_rfl
theorem l_tape_told {t0 : Value} {w : World} {R : Value → World → Prop} (h : c_tape_told t0 w R) : cal P f_tape_told [t0] w R :=
  calls_of mixed Try.func29 rfl (by kernel_rfl) k_tape_told (Eq.mpr (e_tape_told t0 w R) h)
theorem s_tape_told {t0 : Value} {w : World} {Q : Value → World → Prop} (h : ∀ R : Value → World → Prop, (∀ v w', Q v w' → R v w') → c_tape_told t0 w R) : cal P f_tape_told [t0] w Q := l_tape_told (h Q fun _ _ h => h)

/-- (*flurry/tape.Tape).may -/
def A_tape_Tape_may : An := (An.s (An.r []) (An.s (An.b (An.s (An.r [[11]]) (An.s (An.s (An.r []) An.o) (An.s (An.r []) (An.s (An.s (An.r []) An.o) An.o))))) (An.s (An.r []) An.o)))
def c_tape_Tape_may (t0 : Value) (w : World) (R : Value → World → Prop) : Prop :=
  nilP false t0 fun t5 =>
  jn1 (fun k0 =>
  gif t5 false
  (nilc t0 fun t8 =>
  fad 3 t8 fun t9 =>
  ld1 t9 w.heap fun t10 =>
  notB t10 fun t11 =>
  k0 t11 w)
  (k0 undef w)) fun _ t11_1 w =>
  pik t5 (Value.bool true) t11_1 fun t12 =>
  cnd t12
  (R (Value.int IntKind.i64 2) w)
  (nilc t0 fun t15 =>
  fad 2 t15 fun t16 =>
  ld1 t16 w.heap fun t17 =>
  cnd t17
  (R (Value.int IntKind.i64 5) w)
  (R (Value.int IntKind.i64 0) w))
theorem e_tape_Tape_may (t0 : Value) (w : World) (R : Value → World → Prop) : intp P A_tape_Tape_may (bodyOf Try.f30) (ini [t0]) w (retK P Try.f30.results.toList R) (fun _ _ _ => False) (retK P Try.f30.results.toList R) = c_tape_Tape_may t0 w R := by kernel_rfl
theorem k_tape_Tape_may : chk P Try.f30.ntmps A_tape_Tape_may (bodyOf Try.f30) = true := by kernel_rfl
theorem l_tape_Tape_may {t0 : Value} {w : World} {R : Value → World → Prop} (h : c_tape_Tape_may t0 w R) : cal P f_tape_Tape_may [t0] w R :=
  calls_of mixed Try.func30 rfl (by kernel_rfl) k_tape_Tape_may (Eq.mpr (e_tape_Tape_may t0 w R) h)
theorem s_tape_Tape_may {t0 : Value} {w : World} {Q : Value → World → Prop} (h : ∀ R : Value → World → Prop, (∀ v w', Q v w' → R v w') → c_tape_Tape_may t0 w R) : cal P f_tape_Tape_may [t0] w Q := l_tape_Tape_may (h Q fun _ _ h => h)

/-- (*flurry/tape.Tape).goes -/
def A_tape_Tape_goes : An := (An.r [])
def c_tape_Tape_goes (t0 : Value) (w : World) (R : Value → World → Prop) : Prop :=
  nilc t0 fun t4 =>
  fad 2 t4 fun t5 =>
  st1 t5 (Value.bool true) w fun w =>
  nilc t0 fun t6 =>
  fad 1 t6 fun t7 =>
  st1 t7 (Value.int IntKind.i64 (-1)) w fun w =>
  R (Value.tuple #[]) w
theorem e_tape_Tape_goes (t0 : Value) (w : World) (R : Value → World → Prop) : intp P A_tape_Tape_goes (bodyOf Try.f31) (ini [t0]) w (retK P Try.f31.results.toList R) (fun _ _ _ => False) (retK P Try.f31.results.toList R) = c_tape_Tape_goes t0 w R := by kernel_rfl
theorem k_tape_Tape_goes : chk P Try.f31.ntmps A_tape_Tape_goes (bodyOf Try.f31) = true := by kernel_rfl
theorem l_tape_Tape_goes {t0 : Value} {w : World} {R : Value → World → Prop} (h : c_tape_Tape_goes t0 w R) : cal P f_tape_Tape_goes [t0] w R :=
  calls_of mixed Try.func31 rfl (by kernel_rfl) k_tape_Tape_goes (Eq.mpr (e_tape_Tape_goes t0 w R) h)
theorem s_tape_Tape_goes {t0 : Value} {w : World} {Q : Value → World → Prop} (h : ∀ R : Value → World → Prop, (∀ v w', Q v w' → R v w') → c_tape_Tape_goes t0 w R) : cal P f_tape_Tape_goes [t0] w Q := l_tape_Tape_goes (h Q fun _ _ h => h)

/-- (*flurry/flurryref08.Tape).Append -/
def A_ref08_Tape_Append : An := (An.s (An.r []) (An.s (An.s (An.r []) (An.s (An.s (An.r []) An.o) An.o)) (An.s (An.r []) (An.s (An.s (An.r []) (An.b (An.l [5, 6] (An.s (An.s (An.r []) (An.s An.o An.o)) (An.s (An.b (An.s (An.s (An.r []) (An.s (An.s (An.r []) An.o) An.o)) (An.r []))) (An.r [])))))) (An.s (An.s (An.r []) (An.b (An.l [7] (An.s (An.s (An.r []) (An.s An.o An.o)) (An.s (An.b (An.s (An.s (An.r []) (An.s (An.s (An.r []) (An.s (An.r []) An.o)) An.o)) (An.s (An.j [] (An.s (An.r []) (An.s (An.r []) An.o))) (An.dc [0, 1, 2, 3, 4, 5, 6, 7, 8, 9, 10, 11, 12, 13] [10, 13] [])))) (An.r [])))))) (An.s (An.r []) An.o))))))
def c_ref08_Tape_Append (t0 t1 : Value) (w : World) (R : Value → World → Prop) : Prop :=
  nilc t0 fun t9 =>
  fad 1 t9 fun t10 =>
  ld1 t10 w.heap fun t11 =>
  cnd t11
  (R (Value.int IntKind.i64 5) w)
  (lp2 (Value.slice none 0 0) (Value.int IntKind.i64 0) w fun _ t5 t6 w again0 =>
  lenS t1 fun t14 =>
  bi BinOp.lss t6 t14 fun t15 =>
  cnd t15
  (drw w fun w =>
  ixs 1 t1 t6 fun t20 =>
  ld1 t20 w.heap fun t21 =>
  lenS t21 fun t22 =>
  nilc t0 fun t24 =>
  fad 0 t24 fun t25 =>
  ld1 t25 w.heap fun t26 =>
  lenS t26 fun t27 =>
  bi BinOp.sub (Value.int IntKind.i64 262144) t27 fun t28 =>
  lenS t5 fun t30 =>
  bi BinOp.sub t28 t30 fun t31 =>
  bi BinOp.gtr t22 t31 fun t32 =>
  cnd t32
  (R (Value.int IntKind.i64 6) w)
  (ixs 1 t1 t6 fun t36 =>
  ld1 t36 w.heap fun t37 =>
  efP P (Builtin.append_ #[T_sl_uint8, T_sl_uint8] T_sl_uint8 #[t5, t37]) w fun t38 w =>
  bi BinOp.add t6 (Value.int IntKind.i64 1) fun t17 =>
  again0 t38 t17 w))
  (lp1 (Value.int IntKind.i64 0) w fun _ t7 w again1 =>
  lenS t5 fun t41 =>
  bi BinOp.lss t7 t41 fun t42 =>
  cnd t42
  (nilc t0 fun t46 =>
  fad 2 t46 fun t47 =>
  ld1 t47 w.heap fun t48 =>
  bi BinOp.eql t48 (Value.int IntKind.i64 0) fun t49 =>
  cnd t49
  (cal P f_ref08_Tape_Crash [t0] w fun t51 w =>
  R (Value.int IntKind.i64 5) w)
  (jn0 (fun k2 =>
  nilc t0 fun t53 =>
  fad 2 t53 fun t54 =>
  ld1 t54 w.heap fun t55 =>
  bi BinOp.gtr t55 (Value.int IntKind.i64 0) fun t56 =>
  cnd t56
  (nilc t0 fun t58 =>
  fad 2 t58 fun t59 =>
  ld1 t59 w.heap fun t60 =>
  bi BinOp.sub t60 (Value.int IntKind.i64 1) fun t61 =>
  nilc t0 fun t62 =>
  fad 2 t62 fun t63 =>
  st1 t63 t61 w fun w =>
  k2 w)
  (k2 w)) fun _ w =>
  drH w fun S w =>
  nilc t0 fun t66 =>
  fad 0 t66 fun t67 =>
  rdS S (fun w => ld1 t67 w.heap) fun t68 =>
  ixs 1 t5 t7 fun t71 =>
  rdS S (fun w => ld1 t71 w.heap) fun t72 =>
  efS S (efP P (Instr.buildSlice T_sl_uint8 1 #[(0, t72)])) w fun t73 w =>
  efC (efP P (Builtin.append_ #[T_sl_uint8, T_sl_uint8] T_sl_uint8 #[t68, t73])) w fun S t74 w =>
  nilc t0 fun t75 =>
  fad 0 t75 fun t76 =>
  efC (fun w K => st1 t76 t74 w (K undef)) w fun S _ w =>
  bi BinOp.add t7 (Value.int IntKind.i64 1) fun t44 =>
  again1 t44 w))
  (R (Value.int IntKind.i64 0) w)))
theorem e_ref08_Tape_Append (t0 t1 : Value) (w : World) (R : Value → World → Prop) : intp P A_ref08_Tape_Append (bodyOf Try.f33) (ini [t0, t1]) w (retK P Try.f33.results.toList R) (fun _ _ _ => False) (retK P Try.f33.results.toList R) = c_ref08_Tape_Append t0 t1 w R := by kernel_rfl
theorem k_ref08_Tape_Append : chk P Try.f33.ntmps A_ref08_Tape_Append (bodyOf Try.f33) = true := by kernel_rfl
theorem l_ref08_Tape_Append {t0 t1 : Value} {w : World} {R : Value → World → Prop} (h : c_ref08_Tape_Append t0 t1 w R) : cal P f_ref08_Tape_Append [t0, t1] w R :=
  calls_of mixed Try.func33 rfl (by kernel_rfl) k_ref08_Tape_Append (Eq.mpr (e_ref08_Tape_Append t0 t1 w R) h)
theorem s_ref08_Tape_Append {t0 t1 : Value} {w : World} {Q : Value → World → Prop} (h : ∀ R : Value → World → Prop, (∀ v w', Q v w' → R v w') → c_ref08_Tape_Append t0 t1 w R) : cal P f_ref08_Tape_Append [t0, t1] w Q := l_ref08_Tape_Append (h Q fun _ _ h => h)

/-- (*flurry/flurryref08.Tape).Truncate -/
def A_ref08_Tape_Truncate : An := (An.s (An.r []) (An.s (An.s (An.r []) (An.s (An.s (An.r []) An.o) An.o)) (An.s (An.s (An.r [[18]]) (An.s (An.s (An.r []) An.o) An.o)) (An.s (An.r []) (An.s (An.r []) An.o)))))
def c_ref08_Tape_Truncate (t0 t1 : Value) (w : World) (R : Value → World → Prop) : Prop :=
  nilc t0 fun t6 =>
  fad 1 t6 fun t7 =>
  ld1 t7 w.heap fun t8 =>
  cnd t8
  (R (Value.int IntKind.i64 5) w)
  (bi BinOp.lss t1 (Value.int IntKind.i64 0) fun t10 =>
  jn1 (fun k0 =>
  gif t10 false
  (nilc t0 fun t14 =>
  fad 0 t14 fun t15 =>
  ld1 t15 w.heap fun t16 =>
  lenS t16 fun t17 =>
  bi BinOp.gtr t1 t17 fun t18 =>
  k0 t18 w)
  (k0 undef w)) fun _ t18_1 w =>
  pik t10 (Value.bool true) t18_1 fun t19 =>
  cnd t19
  (R (Value.int IntKind.i64 1) w)
  (nilc t0 fun t22 =>
  fad 0 t22 fun t23 =>
  ld1 t23 w.heap fun t24 =>
  slc 1 t24 none (some t1) fun t26 =>
  efP P (Builtin.append_ #[T_sl_uint8, T_sl_uint8] T_sl_uint8 #[(Value.slice none 0 0), t26]) w fun t27 w =>
  nilc t0 fun t28 =>
  fad 0 t28 fun t29 =>
  st1 t29 t27 w fun w =>
  R (Value.int IntKind.i64 0) w))
theorem e_ref08_Tape_Truncate (t0 t1 : Value) (w : World) (R : Value → World → Prop) : intp P A_ref08_Tape_Truncate (bodyOf Try.f34) (ini [t0, t1]) w (retK P Try.f34.results.toList R) (fun _ _ _ => False) (retK P Try.f34.results.toList R) = c_ref08_Tape_Truncate t0 t1 w R := by kernel_rfl
theorem k_ref08_Tape_Truncate : chk P Try.f34.ntmps A_ref08_Tape_Truncate (bodyOf Try.f34) = true := by kernel_rfl
theorem l_ref08_Tape_Truncate {t0 t1 : Value} {w : World} {R : Value → World → Prop} (h : c_ref08_Tape_Truncate t0 t1 w R) : cal P f_ref08_Tape_Truncate [t0, t1] w R :=
  calls_of mixed Try.func34 rfl (by kernel_rfl) k_ref08_Tape_Truncate (Eq.mpr (e_ref08_Tape_Truncate t0 t1 w R) h)
theorem s_ref08_Tape_Truncate {t0 t1 : Value} {w : World} {Q : Value → World → Prop} (h : ∀ R : Value → World → Prop, (∀ v w', Q v w' → R v w') → c_ref08_Tape_Truncate t0 t1 w R) : cal P f_ref08_Tape_Truncate [t0, t1] w Q := l_ref08_Tape_Truncate (h Q fun _ _ h => h)

/-- (*flurry/flurryref08.Tape).Arm -/
def A_ref08_Tape_Arm : An := (An.s (An.r []) (An.s (An.s (An.r []) (An.s (An.s (An.r []) An.o) An.o)) (An.s (An.s (An.r []) (An.s (An.s (An.r []) An.o) An.o)) (An.s (An.r []) (An.s (An.r []) An.o)))))
def c_ref08_Tape_Arm (t0 t1 : Value) (w : World) (R : Value → World → Prop) : Prop :=
  nilc t0 fun t6 =>
  fad 1 t6 fun t7 =>
  ld1 t7 w.heap fun t8 =>
  cnd t8
  (R (Value.int IntKind.i64 5) w)
  (bi BinOp.lss t1 (Value.int IntKind.i64 0) fun t10 =>
  cnd t10
  (R (Value.int IntKind.i64 1) w)
  (nilc t0 fun t13 =>
  fad 2 t13 fun t14 =>
  st1 t14 t1 w fun w =>
  R (Value.int IntKind.i64 0) w))
theorem e_ref08_Tape_Arm (t0 t1 : Value) (w : World) (R : Value → World → Prop) : intp P A_ref08_Tape_Arm (bodyOf Try.f35) (ini [t0, t1]) w (retK P Try.f35.results.toList R) (fun _ _ _ => False) (retK P Try.f35.results.toList R) = c_ref08_Tape_Arm t0 t1 w R := by kernel_rfl
theorem k_ref08_Tape_Arm : chk P Try.f35.ntmps A_ref08_Tape_Arm (bodyOf Try.f35) = true := by kernel_rfl
theorem l_ref08_Tape_Arm {t0 t1 : Value} {w : World} {R : Value → World → Prop} (h : c_ref08_Tape_Arm t0 t1 w R) : cal P f_ref08_Tape_Arm [t0, t1] w R :=
  calls_of mixed Try.func35 rfl (by kernel_rfl) k_ref08_Tape_Arm (Eq.mpr (e_ref08_Tape_Arm t0 t1 w R) h)
theorem s_ref08_Tape_Arm {t0 t1 : Value} {w : World} {Q : Value → World → Prop} (h : ∀ R : Value → World → Prop, (∀ v w', Q v w' → R v w') → c_ref08_Tape_Arm t0 t1 w R) : cal P f_ref08_Tape_Arm [t0, t1] w Q := l_ref08_Tape_Arm (h Q fun _ _ h => h)

/-- (*flurry/flurryref08.Tape).Calm -/
def A_ref08_Tape_Calm : An := (An.s (An.r []) (An.s (An.s (An.r []) (An.s (An.s (An.r []) An.o) An.o)) (An.s (An.r []) (An.s (An.r []) An.o))))
def c_ref08_Tape_Calm (t0 : Value) (w : World) (R : Value → World → Prop) : Prop :=
  nilc t0 fun t4 =>
  fad 1 t4 fun t5 =>
  ld1 t5 w.heap fun t6 =>
  cnd t6
  (R (Value.int IntKind.i64 5) w)
  (nilc t0 fun t8 =>
  fad 2 t8 fun t9 =>
  st1 t9 (Value.int IntKind.i64 (-1)) w fun w =>
  R (Value.int IntKind.i64 0) w)
theorem e_ref08_Tape_Calm (t0 : Value) (w : World) (R : Value → World → Prop) : intp P A_ref08_Tape_Calm (bodyOf Try.f36) (ini [t0]) w (retK P Try.f36.results.toList R) (fun _ _ _ => False) (retK P Try.f36.results.toList R) = c_ref08_Tape_Calm t0 w R := by kernel_rfl
theorem k_ref08_Tape_Calm : chk P Try.f36.ntmps A_ref08_Tape_Calm (bodyOf Try.f36) = true := by kernel_rfl
theorem l_ref08_Tape_Calm {t0 : Value} {w : World} {R : Value → World → Prop} (h : c_ref08_Tape_Calm t0 w R) : cal P f_ref08_Tape_Calm [t0] w R :=
  calls_of mixed Try.func36 rfl (by kernel_rfl) k_ref08_Tape_Calm (Eq.mpr (e_ref08_Tape_Calm t0 w R) h)
theorem s_ref08_Tape_Calm {t0 : Value} {w : World} {Q : Value → World → Prop} (h : ∀ R : Value → World → Prop, (∀ v w', Q v w' → R v w') → c_ref08_Tape_Calm t0 w R) : cal P f_ref08_Tape_Calm [t0] w Q := l_ref08_Tape_Calm (h Q fun _ _ h => h)

/-- (*flurry/flurryref08.Tape).Crash -/
def A_ref08_Tape_Crash : An := (An.s (An.r []) (An.s (An.s (An.r []) (An.s (An.s (An.r []) An.o) An.o)) (An.s (An.r []) (An.s (An.r []) (An.s (An.r []) An.o)))))
def c_ref08_Tape_Crash (t0 : Value) (w : World) (R : Value → World → Prop) : Prop :=
  nilc t0 fun t4 =>
  fad 1 t4 fun t5 =>
  ld1 t5 w.heap fun t6 =>
  cnd t6
  (R (Value.int IntKind.i64 5) w)
  (nilc t0 fun t8 =>
  fad 1 t8 fun t9 =>
  st1 t9 (Value.bool true) w fun w =>
  nilc t0 fun t11 =>
  fad 2 t11 fun t12 =>
  st1 t12 (Value.int IntKind.i64 (-1)) w fun w =>
  R (Value.int IntKind.i64 0) w)
theorem e_ref08_Tape_Crash (t0 : Value) (w : World) (R : Value → World → Prop) : intp P A_ref08_Tape_Crash (bodyOf Try.f37) (ini [t0]) w (retK P Try.f37.results.toList R) (fun _ _ _ => False) (retK P Try.f37.results.toList R) = c_ref08_Tape_Crash t0 w R := by kernel_rfl
theorem k_ref08_Tape_Crash : chk P Try.f37.ntmps A_ref08_Tape_Crash (bodyOf Try.f37) = true := by kernel_rfl
theorem l_ref08_Tape_Crash {t0 : Value} {w : World} {R : Value → World → Prop} (h : c_ref08_Tape_Crash t0 w R) : cal P f_ref08_Tape_Crash [t0] w R :=
  calls_of mixed Try.func37 rfl (by kernel_rfl) k_ref08_Tape_Crash (Eq.mpr (e_ref08_Tape_Crash t0 w R) h)
theorem s_ref08_Tape_Crash {t0 : Value} {w : World} {Q : Value → World → Prop} (h : ∀ R : Value → World → Prop, (∀ v w', Q v w' → R v w') → c_ref08_Tape_Crash t0 w R) : cal P f_ref08_Tape_Crash [t0] w Q := l_ref08_Tape_Crash (h Q fun _ _ h => h)

/-- (*flurry/flurryref08.Tape).Restart -/
def A_ref08_Tape_Restart : An := (An.s (An.r []) (An.s (An.s (An.r []) (An.s (An.s (An.r []) An.o) An.o)) (An.s (An.r []) (An.s (An.r []) An.o))))
def c_ref08_Tape_Restart (t0 : Value) (w : World) (R : Value → World → Prop) : Prop :=
  nilc t0 fun t4 =>
  fad 1 t4 fun t5 =>
  ld1 t5 w.heap fun t6 =>
  notB t6 fun t7 =>
  cnd t7
  (R (Value.int IntKind.i64 7) w)
  (nilc t0 fun t9 =>
  fad 1 t9 fun t10 =>
  st1 t10 (Value.bool false) w fun w =>
  R (Value.int IntKind.i64 0) w)
theorem e_ref08_Tape_Restart (t0 : Value) (w : World) (R : Value → World → Prop) : intp P A_ref08_Tape_Restart (bodyOf Try.f38) (ini [t0]) w (retK P Try.f38.results.toList R) (fun _ _ _ => False) (retK P Try.f38.results.toList R) = c_ref08_Tape_Restart t0 w R := by kernel_rfl
theorem k_ref08_Tape_Restart : chk P Try.f38.ntmps A_ref08_Tape_Restart (bodyOf Try.f38) = true := by kernel_rfl
theorem l_ref08_Tape_Restart {t0 : Value} {w : World} {R : Value → World → Prop} (h : c_ref08_Tape_Restart t0 w R) : cal P f_ref08_Tape_Restart [t0] w R :=
  calls_of mixed Try.func38 rfl (by kernel_rfl) k_ref08_Tape_Restart (Eq.mpr (e_ref08_Tape_Restart t0 w R) h)
theorem s_ref08_Tape_Restart {t0 : Value} {w : World} {Q : Value → World → Prop} (h : ∀ R : Value → World → Prop, (∀ v w', Q v w' → R v w') → c_ref08_Tape_Restart t0 w R) : cal P f_ref08_Tape_Restart [t0] w Q := l_ref08_Tape_Restart (h Q fun _ _ h => h)

end Go.Fx
