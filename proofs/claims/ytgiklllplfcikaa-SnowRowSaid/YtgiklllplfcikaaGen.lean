/-
  The readings of the functions that are walked (c_..), printed by program; each is held against the loaded code by the kernel (e_..), and gives the call (l_..).
-/
import Derived.Test.YtgiklllplfcikaaFxE
import Derived.Test.YtgiklllplfcikaaProg
import Derived.KernelRfl
set_option linter.unusedVariables false
set_option maxRecDepth 100000
namespace Go.Fx
noncomputable abbrev P : Program := Go.Proofs.Try.prog
open Go.Proofs
def bodyOf (f : Func) : Code := match f.body with | some c => c | none => .skip
theorem mixed : P.follows .mixedOrders = true := by kernel_rfl
abbrev f_law17_SnowRuns : FuncId := 3
abbrev f_law17_SnowOnly : FuncId := 4
abbrev f_law17_SnowGoes : FuncId := 5
abbrev f_law17_SnowMay : FuncId := 6
abbrev f_law17_SnowRow : FuncId := 7
abbrev f_law17_SnowIs : FuncId := 8
abbrev f_law17_SnowStays : FuncId := 9
abbrev f_law17_live : FuncId := 10
abbrev f_law17_few : FuncId := 11
abbrev f_snow_Run : FuncId := 12
abbrev f_ref17_Run : FuncId := 13
abbrev f_ref17_Same : FuncId := 14
abbrev f_snow_Params : FuncId := 15
abbrev f_ref17_Clone : FuncId := 16
abbrev f_snow_Add : FuncId := 17
abbrev f_ref17_Add : FuncId := 18
abbrev f_snow_Poll : FuncId := 19
abbrev f_ref17_Poll : FuncId := 20
abbrev f_snow_Fail : FuncId := 21
abbrev f_ref17_Fail : FuncId := 22
abbrev f_snow_Check : FuncId := 23
abbrev f_law17_step : FuncId := 24
abbrev f_snow_Has : FuncId := 25
abbrev f_snow_New : FuncId := 26
abbrev f_snow_Prefers : FuncId := 27
abbrev f_ref17_New : FuncId := 28
abbrev f_ref17_Params : FuncId := 29
abbrev f_ref17_Check : FuncId := 30
abbrev f_snow_Same : FuncId := 31
abbrev f_ref17_Prefers : FuncId := 32
abbrev f_ref17_Place : FuncId := 33
abbrev f_law17_strength : FuncId := 34
abbrev f_law17_some : FuncId := 35
abbrev f_snow_own : FuncId := 36
abbrev f_snow_place : FuncId := 37
abbrev f_snow_reach : FuncId := 38
abbrev f_slices_Clone_api_Choice_api_Choice : FuncId := 39
abbrev f_slices_IndexFunc_api_Choice_api_Choice : FuncId := 40
abbrev f_snow_place_1 : FuncId := 41
abbrev f_runtime_boundsError_Error : FuncId := 42
abbrev f_runtime_boundsError_RuntimeError : FuncId := 43
abbrev f_runtime_errorString_Error : FuncId := 44
abbrev f_runtime_errorString_RuntimeError : FuncId := 45
abbrev f_runtime_plainError_Error : FuncId := 46
abbrev f_runtime_plainError_RuntimeError : FuncId := 47
abbrev f_runtime_errorAddressString_Error : FuncId := 48
abbrev f_runtime_errorAddressString_RuntimeError : FuncId := 49
abbrev f_runtime_TypeAssertionError_Error : FuncId := 50
abbrev f_runtime_TypeAssertionError_RuntimeError : FuncId := 51
abbrev f_runtime_PanicNilError_Error : FuncId := 52
abbrev f_runtime_PanicNilError_RuntimeError : FuncId := 53
abbrev f_internal_abi_Type_Align : FuncId := 54
abbrev f_internal_runtime_maps_unhashableTypeError_Error : FuncId := 55
abbrev f_internal_runtime_maps_unhashableTypeError_RuntimeError : FuncId := 56
abbrev f_api_Errno_Error : FuncId := 57
abbrev f_internal_abi_Kind_String : FuncId := 58
abbrev T_ : TypeId := 0
abbrev T_func : TypeId := 1
abbrev T_int64 : TypeId := 2
abbrev T_int : TypeId := 3
abbrev T_bool : TypeId := 4
abbrev T_uint8 : TypeId := 5
abbrev T_internal_abi_BoundsErrorCode : TypeId := 6
abbrev T_struct_x_int64_y_int_signed_bool_code_abi_BoundsErrorCode : TypeId := 7
abbrev T_runtime_boundsError : TypeId := 8
abbrev T_string : TypeId := 9
abbrev T_runtime_errorString : TypeId := 10
abbrev T_runtime_plainError : TypeId := 11
abbrev T_uintptr : TypeId := 12
abbrev T_struct_msg_string_addr_uintptr : TypeId := 13
abbrev T_runtime_errorAddressString : TypeId := 14
abbrev T_p_runtime_TypeAssertionError : TypeId := 15
abbrev T_p_runtime_PanicNilError : TypeId := 16
abbrev T_p_abi_Type : TypeId := 17
abbrev T_struct_typ_p_abi_Type : TypeId := 18
abbrev T_internal_runtime_maps_unhashableTypeError : TypeId := 19
abbrev T_interface : TypeId := 20
abbrev T_int32 : TypeId := 21
abbrev T_struct_K_int_AlphaPref_int_AlphaConf_int_Beta_int : TypeId := 22
abbrev T_api_Params : TypeId := 23
abbrev T_sl_api_Choice : TypeId := 24
abbrev T_a32_uint8 : TypeId := 25
abbrev T_api_ID : TypeId := 26
abbrev T_struct_List_sl_api_Choice_Pref_api_ID_Flake_api_ID_Conf_int_ : TypeId := 27
abbrev T_api_Snow : TypeId := 28
abbrev T_sl_api_Vote : TypeId := 29
abbrev T_func_bool : TypeId := 30
abbrev T_func_api_Snow_bool : TypeId := 31
abbrev T_api_Errno : TypeId := 32
abbrev T_api_Snow_int_api_Errno : TypeId := 33
abbrev T_func_api_Params_api_Snow_api_Vote_api_Snow_int_api_Errno : TypeId := 34
abbrev T_func_api_Params_api_Snow_sl_api_Vote_api_Snow_int_api_Errno : TypeId := 35
abbrev T_func_api_Snow_api_Snow_bool : TypeId := 36
abbrev T_func_api_Params_api_Snow_sl_api_Vote_bool : TypeId := 37
abbrev T_a3_uint8 : TypeId := 38
abbrev T_func_api_Params_api_Errno : TypeId := 39
abbrev T_func_api_Params_a3_uint8_bool : TypeId := 40
abbrev T_func_api_Snow_api_Snow : TypeId := 41
abbrev T_api_Snow_api_Errno : TypeId := 42
abbrev T_func_api_Params_api_Snow_api_ID_api_Snow_api_Errno : TypeId := 43
abbrev T_func_api_Params_api_Snow_api_ID_int_api_Snow_api_Errno : TypeId := 44
abbrev T_func_api_Params_api_Snow_api_Snow_api_Errno : TypeId := 45
abbrev T_sl_api_Snow : TypeId := 46
abbrev T_struct_ID_api_ID_Strength_int : TypeId := 47
abbrev T_api_Choice : TypeId := 48
abbrev T_func_api_Params_api_Snow_api_ID_int_bool : TypeId := 49
abbrev T_sl_flurrylaw17_Act : TypeId := 50
abbrev T_func_api_Params_api_Snow_api_Errno : TypeId := 51
abbrev T_struct_K_uint8_N_int_Add_bool_ID_api_ID : TypeId := 52
abbrev T_flurrylaw17_Act : TypeId := 53
abbrev T_api_Snow_api_ID_int : TypeId := 54
abbrev T_func_api_Params_api_Snow_flurrylaw17_Act_api_Snow_api_ID_int : TypeId := 55
abbrev T_func_api_Snow_api_ID_bool : TypeId := 56
abbrev T_func_api_Params_api_Snow_sl_flurrylaw17_Act_bool : TypeId := 57
abbrev T_func_api_Params_api_ID_api_Snow_api_Errno : TypeId := 58
abbrev T_func_api_Snow_api_ID : TypeId := 59
abbrev T_func_api_Params_api_ID_sl_flurrylaw17_Act_bool : TypeId := 60
abbrev T_func_api_Snow_api_ID_int : TypeId := 61
abbrev T_func_api_Params_api_Snow_api_Snow_api_ID_bool : TypeId := 62
abbrev T_func_api_Params : TypeId := 63
abbrev T_struct_ID_api_ID_N_int : TypeId := 64
abbrev T_api_Vote : TypeId := 65
abbrev T_func_api_Params_int_int : TypeId := 66
abbrev T_p_api_Choice : TypeId := 67
abbrev T_func_sl_api_Choice_sl_api_Choice : TypeId := 68
abbrev T_func_sl_api_Choice_func_api_Choice_bool_int : TypeId := 69
abbrev T_func_api_Choice_bool : TypeId := 70
abbrev T_func_string : TypeId := 71
abbrev T_struct_interface_p_abi_Type_concrete_p_abi_Type_asserted_p_a : TypeId := 72
abbrev T_runtime_TypeAssertionError : TypeId := 73
abbrev T_a0_p_runtime_PanicNilError : TypeId := 74
abbrev T_struct_a0_p_runtime_PanicNilError : TypeId := 75
abbrev T_runtime_PanicNilError : TypeId := 76
abbrev T_func_int : TypeId := 77
abbrev T_uint32 : TypeId := 78
abbrev T_internal_abi_TFlag : TypeId := 79
abbrev T_internal_abi_Kind : TypeId := 80
abbrev T_func_unsafe_Pointer_unsafe_Pointer_bool : TypeId := 81
abbrev T_p_uint8 : TypeId := 82
abbrev T_internal_abi_NameOff : TypeId := 83
abbrev T_internal_abi_TypeOff : TypeId := 84
abbrev T_struct_Size_uintptr_PtrBytes_uintptr_Hash_uint32_TFlag_abi_T : TypeId := 85
abbrev T_internal_abi_Type : TypeId := 86
abbrev T_unsafe_Pointer : TypeId := 87
/-- flurry/flurrylaw17.SnowRuns -/
def A_law17_SnowRuns : An := (An.s (An.r []) (An.s (An.s (An.r [[19], [24]]) (An.s (An.s (An.r []) An.o) An.o)) (An.s (An.r []) (An.s (An.r []) (An.s (An.r [[49], [54]]) An.o)))))
def c_law17_SnowRuns (t0 t1 t2 : Value) (w : World) (R : Value → World → Prop) : Prop :=
  bx T_api_Params t0 w fun t3 w =>
  bx T_api_Snow t1 w fun t4 w =>
  cal P f_law17_live [] w fun t13 w =>
  notB t13 fun t14 =>
  jn1 (fun k0 =>
  gif t14 false
  (ldN 67 t4 w.heap fun t16 =>
  efP P (Instr.buildSlice T_sl_api_Snow 1 #[(0, t16)]) w fun t17 w =>
  cal P f_law17_few [t17] w fun t18 w =>
  notB t18 fun t19 =>
  k0 t19 w)
  (k0 undef w)) fun _ t19_1 w =>
  pik t14 (Value.bool true) t19_1 fun t20 =>
  jn1 (fun k1 =>
  gif t20 false
  (lenS t2 fun t23 =>
  bi BinOp.gtr t23 (Value.int IntKind.i64 200) fun t24 =>
  k1 t24 w)
  (k1 undef w)) fun _ t24_1 w =>
  pik t20 (Value.bool true) t24_1 fun t25 =>
  cnd t25
  (cal P f_law17_live [] w fun t26 w =>
  R t26 w)
  (ldN 4 t3 w.heap fun t28 =>
  ldN 67 t4 w.heap fun t29 =>
  cal P f_snow_Run [t28, t29, t2] w fun t31 w =>
  ext 0 t31 fun t32 =>
  ext 1 t31 fun t33 =>
  ext 2 t31 fun t34 =>
  efP P (Instr.alloc T_api_Snow true (.tuple #[])) w fun t7 w =>
  stN 67 t7 t32 w fun w =>
  ldN 4 t3 w.heap fun t36 =>
  ldN 67 t4 w.heap fun t37 =>
  cal P f_ref17_Run [t36, t37, t2] w fun t39 w =>
  ext 0 t39 fun t40 =>
  ext 1 t39 fun t41 =>
  ext 2 t39 fun t42 =>
  efP P (Instr.alloc T_api_Snow true (.tuple #[])) w fun t10 w =>
  stN 67 t10 t40 w fun w =>
  ldN 67 t7 w.heap fun t43 =>
  ldN 67 t10 w.heap fun t44 =>
  cal P f_ref17_Same [t43, t44] w fun t45 w =>
  jn1 (fun k2 =>
  gif t45 true
  (bi BinOp.eql t33 t41 fun t49 =>
  k2 t49 w)
  (k2 undef w)) fun _ t49_1 w =>
  pik t45 t49_1 (Value.bool false) fun t50 =>
  jn1 (fun k3 =>
  gif t50 true
  (bi BinOp.eql t34 t42 fun t54 =>
  k3 t54 w)
  (k3 undef w)) fun _ t54_1 w =>
  pik t50 t54_1 (Value.bool false) fun t55 =>
  R t55 w)
theorem e_law17_SnowRuns (t0 t1 t2 : Value) (w : World) (R : Value → World → Prop) : intp P A_law17_SnowRuns (bodyOf Try.f3) (ini [t0, t1, t2]) w (retK P Try.f3.results.toList R) (fun _ _ _ => False) (retK P Try.f3.results.toList R) = c_law17_SnowRuns t0 t1 t2 w R := by kernel_rfl
theorem k_law17_SnowRuns : chk P Try.f3.ntmps A_law17_SnowRuns (bodyOf Try.f3) = true := by kernel_rfl
theorem l_law17_SnowRuns {t0 t1 t2 : Value} {w : World} {R : Value → World → Prop} (h : c_law17_SnowRuns t0 t1 t2 w R) : cal P f_law17_SnowRuns [t0, t1, t2] w R :=
  calls_of mixed Try.func3 rfl (by kernel_rfl) k_law17_SnowRuns (Eq.mpr (e_law17_SnowRuns t0 t1 t2 w R) h)
theorem s_law17_SnowRuns {t0 t1 t2 : Value} {w : World} {Q : Value → World → Prop} (h : ∀ R : Value → World → Prop, (∀ v w', Q v w' → R v w') → c_law17_SnowRuns t0 t1 t2 w R) : cal P f_law17_SnowRuns [t0, t1, t2] w Q := l_law17_SnowRuns (h Q fun _ _ h => h)

/-- flurry/flurrylaw17.SnowOnly -/
def A_law17_SnowOnly : An := (An.s (An.r []) (An.s (An.s (An.r [[15]]) (An.s (An.s (An.r []) An.o) An.o)) (An.s (An.r []) (An.s (An.s (An.r []) (An.b (An.l [5, 6, 19] (An.s (An.r []) (An.s (An.s An.o An.o) (An.s (An.j [5, 6] (An.b (An.s (An.r []) (An.s (An.r []) (An.s (An.r []) (An.s (An.r []) (An.s (An.r []) An.o))))))) (An.r []))))))) (An.s (An.r [[45], [52]]) An.o)))))
def c_law17_SnowOnly (t0 t1 : Value) (w : World) (R : Value → World → Prop) : Prop :=
  bx T_api_Params t0 w fun t2 w =>
  bx T_a3_uint8 t1 w fun t3 w =>
  cal P f_law17_live [] w fun t10 w =>
  notB t10 fun t11 =>
  jn1 (fun k0 =>
  gif t11 false
  (ldN 4 t2 w.heap fun t13 =>
  cal P f_snow_Params [t13] w fun t14 w =>
  bi BinOp.neq t14 (Value.int IntKind.i64 0) fun t15 =>
  k0 t15 w)
  (k0 undef w)) fun _ t15_1 w =>
  pik t11 (Value.bool true) t15_1 fun t16 =>
  cnd t16
  (cal P f_law17_live [] w fun t17 w =>
  R t17 w)
  (ldN 3 t3 w.heap fun t18 =>
  lp3 (Value.int IntKind.i64 0) (Value.int IntKind.i64 0) (Value.int IntKind.i64 0) w fun _ t5 t6 t19 w again1 =>
  bi BinOp.lss t19 (Value.int IntKind.i64 3) fun t20 =>
  cnd t20
  (jn2 (fun k2 =>
  ixv 3 1 false t18 t19 fun t21 =>
  cvi IntKind.i64 t21 fun t23 =>
  fad 0 t2 fun t24 =>
  ld1 t24 w.heap fun t25 =>
  bi BinOp.sub t25 t5 fun t27 =>
  rdP P (Builtin.min_ #[T_int, T_int] T_int #[t23, t27]) w fun t28 =>
  bi BinOp.add t5 t28 fun t31 =>
  fad 1 t2 fun t33 =>
  ld1 t33 w.heap fun t34 =>
  bi BinOp.geq t28 t34 fun t35 =>
  cnd t35
  (bi BinOp.add t6 (Value.int IntKind.i64 1) fun t37 =>
  k2 t31 t37 w)
  (k2 t31 t6 w)) fun _ t5_1 t6_1 w =>
  bi BinOp.add t19 (Value.int IntKind.i64 1) fun t38 =>
  again1 t5_1 t6_1 t38 w)
  (bi BinOp.leq t6 (Value.int IntKind.i64 1) fun t40 =>
  jn1 (fun k3 =>
  gif t40 true
  (fad 0 t2 fun t43 =>
  ld1 t43 w.heap fun t44 =>
  bi BinOp.leq t5 t44 fun t45 =>
  k3 t45 w)
  (k3 undef w)) fun _ t45_1 w =>
  pik t40 t45_1 (Value.bool false) fun t46 =>
  jn1 (fun k4 =>
  gif t46 true
  (fad 2 t2 fun t48 =>
  ld1 t48 w.heap fun t49 =>
  fad 1 t2 fun t50 =>
  ld1 t50 w.heap fun t51 =>
  bi BinOp.geq t49 t51 fun t52 =>
  k4 t52 w)
  (k4 undef w)) fun _ t52_1 w =>
  pik t46 t52_1 (Value.bool false) fun t53 =>
  R t53 w))
theorem e_law17_SnowOnly (t0 t1 : Value) (w : World) (R : Value → World → Prop) : intp P A_law17_SnowOnly (bodyOf Try.f4) (ini [t0, t1]) w (retK P Try.f4.results.toList R) (fun _ _ _ => False) (retK P Try.f4.results.toList R) = c_law17_SnowOnly t0 t1 w R := by kernel_rfl
theorem k_law17_SnowOnly : chk P Try.f4.ntmps A_law17_SnowOnly (bodyOf Try.f4) = true := by kernel_rfl
theorem l_law17_SnowOnly {t0 t1 : Value} {w : World} {R : Value → World → Prop} (h : c_law17_SnowOnly t0 t1 w R) : cal P f_law17_SnowOnly [t0, t1] w R :=
  calls_of mixed Try.func4 rfl (by kernel_rfl) k_law17_SnowOnly (Eq.mpr (e_law17_SnowOnly t0 t1 w R) h)
theorem s_law17_SnowOnly {t0 t1 : Value} {w : World} {Q : Value → World → Prop} (h : ∀ R : Value → World → Prop, (∀ v w', Q v w' → R v w') → c_law17_SnowOnly t0 t1 w R) : cal P f_law17_SnowOnly [t0, t1] w Q := l_law17_SnowOnly (h Q fun _ _ h => h)

/-- flurry/flurrylaw17.SnowGoes -/
def A_law17_SnowGoes : An := (An.s (An.r []) (An.s (An.s (An.r [[31]]) (An.s (An.s (An.r []) An.o) An.o)) (An.s (An.r []) (An.s (An.r []) (An.s (An.r []) (An.s (An.r []) (An.s (An.r []) (An.s (An.r []) (An.s (An.r []) (An.s (An.s (An.r [[85], [91], [96], [102], [107]]) (An.s (An.s (An.r []) An.o) An.o)) (An.s (An.s (An.r []) (An.b (An.l [114] (An.s (An.r []) (An.s (An.s An.o An.o) (An.s (An.b (An.s (An.r []) (An.s (An.r []) (An.b (An.l [121] (An.s (An.r []) (An.s (An.s An.o An.o) (An.s (An.b (An.s (An.r []) (An.r []))) (An.r []))))))))) (An.r []))))))) (An.s (An.r []) An.o))))))))))))
def c_law17_SnowGoes (t0 t1 t2 t3 : Value) (w : World) (R : Value → World → Prop) : Prop :=
  bx T_api_Params t0 w fun t4 w =>
  bx T_api_Snow t1 w fun t5 w =>
  bx T_api_ID t2 w fun t6 w =>
  cal P f_law17_live [] w fun t25 w =>
  notB t25 fun t26 =>
  jn1 (fun k0 =>
  gif t26 false
  (ldN 67 t5 w.heap fun t28 =>
  efP P (Instr.buildSlice T_sl_api_Snow 1 #[(0, t28)]) w fun t29 w =>
  cal P f_law17_few [t29] w fun t30 w =>
  notB t30 fun t31 =>
  k0 t31 w)
  (k0 undef w)) fun _ t31_1 w =>
  pik t26 (Value.bool true) t31_1 fun t32 =>
  cnd t32
  (cal P f_law17_live [] w fun t33 w =>
  R t33 w)
  (ldN 67 t5 w.heap fun t34 =>
  cal P f_ref17_Clone [t34] w fun t35 w =>
  efP P (Instr.alloc T_api_Snow true (.tuple #[])) w fun t9 w =>
  stN 67 t9 t35 w fun w =>
  ldN 4 t4 w.heap fun t37 =>
  ldN 67 t5 w.heap fun t38 =>
  ldN 32 t6 w.heap fun t39 =>
  cal P f_snow_Add [t37, t38, t39] w fun t40 w =>
  ext 0 t40 fun t41 =>
  ext 1 t40 fun t42 =>
  efP P (Instr.alloc T_api_Snow true (.tuple #[])) w fun t10 w =>
  stN 67 t10 t41 w fun w =>
  ldN 4 t4 w.heap fun t44 =>
  ldN 67 t5 w.heap fun t45 =>
  ldN 32 t6 w.heap fun t46 =>
  cal P f_ref17_Add [t44, t45, t46] w fun t47 w =>
  ext 0 t47 fun t48 =>
  ext 1 t47 fun t49 =>
  efP P (Instr.alloc T_api_Snow true (.tuple #[])) w fun t12 w =>
  stN 67 t12 t48 w fun w =>
  ldN 4 t4 w.heap fun t51 =>
  ldN 67 t5 w.heap fun t52 =>
  ldN 32 t6 w.heap fun t53 =>
  cal P f_snow_Poll [t51, t52, t53, t3] w fun t55 w =>
  ext 0 t55 fun t56 =>
  ext 1 t55 fun t57 =>
  efP P (Instr.alloc T_api_Snow true (.tuple #[])) w fun t14 w =>
  stN 67 t14 t56 w fun w =>
  ldN 4 t4 w.heap fun t59 =>
  ldN 67 t5 w.heap fun t60 =>
  ldN 32 t6 w.heap fun t61 =>
  cal P f_ref17_Poll [t59, t60, t61, t3] w fun t63 w =>
  ext 0 t63 fun t64 =>
  ext 1 t63 fun t65 =>
  efP P (Instr.alloc T_api_Snow true (.tuple #[])) w fun t16 w =>
  stN 67 t16 t64 w fun w =>
  ldN 4 t4 w.heap fun t67 =>
  ldN 67 t5 w.heap fun t68 =>
  cal P f_snow_Fail [t67, t68] w fun t69 w =>
  ext 0 t69 fun t70 =>
  ext 1 t69 fun t71 =>
  efP P (Instr.alloc T_api_Snow true (.tuple #[])) w fun t18 w =>
  stN 67 t18 t70 w fun w =>
  ldN 4 t4 w.heap fun t73 =>
  ldN 67 t5 w.heap fun t74 =>
  cal P f_ref17_Fail [t73, t74] w fun t75 w =>
  ext 0 t75 fun t76 =>
  ext 1 t75 fun t77 =>
  efP P (Instr.alloc T_api_Snow true (.tuple #[])) w fun t20 w =>
  stN 67 t20 t76 w fun w =>
  ldN 67 t10 w.heap fun t78 =>
  ldN 67 t12 w.heap fun t79 =>
  cal P f_ref17_Same [t78, t79] w fun t80 w =>
  notB t80 fun t81 =>
  jn1 (fun k1 =>
  gif t81 false
  (bi BinOp.neq t42 t49 fun t85 =>
  k1 t85 w)
  (k1 undef w)) fun _ t85_1 w =>
  pik t81 (Value.bool true) t85_1 fun t86 =>
  jn1 (fun k2 =>
  gif t86 false
  (ldN 67 t14 w.heap fun t88 =>
  ldN 67 t16 w.heap fun t89 =>
  cal P f_ref17_Same [t88, t89] w fun t90 w =>
  notB t90 fun t91 =>
  k2 t91 w)
  (k2 undef w)) fun _ t91_1 w =>
  pik t86 (Value.bool true) t91_1 fun t92 =>
  jn1 (fun k3 =>
  gif t92 false
  (bi BinOp.neq t57 t65 fun t96 =>
  k3 t96 w)
  (k3 undef w)) fun _ t96_1 w =>
  pik t92 (Value.bool true) t96_1 fun t97 =>
  jn1 (fun k4 =>
  gif t97 false
  (ldN 67 t18 w.heap fun t99 =>
  ldN 67 t20 w.heap fun t100 =>
  cal P f_ref17_Same [t99, t100] w fun t101 w =>
  notB t101 fun t102 =>
  k4 t102 w)
  (k4 undef w)) fun _ t102_1 w =>
  pik t97 (Value.bool true) t102_1 fun t103 =>
  jn1 (fun k5 =>
  gif t103 false
  (bi BinOp.neq t71 t77 fun t107 =>
  k5 t107 w)
  (k5 undef w)) fun _ t107_1 w =>
  pik t103 (Value.bool true) t107_1 fun t108 =>
  cnd t108
  (R (Value.bool false) w)
  (ldN 67 t10 w.heap fun t109 =>
  ldN 67 t14 w.heap fun t110 =>
  ldN 67 t18 w.heap fun t111 =>
  efP P (Instr.buildSlice T_sl_api_Snow 3 #[(0, t109), (1, t110), (2, t111)]) w fun t112 w =>
  lenS t112 fun t113 =>
  lp1 (Value.int IntKind.i64 0) w fun _ t114 w again6 =>
  bi BinOp.lss t114 t113 fun t115 =>
  cnd t115
  (ixs 67 t112 t114 fun t116 =>
  ldN 67 t116 w.heap fun t117 =>
  efP P (Instr.alloc T_api_Snow true (.tuple #[])) w fun t23 w =>
  stN 67 t23 t117 w fun w =>
  fad 0 t23 fun t118 =>
  ld1 t118 w.heap fun t119 =>
  lenS t119 fun t120 =>
  lp1 (Value.int IntKind.i64 0) w fun _ t121 w again7 =>
  bi BinOp.lss t121 t120 fun t122 =>
  cnd t122
  (fad 0 t23 fun t124 =>
  ld1 t124 w.heap fun t125 =>
  ixs 33 t125 t121 fun t127 =>
  fad 32 t127 fun t128 =>
  ld1 t128 w.heap fun t129 =>
  bi BinOp.xor t129 (Value.int IntKind.i64 1) fun t130 =>
  ixs 33 t125 t121 fun t131 =>
  fad 32 t131 fun t132 =>
  st1 t132 t130 w fun w =>
  bi BinOp.add t121 (Value.int IntKind.i64 1) fun t133 =>
  again7 t133 w)
  (bi BinOp.add t114 (Value.int IntKind.i64 1) fun t134 =>
  again6 t134 w))
  (ldN 67 t5 w.heap fun t135 =>
  ldN 67 t9 w.heap fun t136 =>
  cal P f_ref17_Same [t135, t136] w fun t137 w =>
  R t137 w)))
theorem e_law17_SnowGoes (t0 t1 t2 t3 : Value) (w : World) (R : Value → World → Prop) : intp P A_law17_SnowGoes (bodyOf Try.f5) (ini [t0, t1, t2, t3]) w (retK P Try.f5.results.toList R) (fun _ _ _ => False) (retK P Try.f5.results.toList R) = c_law17_SnowGoes t0 t1 t2 t3 w R := by kernel_rfl
theorem k_law17_SnowGoes : chk P Try.f5.ntmps A_law17_SnowGoes (bodyOf Try.f5) = true := by kernel_rfl
theorem l_law17_SnowGoes {t0 t1 t2 t3 : Value} {w : World} {R : Value → World → Prop} (h : c_law17_SnowGoes t0 t1 t2 t3 w R) : cal P f_law17_SnowGoes [t0, t1, t2, t3] w R :=
  calls_of mixed Try.func5 rfl (by kernel_rfl) k_law17_SnowGoes (Eq.mpr (e_law17_SnowGoes t0 t1 t2 t3 w R) h)
theorem s_law17_SnowGoes {t0 t1 t2 t3 : Value} {w : World} {Q : Value → World → Prop} (h : ∀ R : Value → World → Prop, (∀ v w', Q v w' → R v w') → c_law17_SnowGoes t0 t1 t2 t3 w R) : cal P f_law17_SnowGoes [t0, t1, t2, t3] w Q := l_law17_SnowGoes (h Q fun _ _ h => h)

/-- flurry/flurrylaw17.SnowMay -/
def A_law17_SnowMay : An := (An.s (An.r []) (An.s (An.s (An.r [[20], [25], [31]]) (An.s (An.s (An.r []) An.o) An.o)) (An.s (An.s (An.r []) (An.b (An.l [36] (An.s (An.r []) (An.s (An.s An.o An.o) (An.s (An.b (An.s (An.r []) (An.s (An.r []) (An.s (An.s (An.r [[59]]) (An.s (An.s (An.r []) An.o) An.o)) (An.s (An.s (An.r []) (An.b (An.l [64] (An.s (An.r []) (An.s (An.s An.o An.o) (An.s (An.b (An.s (An.r []) (An.s (An.d [0, 1, 2, 3, 4, 5, 6, 7, 8, 9, 10, 11, 12, 13, 14, 15, 16, 17, 18, 19, 20, 21, 22, 23, 24, 25, 26] [[87], [94]]) (An.s (An.s (An.r []) An.o) An.o)))) (An.r []))))))) (An.r [])))))) (An.r []))))))) (An.s (An.r []) An.o))))
def c_law17_SnowMay (t0 t1 t2 : Value) (w : World) (R : Value → World → Prop) : Prop :=
  bx T_api_Params t0 w fun t3 w =>
  bx T_api_Snow t1 w fun t4 w =>
  cal P f_law17_live [] w fun t14 w =>
  notB t14 fun t15 =>
  jn1 (fun k0 =>
  gif t15 false
  (ldN 67 t4 w.heap fun t17 =>
  efP P (Instr.buildSlice T_sl_api_Snow 1 #[(0, t17)]) w fun t18 w =>
  cal P f_law17_few [t18] w fun t19 w =>
  notB t19 fun t20 =>
  k0 t20 w)
  (k0 undef w)) fun _ t20_1 w =>
  pik t15 (Value.bool true) t20_1 fun t21 =>
  jn1 (fun k1 =>
  gif t21 false
  (lenS t2 fun t24 =>
  bi BinOp.gtr t24 (Value.int IntKind.i64 100) fun t25 =>
  k1 t25 w)
  (k1 undef w)) fun _ t25_1 w =>
  pik t21 (Value.bool true) t25_1 fun t26 =>
  jn1 (fun k2 =>
  gif t26 false
  (ldN 4 t3 w.heap fun t28 =>
  ldN 67 t4 w.heap fun t29 =>
  cal P f_snow_Check [t28, t29] w fun t30 w =>
  bi BinOp.neq t30 (Value.int IntKind.i64 0) fun t31 =>
  k2 t31 w)
  (k2 undef w)) fun _ t31_1 w =>
  pik t26 (Value.bool true) t31_1 fun t32 =>
  cnd t32
  (cal P f_law17_live [] w fun t33 w =>
  R t33 w)
  (lenS t2 fun t35 =>
  lp1 (Value.int IntKind.i64 0) w fun _ t36 w again3 =>
  bi BinOp.lss t36 t35 fun t37 =>
  cnd t37
  (ixs 35 t2 t36 fun t38 =>
  ldN 35 t38 w.heap fun t39 =>
  efP P (Instr.alloc T_flurrylaw17_Act true (.tuple #[])) w fun t8 w =>
  stN 35 t8 t39 w fun w =>
  ldN 4 t3 w.heap fun t41 =>
  ldN 67 t4 w.heap fun t42 =>
  ldN 35 t8 w.heap fun t43 =>
  cal P f_law17_step [t41, t42, t43] w fun t44 w =>
  ext 0 t44 fun t45 =>
  ext 1 t44 fun t46 =>
  ext 2 t44 fun t47 =>
  efP P (Instr.alloc T_api_Snow true (.tuple #[])) w fun t9 w =>
  efP P (Instr.alloc T_api_ID true (.tuple #[])) w fun t10 w =>
  stN 67 t9 t45 w fun w =>
  stN 32 t10 t46 w fun w =>
  ldN 4 t3 w.heap fun t48 =>
  ldN 67 t9 w.heap fun t49 =>
  cal P f_snow_Check [t48, t49] w fun t50 w =>
  bi BinOp.neq t50 (Value.int IntKind.i64 0) fun t51 =>
  jn1 (fun k4 =>
  gif t51 false
  (fad 0 t9 fun t53 =>
  ld1 t53 w.heap fun t54 =>
  lenS t54 fun t55 =>
  fad 0 t4 fun t56 =>
  ld1 t56 w.heap fun t57 =>
  lenS t57 fun t58 =>
  bi BinOp.lss t55 t58 fun t59 =>
  k4 t59 w)
  (k4 undef w)) fun _ t59_1 w =>
  pik t51 (Value.bool true) t59_1 fun t60 =>
  cnd t60
  (R (Value.bool false) w)
  (fad 0 t4 fun t61 =>
  ld1 t61 w.heap fun t62 =>
  lenS t62 fun t63 =>
  lp1 (Value.int IntKind.i64 0) w fun _ t64 w again5 =>
  bi BinOp.lss t64 t63 fun t65 =>
  cnd t65
  (ixs 33 t62 t64 fun t67 =>
  ldN 33 t67 w.heap fun t68 =>
  efP P (Instr.alloc T_api_Choice true (.tuple #[])) w fun t13 w =>
  stN 33 t13 t68 w fun w =>
  drH w fun S w =>
  fad 0 t9 fun t69 =>
  rdS S (fun w => ld1 t69 w.heap) fun t70 =>
  ixs 33 t70 t64 fun t72 =>
  fad 0 t72 fun t73 =>
  rdS S (fun w => ldN 32 t73 w.heap) fun t74 =>
  fad 0 t13 fun t75 =>
  rdS S (fun w => ldN 32 t75 w.heap) fun t76 =>
  rdS S (rdP P (eqS BinOp.neq T_api_ID (Operand.tmp 74) (Operand.tmp 76) t74 t76)) fun t77 =>
  jn1 (fun k6 =>
  gif t77 false
  (fad 0 t9 fun t79 =>
  rdS S (fun w => ld1 t79 w.heap) fun t80 =>
  ixs 33 t80 t64 fun t82 =>
  fad 32 t82 fun t83 =>
  rdS S (fun w => ld1 t83 w.heap) fun t84 =>
  fad 32 t13 fun t85 =>
  rdS S (fun w => ld1 t85 w.heap) fun t86 =>
  bi BinOp.lss t84 t86 fun t87 =>
  k6 t87 w)
  (k6 undef w)) fun _ t87_1 w =>
  pik t77 (Value.bool true) t87_1 fun t88 =>
  jn1 (fun k7 =>
  gif t88 false
  (rdS S (fun w => ldN 67 t9 w.heap) fun t90 =>
  fad 0 t13 fun t91 =>
  rdS S (fun w => ldN 32 t91 w.heap) fun t92 =>
  efS S (cal P f_snow_Has [t90, t92]) w fun t93 w =>
  notB t93 fun t94 =>
  k7 t94 w)
  (k7 undef w)) fun _ t94_1 w =>
  pik t88 (Value.bool true) t94_1 fun t95 =>
  cnd t95
  (R (Value.bool false) w)
  (bi BinOp.add t64 (Value.int IntKind.i64 1) fun t96 =>
  again5 t96 w))
  (ldN 67 t9 w.heap fun t97 =>
  stN 67 t4 t97 w fun w =>
  bi BinOp.add t36 (Value.int IntKind.i64 1) fun t98 =>
  again3 t98 w)))
  (R (Value.bool true) w))
theorem e_law17_SnowMay (t0 t1 t2 : Value) (w : World) (R : Value → World → Prop) : intp P A_law17_SnowMay (bodyOf Try.f6) (ini [t0, t1, t2]) w (retK P Try.f6.results.toList R) (fun _ _ _ => False) (retK P Try.f6.results.toList R) = c_law17_SnowMay t0 t1 t2 w R := by kernel_rfl
theorem k_law17_SnowMay : chk P Try.f6.ntmps A_law17_SnowMay (bodyOf Try.f6) = true := by kernel_rfl
theorem l_law17_SnowMay {t0 t1 t2 : Value} {w : World} {R : Value → World → Prop} (h : c_law17_SnowMay t0 t1 t2 w R) : cal P f_law17_SnowMay [t0, t1, t2] w R :=
  calls_of mixed Try.func6 rfl (by kernel_rfl) k_law17_SnowMay (Eq.mpr (e_law17_SnowMay t0 t1 t2 w R) h)
theorem s_law17_SnowMay {t0 t1 t2 : Value} {w : World} {Q : Value → World → Prop} (h : ∀ R : Value → World → Prop, (∀ v w', Q v w' → R v w') → c_law17_SnowMay t0 t1 t2 w R) : cal P f_law17_SnowMay [t0, t1, t2] w Q := l_law17_SnowMay (h Q fun _ _ h => h)

/-- flurry/flurrylaw17.SnowRow -/
def A_law17_SnowRow : An := (An.s (An.r []) (An.s (An.r []) (An.s (An.s (An.r [[27], [32]]) (An.s (An.s (An.r []) An.o) An.o)) (An.s (An.r []) (An.s (An.r []) (An.s (An.r []) (An.s (An.s (An.r []) (An.b (An.l [9, 11, 37] (An.s (An.r []) (An.s (An.s An.o An.o) (An.s (An.b (An.s (An.r []) (An.s (An.r []) (An.s (An.j [9] (An.b (An.s (An.r []) (An.s An.o (An.s (An.r []) (An.s (An.r []) (An.s (An.r []) (An.s (An.r []) (An.r []))))))))) (An.s (An.j [] (An.s (An.r []) (An.s (An.r []) An.o))) (An.s (An.j [11] (An.s (An.r [[74]]) (An.s (An.s (An.r []) (An.s (An.d [0, 1, 2, 3, 4, 6, 5, 7, 8] [[83]]) (An.s (An.s (An.r []) An.o) An.o))) An.o))) (An.s (An.s (An.d [0, 1, 2, 3, 4, 5, 6, 7, 9, 8, 10, 11, 12, 13, 14, 15, 16, 17, 18, 19, 20, 21, 22, 23] [[91], [96], [98], [102], [104], [106], [107]]) (An.s (An.s (An.r []) An.o) An.o)) (An.r [])))))))) (An.r []))))))) (An.s (An.r []) An.o))))))))
def c_law17_SnowRow (t0 t1 t2 : Value) (w : World) (R : Value → World → Prop) : Prop :=
  bx T_api_Params t0 w fun t3 w =>
  bx T_api_ID t1 w fun t4 w =>
  ldN 4 t3 w.heap fun t18 =>
  ldN 32 t4 w.heap fun t19 =>
  cal P f_snow_New [t18, t19] w fun t20 w =>
  ext 0 t20 fun t21 =>
  ext 1 t20 fun t22 =>
  efP P (Instr.alloc T_api_Snow true (.tuple #[])) w fun t7 w =>
  stN 67 t7 t21 w fun w =>
  cal P f_law17_live [] w fun t23 w =>
  notB t23 fun t24 =>
  jn1 (fun k0 =>
  gif t24 false
  (bi BinOp.neq t22 (Value.int IntKind.i64 0) fun t27 =>
  k0 t27 w)
  (k0 undef w)) fun _ t27_1 w =>
  pik t24 (Value.bool true) t27_1 fun t28 =>
  jn1 (fun k1 =>
  gif t28 false
  (lenS t2 fun t31 =>
  bi BinOp.gtr t31 (Value.int IntKind.i64 200) fun t32 =>
  k1 t32 w)
  (k1 undef w)) fun _ t32_1 w =>
  pik t28 (Value.bool true) t32_1 fun t33 =>
  cnd t33
  (cal P f_law17_live [] w fun t34 w =>
  R t34 w)
  (efP P (Instr.alloc T_api_ID true (.tuple #[])) w fun t10 w =>
  lenS t2 fun t36 =>
  lp3 (Value.int IntKind.i64 0) (Value.bool false) (Value.int IntKind.i64 0) w fun _ t9 t11 t37 w again2 =>
  bi BinOp.lss t37 t36 fun t38 =>
  cnd t38
  (ixs 35 t2 t37 fun t39 =>
  ldN 35 t39 w.heap fun t40 =>
  efP P (Instr.alloc T_flurrylaw17_Act true (.tuple #[])) w fun t13 w =>
  stN 35 t13 t40 w fun w =>
  ldN 4 t3 w.heap fun t42 =>
  ldN 67 t7 w.heap fun t43 =>
  ldN 35 t13 w.heap fun t44 =>
  cal P f_law17_step [t42, t43, t44] w fun t45 w =>
  ext 0 t45 fun t46 =>
  ext 1 t45 fun t47 =>
  ext 2 t45 fun t48 =>
  efP P (Instr.alloc T_api_Snow true (.tuple #[])) w fun t14 w =>
  efP P (Instr.alloc T_api_ID true (.tuple #[])) w fun t15 w =>
  stN 67 t14 t46 w fun w =>
  stN 32 t15 t47 w fun w =>
  jn1 (fun k3 =>
  bi BinOp.lss t48 (Value.int IntKind.i64 0) fun t51 =>
  cnd t51
  (k3 t9 w)
  (fad 2 t3 fun t54 =>
  ld1 t54 w.heap fun t55 =>
  bi BinOp.lss t48 t55 fun t56 =>
  cnd t56
  (k3 (Value.int IntKind.i64 0) w)
  (ldN 32 t15 w.heap fun t58 =>
  ldN 32 t10 w.heap fun t59 =>
  rdP P (eqS BinOp.eql T_api_ID (Operand.tmp 58) (Operand.tmp 59) t58 t59) w fun t60 =>
  cnd t60
  (bi BinOp.add t9 (Value.int IntKind.i64 1) fun t62 =>
  k3 t62 w)
  (k3 (Value.int IntKind.i64 1) w)))) fun _ t9_1 w =>
  jn0 (fun k4 =>
  fad 1 t3 fun t64 =>
  ld1 t64 w.heap fun t65 =>
  bi BinOp.geq t48 t65 fun t66 =>
  cnd t66
  (ldN 32 t15 w.heap fun t67 =>
  stN 32 t10 t67 w fun w =>
  k4 w)
  (k4 w)) fun _ w =>
  jn1 (fun k5 =>
  notB t11 fun t69 =>
  jn1 (fun k6 =>
  gif t69 true
  (fad 3 t3 fun t72 =>
  ld1 t72 w.heap fun t73 =>
  bi BinOp.eql t9_1 t73 fun t74 =>
  k6 t74 w)
  (k6 undef w)) fun _ t74_1 w =>
  pik t69 t74_1 (Value.bool false) fun t75 =>
  cnd t75
  (drH w fun S w =>
  fad 66 t14 fun t76 =>
  rdS S (fun w => ld1 t76 w.heap) fun t77 =>
  notB t77 fun t78 =>
  jn1 (fun k7 =>
  gif t78 false
  (rdS S (fun w => ldN 67 t14 w.heap) fun t80 =>
  rdS S (fun w => ldN 32 t15 w.heap) fun t82 =>
  efS S (cal P f_snow_Prefers [t80]) w fun t81 w =>
  rdS S (rdP P (eqS BinOp.neq T_api_ID (Operand.tmp 81) (Operand.tmp 82) t81 t82)) fun t83 =>
  k7 t83 w)
  (k7 undef w)) fun _ t83_1 w =>
  pik t78 (Value.bool true) t83_1 fun t84 =>
  cnd t84
  (R (Value.bool false) w)
  (k5 (Value.bool true) w))
  (k5 t11 w)) fun _ t11_1 w =>
  drH w fun S w =>
  fad 66 t14 fun t85 =>
  rdS S (fun w => ld1 t85 w.heap) fun t86 =>
  rdS S (rdP P (eqS BinOp.neq T_bool (Operand.tmp 86) (Operand.tmp 87) t86 t11_1)) fun t88 =>
  jn1 (fun k8 =>
  gif t88 false
  (k8 t11_1 w)
  (k8 undef w)) fun _ t91 w =>
  jn1 (fun k9 =>
  gif t91 true
  (rdS S (fun w => ldN 67 t14 w.heap) fun t92 =>
  rdS S (fun w => ldN 67 t7 w.heap) fun t94 =>
  efS S (cal P f_snow_Prefers [t92]) w fun t93 w =>
  efS S (cal P f_snow_Prefers [t94]) w fun t95 w =>
  rdS S (rdP P (eqS BinOp.neq T_api_ID (Operand.tmp 93) (Operand.tmp 95) t93 t95)) fun t96 =>
  k9 t96 w)
  (k9 undef w)) fun _ t96_1 w =>
  jn1 (fun k10 =>
  gif t88 false
  (pik t91 t96_1 (Value.bool false) fun t97 =>
  k10 t97 w)
  (k10 undef w)) fun _ t98 w =>
  jn1 (fun k11 =>
  gif t98 true
  (fad 66 t7 fun t99 =>
  rdS S (fun w => ld1 t99 w.heap) fun t100 =>
  notB t100 fun t101 =>
  k11 t101 w)
  (k11 undef w)) fun _ t102 w =>
  jn1 (fun k12 =>
  gif t102 true
  (fad 66 t14 fun t103 =>
  rdS S (fun w => ld1 t103 w.heap) fun t104 =>
  k12 t104 w)
  (k12 undef w)) fun _ t104_1 w =>
  jn1 (fun k13 =>
  gif t98 true
  (pik t102 t104_1 (Value.bool false) fun t105 =>
  notB t105 fun t106 =>
  k13 t106 w)
  (k13 undef w)) fun _ t106_1 w =>
  jn1 (fun k14 =>
  gif t88 false
  (pik t98 t106_1 (Value.bool false) fun t107 =>
  k14 t107 w)
  (k14 undef w)) fun _ t107_1 w =>
  pik t88 (Value.bool true) t107_1 fun t108 =>
  cnd t108
  (R (Value.bool false) w)
  (ldN 67 t14 w.heap fun t109 =>
  stN 67 t7 t109 w fun w =>
  bi BinOp.add t37 (Value.int IntKind.i64 1) fun t110 =>
  again2 t9_1 t11_1 t110 w))
  (R (Value.bool true) w))
theorem e_law17_SnowRow (t0 t1 t2 : Value) (w : World) (R : Value → World → Prop) : intp P A_law17_SnowRow (bodyOf Try.f7) (ini [t0, t1, t2]) w (retK P Try.f7.results.toList R) (fun _ _ _ => False) (retK P Try.f7.results.toList R) = c_law17_SnowRow t0 t1 t2 w R := by kernel_rfl
theorem k_law17_SnowRow : chk P Try.f7.ntmps A_law17_SnowRow (bodyOf Try.f7) = true := by kernel_rfl
theorem l_law17_SnowRow {t0 t1 t2 : Value} {w : World} {R : Value → World → Prop} (h : c_law17_SnowRow t0 t1 t2 w R) : cal P f_law17_SnowRow [t0, t1, t2] w R :=
  calls_of mixed Try.func7 rfl (by kernel_rfl) k_law17_SnowRow (Eq.mpr (e_law17_SnowRow t0 t1 t2 w R) h)
theorem s_law17_SnowRow {t0 t1 t2 : Value} {w : World} {Q : Value → World → Prop} (h : ∀ R : Value → World → Prop, (∀ v w', Q v w' → R v w') → c_law17_SnowRow t0 t1 t2 w R) : cal P f_law17_SnowRow [t0, t1, t2] w Q := l_law17_SnowRow (h Q fun _ _ h => h)

/-- flurry/flurrylaw17.SnowIs -/
def A_law17_SnowIs : An := (An.s (An.r []) (An.s (An.s (An.r [[20]]) (An.s (An.s (An.r []) An.o) An.o)) (An.s (An.r []) (An.s (An.r []) (An.s (An.dc [0, 2, 1, 3, 4, 5, 6, 7, 9, 10, 8, 11, 12, 13, 14, 15, 16, 18, 19, 17, 20, 21, 22, 23, 24, 25, 26, 27, 28, 29, 30, 31, 32, 33, 34, 35, 36, 37, 38, 39, 41, 40, 42, 43, 44, 45, 46, 47, 49, 50, 48, 51, 52, 53, 54, 55] [3] [[47], [56], [61], [66], [71], [78], [88]]) An.o)))))
def c_law17_SnowIs (t0 t1 t2 t3 : Value) (w : World) (R : Value → World → Prop) : Prop :=
  bx T_api_Params t0 w fun t4 w =>
  bx T_api_Snow t1 w fun t5 w =>
  bx T_api_Snow t2 w fun t6 w =>
  bx T_api_ID t3 w fun t7 w =>
  cal P f_law17_live [] w fun t13 w =>
  notB t13 fun t14 =>
  jn1 (fun k0 =>
  gif t14 false
  (ldN 67 t5 w.heap fun t16 =>
  ldN 67 t6 w.heap fun t17 =>
  efP P (Instr.buildSlice T_sl_api_Snow 2 #[(0, t16), (1, t17)]) w fun t18 w =>
  cal P f_law17_few [t18] w fun t19 w =>
  notB t19 fun t20 =>
  k0 t20 w)
  (k0 undef w)) fun _ t20_1 w =>
  pik t14 (Value.bool true) t20_1 fun t21 =>
  cnd t21
  (cal P f_law17_live [] w fun t22 w =>
  R t22 w)
  (ldN 4 t4 w.heap fun t24 =>
  ldN 32 t7 w.heap fun t25 =>
  cal P f_snow_New [t24, t25] w fun t26 w =>
  ext 0 t26 fun t27 =>
  ext 1 t26 fun t28 =>
  efP P (Instr.alloc T_api_Snow true (.tuple #[])) w fun t9 w =>
  stN 67 t9 t27 w fun w =>
  ldN 4 t4 w.heap fun t30 =>
  ldN 32 t7 w.heap fun t31 =>
  cal P f_ref17_New [t30, t31] w fun t32 w =>
  ext 0 t32 fun t33 =>
  ext 1 t32 fun t34 =>
  efP P (Instr.alloc T_api_Snow true (.tuple #[])) w fun t11 w =>
  stN 67 t11 t33 w fun w =>
  drH w fun S w =>
  rdS S (fun w => ldN 4 t4 w.heap) fun t35 =>
  rdS S (fun w => ldN 4 t4 w.heap) fun t37 =>
  efS S (cal P f_snow_Params [t35]) w fun t36 w =>
  efC (cal P f_ref17_Params [t37]) w fun S t38 w =>
  bi BinOp.eql t36 t38 fun t39 =>
  jn1 (fun k1 =>
  gif t39 true
  (rdS S (fun w => ldN 4 t4 w.heap) fun t41 =>
  rdS S (fun w => ldN 67 t5 w.heap) fun t42 =>
  rdS S (fun w => ldN 4 t4 w.heap) fun t44 =>
  rdS S (fun w => ldN 67 t5 w.heap) fun t45 =>
  efS S (cal P f_snow_Check [t41, t42]) w fun t43 w =>
  efS S (cal P f_ref17_Check [t44, t45]) w fun t46 w =>
  bi BinOp.eql t43 t46 fun t47 =>
  k1 t47 w)
  (k1 undef w)) fun _ t47_1 w =>
  pik t39 t47_1 (Value.bool false) fun t48 =>
  jn1 (fun k2 =>
  gif t48 true
  (rdS S (fun w => ldN 67 t5 w.heap) fun t50 =>
  rdS S (fun w => ldN 67 t6 w.heap) fun t51 =>
  rdS S (fun w => ldN 67 t5 w.heap) fun t53 =>
  rdS S (fun w => ldN 67 t6 w.heap) fun t54 =>
  efS S (cal P f_snow_Same [t50, t51]) w fun t52 w =>
  efS S (cal P f_ref17_Same [t53, t54]) w fun t55 w =>
  rdS S (rdP P (eqS BinOp.eql T_bool (Operand.tmp 52) (Operand.tmp 55) t52 t55)) fun t56 =>
  k2 t56 w)
  (k2 undef w)) fun _ t56_1 w =>
  pik t48 t56_1 (Value.bool false) fun t57 =>
  jn1 (fun k3 =>
  gif t57 true
  (rdS S (fun w => ldN 67 t5 w.heap) fun t59 =>
  rdS S (fun w => ldN 67 t5 w.heap) fun t60 =>
  efS S (cal P f_snow_Same [t59, t60]) w fun t61 w =>
  k3 t61 w)
  (k3 undef w)) fun _ t61_1 w =>
  pik t57 t61_1 (Value.bool false) fun t62 =>
  jn1 (fun k4 =>
  gif t62 true
  (rdS S (fun w => ldN 67 t9 w.heap) fun t64 =>
  rdS S (fun w => ldN 67 t11 w.heap) fun t65 =>
  efS S (cal P f_ref17_Same [t64, t65]) w fun t66 w =>
  k4 t66 w)
  (k4 undef w)) fun _ t66_1 w =>
  pik t62 t66_1 (Value.bool false) fun t67 =>
  jn1 (fun k5 =>
  gif t67 true
  (bi BinOp.eql t28 t34 fun t71 =>
  k5 t71 w)
  (k5 undef w)) fun _ t71_1 w =>
  pik t67 t71_1 (Value.bool false) fun t72 =>
  jn1 (fun k6 =>
  gif t72 true
  (rdS S (fun w => ldN 67 t5 w.heap) fun t74 =>
  rdS S (fun w => ldN 67 t5 w.heap) fun t76 =>
  efS S (cal P f_snow_Prefers [t74]) w fun t75 w =>
  efS S (cal P f_ref17_Prefers [t76]) w fun t77 w =>
  rdS S (rdP P (eqS BinOp.eql T_api_ID (Operand.tmp 75) (Operand.tmp 77) t75 t77)) fun t78 =>
  k6 t78 w)
  (k6 undef w)) fun _ t78_1 w =>
  pik t72 t78_1 (Value.bool false) fun t79 =>
  jn1 (fun k7 =>
  gif t79 true
  (rdS S (fun w => ldN 67 t5 w.heap) fun t81 =>
  rdS S (fun w => ldN 32 t7 w.heap) fun t82 =>
  rdS S (fun w => ldN 67 t5 w.heap) fun t84 =>
  rdS S (fun w => ldN 32 t7 w.heap) fun t85 =>
  efS S (cal P f_snow_Has [t81, t82]) w fun t83 w =>
  efS S (cal P f_ref17_Place [t84, t85]) w fun t86 w =>
  bi BinOp.geq t86 (Value.int IntKind.i64 0) fun t87 =>
  rdS S (rdP P (eqS BinOp.eql T_bool (Operand.tmp 83) (Operand.tmp 87) t83 t87)) fun t88 =>
  k7 t88 w)
  (k7 undef w)) fun _ t88_1 w =>
  pik t79 t88_1 (Value.bool false) fun t89 =>
  R t89 w)
theorem e_law17_SnowIs (t0 t1 t2 t3 : Value) (w : World) (R : Value → World → Prop) : intp P A_law17_SnowIs (bodyOf Try.f8) (ini [t0, t1, t2, t3]) w (retK P Try.f8.results.toList R) (fun _ _ _ => False) (retK P Try.f8.results.toList R) = c_law17_SnowIs t0 t1 t2 t3 w R := by kernel_rfl
theorem k_law17_SnowIs : chk P Try.f8.ntmps A_law17_SnowIs (bodyOf Try.f8) = true := by kernel_rfl
theorem l_law17_SnowIs {t0 t1 t2 t3 : Value} {w : World} {R : Value → World → Prop} (h : c_law17_SnowIs t0 t1 t2 t3 w R) : cal P f_law17_SnowIs [t0, t1, t2, t3] w R :=
  calls_of mixed Try.func8 rfl (by kernel_rfl) k_law17_SnowIs (Eq.mpr (e_law17_SnowIs t0 t1 t2 t3 w R) h)
theorem s_law17_SnowIs {t0 t1 t2 t3 : Value} {w : World} {Q : Value → World → Prop} (h : ∀ R : Value → World → Prop, (∀ v w', Q v w' → R v w') → c_law17_SnowIs t0 t1 t2 t3 w R) : cal P f_law17_SnowIs [t0, t1, t2, t3] w Q := l_law17_SnowIs (h Q fun _ _ h => h)

/-- flurry/flurrylaw17.SnowStays -/
def A_law17_SnowStays : An := (An.s (An.r []) (An.s (An.s (An.r [[20], [25], [31]]) (An.s (An.s (An.r []) An.o) An.o)) (An.s (An.s (An.r []) (An.b (An.l [36] (An.s (An.r []) (An.s (An.s An.o An.o) (An.s (An.b (An.s (An.r []) (An.s (An.r []) (An.s (An.dt (Pl.step 0 (Pl.step 2 (Pl.br (Pl.alt 1 (Pl.br (Pl.alt 3 (Pl.br (Pl.alt 4 (Pl.step 5 (Pl.step 6 (Pl.step 7 Pl.nil))) (Pl.alt 5 (Pl.step 4 (Pl.step 6 (Pl.step 7 Pl.nil))) Pl.non))) (Pl.alt 4 (Pl.br (Pl.alt 3 (Pl.step 5 (Pl.step 6 (Pl.step 7 Pl.nil))) (Pl.alt 5 (Pl.step 3 (Pl.step 6 (Pl.step 7 Pl.nil))) Pl.non))) (Pl.alt 5 (Pl.br (Pl.alt 3 (Pl.step 4 (Pl.step 6 (Pl.step 7 Pl.nil))) (Pl.alt 4 (Pl.step 3 (Pl.step 6 (Pl.step 7 Pl.nil))) Pl.non))) Pl.non)))) (Pl.alt 4 (Pl.br (Pl.alt 1 (Pl.br (Pl.alt 3 (Pl.step 5 (Pl.step 6 (Pl.step 7 Pl.nil))) (Pl.alt 5 (Pl.step 3 (Pl.step 6 (Pl.step 7 Pl.nil))) Pl.non))) (Pl.alt 5 (Pl.step 1 (Pl.step 3 (Pl.step 6 (Pl.step 7 Pl.nil)))) Pl.non))) (Pl.alt 5 (Pl.br (Pl.alt 1 (Pl.br (Pl.alt 3 (Pl.step 4 (Pl.step 6 (Pl.step 7 Pl.nil))) (Pl.alt 4 (Pl.step 3 (Pl.step 6 (Pl.step 7 Pl.nil))) Pl.non))) (Pl.alt 4 (Pl.step 1 (Pl.step 3 (Pl.step 6 (Pl.step 7 Pl.nil)))) Pl.non))) Pl.non)))))) [3, 6, 7] [12, 13]) (An.s (An.s (An.d [0, 1, 2, 3, 4, 5, 6, 7, 8, 9, 10, 11, 12, 13, 14, 15, 16, 17, 18, 19, 20, 22, 23, 21, 24, 25, 26, 27, 28, 29, 30, 31, 32] [[58], [61], [63], [66], [68], [78], [81], [83]]) (An.s (An.s (An.r []) An.o) An.o)) (An.s (An.s (An.r [[90], [96]]) (An.s (An.s (An.r []) An.o) An.o)) (An.r []))))))) (An.r []))))))) (An.s (An.r []) An.o))))
def c_law17_SnowStays (t0 t1 t2 : Value) (w : World) (R : Value → World → Prop) : Prop :=
  bx T_api_Params t0 w fun t3 w =>
  bx T_api_Snow t1 w fun t4 w =>
  cal P f_law17_live [] w fun t14 w =>
  notB t14 fun t15 =>
  jn1 (fun k0 =>
  gif t15 false
  (ldN 67 t4 w.heap fun t17 =>
  efP P (Instr.buildSlice T_sl_api_Snow 1 #[(0, t17)]) w fun t18 w =>
  cal P f_law17_few [t18] w fun t19 w =>
  notB t19 fun t20 =>
  k0 t20 w)
  (k0 undef w)) fun _ t20_1 w =>
  pik t15 (Value.bool true) t20_1 fun t21 =>
  jn1 (fun k1 =>
  gif t21 false
  (lenS t2 fun t24 =>
  bi BinOp.gtr t24 (Value.int IntKind.i64 100) fun t25 =>
  k1 t25 w)
  (k1 undef w)) fun _ t25_1 w =>
  pik t21 (Value.bool true) t25_1 fun t26 =>
  jn1 (fun k2 =>
  gif t26 false
  (ldN 4 t3 w.heap fun t28 =>
  ldN 67 t4 w.heap fun t29 =>
  cal P f_snow_Check [t28, t29] w fun t30 w =>
  bi BinOp.neq t30 (Value.int IntKind.i64 0) fun t31 =>
  k2 t31 w)
  (k2 undef w)) fun _ t31_1 w =>
  pik t26 (Value.bool true) t31_1 fun t32 =>
  cnd t32
  (cal P f_law17_live [] w fun t33 w =>
  R t33 w)
  (lenS t2 fun t35 =>
  lp1 (Value.int IntKind.i64 0) w fun _ t36 w again3 =>
  bi BinOp.lss t36 t35 fun t37 =>
  cnd t37
  (ixs 35 t2 t36 fun t38 =>
  ldN 35 t38 w.heap fun t39 =>
  efP P (Instr.alloc T_flurrylaw17_Act true (.tuple #[])) w fun t8 w =>
  stN 35 t8 t39 w fun w =>
  ldN 4 t3 w.heap fun t41 =>
  ldN 67 t4 w.heap fun t42 =>
  ldN 35 t8 w.heap fun t43 =>
  cal P f_law17_step [t41, t42, t43] w fun t44 w =>
  ext 0 t44 fun t45 =>
  ext 1 t44 fun t46 =>
  ext 2 t44 fun t47 =>
  efP P (Instr.alloc T_api_Snow true (.tuple #[])) w fun t9 w =>
  efP P (Instr.alloc T_api_ID true (.tuple #[])) w fun t10 w =>
  stN 67 t9 t45 w fun w =>
  stN 32 t10 t46 w fun w =>
  drH w fun S w =>
  jn2 (fun k4 =>
  rdS S (fun w => ldN 67 t4 w.heap) fun t48 =>
  rdS S (fun w => ldN 67 t9 w.heap) fun t50 =>
  (efS S (cal P f_snow_Prefers [t48]) w fun t49_4 w =>
  (efC (cal P f_snow_Prefers [t50]) w fun S t51_10 w =>
  (efS S (efP P (Instr.alloc T_api_ID true (.tuple #[]))) w fun t12_8 w =>
  efS S (efP P (Instr.alloc T_api_ID true (.tuple #[]))) w fun t13_8 w =>
  efC (fun w K => stN 32 t12_8 t49_4 w (K undef)) w fun S _ w =>
  efC (fun w K => stN 32 t13_8 t51_10 w (K undef)) w fun S _ w =>
  k4 t12_8 t13_8 w) ∧
  ((efS S (efP P (Instr.alloc T_api_ID true (.tuple #[]))) w fun t13_7 w =>
  efS S (efP P (Instr.alloc T_api_ID true (.tuple #[]))) w fun t12_7 w =>
  efC (fun w K => stN 32 t12_7 t49_4 w (K undef)) w fun S _ w =>
  efC (fun w K => stN 32 t13_7 t51_10 w (K undef)) w fun S _ w =>
  k4 t12_7 t13_7 w) ∧
  (True))) ∧
  ((efS S (efP P (Instr.alloc T_api_ID true (.tuple #[]))) w fun t12_6 w =>
  (efC (cal P f_snow_Prefers [t50]) w fun S t51_9 w =>
  efS S (efP P (Instr.alloc T_api_ID true (.tuple #[]))) w fun t13_6 w =>
  efC (fun w K => stN 32 t12_6 t49_4 w (K undef)) w fun S _ w =>
  efC (fun w K => stN 32 t13_6 t51_9 w (K undef)) w fun S _ w =>
  k4 t12_6 t13_6 w) ∧
  ((efS S (efP P (Instr.alloc T_api_ID true (.tuple #[]))) w fun t13_5 w =>
  efC (cal P f_snow_Prefers [t50]) w fun S t51_8 w =>
  efC (fun w K => stN 32 t12_6 t49_4 w (K undef)) w fun S _ w =>
  efC (fun w K => stN 32 t13_5 t51_8 w (K undef)) w fun S _ w =>
  k4 t12_6 t13_5 w) ∧
  (True))) ∧
  ((efS S (efP P (Instr.alloc T_api_ID true (.tuple #[]))) w fun t13_4 w =>
  (efC (cal P f_snow_Prefers [t50]) w fun S t51_7 w =>
  efS S (efP P (Instr.alloc T_api_ID true (.tuple #[]))) w fun t12_5 w =>
  efC (fun w K => stN 32 t12_5 t49_4 w (K undef)) w fun S _ w =>
  efC (fun w K => stN 32 t13_4 t51_7 w (K undef)) w fun S _ w =>
  k4 t12_5 t13_4 w) ∧
  ((efS S (efP P (Instr.alloc T_api_ID true (.tuple #[]))) w fun t12_4 w =>
  efC (cal P f_snow_Prefers [t50]) w fun S t51_6 w =>
  efC (fun w K => stN 32 t12_4 t49_4 w (K undef)) w fun S _ w =>
  efC (fun w K => stN 32 t13_4 t51_6 w (K undef)) w fun S _ w =>
  k4 t12_4 t13_4 w) ∧
  (True))) ∧
  (True)))) ∧
  ((efS S (efP P (Instr.alloc T_api_ID true (.tuple #[]))) w fun t12_3 w =>
  (efS S (cal P f_snow_Prefers [t48]) w fun t49_3 w =>
  (efC (cal P f_snow_Prefers [t50]) w fun S t51_5 w =>
  efS S (efP P (Instr.alloc T_api_ID true (.tuple #[]))) w fun t13_3 w =>
  efC (fun w K => stN 32 t12_3 t49_3 w (K undef)) w fun S _ w =>
  efC (fun w K => stN 32 t13_3 t51_5 w (K undef)) w fun S _ w =>
  k4 t12_3 t13_3 w) ∧
  ((efS S (efP P (Instr.alloc T_api_ID true (.tuple #[]))) w fun t13_2 w =>
  efC (cal P f_snow_Prefers [t50]) w fun S t51_4 w =>
  efC (fun w K => stN 32 t12_3 t49_3 w (K undef)) w fun S _ w =>
  efC (fun w K => stN 32 t13_2 t51_4 w (K undef)) w fun S _ w =>
  k4 t12_3 t13_2 w) ∧
  (True))) ∧
  ((efS S (efP P (Instr.alloc T_api_ID true (.tuple #[]))) w fun t13_1 w =>
  efS S (cal P f_snow_Prefers [t48]) w fun t49_2 w =>
  efC (cal P f_snow_Prefers [t50]) w fun S t51_3 w =>
  efC (fun w K => stN 32 t12_3 t49_2 w (K undef)) w fun S _ w =>
  efC (fun w K => stN 32 t13_1 t51_3 w (K undef)) w fun S _ w =>
  k4 t12_3 t13_1 w) ∧
  (True))) ∧
  ((efS S (efP P (Instr.alloc T_api_ID true (.tuple #[]))) w fun t13 w =>
  (efS S (cal P f_snow_Prefers [t48]) w fun t49_1 w =>
  (efC (cal P f_snow_Prefers [t50]) w fun S t51_2 w =>
  efS S (efP P (Instr.alloc T_api_ID true (.tuple #[]))) w fun t12_2 w =>
  efC (fun w K => stN 32 t12_2 t49_1 w (K undef)) w fun S _ w =>
  efC (fun w K => stN 32 t13 t51_2 w (K undef)) w fun S _ w =>
  k4 t12_2 t13 w) ∧
  ((efS S (efP P (Instr.alloc T_api_ID true (.tuple #[]))) w fun t12_1 w =>
  efC (cal P f_snow_Prefers [t50]) w fun S t51_1 w =>
  efC (fun w K => stN 32 t12_1 t49_1 w (K undef)) w fun S _ w =>
  efC (fun w K => stN 32 t13 t51_1 w (K undef)) w fun S _ w =>
  k4 t12_1 t13 w) ∧
  (True))) ∧
  ((efS S (efP P (Instr.alloc T_api_ID true (.tuple #[]))) w fun t12 w =>
  efS S (cal P f_snow_Prefers [t48]) w fun t49 w =>
  efC (cal P f_snow_Prefers [t50]) w fun S t51 w =>
  efC (fun w K => stN 32 t12 t49 w (K undef)) w fun S _ w =>
  efC (fun w K => stN 32 t13 t51 w (K undef)) w fun S _ w =>
  k4 t12 t13 w) ∧
  (True))) ∧
  (True)))) fun _ t12_9 t13_9 w =>
  drH w fun S w =>
  rdS S (fun w => ldN 32 t12_9 w.heap) fun t52 =>
  rdS S (fun w => ldN 32 t13_9 w.heap) fun t53 =>
  rdS S (rdP P (eqS BinOp.neq T_api_ID (Operand.tmp 52) (Operand.tmp 53) t52 t53)) fun t54 =>
  jn1 (fun k5 =>
  gif t54 true
  (fad 66 t9 fun t56 =>
  rdS S (fun w => ld1 t56 w.heap) fun t57 =>
  k5 t57 w)
  (k5 undef w)) fun _ t58 w =>
  jn1 (fun k6 =>
  gif t58 true
  (fad 66 t4 fun t59 =>
  rdS S (fun w => ld1 t59 w.heap) fun t60 =>
  notB t60 fun t61 =>
  k6 t61 w)
  (k6 undef w)) fun _ t61_1 w =>
  jn1 (fun k7 =>
  gif t54 true
  (pik t58 t61_1 (Value.bool false) fun t62 =>
  k7 t62 w)
  (k7 undef w)) fun _ t63 w =>
  jn1 (fun k8 =>
  gif t63 true
  (rdS S (fun w => ldN 32 t13_9 w.heap) fun t64 =>
  rdS S (fun w => ldN 32 t10 w.heap) fun t65 =>
  rdS S (rdP P (eqS BinOp.eql T_api_ID (Operand.tmp 64) (Operand.tmp 65) t64 t65)) fun t66 =>
  k8 t66 w)
  (k8 undef w)) fun _ t66_1 w =>
  jn1 (fun k9 =>
  gif t54 true
  (pik t63 t66_1 (Value.bool false) fun t67 =>
  notB t67 fun t68 =>
  k9 t68 w)
  (k9 undef w)) fun _ t68_1 w =>
  pik t54 t68_1 (Value.bool false) fun t69 =>
  jn1 (fun k10 =>
  gif t69 true
  (rdS S (fun w => ldN 67 t9 w.heap) fun t71 =>
  rdS S (fun w => ldN 32 t13_9 w.heap) fun t72 =>
  rdS S (fun w => ldN 67 t9 w.heap) fun t74 =>
  rdS S (fun w => ldN 32 t12_9 w.heap) fun t75 =>
  efS S (cal P f_law17_strength [t71, t72]) w fun t73 w =>
  efS S (cal P f_law17_strength [t74, t75]) w fun t76 w =>
  bi BinOp.gtr t73 t76 fun t77 =>
  k10 t77 w)
  (k10 undef w)) fun _ t78 w =>
  jn1 (fun k11 =>
  gif t78 true
  (rdS S (fun w => ldN 32 t13_9 w.heap) fun t79 =>
  rdS S (fun w => ldN 32 t10 w.heap) fun t80 =>
  rdS S (rdP P (eqS BinOp.eql T_api_ID (Operand.tmp 79) (Operand.tmp 80) t79 t80)) fun t81 =>
  k11 t81 w)
  (k11 undef w)) fun _ t81_1 w =>
  jn1 (fun k12 =>
  gif t69 true
  (pik t78 t81_1 (Value.bool false) fun t82 =>
  notB t82 fun t83 =>
  k12 t83 w)
  (k12 undef w)) fun _ t83_1 w =>
  pik t69 t83_1 (Value.bool false) fun t84 =>
  cnd t84
  (R (Value.bool false) w)
  (fad 66 t4 fun t85 =>
  ld1 t85 w.heap fun t86 =>
  jn1 (fun k13 =>
  gif t86 true
  (fad 2 t8 fun t88 =>
  ld1 t88 w.heap fun t89 =>
  notB t89 fun t90 =>
  k13 t90 w)
  (k13 undef w)) fun _ t90_1 w =>
  pik t86 t90_1 (Value.bool false) fun t91 =>
  jn1 (fun k14 =>
  gif t91 true
  (ldN 67 t9 w.heap fun t93 =>
  ldN 67 t4 w.heap fun t94 =>
  cal P f_snow_Same [t93, t94] w fun t95 w =>
  notB t95 fun t96 =>
  k14 t96 w)
  (k14 undef w)) fun _ t96_1 w =>
  pik t91 t96_1 (Value.bool false) fun t97 =>
  cnd t97
  (R (Value.bool false) w)
  (ldN 67 t9 w.heap fun t98 =>
  stN 67 t4 t98 w fun w =>
  bi BinOp.add t36 (Value.int IntKind.i64 1) fun t99 =>
  again3 t99 w)))
  (R (Value.bool true) w))
theorem e_law17_SnowStays (t0 t1 t2 : Value) (w : World) (R : Value → World → Prop) : intp P A_law17_SnowStays (bodyOf Try.f9) (ini [t0, t1, t2]) w (retK P Try.f9.results.toList R) (fun _ _ _ => False) (retK P Try.f9.results.toList R) = c_law17_SnowStays t0 t1 t2 w R := by kernel_rfl
theorem k_law17_SnowStays : chk P Try.f9.ntmps A_law17_SnowStays (bodyOf Try.f9) = true := by kernel_rfl
theorem l_law17_SnowStays {t0 t1 t2 : Value} {w : World} {R : Value → World → Prop} (h : c_law17_SnowStays t0 t1 t2 w R) : cal P f_law17_SnowStays [t0, t1, t2] w R :=
  calls_of mixed Try.func9 rfl (by kernel_rfl) k_law17_SnowStays (Eq.mpr (e_law17_SnowStays t0 t1 t2 w R) h)
theorem s_law17_SnowStays {t0 t1 t2 : Value} {w : World} {Q : Value → World → Prop} (h : ∀ R : Value → World → Prop, (∀ v w', Q v w' → R v w') → c_law17_SnowStays t0 t1 t2 w R) : cal P f_law17_SnowStays [t0, t1, t2] w Q := l_law17_SnowStays (h Q fun _ _ h => h)

/-- flurry/flurrylaw17.live -/
def A_law17_live : An := (An.s (An.r []) (An.s (An.r []) (An.s (An.dt (Pl.step 1 (Pl.br (Pl.alt 0 (Pl.br (Pl.alt 2 (Pl.step 3 (Pl.step 4 (Pl.step 5 (Pl.step 6 (Pl.step 7 (Pl.step 8 Pl.nil)))))) (Pl.alt 6 (Pl.step 2 (Pl.step 3 (Pl.step 4 (Pl.step 5 (Pl.step 7 (Pl.step 8 Pl.nil)))))) Pl.non))) (Pl.alt 6 (Pl.step 0 (Pl.step 2 (Pl.step 3 (Pl.step 4 (Pl.step 5 (Pl.step 7 (Pl.step 8 Pl.nil))))))) Pl.non)))) [2, 7] [3, 4]) (An.s (An.dt (Pl.step 1 (Pl.step 2 (Pl.br (Pl.alt 0 (Pl.br (Pl.alt 3 (Pl.step 4 (Pl.step 5 (Pl.step 6 (Pl.step 7 (Pl.step 8 (Pl.step 9 Pl.nil)))))) (Pl.alt 7 (Pl.step 3 (Pl.step 4 (Pl.step 5 (Pl.step 6 (Pl.step 8 (Pl.step 9 Pl.nil)))))) Pl.non))) (Pl.alt 7 (Pl.step 0 (Pl.step 3 (Pl.step 4 (Pl.step 5 (Pl.step 6 (Pl.step 8 (Pl.step 9 Pl.nil))))))) Pl.non))))) [3, 8] [5, 6]) (An.s (An.dt (Pl.step 1 (Pl.step 2 (Pl.br (Pl.alt 0 (Pl.br (Pl.alt 3 (Pl.step 4 (Pl.step 5 (Pl.step 6 (Pl.step 7 (Pl.step 8 (Pl.step 9 Pl.nil)))))) (Pl.alt 7 (Pl.step 3 (Pl.step 4 (Pl.step 5 (Pl.step 6 (Pl.step 8 (Pl.step 9 Pl.nil)))))) Pl.non))) (Pl.alt 7 (Pl.step 0 (Pl.step 3 (Pl.step 4 (Pl.step 5 (Pl.step 6 (Pl.step 8 (Pl.step 9 Pl.nil))))))) Pl.non))))) [3, 8] [7, 8]) (An.s (An.dt (Pl.step 1 (Pl.step 2 (Pl.step 3 (Pl.step 4 (Pl.step 5 (Pl.br (Pl.alt 0 (Pl.br (Pl.alt 6 (Pl.br (Pl.alt 7 (Pl.step 8 (Pl.step 9 (Pl.step 10 (Pl.step 11 (Pl.step 12 (Pl.step 13 (Pl.step 14 (Pl.step 15 Pl.nil)))))))) (Pl.alt 12 (Pl.step 7 (Pl.step 8 (Pl.step 9 (Pl.step 10 (Pl.step 11 (Pl.step 13 (Pl.step 14 (Pl.step 15 Pl.nil)))))))) Pl.non))) (Pl.alt 12 (Pl.step 6 (Pl.step 7 (Pl.step 8 (Pl.step 9 (Pl.step 10 (Pl.step 11 (Pl.step 13 (Pl.step 14 (Pl.step 15 Pl.nil))))))))) Pl.non))) (Pl.alt 6 (Pl.br (Pl.alt 0 (Pl.br (Pl.alt 7 (Pl.step 8 (Pl.step 9 (Pl.step 10 (Pl.step 11 (Pl.step 12 (Pl.step 13 (Pl.step 14 (Pl.step 15 Pl.nil)))))))) (Pl.alt 12 (Pl.step 7 (Pl.step 8 (Pl.step 9 (Pl.step 10 (Pl.step 11 (Pl.step 13 (Pl.step 14 (Pl.step 15 Pl.nil)))))))) Pl.non))) (Pl.alt 12 (Pl.step 0 (Pl.step 7 (Pl.step 8 (Pl.step 9 (Pl.step 10 (Pl.step 11 (Pl.step 13 (Pl.step 14 (Pl.step 15 Pl.nil))))))))) Pl.non))) (Pl.alt 12 (Pl.br (Pl.alt 0 (Pl.step 6 (Pl.step 7 (Pl.step 8 (Pl.step 9 (Pl.step 10 (Pl.step 11 (Pl.step 13 (Pl.step 14 (Pl.step 15 Pl.nil))))))))) (Pl.alt 6 (Pl.step 0 (Pl.step 7 (Pl.step 8 (Pl.step 9 (Pl.step 10 (Pl.step 11 (Pl.step 13 (Pl.step 14 (Pl.step 15 Pl.nil))))))))) Pl.non))) Pl.non))))))))) [7, 13] [9, 10, 11]) (An.s (An.d [0, 1, 2, 3, 4, 5, 6, 7, 8, 9, 10, 11, 12, 13, 14, 15, 16, 17, 18, 19, 21, 20, 22, 23, 24, 25, 26, 27, 28, 29, 30, 31, 32, 33, 34, 36, 35, 37, 38, 39] [[50], [54], [58], [62], [68], [73], [77], [83]]) An.o)))))))
def c_law17_live (w : World) (R : Value → World → Prop) : Prop :=
  rdP P (Instr.build T_api_ID #[(0, (Value.int IntKind.u8 1))]) w fun t12 =>
  rdP P (Instr.build T_api_ID #[(0, (Value.int IntKind.u8 2))]) w fun t13 =>
  efP P (Instr.alloc T_api_ID true (.tuple #[])) w fun t1 w =>
  efP P (Instr.alloc T_api_ID true (.tuple #[])) w fun t2 w =>
  stN 32 t1 t12 w fun w =>
  stN 32 t2 t13 w fun w =>
  drH w fun S w =>
  jn2 (fun k0 =>
  rdS S (fun w => ldN 32 t1 w.heap) fun t16 =>
  (efS S (cal P f_law17_some []) w fun t15_1 w =>
  (efC (cal P f_snow_New [t15_1, t16]) w fun S t17_2 w =>
  ext 0 t17_2 fun t18_2 =>
  ext 1 t17_2 fun t19_2 =>
  efS S (efP P (Instr.alloc T_api_Snow true (.tuple #[]))) w fun t3_2 w =>
  efC (fun w K => stN 67 t3_2 t18_2 w (K undef)) w fun S _ w =>
  k0 t3_2 t19_2 w) ∧
  ((efS S (efP P (Instr.alloc T_api_Snow true (.tuple #[]))) w fun t3_1 w =>
  efC (cal P f_snow_New [t15_1, t16]) w fun S t17_1 w =>
  ext 0 t17_1 fun t18_1 =>
  ext 1 t17_1 fun t19_1 =>
  efC (fun w K => stN 67 t3_1 t18_1 w (K undef)) w fun S _ w =>
  k0 t3_1 t19_1 w) ∧
  (True))) ∧
  ((efS S (efP P (Instr.alloc T_api_Snow true (.tuple #[]))) w fun t3 w =>
  efS S (cal P f_law17_some []) w fun t15 w =>
  efC (cal P f_snow_New [t15, t16]) w fun S t17 w =>
  ext 0 t17 fun t18 =>
  ext 1 t17 fun t19 =>
  efC (fun w K => stN 67 t3 t18 w (K undef)) w fun S _ w =>
  k0 t3 t19 w) ∧
  (True))) fun _ t3_3 t4 w =>
  drH w fun S w =>
  jn2 (fun k1 =>
  rdS S (fun w => ldN 67 t3_3 w.heap) fun t22 =>
  rdS S (fun w => ldN 32 t2 w.heap) fun t23 =>
  (efS S (cal P f_law17_some []) w fun t21_1 w =>
  (efC (cal P f_snow_Add [t21_1, t22, t23]) w fun S t24_2 w =>
  ext 0 t24_2 fun t25_2 =>
  ext 1 t24_2 fun t26_2 =>
  efS S (efP P (Instr.alloc T_api_Snow true (.tuple #[]))) w fun t5_2 w =>
  efC (fun w K => stN 67 t5_2 t25_2 w (K undef)) w fun S _ w =>
  k1 t5_2 t26_2 w) ∧
  ((efS S (efP P (Instr.alloc T_api_Snow true (.tuple #[]))) w fun t5_1 w =>
  efC (cal P f_snow_Add [t21_1, t22, t23]) w fun S t24_1 w =>
  ext 0 t24_1 fun t25_1 =>
  ext 1 t24_1 fun t26_1 =>
  efC (fun w K => stN 67 t5_1 t25_1 w (K undef)) w fun S _ w =>
  k1 t5_1 t26_1 w) ∧
  (True))) ∧
  ((efS S (efP P (Instr.alloc T_api_Snow true (.tuple #[]))) w fun t5 w =>
  efS S (cal P f_law17_some []) w fun t21 w =>
  efC (cal P f_snow_Add [t21, t22, t23]) w fun S t24 w =>
  ext 0 t24 fun t25 =>
  ext 1 t24 fun t26 =>
  efC (fun w K => stN 67 t5 t25 w (K undef)) w fun S _ w =>
  k1 t5 t26 w) ∧
  (True))) fun _ t5_3 t6 w =>
  drH w fun S w =>
  jn2 (fun k2 =>
  rdS S (fun w => ldN 67 t5_3 w.heap) fun t29 =>
  rdS S (fun w => ldN 32 t2 w.heap) fun t30 =>
  (efS S (cal P f_law17_some []) w fun t28_1 w =>
  (efC (cal P f_snow_Poll [t28_1, t29, t30, (Value.int IntKind.i64 2)]) w fun S t31_2 w =>
  ext 0 t31_2 fun t32_2 =>
  ext 1 t31_2 fun t33_2 =>
  efS S (efP P (Instr.alloc T_api_Snow true (.tuple #[]))) w fun t7_2 w =>
  efC (fun w K => stN 67 t7_2 t32_2 w (K undef)) w fun S _ w =>
  k2 t7_2 t33_2 w) ∧
  ((efS S (efP P (Instr.alloc T_api_Snow true (.tuple #[]))) w fun t7_1 w =>
  efC (cal P f_snow_Poll [t28_1, t29, t30, (Value.int IntKind.i64 2)]) w fun S t31_1 w =>
  ext 0 t31_1 fun t32_1 =>
  ext 1 t31_1 fun t33_1 =>
  efC (fun w K => stN 67 t7_1 t32_1 w (K undef)) w fun S _ w =>
  k2 t7_1 t33_1 w) ∧
  (True))) ∧
  ((efS S (efP P (Instr.alloc T_api_Snow true (.tuple #[]))) w fun t7 w =>
  efS S (cal P f_law17_some []) w fun t28 w =>
  efC (cal P f_snow_Poll [t28, t29, t30, (Value.int IntKind.i64 2)]) w fun S t31 w =>
  ext 0 t31 fun t32 =>
  ext 1 t31 fun t33 =>
  efC (fun w K => stN 67 t7 t32 w (K undef)) w fun S _ w =>
  k2 t7 t33 w) ∧
  (True))) fun _ t7_3 t8 w =>
  drH w fun S w =>
  jn3 (fun k3 =>
  rdS S (fun w => ldN 67 t7_3 w.heap) fun t36 =>
  rdS S (fun w => ldN 32 t2 w.heap) fun t37 =>
  rdS S (rdP P (Instr.build T_api_Vote #[(0, t37), (1, (Value.int IntKind.i64 3))])) fun t38 =>
  rdS S (fun w => ldN 32 t2 w.heap) fun t39 =>
  rdS S (rdP P (Instr.build T_api_Vote #[(0, t39), (1, (Value.int IntKind.i64 3))])) fun t40 =>
  (efS S (cal P f_law17_some []) w fun t35_4 w =>
  (efS S (efP P (Instr.buildSlice T_sl_api_Vote 2 #[(0, t38), (1, t40)])) w fun t41_4 w =>
  (efC (cal P f_snow_Run [t35_4, t36, t41_4]) w fun S t42_7 w =>
  ext 0 t42_7 fun t43_7 =>
  ext 1 t42_7 fun t44_7 =>
  ext 2 t42_7 fun t45_7 =>
  efS S (efP P (Instr.alloc T_api_Snow true (.tuple #[]))) w fun t9_6 w =>
  efC (fun w K => stN 67 t9_6 t43_7 w (K undef)) w fun S _ w =>
  k3 t9_6 t44_7 t45_7 w) ∧
  ((efS S (efP P (Instr.alloc T_api_Snow true (.tuple #[]))) w fun t9_5 w =>
  efC (cal P f_snow_Run [t35_4, t36, t41_4]) w fun S t42_6 w =>
  ext 0 t42_6 fun t43_6 =>
  ext 1 t42_6 fun t44_6 =>
  ext 2 t42_6 fun t45_6 =>
  efC (fun w K => stN 67 t9_5 t43_6 w (K undef)) w fun S _ w =>
  k3 t9_5 t44_6 t45_6 w) ∧
  (True))) ∧
  ((efS S (efP P (Instr.alloc T_api_Snow true (.tuple #[]))) w fun t9_4 w =>
  efS S (efP P (Instr.buildSlice T_sl_api_Vote 2 #[(0, t38), (1, t40)])) w fun t41_3 w =>
  efC (cal P f_snow_Run [t35_4, t36, t41_3]) w fun S t42_5 w =>
  ext 0 t42_5 fun t43_5 =>
  ext 1 t42_5 fun t44_5 =>
  ext 2 t42_5 fun t45_5 =>
  efC (fun w K => stN 67 t9_4 t43_5 w (K undef)) w fun S _ w =>
  k3 t9_4 t44_5 t45_5 w) ∧
  (True))) ∧
  ((efS S (efP P (Instr.buildSlice T_sl_api_Vote 2 #[(0, t38), (1, t40)])) w fun t41_2 w =>
  (efS S (cal P f_law17_some []) w fun t35_3 w =>
  (efC (cal P f_snow_Run [t35_3, t36, t41_2]) w fun S t42_4 w =>
  ext 0 t42_4 fun t43_4 =>
  ext 1 t42_4 fun t44_4 =>
  ext 2 t42_4 fun t45_4 =>
  efS S (efP P (Instr.alloc T_api_Snow true (.tuple #[]))) w fun t9_3 w =>
  efC (fun w K => stN 67 t9_3 t43_4 w (K undef)) w fun S _ w =>
  k3 t9_3 t44_4 t45_4 w) ∧
  ((efS S (efP P (Instr.alloc T_api_Snow true (.tuple #[]))) w fun t9_2 w =>
  efC (cal P f_snow_Run [t35_3, t36, t41_2]) w fun S t42_3 w =>
  ext 0 t42_3 fun t43_3 =>
  ext 1 t42_3 fun t44_3 =>
  ext 2 t42_3 fun t45_3 =>
  efC (fun w K => stN 67 t9_2 t43_3 w (K undef)) w fun S _ w =>
  k3 t9_2 t44_3 t45_3 w) ∧
  (True))) ∧
  ((efS S (efP P (Instr.alloc T_api_Snow true (.tuple #[]))) w fun t9_1 w =>
  efS S (cal P f_law17_some []) w fun t35_2 w =>
  efC (cal P f_snow_Run [t35_2, t36, t41_2]) w fun S t42_2 w =>
  ext 0 t42_2 fun t43_2 =>
  ext 1 t42_2 fun t44_2 =>
  ext 2 t42_2 fun t45_2 =>
  efC (fun w K => stN 67 t9_1 t43_2 w (K undef)) w fun S _ w =>
  k3 t9_1 t44_2 t45_2 w) ∧
  (True))) ∧
  ((efS S (efP P (Instr.alloc T_api_Snow true (.tuple #[]))) w fun t9 w =>
  (efS S (cal P f_law17_some []) w fun t35_1 w =>
  efS S (efP P (Instr.buildSlice T_sl_api_Vote 2 #[(0, t38), (1, t40)])) w fun t41_1 w =>
  efC (cal P f_snow_Run [t35_1, t36, t41_1]) w fun S t42_1 w =>
  ext 0 t42_1 fun t43_1 =>
  ext 1 t42_1 fun t44_1 =>
  ext 2 t42_1 fun t45_1 =>
  efC (fun w K => stN 67 t9 t43_1 w (K undef)) w fun S _ w =>
  k3 t9 t44_1 t45_1 w) ∧
  ((efS S (efP P (Instr.buildSlice T_sl_api_Vote 2 #[(0, t38), (1, t40)])) w fun t41 w =>
  efS S (cal P f_law17_some []) w fun t35 w =>
  efC (cal P f_snow_Run [t35, t36, t41]) w fun S t42 w =>
  ext 0 t42 fun t43 =>
  ext 1 t42 fun t44 =>
  ext 2 t42 fun t45 =>
  efC (fun w K => stN 67 t9 t43 w (K undef)) w fun S _ w =>
  k3 t9 t44 t45 w) ∧
  (True))) ∧
  (True)))) fun _ t9_7 t10 t11 w =>
  drH w fun S w =>
  bi BinOp.eql t4 (Value.int IntKind.i64 0) fun t47 =>
  jn1 (fun k4 =>
  gif t47 true
  (bi BinOp.eql t6 (Value.int IntKind.i64 0) fun t50 =>
  k4 t50 w)
  (k4 undef w)) fun _ t50_1 w =>
  pik t47 t50_1 (Value.bool false) fun t51 =>
  jn1 (fun k5 =>
  gif t51 true
  (bi BinOp.eql t8 (Value.int IntKind.i64 0) fun t54 =>
  k5 t54 w)
  (k5 undef w)) fun _ t54_1 w =>
  pik t51 t54_1 (Value.bool false) fun t55 =>
  jn1 (fun k6 =>
  gif t55 true
  (bi BinOp.eql t11 (Value.int IntKind.i64 0) fun t58 =>
  k6 t58 w)
  (k6 undef w)) fun _ t58_1 w =>
  pik t55 t58_1 (Value.bool false) fun t59 =>
  jn1 (fun k7 =>
  gif t59 true
  (bi BinOp.eql t10 (Value.int IntKind.i64 2) fun t62 =>
  k7 t62 w)
  (k7 undef w)) fun _ t62_1 w =>
  pik t59 t62_1 (Value.bool false) fun t63 =>
  jn1 (fun k8 =>
  gif t63 true
  (rdS S (fun w => ldN 67 t7_3 w.heap) fun t65 =>
  rdS S (fun w => ldN 32 t2 w.heap) fun t67 =>
  efS S (cal P f_snow_Prefers [t65]) w fun t66 w =>
  rdS S (rdP P (eqS BinOp.eql T_api_ID (Operand.tmp 66) (Operand.tmp 67) t66 t67)) fun t68 =>
  k8 t68 w)
  (k8 undef w)) fun _ t68_1 w =>
  pik t63 t68_1 (Value.bool false) fun t69 =>
  jn1 (fun k9 =>
  gif t69 true
  (fad 65 t7_3 fun t71 =>
  rdS S (fun w => ld1 t71 w.heap) fun t72 =>
  bi BinOp.eql t72 (Value.int IntKind.i64 0) fun t73 =>
  k9 t73 w)
  (k9 undef w)) fun _ t73_1 w =>
  pik t69 t73_1 (Value.bool false) fun t74 =>
  jn1 (fun k10 =>
  gif t74 true
  (fad 66 t9_7 fun t76 =>
  rdS S (fun w => ld1 t76 w.heap) fun t77 =>
  k10 t77 w)
  (k10 undef w)) fun _ t77_1 w =>
  pik t74 t77_1 (Value.bool false) fun t78 =>
  jn1 (fun k11 =>
  gif t78 true
  (rdS S (fun w => ldN 67 t9_7 w.heap) fun t80 =>
  rdS S (fun w => ldN 32 t2 w.heap) fun t82 =>
  efS S (cal P f_snow_Prefers [t80]) w fun t81 w =>
  rdS S (rdP P (eqS BinOp.eql T_api_ID (Operand.tmp 81) (Operand.tmp 82) t81 t82)) fun t83 =>
  k11 t83 w)
  (k11 undef w)) fun _ t83_1 w =>
  pik t78 t83_1 (Value.bool false) fun t84 =>
  R t84 w
theorem e_law17_live (w : World) (R : Value → World → Prop) : intp P A_law17_live (bodyOf Try.f10) (ini []) w (retK P Try.f10.results.toList R) (fun _ _ _ => False) (retK P Try.f10.results.toList R) = c_law17_live  w R := by kernel_rfl
theorem k_law17_live : chk P Try.f10.ntmps A_law17_live (bodyOf Try.f10) = true := by kernel_rfl
theorem l_law17_live {w : World} {R : Value → World → Prop} (h : c_law17_live w R) : cal P f_law17_live [] w R :=
  calls_of mixed Try.func10 rfl (by kernel_rfl) k_law17_live (Eq.mpr (e_law17_live w R) h)
theorem s_law17_live {w : World} {Q : Value → World → Prop} (h : ∀ R : Value → World → Prop, (∀ v w', Q v w' → R v w') → c_law17_live w R) : cal P f_law17_live [] w Q := l_law17_live (h Q fun _ _ h => h)

/-- flurry/flurrylaw17.few -/
def A_law17_few : An := (An.s (An.r []) (An.s (An.s (An.r []) (An.b (An.l [7] (An.s (An.r []) (An.s (An.s An.o An.o) (An.s (An.b (An.s (An.r []) (An.s (An.r []) (An.s (An.s (An.r []) An.o) An.o)))) (An.r []))))))) (An.s (An.r []) An.o)))
def c_law17_few (t0 : Value) (w : World) (R : Value → World → Prop) : Prop :=
  lenS t0 fun t6 =>
  lp1 (Value.int IntKind.i64 0) w fun _ t7 w again0 =>
  bi BinOp.lss t7 t6 fun t8 =>
  cnd t8
  (ixs 67 t0 t7 fun t9 =>
  ldN 67 t9 w.heap fun t10 =>
  efP P (Instr.alloc T_api_Snow true (.tuple #[])) w fun t4 w =>
  stN 67 t4 t10 w fun w =>
  fad 0 t4 fun t11 =>
  ld1 t11 w.heap fun t12 =>
  lenS t12 fun t13 =>
  bi BinOp.gtr t13 (Value.int IntKind.i64 60) fun t14 =>
  cnd t14
  (R (Value.bool false) w)
  (bi BinOp.add t7 (Value.int IntKind.i64 1) fun t15 =>
  again0 t15 w))
  (R (Value.bool true) w)
theorem e_law17_few (t0 : Value) (w : World) (R : Value → World → Prop) : intp P A_law17_few (bodyOf Try.f11) (ini [t0]) w (retK P Try.f11.results.toList R) (fun _ _ _ => False) (retK P Try.f11.results.toList R) = c_law17_few t0 w R := by kernel_rfl
theorem k_law17_few : chk P Try.f11.ntmps A_law17_few (bodyOf Try.f11) = true := by kernel_rfl
theorem l_law17_few {t0 : Value} {w : World} {R : Value → World → Prop} (h : c_law17_few t0 w R) : cal P f_law17_few [t0] w R :=
  calls_of mixed Try.func11 rfl (by kernel_rfl) k_law17_few (Eq.mpr (e_law17_few t0 w R) h)
theorem s_law17_few {t0 : Value} {w : World} {Q : Value → World → Prop} (h : ∀ R : Value → World → Prop, (∀ v w', Q v w' → R v w') → c_law17_few t0 w R) : cal P f_law17_few [t0] w Q := l_law17_few (h Q fun _ _ h => h)

/-- flurry/snow.Run -/
def A_snow_Run : An := (An.s (An.r []) (An.s (An.r []) (An.s (An.s (An.r []) (An.b (An.l [17] (An.s (An.r []) (An.s (An.s An.o An.o) (An.s (An.b (An.s (An.r []) (An.s (An.r []) (An.s (An.s (An.r []) (An.s (An.s (An.r []) An.o) An.o)) (An.r []))))) (An.r []))))))) (An.s (An.r []) An.o))))
def c_snow_Run (t0 t1 t2 : Value) (w : World) (R : Value → World → Prop) : Prop :=
  bx T_api_Params t0 w fun t3 w =>
  bx T_api_Snow t1 w fun t4 w =>
  efP P (Instr.alloc T_api_Snow true (.tuple #[])) w fun t6 w =>
  ldN 67 t4 w.heap fun t13 =>
  cal P f_snow_own [t13] w fun t14 w =>
  stN 67 t4 t14 w fun w =>
  lenS t2 fun t16 =>
  lp1 (Value.int IntKind.i64 0) w fun _ t17 w again0 =>
  bi BinOp.lss t17 t16 fun t18 =>
  cnd t18
  (ixs 33 t2 t17 fun t20 =>
  ldN 33 t20 w.heap fun t21 =>
  efP P (Instr.alloc T_api_Vote true (.tuple #[])) w fun t10 w =>
  stN 33 t10 t21 w fun w =>
  ldN 4 t3 w.heap fun t23 =>
  ldN 67 t4 w.heap fun t24 =>
  fad 0 t10 fun t25 =>
  ldN 32 t25 w.heap fun t26 =>
  fad 32 t10 fun t27 =>
  ld1 t27 w.heap fun t28 =>
  cal P f_snow_Poll [t23, t24, t26, t28] w fun t29 w =>
  ext 0 t29 fun t30 =>
  ext 1 t29 fun t31 =>
  efP P (Instr.alloc T_api_Snow true (.tuple #[])) w fun t11 w =>
  stN 67 t11 t30 w fun w =>
  bi BinOp.neq t31 (Value.int IntKind.i64 0) fun t33 =>
  cnd t33
  (ldN 67 t4 w.heap fun t34 =>
  stN 67 t6 t34 w fun w =>
  ldN 67 t6 w.heap fun r1 =>
  R (Value.tuple #[r1, t17, t31]) w)
  (ldN 67 t11 w.heap fun t37 =>
  stN 67 t4 t37 w fun w =>
  bi BinOp.add t17 (Value.int IntKind.i64 1) fun t38 =>
  again0 t38 w))
  (ldN 67 t4 w.heap fun t39 =>
  lenS t2 fun t41 =>
  stN 67 t6 t39 w fun w =>
  ldN 67 t6 w.heap fun r2 =>
  R (Value.tuple #[r2, t41, (Value.int IntKind.i64 0)]) w)
theorem e_snow_Run (t0 t1 t2 : Value) (w : World) (R : Value → World → Prop) : intp P A_snow_Run (bodyOf Try.f12) (ini [t0, t1, t2]) w (retK P Try.f12.results.toList R) (fun _ _ _ => False) (retK P Try.f12.results.toList R) = c_snow_Run t0 t1 t2 w R := by kernel_rfl
theorem k_snow_Run : chk P Try.f12.ntmps A_snow_Run (bodyOf Try.f12) = true := by kernel_rfl
theorem l_snow_Run {t0 t1 t2 : Value} {w : World} {R : Value → World → Prop} (h : c_snow_Run t0 t1 t2 w R) : cal P f_snow_Run [t0, t1, t2] w R :=
  calls_of mixed Try.func12 rfl (by kernel_rfl) k_snow_Run (Eq.mpr (e_snow_Run t0 t1 t2 w R) h)
theorem s_snow_Run {t0 t1 t2 : Value} {w : World} {Q : Value → World → Prop} (h : ∀ R : Value → World → Prop, (∀ v w', Q v w' → R v w') → c_snow_Run t0 t1 t2 w R) : cal P f_snow_Run [t0, t1, t2] w Q := l_snow_Run (h Q fun _ _ h => h)

/-- flurry/flurryref17.Run -/
def A_ref17_Run : An := (An.s (An.r []) (An.s (An.s (An.r []) (An.b (An.l [9] (An.s (An.s (An.r []) (An.s An.o An.o)) (An.s (An.b (An.s (An.dt (Pl.step 0 (Pl.step 1 (Pl.step 2 (Pl.step 3 (Pl.step 4 (Pl.step 5 (Pl.step 6 (Pl.step 7 (Pl.step 8 (Pl.step 9 (Pl.step 10 (Pl.step 11 (Pl.br (Pl.alt 12 (Pl.step 13 (Pl.step 14 (Pl.step 15 (Pl.step 16 (Pl.step 17 (Pl.step 18 Pl.nil)))))) (Pl.alt 16 (Pl.step 12 (Pl.step 13 (Pl.step 14 (Pl.step 15 (Pl.step 17 (Pl.step 18 Pl.nil)))))) Pl.non))))))))))))))) [12, 17] [10, 11]) (An.s (An.s (An.r []) (An.s (An.s (An.r []) An.o) An.o)) (An.r [])))) (An.r [])))))) (An.s (An.r []) An.o)))
def c_ref17_Run (t0 t1 t2 : Value) (w : World) (R : Value → World → Prop) : Prop :=
  bx T_api_Params t0 w fun t3 w =>
  bx T_api_Snow t1 w fun t4 w =>
  efP P (Instr.alloc T_api_Snow true (.tuple #[])) w fun t6 w =>
  lp1 (Value.int IntKind.i64 0) w fun _ t9 w again0 =>
  lenS t2 fun t14 =>
  bi BinOp.lss t9 t14 fun t15 =>
  cnd t15
  (drH w fun S w =>
  jn2 (fun k1 =>
  rdS S (fun w => ldN 4 t3 w.heap) fun t19 =>
  rdS S (fun w => ldN 67 t4 w.heap) fun t20 =>
  ixs 33 t2 t9 fun t23 =>
  fad 0 t23 fun t24 =>
  rdS S (fun w => ldN 32 t24 w.heap) fun t25 =>
  ixs 33 t2 t9 fun t28 =>
  fad 32 t28 fun t29 =>
  rdS S (fun w => ld1 t29 w.heap) fun t30 =>
  (efC (cal P f_ref17_Poll [t19, t20, t25, t30]) w fun S t31_1 w =>
  ext 0 t31_1 fun t32_1 =>
  ext 1 t31_1 fun t33_1 =>
  efS S (efP P (Instr.alloc T_api_Snow true (.tuple #[]))) w fun t10_1 w =>
  efC (fun w K => stN 67 t10_1 t32_1 w (K undef)) w fun S _ w =>
  k1 t10_1 t33_1 w) ∧
  ((efS S (efP P (Instr.alloc T_api_Snow true (.tuple #[]))) w fun t10 w =>
  efC (cal P f_ref17_Poll [t19, t20, t25, t30]) w fun S t31 w =>
  ext 0 t31 fun t32 =>
  ext 1 t31 fun t33 =>
  efC (fun w K => stN 67 t10 t32 w (K undef)) w fun S _ w =>
  k1 t10 t33 w) ∧
  (True))) fun _ t10_2 t11 w =>
  bi BinOp.neq t11 (Value.int IntKind.i64 0) fun t35 =>
  cnd t35
  (ldN 67 t4 w.heap fun t36 =>
  stN 67 t6 t36 w fun w =>
  ldN 67 t6 w.heap fun r2 =>
  R (Value.tuple #[r2, t9, t11]) w)
  (ldN 67 t10_2 w.heap fun t39 =>
  stN 67 t4 t39 w fun w =>
  bi BinOp.add t9 (Value.int IntKind.i64 1) fun t17 =>
  again0 t17 w))
  (ldN 67 t4 w.heap fun t40 =>
  lenS t2 fun t42 =>
  stN 67 t6 t40 w fun w =>
  ldN 67 t6 w.heap fun r3 =>
  R (Value.tuple #[r3, t42, (Value.int IntKind.i64 0)]) w)
theorem e_ref17_Run (t0 t1 t2 : Value) (w : World) (R : Value → World → Prop) : intp P A_ref17_Run (bodyOf Try.f13) (ini [t0, t1, t2]) w (retK P Try.f13.results.toList R) (fun _ _ _ => False) (retK P Try.f13.results.toList R) = c_ref17_Run t0 t1 t2 w R := by kernel_rfl
theorem k_ref17_Run : chk P Try.f13.ntmps A_ref17_Run (bodyOf Try.f13) = true := by kernel_rfl
theorem l_ref17_Run {t0 t1 t2 : Value} {w : World} {R : Value → World → Prop} (h : c_ref17_Run t0 t1 t2 w R) : cal P f_ref17_Run [t0, t1, t2] w R :=
  calls_of mixed Try.func13 rfl (by kernel_rfl) k_ref17_Run (Eq.mpr (e_ref17_Run t0 t1 t2 w R) h)
theorem s_ref17_Run {t0 t1 t2 : Value} {w : World} {Q : Value → World → Prop} (h : ∀ R : Value → World → Prop, (∀ v w', Q v w' → R v w') → c_ref17_Run t0 t1 t2 w R) : cal P f_ref17_Run [t0, t1, t2] w Q := l_ref17_Run (h Q fun _ _ h => h)

/-- flurry/flurryref17.Same -/
def A_ref17_Same : An := (An.s (An.r []) (An.s (An.s (An.r [[18], [25], [32], [39]]) (An.s (An.s (An.r []) An.o) An.o)) (An.s (An.s (An.r []) (An.b (An.l [5] (An.s (An.s (An.r []) (An.s An.o An.o)) (An.s (An.b (An.s (An.r []) (An.s (An.s (An.r []) An.o) An.o))) (An.r [])))))) (An.s (An.r []) An.o))))
def c_ref17_Same (t0 t1 : Value) (w : World) (R : Value → World → Prop) : Prop :=
  bx T_api_Snow t0 w fun t2 w =>
  bx T_api_Snow t1 w fun t3 w =>
  fad 0 t2 fun t6 =>
  ld1 t6 w.heap fun t7 =>
  lenS t7 fun t8 =>
  fad 0 t3 fun t9 =>
  ld1 t9 w.heap fun t10 =>
  lenS t10 fun t11 =>
  bi BinOp.neq t8 t11 fun t12 =>
  jn1 (fun k0 =>
  gif t12 false
  (fad 1 t2 fun t14 =>
  ldN 32 t14 w.heap fun t15 =>
  fad 1 t3 fun t16 =>
  ldN 32 t16 w.heap fun t17 =>
  rdP P (eqS BinOp.neq T_api_ID (Operand.tmp 15) (Operand.tmp 17) t15 t17) w fun t18 =>
  k0 t18 w)
  (k0 undef w)) fun _ t18_1 w =>
  pik t12 (Value.bool true) t18_1 fun t19 =>
  jn1 (fun k1 =>
  gif t19 false
  (fad 33 t2 fun t21 =>
  ldN 32 t21 w.heap fun t22 =>
  fad 33 t3 fun t23 =>
  ldN 32 t23 w.heap fun t24 =>
  rdP P (eqS BinOp.neq T_api_ID (Operand.tmp 22) (Operand.tmp 24) t22 t24) w fun t25 =>
  k1 t25 w)
  (k1 undef w)) fun _ t25_1 w =>
  pik t19 (Value.bool true) t25_1 fun t26 =>
  jn1 (fun k2 =>
  gif t26 false
  (fad 65 t2 fun t28 =>
  ld1 t28 w.heap fun t29 =>
  fad 65 t3 fun t30 =>
  ld1 t30 w.heap fun t31 =>
  bi BinOp.neq t29 t31 fun t32 =>
  k2 t32 w)
  (k2 undef w)) fun _ t32_1 w =>
  pik t26 (Value.bool true) t32_1 fun t33 =>
  jn1 (fun k3 =>
  gif t33 false
  (fad 66 t2 fun t35 =>
  ld1 t35 w.heap fun t36 =>
  fad 66 t3 fun t37 =>
  ld1 t37 w.heap fun t38 =>
  rdP P (eqS BinOp.neq T_bool (Operand.tmp 36) (Operand.tmp 38) t36 t38) w fun t39 =>
  k3 t39 w)
  (k3 undef w)) fun _ t39_1 w =>
  pik t33 (Value.bool true) t39_1 fun t40 =>
  cnd t40
  (R (Value.bool false) w)
  (lp1 (Value.int IntKind.i64 0) w fun _ t5 w again4 =>
  fad 0 t2 fun t42 =>
  ld1 t42 w.heap fun t43 =>
  lenS t43 fun t44 =>
  bi BinOp.lss t5 t44 fun t45 =>
  cnd t45
  (drw w fun w =>
  fad 0 t2 fun t48 =>
  ld1 t48 w.heap fun t49 =>
  ixs 33 t49 t5 fun t51 =>
  ldN 33 t51 w.heap fun t52 =>
  fad 0 t3 fun t53 =>
  ld1 t53 w.heap fun t54 =>
  ixs 33 t54 t5 fun t56 =>
  ldN 33 t56 w.heap fun t57 =>
  rdP P (eqS BinOp.neq T_api_Choice (Operand.tmp 52) (Operand.tmp 57) t52 t57) w fun t58 =>
  cnd t58
  (R (Value.bool false) w)
  (bi BinOp.add t5 (Value.int IntKind.i64 1) fun t47 =>
  again4 t47 w))
  (R (Value.bool true) w))
theorem e_ref17_Same (t0 t1 : Value) (w : World) (R : Value → World → Prop) : intp P A_ref17_Same (bodyOf Try.f14) (ini [t0, t1]) w (retK P Try.f14.results.toList R) (fun _ _ _ => False) (retK P Try.f14.results.toList R) = c_ref17_Same t0 t1 w R := by kernel_rfl
theorem k_ref17_Same : chk P Try.f14.ntmps A_ref17_Same (bodyOf Try.f14) = true := by kernel_rfl
theorem l_ref17_Same {t0 t1 : Value} {w : World} {R : Value → World → Prop} (h : c_ref17_Same t0 t1 w R) : cal P f_ref17_Same [t0, t1] w R :=
  calls_of mixed Try.func14 rfl (by kernel_rfl) k_ref17_Same (Eq.mpr (e_ref17_Same t0 t1 w R) h)
theorem s_ref17_Same {t0 t1 : Value} {w : World} {Q : Value → World → Prop} (h : ∀ R : Value → World → Prop, (∀ v w', Q v w' → R v w') → c_ref17_Same t0 t1 w R) : cal P f_ref17_Same [t0, t1] w Q := l_ref17_Same (h Q fun _ _ h => h)

/-- flurry/snow.Params -/
def A_snow_Params : An := (An.s (An.r []) (An.s (An.s (An.r [[9], [17], [24], [31], [36], [41]]) (An.s (An.s (An.r []) An.o) An.o)) (An.s (An.r []) An.o)))
def c_snow_Params (t0 : Value) (w : World) (R : Value → World → Prop) : Prop :=
  bx T_api_Params t0 w fun t1 w =>
  fad 0 t1 fun t3 =>
  ld1 t3 w.heap fun t4 =>
  bi BinOp.lss t4 (Value.int IntKind.i64 1) fun t5 =>
  jn1 (fun k0 =>
  gif t5 false
  (fad 0 t1 fun t7 =>
  ld1 t7 w.heap fun t8 =>
  bi BinOp.gtr t8 (Value.int IntKind.i64 64) fun t9 =>
  k0 t9 w)
  (k0 undef w)) fun _ t9_1 w =>
  pik t5 (Value.bool true) t9_1 fun t10 =>
  jn1 (fun k1 =>
  gif t10 false
  (fad 1 t1 fun t12 =>
  ld1 t12 w.heap fun t13 =>
  fad 0 t1 fun t14 =>
  ld1 t14 w.heap fun t15 =>
  bi BinOp.quo t15 (Value.int IntKind.i64 2) fun t16 =>
  bi BinOp.leq t13 t16 fun t17 =>
  k1 t17 w)
  (k1 undef w)) fun _ t17_1 w =>
  pik t10 (Value.bool true) t17_1 fun t18 =>
  jn1 (fun k2 =>
  gif t18 false
  (fad 1 t1 fun t20 =>
  ld1 t20 w.heap fun t21 =>
  fad 2 t1 fun t22 =>
  ld1 t22 w.heap fun t23 =>
  bi BinOp.gtr t21 t23 fun t24 =>
  k2 t24 w)
  (k2 undef w)) fun _ t24_1 w =>
  pik t18 (Value.bool true) t24_1 fun t25 =>
  jn1 (fun k3 =>
  gif t25 false
  (fad 2 t1 fun t27 =>
  ld1 t27 w.heap fun t28 =>
  fad 0 t1 fun t29 =>
  ld1 t29 w.heap fun t30 =>
  bi BinOp.gtr t28 t30 fun t31 =>
  k3 t31 w)
  (k3 undef w)) fun _ t31_1 w =>
  pik t25 (Value.bool true) t31_1 fun t32 =>
  jn1 (fun k4 =>
  gif t32 false
  (fad 3 t1 fun t34 =>
  ld1 t34 w.heap fun t35 =>
  bi BinOp.lss t35 (Value.int IntKind.i64 1) fun t36 =>
  k4 t36 w)
  (k4 undef w)) fun _ t36_1 w =>
  pik t32 (Value.bool true) t36_1 fun t37 =>
  jn1 (fun k5 =>
  gif t37 false
  (fad 3 t1 fun t39 =>
  ld1 t39 w.heap fun t40 =>
  bi BinOp.gtr t40 (Value.int IntKind.i64 1000) fun t41 =>
  k5 t41 w)
  (k5 undef w)) fun _ t41_1 w =>
  pik t37 (Value.bool true) t41_1 fun t42 =>
  cnd t42
  (R (Value.int IntKind.i64 170) w)
  (R (Value.int IntKind.i64 0) w)
theorem e_snow_Params (t0 : Value) (w : World) (R : Value → World → Prop) : intp P A_snow_Params (bodyOf Try.f15) (ini [t0]) w (retK P Try.f15.results.toList R) (fun _ _ _ => False) (retK P Try.f15.results.toList R) = c_snow_Params t0 w R := by kernel_rfl
theorem k_snow_Params : chk P Try.f15.ntmps A_snow_Params (bodyOf Try.f15) = true := by kernel_rfl
theorem l_snow_Params {t0 : Value} {w : World} {R : Value → World → Prop} (h : c_snow_Params t0 w R) : cal P f_snow_Params [t0] w R :=
  calls_of mixed Try.func15 rfl (by kernel_rfl) k_snow_Params (Eq.mpr (e_snow_Params t0 w R) h)
theorem s_snow_Params {t0 : Value} {w : World} {Q : Value → World → Prop} (h : ∀ R : Value → World → Prop, (∀ v w', Q v w' → R v w') → c_snow_Params t0 w R) : cal P f_snow_Params [t0] w Q := l_snow_Params (h Q fun _ _ h => h)

/-- flurry/flurryref17.Clone -/
def A_ref17_Clone : An := (An.s (An.r []) (An.s (An.r []) (An.s (An.r []) (An.s (An.r []) An.o))))
def c_ref17_Clone (t0 : Value) (w : World) (R : Value → World → Prop) : Prop :=
  bx T_api_Snow t0 w fun t1 w =>
  efP P (Instr.alloc T_api_Snow true (.tuple #[])) w fun t2 w =>
  fad 0 t1 fun t5 =>
  ld1 t5 w.heap fun t6 =>
  efP P (Builtin.append_ #[T_sl_api_Choice, T_sl_api_Choice] T_sl_api_Choice #[(Value.slice none 0 0), t6]) w fun t7 w =>
  fad 0 t1 fun t8 =>
  st1 t8 t7 w fun w =>
  ldN 67 t1 w.heap fun t9 =>
  stN 67 t2 t9 w fun w =>
  ldN 67 t2 w.heap fun r0 =>
  R r0 w
theorem e_ref17_Clone (t0 : Value) (w : World) (R : Value → World → Prop) : intp P A_ref17_Clone (bodyOf Try.f16) (ini [t0]) w (retK P Try.f16.results.toList R) (fun _ _ _ => False) (retK P Try.f16.results.toList R) = c_ref17_Clone t0 w R := by kernel_rfl
theorem k_ref17_Clone : chk P Try.f16.ntmps A_ref17_Clone (bodyOf Try.f16) = true := by kernel_rfl
theorem l_ref17_Clone {t0 : Value} {w : World} {R : Value → World → Prop} (h : c_ref17_Clone t0 w R) : cal P f_ref17_Clone [t0] w R :=
  calls_of mixed Try.func16 rfl (by kernel_rfl) k_ref17_Clone (Eq.mpr (e_ref17_Clone t0 w R) h)
theorem s_ref17_Clone {t0 : Value} {w : World} {Q : Value → World → Prop} (h : ∀ R : Value → World → Prop, (∀ v w', Q v w' → R v w') → c_ref17_Clone t0 w R) : cal P f_ref17_Clone [t0] w Q := l_ref17_Clone (h Q fun _ _ h => h)

/-- flurry/snow.Add -/
def A_snow_Add : An := (An.s (An.r []) (An.s (An.s (An.r []) (An.s (An.r []) (An.s (An.s (An.r []) An.o) An.o))) (An.s (An.b (An.s (An.r []) (An.s (An.s (An.r []) An.o) (An.s (An.r []) (An.s (An.s (An.r []) An.o) An.o))))) (An.s (An.r []) (An.s (An.r []) (An.s (An.r []) An.o))))))
def c_snow_Add (t0 t1 t2 : Value) (w : World) (R : Value → World → Prop) : Prop :=
  bx T_api_Params t0 w fun t3 w =>
  bx T_api_Snow t1 w fun t4 w =>
  bx T_api_ID t2 w fun t5 w =>
  efP P (Instr.alloc T_api_Snow true (.tuple #[])) w fun t6 w =>
  ldN 4 t3 w.heap fun t9 =>
  ldN 67 t4 w.heap fun t10 =>
  cal P f_snow_Check [t9, t10] w fun t11 w =>
  bi BinOp.neq t11 (Value.int IntKind.i64 0) fun t13 =>
  cnd t13
  (rdP P (Instr.build T_api_Snow #[]) w fun t14 =>
  stN 67 t6 t14 w fun w =>
  ldN 67 t6 w.heap fun r0 =>
  R (Value.tuple #[r0, t11]) w)
  (ldN 67 t4 w.heap fun t17 =>
  ldN 32 t5 w.heap fun t18 =>
  cal P f_snow_Has [t17, t18] w fun t19 w =>
  cnd t19
  (rdP P (Instr.build T_api_Snow #[]) w fun t20 =>
  stN 67 t6 t20 w fun w =>
  ldN 67 t6 w.heap fun r1 =>
  R (Value.tuple #[r1, (Value.int IntKind.i64 110)]) w)
  (fad 0 t4 fun t22 =>
  ld1 t22 w.heap fun t23 =>
  lenS t23 fun t24 =>
  bi BinOp.eql t24 (Value.int IntKind.i64 32) fun t25 =>
  cnd t25
  (rdP P (Instr.build T_api_Snow #[]) w fun t26 =>
  stN 67 t6 t26 w fun w =>
  ldN 67 t6 w.heap fun r2 =>
  R (Value.tuple #[r2, (Value.int IntKind.i64 6)]) w)
  (ldN 67 t4 w.heap fun t27 =>
  cal P f_snow_own [t27] w fun t28 w =>
  stN 67 t4 t28 w fun w =>
  fad 0 t4 fun t29 =>
  ld1 t29 w.heap fun t30 =>
  ldN 32 t5 w.heap fun t31 =>
  rdP P (Instr.build T_api_Choice #[(0, t31)]) w fun t32 =>
  efP P (Instr.buildSlice T_sl_api_Choice 1 #[(0, t32)]) w fun t33 w =>
  efP P (Builtin.append_ #[T_sl_api_Choice, T_sl_api_Choice] T_sl_api_Choice #[t30, t33]) w fun t34 w =>
  fad 0 t4 fun t35 =>
  st1 t35 t34 w fun w =>
  ldN 67 t4 w.heap fun t36 =>
  stN 67 t6 t36 w fun w =>
  ldN 67 t6 w.heap fun r3 =>
  R (Value.tuple #[r3, (Value.int IntKind.i64 0)]) w)))
theorem e_snow_Add (t0 t1 t2 : Value) (w : World) (R : Value → World → Prop) : intp P A_snow_Add (bodyOf Try.f17) (ini [t0, t1, t2]) w (retK P Try.f17.results.toList R) (fun _ _ _ => False) (retK P Try.f17.results.toList R) = c_snow_Add t0 t1 t2 w R := by kernel_rfl
theorem k_snow_Add : chk P Try.f17.ntmps A_snow_Add (bodyOf Try.f17) = true := by kernel_rfl
theorem l_snow_Add {t0 t1 t2 : Value} {w : World} {R : Value → World → Prop} (h : c_snow_Add t0 t1 t2 w R) : cal P f_snow_Add [t0, t1, t2] w R :=
  calls_of mixed Try.func17 rfl (by kernel_rfl) k_snow_Add (Eq.mpr (e_snow_Add t0 t1 t2 w R) h)
theorem s_snow_Add {t0 t1 t2 : Value} {w : World} {Q : Value → World → Prop} (h : ∀ R : Value → World → Prop, (∀ v w', Q v w' → R v w') → c_snow_Add t0 t1 t2 w R) : cal P f_snow_Add [t0, t1, t2] w Q := l_snow_Add (h Q fun _ _ h => h)

/-- flurry/flurryref17.Add -/
def A_ref17_Add : An := (An.s (An.r []) (An.s (An.b (An.s (An.r []) (An.s (An.s (An.r []) An.o) (An.s (An.r []) (An.s (An.s (An.r []) An.o) (An.s (An.r []) (An.s (An.s (An.r []) An.o) An.o))))))) (An.s (An.r []) (An.s (An.r []) (An.s (An.r []) An.o)))))
def c_ref17_Add (t0 t1 t2 : Value) (w : World) (R : Value → World → Prop) : Prop :=
  bx T_api_Params t0 w fun t3 w =>
  bx T_api_Snow t1 w fun t4 w =>
  bx T_api_ID t2 w fun t5 w =>
  efP P (Instr.alloc T_api_Snow true (.tuple #[])) w fun t6 w =>
  ldN 4 t3 w.heap fun t10 =>
  ldN 67 t4 w.heap fun t11 =>
  cal P f_ref17_Check [t10, t11] w fun t12 w =>
  bi BinOp.neq t12 (Value.int IntKind.i64 0) fun t13 =>
  cnd t13
  (rdP P (Instr.build T_api_Snow #[]) w fun t14 =>
  ldN 4 t3 w.heap fun t15 =>
  ldN 67 t4 w.heap fun t16 =>
  cal P f_ref17_Check [t15, t16] w fun t17 w =>
  stN 67 t6 t14 w fun w =>
  ldN 67 t6 w.heap fun r0 =>
  R (Value.tuple #[r0, t17]) w)
  (ldN 67 t4 w.heap fun t19 =>
  ldN 32 t5 w.heap fun t20 =>
  cal P f_ref17_Place [t19, t20] w fun t21 w =>
  bi BinOp.geq t21 (Value.int IntKind.i64 0) fun t22 =>
  cnd t22
  (rdP P (Instr.build T_api_Snow #[]) w fun t23 =>
  stN 67 t6 t23 w fun w =>
  ldN 67 t6 w.heap fun r1 =>
  R (Value.tuple #[r1, (Value.int IntKind.i64 110)]) w)
  (fad 0 t4 fun t25 =>
  ld1 t25 w.heap fun t26 =>
  lenS t26 fun t27 =>
  bi BinOp.geq t27 (Value.int IntKind.i64 32) fun t28 =>
  cnd t28
  (rdP P (Instr.build T_api_Snow #[]) w fun t29 =>
  stN 67 t6 t29 w fun w =>
  ldN 67 t6 w.heap fun r2 =>
  R (Value.tuple #[r2, (Value.int IntKind.i64 6)]) w)
  (ldN 67 t4 w.heap fun t30 =>
  cal P f_ref17_Clone [t30] w fun t31 w =>
  efP P (Instr.alloc T_api_Snow true (.tuple #[])) w fun t8 w =>
  stN 67 t8 t31 w fun w =>
  fad 0 t8 fun t32 =>
  ld1 t32 w.heap fun t33 =>
  ldN 32 t5 w.heap fun t34 =>
  rdP P (Instr.build T_api_Choice #[(0, t34)]) w fun t35 =>
  efP P (Instr.buildSlice T_sl_api_Choice 1 #[(0, t35)]) w fun t36 w =>
  efP P (Builtin.append_ #[T_sl_api_Choice, T_sl_api_Choice] T_sl_api_Choice #[t33, t36]) w fun t37 w =>
  fad 0 t8 fun t38 =>
  st1 t38 t37 w fun w =>
  ldN 67 t8 w.heap fun t39 =>
  stN 67 t6 t39 w fun w =>
  ldN 67 t6 w.heap fun r3 =>
  R (Value.tuple #[r3, (Value.int IntKind.i64 0)]) w)))
theorem e_ref17_Add (t0 t1 t2 : Value) (w : World) (R : Value → World → Prop) : intp P A_ref17_Add (bodyOf Try.f18) (ini [t0, t1, t2]) w (retK P Try.f18.results.toList R) (fun _ _ _ => False) (retK P Try.f18.results.toList R) = c_ref17_Add t0 t1 t2 w R := by kernel_rfl
theorem k_ref17_Add : chk P Try.f18.ntmps A_ref17_Add (bodyOf Try.f18) = true := by kernel_rfl
theorem l_ref17_Add {t0 t1 t2 : Value} {w : World} {R : Value → World → Prop} (h : c_ref17_Add t0 t1 t2 w R) : cal P f_ref17_Add [t0, t1, t2] w R :=
  calls_of mixed Try.func18 rfl (by kernel_rfl) k_ref17_Add (Eq.mpr (e_ref17_Add t0 t1 t2 w R) h)
theorem s_ref17_Add {t0 t1 t2 : Value} {w : World} {Q : Value → World → Prop} (h : ∀ R : Value → World → Prop, (∀ v w', Q v w' → R v w') → c_ref17_Add t0 t1 t2 w R) : cal P f_ref17_Add [t0, t1, t2] w Q := l_ref17_Add (h Q fun _ _ h => h)

/-- flurry/snow.Poll -/
def A_snow_Poll : An := (An.s (An.r []) (An.s (An.s (An.r []) (An.s (An.r []) (An.s (An.s (An.r []) An.o) An.o))) (An.s (An.s (An.r [[27]]) (An.s (An.s (An.r []) An.o) An.o)) (An.s (An.r []) (An.s (An.s (An.r []) (An.s (An.s (An.r []) An.o) An.o)) (An.s (An.r []) (An.s (An.s (An.r []) (An.s (An.s (An.r []) An.o) An.o)) (An.s (An.r []) (An.s (An.s (An.r []) (An.b (An.s (An.j [12] (An.b (An.s (An.j [12] (An.b (An.s (An.b (An.s (An.s (An.s (An.r []) (An.s An.o An.o)) (An.s (An.r []) (An.s An.o An.o))) An.o)) (An.s (An.r []) (An.s (An.r []) (An.s (An.r []) An.o)))))) (An.s (An.r []) (An.s (An.r []) (An.s (An.j [] (An.s (An.d [0, 1, 2, 3, 4, 5, 6, 7, 8, 9, 10, 11, 12, 13] []) (An.s (An.r []) An.o))) (An.r []))))))) (An.s (An.s (An.r []) (An.r [])) An.o)))) (An.s (An.r []) An.o))))))))))
def c_snow_Poll (t0 t1 t2 t3 : Value) (w : World) (R : Value → World → Prop) : Prop :=
  bx T_api_Params t0 w fun t4 w =>
  bx T_api_Snow t1 w fun t5 w =>
  bx T_api_ID t2 w fun t6 w =>
  efP P (Instr.alloc T_api_Snow true (.tuple #[])) w fun t8 w =>
  ldN 4 t4 w.heap fun t14 =>
  ldN 67 t5 w.heap fun t15 =>
  cal P f_snow_Check [t14, t15] w fun t16 w =>
  bi BinOp.neq t16 (Value.int IntKind.i64 0) fun t18 =>
  cnd t18
  (rdP P (Instr.build T_api_Snow #[]) w fun t19 =>
  stN 67 t8 t19 w fun w =>
  ldN 67 t8 w.heap fun r0 =>
  R (Value.tuple #[r0, t16]) w)
  (bi BinOp.lss t3 (Value.int IntKind.i64 0) fun t22 =>
  jn1 (fun k1 =>
  gif t22 false
  (fad 0 t4 fun t25 =>
  ld1 t25 w.heap fun t26 =>
  bi BinOp.gtr t3 t26 fun t27 =>
  k1 t27 w)
  (k1 undef w)) fun _ t27_1 w =>
  pik t22 (Value.bool true) t27_1 fun t28 =>
  cnd t28
  (rdP P (Instr.build T_api_Snow #[]) w fun t29 =>
  stN 67 t8 t29 w fun w =>
  ldN 67 t8 w.heap fun r2 =>
  R (Value.tuple #[r2, (Value.int IntKind.i64 1)]) w)
  (ldN 67 t5 w.heap fun t30 =>
  ldN 32 t6 w.heap fun t31 =>
  cal P f_snow_place [t30, t31] w fun t32 w =>
  bi BinOp.lss t32 (Value.int IntKind.i64 0) fun t34 =>
  cnd t34
  (rdP P (Instr.build T_api_Snow #[]) w fun t35 =>
  stN 67 t8 t35 w fun w =>
  ldN 67 t8 w.heap fun r3 =>
  R (Value.tuple #[r3, (Value.int IntKind.i64 4)]) w)
  (ldN 67 t5 w.heap fun t36 =>
  cal P f_snow_own [t36] w fun t37 w =>
  stN 67 t5 t37 w fun w =>
  fad 66 t5 fun t38 =>
  ld1 t38 w.heap fun t39 =>
  cnd t39
  (ldN 67 t5 w.heap fun t40 =>
  stN 67 t8 t40 w fun w =>
  ldN 67 t8 w.heap fun r4 =>
  R (Value.tuple #[r4, (Value.int IntKind.i64 0)]) w)
  (ldN 4 t4 w.heap fun t41 =>
  cal P f_snow_reach [t41, t3] w fun t43 w =>
  jn1 (fun k5 =>
  jn1 (fun k6 =>
  bi BinOp.eql t43 (Value.int IntKind.i64 2) fun t45 =>
  cnd t45
  (ldN 32 t6 w.heap fun t48 =>
  fad 33 t5 fun t49 =>
  ldN 32 t49 w.heap fun t50 =>
  rdP P (eqS BinOp.eql T_api_ID (Operand.tmp 48) (Operand.tmp 50) t48 t50) w fun t51 =>
  cnd t51
  (fad 65 t5 fun t52 =>
  ld1 t52 w.heap fun t53 =>
  bi BinOp.add t53 (Value.int IntKind.i64 1) fun t54 =>
  k6 t54 w)
  (k6 (Value.int IntKind.i64 1) w))
  (bi BinOp.eql t43 (Value.int IntKind.i64 1) fun t47 =>
  cnd t47
  (k6 (Value.int IntKind.i64 0) w)
  (k5 (Value.int IntKind.i64 0) w))) fun _ t12 w =>
  fad 0 t5 fun t55 =>
  ld1 t55 w.heap fun t56 =>
  ixs 33 t56 t32 fun t58 =>
  nilc t58 fun t61 =>
  fad 32 t61 fun t62 =>
  ld1 t62 w.heap fun t63 =>
  bi BinOp.add t63 (Value.int IntKind.i64 1) fun t64 =>
  rdP P (Builtin.min_ #[T_int, T_int] T_int #[t64, (Value.int IntKind.i64 1073741824)]) w fun t65 =>
  nilc t58 fun t66 =>
  fad 32 t66 fun t67 =>
  st1 t67 t65 w fun w =>
  jn0 (fun k7 =>
  drH w fun S w =>
  nilc t58 fun t69 =>
  fad 32 t69 fun t70 =>
  rdS S (fun w => ld1 t70 w.heap) fun t71 =>
  fad 0 t5 fun t72 =>
  rdS S (fun w => ld1 t72 w.heap) fun t73 =>
  rdS S (fun w => ldN 67 t5 w.heap) fun t74 =>
  fad 1 t5 fun t75 =>
  rdS S (fun w => ldN 32 t75 w.heap) fun t76 =>
  efS S (cal P f_snow_place [t74, t76]) w fun t77 w =>
  ixs 33 t73 t77 fun t78 =>
  fad 32 t78 fun t79 =>
  rdS S (fun w => ld1 t79 w.heap) fun t80 =>
  bi BinOp.gtr t71 t80 fun t81 =>
  cnd t81
  (ldN 32 t6 w.heap fun t82 =>
  fad 1 t5 fun t83 =>
  stN 32 t83 t82 w fun w =>
  k7 w)
  (k7 w)) fun _ w =>
  ldN 32 t6 w.heap fun t84 =>
  fad 33 t5 fun t85 =>
  stN 32 t85 t84 w fun w =>
  k5 t12 w) fun _ t12_1 w =>
  fad 65 t5 fun t87 =>
  st1 t87 t12_1 w fun w =>
  fad 3 t4 fun t89 =>
  ld1 t89 w.heap fun t90 =>
  bi BinOp.eql t12_1 t90 fun t91 =>
  fad 66 t5 fun t92 =>
  st1 t92 t91 w fun w =>
  ldN 67 t5 w.heap fun t93 =>
  stN 67 t8 t93 w fun w =>
  ldN 67 t8 w.heap fun r8 =>
  R (Value.tuple #[r8, (Value.int IntKind.i64 0)]) w))))
theorem e_snow_Poll (t0 t1 t2 t3 : Value) (w : World) (R : Value → World → Prop) : intp P A_snow_Poll (bodyOf Try.f19) (ini [t0, t1, t2, t3]) w (retK P Try.f19.results.toList R) (fun _ _ _ => False) (retK P Try.f19.results.toList R) = c_snow_Poll t0 t1 t2 t3 w R := by kernel_rfl
theorem k_snow_Poll : chk P Try.f19.ntmps A_snow_Poll (bodyOf Try.f19) = true := by kernel_rfl
theorem l_snow_Poll {t0 t1 t2 t3 : Value} {w : World} {R : Value → World → Prop} (h : c_snow_Poll t0 t1 t2 t3 w R) : cal P f_snow_Poll [t0, t1, t2, t3] w R :=
  calls_of mixed Try.func19 rfl (by kernel_rfl) k_snow_Poll (Eq.mpr (e_snow_Poll t0 t1 t2 t3 w R) h)
theorem s_snow_Poll {t0 t1 t2 t3 : Value} {w : World} {Q : Value → World → Prop} (h : ∀ R : Value → World → Prop, (∀ v w', Q v w' → R v w') → c_snow_Poll t0 t1 t2 t3 w R) : cal P f_snow_Poll [t0, t1, t2, t3] w Q := l_snow_Poll (h Q fun _ _ h => h)

/-- flurry/flurryref17.Poll -/
def A_ref17_Poll : An := (An.s (An.r []) (An.s (An.s (An.r []) (An.s (An.r []) (An.s (An.s (An.r []) An.o) An.o))) (An.s (An.s (An.r [[26]]) (An.s (An.s (An.r []) An.o) An.o)) (An.s (An.r []) (An.s (An.s (An.r []) (An.s (An.s (An.r []) An.o) An.o)) (An.s (An.s (An.r [[41]]) (An.s (An.s (An.r []) An.o) An.o)) (An.s (An.r []) (An.s (An.dc [0, 1, 2, 3, 4, 5, 6, 7, 8, 9, 10, 11, 12, 13] [13] []) (An.s (An.j [] (An.s (An.d [0, 1, 2, 3, 4, 5, 6, 7, 8, 9, 10, 11, 12, 13, 14, 15] []) (An.s (An.r []) An.o))) (An.s (An.j [] (An.s (An.r []) (An.s (An.r []) An.o))) (An.s (An.r []) (An.s (An.s (An.r []) (An.s (An.s (An.r []) (An.s (An.r []) An.o)) An.o)) (An.s (An.r []) (An.s (An.r []) (An.s (An.r []) An.o)))))))))))))))
def c_ref17_Poll (t0 t1 t2 t3 : Value) (w : World) (R : Value → World → Prop) : Prop :=
  bx T_api_Params t0 w fun t4 w =>
  bx T_api_Snow t1 w fun t5 w =>
  bx T_api_ID t2 w fun t6 w =>
  efP P (Instr.alloc T_api_Snow true (.tuple #[])) w fun t8 w =>
  ldN 4 t4 w.heap fun t13 =>
  ldN 67 t5 w.heap fun t14 =>
  cal P f_ref17_Check [t13, t14] w fun t15 w =>
  bi BinOp.neq t15 (Value.int IntKind.i64 0) fun t17 =>
  cnd t17
  (rdP P (Instr.build T_api_Snow #[]) w fun t18 =>
  stN 67 t8 t18 w fun w =>
  ldN 67 t8 w.heap fun r0 =>
  R (Value.tuple #[r0, t15]) w)
  (bi BinOp.lss t3 (Value.int IntKind.i64 0) fun t21 =>
  jn1 (fun k1 =>
  gif t21 false
  (fad 0 t4 fun t24 =>
  ld1 t24 w.heap fun t25 =>
  bi BinOp.gtr t3 t25 fun t26 =>
  k1 t26 w)
  (k1 undef w)) fun _ t26_1 w =>
  pik t21 (Value.bool true) t26_1 fun t27 =>
  cnd t27
  (rdP P (Instr.build T_api_Snow #[]) w fun t28 =>
  stN 67 t8 t28 w fun w =>
  ldN 67 t8 w.heap fun r2 =>
  R (Value.tuple #[r2, (Value.int IntKind.i64 1)]) w)
  (ldN 67 t5 w.heap fun t29 =>
  ldN 32 t6 w.heap fun t30 =>
  cal P f_ref17_Place [t29, t30] w fun t31 w =>
  bi BinOp.lss t31 (Value.int IntKind.i64 0) fun t33 =>
  cnd t33
  (rdP P (Instr.build T_api_Snow #[]) w fun t34 =>
  stN 67 t8 t34 w fun w =>
  ldN 67 t8 w.heap fun r3 =>
  R (Value.tuple #[r3, (Value.int IntKind.i64 4)]) w)
  (fad 66 t5 fun t35 =>
  ld1 t35 w.heap fun t36 =>
  jn1 (fun k4 =>
  gif t36 false
  (fad 1 t4 fun t39 =>
  ld1 t39 w.heap fun t40 =>
  bi BinOp.lss t3 t40 fun t41 =>
  k4 t41 w)
  (k4 undef w)) fun _ t41_1 w =>
  pik t36 (Value.bool true) t41_1 fun t42 =>
  cnd t42
  (ldN 4 t4 w.heap fun t43 =>
  ldN 67 t5 w.heap fun t44 =>
  cal P f_ref17_Fail [t43, t44] w fun t45 w =>
  ext 0 t45 fun t46 =>
  ext 1 t45 fun t47 =>
  stN 67 t8 t46 w fun w =>
  ldN 67 t8 w.heap fun r5 =>
  R (Value.tuple #[r5, t47]) w)
  (ldN 67 t5 w.heap fun t48 =>
  cal P f_ref17_Clone [t48] w fun t49 w =>
  efP P (Instr.alloc T_api_Snow true (.tuple #[])) w fun t12 w =>
  stN 67 t12 t49 w fun w =>
  drH w fun S w =>
  fad 0 t12 fun t50 =>
  rdS S (fun w => ld1 t50 w.heap) fun t51 =>
  fad 0 t12 fun t53 =>
  rdS S (fun w => ld1 t53 w.heap) fun t54 =>
  ixs 33 t54 t31 fun t56 =>
  fad 32 t56 fun t57 =>
  rdS S (fun w => ld1 t57 w.heap) fun t58 =>
  bi BinOp.add t58 (Value.int IntKind.i64 1) fun t59 =>
  rdS S (rdP P (Builtin.min_ #[T_int, T_int] T_int #[t59, (Value.int IntKind.i64 1073741824)])) fun t60 =>
  ixs 33 t51 t31 fun t61 =>
  fad 32 t61 fun t62 =>
  efC (fun w K => st1 t62 t60 w (K undef)) w fun S _ w =>
  jn0 (fun k6 =>
  drH w fun S w =>
  fad 0 t12 fun t63 =>
  rdS S (fun w => ld1 t63 w.heap) fun t64 =>
  ixs 33 t64 t31 fun t66 =>
  fad 32 t66 fun t67 =>
  rdS S (fun w => ld1 t67 w.heap) fun t68 =>
  fad 0 t12 fun t69 =>
  rdS S (fun w => ld1 t69 w.heap) fun t70 =>
  rdS S (fun w => ldN 67 t12 w.heap) fun t71 =>
  fad 1 t12 fun t72 =>
  rdS S (fun w => ldN 32 t72 w.heap) fun t73 =>
  efS S (cal P f_ref17_Place [t71, t73]) w fun t74 w =>
  ixs 33 t70 t74 fun t75 =>
  fad 32 t75 fun t76 =>
  rdS S (fun w => ld1 t76 w.heap) fun t77 =>
  bi BinOp.gtr t68 t77 fun t78 =>
  cnd t78
  (ldN 32 t6 w.heap fun t79 =>
  fad 1 t12 fun t80 =>
  stN 32 t80 t79 w fun w =>
  k6 w)
  (k6 w)) fun _ w =>
  jn0 (fun k7 =>
  fad 33 t12 fun t81 =>
  ldN 32 t81 w.heap fun t82 =>
  ldN 32 t6 w.heap fun t83 =>
  rdP P (eqS BinOp.neq T_api_ID (Operand.tmp 82) (Operand.tmp 83) t82 t83) w fun t84 =>
  cnd t84
  (fad 65 t12 fun t85 =>
  st1 t85 (Value.int IntKind.i64 0) w fun w =>
  k7 w)
  (k7 w)) fun _ w =>
  ldN 32 t6 w.heap fun t86 =>
  fad 33 t12 fun t87 =>
  stN 32 t87 t86 w fun w =>
  fad 2 t4 fun t89 =>
  ld1 t89 w.heap fun t90 =>
  bi BinOp.lss t3 t90 fun t91 =>
  cnd t91
  (fad 65 t12 fun t92 =>
  st1 t92 (Value.int IntKind.i64 0) w fun w =>
  ldN 67 t12 w.heap fun t93 =>
  stN 67 t8 t93 w fun w =>
  ldN 67 t8 w.heap fun r8 =>
  R (Value.tuple #[r8, (Value.int IntKind.i64 0)]) w)
  (fad 65 t12 fun t94 =>
  ld1 t94 w.heap fun t95 =>
  bi BinOp.add t95 (Value.int IntKind.i64 1) fun t96 =>
  fad 65 t12 fun t97 =>
  st1 t97 t96 w fun w =>
  fad 65 t12 fun t98 =>
  ld1 t98 w.heap fun t99 =>
  fad 3 t4 fun t100 =>
  ld1 t100 w.heap fun t101 =>
  bi BinOp.eql t99 t101 fun t102 =>
  fad 66 t12 fun t103 =>
  st1 t103 t102 w fun w =>
  ldN 67 t12 w.heap fun t104 =>
  stN 67 t8 t104 w fun w =>
  ldN 67 t8 w.heap fun r9 =>
  R (Value.tuple #[r9, (Value.int IntKind.i64 0)]) w)))))
theorem e_ref17_Poll (t0 t1 t2 t3 : Value) (w : World) (R : Value → World → Prop) : intp P A_ref17_Poll (bodyOf Try.f20) (ini [t0, t1, t2, t3]) w (retK P Try.f20.results.toList R) (fun _ _ _ => False) (retK P Try.f20.results.toList R) = c_ref17_Poll t0 t1 t2 t3 w R := by kernel_rfl
theorem k_ref17_Poll : chk P Try.f20.ntmps A_ref17_Poll (bodyOf Try.f20) = true := by kernel_rfl
theorem l_ref17_Poll {t0 t1 t2 t3 : Value} {w : World} {R : Value → World → Prop} (h : c_ref17_Poll t0 t1 t2 t3 w R) : cal P f_ref17_Poll [t0, t1, t2, t3] w R :=
  calls_of mixed Try.func20 rfl (by kernel_rfl) k_ref17_Poll (Eq.mpr (e_ref17_Poll t0 t1 t2 t3 w R) h)
theorem s_ref17_Poll {t0 t1 t2 t3 : Value} {w : World} {Q : Value → World → Prop} (h : ∀ R : Value → World → Prop, (∀ v w', Q v w' → R v w') → c_ref17_Poll t0 t1 t2 t3 w R) : cal P f_ref17_Poll [t0, t1, t2, t3] w Q := l_ref17_Poll (h Q fun _ _ h => h)

/-- flurry/snow.Fail -/
def A_snow_Fail : An := (An.s (An.r []) (An.s (An.s (An.r []) (An.s (An.r []) (An.s (An.s (An.r []) An.o) An.o))) (An.s (An.r []) (An.s (An.j [] (An.s (An.r []) (An.s (An.r []) An.o))) (An.s (An.r []) An.o)))))
def c_snow_Fail (t0 t1 : Value) (w : World) (R : Value → World → Prop) : Prop :=
  bx T_api_Params t0 w fun t2 w =>
  bx T_api_Snow t1 w fun t3 w =>
  efP P (Instr.alloc T_api_Snow true (.tuple #[])) w fun t4 w =>
  ldN 4 t2 w.heap fun t7 =>
  ldN 67 t3 w.heap fun t8 =>
  cal P f_snow_Check [t7, t8] w fun t9 w =>
  bi BinOp.neq t9 (Value.int IntKind.i64 0) fun t11 =>
  cnd t11
  (rdP P (Instr.build T_api_Snow #[]) w fun t12 =>
  stN 67 t4 t12 w fun w =>
  ldN 67 t4 w.heap fun r0 =>
  R (Value.tuple #[r0, t9]) w)
  (ldN 67 t3 w.heap fun t14 =>
  cal P f_snow_own [t14] w fun t15 w =>
  stN 67 t3 t15 w fun w =>
  jn0 (fun k1 =>
  fad 66 t3 fun t16 =>
  ld1 t16 w.heap fun t17 =>
  notB t17 fun t18 =>
  cnd t18
  (fad 65 t3 fun t19 =>
  st1 t19 (Value.int IntKind.i64 0) w fun w =>
  k1 w)
  (k1 w)) fun _ w =>
  ldN 67 t3 w.heap fun t20 =>
  stN 67 t4 t20 w fun w =>
  ldN 67 t4 w.heap fun r2 =>
  R (Value.tuple #[r2, (Value.int IntKind.i64 0)]) w)
theorem e_snow_Fail (t0 t1 : Value) (w : World) (R : Value → World → Prop) : intp P A_snow_Fail (bodyOf Try.f21) (ini [t0, t1]) w (retK P Try.f21.results.toList R) (fun _ _ _ => False) (retK P Try.f21.results.toList R) = c_snow_Fail t0 t1 w R := by kernel_rfl
theorem k_snow_Fail : chk P Try.f21.ntmps A_snow_Fail (bodyOf Try.f21) = true := by kernel_rfl
theorem l_snow_Fail {t0 t1 : Value} {w : World} {R : Value → World → Prop} (h : c_snow_Fail t0 t1 w R) : cal P f_snow_Fail [t0, t1] w R :=
  calls_of mixed Try.func21 rfl (by kernel_rfl) k_snow_Fail (Eq.mpr (e_snow_Fail t0 t1 w R) h)
theorem s_snow_Fail {t0 t1 : Value} {w : World} {Q : Value → World → Prop} (h : ∀ R : Value → World → Prop, (∀ v w', Q v w' → R v w') → c_snow_Fail t0 t1 w R) : cal P f_snow_Fail [t0, t1] w Q := l_snow_Fail (h Q fun _ _ h => h)

/-- flurry/flurryref17.Fail -/
def A_ref17_Fail : An := (An.s (An.r []) (An.s (An.s (An.r []) (An.s (An.r []) (An.s (An.s (An.r []) An.o) An.o))) (An.s (An.r []) (An.s (An.j [] (An.s (An.r []) (An.s (An.r []) An.o))) (An.s (An.r []) An.o)))))
def c_ref17_Fail (t0 t1 : Value) (w : World) (R : Value → World → Prop) : Prop :=
  bx T_api_Params t0 w fun t2 w =>
  bx T_api_Snow t1 w fun t3 w =>
  efP P (Instr.alloc T_api_Snow true (.tuple #[])) w fun t4 w =>
  ldN 4 t2 w.heap fun t8 =>
  ldN 67 t3 w.heap fun t9 =>
  cal P f_ref17_Check [t8, t9] w fun t10 w =>
  bi BinOp.neq t10 (Value.int IntKind.i64 0) fun t12 =>
  cnd t12
  (rdP P (Instr.build T_api_Snow #[]) w fun t13 =>
  stN 67 t4 t13 w fun w =>
  ldN 67 t4 w.heap fun r0 =>
  R (Value.tuple #[r0, t10]) w)
  (ldN 67 t3 w.heap fun t15 =>
  cal P f_ref17_Clone [t15] w fun t16 w =>
  efP P (Instr.alloc T_api_Snow true (.tuple #[])) w fun t7 w =>
  stN 67 t7 t16 w fun w =>
  jn0 (fun k1 =>
  fad 66 t7 fun t17 =>
  ld1 t17 w.heap fun t18 =>
  notB t18 fun t19 =>
  cnd t19
  (fad 65 t7 fun t20 =>
  st1 t20 (Value.int IntKind.i64 0) w fun w =>
  k1 w)
  (k1 w)) fun _ w =>
  ldN 67 t7 w.heap fun t21 =>
  stN 67 t4 t21 w fun w =>
  ldN 67 t4 w.heap fun r2 =>
  R (Value.tuple #[r2, (Value.int IntKind.i64 0)]) w)
theorem e_ref17_Fail (t0 t1 : Value) (w : World) (R : Value → World → Prop) : intp P A_ref17_Fail (bodyOf Try.f22) (ini [t0, t1]) w (retK P Try.f22.results.toList R) (fun _ _ _ => False) (retK P Try.f22.results.toList R) = c_ref17_Fail t0 t1 w R := by kernel_rfl
theorem k_ref17_Fail : chk P Try.f22.ntmps A_ref17_Fail (bodyOf Try.f22) = true := by kernel_rfl
theorem l_ref17_Fail {t0 t1 : Value} {w : World} {R : Value → World → Prop} (h : c_ref17_Fail t0 t1 w R) : cal P f_ref17_Fail [t0, t1] w R :=
  calls_of mixed Try.func22 rfl (by kernel_rfl) k_ref17_Fail (Eq.mpr (e_ref17_Fail t0 t1 w R) h)
theorem s_ref17_Fail {t0 t1 : Value} {w : World} {Q : Value → World → Prop} (h : ∀ R : Value → World → Prop, (∀ v w', Q v w' → R v w') → c_ref17_Fail t0 t1 w R) : cal P f_ref17_Fail [t0, t1] w Q := l_ref17_Fail (h Q fun _ _ h => h)

/-- flurry/snow.Check -/
def A_snow_Check : An := (An.s (An.r []) (An.s (An.s (An.r []) (An.s (An.r []) (An.s (An.s (An.r []) An.o) An.o))) (An.s (An.r []) (An.s (An.s (An.r [[26], [30], [37], [42], [49], [59]]) (An.s (An.s (An.r []) An.o) An.o)) (An.s (An.s (An.r []) (An.b (An.l [64] (An.s (An.r []) (An.s (An.s An.o An.o) (An.s (An.b (An.s (An.r []) (An.s (An.dc [0, 1, 2, 4, 3, 5, 6, 7, 8, 9, 10, 11, 12, 13, 14, 15, 16, 17, 18, 19, 20, 21, 22, 23, 24, 25, 26] [3] [[78], [83], [94]]) (An.s (An.s (An.r []) An.o) An.o)))) (An.r []))))))) (An.s (An.r []) An.o))))))
def c_snow_Check (t0 t1 : Value) (w : World) (R : Value → World → Prop) : Prop :=
  bx T_api_Params t0 w fun t2 w =>
  bx T_api_Snow t1 w fun t3 w =>
  ldN 4 t2 w.heap fun t9 =>
  cal P f_snow_Params [t9] w fun t10 w =>
  bi BinOp.neq t10 (Value.int IntKind.i64 0) fun t12 =>
  cnd t12
  (R t10 w)
  (ldN 67 t3 w.heap fun t14 =>
  fad 1 t3 fun t15 =>
  ldN 32 t15 w.heap fun t16 =>
  cal P f_snow_place [t14, t16] w fun t17 w =>
  fad 0 t3 fun t18 =>
  ld1 t18 w.heap fun t19 =>
  lenS t19 fun t20 =>
  bi BinOp.lss t20 (Value.int IntKind.i64 1) fun t21 =>
  jn1 (fun k0 =>
  gif t21 false
  (fad 0 t3 fun t23 =>
  ld1 t23 w.heap fun t24 =>
  lenS t24 fun t25 =>
  bi BinOp.gtr t25 (Value.int IntKind.i64 32) fun t26 =>
  k0 t26 w)
  (k0 undef w)) fun _ t26_1 w =>
  pik t21 (Value.bool true) t26_1 fun t27 =>
  jn1 (fun k1 =>
  gif t27 false
  (bi BinOp.lss t17 (Value.int IntKind.i64 0) fun t30 =>
  k1 t30 w)
  (k1 undef w)) fun _ t30_1 w =>
  pik t27 (Value.bool true) t30_1 fun t31 =>
  jn1 (fun k2 =>
  gif t31 false
  (ldN 67 t3 w.heap fun t33 =>
  fad 33 t3 fun t34 =>
  ldN 32 t34 w.heap fun t35 =>
  cal P f_snow_place [t33, t35] w fun t36 w =>
  bi BinOp.lss t36 (Value.int IntKind.i64 0) fun t37 =>
  k2 t37 w)
  (k2 undef w)) fun _ t37_1 w =>
  pik t31 (Value.bool true) t37_1 fun t38 =>
  jn1 (fun k3 =>
  gif t38 false
  (fad 65 t3 fun t40 =>
  ld1 t40 w.heap fun t41 =>
  bi BinOp.lss t41 (Value.int IntKind.i64 0) fun t42 =>
  k3 t42 w)
  (k3 undef w)) fun _ t42_1 w =>
  pik t38 (Value.bool true) t42_1 fun t43 =>
  jn1 (fun k4 =>
  gif t43 false
  (fad 65 t3 fun t45 =>
  ld1 t45 w.heap fun t46 =>
  fad 3 t2 fun t47 =>
  ld1 t47 w.heap fun t48 =>
  bi BinOp.gtr t46 t48 fun t49 =>
  k4 t49 w)
  (k4 undef w)) fun _ t49_1 w =>
  pik t43 (Value.bool true) t49_1 fun t50 =>
  jn1 (fun k5 =>
  gif t50 false
  (fad 66 t3 fun t52 =>
  ld1 t52 w.heap fun t53 =>
  fad 65 t3 fun t54 =>
  ld1 t54 w.heap fun t55 =>
  fad 3 t2 fun t56 =>
  ld1 t56 w.heap fun t57 =>
  bi BinOp.eql t55 t57 fun t58 =>
  rdP P (eqS BinOp.neq T_bool (Operand.tmp 53) (Operand.tmp 58) t53 t58) w fun t59 =>
  k5 t59 w)
  (k5 undef w)) fun _ t59_1 w =>
  pik t50 (Value.bool true) t59_1 fun t60 =>
  cnd t60
  (R (Value.int IntKind.i64 171) w)
  (fad 0 t3 fun t61 =>
  ld1 t61 w.heap fun t62 =>
  lenS t62 fun t63 =>
  lp1 (Value.int IntKind.i64 0) w fun _ t64 w again6 =>
  bi BinOp.lss t64 t63 fun t65 =>
  cnd t65
  (ixs 33 t62 t64 fun t67 =>
  ldN 33 t67 w.heap fun t68 =>
  efP P (Instr.alloc T_api_Choice true (.tuple #[])) w fun t8 w =>
  stN 33 t8 t68 w fun w =>
  drH w fun S w =>
  rdS S (fun w => ldN 67 t3 w.heap) fun t69 =>
  fad 0 t8 fun t70 =>
  rdS S (fun w => ldN 32 t70 w.heap) fun t71 =>
  efC (cal P f_snow_place [t69, t71]) w fun S t72 w =>
  bi BinOp.neq t72 t64 fun t74 =>
  jn1 (fun k7 =>
  gif t74 false
  (fad 32 t8 fun t76 =>
  rdS S (fun w => ld1 t76 w.heap) fun t77 =>
  bi BinOp.lss t77 (Value.int IntKind.i64 0) fun t78 =>
  k7 t78 w)
  (k7 undef w)) fun _ t78_1 w =>
  pik t74 (Value.bool true) t78_1 fun t79 =>
  jn1 (fun k8 =>
  gif t79 false
  (fad 32 t8 fun t81 =>
  rdS S (fun w => ld1 t81 w.heap) fun t82 =>
  bi BinOp.gtr t82 (Value.int IntKind.i64 1073741824) fun t83 =>
  k8 t83 w)
  (k8 undef w)) fun _ t83_1 w =>
  pik t79 (Value.bool true) t83_1 fun t84 =>
  jn1 (fun k9 =>
  gif t84 false
  (fad 32 t8 fun t86 =>
  rdS S (fun w => ld1 t86 w.heap) fun t87 =>
  fad 0 t3 fun t88 =>
  rdS S (fun w => ld1 t88 w.heap) fun t89 =>
  ixs 33 t89 t17 fun t91 =>
  fad 32 t91 fun t92 =>
  rdS S (fun w => ld1 t92 w.heap) fun t93 =>
  bi BinOp.gtr t87 t93 fun t94 =>
  k9 t94 w)
  (k9 undef w)) fun _ t94_1 w =>
  pik t84 (Value.bool true) t94_1 fun t95 =>
  cnd t95
  (R (Value.int IntKind.i64 171) w)
  (bi BinOp.add t64 (Value.int IntKind.i64 1) fun t96 =>
  again6 t96 w))
  (R (Value.int IntKind.i64 0) w)))
theorem e_snow_Check (t0 t1 : Value) (w : World) (R : Value → World → Prop) : intp P A_snow_Check (bodyOf Try.f23) (ini [t0, t1]) w (retK P Try.f23.results.toList R) (fun _ _ _ => False) (retK P Try.f23.results.toList R) = c_snow_Check t0 t1 w R := by kernel_rfl
theorem k_snow_Check : chk P Try.f23.ntmps A_snow_Check (bodyOf Try.f23) = true := by kernel_rfl
theorem l_snow_Check {t0 t1 : Value} {w : World} {R : Value → World → Prop} (h : c_snow_Check t0 t1 w R) : cal P f_snow_Check [t0, t1] w R :=
  calls_of mixed Try.func23 rfl (by kernel_rfl) k_snow_Check (Eq.mpr (e_snow_Check t0 t1 w R) h)
theorem s_snow_Check {t0 t1 : Value} {w : World} {Q : Value → World → Prop} (h : ∀ R : Value → World → Prop, (∀ v w', Q v w' → R v w') → c_snow_Check t0 t1 w R) : cal P f_snow_Check [t0, t1] w Q := l_snow_Check (h Q fun _ _ h => h)

/-- flurry/flurrylaw17.step -/
def A_law17_step : An := (An.s (An.r []) (An.s (An.s (An.r []) (An.s (An.s (An.r []) (An.s (An.s (An.r []) (An.s (An.s (An.r []) An.o) An.o)) (An.s (An.r []) An.o))) An.o)) (An.s (An.s (An.r []) (An.s (An.s (An.r []) An.o) An.o)) (An.s (An.dc [0, 1, 2, 3, 4, 5, 6, 7, 8, 9, 10, 11, 12, 13] [13] []) (An.s (An.r []) (An.s (An.s (An.r []) (An.s (An.s (An.r []) (An.s (An.s (An.r []) (An.s (An.s (An.dc [0, 1, 2, 3, 4] [3] []) An.o) An.o)) (An.s (An.dc [0, 1, 2, 3, 4] [3] []) An.o))) An.o)) (An.s (An.r []) (An.s (An.s (An.r []) (An.s (An.s (An.dc [0, 1, 2, 3, 4, 5] [4] []) An.o) An.o)) (An.s (An.dc [0, 1, 2, 3, 4, 5] [4] []) An.o)))))))))
def c_law17_step (t0 t1 t2 : Value) (w : World) (R : Value → World → Prop) : Prop :=
  bx T_api_Params t0 w fun t3 w =>
  bx T_api_Snow t1 w fun t4 w =>
  bx T_flurrylaw17_Act t2 w fun t5 w =>
  efP P (Instr.alloc T_api_Snow true (.tuple #[])) w fun t6 w =>
  efP P (Instr.alloc T_api_ID true (.tuple #[])) w fun t7 w =>
  fad 2 t5 fun t17 =>
  ld1 t17 w.heap fun t18 =>
  cnd t18
  (ldN 4 t3 w.heap fun t20 =>
  ldN 67 t4 w.heap fun t21 =>
  fad 3 t5 fun t22 =>
  ldN 32 t22 w.heap fun t23 =>
  cal P f_snow_Add [t20, t21, t23] w fun t24 w =>
  ext 0 t24 fun t25 =>
  ext 1 t24 fun t26 =>
  efP P (Instr.alloc T_api_Snow true (.tuple #[])) w fun t9 w =>
  stN 67 t9 t25 w fun w =>
  bi BinOp.neq t26 (Value.int IntKind.i64 0) fun t28 =>
  cnd t28
  (ldN 67 t4 w.heap fun t29 =>
  rdP P (Instr.build T_api_ID #[]) w fun t30 =>
  stN 67 t6 t29 w fun w =>
  stN 32 t7 t30 w fun w =>
  ldN 67 t6 w.heap fun r0 =>
  ldN 32 t7 w.heap fun r1 =>
  R (Value.tuple #[r0, r1, (Value.int IntKind.i64 (-1))]) w)
  (ldN 67 t9 w.heap fun t31 =>
  rdP P (Instr.build T_api_ID #[]) w fun t32 =>
  stN 67 t6 t31 w fun w =>
  stN 32 t7 t32 w fun w =>
  ldN 67 t6 w.heap fun r2 =>
  ldN 32 t7 w.heap fun r3 =>
  R (Value.tuple #[r2, r3, (Value.int IntKind.i64 (-1))]) w))
  (fad 0 t4 fun t33 =>
  ld1 t33 w.heap fun t34 =>
  lenS t34 fun t35 =>
  bi BinOp.eql t35 (Value.int IntKind.i64 0) fun t36 =>
  cnd t36
  (ldN 67 t4 w.heap fun t37 =>
  rdP P (Instr.build T_api_ID #[]) w fun t38 =>
  stN 67 t6 t37 w fun w =>
  stN 32 t7 t38 w fun w =>
  ldN 67 t6 w.heap fun r4 =>
  ldN 32 t7 w.heap fun r5 =>
  R (Value.tuple #[r4, r5, (Value.int IntKind.i64 0)]) w)
  (drH w fun S w =>
  fad 0 t4 fun t39 =>
  rdS S (fun w => ld1 t39 w.heap) fun t40 =>
  fad 0 t5 fun t41 =>
  rdS S (fun w => ld1 t41 w.heap) fun t42 =>
  cvi IntKind.i64 t42 fun t43 =>
  fad 0 t4 fun t44 =>
  rdS S (fun w => ld1 t44 w.heap) fun t45 =>
  lenS t45 fun t46 =>
  bi BinOp.rem t43 t46 fun t47 =>
  ixs 33 t40 t47 fun t48 =>
  fad 0 t48 fun t49 =>
  rdS S (fun w => ldN 32 t49 w.heap) fun t50 =>
  efS S (efP P (Instr.alloc T_api_ID true (.tuple #[]))) w fun t11 w =>
  efC (fun w K => stN 32 t11 t50 w (K undef)) w fun S _ w =>
  fad 1 t5 fun t51 =>
  ld1 t51 w.heap fun t52 =>
  rdP P (Builtin.max_ #[T_int, T_int] T_int #[t52, (Value.int IntKind.i64 (-1))]) w fun t53 =>
  fad 0 t3 fun t54 =>
  ld1 t54 w.heap fun t55 =>
  rdP P (Builtin.min_ #[T_int, T_int] T_int #[t53, t55]) w fun t56 =>
  bi BinOp.lss t56 (Value.int IntKind.i64 0) fun t58 =>
  cnd t58
  (ldN 4 t3 w.heap fun t60 =>
  ldN 67 t4 w.heap fun t61 =>
  cal P f_snow_Fail [t60, t61] w fun t62 w =>
  ext 0 t62 fun t63 =>
  ext 1 t62 fun t64 =>
  efP P (Instr.alloc T_api_Snow true (.tuple #[])) w fun t13 w =>
  stN 67 t13 t63 w fun w =>
  bi BinOp.neq t64 (Value.int IntKind.i64 0) fun t66 =>
  cnd t66
  (drH w fun S w =>
  rdS S (rdP P (Instr.build T_api_Snow #[])) fun t67 =>
  rdS S (fun w => ldN 32 t11 w.heap) fun t68 =>
  efS S (fun w K => stN 67 t6 t67 w (K undef)) w fun _ w =>
  efC (fun w K => stN 32 t7 t68 w (K undef)) w fun S _ w =>
  ldN 67 t6 w.heap fun r6 =>
  ldN 32 t7 w.heap fun r7 =>
  R (Value.tuple #[r6, r7, (Value.int IntKind.i64 0)]) w)
  (drH w fun S w =>
  rdS S (fun w => ldN 67 t13 w.heap) fun t69 =>
  rdS S (fun w => ldN 32 t11 w.heap) fun t70 =>
  efS S (fun w K => stN 67 t6 t69 w (K undef)) w fun _ w =>
  efC (fun w K => stN 32 t7 t70 w (K undef)) w fun S _ w =>
  ldN 67 t6 w.heap fun r8 =>
  ldN 32 t7 w.heap fun r9 =>
  R (Value.tuple #[r8, r9, (Value.int IntKind.i64 0)]) w))
  (ldN 4 t3 w.heap fun t72 =>
  ldN 67 t4 w.heap fun t73 =>
  ldN 32 t11 w.heap fun t74 =>
  cal P f_snow_Poll [t72, t73, t74, t56] w fun t76 w =>
  ext 0 t76 fun t77 =>
  ext 1 t76 fun t78 =>
  efP P (Instr.alloc T_api_Snow true (.tuple #[])) w fun t15 w =>
  stN 67 t15 t77 w fun w =>
  bi BinOp.neq t78 (Value.int IntKind.i64 0) fun t80 =>
  cnd t80
  (drH w fun S w =>
  rdS S (rdP P (Instr.build T_api_Snow #[])) fun t81 =>
  rdS S (fun w => ldN 32 t11 w.heap) fun t82 =>
  efS S (fun w K => stN 67 t6 t81 w (K undef)) w fun _ w =>
  efC (fun w K => stN 32 t7 t82 w (K undef)) w fun S _ w =>
  ldN 67 t6 w.heap fun r10 =>
  ldN 32 t7 w.heap fun r11 =>
  R (Value.tuple #[r10, r11, t56]) w)
  (drH w fun S w =>
  rdS S (fun w => ldN 67 t15 w.heap) fun t84 =>
  rdS S (fun w => ldN 32 t11 w.heap) fun t85 =>
  efS S (fun w K => stN 67 t6 t84 w (K undef)) w fun _ w =>
  efC (fun w K => stN 32 t7 t85 w (K undef)) w fun S _ w =>
  ldN 67 t6 w.heap fun r12 =>
  ldN 32 t7 w.heap fun r13 =>
  R (Value.tuple #[r12, r13, t56]) w))))
theorem e_law17_step (t0 t1 t2 : Value) (w : World) (R : Value → World → Prop) : intp P A_law17_step (bodyOf Try.f24) (ini [t0, t1, t2]) w (retK P Try.f24.results.toList R) (fun _ _ _ => False) (retK P Try.f24.results.toList R) = c_law17_step t0 t1 t2 w R := by kernel_rfl
theorem k_law17_step : chk P Try.f24.ntmps A_law17_step (bodyOf Try.f24) = true := by kernel_rfl
theorem l_law17_step {t0 t1 t2 : Value} {w : World} {R : Value → World → Prop} (h : c_law17_step t0 t1 t2 w R) : cal P f_law17_step [t0, t1, t2] w R :=
  calls_of mixed Try.func24 rfl (by kernel_rfl) k_law17_step (Eq.mpr (e_law17_step t0 t1 t2 w R) h)
theorem s_law17_step {t0 t1 t2 : Value} {w : World} {Q : Value → World → Prop} (h : ∀ R : Value → World → Prop, (∀ v w', Q v w' → R v w') → c_law17_step t0 t1 t2 w R) : cal P f_law17_step [t0, t1, t2] w Q := l_law17_step (h Q fun _ _ h => h)

/-- flurry/snow.Has -/
def A_snow_Has : An := (An.s (An.r []) (An.s (An.r []) An.o))
def c_snow_Has (t0 t1 : Value) (w : World) (R : Value → World → Prop) : Prop :=
  bx T_api_Snow t0 w fun t2 w =>
  bx T_api_ID t1 w fun t3 w =>
  ldN 67 t2 w.heap fun t5 =>
  ldN 32 t3 w.heap fun t6 =>
  cal P f_snow_place [t5, t6] w fun t7 w =>
  bi BinOp.geq t7 (Value.int IntKind.i64 0) fun t8 =>
  R t8 w
theorem e_snow_Has (t0 t1 : Value) (w : World) (R : Value → World → Prop) : intp P A_snow_Has (bodyOf Try.f25) (ini [t0, t1]) w (retK P Try.f25.results.toList R) (fun _ _ _ => False) (retK P Try.f25.results.toList R) = c_snow_Has t0 t1 w R := by kernel_rfl
theorem k_snow_Has : chk P Try.f25.ntmps A_snow_Has (bodyOf Try.f25) = true := by kernel_rfl
theorem l_snow_Has {t0 t1 : Value} {w : World} {R : Value → World → Prop} (h : c_snow_Has t0 t1 w R) : cal P f_snow_Has [t0, t1] w R :=
  calls_of mixed Try.func25 rfl (by kernel_rfl) k_snow_Has (Eq.mpr (e_snow_Has t0 t1 w R) h)
theorem s_snow_Has {t0 t1 : Value} {w : World} {Q : Value → World → Prop} (h : ∀ R : Value → World → Prop, (∀ v w', Q v w' → R v w') → c_snow_Has t0 t1 w R) : cal P f_snow_Has [t0, t1] w Q := l_snow_Has (h Q fun _ _ h => h)

/-- flurry/snow.New -/
def A_snow_New : An := (An.s (An.r []) (An.s (An.s (An.r []) (An.s (An.r []) (An.s (An.s (An.r []) An.o) An.o))) (An.s (An.r []) An.o)))
def c_snow_New (t0 t1 : Value) (w : World) (R : Value → World → Prop) : Prop :=
  bx T_api_Params t0 w fun t2 w =>
  bx T_api_ID t1 w fun t3 w =>
  efP P (Instr.alloc T_api_Snow true (.tuple #[])) w fun t4 w =>
  ldN 4 t2 w.heap fun t7 =>
  cal P f_snow_Params [t7] w fun t8 w =>
  bi BinOp.neq t8 (Value.int IntKind.i64 0) fun t10 =>
  cnd t10
  (rdP P (Instr.build T_api_Snow #[]) w fun t11 =>
  stN 67 t4 t11 w fun w =>
  ldN 67 t4 w.heap fun r0 =>
  R (Value.tuple #[r0, t8]) w)
  (ldN 32 t3 w.heap fun t13 =>
  rdP P (Instr.build T_api_Choice #[(0, t13)]) w fun t14 =>
  efP P (Instr.buildSlice T_sl_api_Choice 1 #[(0, t14)]) w fun t15 w =>
  ldN 32 t3 w.heap fun t16 =>
  ldN 32 t3 w.heap fun t17 =>
  rdP P (Instr.build T_api_Snow #[(0, t15), (1, t16), (2, t17)]) w fun t18 =>
  stN 67 t4 t18 w fun w =>
  ldN 67 t4 w.heap fun r1 =>
  R (Value.tuple #[r1, (Value.int IntKind.i64 0)]) w)
theorem e_snow_New (t0 t1 : Value) (w : World) (R : Value → World → Prop) : intp P A_snow_New (bodyOf Try.f26) (ini [t0, t1]) w (retK P Try.f26.results.toList R) (fun _ _ _ => False) (retK P Try.f26.results.toList R) = c_snow_New t0 t1 w R := by kernel_rfl
theorem k_snow_New : chk P Try.f26.ntmps A_snow_New (bodyOf Try.f26) = true := by kernel_rfl
theorem l_snow_New {t0 t1 : Value} {w : World} {R : Value → World → Prop} (h : c_snow_New t0 t1 w R) : cal P f_snow_New [t0, t1] w R :=
  calls_of mixed Try.func26 rfl (by kernel_rfl) k_snow_New (Eq.mpr (e_snow_New t0 t1 w R) h)
theorem s_snow_New {t0 t1 : Value} {w : World} {Q : Value → World → Prop} (h : ∀ R : Value → World → Prop, (∀ v w', Q v w' → R v w') → c_snow_New t0 t1 w R) : cal P f_snow_New [t0, t1] w Q := l_snow_New (h Q fun _ _ h => h)

/-- flurry/snow.Prefers -/
def A_snow_Prefers : An := (An.s (An.r []) (An.s (An.s (An.r []) (An.s (An.s (An.r []) An.o) An.o)) (An.s (An.r []) An.o)))
def c_snow_Prefers (t0 : Value) (w : World) (R : Value → World → Prop) : Prop :=
  bx T_api_Snow t0 w fun t1 w =>
  efP P (Instr.alloc T_api_ID true (.tuple #[])) w fun t2 w =>
  fad 66 t1 fun t3 =>
  ld1 t3 w.heap fun t4 =>
  cnd t4
  (fad 33 t1 fun t5 =>
  ldN 32 t5 w.heap fun t6 =>
  stN 32 t2 t6 w fun w =>
  ldN 32 t2 w.heap fun r0 =>
  R r0 w)
  (fad 1 t1 fun t7 =>
  ldN 32 t7 w.heap fun t8 =>
  stN 32 t2 t8 w fun w =>
  ldN 32 t2 w.heap fun r1 =>
  R r1 w)
theorem e_snow_Prefers (t0 : Value) (w : World) (R : Value → World → Prop) : intp P A_snow_Prefers (bodyOf Try.f27) (ini [t0]) w (retK P Try.f27.results.toList R) (fun _ _ _ => False) (retK P Try.f27.results.toList R) = c_snow_Prefers t0 w R := by kernel_rfl
theorem k_snow_Prefers : chk P Try.f27.ntmps A_snow_Prefers (bodyOf Try.f27) = true := by kernel_rfl
theorem l_snow_Prefers {t0 : Value} {w : World} {R : Value → World → Prop} (h : c_snow_Prefers t0 w R) : cal P f_snow_Prefers [t0] w R :=
  calls_of mixed Try.func27 rfl (by kernel_rfl) k_snow_Prefers (Eq.mpr (e_snow_Prefers t0 w R) h)
theorem s_snow_Prefers {t0 : Value} {w : World} {Q : Value → World → Prop} (h : ∀ R : Value → World → Prop, (∀ v w', Q v w' → R v w') → c_snow_Prefers t0 w R) : cal P f_snow_Prefers [t0] w Q := l_snow_Prefers (h Q fun _ _ h => h)

/-- flurry/flurryref17.New -/
def A_ref17_New : An := (An.s (An.r []) (An.s (An.s (An.r []) (An.s (An.r []) (An.s (An.s (An.r []) An.o) An.o))) (An.s (An.r []) An.o)))
def c_ref17_New (t0 t1 : Value) (w : World) (R : Value → World → Prop) : Prop :=
  bx T_api_Params t0 w fun t2 w =>
  bx T_api_ID t1 w fun t3 w =>
  efP P (Instr.alloc T_api_Snow true (.tuple #[])) w fun t4 w =>
  ldN 4 t2 w.heap fun t7 =>
  cal P f_ref17_Params [t7] w fun t8 w =>
  bi BinOp.neq t8 (Value.int IntKind.i64 0) fun t10 =>
  cnd t10
  (rdP P (Instr.build T_api_Snow #[]) w fun t11 =>
  stN 67 t4 t11 w fun w =>
  ldN 67 t4 w.heap fun r0 =>
  R (Value.tuple #[r0, t8]) w)
  (ldN 32 t3 w.heap fun t13 =>
  rdP P (Instr.build T_api_Choice #[(0, t13)]) w fun t14 =>
  efP P (Instr.buildSlice T_sl_api_Choice 1 #[(0, t14)]) w fun t15 w =>
  ldN 32 t3 w.heap fun t16 =>
  ldN 32 t3 w.heap fun t17 =>
  rdP P (Instr.build T_api_Snow #[(0, t15), (1, t16), (2, t17)]) w fun t18 =>
  stN 67 t4 t18 w fun w =>
  ldN 67 t4 w.heap fun r1 =>
  R (Value.tuple #[r1, (Value.int IntKind.i64 0)]) w)
theorem e_ref17_New (t0 t1 : Value) (w : World) (R : Value → World → Prop) : intp P A_ref17_New (bodyOf Try.f28) (ini [t0, t1]) w (retK P Try.f28.results.toList R) (fun _ _ _ => False) (retK P Try.f28.results.toList R) = c_ref17_New t0 t1 w R := by kernel_rfl
theorem k_ref17_New : chk P Try.f28.ntmps A_ref17_New (bodyOf Try.f28) = true := by kernel_rfl
theorem l_ref17_New {t0 t1 : Value} {w : World} {R : Value → World → Prop} (h : c_ref17_New t0 t1 w R) : cal P f_ref17_New [t0, t1] w R :=
  calls_of mixed Try.func28 rfl (by kernel_rfl) k_ref17_New (Eq.mpr (e_ref17_New t0 t1 w R) h)
theorem s_ref17_New {t0 t1 : Value} {w : World} {Q : Value → World → Prop} (h : ∀ R : Value → World → Prop, (∀ v w', Q v w' → R v w') → c_ref17_New t0 t1 w R) : cal P f_ref17_New [t0, t1] w Q := l_ref17_New (h Q fun _ _ h => h)

/-- flurry/flurryref17.Params -/
def A_ref17_Params : An := (An.s (An.r []) (An.s (An.s (An.r [[9], [14], [21], [28], [38], [43], [48]]) (An.s (An.s (An.r []) An.o) An.o)) (An.s (An.r []) An.o)))
def c_ref17_Params (t0 : Value) (w : World) (R : Value → World → Prop) : Prop :=
  bx T_api_Params t0 w fun t1 w =>
  fad 0 t1 fun t3 =>
  ld1 t3 w.heap fun t4 =>
  bi BinOp.lss t4 (Value.int IntKind.i64 1) fun t5 =>
  jn1 (fun k0 =>
  gif t5 false
  (fad 0 t1 fun t7 =>
  ld1 t7 w.heap fun t8 =>
  bi BinOp.gtr t8 (Value.int IntKind.i64 64) fun t9 =>
  k0 t9 w)
  (k0 undef w)) fun _ t9_1 w =>
  pik t5 (Value.bool true) t9_1 fun t10 =>
  jn1 (fun k1 =>
  gif t10 false
  (fad 1 t1 fun t12 =>
  ld1 t12 w.heap fun t13 =>
  bi BinOp.lss t13 (Value.int IntKind.i64 1) fun t14 =>
  k1 t14 w)
  (k1 undef w)) fun _ t14_1 w =>
  pik t10 (Value.bool true) t14_1 fun t15 =>
  jn1 (fun k2 =>
  gif t15 false
  (fad 1 t1 fun t17 =>
  ld1 t17 w.heap fun t18 =>
  fad 2 t1 fun t19 =>
  ld1 t19 w.heap fun t20 =>
  bi BinOp.gtr t18 t20 fun t21 =>
  k2 t21 w)
  (k2 undef w)) fun _ t21_1 w =>
  pik t15 (Value.bool true) t21_1 fun t22 =>
  jn1 (fun k3 =>
  gif t22 false
  (fad 2 t1 fun t24 =>
  ld1 t24 w.heap fun t25 =>
  fad 0 t1 fun t26 =>
  ld1 t26 w.heap fun t27 =>
  bi BinOp.gtr t25 t27 fun t28 =>
  k3 t28 w)
  (k3 undef w)) fun _ t28_1 w =>
  pik t22 (Value.bool true) t28_1 fun t29 =>
  jn1 (fun k4 =>
  gif t29 false
  (fad 1 t1 fun t31 =>
  ld1 t31 w.heap fun t32 =>
  fad 0 t1 fun t33 =>
  ld1 t33 w.heap fun t34 =>
  fad 1 t1 fun t35 =>
  ld1 t35 w.heap fun t36 =>
  bi BinOp.sub t34 t36 fun t37 =>
  bi BinOp.leq t32 t37 fun t38 =>
  k4 t38 w)
  (k4 undef w)) fun _ t38_1 w =>
  pik t29 (Value.bool true) t38_1 fun t39 =>
  jn1 (fun k5 =>
  gif t39 false
  (fad 3 t1 fun t41 =>
  ld1 t41 w.heap fun t42 =>
  bi BinOp.lss t42 (Value.int IntKind.i64 1) fun t43 =>
  k5 t43 w)
  (k5 undef w)) fun _ t43_1 w =>
  pik t39 (Value.bool true) t43_1 fun t44 =>
  jn1 (fun k6 =>
  gif t44 false
  (fad 3 t1 fun t46 =>
  ld1 t46 w.heap fun t47 =>
  bi BinOp.gtr t47 (Value.int IntKind.i64 1000) fun t48 =>
  k6 t48 w)
  (k6 undef w)) fun _ t48_1 w =>
  pik t44 (Value.bool true) t48_1 fun t49 =>
  cnd t49
  (R (Value.int IntKind.i64 170) w)
  (R (Value.int IntKind.i64 0) w)
theorem e_ref17_Params (t0 : Value) (w : World) (R : Value → World → Prop) : intp P A_ref17_Params (bodyOf Try.f29) (ini [t0]) w (retK P Try.f29.results.toList R) (fun _ _ _ => False) (retK P Try.f29.results.toList R) = c_ref17_Params t0 w R := by kernel_rfl
theorem k_ref17_Params : chk P Try.f29.ntmps A_ref17_Params (bodyOf Try.f29) = true := by kernel_rfl
theorem l_ref17_Params {t0 : Value} {w : World} {R : Value → World → Prop} (h : c_ref17_Params t0 w R) : cal P f_ref17_Params [t0] w R :=
  calls_of mixed Try.func29 rfl (by kernel_rfl) k_ref17_Params (Eq.mpr (e_ref17_Params t0 w R) h)
theorem s_ref17_Params {t0 : Value} {w : World} {Q : Value → World → Prop} (h : ∀ R : Value → World → Prop, (∀ v w', Q v w' → R v w') → c_ref17_Params t0 w R) : cal P f_ref17_Params [t0] w Q := l_ref17_Params (h Q fun _ _ h => h)

/-- flurry/flurryref17.Check -/
def A_ref17_Check : An := (An.s (An.r []) (An.s (An.s (An.r []) (An.s (An.r []) (An.s (An.s (An.r []) An.o) An.o))) (An.s (An.s (An.r [[22], [29], [36], [41], [48], [58]]) (An.s (An.s (An.r []) An.o) An.o)) (An.s (An.d [0, 1, 2, 3, 4, 5, 6, 7, 8, 9] []) (An.s (An.s (An.r []) (An.b (An.l [7] (An.s (An.s (An.r []) (An.s An.o An.o)) (An.s (An.b (An.s (An.r []) (An.s (An.r [[90], [95], [101]]) (An.s (An.s (An.r []) An.o) An.o)))) (An.r [])))))) (An.s (An.r []) An.o))))))
def c_ref17_Check (t0 t1 : Value) (w : World) (R : Value → World → Prop) : Prop :=
  bx T_api_Params t0 w fun t2 w =>
  bx T_api_Snow t1 w fun t3 w =>
  ldN 4 t2 w.heap fun t9 =>
  cal P f_ref17_Params [t9] w fun t10 w =>
  bi BinOp.neq t10 (Value.int IntKind.i64 0) fun t12 =>
  cnd t12
  (R t10 w)
  (fad 0 t3 fun t14 =>
  ld1 t14 w.heap fun t15 =>
  lenS t15 fun t16 =>
  bi BinOp.lss t16 (Value.int IntKind.i64 1) fun t17 =>
  jn1 (fun k0 =>
  gif t17 false
  (fad 0 t3 fun t19 =>
  ld1 t19 w.heap fun t20 =>
  lenS t20 fun t21 =>
  bi BinOp.gtr t21 (Value.int IntKind.i64 32) fun t22 =>
  k0 t22 w)
  (k0 undef w)) fun _ t22_1 w =>
  pik t17 (Value.bool true) t22_1 fun t23 =>
  jn1 (fun k1 =>
  gif t23 false
  (ldN 67 t3 w.heap fun t25 =>
  fad 1 t3 fun t26 =>
  ldN 32 t26 w.heap fun t27 =>
  cal P f_ref17_Place [t25, t27] w fun t28 w =>
  bi BinOp.lss t28 (Value.int IntKind.i64 0) fun t29 =>
  k1 t29 w)
  (k1 undef w)) fun _ t29_1 w =>
  pik t23 (Value.bool true) t29_1 fun t30 =>
  jn1 (fun k2 =>
  gif t30 false
  (ldN 67 t3 w.heap fun t32 =>
  fad 33 t3 fun t33 =>
  ldN 32 t33 w.heap fun t34 =>
  cal P f_ref17_Place [t32, t34] w fun t35 w =>
  bi BinOp.lss t35 (Value.int IntKind.i64 0) fun t36 =>
  k2 t36 w)
  (k2 undef w)) fun _ t36_1 w =>
  pik t30 (Value.bool true) t36_1 fun t37 =>
  jn1 (fun k3 =>
  gif t37 false
  (fad 65 t3 fun t39 =>
  ld1 t39 w.heap fun t40 =>
  bi BinOp.lss t40 (Value.int IntKind.i64 0) fun t41 =>
  k3 t41 w)
  (k3 undef w)) fun _ t41_1 w =>
  pik t37 (Value.bool true) t41_1 fun t42 =>
  jn1 (fun k4 =>
  gif t42 false
  (fad 65 t3 fun t44 =>
  ld1 t44 w.heap fun t45 =>
  fad 3 t2 fun t46 =>
  ld1 t46 w.heap fun t47 =>
  bi BinOp.gtr t45 t47 fun t48 =>
  k4 t48 w)
  (k4 undef w)) fun _ t48_1 w =>
  pik t42 (Value.bool true) t48_1 fun t49 =>
  jn1 (fun k5 =>
  gif t49 false
  (fad 66 t3 fun t51 =>
  ld1 t51 w.heap fun t52 =>
  fad 65 t3 fun t53 =>
  ld1 t53 w.heap fun t54 =>
  fad 3 t2 fun t55 =>
  ld1 t55 w.heap fun t56 =>
  bi BinOp.eql t54 t56 fun t57 =>
  rdP P (eqS BinOp.neq T_bool (Operand.tmp 52) (Operand.tmp 57) t52 t57) w fun t58 =>
  k5 t58 w)
  (k5 undef w)) fun _ t58_1 w =>
  pik t49 (Value.bool true) t58_1 fun t59 =>
  cnd t59
  (R (Value.int IntKind.i64 171) w)
  (drH w fun S w =>
  fad 0 t3 fun t60 =>
  rdS S (fun w => ld1 t60 w.heap) fun t61 =>
  rdS S (fun w => ldN 67 t3 w.heap) fun t62 =>
  fad 1 t3 fun t63 =>
  rdS S (fun w => ldN 32 t63 w.heap) fun t64 =>
  efS S (cal P f_ref17_Place [t62, t64]) w fun t65 w =>
  ixs 33 t61 t65 fun t66 =>
  fad 32 t66 fun t67 =>
  rdS S (fun w => ld1 t67 w.heap) fun t68 =>
  lp1 (Value.int IntKind.i64 0) w fun _ t7 w again6 =>
  fad 0 t3 fun t70 =>
  ld1 t70 w.heap fun t71 =>
  lenS t71 fun t72 =>
  bi BinOp.lss t7 t72 fun t73 =>
  cnd t73
  (fad 0 t3 fun t76 =>
  ld1 t76 w.heap fun t77 =>
  ixs 33 t77 t7 fun t79 =>
  ldN 33 t79 w.heap fun t80 =>
  efP P (Instr.alloc T_api_Choice true (.tuple #[])) w fun t8 w =>
  stN 33 t8 t80 w fun w =>
  ldN 67 t3 w.heap fun t81 =>
  fad 0 t8 fun t82 =>
  ldN 32 t82 w.heap fun t83 =>
  cal P f_ref17_Place [t81, t83] w fun t84 w =>
  bi BinOp.neq t84 t7 fun t86 =>
  jn1 (fun k7 =>
  gif t86 false
  (fad 32 t8 fun t88 =>
  ld1 t88 w.heap fun t89 =>
  bi BinOp.lss t89 (Value.int IntKind.i64 0) fun t90 =>
  k7 t90 w)
  (k7 undef w)) fun _ t90_1 w =>
  pik t86 (Value.bool true) t90_1 fun t91 =>
  jn1 (fun k8 =>
  gif t91 false
  (fad 32 t8 fun t93 =>
  ld1 t93 w.heap fun t94 =>
  bi BinOp.gtr t94 (Value.int IntKind.i64 1073741824) fun t95 =>
  k8 t95 w)
  (k8 undef w)) fun _ t95_1 w =>
  pik t91 (Value.bool true) t95_1 fun t96 =>
  jn1 (fun k9 =>
  gif t96 false
  (fad 32 t8 fun t98 =>
  ld1 t98 w.heap fun t99 =>
  bi BinOp.gtr t99 t68 fun t101 =>
  k9 t101 w)
  (k9 undef w)) fun _ t101_1 w =>
  pik t96 (Value.bool true) t101_1 fun t102 =>
  cnd t102
  (R (Value.int IntKind.i64 171) w)
  (bi BinOp.add t7 (Value.int IntKind.i64 1) fun t75 =>
  again6 t75 w))
  (R (Value.int IntKind.i64 0) w)))
theorem e_ref17_Check (t0 t1 : Value) (w : World) (R : Value → World → Prop) : intp P A_ref17_Check (bodyOf Try.f30) (ini [t0, t1]) w (retK P Try.f30.results.toList R) (fun _ _ _ => False) (retK P Try.f30.results.toList R) = c_ref17_Check t0 t1 w R := by kernel_rfl
theorem k_ref17_Check : chk P Try.f30.ntmps A_ref17_Check (bodyOf Try.f30) = true := by kernel_rfl
theorem l_ref17_Check {t0 t1 : Value} {w : World} {R : Value → World → Prop} (h : c_ref17_Check t0 t1 w R) : cal P f_ref17_Check [t0, t1] w R :=
  calls_of mixed Try.func30 rfl (by kernel_rfl) k_ref17_Check (Eq.mpr (e_ref17_Check t0 t1 w R) h)
theorem s_ref17_Check {t0 t1 : Value} {w : World} {Q : Value → World → Prop} (h : ∀ R : Value → World → Prop, (∀ v w', Q v w' → R v w') → c_ref17_Check t0 t1 w R) : cal P f_ref17_Check [t0, t1] w Q := l_ref17_Check (h Q fun _ _ h => h)

/-- flurry/snow.Same -/
def A_snow_Same : An := (An.s (An.r []) (An.s (An.s (An.r [[16], [23], [30], [39]]) (An.s (An.s (An.r []) An.o) An.o)) (An.s (An.s (An.r []) (An.b (An.l [44] (An.s (An.r []) (An.s (An.s An.o An.o) (An.s (An.b (An.s (An.r []) (An.s (An.r []) (An.s (An.s (An.r []) An.o) An.o)))) (An.r []))))))) (An.s (An.r []) An.o))))
def c_snow_Same (t0 t1 : Value) (w : World) (R : Value → World → Prop) : Prop :=
  bx T_api_Snow t0 w fun t2 w =>
  bx T_api_Snow t1 w fun t3 w =>
  fad 1 t2 fun t6 =>
  ldN 32 t6 w.heap fun t7 =>
  fad 1 t3 fun t8 =>
  ldN 32 t8 w.heap fun t9 =>
  rdP P (eqS BinOp.neq T_api_ID (Operand.tmp 7) (Operand.tmp 9) t7 t9) w fun t10 =>
  jn1 (fun k0 =>
  gif t10 false
  (fad 33 t2 fun t12 =>
  ldN 32 t12 w.heap fun t13 =>
  fad 33 t3 fun t14 =>
  ldN 32 t14 w.heap fun t15 =>
  rdP P (eqS BinOp.neq T_api_ID (Operand.tmp 13) (Operand.tmp 15) t13 t15) w fun t16 =>
  k0 t16 w)
  (k0 undef w)) fun _ t16_1 w =>
  pik t10 (Value.bool true) t16_1 fun t17 =>
  jn1 (fun k1 =>
  gif t17 false
  (fad 65 t2 fun t19 =>
  ld1 t19 w.heap fun t20 =>
  fad 65 t3 fun t21 =>
  ld1 t21 w.heap fun t22 =>
  bi BinOp.neq t20 t22 fun t23 =>
  k1 t23 w)
  (k1 undef w)) fun _ t23_1 w =>
  pik t17 (Value.bool true) t23_1 fun t24 =>
  jn1 (fun k2 =>
  gif t24 false
  (fad 66 t2 fun t26 =>
  ld1 t26 w.heap fun t27 =>
  fad 66 t3 fun t28 =>
  ld1 t28 w.heap fun t29 =>
  rdP P (eqS BinOp.neq T_bool (Operand.tmp 27) (Operand.tmp 29) t27 t29) w fun t30 =>
  k2 t30 w)
  (k2 undef w)) fun _ t30_1 w =>
  pik t24 (Value.bool true) t30_1 fun t31 =>
  jn1 (fun k3 =>
  gif t31 false
  (fad 0 t2 fun t33 =>
  ld1 t33 w.heap fun t34 =>
  lenS t34 fun t35 =>
  fad 0 t3 fun t36 =>
  ld1 t36 w.heap fun t37 =>
  lenS t37 fun t38 =>
  bi BinOp.neq t35 t38 fun t39 =>
  k3 t39 w)
  (k3 undef w)) fun _ t39_1 w =>
  pik t31 (Value.bool true) t39_1 fun t40 =>
  cnd t40
  (R (Value.bool false) w)
  (fad 0 t2 fun t41 =>
  ld1 t41 w.heap fun t42 =>
  lenS t42 fun t43 =>
  lp1 (Value.int IntKind.i64 0) w fun _ t44 w again4 =>
  bi BinOp.lss t44 t43 fun t45 =>
  cnd t45
  (drw w fun w =>
  fad 0 t2 fun t47 =>
  ld1 t47 w.heap fun t48 =>
  ixs 33 t48 t44 fun t50 =>
  ldN 33 t50 w.heap fun t51 =>
  fad 0 t3 fun t52 =>
  ld1 t52 w.heap fun t53 =>
  ixs 33 t53 t44 fun t55 =>
  ldN 33 t55 w.heap fun t56 =>
  rdP P (eqS BinOp.neq T_api_Choice (Operand.tmp 51) (Operand.tmp 56) t51 t56) w fun t57 =>
  cnd t57
  (R (Value.bool false) w)
  (bi BinOp.add t44 (Value.int IntKind.i64 1) fun t58 =>
  again4 t58 w))
  (R (Value.bool true) w))
theorem e_snow_Same (t0 t1 : Value) (w : World) (R : Value → World → Prop) : intp P A_snow_Same (bodyOf Try.f31) (ini [t0, t1]) w (retK P Try.f31.results.toList R) (fun _ _ _ => False) (retK P Try.f31.results.toList R) = c_snow_Same t0 t1 w R := by kernel_rfl
theorem k_snow_Same : chk P Try.f31.ntmps A_snow_Same (bodyOf Try.f31) = true := by kernel_rfl
theorem l_snow_Same {t0 t1 : Value} {w : World} {R : Value → World → Prop} (h : c_snow_Same t0 t1 w R) : cal P f_snow_Same [t0, t1] w R :=
  calls_of mixed Try.func31 rfl (by kernel_rfl) k_snow_Same (Eq.mpr (e_snow_Same t0 t1 w R) h)
theorem s_snow_Same {t0 t1 : Value} {w : World} {Q : Value → World → Prop} (h : ∀ R : Value → World → Prop, (∀ v w', Q v w' → R v w') → c_snow_Same t0 t1 w R) : cal P f_snow_Same [t0, t1] w Q := l_snow_Same (h Q fun _ _ h => h)

/-- flurry/flurryref17.Prefers -/
def A_ref17_Prefers : An := (An.s (An.r []) (An.s (An.s (An.r []) (An.s (An.s (An.r []) An.o) An.o)) (An.s (An.r []) An.o)))
def c_ref17_Prefers (t0 : Value) (w : World) (R : Value → World → Prop) : Prop :=
  bx T_api_Snow t0 w fun t1 w =>
  efP P (Instr.alloc T_api_ID true (.tuple #[])) w fun t2 w =>
  fad 66 t1 fun t3 =>
  ld1 t3 w.heap fun t4 =>
  cnd t4
  (fad 33 t1 fun t5 =>
  ldN 32 t5 w.heap fun t6 =>
  stN 32 t2 t6 w fun w =>
  ldN 32 t2 w.heap fun r0 =>
  R r0 w)
  (fad 1 t1 fun t7 =>
  ldN 32 t7 w.heap fun t8 =>
  stN 32 t2 t8 w fun w =>
  ldN 32 t2 w.heap fun r1 =>
  R r1 w)
theorem e_ref17_Prefers (t0 : Value) (w : World) (R : Value → World → Prop) : intp P A_ref17_Prefers (bodyOf Try.f32) (ini [t0]) w (retK P Try.f32.results.toList R) (fun _ _ _ => False) (retK P Try.f32.results.toList R) = c_ref17_Prefers t0 w R := by kernel_rfl
theorem k_ref17_Prefers : chk P Try.f32.ntmps A_ref17_Prefers (bodyOf Try.f32) = true := by kernel_rfl
theorem l_ref17_Prefers {t0 : Value} {w : World} {R : Value → World → Prop} (h : c_ref17_Prefers t0 w R) : cal P f_ref17_Prefers [t0] w R :=
  calls_of mixed Try.func32 rfl (by kernel_rfl) k_ref17_Prefers (Eq.mpr (e_ref17_Prefers t0 w R) h)
theorem s_ref17_Prefers {t0 : Value} {w : World} {Q : Value → World → Prop} (h : ∀ R : Value → World → Prop, (∀ v w', Q v w' → R v w') → c_ref17_Prefers t0 w R) : cal P f_ref17_Prefers [t0] w Q := l_ref17_Prefers (h Q fun _ _ h => h)

/-- flurry/flurryref17.Place -/
def A_ref17_Place : An := (An.s (An.r []) (An.s (An.s (An.r []) (An.b (An.l [5] (An.s (An.s (An.r []) (An.s An.o An.o)) (An.s (An.b (An.s (An.r []) (An.s (An.s (An.r []) An.o) An.o))) (An.r [])))))) (An.s (An.r []) An.o)))
def c_ref17_Place (t0 t1 : Value) (w : World) (R : Value → World → Prop) : Prop :=
  bx T_api_Snow t0 w fun t2 w =>
  bx T_api_ID t1 w fun t3 w =>
  lp1 (Value.int IntKind.i64 0) w fun _ t5 w again0 =>
  fad 0 t2 fun t7 =>
  ld1 t7 w.heap fun t8 =>
  lenS t8 fun t9 =>
  bi BinOp.lss t5 t9 fun t10 =>
  cnd t10
  (drw w fun w =>
  fad 0 t2 fun t13 =>
  ld1 t13 w.heap fun t14 =>
  ixs 33 t14 t5 fun t16 =>
  fad 0 t16 fun t17 =>
  ldN 32 t17 w.heap fun t18 =>
  ldN 32 t3 w.heap fun t19 =>
  rdP P (eqS BinOp.eql T_api_ID (Operand.tmp 18) (Operand.tmp 19) t18 t19) w fun t20 =>
  cnd t20
  (R t5 w)
  (bi BinOp.add t5 (Value.int IntKind.i64 1) fun t12 =>
  again0 t12 w))
  (R (Value.int IntKind.i64 (-1)) w)
theorem e_ref17_Place (t0 t1 : Value) (w : World) (R : Value → World → Prop) : intp P A_ref17_Place (bodyOf Try.f33) (ini [t0, t1]) w (retK P Try.f33.results.toList R) (fun _ _ _ => False) (retK P Try.f33.results.toList R) = c_ref17_Place t0 t1 w R := by kernel_rfl
theorem k_ref17_Place : chk P Try.f33.ntmps A_ref17_Place (bodyOf Try.f33) = true := by kernel_rfl
theorem l_ref17_Place {t0 t1 : Value} {w : World} {R : Value → World → Prop} (h : c_ref17_Place t0 t1 w R) : cal P f_ref17_Place [t0, t1] w R :=
  calls_of mixed Try.func33 rfl (by kernel_rfl) k_ref17_Place (Eq.mpr (e_ref17_Place t0 t1 w R) h)
theorem s_ref17_Place {t0 t1 : Value} {w : World} {Q : Value → World → Prop} (h : ∀ R : Value → World → Prop, (∀ v w', Q v w' → R v w') → c_ref17_Place t0 t1 w R) : cal P f_ref17_Place [t0, t1] w Q := l_ref17_Place (h Q fun _ _ h => h)

/-- flurry/flurrylaw17.strength -/
def A_law17_strength : An := (An.s (An.r []) (An.s (An.s (An.r []) (An.b (An.l [10] (An.s (An.r []) (An.s (An.s An.o An.o) (An.s (An.b (An.s (An.r []) (An.s (An.r []) (An.s (An.s (An.r []) An.o) An.o)))) (An.r []))))))) (An.s (An.r []) An.o)))
def c_law17_strength (t0 t1 : Value) (w : World) (R : Value → World → Prop) : Prop :=
  bx T_api_Snow t0 w fun t2 w =>
  bx T_api_ID t1 w fun t3 w =>
  fad 0 t2 fun t7 =>
  ld1 t7 w.heap fun t8 =>
  lenS t8 fun t9 =>
  lp1 (Value.int IntKind.i64 0) w fun _ t10 w again0 =>
  bi BinOp.lss t10 t9 fun t11 =>
  cnd t11
  (ixs 33 t8 t10 fun t12 =>
  ldN 33 t12 w.heap fun t13 =>
  efP P (Instr.alloc T_api_Choice true (.tuple #[])) w fun t6 w =>
  stN 33 t6 t13 w fun w =>
  fad 0 t6 fun t14 =>
  ldN 32 t14 w.heap fun t15 =>
  ldN 32 t3 w.heap fun t16 =>
  rdP P (eqS BinOp.eql T_api_ID (Operand.tmp 15) (Operand.tmp 16) t15 t16) w fun t17 =>
  cnd t17
  (fad 32 t6 fun t18 =>
  ld1 t18 w.heap fun t19 =>
  R t19 w)
  (bi BinOp.add t10 (Value.int IntKind.i64 1) fun t20 =>
  again0 t20 w))
  (R (Value.int IntKind.i64 (-1)) w)
theorem e_law17_strength (t0 t1 : Value) (w : World) (R : Value → World → Prop) : intp P A_law17_strength (bodyOf Try.f34) (ini [t0, t1]) w (retK P Try.f34.results.toList R) (fun _ _ _ => False) (retK P Try.f34.results.toList R) = c_law17_strength t0 t1 w R := by kernel_rfl
theorem k_law17_strength : chk P Try.f34.ntmps A_law17_strength (bodyOf Try.f34) = true := by kernel_rfl
theorem l_law17_strength {t0 t1 : Value} {w : World} {R : Value → World → Prop} (h : c_law17_strength t0 t1 w R) : cal P f_law17_strength [t0, t1] w R :=
  calls_of mixed Try.func34 rfl (by kernel_rfl) k_law17_strength (Eq.mpr (e_law17_strength t0 t1 w R) h)
theorem s_law17_strength {t0 t1 : Value} {w : World} {Q : Value → World → Prop} (h : ∀ R : Value → World → Prop, (∀ v w', Q v w' → R v w') → c_law17_strength t0 t1 w R) : cal P f_law17_strength [t0, t1] w Q := l_law17_strength (h Q fun _ _ h => h)

/-- flurry/flurrylaw17.some -/
def A_law17_some : An := (An.s (An.r []) (An.s (An.r []) An.o))
def c_law17_some (w : World) (R : Value → World → Prop) : Prop :=
  efP P (Instr.alloc T_api_Params true (.tuple #[])) w fun t0 w =>
  rdP P (Instr.build T_api_Params #[(0, (Value.int IntKind.i64 3)), (1, (Value.int IntKind.i64 2)), (2, (Value.int IntKind.i64 3)), (3, (Value.int IntKind.i64 2))]) w fun t1 =>
  stN 4 t0 t1 w fun w =>
  ldN 4 t0 w.heap fun r0 =>
  R r0 w
theorem e_law17_some (w : World) (R : Value → World → Prop) : intp P A_law17_some (bodyOf Try.f35) (ini []) w (retK P Try.f35.results.toList R) (fun _ _ _ => False) (retK P Try.f35.results.toList R) = c_law17_some  w R := by kernel_rfl
theorem k_law17_some : chk P Try.f35.ntmps A_law17_some (bodyOf Try.f35) = true := by kernel_rfl
theorem l_law17_some {w : World} {R : Value → World → Prop} (h : c_law17_some w R) : cal P f_law17_some [] w R :=
  calls_of mixed Try.func35 rfl (by kernel_rfl) k_law17_some (Eq.mpr (e_law17_some w R) h)
theorem s_law17_some {w : World} {Q : Value → World → Prop} (h : ∀ R : Value → World → Prop, (∀ v w', Q v w' → R v w') → c_law17_some w R) : cal P f_law17_some [] w Q := l_law17_some (h Q fun _ _ h => h)

/-- flurry/snow.own -/
def A_snow_own : An := (An.s (An.r []) (An.s (An.r []) (An.s (An.r []) An.o)))
def c_snow_own (t0 : Value) (w : World) (R : Value → World → Prop) : Prop :=
  bx T_api_Snow t0 w fun t1 w =>
  efP P (Instr.alloc T_api_Snow true (.tuple #[])) w fun t2 w =>
  fad 0 t1 fun t3 =>
  ld1 t3 w.heap fun t4 =>
  cal P f_slices_Clone_api_Choice_api_Choice [t4] w fun t5 w =>
  fad 0 t1 fun t6 =>
  st1 t6 t5 w fun w =>
  ldN 67 t1 w.heap fun t7 =>
  stN 67 t2 t7 w fun w =>
  ldN 67 t2 w.heap fun r0 =>
  R r0 w
theorem e_snow_own (t0 : Value) (w : World) (R : Value → World → Prop) : intp P A_snow_own (bodyOf Try.f36) (ini [t0]) w (retK P Try.f36.results.toList R) (fun _ _ _ => False) (retK P Try.f36.results.toList R) = c_snow_own t0 w R := by kernel_rfl
theorem k_snow_own : chk P Try.f36.ntmps A_snow_own (bodyOf Try.f36) = true := by kernel_rfl
theorem l_snow_own {t0 : Value} {w : World} {R : Value → World → Prop} (h : c_snow_own t0 w R) : cal P f_snow_own [t0] w R :=
  calls_of mixed Try.func36 rfl (by kernel_rfl) k_snow_own (Eq.mpr (e_snow_own t0 w R) h)
theorem s_snow_own {t0 : Value} {w : World} {Q : Value → World → Prop} (h : ∀ R : Value → World → Prop, (∀ v w', Q v w' → R v w') → c_snow_own t0 w R) : cal P f_snow_own [t0] w Q := l_snow_own (h Q fun _ _ h => h)

/-- flurry/snow.place -/
def A_snow_place : An := (An.s (An.r []) (An.s (An.r []) An.o))
def c_snow_place (t0 t1 : Value) (w : World) (R : Value → World → Prop) : Prop :=
  bx T_api_Snow t0 w fun t2 w =>
  bx T_api_ID t1 w fun t3 w =>
  fad 0 t2 fun t5 =>
  ld1 t5 w.heap fun t6 =>
  cal P f_slices_IndexFunc_api_Choice_api_Choice [t6, (Value.func (Fn.func f_snow_place_1) #[] #[t3])] w fun t8 w =>
  R t8 w
theorem e_snow_place (t0 t1 : Value) (w : World) (R : Value → World → Prop) : intp P A_snow_place (bodyOf Try.f37) (ini [t0, t1]) w (retK P Try.f37.results.toList R) (fun _ _ _ => False) (retK P Try.f37.results.toList R) = c_snow_place t0 t1 w R := by kernel_rfl
theorem k_snow_place : chk P Try.f37.ntmps A_snow_place (bodyOf Try.f37) = true := by kernel_rfl
theorem l_snow_place {t0 t1 : Value} {w : World} {R : Value → World → Prop} (h : c_snow_place t0 t1 w R) : cal P f_snow_place [t0, t1] w R :=
  calls_of mixed Try.func37 rfl (by kernel_rfl) k_snow_place (Eq.mpr (e_snow_place t0 t1 w R) h)
theorem s_snow_place {t0 t1 : Value} {w : World} {Q : Value → World → Prop} (h : ∀ R : Value → World → Prop, (∀ v w', Q v w' → R v w') → c_snow_place t0 t1 w R) : cal P f_snow_place [t0, t1] w Q := l_snow_place (h Q fun _ _ h => h)

/-- flurry/snow.reach -/
def A_snow_reach : An := (An.s (An.r []) (An.s (An.b (An.s (An.r []) (An.s (An.s (An.r []) An.o) (An.s (An.r []) (An.s (An.s (An.r []) An.o) An.o))))) (An.s (An.r []) An.o)))
def c_snow_reach (t0 t1 : Value) (w : World) (R : Value → World → Prop) : Prop :=
  bx T_api_Params t0 w fun t2 w =>
  fad 2 t2 fun t7 =>
  ld1 t7 w.heap fun t8 =>
  bi BinOp.geq t1 t8 fun t9 =>
  cnd t9
  (R (Value.int IntKind.i64 2) w)
  (fad 1 t2 fun t12 =>
  ld1 t12 w.heap fun t13 =>
  bi BinOp.geq t1 t13 fun t14 =>
  cnd t14
  (R (Value.int IntKind.i64 1) w)
  (R (Value.int IntKind.i64 0) w))
theorem e_snow_reach (t0 t1 : Value) (w : World) (R : Value → World → Prop) : intp P A_snow_reach (bodyOf Try.f38) (ini [t0, t1]) w (retK P Try.f38.results.toList R) (fun _ _ _ => False) (retK P Try.f38.results.toList R) = c_snow_reach t0 t1 w R := by kernel_rfl
theorem k_snow_reach : chk P Try.f38.ntmps A_snow_reach (bodyOf Try.f38) = true := by kernel_rfl
theorem l_snow_reach {t0 t1 : Value} {w : World} {R : Value → World → Prop} (h : c_snow_reach t0 t1 w R) : cal P f_snow_reach [t0, t1] w R :=
  calls_of mixed Try.func38 rfl (by kernel_rfl) k_snow_reach (Eq.mpr (e_snow_reach t0 t1 w R) h)
theorem s_snow_reach {t0 t1 : Value} {w : World} {Q : Value → World → Prop} (h : ∀ R : Value → World → Prop, (∀ v w', Q v w' → R v w') → c_snow_reach t0 t1 w R) : cal P f_snow_reach [t0, t1] w Q := l_snow_reach (h Q fun _ _ h => h)

/-- slices.Clone[[]flurry/api.Choice,flurry/api.Choice] -/
def A_slices_Clone_api_Choice_api_Choice : An := (An.s (An.r []) (An.s (An.s (An.r []) (An.s (An.s (An.r []) An.o) An.o)) (An.s (An.r []) An.o)))
def c_slices_Clone_api_Choice_api_Choice (t0 : Value) (w : World) (R : Value → World → Prop) : Prop :=
  nilS false t0 fun t4 =>
  cnd t4
  (R (Value.slice none 0 0) w)
  (efP P (Instr.buildSlice T_sl_api_Choice 0 #[]) w fun t5 w =>
  efP P (Builtin.append_ #[T_sl_api_Choice, T_sl_api_Choice] T_sl_api_Choice #[t5, t0]) w fun t7 w =>
  R t7 w)
theorem e_slices_Clone_api_Choice_api_Choice (t0 : Value) (w : World) (R : Value → World → Prop) : intp P A_slices_Clone_api_Choice_api_Choice (bodyOf Try.f39) (ini [t0]) w (retK P Try.f39.results.toList R) (fun _ _ _ => False) (retK P Try.f39.results.toList R) = c_slices_Clone_api_Choice_api_Choice t0 w R := by kernel_rfl
theorem k_slices_Clone_api_Choice_api_Choice : chk P Try.f39.ntmps A_slices_Clone_api_Choice_api_Choice (bodyOf Try.f39) = true := by kernel_rfl
theorem l_slices_Clone_api_Choice_api_Choice {t0 : Value} {w : World} {R : Value → World → Prop} (h : c_slices_Clone_api_Choice_api_Choice t0 w R) : cal P f_slices_Clone_api_Choice_api_Choice [t0] w R :=
  calls_of mixed Try.func39 rfl (by kernel_rfl) k_slices_Clone_api_Choice_api_Choice (Eq.mpr (e_slices_Clone_api_Choice_api_Choice t0 w R) h)
theorem s_slices_Clone_api_Choice_api_Choice {t0 : Value} {w : World} {Q : Value → World → Prop} (h : ∀ R : Value → World → Prop, (∀ v w', Q v w' → R v w') → c_slices_Clone_api_Choice_api_Choice t0 w R) : cal P f_slices_Clone_api_Choice_api_Choice [t0] w Q := l_slices_Clone_api_Choice_api_Choice (h Q fun _ _ h => h)

/-- slices.IndexFunc[[]flurry/api.Choice,flurry/api.Choice] -/
def A_slices_IndexFunc_api_Choice_api_Choice : An := (An.s (An.r []) (An.s (An.s (An.r []) (An.b (An.l [8] (An.s (An.r []) (An.s (An.s An.o An.o) (An.s (An.b (An.s (An.r []) (An.s (An.r []) (An.s (An.s (An.r []) An.o) An.o)))) (An.r []))))))) (An.s (An.r []) An.o)))
def c_slices_IndexFunc_api_Choice_api_Choice (t0 t1 : Value) (w : World) (R : Value → World → Prop) : Prop :=
  lenS t0 fun t7 =>
  lp1 (Value.int IntKind.i64 0) w fun _ t8 w again0 =>
  bi BinOp.lss t8 t7 fun t9 =>
  cnd t9
  (ixs 33 t0 t8 fun t14 =>
  ldN 33 t14 w.heap fun t15 =>
  calV P t1 [t15] w fun t16 w =>
  cnd t16
  (R t8 w)
  (bi BinOp.add t8 (Value.int IntKind.i64 1) fun t18 =>
  again0 t18 w))
  (R (Value.int IntKind.i64 (-1)) w)
theorem e_slices_IndexFunc_api_Choice_api_Choice (t0 t1 : Value) (w : World) (R : Value → World → Prop) : intp P A_slices_IndexFunc_api_Choice_api_Choice (bodyOf Try.f40) (ini [t0, t1]) w (retK P Try.f40.results.toList R) (fun _ _ _ => False) (retK P Try.f40.results.toList R) = c_slices_IndexFunc_api_Choice_api_Choice t0 t1 w R := by kernel_rfl
theorem k_slices_IndexFunc_api_Choice_api_Choice : chk P Try.f40.ntmps A_slices_IndexFunc_api_Choice_api_Choice (bodyOf Try.f40) = true := by kernel_rfl
theorem l_slices_IndexFunc_api_Choice_api_Choice {t0 t1 : Value} {w : World} {R : Value → World → Prop} (h : c_slices_IndexFunc_api_Choice_api_Choice t0 t1 w R) : cal P f_slices_IndexFunc_api_Choice_api_Choice [t0, t1] w R :=
  calls_of mixed Try.func40 rfl (by kernel_rfl) k_slices_IndexFunc_api_Choice_api_Choice (Eq.mpr (e_slices_IndexFunc_api_Choice_api_Choice t0 t1 w R) h)
theorem s_slices_IndexFunc_api_Choice_api_Choice {t0 t1 : Value} {w : World} {Q : Value → World → Prop} (h : ∀ R : Value → World → Prop, (∀ v w', Q v w' → R v w') → c_slices_IndexFunc_api_Choice_api_Choice t0 t1 w R) : cal P f_slices_IndexFunc_api_Choice_api_Choice [t0, t1] w Q := l_slices_IndexFunc_api_Choice_api_Choice (h Q fun _ _ h => h)

/-- flurry/snow.place$1 -/
def A_snow_place_1 : An := (An.s (An.r []) (An.s (An.r []) An.o))
def c_snow_place_1 (t0 t1 : Value) (w : World) (R : Value → World → Prop) : Prop :=
  bx T_api_Choice t0 w fun t2 w =>
  fad 0 t2 fun t4 =>
  ldN 32 t4 w.heap fun t5 =>
  ldN 32 t1 w.heap fun t6 =>
  rdP P (eqS BinOp.eql T_api_ID (Operand.tmp 5) (Operand.tmp 6) t5 t6) w fun t7 =>
  R t7 w
theorem e_snow_place_1 (t0 t1 : Value) (w : World) (R : Value → World → Prop) : intp P A_snow_place_1 (bodyOf Try.f41) (ini [t0, t1]) w (retK P Try.f41.results.toList R) (fun _ _ _ => False) (retK P Try.f41.results.toList R) = c_snow_place_1 t0 t1 w R := by kernel_rfl
theorem k_snow_place_1 : chk P Try.f41.ntmps A_snow_place_1 (bodyOf Try.f41) = true := by kernel_rfl
theorem l_snow_place_1 {t0 t1 : Value} {w : World} {R : Value → World → Prop} (h : c_snow_place_1 t0 t1 w R) : cal P f_snow_place_1 [t0, t1] w R :=
  calls_of mixed Try.func41 rfl (by kernel_rfl) k_snow_place_1 (Eq.mpr (e_snow_place_1 t0 t1 w R) h)
theorem s_snow_place_1 {t0 t1 : Value} {w : World} {Q : Value → World → Prop} (h : ∀ R : Value → World → Prop, (∀ v w', Q v w' → R v w') → c_snow_place_1 t0 t1 w R) : cal P f_snow_place_1 [t0, t1] w Q := l_snow_place_1 (h Q fun _ _ h => h)

end Go.Fx
