/-
  The readings, part 6.
-/
import Derived.Test.YtpdnddcodnpmeaaGreatDoorQ0ec6ddef
import Derived.Test.YtpdnddcodnpmeaaGreatDoorQd5ec66e2
import Derived.Test.YtpdnddcodnpmeaaGreatDoorQ952b5fe2
import Derived.Test.YtpdnddcodnpmeaaGreatDoorQ855ca3e0
import Derived.Test.YtpdnddcodnpmeaaGreatDoorQd3b58593
import Derived.Test.YtpdnddcodnpmeaaGreatDoorQ15a7199f
import Derived.Test.YtpdnddcodnpmeaaGreatDoorQ32d01978
set_option linter.unusedVariables false
set_option maxRecDepth 100000
namespace Go.Fx
open Go.Proofs
variable {t0 t1 t2 t3 t4 t5 t6 t7 t8 t9 : Value} {w : World} {Q : KR}
/-- flurry/block.Check -/
def A_block_Check : An := (An.s (An.r []) (An.s (An.b (An.s (An.j [3] (An.s (An.r []) (An.s An.o (An.r [])))) (An.s (An.s (An.r []) An.o) (An.s (An.r [[19]]) (An.s (An.s (An.r []) An.o) An.o))))) (An.s (An.r []) An.o)))
def c_block_Check (t0 : Value) (w : World) (R : KR) : Prop :=
 bx T_api_Block t0 w fun t1 w =>
 jn1 (fun k0 =>
 fad 32 t1 fun t4 =>
 ld1 t4 w.heap fun t5 =>
 bi .lss t5 (.int .i64 0) fun t6 =>
 cnd t6
 (k0 t6 w)
 (fad 33 t1 fun t7 =>
 ld1 t7 w.heap fun t8 =>
 lenS t8 fun t9 =>
 bi .gtr t9 (.int .i64 200) fun t10 =>
 k0 t10 w)) fun _ t3 w =>
 cnd t3
 (R (.int .i64 30) w)
 (fad 32 t1 fun t12 =>
 ld1 t12 w.heap fun t13 =>
 bi .eql t13 (.int .i64 0) fun t14 =>
 jn1 (fun k1 =>
 gif t14 true
 (fad 0 t1 fun t16 =>
 ldN 32 t16 w.heap fun t17 =>
 rdP P (Instr.build T_api_ID #[]) w fun t18 =>
 rdP P (eqS .neq T_api_ID (Operand.tmp 17) (Operand.tmp 18) t17 t18) w fun t19 =>
 k1 t19 w)
 (k1 undef w)) fun _ t19_1 w =>
 pik t14 t19_1 (.bool false) fun t20 =>
 cnd t20
 (R (.int .i64 30) w)
 (R (.int .i64 0) w))
theorem k_block_Check : kO Tryz.f114 A_block_Check = true := by kernel_rfl
theorem s_block_Check (h : SQ Q (c_block_Check t0 w)) : cal P f_block_Check [t0] w Q := sO Tryz.func114 rfl (by kernel_rfl) k_block_Check (by kernel_rfl) h

/-- flurry/pack.New -/
def A_pack_New : An := (An.s (An.r []) (An.s (An.r []) (An.s (An.r []) (An.s (An.s (An.r [[15]]) (An.s (An.r []) An.o)) (An.s (An.r []) An.o)))))
def c_pack_New (t0 : Value) (w : World) (R : KR) : Prop :=
 rdP P (Instr.build T_pack_Packer #[(1, t0)]) w fun t5 =>
 bx T_pack_Packer t5 w fun t6 w =>
 nilc t6 fun t8 =>
 fad 0 t8 fun t9 =>
 fad 0 t9 fun t10 =>
 st1 t10 (.bool true) w fun w =>
 bi .lss t0 (.int .i64 0) fun t12 =>
 jn1 (fun k0 =>
 gif t12 false
 (bi .gtr t0 (.int .i64 8192) fun t15 =>
 k0 t15 w)
 (k0 undef w)) fun _ t15_1 w =>
 pik t12 (.bool true) t15_1 fun t16 =>
 cnd t16
 (nilc t6 fun t18 =>
 fad 0 t18 fun t19 =>
 fad 2 t19 fun t20 =>
 st1 t20 (.int .i64 1) w fun w =>
 R t6 w)
 (R t6 w)
theorem k_pack_New : kO Tryz.f115 A_pack_New = true := by kernel_rfl
theorem s_pack_New (h : SQ Q (c_pack_New t0 w)) : cal P f_pack_New [t0] w Q := sO Tryz.func115 rfl (by kernel_rfl) k_pack_New (by kernel_rfl) h

/-- (*flurry/pack.Packer).Short -/
def A_pack_Packer_Short : An := (An.r [])
def c_pack_Packer_Short (t0 t1 : Value) (w : World) (R : KR) : Prop :=
 cvi .u64 t1 fun t6 =>
 cal P f_pack_number [(.int .i64 2), t6] w fun t7 w =>
 cal P f_pack_Packer_put [t0, t7, (.slice none 0 0)] w fun t8 w =>
 R (.tuple #[]) w
theorem k_pack_Packer_Short : kO Tryz.f116 A_pack_Packer_Short = true := by kernel_rfl
theorem s_pack_Packer_Short (h : SQ Q (c_pack_Packer_Short t0 t1 w)) : cal P f_pack_Packer_Short [t0, t1] w Q := sO Tryz.func116 rfl (by kernel_rfl) k_pack_Packer_Short (by kernel_rfl) h

/-- (*flurry/pack.Packer).Fixed -/
def A_pack_Packer_Fixed : An := (An.r [])
def c_pack_Packer_Fixed (t0 t1 : Value) (w : World) (R : KR) : Prop :=
 cal P f_pack_Packer_put [t0, (.slice none 0 0), t1] w fun t6 w =>
 R (.tuple #[]) w
theorem k_pack_Packer_Fixed : kO Tryz.f117 A_pack_Packer_Fixed = true := by kernel_rfl
theorem s_pack_Packer_Fixed (h : SQ Q (c_pack_Packer_Fixed t0 t1 w)) : cal P f_pack_Packer_Fixed [t0, t1] w Q := sO Tryz.func117 rfl (by kernel_rfl) k_pack_Packer_Fixed (by kernel_rfl) h

/-- (*flurry/pack.Packer).Long -/
def A_pack_Packer_Long : An := (An.r [])
def c_pack_Packer_Long (t0 t1 : Value) (w : World) (R : KR) : Prop :=
 cal P f_pack_number [(.int .i64 8), t1] w fun t6 w =>
 cal P f_pack_Packer_put [t0, t6, (.slice none 0 0)] w fun t7 w =>
 R (.tuple #[]) w
theorem k_pack_Packer_Long : kO Tryz.f118 A_pack_Packer_Long = true := by kernel_rfl
theorem s_pack_Packer_Long (h : SQ Q (c_pack_Packer_Long t0 t1 w)) : cal P f_pack_Packer_Long [t0, t1] w Q := sO Tryz.func118 rfl (by kernel_rfl) k_pack_Packer_Long (by kernel_rfl) h

/-- (*flurry/pack.Packer).Bytes -/
def A_pack_Packer_Bytes : An := (An.r [])
def c_pack_Packer_Bytes (t0 t1 : Value) (w : World) (R : KR) : Prop :=
 lenS t1 fun t6 =>
 cvi .u64 t6 fun t7 =>
 cal P f_pack_number [(.int .i64 4), t7] w fun t8 w =>
 cal P f_pack_Packer_put [t0, t8, t1] w fun t10 w =>
 R (.tuple #[]) w
theorem k_pack_Packer_Bytes : kO Tryz.f119 A_pack_Packer_Bytes = true := by kernel_rfl
theorem s_pack_Packer_Bytes (h : SQ Q (c_pack_Packer_Bytes t0 t1 w)) : cal P f_pack_Packer_Bytes [t0, t1] w Q := sO Tryz.func119 rfl (by kernel_rfl) k_pack_Packer_Bytes (by kernel_rfl) h

/-- (*flurry/pack.Packer).Out -/
def A_pack_Packer_Out : An := (An.s (An.r []) (An.s (An.s (An.r []) (An.s (An.r []) (An.s (An.s (An.r []) An.o) An.o))) (An.s (An.r []) (An.s (An.r []) (An.s (An.r []) An.o)))))
def c_pack_Packer_Out (t0 : Value) (w : World) (R : KR) : Prop :=
 cal P f_pack_Packer_Err [t0] w fun t7 w =>
 bi .neq t7 (.int .i64 0) fun t9 =>
 cnd t9
 (R (.tuple #[(.slice none 0 0), t7]) w)
 (nilc t0 fun t12 =>
 fad 0 t12 fun t13 =>
 fad 1 t13 fun t14 =>
 ld1 t14 w.heap fun t15 =>
 lenS t15 fun t16 =>
 efP P (Instr.makeSlice T_sl_uint8 t16 t16) w fun t17 w =>
 nilc t0 fun t20 =>
 fad 0 t20 fun t21 =>
 fad 1 t21 fun t22 =>
 ld1 t22 w.heap fun t23 =>
 efP P (Builtin.copy_ #[T_sl_uint8, T_sl_uint8] T_int #[t17, t23]) w fun t24 w =>
 R (.tuple #[t17, (.int .i64 0)]) w)
theorem k_pack_Packer_Out : kO Tryz.f120 A_pack_Packer_Out = true := by kernel_rfl
theorem s_pack_Packer_Out (h : SQ Q (c_pack_Packer_Out t0 w)) : cal P f_pack_Packer_Out [t0] w Q := sO Tryz.func120 rfl (by kernel_rfl) k_pack_Packer_Out (by kernel_rfl) h

/-- flurry/sha.New -/
def A_sha_New : An := (An.s (An.r []) (An.s (An.r []) An.o))
def c_sha_New (w : World) (R : KR) : Prop :=
 cal P f_sha_first [] w fun t1 w =>
 rdP P (Instr.build T_sha_State #[(0, t1), (3, (.bool true))]) w fun t2 =>
 bx T_sha_State t2 w fun t3 w =>
 R t3 w
theorem k_sha_New : kO Tryz.f121 A_sha_New = true := by kernel_rfl
theorem s_sha_New (h : SQ Q (c_sha_New w)) : cal P f_sha_New [] w Q := sO Tryz.func121 rfl (by kernel_rfl) k_sha_New (by kernel_rfl) h

/-- (*flurry/sha.State).Write -/
def A_sha_State_Write : An := (An.s (An.r []) (An.s (An.s (An.r []) (An.s (An.s (An.r []) An.o) An.o)) (An.s (An.s (An.r []) (An.b (An.l [12] (An.s (An.r []) (An.s (An.s An.o An.o) (An.s (An.b (An.s (An.r []) (An.s (An.r []) (An.s (An.r []) (An.s (An.b (An.l [7] (An.s (An.s (An.r []) (An.s An.o An.o)) (An.b (An.s (An.dc [0, 1, 2, 3, 4, 5, 6, 7, 8, 9, 10] [7, 10] []) (An.r [])))))) (An.r [])))))) (An.r []))))))) (An.s (An.r []) An.o))))
def c_sha_State_Write (t0 t1 : Value) (w : World) (R : KR) : Prop :=
 cal P f_sha_State_none [t0] w fun t9 w =>
 cnd t9
 (R (.int .i64 2) w)
 (lenS t1 fun t11 =>
 lp1 (.int .i64 0) w fun _ t12 w again0 =>
 bi .lss t12 t11 fun t13 =>
 cnd t13
 (ixs 1 t1 t12 fun t14 =>
 ld1 t14 w.heap fun t15 =>
 nilc t0 fun t17 =>
 fad 9 t17 fun t18 =>
 ld1 t18 w.heap fun t19 =>
 lenS t15 fun t21 =>
 bi .add t19 t21 fun t22 =>
 nilc t0 fun t23 =>
 fad 9 t23 fun t24 =>
 st1 t24 t22 w fun w =>
 nilc t0 fun t26 =>
 fad 8 t26 fun t27 =>
 ld1 t27 w.heap fun t28 =>
 efP P (Instr.buildSlice T_sl_sl_uint8 2 #[(0, t28), (1, t15)]) w fun t30 w =>
 cal P f_slices_Concat_byte_byte [t30] w fun t31 w =>
 lp1 t31 w fun _ t7 w again1 =>
 lenS t7 fun t33 =>
 bi .geq t33 (.int .i64 64) fun t34 =>
 cnd t34
 (drH w fun S w =>
 nilc t0 fun t37 =>
 fad 0 t37 fun t38 =>
 rdS S (fun w => ldN 8 t38 w.heap) fun t39 =>
 slc 1 t7 none (some (.int .i64 64)) fun t41 =>
 efC (cal P f_sha_mixed [t39, t41]) w fun S t42 w =>
 nilc t0 fun t43 =>
 fad 0 t43 fun t44 =>
 efC (fun w K => stN 8 t44 t42 w (K undef)) w fun S _ w =>
 slc 1 t7 (some (.int .i64 64)) none fun t46 =>
 again1 t46 w)
 (cal P f_bytes_Clone [t7] w fun t49 w =>
 nilc t0 fun t50 =>
 fad 8 t50 fun t51 =>
 st1 t51 t49 w fun w =>
 bi .add t12 (.int .i64 1) fun t52 =>
 again0 t52 w))
 (R (.int .i64 0) w))
theorem k_sha_State_Write : kO Tryz.f122 A_sha_State_Write = true := by kernel_rfl
theorem s_sha_State_Write (h : SQ Q (c_sha_State_Write t0 t1 w)) : cal P f_sha_State_Write [t0, t1] w Q := sO Tryz.func122 rfl (by kernel_rfl) k_sha_State_Write (by kernel_rfl) h

/-- (*flurry/sha.State).Sum -/
def A_sha_State_Sum : An := (An.s (An.r []) (An.s (An.r []) (An.s (An.s (An.r []) (An.s (An.s (An.r []) An.o) An.o)) (An.s (An.r []) (An.s (An.b (An.l [4] (An.s (An.s (An.r []) (An.s An.o An.o)) (An.b (An.r []))))) (An.s (An.r []) (An.s (An.s (An.r []) (An.b (An.l [4, 33] (An.s (An.r []) (An.s (An.s An.o An.o) (An.s (An.b (An.s (An.r []) (An.r []))) (An.r []))))))) (An.s (An.r []) (An.s (An.b (An.l [4] (An.s (An.s (An.r []) (An.s An.o An.o)) (An.s (An.b (An.dc [0, 1, 2, 3, 4] [3, 4] [])) (An.r []))))) (An.s (An.s (An.r []) (An.b (An.l [60] (An.s (An.r []) (An.s (An.s An.o An.o) (An.s (An.b (An.s (An.r []) (An.r []))) (An.r []))))))) (An.s (An.r []) An.o)))))))))))
def c_sha_State_Sum (t0 : Value) (w : World) (R : KR) : Prop :=
 efP P (Instr.alloc T_api_ID true (.tuple #[])) w fun t2 w =>
 efP P (Instr.alloc T_api_ID true (.tuple #[])) w fun t3 w =>
 cal P f_sha_State_none [t0] w fun t11 w =>
 cnd t11
 (ldN 32 t3 w.heap fun t12 =>
 stN 32 t2 t12 w fun w =>
 ldN 32 t2 w.heap fun r0 =>
 R r0 w)
 (nilc t0 fun t14 =>
 fad 8 t14 fun t15 =>
 ld1 t15 w.heap fun t16 =>
 cal P f_bytes_Clone [t16] w fun t17 w =>
 efP P (Instr.buildSlice T_sl_uint8 1 #[(0, (.int .u8 128))]) w fun t18 w =>
 efP P (Builtin.append_ #[T_sl_uint8, T_sl_uint8] T_sl_uint8 #[t17, t18]) w fun t19 w =>
 lp1 t19 w fun _ t4 w again1 =>
 lenS t4 fun t21 =>
 bi .rem t21 (.int .i64 64) fun t22 =>
 bi .neq t22 (.int .i64 56) fun t23 =>
 cnd t23
 (efP P (Instr.buildSlice T_sl_uint8 1 #[(0, (.int .u8 0))]) w fun t25 w =>
 efP P (Builtin.append_ #[T_sl_uint8, T_sl_uint8] T_sl_uint8 #[t4, t25]) w fun t26 w =>
 again1 t26 w)
 (nilc t0 fun t28 =>
 fad 9 t28 fun t29 =>
 ld1 t29 w.heap fun t30 =>
 cvi .u64 t30 fun t31 =>
 bi .mul t31 (.int .u64 8) fun t32 =>
 lp2 t4 (.int .i64 0) w fun _ t4_1 t33 w again2 =>
 bi .lss t33 (.int .i64 8) fun t34 =>
 cnd t34
 (bi .mul (.int .i64 8) t33 fun t39 =>
 bi .sub (.int .i64 56) t39 fun t40 =>
 sh .shr t32 t40 fun t41 =>
 cvi .u8 t41 fun t42 =>
 efP P (Instr.buildSlice T_sl_uint8 1 #[(0, t42)]) w fun t43 w =>
 efP P (Builtin.append_ #[T_sl_uint8, T_sl_uint8] T_sl_uint8 #[t4_1, t43]) w fun t44 w =>
 bi .add t33 (.int .i64 1) fun t45 =>
 again2 t44 t45 w)
 (nilc t0 fun t47 =>
 fad 0 t47 fun t48 =>
 ldN 8 t48 w.heap fun t49 =>
 efP P (Instr.alloc T_a8_uint32 true (.tuple #[])) w fun t7 w =>
 stN 8 t7 t49 w fun w =>
 lp1 t4_1 w fun _ t4_2 w again3 =>
 lenS t4_2 fun t51 =>
 bi .gtr t51 (.int .i64 0) fun t52 =>
 cnd t52
 (drH w fun S w =>
 rdS S (fun w => ldN 8 t7 w.heap) fun t55 =>
 slc 1 t4_2 none (some (.int .i64 64)) fun t57 =>
 efC (cal P f_sha_mixed [t55, t57]) w fun S t58 w =>
 efC (fun w K => stN 8 t7 t58 w (K undef)) w fun S _ w =>
 slc 1 t4_2 (some (.int .i64 64)) none fun t54 =>
 again3 t54 w)
 (ldN 8 t7 w.heap fun t59 =>
 lp1 (.int .i64 0) w fun _ t60 w again4 =>
 bi .lss t60 (.int .i64 8) fun t61 =>
 cnd t61
 (ixv 8 1 false t59 t60 fun t63 =>
 bi .mul (.int .i64 4) t60 fun t65 =>
 bi .mul (.int .i64 4) t60 fun t67 =>
 bi .add t67 (.int .i64 1) fun t68 =>
 bi .mul (.int .i64 4) t60 fun t70 =>
 bi .add t70 (.int .i64 2) fun t71 =>
 bi .mul (.int .i64 4) t60 fun t73 =>
 bi .add t73 (.int .i64 3) fun t74 =>
 sh .shr t63 (.int .u64 24) fun t76 =>
 cvi .u8 t76 fun t77 =>
 sh .shr t63 (.int .u64 16) fun t79 =>
 cvi .u8 t79 fun t80 =>
 sh .shr t63 (.int .u64 8) fun t82 =>
 cvi .u8 t82 fun t83 =>
 cvi .u8 t63 fun t85 =>
 ixa 32 1 t3 t65 fun t86 =>
 st1 t86 t77 w fun w =>
 ixa 32 1 t3 t68 fun t87 =>
 st1 t87 t80 w fun w =>
 ixa 32 1 t3 t71 fun t88 =>
 st1 t88 t83 w fun w =>
 ixa 32 1 t3 t74 fun t89 =>
 st1 t89 t85 w fun w =>
 bi .add t60 (.int .i64 1) fun t90 =>
 again4 t90 w)
 (ldN 32 t3 w.heap fun t91 =>
 stN 32 t2 t91 w fun w =>
 ldN 32 t2 w.heap fun r5 =>
 R r5 w)))))
theorem k_sha_State_Sum : kO Tryz.f123 A_sha_State_Sum = true := by kernel_rfl
theorem s_sha_State_Sum (h : SQ Q (c_sha_State_Sum t0 w)) : cal P f_sha_State_Sum [t0] w Q := sO Tryz.func123 rfl (by kernel_rfl) k_sha_State_Sum (by kernel_rfl) h

/-- flurry/snow.Check -/
def A_snow_Check : An := (An.s (An.r []) (An.s (An.s (An.r []) (An.s (An.r []) (An.s (An.s (An.r []) An.o) An.o))) (An.s (An.r []) (An.s (An.s (An.r [[26], [30], [37], [42], [49], [59]]) (An.s (An.s (An.r []) An.o) An.o)) (An.s (An.s (An.r []) (An.b (An.l [64] (An.s (An.r []) (An.s (An.s An.o An.o) (An.s (An.b (An.s (An.r []) (An.s (An.dc [0, 1, 2, 4, 3, 5, 6, 7, 8, 9, 10, 11, 12, 13, 14, 15, 16, 17, 18, 19, 20, 21, 22, 23, 24, 25, 26] [3] [[78], [83], [94]]) (An.s (An.s (An.r []) An.o) An.o)))) (An.r []))))))) (An.s (An.r []) An.o))))))
def c_snow_Check (t0 t1 : Value) (w : World) (R : KR) : Prop :=
 bx T_api_Params t0 w fun t2 w =>
 bx T_api_Snow t1 w fun t3 w =>
 ldN 4 t2 w.heap fun t9 =>
 cal P f_snow_Params [t9] w fun t10 w =>
 bi .neq t10 (.int .i64 0) fun t12 =>
 cnd t12
 (R t10 w)
 (ldN 67 t3 w.heap fun t14 =>
 fad 1 t3 fun t15 =>
 ldN 32 t15 w.heap fun t16 =>
 cal P f_snow_place [t14, t16] w fun t17 w =>
 fad 0 t3 fun t18 =>
 ld1 t18 w.heap fun t19 =>
 lenS t19 fun t20 =>
 bi .lss t20 (.int .i64 1) fun t21 =>
 jn1 (fun k0 =>
 gif t21 false
 (fad 0 t3 fun t23 =>
 ld1 t23 w.heap fun t24 =>
 lenS t24 fun t25 =>
 bi .gtr t25 (.int .i64 32) fun t26 =>
 k0 t26 w)
 (k0 undef w)) fun _ t26_1 w =>
 pik t21 (.bool true) t26_1 fun t27 =>
 jn1 (fun k1 =>
 gif t27 false
 (bi .lss t17 (.int .i64 0) fun t30 =>
 k1 t30 w)
 (k1 undef w)) fun _ t30_1 w =>
 pik t27 (.bool true) t30_1 fun t31 =>
 jn1 (fun k2 =>
 gif t31 false
 (ldN 67 t3 w.heap fun t33 =>
 fad 33 t3 fun t34 =>
 ldN 32 t34 w.heap fun t35 =>
 cal P f_snow_place [t33, t35] w fun t36 w =>
 bi .lss t36 (.int .i64 0) fun t37 =>
 k2 t37 w)
 (k2 undef w)) fun _ t37_1 w =>
 pik t31 (.bool true) t37_1 fun t38 =>
 jn1 (fun k3 =>
 gif t38 false
 (fad 65 t3 fun t40 =>
 ld1 t40 w.heap fun t41 =>
 bi .lss t41 (.int .i64 0) fun t42 =>
 k3 t42 w)
 (k3 undef w)) fun _ t42_1 w =>
 pik t38 (.bool true) t42_1 fun t43 =>
 jn1 (fun k4 =>
 gif t43 false
 (fad 65 t3 fun t45 =>
 ld1 t45 w.heap fun t46 =>
 fad 3 t2 fun t47 =>
 ld1 t47 w.heap fun t48 =>
 bi .gtr t46 t48 fun t49 =>
 k4 t49 w)
 (k4 undef w)) fun _ t49_1 w =>
 pik t43 (.bool true) t49_1 fun t50 =>
 jn1 (fun k5 =>
 gif t50 false
 (fad 66 t3 fun t52 =>
 ld1 t52 w.heap fun t53 =>
 fad 65 t3 fun t54 =>
 ld1 t54 w.heap fun t55 =>
 fad 3 t2 fun t56 =>
 ld1 t56 w.heap fun t57 =>
 bi .eql t55 t57 fun t58 =>
 rdP P (eqS .neq T_bool (Operand.tmp 53) (Operand.tmp 58) t53 t58) w fun t59 =>
 k5 t59 w)
 (k5 undef w)) fun _ t59_1 w =>
 pik t50 (.bool true) t59_1 fun t60 =>
 cnd t60
 (R (.int .i64 171) w)
 (fad 0 t3 fun t61 =>
 ld1 t61 w.heap fun t62 =>
 lenS t62 fun t63 =>
 lp1 (.int .i64 0) w fun _ t64 w again6 =>
 bi .lss t64 t63 fun t65 =>
 cnd t65
 (ixs 33 t62 t64 fun t67 =>
 ldN 33 t67 w.heap fun t68 =>
 efP P (Instr.alloc T_api_Choice true (.tuple #[])) w fun t8 w =>
 stN 33 t8 t68 w fun w =>
 drH w fun S w =>
 rdS S (fun w => ldN 67 t3 w.heap) fun t69 =>
 fad 0 t8 fun t70 =>
 rdS S (fun w => ldN 32 t70 w.heap) fun t71 =>
 efC (cal P f_snow_place [t69, t71]) w fun S t72 w =>
 bi .neq t72 t64 fun t74 =>
 jn1 (fun k7 =>
 gif t74 false
 (fad 32 t8 fun t76 =>
 rdS S (fun w => ld1 t76 w.heap) fun t77 =>
 bi .lss t77 (.int .i64 0) fun t78 =>
 k7 t78 w)
 (k7 undef w)) fun _ t78_1 w =>
 pik t74 (.bool true) t78_1 fun t79 =>
 jn1 (fun k8 =>
 gif t79 false
 (fad 32 t8 fun t81 =>
 rdS S (fun w => ld1 t81 w.heap) fun t82 =>
 bi .gtr t82 (.int .i64 1073741824) fun t83 =>
 k8 t83 w)
 (k8 undef w)) fun _ t83_1 w =>
 pik t79 (.bool true) t83_1 fun t84 =>
 jn1 (fun k9 =>
 gif t84 false
 (fad 32 t8 fun t86 =>
 rdS S (fun w => ld1 t86 w.heap) fun t87 =>
 fad 0 t3 fun t88 =>
 rdS S (fun w => ld1 t88 w.heap) fun t89 =>
 ixs 33 t89 t17 fun t91 =>
 fad 32 t91 fun t92 =>
 rdS S (fun w => ld1 t92 w.heap) fun t93 =>
 bi .gtr t87 t93 fun t94 =>
 k9 t94 w)
 (k9 undef w)) fun _ t94_1 w =>
 pik t84 (.bool true) t94_1 fun t95 =>
 cnd t95
 (R (.int .i64 171) w)
 (bi .add t64 (.int .i64 1) fun t96 =>
 again6 t96 w))
 (R (.int .i64 0) w)))
theorem k_snow_Check : kO Tryz.f124 A_snow_Check = true := by kernel_rfl
theorem s_snow_Check (h : SQ Q (c_snow_Check t0 t1 w)) : cal P f_snow_Check [t0, t1] w Q := sO Tryz.func124 rfl (by kernel_rfl) k_snow_Check (by kernel_rfl) h

/-- flurry/snow.Has -/
def A_snow_Has : An := (An.s (An.r []) (An.s (An.r []) An.o))
def c_snow_Has (t0 t1 : Value) (w : World) (R : KR) : Prop :=
 bx T_api_Snow t0 w fun t2 w =>
 bx T_api_ID t1 w fun t3 w =>
 ldN 67 t2 w.heap fun t5 =>
 ldN 32 t3 w.heap fun t6 =>
 cal P f_snow_place [t5, t6] w fun t7 w =>
 bi .geq t7 (.int .i64 0) fun t8 =>
 R t8 w
theorem k_snow_Has : kO Tryz.f125 A_snow_Has = true := by kernel_rfl
theorem s_snow_Has (h : SQ Q (c_snow_Has t0 t1 w)) : cal P f_snow_Has [t0, t1] w Q := sO Tryz.func125 rfl (by kernel_rfl) k_snow_Has (by kernel_rfl) h

/-- flurry/snow.own -/
def A_snow_own : An := (An.s (An.r []) (An.s (An.r []) (An.s (An.r []) An.o)))
def c_snow_own (t0 : Value) (w : World) (R : KR) : Prop :=
 bx T_api_Snow t0 w fun t1 w =>
 efP P (Instr.alloc T_api_Snow true (.tuple #[])) w fun t2 w =>
 fad 0 t1 fun t3 =>
 ld1 t3 w.heap fun t4 =>
 cal P f_slices_Clone_api_Choice_api_Choice [t4] w fun t5 w =>
 fad 0 t1 fun t6 =>
 st1 t6 t5 w fun w =>
 ldN 67 t1 w.heap fun t7 =>
 stN 67 t2 t7 w fun w =>
 ldN 67 t2 w.heap fun r0 =>
 R r0 w
theorem k_snow_own : kO Tryz.f126 A_snow_own = true := by kernel_rfl
theorem s_snow_own (h : SQ Q (c_snow_own t0 w)) : cal P f_snow_own [t0] w Q := sO Tryz.func126 rfl (by kernel_rfl) k_snow_own (by kernel_rfl) h

/-- flurry/bag.good -/
def A_bag_good : An := (An.s (An.r []) (An.s (An.s (An.r []) (An.s (An.s (An.r []) An.o) An.o)) (An.s (An.r []) An.o)))
def c_bag_good (t0 : Value) (w : World) (R : KR) : Prop :=
 cal P f_bag_Check [t0] w fun t4 w =>
 bi .neq t4 (.int .i64 0) fun t5 =>
 cnd t5
 (R (.slice none 0 0) w)
 (R t0 w)
theorem k_bag_good : kO Tryz.f127 A_bag_good = true := by kernel_rfl
theorem s_bag_good (h : SQ Q (c_bag_good t0 w)) : cal P f_bag_good [t0] w Q := sO Tryz.func127 rfl (by kernel_rfl) k_bag_good (by kernel_rfl) h

/-- flurry/snow.place -/
def A_snow_place : An := (An.s (An.r []) (An.s (An.r []) An.o))
def c_snow_place (t0 t1 : Value) (w : World) (R : KR) : Prop :=
 bx T_api_Snow t0 w fun t2 w =>
 bx T_api_ID t1 w fun t3 w =>
 fad 0 t2 fun t5 =>
 ld1 t5 w.heap fun t6 =>
 cal P f_slices_IndexFunc_api_Choice_api_Choice [t6, (.func (Fn.func f_snow_place_1) #[] #[t3])] w fun t8 w =>
 R t8 w
theorem k_snow_place : kO Tryz.f128 A_snow_place = true := by kernel_rfl
theorem s_snow_place (h : SQ Q (c_snow_place t0 t1 w)) : cal P f_snow_place [t0, t1] w Q := sO Tryz.func128 rfl (by kernel_rfl) k_snow_place (by kernel_rfl) h

/-- flurry/snow.reach -/
def A_snow_reach : An := (An.s (An.r []) (An.s (An.b (An.s (An.r []) (An.s (An.s (An.r []) An.o) (An.s (An.r []) (An.s (An.s (An.r []) An.o) An.o))))) (An.s (An.r []) An.o)))
def c_snow_reach (t0 t1 : Value) (w : World) (R : KR) : Prop :=
 bx T_api_Params t0 w fun t2 w =>
 fad 2 t2 fun t7 =>
 ld1 t7 w.heap fun t8 =>
 bi .geq t1 t8 fun t9 =>
 cnd t9
 (R (.int .i64 2) w)
 (fad 1 t2 fun t12 =>
 ld1 t12 w.heap fun t13 =>
 bi .geq t1 t13 fun t14 =>
 cnd t14
 (R (.int .i64 1) w)
 (R (.int .i64 0) w))
theorem k_snow_reach : kO Tryz.f129 A_snow_reach = true := by kernel_rfl
theorem s_snow_reach (h : SQ Q (c_snow_reach t0 t1 w)) : cal P f_snow_reach [t0, t1] w Q := sO Tryz.func129 rfl (by kernel_rfl) k_snow_reach (by kernel_rfl) h

/-- flurry/snow.Fail -/
def A_snow_Fail : An := (An.s (An.r []) (An.s (An.s (An.r []) (An.s (An.r []) (An.s (An.s (An.r []) An.o) An.o))) (An.s (An.r []) (An.s (An.j [] (An.s (An.r []) (An.s (An.r []) An.o))) (An.s (An.r []) An.o)))))
def c_snow_Fail (t0 t1 : Value) (w : World) (R : KR) : Prop :=
 bx T_api_Params t0 w fun t2 w =>
 bx T_api_Snow t1 w fun t3 w =>
 efP P (Instr.alloc T_api_Snow true (.tuple #[])) w fun t4 w =>
 ldN 4 t2 w.heap fun t7 =>
 ldN 67 t3 w.heap fun t8 =>
 cal P f_snow_Check [t7, t8] w fun t9 w =>
 bi .neq t9 (.int .i64 0) fun t11 =>
 cnd t11
 (rdP P (Instr.build T_api_Snow #[]) w fun t12 =>
 stN 67 t4 t12 w fun w =>
 ldN 67 t4 w.heap fun r0 =>
 R (.tuple #[r0, t9]) w)
 (ldN 67 t3 w.heap fun t14 =>
 cal P f_snow_own [t14] w fun t15 w =>
 stN 67 t3 t15 w fun w =>
 jn0 (fun k1 =>
 fad 66 t3 fun t16 =>
 ld1 t16 w.heap fun t17 =>
 notB t17 fun t18 =>
 cnd t18
 (fad 65 t3 fun t19 =>
 st1 t19 (.int .i64 0) w fun w =>
 k1 w)
 (k1 w)) fun _ w =>
 ldN 67 t3 w.heap fun t20 =>
 stN 67 t4 t20 w fun w =>
 ldN 67 t4 w.heap fun r2 =>
 R (.tuple #[r2, (.int .i64 0)]) w)
theorem k_snow_Fail : kO Tryz.f130 A_snow_Fail = true := by kernel_rfl
theorem s_snow_Fail (h : SQ Q (c_snow_Fail t0 t1 w)) : cal P f_snow_Fail [t0, t1] w Q := sO Tryz.func130 rfl (by kernel_rfl) k_snow_Fail (by kernel_rfl) h

/-- bytes.Clone -/
def A_bytes_Clone : An := (An.s (An.r []) (An.s (An.s (An.r []) (An.s (An.s (An.r []) An.o) An.o)) (An.s (An.r []) An.o)))
def c_bytes_Clone (t0 : Value) (w : World) (R : KR) : Prop :=
 nilS false t0 fun t4 =>
 cnd t4
 (R (.slice none 0 0) w)
 (efP P (Instr.buildSlice T_sl_uint8 0 #[]) w fun t5 w =>
 efP P (Builtin.append_ #[T_sl_uint8, T_sl_uint8] T_sl_uint8 #[t5, t0]) w fun t7 w =>
 R t7 w)
theorem k_bytes_Clone : kO Tryz.f131 A_bytes_Clone = true := by kernel_rfl
theorem s_bytes_Clone (h : SQ Q (c_bytes_Clone t0 w)) : cal P f_bytes_Clone [t0] w Q := sO Tryz.func131 rfl (by kernel_rfl) k_bytes_Clone (by kernel_rfl) h

/-- flurry/bag.compare -/
def A_bag_compare : An := (An.s (An.r []) (An.s (An.dc [0, 1, 2, 3] [2] []) An.o))
def c_bag_compare (t0 t1 : Value) (w : World) (R : KR) : Prop :=
 bx T_api_ID t0 w fun t2 w =>
 bx T_api_ID t1 w fun t3 w =>
 drH w fun S w =>
 sla 32 1 t2 none none fun t5 =>
 sla 32 1 t3 none none fun t6 =>
 efC (cal P f_bytes_Compare [t5, t6]) w fun S t7 w =>
 R t7 w
theorem k_bag_compare : kO Tryz.f132 A_bag_compare = true := by kernel_rfl
theorem s_bag_compare (h : SQ Q (c_bag_compare t0 t1 w)) : cal P f_bag_compare [t0, t1] w Q := sO Tryz.func132 rfl (by kernel_rfl) k_bag_compare (by kernel_rfl) h

/-- flurry/flurryref07.Less -/
def A_ref07_Less : An := (An.s (An.r []) (An.s (An.s (An.r []) (An.b (An.l [5] (An.s (An.s (An.r []) (An.s An.o An.o)) (An.s (An.b (An.s (An.r []) (An.s (An.s (An.r []) An.o) An.o))) (An.r [])))))) (An.s (An.r []) An.o)))
def c_ref07_Less (t0 t1 : Value) (w : World) (R : KR) : Prop :=
 bx T_api_ID t0 w fun t2 w =>
 bx T_api_ID t1 w fun t3 w =>
 lp1 (.int .i64 0) w fun _ t5 w again0 =>
 bi .lss t5 (.int .i64 32) fun t7 =>
 cnd t7
 (drw w fun w =>
 ixa 32 1 t2 t5 fun t11 =>
 ld1 t11 w.heap fun t12 =>
 ixa 32 1 t3 t5 fun t14 =>
 ld1 t14 w.heap fun t15 =>
 bi .neq t12 t15 fun t16 =>
 cnd t16
 (drw w fun w =>
 ixa 32 1 t2 t5 fun t18 =>
 ld1 t18 w.heap fun t19 =>
 ixa 32 1 t3 t5 fun t21 =>
 ld1 t21 w.heap fun t22 =>
 bi .lss t19 t22 fun t23 =>
 R t23 w)
 (bi .add t5 (.int .i64 1) fun t9 =>
 again0 t9 w))
 (R (.bool false) w)
theorem k_ref07_Less : kO Tryz.f133 A_ref07_Less = true := by kernel_rfl
theorem s_ref07_Less (h : SQ Q (c_ref07_Less t0 t1 w)) : cal P f_ref07_Less [t0, t1] w Q := sO Tryz.func133 rfl (by kernel_rfl) k_ref07_Less (by kernel_rfl) h

/-- flurry/tree.told$1 -/
def A_tree_told_1 : AnY := (AnY.s (AnY.c (An.r [])) (AnY.b (AnY.l [7] (AnY.s (AnY.c (An.r [])) (AnY.s (AnY.s AnY.o AnY.o) (AnY.s (AnY.b (AnY.s (AnY.c (An.r [])) (AnY.s AnY.y (AnY.s AnY.o AnY.o)))) (AnY.c (An.r []))))))))
def c_tree_told_1 (t0 t1 : Value) (w : World) (R : KR) : Prop :=
 ld1 t1 w.heap fun t5 =>
 lenS t5 fun t6 =>
 lp1 (.int .i64 0) w fun _ t7 w again0 =>
 bi .lss t7 t6 fun t8 =>
 cnd t8
 (ixs 32 t5 t7 fun t9 =>
 ldN 32 t9 w.heap fun t10 =>
 efP P (Instr.alloc T_api_ID true (.tuple #[])) w fun t4 w =>
 stN 32 t4 t10 w fun w =>
 ldN 32 t4 w.heap fun t12 =>
 calY P t0 [t12] w fun t13 w =>
 notB t13 fun t14 =>
 cnd t14
 (R (.tuple #[]) w)
 (bi .add t7 (.int .i64 1) fun t15 =>
 again0 t15 w))
 (R (.tuple #[]) w)
theorem k_tree_told_1 : kOY Tryz.f134 A_tree_told_1 = true := by kernel_rfl
theorem s_tree_told_1 (h : SQ Q (c_tree_told_1 t0 t1 w)) : cal P f_tree_told_1 [t0, t1] w Q := sOY Tryz.func134 rfl (by kernel_rfl) k_tree_told_1 (by kernel_rfl) h

/-- (*flurry/pack.Packer).put -/
def A_pack_Packer_put : An := (An.s (An.s (An.r []) (An.s An.o An.o)) (An.s (An.r []) (An.s (An.s (An.r [[32]]) (An.s (An.s (An.r []) An.o) An.o)) (An.r []))))
def c_pack_Packer_put (t0 t1 t2 : Value) (w : World) (R : KR) : Prop :=
 cal P f_pack_Packer_works [t0] w fun t8 w =>
 notB t8 fun t9 =>
 cnd t9
 (R (.tuple #[]) w)
 (drw w fun w =>
 nilc t0 fun t11 =>
 fad 3 t11 fun t12 =>
 ld1 t12 w.heap fun t13 =>
 nilc t0 fun t15 =>
 fad 0 t15 fun t16 =>
 fad 1 t16 fun t17 =>
 ld1 t17 w.heap fun t18 =>
 lenS t18 fun t19 =>
 bi .sub t13 t19 fun t20 =>
 lenS t1 fun t22 =>
 bi .gtr t22 t20 fun t24 =>
 jn1 (fun k0 =>
 gif t24 false
 (lenS t2 fun t27 =>
 lenS t1 fun t30 =>
 bi .sub t20 t30 fun t31 =>
 bi .gtr t27 t31 fun t32 =>
 k0 t32 w)
 (k0 undef w)) fun _ t32_1 w =>
 pik t24 (.bool true) t32_1 fun t33 =>
 cnd t33
 (nilc t0 fun t35 =>
 fad 0 t35 fun t36 =>
 cal P f_pack_kept_fails [t36, (.int .i64 10)] w fun t37 w =>
 R (.tuple #[]) w)
 (nilc t0 fun t40 =>
 fad 0 t40 fun t41 =>
 fad 1 t41 fun t42 =>
 ld1 t42 w.heap fun t43 =>
 efP P (Builtin.append_ #[T_sl_uint8, T_sl_uint8] T_sl_uint8 #[t43, t1]) w fun t45 w =>
 efP P (Builtin.append_ #[T_sl_uint8, T_sl_uint8] T_sl_uint8 #[t45, t2]) w fun t47 w =>
 nilc t0 fun t48 =>
 fad 0 t48 fun t49 =>
 fad 1 t49 fun t50 =>
 st1 t50 t47 w fun w =>
 R (.tuple #[]) w))
theorem k_pack_Packer_put : kO Tryz.f140 A_pack_Packer_put = true := by kernel_rfl
theorem s_pack_Packer_put (h : SQ Q (c_pack_Packer_put t0 t1 t2 w)) : cal P f_pack_Packer_put [t0, t1, t2] w Q := sO Tryz.func140 rfl (by kernel_rfl) k_pack_Packer_put (by kernel_rfl) h

/-- flurry/pack.number -/
def A_pack_number : An := (An.s (An.r []) (An.s (An.r []) (An.s (An.s (An.r []) (An.b (An.l [11] (An.s (An.r []) (An.s (An.s An.o An.o) (An.s (An.b (An.s (An.r []) (An.r []))) (An.r []))))))) (An.s (An.r []) An.o))))
def c_pack_number (t0 t1 : Value) (w : World) (R : KR) : Prop :=
 efP P (Instr.makeSlice T_sl_uint8 t0 t0) w fun t8 w =>
 lenS t8 fun t10 =>
 lp1 (.int .i64 0) w fun _ t11 w again0 =>
 bi .lss t11 t10 fun t12 =>
 cnd t12
 (bi .sub t0 (.int .i64 1) fun t16 =>
 bi .sub t16 t11 fun t18 =>
 bi .mul (.int .i64 8) t11 fun t21 =>
 sh .shr t1 t21 fun t22 =>
 cvi .u8 t22 fun t23 =>
 ixs 1 t8 t18 fun t24 =>
 st1 t24 t23 w fun w =>
 bi .add t11 (.int .i64 1) fun t25 =>
 again0 t25 w)
 (R t8 w)
theorem k_pack_number : kO Tryz.f141 A_pack_number = true := by kernel_rfl
theorem s_pack_number (h : SQ Q (c_pack_number t0 t1 w)) : cal P f_pack_number [t0, t1] w Q := sO Tryz.func141 rfl (by kernel_rfl) k_pack_number (by kernel_rfl) h

/-- (*flurry/pack.Packer).Err -/
def A_pack_Packer_Err : An := (An.s (An.r []) (An.s (An.s (An.r [[11]]) (An.s (An.s (An.r []) An.o) An.o)) (An.s (An.r []) An.o)))
def c_pack_Packer_Err (t0 : Value) (w : World) (R : KR) : Prop :=
 nilP false t0 fun t4 =>
 jn1 (fun k0 =>
 gif t4 false
 (nilc t0 fun t7 =>
 fad 0 t7 fun t8 =>
 fad 0 t8 fun t9 =>
 ld1 t9 w.heap fun t10 =>
 notB t10 fun t11 =>
 k0 t11 w)
 (k0 undef w)) fun _ t11_1 w =>
 pik t4 (.bool true) t11_1 fun t12 =>
 cnd t12
 (R (.int .i64 2) w)
 (nilc t0 fun t14 =>
 fad 0 t14 fun t15 =>
 fad 2 t15 fun t16 =>
 ld1 t16 w.heap fun t17 =>
 R t17 w)
theorem k_pack_Packer_Err : kO Tryz.f142 A_pack_Packer_Err = true := by kernel_rfl
theorem s_pack_Packer_Err (h : SQ Q (c_pack_Packer_Err t0 w)) : cal P f_pack_Packer_Err [t0] w Q := sO Tryz.func142 rfl (by kernel_rfl) k_pack_Packer_Err (by kernel_rfl) h

/-- flurry/sha.first -/
def A_sha_first : An := (An.s (An.r []) (An.s (An.r []) An.o))
def c_sha_first (w : World) (R : KR) : Prop :=
 efP P (Instr.alloc T_a8_uint32 true (.tuple #[])) w fun t0 w =>
 rdP P (Instr.build T_a8_uint32 #[(0, (.int .u32 1779033703)), (1, (.int .u32 3144134277)), (2, (.int .u32 1013904242)), (3, (.int .u32 2773480762)), (4, (.int .u32 1359893119)), (5, (.int .u32 2600822924)), (6, (.int .u32 528734635)), (7, (.int .u32 1541459225))]) w fun t1 =>
 stN 8 t0 t1 w fun w =>
 ldN 8 t0 w.heap fun r0 =>
 R r0 w
theorem k_sha_first : kO Tryz.f143 A_sha_first = true := by kernel_rfl
theorem s_sha_first (h : SQ Q (c_sha_first w)) : cal P f_sha_first [] w Q := sO Tryz.func143 rfl (by kernel_rfl) k_sha_first (by kernel_rfl) h

/-- (*flurry/sha.State).none -/
def A_sha_State_none : An := (An.s (An.r []) (An.s (An.r [[10]]) An.o))
def c_sha_State_none (t0 : Value) (w : World) (R : KR) : Prop :=
 nilP false t0 fun t4 =>
 jn1 (fun k0 =>
 gif t4 false
 (nilc t0 fun t7 =>
 fad 10 t7 fun t8 =>
 ld1 t8 w.heap fun t9 =>
 notB t9 fun t10 =>
 k0 t10 w)
 (k0 undef w)) fun _ t10_1 w =>
 pik t4 (.bool true) t10_1 fun t11 =>
 R t11 w
theorem k_sha_State_none : kO Tryz.f144 A_sha_State_none = true := by kernel_rfl
theorem s_sha_State_none (h : SQ Q (c_sha_State_none t0 w)) : cal P f_sha_State_none [t0] w Q := sO Tryz.func144 rfl (by kernel_rfl) k_sha_State_none (by kernel_rfl) h

/-- slices.Concat[[]byte,byte] -/
def A_slices_Concat_byte_byte : An := (An.s (An.r []) (An.s (An.r []) (An.s (An.s (An.r []) (An.b (An.l [3, 11] (An.s (An.r []) (An.s (An.s An.o An.o) (An.s (An.j [3] (An.b (An.s (An.r []) (An.s (An.r []) (An.s (An.r []) (An.s (An.r []) An.o)))))) (An.r []))))))) (An.s (An.r []) (An.s (An.s (An.r []) (An.b (An.l [6, 27] (An.s (An.r []) (An.s (An.s An.o An.o) (An.s (An.b (An.s (An.r []) (An.r []))) (An.r []))))))) (An.s (An.r []) An.o))))))
def c_slices_Concat_byte_byte (t0 : Value) (w : World) (R : KR) : Prop :=
 lenS t0 fun t10 =>
 lp2 (.int .i64 0) (.int .i64 0) w fun _ t3 t11 w again0 =>
 bi .lss t11 t10 fun t12 =>
 cnd t12
 (jn1 (fun k1 =>
 ixs 1 t0 t11 fun t13 =>
 ld1 t13 w.heap fun t14 =>
 lenS t14 fun t17 =>
 bi .add t3 t17 fun t18 =>
 bi .lss t18 (.int .i64 0) fun t20 =>
 cnd t20
 (rdP P (Instr.makeInterface T_string (.string { data := #[108, 101, 110, 32, 111, 117, 116, 32, 111, 102, 32, 114, 97, 110, 103, 101] })) w fun t21 =>
 False)
 (k1 t18 w)) fun _ t3_1 w =>
 bi .add t11 (.int .i64 1) fun t22 =>
 again0 t3_1 t22 w)
 (cal P f_slices_Grow_byte_byte [(.slice none 0 0), t3] w fun t24 w =>
 lenS t0 fun t26 =>
 lp2 t24 (.int .i64 0) w fun _ t6 t27 w again2 =>
 bi .lss t27 t26 fun t28 =>
 cnd t28
 (ixs 1 t0 t27 fun t29 =>
 ld1 t29 w.heap fun t30 =>
 efP P (Builtin.append_ #[T_sl_uint8, T_sl_uint8] T_sl_uint8 #[t6, t30]) w fun t33 w =>
 bi .add t27 (.int .i64 1) fun t34 =>
 again2 t33 t34 w)
 (R t6 w))
theorem k_slices_Concat_byte_byte : kO Tryz.f145 A_slices_Concat_byte_byte = true := by kernel_rfl
theorem s_slices_Concat_byte_byte (h : SQ Q (c_slices_Concat_byte_byte t0 w)) : cal P f_slices_Concat_byte_byte [t0] w Q := sO Tryz.func145 rfl (by kernel_rfl) k_slices_Concat_byte_byte (by kernel_rfl) h

/-- flurry/sha.mixed -/
def A_sha_mixed : An := (An.s (An.r []) (An.s (An.r []) (An.s (An.s (An.r []) (An.b (An.l [18] (An.s (An.r []) (An.s (An.s An.o An.o) (An.s (An.b (An.s (An.r []) (An.s (An.r []) (An.s (An.r []) (An.s (An.r []) (An.s (An.r []) (An.s (An.r []) (An.r [])))))))) (An.r []))))))) (An.s (An.s (An.r []) (An.b (An.l [99] (An.s (An.r []) (An.s (An.s An.o An.o) (An.s (An.b (An.s (An.r []) (An.dc [0, 1, 2, 3, 4, 5, 6, 7, 8] [8] []))) (An.r []))))))) (An.s (An.r []) An.o)))))
def c_sha_mixed (t0 t1 : Value) (w : World) (R : KR) : Prop :=
 bx T_a8_uint32 t0 w fun t2 w =>
 efP P (Instr.alloc T_a8_uint32 true (.tuple #[])) w fun t4 w =>
 ldN 8 t2 w.heap fun t15 =>
 efP P (Instr.alloc T_a8_uint32 true (.tuple #[])) w fun t5 w =>
 stN 8 t5 t15 w fun w =>
 cal P f_sha_schedule [t1] w fun t17 w =>
 lp1 (.int .i64 0) w fun _ t18 w again0 =>
 bi .lss t18 (.int .i64 64) fun t19 =>
 cnd t19
 (ixv 64 1 false t17 t18 fun t21 =>
 drw w fun w =>
 ixa 8 1 t5 (.int .i64 0) fun t22 =>
 ld1 t22 w.heap fun t23 =>
 ixa 8 1 t5 (.int .i64 4) fun t24 =>
 ld1 t24 w.heap fun t25 =>
 cal P f_math_bits_RotateLeft32 [t25, (.int .i64 (-6))] w fun t27 w =>
 cal P f_math_bits_RotateLeft32 [t25, (.int .i64 (-11))] w fun t29 w =>
 bi .xor t27 t29 fun t30 =>
 cal P f_math_bits_RotateLeft32 [t25, (.int .i64 (-25))] w fun t32 w =>
 bi .xor t30 t32 fun t33 =>
 drw w fun w =>
 ixa 8 1 t5 (.int .i64 7) fun t34 =>
 ld1 t34 w.heap fun t35 =>
 bi .add t35 t33 fun t37 =>
 ixa 8 1 t5 (.int .i64 5) fun t39 =>
 ld1 t39 w.heap fun t40 =>
 bi .and t25 t40 fun t41 =>
 rdP P (Op.unary UnOp.xor t25) w fun t43 =>
 ixa 8 1 t5 (.int .i64 6) fun t44 =>
 ld1 t44 w.heap fun t45 =>
 bi .and t43 t45 fun t46 =>
 bi .xor t41 t46 fun t47 =>
 bi .add t37 t47 fun t48 =>
 ixa 64 1 (.pointer (some ⟨0, 0, none⟩)) t18 fun t50 =>
 ld1 t50 w.heap fun t51 =>
 bi .add t48 t51 fun t52 =>
 bi .add t52 t21 fun t54 =>
 cal P f_math_bits_RotateLeft32 [t23, (.int .i64 (-2))] w fun t56 w =>
 cal P f_math_bits_RotateLeft32 [t23, (.int .i64 (-13))] w fun t58 w =>
 bi .xor t56 t58 fun t59 =>
 cal P f_math_bits_RotateLeft32 [t23, (.int .i64 (-22))] w fun t61 w =>
 bi .xor t59 t61 fun t62 =>
 ixa 8 1 t5 (.int .i64 1) fun t65 =>
 ld1 t65 w.heap fun t66 =>
 bi .and t23 t66 fun t67 =>
 ixa 8 1 t5 (.int .i64 2) fun t69 =>
 ld1 t69 w.heap fun t70 =>
 bi .and t23 t70 fun t71 =>
 bi .xor t67 t71 fun t72 =>
 ixa 8 1 t5 (.int .i64 1) fun t73 =>
 ld1 t73 w.heap fun t74 =>
 ixa 8 1 t5 (.int .i64 2) fun t75 =>
 ld1 t75 w.heap fun t76 =>
 bi .and t74 t76 fun t77 =>
 bi .xor t72 t77 fun t78 =>
 bi .add t62 t78 fun t79 =>
 bi .add t54 t79 fun t82 =>
 ixa 8 1 t5 (.int .i64 1) fun t84 =>
 ld1 t84 w.heap fun t85 =>
 ixa 8 1 t5 (.int .i64 2) fun t86 =>
 ld1 t86 w.heap fun t87 =>
 ixa 8 1 t5 (.int .i64 3) fun t88 =>
 ld1 t88 w.heap fun t89 =>
 bi .add t89 t54 fun t91 =>
 ixa 8 1 t5 (.int .i64 5) fun t93 =>
 ld1 t93 w.heap fun t94 =>
 ixa 8 1 t5 (.int .i64 6) fun t95 =>
 ld1 t95 w.heap fun t96 =>
 rdP P (Instr.build T_a8_uint32 #[(0, t82), (1, t23), (2, t85), (3, t87), (4, t91), (5, t25), (6, t94), (7, t96)]) w fun t97 =>
 stN 8 t5 t97 w fun w =>
 bi .add t18 (.int .i64 1) fun t98 =>
 again0 t98 w)
 (lp1 (.int .i64 0) w fun _ t99 w again1 =>
 bi .lss t99 (.int .i64 8) fun t100 =>
 cnd t100
 (drH w fun S w =>
 ixa 8 1 t2 t99 fun t103 =>
 rdS S (fun w => ld1 t103 w.heap) fun t104 =>
 ixa 8 1 t5 t99 fun t106 =>
 rdS S (fun w => ld1 t106 w.heap) fun t107 =>
 bi .add t104 t107 fun t108 =>
 ixa 8 1 t2 t99 fun t109 =>
 efC (fun w K => st1 t109 t108 w (K undef)) w fun S _ w =>
 bi .add t99 (.int .i64 1) fun t110 =>
 again1 t110 w)
 (ldN 8 t2 w.heap fun t111 =>
 stN 8 t4 t111 w fun w =>
 ldN 8 t4 w.heap fun r2 =>
 R r2 w))
theorem k_sha_mixed : kO Tryz.f146 A_sha_mixed = true := by kernel_rfl
theorem s_sha_mixed (h : SQ Q (c_sha_mixed t0 t1 w)) : cal P f_sha_mixed [t0, t1] w Q := sO Tryz.func146 rfl (by kernel_rfl) k_sha_mixed (by kernel_rfl) h

/-- slices.Clone[[]flurry/api.Choice,flurry/api.Choice] -/
def A_slices_Clone_api_Choice_api_Choice : An := (An.s (An.r []) (An.s (An.s (An.r []) (An.s (An.s (An.r []) An.o) An.o)) (An.s (An.r []) An.o)))
def c_slices_Clone_api_Choice_api_Choice (t0 : Value) (w : World) (R : KR) : Prop :=
 nilS false t0 fun t4 =>
 cnd t4
 (R (.slice none 0 0) w)
 (efP P (Instr.buildSlice T_sl_api_Choice 0 #[]) w fun t5 w =>
 efP P (Builtin.append_ #[T_sl_api_Choice, T_sl_api_Choice] T_sl_api_Choice #[t5, t0]) w fun t7 w =>
 R t7 w)
theorem k_slices_Clone_api_Choice_api_Choice : kO Tryz.f147 A_slices_Clone_api_Choice_api_Choice = true := by kernel_rfl
theorem s_slices_Clone_api_Choice_api_Choice (h : SQ Q (c_slices_Clone_api_Choice_api_Choice t0 w)) : cal P f_slices_Clone_api_Choice_api_Choice [t0] w Q := sO Tryz.func147 rfl (by kernel_rfl) k_slices_Clone_api_Choice_api_Choice (by kernel_rfl) h

/-- slices.IndexFunc[[]flurry/api.Choice,flurry/api.Choice] -/
def A_slices_IndexFunc_api_Choice_api_Choice : An := (An.s (An.r []) (An.s (An.s (An.r []) (An.b (An.l [8] (An.s (An.r []) (An.s (An.s An.o An.o) (An.s (An.b (An.s (An.r []) (An.s (An.r []) (An.s (An.s (An.r []) An.o) An.o)))) (An.r []))))))) (An.s (An.r []) An.o)))
def c_slices_IndexFunc_api_Choice_api_Choice (t0 t1 : Value) (w : World) (R : KR) : Prop :=
 lenS t0 fun t7 =>
 lp1 (.int .i64 0) w fun _ t8 w again0 =>
 bi .lss t8 t7 fun t9 =>
 cnd t9
 (ixs 33 t0 t8 fun t14 =>
 ldN 33 t14 w.heap fun t15 =>
 calV P t1 [t15] w fun t16 w =>
 cnd t16
 (R t8 w)
 (bi .add t8 (.int .i64 1) fun t18 =>
 again0 t18 w))
 (R (.int .i64 (-1)) w)
theorem k_slices_IndexFunc_api_Choice_api_Choice : kO Tryz.f148 A_slices_IndexFunc_api_Choice_api_Choice = true := by kernel_rfl
theorem s_slices_IndexFunc_api_Choice_api_Choice (h : SQ Q (c_slices_IndexFunc_api_Choice_api_Choice t0 t1 w)) : cal P f_slices_IndexFunc_api_Choice_api_Choice [t0, t1] w Q := sO Tryz.func148 rfl (by kernel_rfl) k_slices_IndexFunc_api_Choice_api_Choice (by kernel_rfl) h

/-- flurry/snow.place$1 -/
def A_snow_place_1 : An := (An.s (An.r []) (An.s (An.r []) An.o))
def c_snow_place_1 (t0 t1 : Value) (w : World) (R : KR) : Prop :=
 bx T_api_Choice t0 w fun t2 w =>
 fad 0 t2 fun t4 =>
 ldN 32 t4 w.heap fun t5 =>
 ldN 32 t1 w.heap fun t6 =>
 rdP P (eqS .eql T_api_ID (Operand.tmp 5) (Operand.tmp 6) t5 t6) w fun t7 =>
 R t7 w
theorem k_snow_place_1 : kO Tryz.f149 A_snow_place_1 = true := by kernel_rfl
theorem s_snow_place_1 (h : SQ Q (c_snow_place_1 t0 t1 w)) : cal P f_snow_place_1 [t0, t1] w Q := sO Tryz.func149 rfl (by kernel_rfl) k_snow_place_1 (by kernel_rfl) h

/-- bytes.Compare -/
def A_bytes_Compare : An := (An.s (An.r []) (An.s (An.r []) An.o))
def c_bytes_Compare (t0 t1 : Value) (w : World) (R : KR) : Prop :=
 efN P f_internal_bytealg_Compare [t0, t1] w fun t7 w =>
 R t7 w
theorem k_bytes_Compare : kO Tryz.f150 A_bytes_Compare = true := by kernel_rfl
theorem s_bytes_Compare (h : SQ Q (c_bytes_Compare t0 t1 w)) : cal P f_bytes_Compare [t0, t1] w Q := sO Tryz.func150 rfl (by kernel_rfl) k_bytes_Compare (by kernel_rfl) h

/-- (*flurry/pack.Packer).works -/
def A_pack_Packer_works : An := (An.s (An.r []) (An.s (An.r [[10], [18]]) An.o))
def c_pack_Packer_works (t0 : Value) (w : World) (R : KR) : Prop :=
 nilP true t0 fun t4 =>
 jn1 (fun k0 =>
 gif t4 true
 (nilc t0 fun t7 =>
 fad 0 t7 fun t8 =>
 fad 0 t8 fun t9 =>
 ld1 t9 w.heap fun t10 =>
 k0 t10 w)
 (k0 undef w)) fun _ t10_1 w =>
 pik t4 t10_1 (.bool false) fun t11 =>
 jn1 (fun k1 =>
 gif t11 true
 (nilc t0 fun t14 =>
 fad 0 t14 fun t15 =>
 fad 2 t15 fun t16 =>
 ld1 t16 w.heap fun t17 =>
 bi .eql t17 (.int .i64 0) fun t18 =>
 k1 t18 w)
 (k1 undef w)) fun _ t18_1 w =>
 pik t11 t18_1 (.bool false) fun t19 =>
 R t19 w
theorem k_pack_Packer_works : kO Tryz.f153 A_pack_Packer_works = true := by kernel_rfl
theorem s_pack_Packer_works (h : SQ Q (c_pack_Packer_works t0 w)) : cal P f_pack_Packer_works [t0] w Q := sO Tryz.func153 rfl (by kernel_rfl) k_pack_Packer_works (by kernel_rfl) h

/-- slices.Grow[[]byte,byte] -/
def A_slices_Grow_byte_byte : An := (An.s (An.r []) (An.s (An.j [] (An.s (An.r []) (An.s (An.r []) An.o))) (An.s (An.s (An.r []) (An.s (An.r []) (An.s (An.r []) An.o))) (An.s (An.r []) An.o))))
def c_slices_Grow_byte_byte (t0 t1 : Value) (w : World) (R : KR) : Prop :=
 jn0 (fun k0 =>
 bi .lss t1 (.int .i64 0) fun t6 =>
 cnd t6
 (rdP P (Instr.makeInterface T_string (.string { data := #[99, 97, 110, 110, 111, 116, 32, 98, 101, 32, 110, 101, 103, 97, 116, 105, 118, 101] })) w fun t7 =>
 False)
 (k0 w)) fun _ w =>
 rdP P (Builtin.cap_ #[T_sl_uint8] T_int #[t0]) w fun t10 =>
 lenS t0 fun t12 =>
 bi .sub t10 t12 fun t13 =>
 bi .sub t1 t13 fun t14 =>
 bi .gtr t14 (.int .i64 0) fun t16 =>
 cnd t16
 (rdP P (Builtin.cap_ #[T_sl_uint8] T_int #[t0]) w fun t19 =>
 slc 1 t0 none (some t19) fun t20 =>
 efP P (Builtin.append_ #[T_sl_uint8, T_int] T_sl_uint8 #[t20, t14]) w fun t22 w =>
 lenS t0 fun t24 =>
 slc 1 t22 none (some t24) fun t25 =>
 R t25 w)
 (R t0 w)
theorem k_slices_Grow_byte_byte : kO Tryz.f155 A_slices_Grow_byte_byte = true := by kernel_rfl
theorem s_slices_Grow_byte_byte (h : SQ Q (c_slices_Grow_byte_byte t0 t1 w)) : cal P f_slices_Grow_byte_byte [t0, t1] w Q := sO Tryz.func155 rfl (by kernel_rfl) k_slices_Grow_byte_byte (by kernel_rfl) h

/-- flurry/sha.schedule -/
def A_sha_schedule : An := (An.s (An.r []) (An.s (An.r []) (An.s (An.s (An.r []) (An.b (An.l [9] (An.s (An.r []) (An.s (An.s An.o An.o) (An.s (An.j [] (An.b (An.s (An.r []) (An.s (An.s (An.r []) (An.s (An.s (An.dc [0, 1, 2, 3, 4, 5, 6, 7, 8, 9, 10, 11, 12, 13, 14, 15, 16, 17, 18, 19, 20, 21, 22, 23, 24, 25, 26, 27, 28, 29, 30, 31, 32, 33, 34, 35] [35] []) An.o) An.o)) (An.s (An.r []) (An.s (An.r []) (An.s (An.r []) (An.dc [0, 1, 2, 3, 4, 5, 6, 7, 8, 9, 10, 11, 12, 13, 14, 15] [15] [])))))))) (An.r []))))))) (An.s (An.r []) An.o))))
def c_sha_schedule (t0 : Value) (w : World) (R : KR) : Prop :=
 efP P (Instr.alloc T_a64_uint32 true (.tuple #[])) w fun t2 w =>
 efP P (Instr.alloc T_a64_uint32 true (.tuple #[])) w fun t3 w =>
 lp1 (.int .i64 0) w fun _ t9 w again0 =>
 bi .lss t9 (.int .i64 64) fun t10 =>
 cnd t10
 (jn0 (fun k1 =>
 bi .lss t9 (.int .i64 16) fun t13 =>
 cnd t13
 (drH w fun S w =>
 bi .mul (.int .i64 4) t9 fun t17 =>
 ixs 1 t0 t17 fun t18 =>
 rdS S (fun w => ld1 t18 w.heap) fun t19 =>
 cvi .u32 t19 fun t20 =>
 sh .shl t20 (.int .u64 24) fun t21 =>
 bi .mul (.int .i64 4) t9 fun t24 =>
 bi .add t24 (.int .i64 1) fun t25 =>
 ixs 1 t0 t25 fun t26 =>
 rdS S (fun w => ld1 t26 w.heap) fun t27 =>
 cvi .u32 t27 fun t28 =>
 sh .shl t28 (.int .u64 16) fun t29 =>
 bi .or t21 t29 fun t30 =>
 bi .mul (.int .i64 4) t9 fun t33 =>
 bi .add t33 (.int .i64 2) fun t34 =>
 ixs 1 t0 t34 fun t35 =>
 rdS S (fun w => ld1 t35 w.heap) fun t36 =>
 cvi .u32 t36 fun t37 =>
 sh .shl t37 (.int .u64 8) fun t38 =>
 bi .or t30 t38 fun t39 =>
 bi .mul (.int .i64 4) t9 fun t42 =>
 bi .add t42 (.int .i64 3) fun t43 =>
 ixs 1 t0 t43 fun t44 =>
 rdS S (fun w => ld1 t44 w.heap) fun t45 =>
 cvi .u32 t45 fun t46 =>
 bi .or t39 t46 fun t47 =>
 ixa 64 1 t3 t9 fun t48 =>
 efC (fun w K => st1 t48 t47 w (K undef)) w fun S _ w =>
 k1 w)
 (drw w fun w =>
 bi .sub t9 (.int .i64 15) fun t50 =>
 ixa 64 1 t3 t50 fun t51 =>
 ld1 t51 w.heap fun t52 =>
 bi .sub t9 (.int .i64 2) fun t54 =>
 ixa 64 1 t3 t54 fun t55 =>
 ld1 t55 w.heap fun t56 =>
 cal P f_math_bits_RotateLeft32 [t52, (.int .i64 (-7))] w fun t58 w =>
 cal P f_math_bits_RotateLeft32 [t52, (.int .i64 (-18))] w fun t60 w =>
 bi .xor t58 t60 fun t61 =>
 sh .shr t52 (.int .u64 3) fun t63 =>
 bi .xor t61 t63 fun t64 =>
 cal P f_math_bits_RotateLeft32 [t56, (.int .i64 (-17))] w fun t66 w =>
 cal P f_math_bits_RotateLeft32 [t56, (.int .i64 (-19))] w fun t68 w =>
 bi .xor t66 t68 fun t69 =>
 sh .shr t56 (.int .u64 10) fun t71 =>
 bi .xor t69 t71 fun t72 =>
 drH w fun S w =>
 bi .sub t9 (.int .i64 7) fun t76 =>
 ixa 64 1 t3 t76 fun t77 =>
 rdS S (fun w => ld1 t77 w.heap) fun t78 =>
 bi .add t72 t78 fun t79 =>
 bi .add t79 t64 fun t81 =>
 bi .sub t9 (.int .i64 16) fun t83 =>
 ixa 64 1 t3 t83 fun t84 =>
 rdS S (fun w => ld1 t84 w.heap) fun t85 =>
 bi .add t81 t85 fun t86 =>
 ixa 64 1 t3 t9 fun t87 =>
 efC (fun w K => st1 t87 t86 w (K undef)) w fun S _ w =>
 k1 w)) fun _ w =>
 bi .add t9 (.int .i64 1) fun t88 =>
 again0 t88 w)
 (ldN 64 t3 w.heap fun t89 =>
 stN 64 t2 t89 w fun w =>
 ldN 64 t2 w.heap fun r2 =>
 R r2 w)
theorem k_sha_schedule : kO Tryz.f156 A_sha_schedule = true := by kernel_rfl
theorem s_sha_schedule (h : SQ Q (c_sha_schedule t0 w)) : cal P f_sha_schedule [t0] w Q := sO Tryz.func156 rfl (by kernel_rfl) k_sha_schedule (by kernel_rfl) h

/-- math/bits.RotateLeft32 -/
def A_math_bits_RotateLeft32 : An := (An.s (An.r []) (An.s (An.r []) (An.s (An.r []) An.o)))
def c_math_bits_RotateLeft32 (t0 t1 : Value) (w : World) (R : KR) : Prop :=
 cvi .u64 t1 fun t7 =>
 bi .and t7 (.int .u64 31) fun t8 =>
 sh .shl t0 t8 fun t11 =>
 bi .sub (.int .u64 32) t8 fun t14 =>
 sh .shr t0 t14 fun t15 =>
 bi .or t11 t15 fun t16 =>
 R t16 w
theorem k_math_bits_RotateLeft32 : kO Tryz.f157 A_math_bits_RotateLeft32 = true := by kernel_rfl
theorem s_math_bits_RotateLeft32 (h : SQ Q (c_math_bits_RotateLeft32 t0 t1 w)) : cal P f_math_bits_RotateLeft32 [t0, t1] w Q := sO Tryz.func157 rfl (by kernel_rfl) k_math_bits_RotateLeft32 (by kernel_rfl) h

end Go.Fx
