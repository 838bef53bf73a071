/-
  The readings, part 5.
-/
import Derived.Test.YtpdnddcodnpmeaaGreatDoorQ32d01978
import Derived.Test.YtpdnddcodnpmeaaGreatDoorQd5ec66e2
import Derived.Test.YtpdnddcodnpmeaaGreatDoorQ952b5fe2
import Derived.Test.YtpdnddcodnpmeaaGreatDoorQ855ca3e0
import Derived.Test.YtpdnddcodnpmeaaGreatDoorQd3b58593
import Derived.Test.YtpdnddcodnpmeaaGreatDoorQ15a7199f
set_option linter.unusedVariables false
set_option maxRecDepth 100000
namespace Go.Fx
open Go.Proofs
variable {t0 t1 t2 t3 t4 t5 t6 t7 t8 t9 : Value} {w : World} {Q : KR}
/-- (*flurry/tree.Tree).those -/
def A_tree_Tree_those : An := (An.s (An.r []) (An.s (An.s (An.r []) (An.s (An.s (An.r []) An.o) An.o)) (An.s (An.r []) (An.s (An.s (An.r []) (An.b (An.l [5, 15] (An.s (An.r []) (An.s (An.s An.o An.o) (An.s (An.j [5] (An.b (An.s (An.r []) (An.s (An.r []) (An.s (An.r []) An.o))))) (An.r []))))))) (An.s (An.r []) An.o)))))
def c_tree_Tree_those (t0 t1 : Value) (w : World) (R : KR) : Prop :=
 cal P f_tree_Tree_none [t0] w fun t9 w =>
 cnd t9
 (R (.slice none 0 0) w)
 (nilc t0 fun t11 =>
 fad 36 t11 fun t12 =>
 ld1 t12 w.heap fun t13 =>
 lenS t13 fun t14 =>
 lp2 (.slice none 0 0) (.int .i64 0) w fun _ t5 t15 w again0 =>
 bi .lss t15 t14 fun t16 =>
 cnd t16
 (jn1 (fun k1 =>
 ixs 32 t13 t15 fun t17 =>
 ldN 32 t17 w.heap fun t18 =>
 efP P (Instr.alloc T_api_ID true (.tuple #[])) w fun t7 w =>
 stN 32 t7 t18 w fun w =>
 ldN 32 t7 w.heap fun t20 =>
 calV P t1 [t20] w fun t21 w =>
 cnd t21
 (ldN 32 t7 w.heap fun t23 =>
 efP P (Instr.buildSlice T_sl_api_ID 1 #[(0, t23)]) w fun t24 w =>
 efP P (Builtin.append_ #[T_sl_api_ID, T_sl_api_ID] T_sl_api_ID #[t5, t24]) w fun t25 w =>
 k1 t25 w)
 (k1 t5 w)) fun _ t5_1 w =>
 bi .add t15 (.int .i64 1) fun t26 =>
 again0 t5_1 t26 w)
 (R t5 w))
theorem k_tree_Tree_those : kO Tryz.f76 A_tree_Tree_those = true := by kernel_rfl
theorem s_tree_Tree_those (h : SQ Q (c_tree_Tree_those t0 t1 w)) : cal P f_tree_Tree_those [t0, t1] w Q := sO Tryz.func76 rfl (by kernel_rfl) k_tree_Tree_those (by kernel_rfl) h

/-- (*flurry/tree.Tree).Move$1 -/
def A_tree_Tree_Move_1 : An := (An.s (An.r []) (An.s (An.r []) An.o))
def c_tree_Tree_Move_1 (t0 t1 t2 : Value) (w : World) (R : KR) : Prop :=
 bx T_api_ID t0 w fun t3 w =>
 ld1 t1 w.heap fun t5 =>
 ldN 32 t3 w.heap fun t6 =>
 ldN 32 t2 w.heap fun t7 =>
 cal P f_tree_Tree_Within [t5, t6, t7] w fun t8 w =>
 notB t8 fun t9 =>
 R t9 w
theorem k_tree_Tree_Move_1 : kO Tryz.f77 A_tree_Tree_Move_1 = true := by kernel_rfl
theorem s_tree_Tree_Move_1 (h : SQ Q (c_tree_Tree_Move_1 t0 t1 t2 w)) : cal P f_tree_Tree_Move_1 [t0, t1, t2] w Q := sO Tryz.func77 rfl (by kernel_rfl) k_tree_Tree_Move_1 (by kernel_rfl) h

/-- (*flurry/tree.Tree).Move$2 -/
def A_tree_Tree_Move_2 : An := (An.s (An.r []) (An.s (An.r [[12]]) An.o))
def c_tree_Tree_Move_2 (t0 t1 t2 : Value) (w : World) (R : KR) : Prop :=
 bx T_api_ID t0 w fun t3 w =>
 ldN 32 t3 w.heap fun t5 =>
 ldN 32 t1 w.heap fun t6 =>
 rdP P (eqS .neq T_api_ID (Operand.tmp 5) (Operand.tmp 6) t5 t6) w fun t7 =>
 jn1 (fun k0 =>
 gif t7 true
 (ld1 t2 w.heap fun t9 =>
 ldN 32 t3 w.heap fun t10 =>
 ldN 32 t1 w.heap fun t11 =>
 cal P f_tree_Tree_Within [t9, t10, t11] w fun t12 w =>
 k0 t12 w)
 (k0 undef w)) fun _ t12_1 w =>
 pik t7 t12_1 (.bool false) fun t13 =>
 R t13 w
theorem k_tree_Tree_Move_2 : kO Tryz.f78 A_tree_Tree_Move_2 = true := by kernel_rfl
theorem s_tree_Tree_Move_2 (h : SQ Q (c_tree_Tree_Move_2 t0 t1 t2 w)) : cal P f_tree_Tree_Move_2 [t0, t1, t2] w Q := sO Tryz.func78 rfl (by kernel_rfl) k_tree_Tree_Move_2 (by kernel_rfl) h

/-- flurry/block.made -/
def A_block_made : An := (An.s (An.r []) (An.s (An.s (An.r []) (An.s (An.r []) (An.s (An.s (An.r []) An.o) An.o))) (An.s (An.r []) An.o)))
def c_block_made (t0 : Value) (w : World) (R : KR) : Prop :=
 bx T_api_Block t0 w fun t1 w =>
 efP P (Instr.alloc T_api_Block true (.tuple #[])) w fun t2 w =>
 ldN 34 t1 w.heap fun t5 =>
 cal P f_block_Check [t5] w fun t6 w =>
 bi .neq t6 (.int .i64 0) fun t8 =>
 cnd t8
 (rdP P (Instr.build T_api_Block #[]) w fun t9 =>
 stN 34 t2 t9 w fun w =>
 ldN 34 t2 w.heap fun r0 =>
 R (.tuple #[r0, t6]) w)
 (ldN 34 t1 w.heap fun t11 =>
 cal P f_block_Clone [t11] w fun t12 w =>
 stN 34 t2 t12 w fun w =>
 ldN 34 t2 w.heap fun r1 =>
 R (.tuple #[r1, (.int .i64 0)]) w)
theorem k_block_made : kO Tryz.f79 A_block_made = true := by kernel_rfl
theorem s_block_made (h : SQ Q (c_block_made t0 w)) : cal P f_block_made [t0] w Q := sO Tryz.func79 rfl (by kernel_rfl) k_block_made (by kernel_rfl) h

/-- flurry/block.Bytes -/
def A_block_Bytes : An := (An.s (An.r []) (An.s (An.s (An.r []) (An.s (An.r []) (An.s (An.s (An.r []) An.o) An.o))) (An.s (An.r []) (An.s (An.r []) (An.s (An.r []) (An.s (An.r []) (An.s (An.r []) (An.s (An.r []) An.o))))))))
def c_block_Bytes (t0 : Value) (w : World) (R : KR) : Prop :=
 bx T_api_Block t0 w fun t1 w =>
 ldN 34 t1 w.heap fun t6 =>
 cal P f_block_Check [t6] w fun t7 w =>
 bi .neq t7 (.int .i64 0) fun t9 =>
 cnd t9
 (R (.tuple #[(.slice none 0 0), t7]) w)
 (cal P f_pack_New [(.int .i64 246)] w fun t11 w =>
 cal P f_pack_Packer_Short [t11, (.int .u16 0)] w fun t13 w =>
 fad 0 t1 fun t15 =>
 sla 32 1 t15 none none fun t16 =>
 cal P f_pack_Packer_Fixed [t11, t16] w fun t17 w =>
 fad 32 t1 fun t19 =>
 ld1 t19 w.heap fun t20 =>
 cvi .u64 t20 fun t21 =>
 cal P f_pack_Packer_Long [t11, t21] w fun t22 w =>
 fad 33 t1 fun t24 =>
 ld1 t24 w.heap fun t25 =>
 cal P f_pack_Packer_Bytes [t11, t25] w fun t26 w =>
 cal P f_pack_Packer_Out [t11] w fun t28 w =>
 ext 0 t28 fun t29 =>
 ext 1 t28 fun t30 =>
 R (.tuple #[t29, t30]) w)
theorem k_block_Bytes : kO Tryz.f80 A_block_Bytes = true := by kernel_rfl
theorem s_block_Bytes (h : SQ Q (c_block_Bytes t0 w)) : cal P f_block_Bytes [t0] w Q := sO Tryz.func80 rfl (by kernel_rfl) k_block_Bytes (by kernel_rfl) h

/-- flurry/sha.Sum -/
def A_sha_Sum : An := (An.s (An.r []) (An.s (An.r []) (An.s (An.r []) (An.s (An.r []) An.o))))
def c_sha_Sum (t0 : Value) (w : World) (R : KR) : Prop :=
 efP P (Instr.alloc T_api_ID true (.tuple #[])) w fun t2 w =>
 cal P f_sha_New [] w fun t4 w =>
 efP P (Instr.buildSlice T_sl_sl_uint8 1 #[(0, t0)]) w fun t7 w =>
 cal P f_sha_State_Write [t4, t7] w fun t8 w =>
 cal P f_sha_State_Sum [t4] w fun t10 w =>
 stN 32 t2 t10 w fun w =>
 ldN 32 t2 w.heap fun r0 =>
 R r0 w
theorem k_sha_Sum : kO Tryz.f81 A_sha_Sum = true := by kernel_rfl
theorem s_sha_Sum (h : SQ Q (c_sha_Sum t0 w)) : cal P f_sha_Sum [t0] w Q := sO Tryz.func81 rfl (by kernel_rfl) k_sha_Sum (by kernel_rfl) h

/-- flurry/snow.Params -/
def A_snow_Params : An := (An.s (An.r []) (An.s (An.s (An.r [[9], [17], [24], [31], [36], [41]]) (An.s (An.s (An.r []) An.o) An.o)) (An.s (An.r []) An.o)))
def c_snow_Params (t0 : Value) (w : World) (R : KR) : Prop :=
 bx T_api_Params t0 w fun t1 w =>
 fad 0 t1 fun t3 =>
 ld1 t3 w.heap fun t4 =>
 bi .lss t4 (.int .i64 1) fun t5 =>
 jn1 (fun k0 =>
 gif t5 false
 (fad 0 t1 fun t7 =>
 ld1 t7 w.heap fun t8 =>
 bi .gtr t8 (.int .i64 64) fun t9 =>
 k0 t9 w)
 (k0 undef w)) fun _ t9_1 w =>
 pik t5 (.bool true) t9_1 fun t10 =>
 jn1 (fun k1 =>
 gif t10 false
 (fad 1 t1 fun t12 =>
 ld1 t12 w.heap fun t13 =>
 fad 0 t1 fun t14 =>
 ld1 t14 w.heap fun t15 =>
 bi .quo t15 (.int .i64 2) fun t16 =>
 bi .leq t13 t16 fun t17 =>
 k1 t17 w)
 (k1 undef w)) fun _ t17_1 w =>
 pik t10 (.bool true) t17_1 fun t18 =>
 jn1 (fun k2 =>
 gif t18 false
 (fad 1 t1 fun t20 =>
 ld1 t20 w.heap fun t21 =>
 fad 2 t1 fun t22 =>
 ld1 t22 w.heap fun t23 =>
 bi .gtr t21 t23 fun t24 =>
 k2 t24 w)
 (k2 undef w)) fun _ t24_1 w =>
 pik t18 (.bool true) t24_1 fun t25 =>
 jn1 (fun k3 =>
 gif t25 false
 (fad 2 t1 fun t27 =>
 ld1 t27 w.heap fun t28 =>
 fad 0 t1 fun t29 =>
 ld1 t29 w.heap fun t30 =>
 bi .gtr t28 t30 fun t31 =>
 k3 t31 w)
 (k3 undef w)) fun _ t31_1 w =>
 pik t25 (.bool true) t31_1 fun t32 =>
 jn1 (fun k4 =>
 gif t32 false
 (fad 3 t1 fun t34 =>
 ld1 t34 w.heap fun t35 =>
 bi .lss t35 (.int .i64 1) fun t36 =>
 k4 t36 w)
 (k4 undef w)) fun _ t36_1 w =>
 pik t32 (.bool true) t36_1 fun t37 =>
 jn1 (fun k5 =>
 gif t37 false
 (fad 3 t1 fun t39 =>
 ld1 t39 w.heap fun t40 =>
 bi .gtr t40 (.int .i64 1000) fun t41 =>
 k5 t41 w)
 (k5 undef w)) fun _ t41_1 w =>
 pik t37 (.bool true) t41_1 fun t42 =>
 cnd t42
 (R (.int .i64 170) w)
 (R (.int .i64 0) w)
theorem k_snow_Params : kO Tryz.f82 A_snow_Params = true := by kernel_rfl
theorem s_snow_Params (h : SQ Q (c_snow_Params t0 w)) : cal P f_snow_Params [t0] w Q := sO Tryz.func82 rfl (by kernel_rfl) k_snow_Params (by kernel_rfl) h

/-- flurry/tree.New -/
def A_tree_New : An := (An.s (An.r []) (An.s (An.s (An.r [[12], [16]]) (An.s (An.s (An.r []) An.o) An.o)) (An.s (An.r []) An.o)))
def c_tree_New (t0 t1 t2 : Value) (w : World) (R : KR) : Prop :=
 bx T_api_ID t0 w fun t3 w =>
 bi .lss t1 (.int .i64 0) fun t9 =>
 jn1 (fun k0 =>
 gif t9 false
 (bi .lss t2 (.int .i64 1) fun t12 =>
 k0 t12 w)
 (k0 undef w)) fun _ t12_1 w =>
 pik t9 (.bool true) t12_1 fun t13 =>
 jn1 (fun k1 =>
 gif t13 false
 (bi .gtr t2 (.int .i64 256) fun t16 =>
 k1 t16 w)
 (k1 undef w)) fun _ t16_1 w =>
 pik t13 (.bool true) t16_1 fun t17 =>
 cnd t17
 (R (.tuple #[(.pointer none), (.int .i64 1)]) w)
 (ldN 32 t3 w.heap fun t18 =>
 efP P (Instr.makeMap T_map_api_ID_api_Block none) w fun t21 w =>
 rdP P (Instr.build T_tree_Tree #[(0, (.bool true)), (1, t18), (2, t1), (3, t2), (4, t21)]) w fun t22 =>
 bx T_tree_Tree t22 w fun t23 w =>
 R (.tuple #[t23, (.int .i64 0)]) w)
theorem k_tree_New : kO Tryz.f83 A_tree_New = true := by kernel_rfl
theorem s_tree_New (h : SQ Q (c_tree_New t0 t1 t2 w)) : cal P f_tree_New [t0, t1, t2] w Q := sO Tryz.func83 rfl (by kernel_rfl) k_tree_New (by kernel_rfl) h

/-- (*flurry/tree.Tree).Add -/
def A_tree_Tree_Add : An := (An.s (An.r []) (An.s (An.s (An.r []) (An.s (An.s (An.r []) An.o) An.o)) (An.s (An.r []) (An.s (An.s (An.r []) (An.s (An.s (An.r []) An.o) An.o)) (An.s (An.s (An.r []) (An.s (An.s (An.r []) An.o) An.o)) (An.s (An.r []) (An.s (An.s (An.r [[38], [45]]) (An.s (An.s (An.r []) An.o) An.o)) (An.s (An.s (An.r []) (An.s (An.s (An.r []) An.o) An.o)) (An.s (An.dc [0, 1, 2, 3, 4, 5, 6, 7] [7] []) (An.s (An.dc [0, 1, 2, 3, 4, 5, 6, 7, 8, 9, 10] [7, 10] []) (An.s (An.r []) An.o)))))))))))
def c_tree_Tree_Add (t0 t1 : Value) (w : World) (R : KR) : Prop :=
 bx T_api_Block t1 w fun t3 w =>
 efP P (Instr.alloc T_api_ID true (.tuple #[])) w fun t4 w =>
 cal P f_tree_Tree_none [t0] w fun t11 w =>
 cnd t11
 (rdP P (Instr.build T_api_ID #[]) w fun t12 =>
 stN 32 t4 t12 w fun w =>
 ldN 32 t4 w.heap fun r0 =>
 R (.tuple #[r0, (.int .i64 2)]) w)
 (ldN 34 t3 w.heap fun t14 =>
 cal P f_block_ID [t14] w fun t15 w =>
 ext 0 t15 fun t16 =>
 ext 1 t15 fun t17 =>
 efP P (Instr.alloc T_api_ID true (.tuple #[])) w fun t6 w =>
 stN 32 t6 t16 w fun w =>
 bi .neq t17 (.int .i64 0) fun t19 =>
 cnd t19
 (rdP P (Instr.build T_api_ID #[]) w fun t20 =>
 stN 32 t4 t20 w fun w =>
 ldN 32 t4 w.heap fun r1 =>
 R (.tuple #[r1, t17]) w)
 (ldN 32 t6 w.heap fun t23 =>
 cal P f_tree_Tree_Has [t0, t23] w fun t24 w =>
 cnd t24
 (rdP P (Instr.build T_api_ID #[]) w fun t25 =>
 stN 32 t4 t25 w fun w =>
 ldN 32 t4 w.heap fun r2 =>
 R (.tuple #[r2, (.int .i64 110)]) w)
 (fad 0 t3 fun t28 =>
 ldN 32 t28 w.heap fun t29 =>
 cal P f_tree_Tree_level [t0, t29] w fun t30 w =>
 ext 0 t30 fun t31 =>
 ext 1 t30 fun t32 =>
 notB t32 fun t34 =>
 jn1 (fun k3 =>
 gif t34 false
 (fad 32 t3 fun t36 =>
 ld1 t36 w.heap fun t37 =>
 bi .lss t37 (.int .i64 1) fun t38 =>
 k3 t38 w)
 (k3 undef w)) fun _ t38_1 w =>
 pik t34 (.bool true) t38_1 fun t39 =>
 jn1 (fun k4 =>
 gif t39 false
 (fad 32 t3 fun t41 =>
 ld1 t41 w.heap fun t42 =>
 bi .sub t42 (.int .i64 1) fun t43 =>
 bi .neq t43 t31 fun t45 =>
 k4 t45 w)
 (k4 undef w)) fun _ t45_1 w =>
 pik t39 (.bool true) t45_1 fun t46 =>
 cnd t46
 (rdP P (Instr.build T_api_ID #[]) w fun t47 =>
 stN 32 t4 t47 w fun w =>
 ldN 32 t4 w.heap fun r5 =>
 R (.tuple #[r5, (.int .i64 31)]) w)
 (drw w fun w =>
 nilc t0 fun t49 =>
 fad 35 t49 fun t50 =>
 ld1 t50 w.heap fun t51 =>
 rdP P (Builtin.len_ #[T_map_api_ID_api_Block] T_int #[t51]) w fun t52 =>
 nilc t0 fun t54 =>
 fad 34 t54 fun t55 =>
 ld1 t55 w.heap fun t56 =>
 bi .geq t52 t56 fun t57 =>
 cnd t57
 (rdP P (Instr.build T_api_ID #[]) w fun t58 =>
 stN 32 t4 t58 w fun w =>
 ldN 32 t4 w.heap fun r6 =>
 R (.tuple #[r6, (.int .i64 6)]) w)
 (drH w fun S w =>
 nilc t0 fun t60 =>
 fad 35 t60 fun t61 =>
 rdS S (fun w => ld1 t61 w.heap) fun t62 =>
 rdS S (fun w => ldN 32 t6 w.heap) fun t63 =>
 rdS S (fun w => ldN 34 t3 w.heap) fun t64 =>
 efS S (cal P f_block_Clone [t64]) w fun t65 w =>
 efC (fun w K => efU P (Instr.mapUpdate T_map_api_ID_api_Block t62 t63 t65) w (K undef)) w fun S _ w =>
 drH w fun S w =>
 nilc t0 fun t68 =>
 fad 36 t68 fun t69 =>
 rdS S (fun w => ld1 t69 w.heap) fun t70 =>
 rdS S (fun w => ldN 32 t6 w.heap) fun t71 =>
 efS S (efP P (Instr.buildSlice T_sl_api_ID 1 #[(0, t71)])) w fun t72 w =>
 efC (efP P (Builtin.append_ #[T_sl_api_ID, T_sl_api_ID] T_sl_api_ID #[t70, t72])) w fun S t73 w =>
 nilc t0 fun t74 =>
 fad 36 t74 fun t75 =>
 efC (fun w K => st1 t75 t73 w (K undef)) w fun S _ w =>
 ldN 32 t6 w.heap fun t76 =>
 stN 32 t4 t76 w fun w =>
 ldN 32 t4 w.heap fun r7 =>
 R (.tuple #[r7, (.int .i64 0)]) w)))))
theorem k_tree_Tree_Add : kO Tryz.f84 A_tree_Tree_Add = true := by kernel_rfl
theorem s_tree_Tree_Add (h : SQ Q (c_tree_Tree_Add t0 t1 w)) : cal P f_tree_Tree_Add [t0, t1] w Q := sO Tryz.func84 rfl (by kernel_rfl) k_tree_Tree_Add (by kernel_rfl) h

/-- flurry/snow.Add -/
def A_snow_Add : An := (An.s (An.r []) (An.s (An.s (An.r []) (An.s (An.r []) (An.s (An.s (An.r []) An.o) An.o))) (An.s (An.b (An.s (An.r []) (An.s (An.s (An.r []) An.o) (An.s (An.r []) (An.s (An.s (An.r []) An.o) An.o))))) (An.s (An.r []) (An.s (An.r []) (An.s (An.r []) An.o))))))
def c_snow_Add (t0 t1 t2 : Value) (w : World) (R : KR) : Prop :=
 bx T_api_Params t0 w fun t3 w =>
 bx T_api_Snow t1 w fun t4 w =>
 bx T_api_ID t2 w fun t5 w =>
 efP P (Instr.alloc T_api_Snow true (.tuple #[])) w fun t6 w =>
 ldN 4 t3 w.heap fun t9 =>
 ldN 67 t4 w.heap fun t10 =>
 cal P f_snow_Check [t9, t10] w fun t11 w =>
 bi .neq t11 (.int .i64 0) fun t13 =>
 cnd t13
 (rdP P (Instr.build T_api_Snow #[]) w fun t14 =>
 stN 67 t6 t14 w fun w =>
 ldN 67 t6 w.heap fun r0 =>
 R (.tuple #[r0, t11]) w)
 (ldN 67 t4 w.heap fun t17 =>
 ldN 32 t5 w.heap fun t18 =>
 cal P f_snow_Has [t17, t18] w fun t19 w =>
 cnd t19
 (rdP P (Instr.build T_api_Snow #[]) w fun t20 =>
 stN 67 t6 t20 w fun w =>
 ldN 67 t6 w.heap fun r1 =>
 R (.tuple #[r1, (.int .i64 110)]) w)
 (fad 0 t4 fun t22 =>
 ld1 t22 w.heap fun t23 =>
 lenS t23 fun t24 =>
 bi .eql t24 (.int .i64 32) fun t25 =>
 cnd t25
 (rdP P (Instr.build T_api_Snow #[]) w fun t26 =>
 stN 67 t6 t26 w fun w =>
 ldN 67 t6 w.heap fun r2 =>
 R (.tuple #[r2, (.int .i64 6)]) w)
 (ldN 67 t4 w.heap fun t27 =>
 cal P f_snow_own [t27] w fun t28 w =>
 stN 67 t4 t28 w fun w =>
 fad 0 t4 fun t29 =>
 ld1 t29 w.heap fun t30 =>
 ldN 32 t5 w.heap fun t31 =>
 rdP P (Instr.build T_api_Choice #[(0, t31)]) w fun t32 =>
 efP P (Instr.buildSlice T_sl_api_Choice 1 #[(0, t32)]) w fun t33 w =>
 efP P (Builtin.append_ #[T_sl_api_Choice, T_sl_api_Choice] T_sl_api_Choice #[t30, t33]) w fun t34 w =>
 fad 0 t4 fun t35 =>
 st1 t35 t34 w fun w =>
 ldN 67 t4 w.heap fun t36 =>
 stN 67 t6 t36 w fun w =>
 ldN 67 t6 w.heap fun r3 =>
 R (.tuple #[r3, (.int .i64 0)]) w)))
theorem k_snow_Add : kO Tryz.f85 A_snow_Add = true := by kernel_rfl
theorem s_snow_Add (h : SQ Q (c_snow_Add t0 t1 t2 w)) : cal P f_snow_Add [t0, t1, t2] w Q := sO Tryz.func85 rfl (by kernel_rfl) k_snow_Add (by kernel_rfl) h

/-- flurry/snow.New -/
def A_snow_New : An := (An.s (An.r []) (An.s (An.s (An.r []) (An.s (An.r []) (An.s (An.s (An.r []) An.o) An.o))) (An.s (An.r []) An.o)))
def c_snow_New (t0 t1 : Value) (w : World) (R : KR) : Prop :=
 bx T_api_Params t0 w fun t2 w =>
 bx T_api_ID t1 w fun t3 w =>
 efP P (Instr.alloc T_api_Snow true (.tuple #[])) w fun t4 w =>
 ldN 4 t2 w.heap fun t7 =>
 cal P f_snow_Params [t7] w fun t8 w =>
 bi .neq t8 (.int .i64 0) fun t10 =>
 cnd t10
 (rdP P (Instr.build T_api_Snow #[]) w fun t11 =>
 stN 67 t4 t11 w fun w =>
 ldN 67 t4 w.heap fun r0 =>
 R (.tuple #[r0, t8]) w)
 (ldN 32 t3 w.heap fun t13 =>
 rdP P (Instr.build T_api_Choice #[(0, t13)]) w fun t14 =>
 efP P (Instr.buildSlice T_sl_api_Choice 1 #[(0, t14)]) w fun t15 w =>
 ldN 32 t3 w.heap fun t16 =>
 ldN 32 t3 w.heap fun t17 =>
 rdP P (Instr.build T_api_Snow #[(0, t15), (1, t16), (2, t17)]) w fun t18 =>
 stN 67 t4 t18 w fun w =>
 ldN 67 t4 w.heap fun r1 =>
 R (.tuple #[r1, (.int .i64 0)]) w)
theorem k_snow_New : kO Tryz.f86 A_snow_New = true := by kernel_rfl
theorem s_snow_New (h : SQ Q (c_snow_New t0 t1 w)) : cal P f_snow_New [t0, t1] w Q := sO Tryz.func86 rfl (by kernel_rfl) k_snow_New (by kernel_rfl) h

/-- flurry/bag.Total -/
def A_bag_Total : An := (An.s (An.r []) (An.s (An.r []) (An.s (An.s (An.r []) (An.b (An.l [3, 9] (An.s (An.r []) (An.s (An.s An.o An.o) (An.s (An.b (An.s (An.r []) (An.r []))) (An.r []))))))) (An.s (An.r []) An.o))))
def c_bag_Total (t0 : Value) (w : World) (R : KR) : Prop :=
 cal P f_bag_good [t0] w fun t7 w =>
 lenS t7 fun t8 =>
 lp2 (.int .i64 0) (.int .i64 0) w fun _ t3 t9 w again0 =>
 bi .lss t9 t8 fun t10 =>
 cnd t10
 (ixs 33 t7 t9 fun t11 =>
 ldN 33 t11 w.heap fun t12 =>
 efP P (Instr.alloc T_api_Vote true (.tuple #[])) w fun t5 w =>
 stN 33 t5 t12 w fun w =>
 fad 32 t5 fun t14 =>
 ld1 t14 w.heap fun t15 =>
 bi .add t3 t15 fun t16 =>
 bi .add t9 (.int .i64 1) fun t17 =>
 again0 t16 t17 w)
 (R t3 w)
theorem k_bag_Total : kO Tryz.f87 A_bag_Total = true := by kernel_rfl
theorem s_bag_Total (h : SQ Q (c_bag_Total t0 w)) : cal P f_bag_Total [t0] w Q := sO Tryz.func87 rfl (by kernel_rfl) k_bag_Total (by kernel_rfl) h

/-- (*flurry/topo.Topo).best -/
def A_topo_Topo_best : AnY := (AnY.s (AnY.c (An.r [])) (AnY.s (AnY.c (An.r [])) (AnY.s (AnY.c (An.r [])) (AnY.s (AnY.s (AnY.c (An.dc [0, 1, 2, 3, 4, 5] [5] [])) (AnY.b (AnY.f (AnY.c (An.r [])) (AnY.b (AnY.s (AnY.c (An.r [])) (AnY.s (AnY.c (An.r [[29], [31], [33], [36], [37]])) (AnY.s (AnY.c (An.r [])) AnY.o))))))) (AnY.s (AnY.c (An.d [0, 1, 2, 3] [])) AnY.o)))))
def c_topo_Topo_best (t0 t1 t2 : Value) (w : World) (R : KR) : Prop :=
 bx T_map_api_ID_int t1 w fun t4 w =>
 bx T_api_ID t2 w fun t5 w =>
 efP P (Instr.alloc T_api_ID true (.tuple #[])) w fun t6 w =>
 efP P (Instr.alloc T_api_ID true (.tuple #[])) w fun t8 w =>
 efP P (Instr.alloc T_int true (.tuple #[])) w fun t9 w =>
 st1 t9 (.int .i64 0) w fun w =>
 drH w fun S w =>
 nilc t0 fun t13 =>
 fad 0 t13 fun t14 =>
 rdS S (fun w => ld1 t14 w.heap) fun t15 =>
 rdS S (fun w => ldN 32 t5 w.heap) fun t16 =>
 efC (cal P f_tree_Tree_Kids [t15, t16]) w fun S t17 w =>
 rng P t17 1 w (fun args0 w beg0 fin0 =>
 efP P (Instr.alloc T_api_ID true (.tuple #[])) w fun t10 w =>
 stN 32 t10 (args0.getD 0 undef) w fun w =>
 beg0 w fun w =>
 ld1 t4 w.heap fun t19 =>
 ldN 32 t10 w.heap fun t20 =>
 rdP P (Instr.lookup T_map_api_ID_int t19 t20 false) w fun t21 =>
 ld1 t9 w.heap fun t23 =>
 bi .gtr t21 t23 fun t24 =>
 jn1 (fun k1 =>
 gif t24 false
 (ld1 t9 w.heap fun t27 =>
 bi .eql t21 t27 fun t28 =>
 k1 t28 w)
 (k1 undef w)) fun _ t29 w =>
 jn1 (fun k2 =>
 gif t29 true
 (ld1 t9 w.heap fun t30 =>
 bi .gtr t30 (.int .i64 0) fun t31 =>
 k2 t31 w)
 (k2 undef w)) fun _ t31_1 w =>
 jn1 (fun k3 =>
 gif t24 false
 (pik t29 t31_1 (.bool false) fun t32 =>
 k3 t32 w)
 (k3 undef w)) fun _ t33 w =>
 jn1 (fun k4 =>
 gif t33 true
 (ldN 32 t10 w.heap fun t34 =>
 ldN 32 t8 w.heap fun t35 =>
 cal P f_bag_Less [t34, t35] w fun t36 w =>
 k4 t36 w)
 (k4 undef w)) fun _ t36_1 w =>
 jn1 (fun k5 =>
 gif t24 false
 (pik t33 t36_1 (.bool false) fun t37 =>
 k5 t37 w)
 (k5 undef w)) fun _ t37_1 w =>
 pik t24 (.bool true) t37_1 fun t38 =>
 cnd t38
 (ldN 32 t10 w.heap fun t39 =>
 stN 32 t8 t39 w fun w =>
 st1 t9 t21 w fun w =>
 fin0 none w)
 (fin0 none w)) fun D0 => [(none, fun w =>
 drH w fun S w =>
 rdS S (fun w => ldN 32 t8 w.heap) fun t41 =>
 rdS S (fun w => ld1 t9 w.heap) fun t42 =>
 efS S (fun w K => stN 32 t6 t41 w (K undef)) w fun _ w =>
 takeD [D0] w fun w =>
 ldN 32 t6 w.heap fun r6 =>
 R (.tuple #[r6, t42]) w)]
theorem k_topo_Topo_best : kOY Tryz.f88 A_topo_Topo_best = true := by kernel_rfl
theorem s_topo_Topo_best (h : SQ Q (c_topo_Topo_best t0 t1 t2 w)) : cal P f_topo_Topo_best [t0, t1, t2] w Q := sOY Tryz.func88 rfl (by kernel_rfl) k_topo_Topo_best (by kernel_rfl) h

/-- flurry/snow.Poll -/
def A_snow_Poll : An := (An.s (An.r []) (An.s (An.s (An.r []) (An.s (An.r []) (An.s (An.s (An.r []) An.o) An.o))) (An.s (An.s (An.r [[27]]) (An.s (An.s (An.r []) An.o) An.o)) (An.s (An.r []) (An.s (An.s (An.r []) (An.s (An.s (An.r []) An.o) An.o)) (An.s (An.r []) (An.s (An.s (An.r []) (An.s (An.s (An.r []) An.o) An.o)) (An.s (An.r []) (An.s (An.s (An.r []) (An.b (An.s (An.j [12] (An.b (An.s (An.j [12] (An.b (An.s (An.b (An.s (An.s (An.s (An.r []) (An.s An.o An.o)) (An.s (An.r []) (An.s An.o An.o))) An.o)) (An.s (An.r []) (An.s (An.r []) (An.s (An.r []) An.o)))))) (An.s (An.r []) (An.s (An.r []) (An.s (An.j [] (An.s (An.d [0, 1, 2, 3, 4, 5, 6, 7, 8, 9, 10, 11, 12, 13] []) (An.s (An.r []) An.o))) (An.r []))))))) (An.s (An.s (An.r []) (An.r [])) An.o)))) (An.s (An.r []) An.o))))))))))
def c_snow_Poll (t0 t1 t2 t3 : Value) (w : World) (R : KR) : Prop :=
 bx T_api_Params t0 w fun t4 w =>
 bx T_api_Snow t1 w fun t5 w =>
 bx T_api_ID t2 w fun t6 w =>
 efP P (Instr.alloc T_api_Snow true (.tuple #[])) w fun t8 w =>
 ldN 4 t4 w.heap fun t14 =>
 ldN 67 t5 w.heap fun t15 =>
 cal P f_snow_Check [t14, t15] w fun t16 w =>
 bi .neq t16 (.int .i64 0) fun t18 =>
 cnd t18
 (rdP P (Instr.build T_api_Snow #[]) w fun t19 =>
 stN 67 t8 t19 w fun w =>
 ldN 67 t8 w.heap fun r0 =>
 R (.tuple #[r0, t16]) w)
 (bi .lss t3 (.int .i64 0) fun t22 =>
 jn1 (fun k1 =>
 gif t22 false
 (fad 0 t4 fun t25 =>
 ld1 t25 w.heap fun t26 =>
 bi .gtr t3 t26 fun t27 =>
 k1 t27 w)
 (k1 undef w)) fun _ t27_1 w =>
 pik t22 (.bool true) t27_1 fun t28 =>
 cnd t28
 (rdP P (Instr.build T_api_Snow #[]) w fun t29 =>
 stN 67 t8 t29 w fun w =>
 ldN 67 t8 w.heap fun r2 =>
 R (.tuple #[r2, (.int .i64 1)]) w)
 (ldN 67 t5 w.heap fun t30 =>
 ldN 32 t6 w.heap fun t31 =>
 cal P f_snow_place [t30, t31] w fun t32 w =>
 bi .lss t32 (.int .i64 0) fun t34 =>
 cnd t34
 (rdP P (Instr.build T_api_Snow #[]) w fun t35 =>
 stN 67 t8 t35 w fun w =>
 ldN 67 t8 w.heap fun r3 =>
 R (.tuple #[r3, (.int .i64 4)]) w)
 (ldN 67 t5 w.heap fun t36 =>
 cal P f_snow_own [t36] w fun t37 w =>
 stN 67 t5 t37 w fun w =>
 fad 66 t5 fun t38 =>
 ld1 t38 w.heap fun t39 =>
 cnd t39
 (ldN 67 t5 w.heap fun t40 =>
 stN 67 t8 t40 w fun w =>
 ldN 67 t8 w.heap fun r4 =>
 R (.tuple #[r4, (.int .i64 0)]) w)
 (ldN 4 t4 w.heap fun t41 =>
 cal P f_snow_reach [t41, t3] w fun t43 w =>
 jn1 (fun k5 =>
 jn1 (fun k6 =>
 bi .eql t43 (.int .i64 2) fun t45 =>
 cnd t45
 (ldN 32 t6 w.heap fun t48 =>
 fad 33 t5 fun t49 =>
 ldN 32 t49 w.heap fun t50 =>
 rdP P (eqS .eql T_api_ID (Operand.tmp 48) (Operand.tmp 50) t48 t50) w fun t51 =>
 cnd t51
 (fad 65 t5 fun t52 =>
 ld1 t52 w.heap fun t53 =>
 bi .add t53 (.int .i64 1) fun t54 =>
 k6 t54 w)
 (k6 (.int .i64 1) w))
 (bi .eql t43 (.int .i64 1) fun t47 =>
 cnd t47
 (k6 (.int .i64 0) w)
 (k5 (.int .i64 0) w))) fun _ t12 w =>
 fad 0 t5 fun t55 =>
 ld1 t55 w.heap fun t56 =>
 ixs 33 t56 t32 fun t58 =>
 nilc t58 fun t61 =>
 fad 32 t61 fun t62 =>
 ld1 t62 w.heap fun t63 =>
 bi .add t63 (.int .i64 1) fun t64 =>
 rdP P (Builtin.min_ #[T_int, T_int] T_int #[t64, (.int .i64 1073741824)]) w fun t65 =>
 nilc t58 fun t66 =>
 fad 32 t66 fun t67 =>
 st1 t67 t65 w fun w =>
 jn0 (fun k7 =>
 drH w fun S w =>
 nilc t58 fun t69 =>
 fad 32 t69 fun t70 =>
 rdS S (fun w => ld1 t70 w.heap) fun t71 =>
 fad 0 t5 fun t72 =>
 rdS S (fun w => ld1 t72 w.heap) fun t73 =>
 rdS S (fun w => ldN 67 t5 w.heap) fun t74 =>
 fad 1 t5 fun t75 =>
 rdS S (fun w => ldN 32 t75 w.heap) fun t76 =>
 efS S (cal P f_snow_place [t74, t76]) w fun t77 w =>
 ixs 33 t73 t77 fun t78 =>
 fad 32 t78 fun t79 =>
 rdS S (fun w => ld1 t79 w.heap) fun t80 =>
 bi .gtr t71 t80 fun t81 =>
 cnd t81
 (ldN 32 t6 w.heap fun t82 =>
 fad 1 t5 fun t83 =>
 stN 32 t83 t82 w fun w =>
 k7 w)
 (k7 w)) fun _ w =>
 ldN 32 t6 w.heap fun t84 =>
 fad 33 t5 fun t85 =>
 stN 32 t85 t84 w fun w =>
 k5 t12 w) fun _ t12_1 w =>
 fad 65 t5 fun t87 =>
 st1 t87 t12_1 w fun w =>
 fad 3 t4 fun t89 =>
 ld1 t89 w.heap fun t90 =>
 bi .eql t12_1 t90 fun t91 =>
 fad 66 t5 fun t92 =>
 st1 t92 t91 w fun w =>
 ldN 67 t5 w.heap fun t93 =>
 stN 67 t8 t93 w fun w =>
 ldN 67 t8 w.heap fun r8 =>
 R (.tuple #[r8, (.int .i64 0)]) w))))
theorem k_snow_Poll : kO Tryz.f89 A_snow_Poll = true := by kernel_rfl
theorem s_snow_Poll (h : SQ Q (c_snow_Poll t0 t1 t2 t3 w)) : cal P f_snow_Poll [t0, t1, t2, t3] w Q := sO Tryz.func89 rfl (by kernel_rfl) k_snow_Poll (by kernel_rfl) h

/-- (*flurry/topo.Topo).fails -/
def A_topo_Topo_fails : An := (An.s (An.r []) (An.s (An.s (An.r []) (An.b (An.l [] (An.s (An.r []) (An.s (An.s An.o An.o) (An.b (An.s (An.r []) (An.s (An.s (An.dc [0, 1, 2, 3, 4, 5, 6] [5] []) (An.s An.o An.o)) (An.s (An.j [] (An.s (An.r []) (An.s (An.s (An.dt (Pl.step 0 (Pl.step 1 (Pl.step 2 (Pl.step 3 (Pl.step 4 (Pl.br (Pl.alt 5 (Pl.step 6 (Pl.step 7 (Pl.step 8 (Pl.step 9 (Pl.step 10 (Pl.step 11 Pl.nil)))))) (Pl.alt 9 (Pl.step 5 (Pl.step 6 (Pl.step 7 (Pl.step 8 (Pl.step 10 (Pl.step 11 Pl.nil)))))) Pl.non)))))))) [5, 10] [7, 8]) (An.s (An.r []) (An.s (An.r []) An.o))) An.o))) (An.r [])))))))))) (An.r [])))
def c_topo_Topo_fails (t0 t1 : Value) (w : World) (R : KR) : Prop :=
 efP P (Instr.makeMap T_map_api_ID_api_Snow none) w fun t9 w =>
 nilc t0 fun t11 =>
 fad 5 t11 fun t12 =>
 ld1 t12 w.heap fun t13 =>
 efP P (Instr.range T_map_api_ID_api_Snow t13) w fun t14 w =>
 lp0 w fun _ w again0 =>
 efP P (Instr.next t14 false T_) w fun t15 w =>
 ext 0 t15 fun t16 =>
 cnd t16
 (rdP P (Instr.entry t14) w fun t17 =>
 ext 0 t17 fun t18 =>
 ext 1 t17 fun t19 =>
 efP P (Instr.alloc T_api_ID true (.tuple #[])) w fun t5 w =>
 efP P (Instr.alloc T_api_Snow true (.tuple #[])) w fun t6 w =>
 stN 32 t5 t18 w fun w =>
 stN 67 t6 t19 w fun w =>
 drH w fun S w =>
 nilc t0 fun t21 =>
 fad 0 t21 fun t22 =>
 rdS S (fun w => ld1 t22 w.heap) fun t23 =>
 rdS S (fun w => ldN 32 t5 w.heap) fun t24 =>
 efC (cal P f_tree_Tree_Has [t23, t24]) w fun S t25 w =>
 notB t25 fun t26 =>
 cnd t26
 (again0 w)
 (jn0 (fun k1 =>
 ldN 32 t5 w.heap fun t28 =>
 rdP P (Instr.lookup T_map_api_ID_bool t1 t28 false) w fun t29 =>
 notB t29 fun t30 =>
 cnd t30
 (drH w fun S w =>
 jn2 (fun k2 =>
 nilc t0 fun t33 =>
 fad 1 t33 fun t34 =>
 rdS S (fun w => ldN 4 t34 w.heap) fun t35 =>
 rdS S (fun w => ldN 67 t6 w.heap) fun t36 =>
 (efC (cal P f_snow_Fail [t35, t36]) w fun S t37_1 w =>
 ext 0 t37_1 fun t38_1 =>
 ext 1 t37_1 fun t39_1 =>
 efS S (efP P (Instr.alloc T_api_Snow true (.tuple #[]))) w fun t7_1 w =>
 efC (fun w K => stN 67 t7_1 t38_1 w (K undef)) w fun S _ w =>
 k2 t7_1 t39_1 w) ∧
 ((efS S (efP P (Instr.alloc T_api_Snow true (.tuple #[]))) w fun t7 w =>
 efC (cal P f_snow_Fail [t35, t36]) w fun S t37 w =>
 ext 0 t37 fun t38 =>
 ext 1 t37 fun t39 =>
 efC (fun w K => stN 67 t7 t38 w (K undef)) w fun S _ w =>
 k2 t7 t39 w) ∧
 (True))) fun _ t7_2 t8 w =>
 bi .eql t8 (.int .i64 0) fun t41 =>
 cnd t41
 (ldN 67 t7_2 w.heap fun t42 =>
 stN 67 t6 t42 w fun w =>
 k1 w)
 (k1 w))
 (k1 w)) fun _ w =>
 ldN 32 t5 w.heap fun t44 =>
 ldN 67 t6 w.heap fun t45 =>
 efU P (Instr.mapUpdate T_map_api_ID_api_Snow t9 t44 t45) w fun w =>
 again0 w))
 (nilc t0 fun t48 =>
 fad 5 t48 fun t49 =>
 st1 t49 t9 w fun w =>
 R (.tuple #[]) w)
theorem k_topo_Topo_fails : kO Tryz.f90 A_topo_Topo_fails = true := by kernel_rfl
theorem s_topo_Topo_fails (h : SQ Q (c_topo_Topo_fails t0 t1 w)) : cal P f_topo_Topo_fails [t0, t1] w Q := sO Tryz.func90 rfl (by kernel_rfl) k_topo_Topo_fails (by kernel_rfl) h

/-- flurry/block.Clone -/
def A_block_Clone : An := (An.s (An.r []) (An.s (An.r []) (An.s (An.r []) An.o)))
def c_block_Clone (t0 : Value) (w : World) (R : KR) : Prop :=
 bx T_api_Block t0 w fun t1 w =>
 efP P (Instr.alloc T_api_Block true (.tuple #[])) w fun t2 w =>
 fad 33 t1 fun t3 =>
 ld1 t3 w.heap fun t4 =>
 cal P f_bytes_Clone [t4] w fun t5 w =>
 fad 33 t1 fun t6 =>
 st1 t6 t5 w fun w =>
 ldN 34 t1 w.heap fun t7 =>
 stN 34 t2 t7 w fun w =>
 ldN 34 t2 w.heap fun r0 =>
 R r0 w
theorem k_block_Clone : kO Tryz.f91 A_block_Clone = true := by kernel_rfl
theorem s_block_Clone (h : SQ Q (c_block_Clone t0 w)) : cal P f_block_Clone [t0] w Q := sO Tryz.func91 rfl (by kernel_rfl) k_block_Clone (by kernel_rfl) h

/-- flurry/bag.Less -/
def A_bag_Less : An := (An.s (An.r []) (An.s (An.r []) An.o))
def c_bag_Less (t0 t1 : Value) (w : World) (R : KR) : Prop :=
 bx T_api_ID t0 w fun t2 w =>
 bx T_api_ID t1 w fun t3 w =>
 ldN 32 t2 w.heap fun t5 =>
 ldN 32 t3 w.heap fun t6 =>
 cal P f_bag_compare [t5, t6] w fun t7 w =>
 bi .lss t7 (.int .i64 0) fun t8 =>
 R t8 w
theorem k_bag_Less : kO Tryz.f92 A_bag_Less = true := by kernel_rfl
theorem s_bag_Less (h : SQ Q (c_bag_Less t0 t1 w)) : cal P f_bag_Less [t0, t1] w Q := sO Tryz.func92 rfl (by kernel_rfl) k_bag_Less (by kernel_rfl) h

/-- (*flurry/topo.Topo).counts$1 -/
def A_topo_Topo_counts_1 : AnY := (AnY.s (AnY.c (An.r [])) (AnY.s (AnY.c (An.r [])) (AnY.s (AnY.s (AnY.c (An.dc [0, 1, 2, 3, 4, 5] [5] [])) (AnY.b (AnY.f (AnY.c (An.r [])) (AnY.b (AnY.c (An.dc [0, 1, 2, 3, 4, 5] [5] [])))))) (AnY.s (AnY.c (An.r [])) (AnY.s (AnY.c (An.r [])) AnY.o)))))
def c_topo_Topo_counts_1 (t0 t1 t2 t3 t4 : Value) (w : World) (R : KR) : Prop :=
 bx T_api_ID t0 w fun t5 w =>
 ld1 t1 w.heap fun t9 =>
 ldN 32 t5 w.heap fun t10 =>
 cal P f_bag_Count [t9, t10] w fun t11 w =>
 efP P (Instr.alloc T_int true (.tuple #[])) w fun t7 w =>
 st1 t7 t11 w fun w =>
 drH w fun S w =>
 rdS S (fun w => ld1 t2 w.heap) fun t12 =>
 nilc t12 fun t13 =>
 fad 0 t13 fun t14 =>
 rdS S (fun w => ld1 t14 w.heap) fun t15 =>
 rdS S (fun w => ldN 32 t5 w.heap) fun t16 =>
 efC (cal P f_tree_Tree_Kids [t15, t16]) w fun S t17 w =>
 rng P t17 1 w (fun args0 w beg0 fin0 =>
 efP P (Instr.alloc T_api_ID true (.tuple #[])) w fun t8 w =>
 stN 32 t8 (args0.getD 0 undef) w fun w =>
 beg0 w fun w =>
 drH w fun S w =>
 rdS S (fun w => ld1 t7 w.heap) fun t19 =>
 rdS S (fun w => ld1 t3 w.heap) fun t20 =>
 rdS S (fun w => ldN 32 t8 w.heap) fun t21 =>
 efS S (calV P t20 [t21]) w fun t22 w =>
 bi .add t19 t22 fun t23 =>
 efC (fun w K => st1 t7 t23 w (K undef)) w fun S _ w =>
 fin0 none w) fun D0 => [(none, fun w =>
 ld1 t4 w.heap fun t24 =>
 ldN 32 t5 w.heap fun t25 =>
 ld1 t7 w.heap fun t26 =>
 efU P (Instr.mapUpdate T_map_api_ID_int t24 t25 t26) w fun w =>
 ld1 t7 w.heap fun t27 =>
 takeD [D0] w fun w =>
 R t27 w)]
theorem k_topo_Topo_counts_1 : kOY Tryz.f93 A_topo_Topo_counts_1 = true := by kernel_rfl
theorem s_topo_Topo_counts_1 (h : SQ Q (c_topo_Topo_counts_1 t0 t1 t2 t3 t4 w)) : cal P f_topo_Topo_counts_1 [t0, t1, t2, t3, t4] w Q := sOY Tryz.func93 rfl (by kernel_rfl) k_topo_Topo_counts_1 (by kernel_rfl) h

/-- flurry/bag.Count -/
def A_bag_Count : An := (An.s (An.r []) (An.s (An.s (An.r []) (An.b (An.l [10] (An.s (An.r []) (An.s (An.s An.o An.o) (An.s (An.b (An.s (An.r []) (An.s (An.r []) (An.s (An.s (An.r []) An.o) An.o)))) (An.r []))))))) (An.s (An.r []) An.o)))
def c_bag_Count (t0 t1 : Value) (w : World) (R : KR) : Prop :=
 bx T_api_ID t1 w fun t3 w =>
 cal P f_bag_good [t0] w fun t8 w =>
 lenS t8 fun t9 =>
 lp1 (.int .i64 0) w fun _ t10 w again0 =>
 bi .lss t10 t9 fun t11 =>
 cnd t11
 (ixs 33 t8 t10 fun t12 =>
 ldN 33 t12 w.heap fun t13 =>
 efP P (Instr.alloc T_api_Vote true (.tuple #[])) w fun t6 w =>
 stN 33 t6 t13 w fun w =>
 fad 0 t6 fun t14 =>
 ldN 32 t14 w.heap fun t15 =>
 ldN 32 t3 w.heap fun t16 =>
 rdP P (eqS .eql T_api_ID (Operand.tmp 15) (Operand.tmp 16) t15 t16) w fun t17 =>
 cnd t17
 (fad 32 t6 fun t18 =>
 ld1 t18 w.heap fun t19 =>
 R t19 w)
 (bi .add t10 (.int .i64 1) fun t20 =>
 again0 t20 w))
 (R (.int .i64 0) w)
theorem k_bag_Count : kO Tryz.f94 A_bag_Count = true := by kernel_rfl
theorem s_bag_Count (h : SQ Q (c_bag_Count t0 t1 w)) : cal P f_bag_Count [t0, t1] w Q := sO Tryz.func94 rfl (by kernel_rfl) k_bag_Count (by kernel_rfl) h

/-- flurry/flurryref07.Check -/
def A_ref07_Check : An := (An.s (An.r []) (An.s (An.r []) (An.s (An.s (An.r []) (An.b (An.l [3, 4] (An.s (An.s (An.r []) (An.s An.o An.o)) (An.s (An.b (An.s (An.s (An.d [0, 1, 2, 3, 4, 5, 6, 7, 8, 9, 10, 11, 12, 13, 14, 15, 16, 17, 18, 19, 20, 21, 22, 23, 24, 25, 26, 27, 28, 29, 30, 31, 32, 33] [[24], [29], [42], [43]]) (An.s (An.s (An.r []) An.o) An.o)) (An.r []))) (An.r [])))))) (An.s (An.r []) An.o))))
def c_ref07_Check (t0 : Value) (w : World) (R : KR) : Prop :=
 lp2 (.int .i64 1048576) (.int .i64 0) w fun _ t3 t4 w again0 =>
 lenS t0 fun t7 =>
 bi .lss t4 t7 fun t8 =>
 cnd t8
 (drH w fun S w =>
 ixs 33 t0 t4 fun t13 =>
 fad 32 t13 fun t14 =>
 rdS S (fun w => ld1 t14 w.heap) fun t15 =>
 bi .lss t15 (.int .i64 1) fun t16 =>
 jn1 (fun k1 =>
 gif t16 false
 (ixs 33 t0 t4 fun t20 =>
 fad 32 t20 fun t21 =>
 rdS S (fun w => ld1 t21 w.heap) fun t22 =>
 bi .gtr t22 t3 fun t24 =>
 k1 t24 w)
 (k1 undef w)) fun _ t24_1 w =>
 pik t16 (.bool true) t24_1 fun t25 =>
 jn1 (fun k2 =>
 gif t25 false
 (bi .gtr t4 (.int .i64 0) fun t28 =>
 k2 t28 w)
 (k2 undef w)) fun _ t29 w =>
 jn1 (fun k3 =>
 gif t29 true
 (bi .sub t4 (.int .i64 1) fun t32 =>
 ixs 33 t0 t32 fun t33 =>
 fad 0 t33 fun t34 =>
 rdS S (fun w => ldN 32 t34 w.heap) fun t35 =>
 ixs 33 t0 t4 fun t38 =>
 fad 0 t38 fun t39 =>
 rdS S (fun w => ldN 32 t39 w.heap) fun t40 =>
 efS S (cal P f_ref07_Less [t35, t40]) w fun t41 w =>
 notB t41 fun t42 =>
 k3 t42 w)
 (k3 undef w)) fun _ t42_1 w =>
 jn1 (fun k4 =>
 gif t25 false
 (pik t29 t42_1 (.bool false) fun t43 =>
 k4 t43 w)
 (k4 undef w)) fun _ t43_1 w =>
 pik t25 (.bool true) t43_1 fun t44 =>
 cnd t44
 (R (.int .i64 70) w)
 (ixs 33 t0 t4 fun t48 =>
 fad 32 t48 fun t49 =>
 ld1 t49 w.heap fun t50 =>
 bi .sub t3 t50 fun t51 =>
 bi .add t4 (.int .i64 1) fun t10 =>
 again0 t51 t10 w))
 (R (.int .i64 0) w)
theorem k_ref07_Check : kO Tryz.f95 A_ref07_Check = true := by kernel_rfl
theorem s_ref07_Check (h : SQ Q (c_ref07_Check t0 w)) : cal P f_ref07_Check [t0] w Q := sO Tryz.func95 rfl (by kernel_rfl) k_ref07_Check (by kernel_rfl) h

/-- flurry/flurryref07.Total -/
def A_ref07_Total : An := (An.s (An.r []) (An.s (An.r []) (An.s (An.s (An.r []) (An.b (An.l [3, 4] (An.s (An.s (An.r [[12]]) (An.s An.o An.o)) (An.s (An.b (An.r [])) (An.r [])))))) (An.s (An.r []) An.o))))
def c_ref07_Total (t0 : Value) (w : World) (R : KR) : Prop :=
 lp2 (.int .i64 0) (.int .i64 0) w fun _ t3 t4 w again0 =>
 lenS t0 fun t7 =>
 bi .lss t4 t7 fun t8 =>
 jn1 (fun k1 =>
 gif t8 true
 (cal P f_ref07_Check [t0] w fun t11 w =>
 bi .eql t11 (.int .i64 0) fun t12 =>
 k1 t12 w)
 (k1 undef w)) fun _ t12_1 w =>
 pik t8 t12_1 (.bool false) fun t13 =>
 cnd t13
 (ixs 33 t0 t4 fun t19 =>
 fad 32 t19 fun t20 =>
 ld1 t20 w.heap fun t21 =>
 bi .add t3 t21 fun t22 =>
 bi .add t4 (.int .i64 1) fun t15 =>
 again0 t22 t15 w)
 (R t3 w)
theorem k_ref07_Total : kO Tryz.f96 A_ref07_Total = true := by kernel_rfl
theorem s_ref07_Total (h : SQ Q (c_ref07_Total t0 w)) : cal P f_ref07_Total [t0] w Q := sO Tryz.func96 rfl (by kernel_rfl) k_ref07_Total (by kernel_rfl) h

/-- flurry/flurryref07.put -/
def A_ref07_put : An := (An.s (An.r []) (An.s (An.r []) (An.s (An.s (An.r []) (An.s (An.s (An.r []) An.o) An.o)) (An.s (An.r []) (An.s (An.b (An.l [8] (An.s (An.s (An.d [0, 1, 2, 3, 4, 5, 6, 7, 8, 9, 10, 11, 12] [[25]]) (An.s An.o An.o)) (An.b (An.r []))))) (An.s (An.r []) (An.s (An.j [2, 8] (An.s (An.r [[45]]) (An.s (An.s (An.r []) (An.r [])) An.o))) (An.s (An.dc [0, 1, 2, 3, 6, 7, 8, 4, 5, 9, 10] [4, 5, 9] []) An.o))))))))
def c_ref07_put (t0 t1 t2 : Value) (w : World) (R : KR) : Prop :=
 bx T_api_ID t1 w fun t4 w =>
 bi .eql t2 (.int .i64 0) fun t10 =>
 cnd t10
 (efP P (Builtin.append_ #[T_sl_api_Vote, T_sl_api_Vote] T_sl_api_Vote #[(.slice none 0 0), t0]) w fun t13 w =>
 R t13 w)
 (lp1 (.int .i64 0) w fun _ t8 w again0 =>
 drH w fun S w =>
 lenS t0 fun t16 =>
 bi .lss t8 t16 fun t17 =>
 jn1 (fun k1 =>
 gif t17 true
 (ixs 33 t0 t8 fun t21 =>
 fad 0 t21 fun t22 =>
 rdS S (fun w => ldN 32 t22 w.heap) fun t23 =>
 rdS S (fun w => ldN 32 t4 w.heap) fun t24 =>
 efS S (cal P f_ref07_Less [t23, t24]) w fun t25 w =>
 k1 t25 w)
 (k1 undef w)) fun _ t25_1 w =>
 pik t17 t25_1 (.bool false) fun t26 =>
 cnd t26
 (bi .add t8 (.int .i64 1) fun t28 =>
 again0 t28 w)
 (slc 33 t0 none (some t8) fun t32 =>
 efP P (Builtin.append_ #[T_sl_api_Vote, T_sl_api_Vote] T_sl_api_Vote #[(.slice none 0 0), t32]) w fun t33 w =>
 jn2 (fun k2 =>
 drw w fun w =>
 lenS t0 fun t36 =>
 bi .lss t8 t36 fun t37 =>
 jn1 (fun k3 =>
 gif t37 true
 (ixs 33 t0 t8 fun t41 =>
 fad 0 t41 fun t42 =>
 ldN 32 t42 w.heap fun t43 =>
 ldN 32 t4 w.heap fun t44 =>
 rdP P (eqS .eql T_api_ID (Operand.tmp 43) (Operand.tmp 44) t43 t44) w fun t45 =>
 k3 t45 w)
 (k3 undef w)) fun _ t45_1 w =>
 pik t37 t45_1 (.bool false) fun t46 =>
 cnd t46
 (ixs 33 t0 t8 fun t50 =>
 fad 32 t50 fun t51 =>
 ld1 t51 w.heap fun t52 =>
 bi .add t2 t52 fun t53 =>
 bi .add t8 (.int .i64 1) fun t55 =>
 k2 t53 t55 w)
 (k2 t2 t8 w)) fun _ t2_1 t8_1 w =>
 drH w fun S w =>
 rdS S (fun w => ldN 32 t4 w.heap) fun t57 =>
 rdS S (rdP P (Instr.build T_api_Vote #[(0, t57), (1, t2_1)])) fun t59 =>
 slc 33 t0 (some t8_1) none fun t64 =>
 efC (efP P (Instr.buildSlice T_sl_api_Vote 1 #[(0, t59)])) w fun S t60 w =>
 efC (efP P (Builtin.append_ #[T_sl_api_Vote, T_sl_api_Vote] T_sl_api_Vote #[t33, t60])) w fun S t61 w =>
 efC (efP P (Builtin.append_ #[T_sl_api_Vote, T_sl_api_Vote] T_sl_api_Vote #[t61, t64])) w fun S t65 w =>
 R t65 w))
theorem k_ref07_put : kO Tryz.f97 A_ref07_put = true := by kernel_rfl
theorem s_ref07_put (h : SQ Q (c_ref07_put t0 t1 t2 w)) : cal P f_ref07_put [t0, t1, t2] w Q := sO Tryz.func97 rfl (by kernel_rfl) k_ref07_put (by kernel_rfl) h

/-- flurry/tree.told -/
def A_tree_told : An := (An.s (An.r []) (An.s (An.r []) An.o))
def c_tree_told (t0 : Value) (w : World) (R : KR) : Prop :=
 bx T_sl_api_ID t0 w fun t1 w =>
 R (.func (Fn.func f_tree_told_1) #[] #[t1]) w
theorem k_tree_told : kO Tryz.f98 A_tree_told = true := by kernel_rfl
theorem s_tree_told (h : SQ Q (c_tree_told t0 w)) : cal P f_tree_told [t0] w Q := sO Tryz.func98 rfl (by kernel_rfl) k_tree_told (by kernel_rfl) h

/-- (*flurry/tree.Tree).Kids$1 -/
def A_tree_Tree_Kids_1 : An := (An.s (An.r []) (An.s (An.r []) An.o))
def c_tree_Tree_Kids_1 (t0 t1 t2 : Value) (w : World) (R : KR) : Prop :=
 bx T_api_ID t0 w fun t3 w =>
 drw w fun w =>
 ld1 t1 w.heap fun t5 =>
 nilc t5 fun t6 =>
 fad 35 t6 fun t7 =>
 ld1 t7 w.heap fun t8 =>
 ldN 32 t3 w.heap fun t9 =>
 rdP P (Instr.lookup T_map_api_ID_api_Block t8 t9 false) w fun t10 =>
 fldv 0 32 true t10 fun t11 =>
 ldN 32 t2 w.heap fun t12 =>
 rdP P (eqS .eql T_api_ID (Operand.tmp 11) (Operand.tmp 12) t11 t12) w fun t13 =>
 R t13 w
theorem k_tree_Tree_Kids_1 : kO Tryz.f99 A_tree_Tree_Kids_1 = true := by kernel_rfl
theorem s_tree_Tree_Kids_1 (h : SQ Q (c_tree_Tree_Kids_1 t0 t1 t2 w)) : cal P f_tree_Tree_Kids_1 [t0, t1, t2] w Q := sO Tryz.func99 rfl (by kernel_rfl) k_tree_Tree_Kids_1 (by kernel_rfl) h

end Go.Fx
