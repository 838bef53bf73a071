/-
  The readings, part 3.
-/
import Derived.Test.YtcnpediagjjnbaaGreatDoorQ469e9b02
import Derived.Test.YtcnpediagjjnbaaGreatDoorQ3cb80874
import Derived.Test.YtcnpediagjjnbaaGreatDoorQ301ba823
import Derived.Test.YtcnpediagjjnbaaGreatDoorQ3611c588
set_option linter.unusedVariables false
set_option maxRecDepth 100000
namespace Go.Fx
open Go.Proofs
variable {t0 t1 t2 t3 t4 t5 t6 t7 t8 t9 : Value} {w : World} {Q : KR}
/-- (*flurry/pack.Packer).Int -/
def A_pack_Packer_Int : An := (An.r [])
def c_pack_Packer_Int (t0 t1 : Value) (w : World) (R : KR) : Prop :=
 cvi .u64 t1 fun t6 =>
 cal P f_pack_number [(.int .i64 4), t6] w fun t7 w =>
 cal P f_pack_Packer_put [t0, t7, (.slice none 0 0)] w fun t8 w =>
 R (.tuple #[]) w
theorem k_pack_Packer_Int : kO Tryz.f82 A_pack_Packer_Int = true := by kernel_rfl
theorem s_pack_Packer_Int (h : SQ Q (c_pack_Packer_Int t0 t1 w)) : cal P f_pack_Packer_Int [t0, t1] w Q := sO Tryz.func82 rfl (by kernel_rfl) k_pack_Packer_Int (by kernel_rfl) h

/-- (*flurry/pack.Packer).Long -/
def A_pack_Packer_Long : An := (An.r [])
def c_pack_Packer_Long (t0 t1 : Value) (w : World) (R : KR) : Prop :=
 cal P f_pack_number [(.int .i64 8), t1] w fun t6 w =>
 cal P f_pack_Packer_put [t0, t6, (.slice none 0 0)] w fun t7 w =>
 R (.tuple #[]) w
theorem k_pack_Packer_Long : kO Tryz.f83 A_pack_Packer_Long = true := by kernel_rfl
theorem s_pack_Packer_Long (h : SQ Q (c_pack_Packer_Long t0 t1 w)) : cal P f_pack_Packer_Long [t0, t1] w Q := sO Tryz.func83 rfl (by kernel_rfl) k_pack_Packer_Long (by kernel_rfl) h

/-- (*flurry/pack.Packer).Fixed -/
def A_pack_Packer_Fixed : An := (An.r [])
def c_pack_Packer_Fixed (t0 t1 : Value) (w : World) (R : KR) : Prop :=
 cal P f_pack_Packer_put [t0, (.slice none 0 0), t1] w fun t6 w =>
 R (.tuple #[]) w
theorem k_pack_Packer_Fixed : kO Tryz.f84 A_pack_Packer_Fixed = true := by kernel_rfl
theorem s_pack_Packer_Fixed (h : SQ Q (c_pack_Packer_Fixed t0 t1 w)) : cal P f_pack_Packer_Fixed [t0, t1] w Q := sO Tryz.func84 rfl (by kernel_rfl) k_pack_Packer_Fixed (by kernel_rfl) h

/-- (*flurry/pack.Packer).Out -/
def A_pack_Packer_Out : An := (An.s (An.r []) (An.s (An.s (An.r []) (An.s (An.r []) (An.s (An.s (An.r []) An.o) An.o))) (An.s (An.r []) (An.s (An.r []) (An.s (An.r []) An.o)))))
def c_pack_Packer_Out (t0 : Value) (w : World) (R : KR) : Prop :=
 cal P f_pack_Packer_Err [t0] w fun t7 w =>
 bi .neq t7 (.int .i64 0) fun t9 =>
 cnd t9
 (R (.tuple #[(.slice none 0 0), t7]) w)
 (nilc t0 fun t12 =>
 fad 0 t12 fun t13 =>
 fad 1 t13 fun t14 =>
 ld1 t14 w.heap fun t15 =>
 lenS t15 fun t16 =>
 efP P (Instr.makeSlice T_sl_uint8 t16 t16) w fun t17 w =>
 nilc t0 fun t20 =>
 fad 0 t20 fun t21 =>
 fad 1 t21 fun t22 =>
 ld1 t22 w.heap fun t23 =>
 efP P (Builtin.copy_ #[T_sl_uint8, T_sl_uint8] T_int #[t17, t23]) w fun t24 w =>
 R (.tuple #[t17, (.int .i64 0)]) w)
theorem k_pack_Packer_Out : kO Tryz.f85 A_pack_Packer_Out = true := by kernel_rfl
theorem s_pack_Packer_Out (h : SQ Q (c_pack_Packer_Out t0 w)) : cal P f_pack_Packer_Out [t0] w Q := sO Tryz.func85 rfl (by kernel_rfl) k_pack_Packer_Out (by kernel_rfl) h

/-- flurry/sha.Sum -/
def A_sha_Sum : An := (An.s (An.r []) (An.s (An.r []) (An.s (An.r []) (An.s (An.r []) An.o))))
def c_sha_Sum (t0 : Value) (w : World) (R : KR) : Prop :=
 efP P (Instr.alloc T_api_ID true (.tuple #[])) w fun t2 w =>
 cal P f_sha_New [] w fun t4 w =>
 efP P (Instr.buildSlice T_sl_sl_uint8 1 #[(0, t0)]) w fun t7 w =>
 cal P f_sha_State_Write [t4, t7] w fun t8 w =>
 cal P f_sha_State_Sum [t4] w fun t10 w =>
 stN 32 t2 t10 w fun w =>
 ldN 32 t2 w.heap fun r0 =>
 R r0 w
theorem k_sha_Sum : kO Tryz.f86 A_sha_Sum = true := by kernel_rfl
theorem s_sha_Sum (h : SQ Q (c_sha_Sum t0 w)) : cal P f_sha_Sum [t0] w Q := sO Tryz.func86 rfl (by kernel_rfl) k_sha_Sum (by kernel_rfl) h

/-- (*flurry/flurryref10.Chain).At -/
def A_ref10_Chain_At : An := (An.s (An.r []) (An.s (An.s (An.r []) (An.s (An.r []) (An.s (An.s (An.r []) An.o) An.o))) (An.s (An.s (An.r [[22]]) (An.s (An.s (An.r []) An.o) An.o)) (An.s (An.r []) An.o))))
def c_ref10_Chain_At (t0 t1 : Value) (w : World) (R : KR) : Prop :=
 efP P (Instr.alloc T_api_Block true (.tuple #[])) w fun t4 w =>
 cal P f_ref10_Chain_can [t0] w fun t8 w =>
 bi .neq t8 (.int .i64 0) fun t10 =>
 cnd t10
 (rdP P (Instr.build T_api_Block #[]) w fun t11 =>
 stN 34 t4 t11 w fun w =>
 ldN 34 t4 w.heap fun r0 =>
 R (.tuple #[r0, t8]) w)
 (bi .lss t1 (.int .i64 0) fun t14 =>
 jn1 (fun k1 =>
 gif t14 false
 (nilc t0 fun t18 =>
 fad 1 t18 fun t19 =>
 ld1 t19 w.heap fun t20 =>
 lenS t20 fun t21 =>
 bi .geq t1 t21 fun t22 =>
 k1 t22 w)
 (k1 undef w)) fun _ t22_1 w =>
 pik t14 (.bool true) t22_1 fun t23 =>
 cnd t23
 (rdP P (Instr.build T_api_Block #[]) w fun t24 =>
 stN 34 t4 t24 w fun w =>
 ldN 34 t4 w.heap fun r2 =>
 R (.tuple #[r2, (.int .i64 4)]) w)
 (nilc t0 fun t26 =>
 fad 1 t26 fun t27 =>
 ld1 t27 w.heap fun t28 =>
 ixs 34 t28 t1 fun t30 =>
 ldN 34 t30 w.heap fun t31 =>
 stN 34 t4 t31 w fun w =>
 ldN 34 t4 w.heap fun r3 =>
 R (.tuple #[r3, (.int .i64 0)]) w))
theorem k_ref10_Chain_At : kO Tryz.f87 A_ref10_Chain_At = true := by kernel_rfl
theorem s_ref10_Chain_At (h : SQ Q (c_ref10_Chain_At t0 t1 w)) : cal P f_ref10_Chain_At [t0, t1] w Q := sO Tryz.func87 rfl (by kernel_rfl) k_ref10_Chain_At (by kernel_rfl) h

/-- (*flurry/flurryref10.Chain).Get -/
def A_ref10_Chain_Get : An := (An.s (An.r []) (An.s (An.s (An.r []) (An.s (An.r []) (An.s (An.s (An.r []) An.o) An.o))) (An.s (An.r []) (An.s (An.s (An.r []) (An.s (An.s (An.r []) An.o) An.o)) (An.s (An.r []) An.o)))))
def c_ref10_Chain_Get (t0 t1 : Value) (w : World) (R : KR) : Prop :=
 bx T_api_ID t1 w fun t3 w =>
 efP P (Instr.alloc T_api_Block true (.tuple #[])) w fun t4 w =>
 cal P f_ref10_Chain_can [t0] w fun t9 w =>
 bi .neq t9 (.int .i64 0) fun t11 =>
 cnd t11
 (rdP P (Instr.build T_api_Block #[]) w fun t12 =>
 stN 34 t4 t12 w fun w =>
 ldN 34 t4 w.heap fun r0 =>
 R (.tuple #[r0, t9]) w)
 (ldN 32 t3 w.heap fun t15 =>
 cal P f_ref10_Chain_Find [t0, t15] w fun t16 w =>
 bi .lss t16 (.int .i64 0) fun t18 =>
 cnd t18
 (rdP P (Instr.build T_api_Block #[]) w fun t19 =>
 stN 34 t4 t19 w fun w =>
 ldN 34 t4 w.heap fun r1 =>
 R (.tuple #[r1, (.int .i64 4)]) w)
 (nilc t0 fun t21 =>
 fad 1 t21 fun t22 =>
 ld1 t22 w.heap fun t23 =>
 ixs 34 t23 t16 fun t25 =>
 ldN 34 t25 w.heap fun t26 =>
 stN 34 t4 t26 w fun w =>
 ldN 34 t4 w.heap fun r2 =>
 R (.tuple #[r2, (.int .i64 0)]) w))
theorem k_ref10_Chain_Get : kO Tryz.f88 A_ref10_Chain_Get = true := by kernel_rfl
theorem s_ref10_Chain_Get (h : SQ Q (c_ref10_Chain_Get t0 t1 w)) : cal P f_ref10_Chain_Get [t0, t1] w Q := sO Tryz.func88 rfl (by kernel_rfl) k_ref10_Chain_Get (by kernel_rfl) h

/-- (*flurry/flurryref10.Chain).Find -/
def A_ref10_Chain_Find : An := (An.s (An.r []) (An.s (An.s (An.r []) (An.b (An.l [5] (An.s (An.s (An.r []) (An.s An.o An.o)) (An.s (An.b (An.s (An.r []) (An.s (An.r []) (An.s (An.s (An.r []) An.o) An.o)))) (An.r [])))))) (An.s (An.r []) An.o)))
def c_ref10_Chain_Find (t0 t1 : Value) (w : World) (R : KR) : Prop :=
 bx T_api_ID t1 w fun t3 w =>
 nilc t0 fun t9 =>
 fad 1 t9 fun t10 =>
 ld1 t10 w.heap fun t11 =>
 lenS t11 fun t12 =>
 bi .sub t12 (.int .i64 1) fun t13 =>
 lp1 t13 w fun _ t5 w again0 =>
 bi .geq t5 (.int .i64 0) fun t15 =>
 cnd t15
 (nilc t0 fun t20 =>
 fad 1 t20 fun t21 =>
 ld1 t21 w.heap fun t22 =>
 ixs 34 t22 t5 fun t24 =>
 ldN 34 t24 w.heap fun t25 =>
 cal P f_ref03_ID [t25] w fun t26 w =>
 ext 0 t26 fun t27 =>
 ext 1 t26 fun t28 =>
 efP P (Instr.alloc T_api_ID true (.tuple #[])) w fun t6 w =>
 stN 32 t6 t27 w fun w =>
 ldN 32 t6 w.heap fun t29 =>
 ldN 32 t3 w.heap fun t30 =>
 rdP P (eqS .eql T_api_ID (Operand.tmp 29) (Operand.tmp 30) t29 t30) w fun t31 =>
 cnd t31
 (R t5 w)
 (bi .sub t5 (.int .i64 1) fun t17 =>
 again0 t17 w))
 (R (.int .i64 (-1)) w)
theorem k_ref10_Chain_Find : kO Tryz.f89 A_ref10_Chain_Find = true := by kernel_rfl
theorem s_ref10_Chain_Find (h : SQ Q (c_ref10_Chain_Find t0 t1 w)) : cal P f_ref10_Chain_Find [t0, t1] w Q := sO Tryz.func89 rfl (by kernel_rfl) k_ref10_Chain_Find (by kernel_rfl) h

/-- (*flurry/flurryref10.Chain).Ancestors -/
def A_ref10_Chain_Ancestors : An := (An.s (An.r []) (An.s (An.s (An.r []) (An.s (An.r []) (An.s (An.s (An.r []) An.o) An.o))) (An.s (An.s (An.r [[20]]) (An.s (An.s (An.r []) An.o) An.o)) (An.s (An.r []) (An.s (An.s (An.r []) (An.s (An.s (An.r []) An.o) An.o)) (An.s (An.r []) (An.s (An.b (An.l [9, 10] (An.s (An.s (An.r [[33]]) (An.s An.o An.o)) (An.b (An.s (An.r []) (An.r [])))))) (An.s (An.r []) An.o))))))))
def c_ref10_Chain_Ancestors (t0 t1 t2 : Value) (w : World) (R : KR) : Prop :=
 bx T_api_ID t1 w fun t4 w =>
 cal P f_ref10_Chain_can [t0] w fun t12 w =>
 bi .neq t12 (.int .i64 0) fun t14 =>
 cnd t14
 (R (.tuple #[(.slice none 0 0), t12]) w)
 (bi .lss t2 (.int .i64 1) fun t17 =>
 jn1 (fun k0 =>
 gif t17 false
 (bi .gtr t2 (.int .i64 1024) fun t20 =>
 k0 t20 w)
 (k0 undef w)) fun _ t20_1 w =>
 pik t17 (.bool true) t20_1 fun t21 =>
 cnd t21
 (R (.tuple #[(.slice none 0 0), (.int .i64 1)]) w)
 (ldN 32 t4 w.heap fun t23 =>
 cal P f_ref10_Chain_Find [t0, t23] w fun t24 w =>
 bi .lss t24 (.int .i64 0) fun t26 =>
 cnd t26
 (R (.tuple #[(.slice none 0 0), (.int .i64 4)]) w)
 (lp2 t24 (.slice none 0 0) w fun _ t9 t10 w again1 =>
 bi .geq t9 (.int .i64 0) fun t28 =>
 jn1 (fun k2 =>
 gif t28 true
 (lenS t10 fun t31 =>
 bi .lss t31 t2 fun t33 =>
 k2 t33 w)
 (k2 undef w)) fun _ t33_1 w =>
 pik t28 t33_1 (.bool false) fun t34 =>
 cnd t34
 (nilc t0 fun t37 =>
 fad 1 t37 fun t38 =>
 ld1 t38 w.heap fun t39 =>
 ixs 34 t39 t9 fun t41 =>
 ldN 34 t41 w.heap fun t42 =>
 efP P (Instr.buildSlice T_sl_api_Block 1 #[(0, t42)]) w fun t43 w =>
 efP P (Builtin.append_ #[T_sl_api_Block, T_sl_api_Block] T_sl_api_Block #[t10, t43]) w fun t44 w =>
 bi .sub t9 (.int .i64 1) fun t46 =>
 again1 t46 t44 w)
 (R (.tuple #[t10, (.int .i64 0)]) w))))
theorem k_ref10_Chain_Ancestors : kO Tryz.f90 A_ref10_Chain_Ancestors = true := by kernel_rfl
theorem s_ref10_Chain_Ancestors (h : SQ Q (c_ref10_Chain_Ancestors t0 t1 t2 w)) : cal P f_ref10_Chain_Ancestors [t0, t1, t2] w Q := sO Tryz.func90 rfl (by kernel_rfl) k_ref10_Chain_Ancestors (by kernel_rfl) h

/-- flurry/flurryref09.SameAll -/
def A_ref09_SameAll : An := (An.s (An.r []) (An.s (An.s (An.r []) (An.s (An.s (An.r []) An.o) An.o)) (An.s (An.s (An.r []) (An.b (An.l [5] (An.s (An.s (An.r []) (An.s An.o An.o)) (An.s (An.b (An.s (An.dc [0, 1, 2, 3, 4, 5, 6, 7, 8, 9] [8] []) (An.s (An.s (An.r []) An.o) An.o))) (An.r [])))))) (An.s (An.r []) An.o))))
def c_ref09_SameAll (t0 t1 : Value) (w : World) (R : KR) : Prop :=
 lenS t0 fun t7 =>
 lenS t1 fun t9 =>
 bi .neq t7 t9 fun t10 =>
 cnd t10
 (R (.bool false) w)
 (lp1 (.int .i64 0) w fun _ t5 w again0 =>
 lenS t0 fun t13 =>
 bi .lss t5 t13 fun t14 =>
 cnd t14
 (drH w fun S w =>
 ixs 34 t0 t5 fun t19 =>
 rdS S (fun w => ldN 34 t19 w.heap) fun t20 =>
 ixs 34 t1 t5 fun t23 =>
 rdS S (fun w => ldN 34 t23 w.heap) fun t24 =>
 efC (cal P f_ref03_Same [t20, t24]) w fun S t25 w =>
 notB t25 fun t26 =>
 cnd t26
 (R (.bool false) w)
 (bi .add t5 (.int .i64 1) fun t16 =>
 again0 t16 w))
 (R (.bool true) w))
theorem k_ref09_SameAll : kO Tryz.f91 A_ref09_SameAll = true := by kernel_rfl
theorem s_ref09_SameAll (h : SQ Q (c_ref09_SameAll t0 t1 w)) : cal P f_ref09_SameAll [t0, t1] w Q := sO Tryz.func91 rfl (by kernel_rfl) k_ref09_SameAll (by kernel_rfl) h

/-- flurry/rec.Take -/
def A_rec_Take : An := (An.s (An.r []) (An.s (An.s (An.r [[19]]) (An.s (An.s (An.r []) An.o) An.o)) (An.s (An.r []) (An.s (An.s (An.r []) (An.s (An.s (An.r []) An.o) An.o)) (An.s (An.r []) (An.s (An.s (An.r []) (An.s (An.s (An.r []) An.o) An.o)) (An.s (An.r []) (An.s (An.s (An.r []) (An.s (An.s (An.r []) An.o) An.o)) (An.s (An.r []) (An.s (An.r []) (An.s (An.s (An.d [0, 1, 2, 3, 4, 5, 6, 7, 8, 9, 10, 11, 12, 13, 14, 15, 16, 17, 18, 19, 20, 21] [[66], [76]]) (An.s (An.s (An.r []) An.o) An.o)) (An.s (An.r []) An.o))))))))))))
def c_rec_Take (t0 t1 : Value) (w : World) (R : KR) : Prop :=
 efP P (Instr.alloc T_api_Block true (.tuple #[])) w fun t4 w =>
 bi .lss t1 (.int .i64 0) fun t14 =>
 jn1 (fun k0 =>
 gif t14 false
 (lenS t0 fun t18 =>
 bi .gtr t1 t18 fun t19 =>
 k0 t19 w)
 (k0 undef w)) fun _ t19_1 w =>
 pik t14 (.bool true) t19_1 fun t20 =>
 cnd t20
 (rdP P (Instr.build T_api_Block #[]) w fun t21 =>
 stN 34 t4 t21 w fun w =>
 ldN 34 t4 w.heap fun r1 =>
 R (.tuple #[r1, (.int .i64 0), (.int .i64 1)]) w)
 (slc 1 t0 (some t1) none fun t24 =>
 lenS t24 fun t26 =>
 bi .lss t26 (.int .i64 12) fun t27 =>
 cnd t27
 (rdP P (Instr.build T_api_Block #[]) w fun t28 =>
 stN 34 t4 t28 w fun w =>
 ldN 34 t4 w.heap fun r2 =>
 R (.tuple #[r2, (.int .i64 0), (.int .i64 11)]) w)
 (slc 1 t24 none (some (.int .i64 4)) fun t30 =>
 cal P f_pack_Read [t30] w fun t31 w =>
 cal P f_pack_Unpacker_Int [t31] w fun t32 w =>
 bi .gtr t32 (.int .u32 246) fun t34 =>
 cnd t34
 (rdP P (Instr.build T_api_Block #[]) w fun t35 =>
 stN 34 t4 t35 w fun w =>
 ldN 34 t4 w.heap fun r3 =>
 R (.tuple #[r3, (.int .i64 0), (.int .i64 90)]) w)
 (cvi .i64 t32 fun t37 =>
 bi .add (.int .i64 12) t37 fun t38 =>
 lenS t24 fun t40 =>
 bi .add t38 (.int .i64 8) fun t42 =>
 bi .lss t40 t42 fun t43 =>
 cnd t43
 (rdP P (Instr.build T_api_Block #[]) w fun t44 =>
 stN 34 t4 t44 w fun w =>
 ldN 34 t4 w.heap fun r4 =>
 R (.tuple #[r4, (.int .i64 0), (.int .i64 11)]) w)
 (slc 1 t24 (some (.int .i64 12)) (some t38) fun t48 =>
 cal P f_block_Parse [t48] w fun t49 w =>
 ext 0 t49 fun t50 =>
 ext 1 t49 fun t51 =>
 efP P (Instr.alloc T_api_Block true (.tuple #[])) w fun t10 w =>
 stN 34 t10 t50 w fun w =>
 slc 1 t24 none (some t38) fun t54 =>
 cal P f_sha_Sum [t54] w fun t55 w =>
 efP P (Instr.alloc T_api_ID true (.tuple #[])) w fun t12 w =>
 stN 32 t12 t55 w fun w =>
 drH w fun S w =>
 bi .neq t51 (.int .i64 0) fun t57 =>
 jn1 (fun k5 =>
 gif t57 false
 (fad 32 t10 fun t59 =>
 rdS S (fun w => ld1 t59 w.heap) fun t60 =>
 cvi .u64 t60 fun t61 =>
 slc 1 t24 (some (.int .i64 4)) (some (.int .i64 12)) fun t63 =>
 efS S (cal P f_pack_Read [t63]) w fun t64 w =>
 efS S (cal P f_pack_Unpacker_Long [t64]) w fun t65 w =>
 bi .neq t61 t65 fun t66 =>
 k5 t66 w)
 (k5 undef w)) fun _ t66_1 w =>
 pik t57 (.bool true) t66_1 fun t67 =>
 jn1 (fun k6 =>
 gif t67 false
 (sla 32 1 t12 none (some (.int .i64 8)) fun t69 =>
 bi .add t38 (.int .i64 8) fun t73 =>
 slc 1 t24 (some t38) (some t73) fun t74 =>
 efS S (cal P f_bytes_Equal [t69, t74]) w fun t75 w =>
 notB t75 fun t76 =>
 k6 t76 w)
 (k6 undef w)) fun _ t76_1 w =>
 pik t67 (.bool true) t76_1 fun t77 =>
 cnd t77
 (rdP P (Instr.build T_api_Block #[]) w fun t78 =>
 stN 34 t4 t78 w fun w =>
 ldN 34 t4 w.heap fun r7 =>
 R (.tuple #[r7, (.int .i64 0), (.int .i64 90)]) w)
 (ldN 34 t10 w.heap fun t79 =>
 bi .add t1 t38 fun t82 =>
 bi .add t82 (.int .i64 8) fun t83 =>
 stN 34 t4 t79 w fun w =>
 ldN 34 t4 w.heap fun r8 =>
 R (.tuple #[r8, t83, (.int .i64 0)]) w)))))
theorem k_rec_Take : kO Tryz.f92 A_rec_Take = true := by kernel_rfl
theorem s_rec_Take (h : SQ Q (c_rec_Take t0 t1 w)) : cal P f_rec_Take [t0, t1] w Q := sO Tryz.func92 rfl (by kernel_rfl) k_rec_Take (by kernel_rfl) h

/-- slices.All[[]flurry/api.Block,flurry/api.Block]$1 -/
def A_slices_All_api_Block_api_Block_1 : AnY := (AnY.s (AnY.c (An.r [])) (AnY.b (AnY.l [7] (AnY.s (AnY.c (An.r [])) (AnY.s (AnY.s AnY.o AnY.o) (AnY.s (AnY.b (AnY.s (AnY.c (An.r [])) (AnY.s AnY.y (AnY.s AnY.o AnY.o)))) (AnY.c (An.r []))))))))
def c_slices_All_api_Block_api_Block_1 (t0 t1 : Value) (w : World) (R : KR) : Prop :=
 ld1 t1 w.heap fun t5 =>
 lenS t5 fun t6 =>
 lp1 (.int .i64 0) w fun _ t7 w again0 =>
 bi .lss t7 t6 fun t8 =>
 cnd t8
 (ixs 34 t5 t7 fun t10 =>
 ldN 34 t10 w.heap fun t11 =>
 efP P (Instr.alloc T_api_Block true (.tuple #[])) w fun t4 w =>
 stN 34 t4 t11 w fun w =>
 ldN 34 t4 w.heap fun t14 =>
 calY P t0 [t7, t14] w fun t15 w =>
 notB t15 fun t16 =>
 cnd t16
 (R (.tuple #[]) w)
 (bi .add t7 (.int .i64 1) fun t17 =>
 again0 t17 w))
 (R (.tuple #[]) w)
theorem k_slices_All_api_Block_api_Block_1 : kOY Tryz.f93 A_slices_All_api_Block_api_Block_1 = true := by kernel_rfl
theorem s_slices_All_api_Block_api_Block_1 (h : SQ Q (c_slices_All_api_Block_api_Block_1 t0 t1 w)) : cal P f_slices_All_api_Block_api_Block_1 [t0, t1] w Q := sOY Tryz.func93 rfl (by kernel_rfl) k_slices_All_api_Block_api_Block_1 (by kernel_rfl) h

/-- flurry/flurryref02.padded -/
def A_ref02_padded : An := (An.s (An.r []) (An.s (An.r []) (An.s (An.r []) (An.s (An.b (An.l [3] (An.s (An.s (An.r []) (An.s An.o An.o)) (An.b (An.r []))))) (An.s (An.r []) (An.s (An.s (An.r []) (An.b (An.l [3, 5] (An.s (An.s (An.r []) (An.s An.o An.o)) (An.s (An.b (An.r [])) (An.r [])))))) (An.s (An.r []) An.o)))))))
def c_ref02_padded (t0 : Value) (w : World) (R : KR) : Prop :=
 efP P (Builtin.append_ #[T_sl_uint8, T_sl_uint8] T_sl_uint8 #[(.slice none 0 0), t0]) w fun t7 w =>
 efP P (Instr.buildSlice T_sl_uint8 1 #[(0, (.int .u8 128))]) w fun t9 w =>
 efP P (Builtin.append_ #[T_sl_uint8, T_sl_uint8] T_sl_uint8 #[t7, t9]) w fun t10 w =>
 lp1 t10 w fun _ t3 w again0 =>
 lenS t3 fun t12 =>
 bi .rem t12 (.int .i64 64) fun t13 =>
 bi .neq t13 (.int .i64 56) fun t14 =>
 cnd t14
 (efP P (Instr.buildSlice T_sl_uint8 1 #[(0, (.int .u8 0))]) w fun t16 w =>
 efP P (Builtin.append_ #[T_sl_uint8, T_sl_uint8] T_sl_uint8 #[t3, t16]) w fun t17 w =>
 again0 t17 w)
 (lenS t0 fun t19 =>
 cvi .u64 t19 fun t20 =>
 bi .mul t20 (.int .u64 8) fun t21 =>
 lp2 t3 (.int .i64 0) w fun _ t3_1 t5 w again1 =>
 bi .lss t5 (.int .i64 8) fun t23 =>
 cnd t23
 (bi .mul (.int .i64 8) t5 fun t29 =>
 bi .sub (.int .i64 56) t29 fun t30 =>
 cvi .u64 t30 fun t31 =>
 sh .shr t21 t31 fun t32 =>
 cvi .u8 t32 fun t33 =>
 efP P (Instr.buildSlice T_sl_uint8 1 #[(0, t33)]) w fun t34 w =>
 efP P (Builtin.append_ #[T_sl_uint8, T_sl_uint8] T_sl_uint8 #[t3_1, t34]) w fun t35 w =>
 bi .add t5 (.int .i64 1) fun t25 =>
 again1 t35 t25 w)
 (R t3_1 w))
theorem k_ref02_padded : kO Tryz.f94 A_ref02_padded = true := by kernel_rfl
theorem s_ref02_padded (h : SQ Q (c_ref02_padded t0 w)) : cal P f_ref02_padded [t0] w Q := sO Tryz.func94 rfl (by kernel_rfl) k_ref02_padded (by kernel_rfl) h

/-- flurry/flurryref02.goes -/
def A_ref02_goes : An := (An.s (An.r []) (An.s (An.r []) (An.s (An.r []) (An.s (An.r []) (An.s (An.s (An.r []) (An.b (An.l [8] (An.s (An.s (An.r []) (An.s An.o An.o)) (An.s (An.b (An.s (An.r []) (An.s (An.r []) (An.s (An.d [0, 1, 2, 4, 7, 11, 12, 13, 14, 15, 16, 17, 18, 19, 20, 22, 23, 24, 26, 27, 28, 3, 5, 6, 8, 9, 10, 21, 25, 29, 30] []) (An.s (An.d [0, 2, 5, 8, 9, 10, 11, 12, 13, 14, 15, 16, 17, 18, 19, 20, 21, 22, 1, 3, 4, 6, 7, 23, 24] []) (An.r [])))))) (An.r [])))))) (An.s (An.s (An.r []) (An.b (An.l [13] (An.s (An.s (An.r []) (An.s An.o An.o)) (An.s (An.b (An.dc [0, 1, 2, 3, 4, 5, 6, 7, 8] [8] [])) (An.r [])))))) (An.s (An.r []) An.o)))))))
def c_ref02_goes (t0 t1 : Value) (w : World) (R : KR) : Prop :=
 bx T_a8_uint32 t0 w fun t2 w =>
 efP P (Instr.alloc T_a8_uint32 true (.tuple #[])) w fun t4 w =>
 cal P f_ref02_words [t1] w fun t15 w =>
 efP P (Instr.alloc T_a64_uint32 true (.tuple #[])) w fun t5 w =>
 stN 64 t5 t15 w fun w =>
 cal P f_ref02_constants [] w fun t16 w =>
 efP P (Instr.alloc T_a64_uint32 true (.tuple #[])) w fun t6 w =>
 stN 64 t6 t16 w fun w =>
 ldN 8 t2 w.heap fun t17 =>
 efP P (Instr.alloc T_a8_uint32 true (.tuple #[])) w fun t7 w =>
 stN 8 t7 t17 w fun w =>
 lp1 (.int .i64 0) w fun _ t8 w again0 =>
 bi .lss t8 (.int .i64 64) fun t19 =>
 cnd t19
 (ixa 8 1 t7 (.int .i64 4) fun t22 =>
 ld1 t22 w.heap fun t23 =>
 ixa 8 1 t7 (.int .i64 0) fun t24 =>
 ld1 t24 w.heap fun t25 =>
 drH w fun S w =>
 ixa 8 1 t7 (.int .i64 7) fun t26 =>
 rdS S (fun w => ld1 t26 w.heap) fun t27 =>
 ixa 8 1 t7 (.int .i64 5) fun t38 =>
 rdS S (fun w => ld1 t38 w.heap) fun t39 =>
 bi .and t23 t39 fun t40 =>
 rdS S (rdP P (Op.unary UnOp.xor t23)) fun t42 =>
 ixa 8 1 t7 (.int .i64 6) fun t43 =>
 rdS S (fun w => ld1 t43 w.heap) fun t44 =>
 bi .and t42 t44 fun t45 =>
 bi .xor t40 t45 fun t46 =>
 ixa 64 1 t6 t8 fun t49 =>
 rdS S (fun w => ld1 t49 w.heap) fun t50 =>
 ixa 64 1 t5 t8 fun t53 =>
 rdS S (fun w => ld1 t53 w.heap) fun t54 =>
 efS S (cal P f_ref02_turned [t23, (.int .u64 6)]) w fun t29 w =>
 efS S (cal P f_ref02_turned [t23, (.int .u64 11)]) w fun t31 w =>
 bi .xor t29 t31 fun t32 =>
 efS S (cal P f_ref02_turned [t23, (.int .u64 25)]) w fun t34 w =>
 bi .xor t32 t34 fun t35 =>
 bi .add t27 t35 fun t36 =>
 bi .add t36 t46 fun t47 =>
 bi .add t47 t50 fun t51 =>
 bi .add t51 t54 fun t55 =>
 drH w fun S w =>
 ixa 8 1 t7 (.int .i64 1) fun t65 =>
 rdS S (fun w => ld1 t65 w.heap) fun t66 =>
 bi .and t25 t66 fun t67 =>
 ixa 8 1 t7 (.int .i64 2) fun t69 =>
 rdS S (fun w => ld1 t69 w.heap) fun t70 =>
 bi .and t25 t70 fun t71 =>
 bi .xor t67 t71 fun t72 =>
 ixa 8 1 t7 (.int .i64 1) fun t73 =>
 rdS S (fun w => ld1 t73 w.heap) fun t74 =>
 ixa 8 1 t7 (.int .i64 2) fun t75 =>
 rdS S (fun w => ld1 t75 w.heap) fun t76 =>
 bi .and t74 t76 fun t77 =>
 bi .xor t72 t77 fun t78 =>
 efS S (cal P f_ref02_turned [t25, (.int .u64 2)]) w fun t57 w =>
 efS S (cal P f_ref02_turned [t25, (.int .u64 13)]) w fun t59 w =>
 bi .xor t57 t59 fun t60 =>
 efS S (cal P f_ref02_turned [t25, (.int .u64 22)]) w fun t62 w =>
 bi .xor t60 t62 fun t63 =>
 bi .add t63 t78 fun t79 =>
 bi .add t55 t79 fun t82 =>
 ixa 8 1 t7 (.int .i64 0) fun t83 =>
 ld1 t83 w.heap fun t84 =>
 ixa 8 1 t7 (.int .i64 1) fun t85 =>
 ld1 t85 w.heap fun t86 =>
 ixa 8 1 t7 (.int .i64 2) fun t87 =>
 ld1 t87 w.heap fun t88 =>
 ixa 8 1 t7 (.int .i64 3) fun t89 =>
 ld1 t89 w.heap fun t90 =>
 bi .add t90 t55 fun t92 =>
 ixa 8 1 t7 (.int .i64 4) fun t93 =>
 ld1 t93 w.heap fun t94 =>
 ixa 8 1 t7 (.int .i64 5) fun t95 =>
 ld1 t95 w.heap fun t96 =>
 ixa 8 1 t7 (.int .i64 6) fun t97 =>
 ld1 t97 w.heap fun t98 =>
 rdP P (Instr.build T_a8_uint32 #[(0, t82), (1, t84), (2, t86), (3, t88), (4, t92), (5, t94), (6, t96), (7, t98)]) w fun t99 =>
 stN 8 t7 t99 w fun w =>
 bi .add t8 (.int .i64 1) fun t21 =>
 again0 t21 w)
 (lp1 (.int .i64 0) w fun _ t13 w again1 =>
 bi .lss t13 (.int .i64 8) fun t101 =>
 cnd t101
 (drH w fun S w =>
 ixa 8 1 t2 t13 fun t105 =>
 rdS S (fun w => ld1 t105 w.heap) fun t106 =>
 ixa 8 1 t7 t13 fun t108 =>
 rdS S (fun w => ld1 t108 w.heap) fun t109 =>
 bi .add t106 t109 fun t110 =>
 ixa 8 1 t2 t13 fun t111 =>
 efC (fun w K => st1 t111 t110 w (K undef)) w fun S _ w =>
 bi .add t13 (.int .i64 1) fun t103 =>
 again1 t103 w)
 (ldN 8 t2 w.heap fun t112 =>
 stN 8 t4 t112 w fun w =>
 ldN 8 t4 w.heap fun r2 =>
 R r2 w))
theorem k_ref02_goes : kO Tryz.f95 A_ref02_goes = true := by kernel_rfl
theorem s_ref02_goes (h : SQ Q (c_ref02_goes t0 t1 w)) : cal P f_ref02_goes [t0, t1] w Q := sO Tryz.func95 rfl (by kernel_rfl) k_ref02_goes (by kernel_rfl) h

/-- flurry/flurryref09.Take -/
def A_ref09_Take : An := (An.s (An.r []) (An.s (An.s (An.r [[20]]) (An.s (An.s (An.r []) An.o) An.o)) (An.s (An.r []) (An.s (An.s (An.r []) (An.s (An.s (An.r []) An.o) An.o)) (An.s (An.r []) (An.s (An.s (An.r []) (An.s (An.s (An.r []) An.o) An.o)) (An.s (An.r []) (An.s (An.s (An.r []) (An.s (An.s (An.r []) An.o) An.o)) (An.s (An.r []) (An.s (An.s (An.r []) (An.s (An.s (An.r []) An.o) An.o)) (An.s (An.r []) (An.s (An.s (An.r []) (An.s (An.s (An.r []) An.o) An.o)) (An.s (An.r []) An.o)))))))))))))
def c_ref09_Take (t0 t1 : Value) (w : World) (R : KR) : Prop :=
 efP P (Instr.alloc T_api_Block true (.tuple #[])) w fun t4 w =>
 bi .lss t1 (.int .i64 0) fun t15 =>
 jn1 (fun k0 =>
 gif t15 false
 (lenS t0 fun t19 =>
 bi .gtr t1 t19 fun t20 =>
 k0 t20 w)
 (k0 undef w)) fun _ t20_1 w =>
 pik t15 (.bool true) t20_1 fun t21 =>
 cnd t21
 (rdP P (Instr.build T_api_Block #[]) w fun t22 =>
 stN 34 t4 t22 w fun w =>
 ldN 34 t4 w.heap fun r1 =>
 R (.tuple #[r1, (.int .i64 0), (.int .i64 1)]) w)
 (slc 1 t0 (some t1) none fun t25 =>
 lenS t25 fun t27 =>
 bi .lss t27 (.int .i64 12) fun t28 =>
 cnd t28
 (rdP P (Instr.build T_api_Block #[]) w fun t29 =>
 stN 34 t4 t29 w fun w =>
 ldN 34 t4 w.heap fun r2 =>
 R (.tuple #[r2, (.int .i64 0), (.int .i64 11)]) w)
 (slc 1 t25 none (some (.int .i64 4)) fun t31 =>
 cal P f_ref01_Val [t31] w fun t32 w =>
 bi .gtr t32 (.int .u64 246) fun t34 =>
 cnd t34
 (rdP P (Instr.build T_api_Block #[]) w fun t35 =>
 stN 34 t4 t35 w fun w =>
 ldN 34 t4 w.heap fun r3 =>
 R (.tuple #[r3, (.int .i64 0), (.int .i64 90)]) w)
 (cvi .i64 t32 fun t37 =>
 bi .add (.int .i64 12) t37 fun t38 =>
 bi .add t38 (.int .i64 8) fun t39 =>
 lenS t25 fun t41 =>
 bi .lss t41 t39 fun t43 =>
 cnd t43
 (rdP P (Instr.build T_api_Block #[]) w fun t44 =>
 stN 34 t4 t44 w fun w =>
 ldN 34 t4 w.heap fun r4 =>
 R (.tuple #[r4, (.int .i64 0), (.int .i64 11)]) w)
 (cvi .i64 t32 fun t48 =>
 bi .add (.int .i64 12) t48 fun t49 =>
 slc 1 t25 (some (.int .i64 12)) (some t49) fun t50 =>
 cal P f_ref03_Parse [t50] w fun t51 w =>
 ext 0 t51 fun t52 =>
 ext 1 t51 fun t53 =>
 efP P (Instr.alloc T_api_Block true (.tuple #[])) w fun t10 w =>
 stN 34 t10 t52 w fun w =>
 bi .neq t53 (.int .i64 0) fun t55 =>
 cnd t55
 (rdP P (Instr.build T_api_Block #[]) w fun t56 =>
 stN 34 t4 t56 w fun w =>
 ldN 34 t4 w.heap fun r5 =>
 R (.tuple #[r5, (.int .i64 0), (.int .i64 90)]) w)
 (ldN 34 t10 w.heap fun t58 =>
 cal P f_ref09_Bytes [t58] w fun t59 w =>
 ext 0 t59 fun t60 =>
 ext 1 t59 fun t61 =>
 drw w fun w =>
 rdP P (convert T_sl_uint8 T_string t60) w fun t63 =>
 slc 1 t25 none (some t39) fun t66 =>
 rdP P (convert T_sl_uint8 T_string t66) w fun t67 =>
 rdP P (eqS .neq T_string (Operand.tmp 63) (Operand.tmp 67) t63 t67) w fun t68 =>
 cnd t68
 (rdP P (Instr.build T_api_Block #[]) w fun t69 =>
 stN 34 t4 t69 w fun w =>
 ldN 34 t4 w.heap fun r6 =>
 R (.tuple #[r6, (.int .i64 0), (.int .i64 90)]) w)
 (ldN 34 t10 w.heap fun t70 =>
 bi .add t1 t39 fun t73 =>
 stN 34 t4 t70 w fun w =>
 ldN 34 t4 w.heap fun r7 =>
 R (.tuple #[r7, t73, (.int .i64 0)]) w))))))
theorem k_ref09_Take : kO Tryz.f96 A_ref09_Take = true := by kernel_rfl
theorem s_ref09_Take (h : SQ Q (c_ref09_Take t0 t1 w)) : cal P f_ref09_Take [t0, t1] w Q := sO Tryz.func96 rfl (by kernel_rfl) k_ref09_Take (by kernel_rfl) h

/-- (*flurry/pack.Packer).Short -/
def A_pack_Packer_Short : An := (An.r [])
def c_pack_Packer_Short (t0 t1 : Value) (w : World) (R : KR) : Prop :=
 cvi .u64 t1 fun t6 =>
 cal P f_pack_number [(.int .i64 2), t6] w fun t7 w =>
 cal P f_pack_Packer_put [t0, t7, (.slice none 0 0)] w fun t8 w =>
 R (.tuple #[]) w
theorem k_pack_Packer_Short : kO Tryz.f97 A_pack_Packer_Short = true := by kernel_rfl
theorem s_pack_Packer_Short (h : SQ Q (c_pack_Packer_Short t0 t1 w)) : cal P f_pack_Packer_Short [t0, t1] w Q := sO Tryz.func97 rfl (by kernel_rfl) k_pack_Packer_Short (by kernel_rfl) h

/-- (*flurry/pack.Packer).Bytes -/
def A_pack_Packer_Bytes : An := (An.r [])
def c_pack_Packer_Bytes (t0 t1 : Value) (w : World) (R : KR) : Prop :=
 lenS t1 fun t6 =>
 cvi .u64 t6 fun t7 =>
 cal P f_pack_number [(.int .i64 4), t7] w fun t8 w =>
 cal P f_pack_Packer_put [t0, t8, t1] w fun t10 w =>
 R (.tuple #[]) w
theorem k_pack_Packer_Bytes : kO Tryz.f98 A_pack_Packer_Bytes = true := by kernel_rfl
theorem s_pack_Packer_Bytes (h : SQ Q (c_pack_Packer_Bytes t0 t1 w)) : cal P f_pack_Packer_Bytes [t0, t1] w Q := sO Tryz.func98 rfl (by kernel_rfl) k_pack_Packer_Bytes (by kernel_rfl) h

/-- (*flurry/pack.Packer).put -/
def A_pack_Packer_put : An := (An.s (An.s (An.r []) (An.s An.o An.o)) (An.s (An.r []) (An.s (An.s (An.r [[32]]) (An.s (An.s (An.r []) An.o) An.o)) (An.r []))))
def c_pack_Packer_put (t0 t1 t2 : Value) (w : World) (R : KR) : Prop :=
 cal P f_pack_Packer_works [t0] w fun t8 w =>
 notB t8 fun t9 =>
 cnd t9
 (R (.tuple #[]) w)
 (drw w fun w =>
 nilc t0 fun t11 =>
 fad 3 t11 fun t12 =>
 ld1 t12 w.heap fun t13 =>
 nilc t0 fun t15 =>
 fad 0 t15 fun t16 =>
 fad 1 t16 fun t17 =>
 ld1 t17 w.heap fun t18 =>
 lenS t18 fun t19 =>
 bi .sub t13 t19 fun t20 =>
 lenS t1 fun t22 =>
 bi .gtr t22 t20 fun t24 =>
 jn1 (fun k0 =>
 gif t24 false
 (lenS t2 fun t27 =>
 lenS t1 fun t30 =>
 bi .sub t20 t30 fun t31 =>
 bi .gtr t27 t31 fun t32 =>
 k0 t32 w)
 (k0 undef w)) fun _ t32_1 w =>
 pik t24 (.bool true) t32_1 fun t33 =>
 cnd t33
 (nilc t0 fun t35 =>
 fad 0 t35 fun t36 =>
 cal P f_pack_kept_fails [t36, (.int .i64 10)] w fun t37 w =>
 R (.tuple #[]) w)
 (nilc t0 fun t40 =>
 fad 0 t40 fun t41 =>
 fad 1 t41 fun t42 =>
 ld1 t42 w.heap fun t43 =>
 efP P (Builtin.append_ #[T_sl_uint8, T_sl_uint8] T_sl_uint8 #[t43, t1]) w fun t45 w =>
 efP P (Builtin.append_ #[T_sl_uint8, T_sl_uint8] T_sl_uint8 #[t45, t2]) w fun t47 w =>
 nilc t0 fun t48 =>
 fad 0 t48 fun t49 =>
 fad 1 t49 fun t50 =>
 st1 t50 t47 w fun w =>
 R (.tuple #[]) w))
theorem k_pack_Packer_put : kO Tryz.f99 A_pack_Packer_put = true := by kernel_rfl
theorem s_pack_Packer_put (h : SQ Q (c_pack_Packer_put t0 t1 t2 w)) : cal P f_pack_Packer_put [t0, t1, t2] w Q := sO Tryz.func99 rfl (by kernel_rfl) k_pack_Packer_put (by kernel_rfl) h

/-- flurry/pack.number -/
def A_pack_number : An := (An.s (An.r []) (An.s (An.r []) (An.s (An.s (An.r []) (An.b (An.l [11] (An.s (An.r []) (An.s (An.s An.o An.o) (An.s (An.b (An.s (An.r []) (An.r []))) (An.r []))))))) (An.s (An.r []) An.o))))
def c_pack_number (t0 t1 : Value) (w : World) (R : KR) : Prop :=
 efP P (Instr.makeSlice T_sl_uint8 t0 t0) w fun t8 w =>
 lenS t8 fun t10 =>
 lp1 (.int .i64 0) w fun _ t11 w again0 =>
 bi .lss t11 t10 fun t12 =>
 cnd t12
 (bi .sub t0 (.int .i64 1) fun t16 =>
 bi .sub t16 t11 fun t18 =>
 bi .mul (.int .i64 8) t11 fun t21 =>
 sh .shr t1 t21 fun t22 =>
 cvi .u8 t22 fun t23 =>
 ixs 1 t8 t18 fun t24 =>
 st1 t24 t23 w fun w =>
 bi .add t11 (.int .i64 1) fun t25 =>
 again0 t25 w)
 (R t8 w)
theorem k_pack_number : kO Tryz.f100 A_pack_number = true := by kernel_rfl
theorem s_pack_number (h : SQ Q (c_pack_number t0 t1 w)) : cal P f_pack_number [t0, t1] w Q := sO Tryz.func100 rfl (by kernel_rfl) k_pack_number (by kernel_rfl) h

/-- (*flurry/pack.Packer).Err -/
def A_pack_Packer_Err : An := (An.s (An.r []) (An.s (An.s (An.r [[11]]) (An.s (An.s (An.r []) An.o) An.o)) (An.s (An.r []) An.o)))
def c_pack_Packer_Err (t0 : Value) (w : World) (R : KR) : Prop :=
 nilP false t0 fun t4 =>
 jn1 (fun k0 =>
 gif t4 false
 (nilc t0 fun t7 =>
 fad 0 t7 fun t8 =>
 fad 0 t8 fun t9 =>
 ld1 t9 w.heap fun t10 =>
 notB t10 fun t11 =>
 k0 t11 w)
 (k0 undef w)) fun _ t11_1 w =>
 pik t4 (.bool true) t11_1 fun t12 =>
 cnd t12
 (R (.int .i64 2) w)
 (nilc t0 fun t14 =>
 fad 0 t14 fun t15 =>
 fad 2 t15 fun t16 =>
 ld1 t16 w.heap fun t17 =>
 R t17 w)
theorem k_pack_Packer_Err : kO Tryz.f101 A_pack_Packer_Err = true := by kernel_rfl
theorem s_pack_Packer_Err (h : SQ Q (c_pack_Packer_Err t0 w)) : cal P f_pack_Packer_Err [t0] w Q := sO Tryz.func101 rfl (by kernel_rfl) k_pack_Packer_Err (by kernel_rfl) h

/-- flurry/sha.New -/
def A_sha_New : An := (An.s (An.r []) (An.s (An.r []) An.o))
def c_sha_New (w : World) (R : KR) : Prop :=
 cal P f_sha_first [] w fun t1 w =>
 rdP P (Instr.build T_sha_State #[(0, t1), (3, (.bool true))]) w fun t2 =>
 bx T_sha_State t2 w fun t3 w =>
 R t3 w
theorem k_sha_New : kO Tryz.f102 A_sha_New = true := by kernel_rfl
theorem s_sha_New (h : SQ Q (c_sha_New w)) : cal P f_sha_New [] w Q := sO Tryz.func102 rfl (by kernel_rfl) k_sha_New (by kernel_rfl) h

/-- (*flurry/sha.State).Write -/
def A_sha_State_Write : An := (An.s (An.r []) (An.s (An.s (An.r []) (An.s (An.s (An.r []) An.o) An.o)) (An.s (An.s (An.r []) (An.b (An.l [12] (An.s (An.r []) (An.s (An.s An.o An.o) (An.s (An.b (An.s (An.r []) (An.s (An.r []) (An.s (An.r []) (An.s (An.b (An.l [7] (An.s (An.s (An.r []) (An.s An.o An.o)) (An.b (An.s (An.dc [0, 1, 2, 3, 4, 5, 6, 7, 8, 9, 10] [7, 10] []) (An.r [])))))) (An.r [])))))) (An.r []))))))) (An.s (An.r []) An.o))))
def c_sha_State_Write (t0 t1 : Value) (w : World) (R : KR) : Prop :=
 cal P f_sha_State_none [t0] w fun t9 w =>
 cnd t9
 (R (.int .i64 2) w)
 (lenS t1 fun t11 =>
 lp1 (.int .i64 0) w fun _ t12 w again0 =>
 bi .lss t12 t11 fun t13 =>
 cnd t13
 (ixs 1 t1 t12 fun t14 =>
 ld1 t14 w.heap fun t15 =>
 nilc t0 fun t17 =>
 fad 9 t17 fun t18 =>
 ld1 t18 w.heap fun t19 =>
 lenS t15 fun t21 =>
 bi .add t19 t21 fun t22 =>
 nilc t0 fun t23 =>
 fad 9 t23 fun t24 =>
 st1 t24 t22 w fun w =>
 nilc t0 fun t26 =>
 fad 8 t26 fun t27 =>
 ld1 t27 w.heap fun t28 =>
 efP P (Instr.buildSlice T_sl_sl_uint8 2 #[(0, t28), (1, t15)]) w fun t30 w =>
 cal P f_slices_Concat_byte_byte [t30] w fun t31 w =>
 lp1 t31 w fun _ t7 w again1 =>
 lenS t7 fun t33 =>
 bi .geq t33 (.int .i64 64) fun t34 =>
 cnd t34
 (drH w fun S w =>
 nilc t0 fun t37 =>
 fad 0 t37 fun t38 =>
 rdS S (fun w => ldN 8 t38 w.heap) fun t39 =>
 slc 1 t7 none (some (.int .i64 64)) fun t41 =>
 efC (cal P f_sha_mixed [t39, t41]) w fun S t42 w =>
 nilc t0 fun t43 =>
 fad 0 t43 fun t44 =>
 efC (fun w K => stN 8 t44 t42 w (K undef)) w fun S _ w =>
 slc 1 t7 (some (.int .i64 64)) none fun t46 =>
 again1 t46 w)
 (cal P f_bytes_Clone [t7] w fun t49 w =>
 nilc t0 fun t50 =>
 fad 8 t50 fun t51 =>
 st1 t51 t49 w fun w =>
 bi .add t12 (.int .i64 1) fun t52 =>
 again0 t52 w))
 (R (.int .i64 0) w))
theorem k_sha_State_Write : kO Tryz.f103 A_sha_State_Write = true := by kernel_rfl
theorem s_sha_State_Write (h : SQ Q (c_sha_State_Write t0 t1 w)) : cal P f_sha_State_Write [t0, t1] w Q := sO Tryz.func103 rfl (by kernel_rfl) k_sha_State_Write (by kernel_rfl) h

/-- (*flurry/sha.State).Sum -/
def A_sha_State_Sum : An := (An.s (An.r []) (An.s (An.r []) (An.s (An.s (An.r []) (An.s (An.s (An.r []) An.o) An.o)) (An.s (An.r []) (An.s (An.b (An.l [4] (An.s (An.s (An.r []) (An.s An.o An.o)) (An.b (An.r []))))) (An.s (An.r []) (An.s (An.s (An.r []) (An.b (An.l [4, 33] (An.s (An.r []) (An.s (An.s An.o An.o) (An.s (An.b (An.s (An.r []) (An.r []))) (An.r []))))))) (An.s (An.r []) (An.s (An.b (An.l [4] (An.s (An.s (An.r []) (An.s An.o An.o)) (An.s (An.b (An.dc [0, 1, 2, 3, 4] [3, 4] [])) (An.r []))))) (An.s (An.s (An.r []) (An.b (An.l [60] (An.s (An.r []) (An.s (An.s An.o An.o) (An.s (An.b (An.s (An.r []) (An.r []))) (An.r []))))))) (An.s (An.r []) An.o)))))))))))
def c_sha_State_Sum (t0 : Value) (w : World) (R : KR) : Prop :=
 efP P (Instr.alloc T_api_ID true (.tuple #[])) w fun t2 w =>
 efP P (Instr.alloc T_api_ID true (.tuple #[])) w fun t3 w =>
 cal P f_sha_State_none [t0] w fun t11 w =>
 cnd t11
 (ldN 32 t3 w.heap fun t12 =>
 stN 32 t2 t12 w fun w =>
 ldN 32 t2 w.heap fun r0 =>
 R r0 w)
 (nilc t0 fun t14 =>
 fad 8 t14 fun t15 =>
 ld1 t15 w.heap fun t16 =>
 cal P f_bytes_Clone [t16] w fun t17 w =>
 efP P (Instr.buildSlice T_sl_uint8 1 #[(0, (.int .u8 128))]) w fun t18 w =>
 efP P (Builtin.append_ #[T_sl_uint8, T_sl_uint8] T_sl_uint8 #[t17, t18]) w fun t19 w =>
 lp1 t19 w fun _ t4 w again1 =>
 lenS t4 fun t21 =>
 bi .rem t21 (.int .i64 64) fun t22 =>
 bi .neq t22 (.int .i64 56) fun t23 =>
 cnd t23
 (efP P (Instr.buildSlice T_sl_uint8 1 #[(0, (.int .u8 0))]) w fun t25 w =>
 efP P (Builtin.append_ #[T_sl_uint8, T_sl_uint8] T_sl_uint8 #[t4, t25]) w fun t26 w =>
 again1 t26 w)
 (nilc t0 fun t28 =>
 fad 9 t28 fun t29 =>
 ld1 t29 w.heap fun t30 =>
 cvi .u64 t30 fun t31 =>
 bi .mul t31 (.int .u64 8) fun t32 =>
 lp2 t4 (.int .i64 0) w fun _ t4_1 t33 w again2 =>
 bi .lss t33 (.int .i64 8) fun t34 =>
 cnd t34
 (bi .mul (.int .i64 8) t33 fun t39 =>
 bi .sub (.int .i64 56) t39 fun t40 =>
 sh .shr t32 t40 fun t41 =>
 cvi .u8 t41 fun t42 =>
 efP P (Instr.buildSlice T_sl_uint8 1 #[(0, t42)]) w fun t43 w =>
 efP P (Builtin.append_ #[T_sl_uint8, T_sl_uint8] T_sl_uint8 #[t4_1, t43]) w fun t44 w =>
 bi .add t33 (.int .i64 1) fun t45 =>
 again2 t44 t45 w)
 (nilc t0 fun t47 =>
 fad 0 t47 fun t48 =>
 ldN 8 t48 w.heap fun t49 =>
 efP P (Instr.alloc T_a8_uint32 true (.tuple #[])) w fun t7 w =>
 stN 8 t7 t49 w fun w =>
 lp1 t4_1 w fun _ t4_2 w again3 =>
 lenS t4_2 fun t51 =>
 bi .gtr t51 (.int .i64 0) fun t52 =>
 cnd t52
 (drH w fun S w =>
 rdS S (fun w => ldN 8 t7 w.heap) fun t55 =>
 slc 1 t4_2 none (some (.int .i64 64)) fun t57 =>
 efC (cal P f_sha_mixed [t55, t57]) w fun S t58 w =>
 efC (fun w K => stN 8 t7 t58 w (K undef)) w fun S _ w =>
 slc 1 t4_2 (some (.int .i64 64)) none fun t54 =>
 again3 t54 w)
 (ldN 8 t7 w.heap fun t59 =>
 lp1 (.int .i64 0) w fun _ t60 w again4 =>
 bi .lss t60 (.int .i64 8) fun t61 =>
 cnd t61
 (ixv 8 1 false t59 t60 fun t63 =>
 bi .mul (.int .i64 4) t60 fun t65 =>
 bi .mul (.int .i64 4) t60 fun t67 =>
 bi .add t67 (.int .i64 1) fun t68 =>
 bi .mul (.int .i64 4) t60 fun t70 =>
 bi .add t70 (.int .i64 2) fun t71 =>
 bi .mul (.int .i64 4) t60 fun t73 =>
 bi .add t73 (.int .i64 3) fun t74 =>
 sh .shr t63 (.int .u64 24) fun t76 =>
 cvi .u8 t76 fun t77 =>
 sh .shr t63 (.int .u64 16) fun t79 =>
 cvi .u8 t79 fun t80 =>
 sh .shr t63 (.int .u64 8) fun t82 =>
 cvi .u8 t82 fun t83 =>
 cvi .u8 t63 fun t85 =>
 ixa 32 1 t3 t65 fun t86 =>
 st1 t86 t77 w fun w =>
 ixa 32 1 t3 t68 fun t87 =>
 st1 t87 t80 w fun w =>
 ixa 32 1 t3 t71 fun t88 =>
 st1 t88 t83 w fun w =>
 ixa 32 1 t3 t74 fun t89 =>
 st1 t89 t85 w fun w =>
 bi .add t60 (.int .i64 1) fun t90 =>
 again4 t90 w)
 (ldN 32 t3 w.heap fun t91 =>
 stN 32 t2 t91 w fun w =>
 ldN 32 t2 w.heap fun r5 =>
 R r5 w)))))
theorem k_sha_State_Sum : kO Tryz.f104 A_sha_State_Sum = true := by kernel_rfl
theorem s_sha_State_Sum (h : SQ Q (c_sha_State_Sum t0 w)) : cal P f_sha_State_Sum [t0] w Q := sO Tryz.func104 rfl (by kernel_rfl) k_sha_State_Sum (by kernel_rfl) h

/-- (*flurry/flurryref10.Chain).can -/
def A_ref10_Chain_can : An := (An.s (An.r []) (An.s (An.s (An.r []) (An.s (An.s (An.r []) An.o) An.o)) (An.s (An.r []) An.o)))
def c_ref10_Chain_can (t0 : Value) (w : World) (R : KR) : Prop :=
 nilc t0 fun t4 =>
 fad 2 t4 fun t5 =>
 ld1 t5 w.heap fun t6 =>
 cnd t6
 (R (.int .i64 5) w)
 (R (.int .i64 0) w)
theorem k_ref10_Chain_can : kO Tryz.f105 A_ref10_Chain_can = true := by kernel_rfl
theorem s_ref10_Chain_can (h : SQ Q (c_ref10_Chain_can t0 w)) : cal P f_ref10_Chain_can [t0] w Q := sO Tryz.func105 rfl (by kernel_rfl) k_ref10_Chain_can (by kernel_rfl) h

/-- flurry/pack.Read -/
def A_pack_Read : An := (An.s (An.r []) (An.s (An.r []) (An.s (An.r []) (An.s (An.r []) (An.s (An.r []) (An.s (An.r []) An.o))))))
def c_pack_Read (t0 : Value) (w : World) (R : KR) : Prop :=
 rdP P (Instr.build T_pack_Unpacker #[]) w fun t4 =>
 bx T_pack_Unpacker t4 w fun t5 w =>
 nilc t5 fun t7 =>
 fad 0 t7 fun t8 =>
 fad 0 t8 fun t9 =>
 st1 t9 (.bool true) w fun w =>
 lenS t0 fun t12 =>
 efP P (Instr.makeSlice T_sl_uint8 t12 t12) w fun t13 w =>
 nilc t5 fun t14 =>
 fad 0 t14 fun t15 =>
 fad 1 t15 fun t16 =>
 st1 t16 t13 w fun w =>
 nilc t5 fun t18 =>
 fad 0 t18 fun t19 =>
 fad 1 t19 fun t20 =>
 ld1 t20 w.heap fun t21 =>
 efP P (Builtin.copy_ #[T_sl_uint8, T_sl_uint8] T_int #[t21, t0]) w fun t23 w =>
 R t5 w
theorem k_pack_Read : kO Tryz.f106 A_pack_Read = true := by kernel_rfl
theorem s_pack_Read (h : SQ Q (c_pack_Read t0 w)) : cal P f_pack_Read [t0] w Q := sO Tryz.func106 rfl (by kernel_rfl) k_pack_Read (by kernel_rfl) h

/-- (*flurry/pack.Unpacker).Int -/
def A_pack_Unpacker_Int : An := (An.s (An.r []) (An.s (An.r []) An.o))
def c_pack_Unpacker_Int (t0 : Value) (w : World) (R : KR) : Prop :=
 cal P f_pack_Unpacker_take [t0, (.int .i64 4)] w fun t4 w =>
 cal P f_pack_value [t4] w fun t5 w =>
 cvi .u32 t5 fun t6 =>
 R t6 w
theorem k_pack_Unpacker_Int : kO Tryz.f107 A_pack_Unpacker_Int = true := by kernel_rfl
theorem s_pack_Unpacker_Int (h : SQ Q (c_pack_Unpacker_Int t0 w)) : cal P f_pack_Unpacker_Int [t0] w Q := sO Tryz.func107 rfl (by kernel_rfl) k_pack_Unpacker_Int (by kernel_rfl) h

/-- flurry/block.Parse -/
def A_block_Parse : An := (An.s (An.r []) (An.s (An.s (An.r []) (An.s (An.s (An.r []) An.o) An.o)) (An.s (An.r []) (An.s (An.r []) (An.s (An.r []) (An.s (An.r []) (An.s (An.r []) (An.s (An.s (An.r [[29], [33]]) (An.s (An.s (An.r []) An.o) An.o)) (An.s (An.r []) (An.s (An.r []) (An.s (An.r []) An.o)))))))))))
def c_block_Parse (t0 : Value) (w : World) (R : KR) : Prop :=
 efP P (Instr.alloc T_api_Block true (.tuple #[])) w fun t2 w =>
 lenS t0 fun t11 =>
 bi .gtr t11 (.int .i64 246) fun t12 =>
 cnd t12
 (rdP P (Instr.build T_api_Block #[]) w fun t13 =>
 stN 34 t2 t13 w fun w =>
 ldN 34 t2 w.heap fun r0 =>
 R (.tuple #[r0, (.int .i64 30)]) w)
 (cal P f_pack_Read [t0] w fun t15 w =>
 cal P f_pack_Unpacker_Short [t15] w fun t17 w =>
 cal P f_pack_Unpacker_Fixed [t15, (.int .i64 32)] w fun t19 w =>
 cal P f_pack_Unpacker_Long [t15] w fun t21 w =>
 cal P f_pack_Unpacker_Bytes [t15, (.int .i64 200)] w fun t23 w =>
 cal P f_pack_Unpacker_End [t15] w fun t25 w =>
 bi .neq t25 (.int .i64 0) fun t26 =>
 jn1 (fun k1 =>
 gif t26 false
 (bi .neq t17 (.int .u16 0) fun t29 =>
 k1 t29 w)
 (k1 undef w)) fun _ t29_1 w =>
 pik t26 (.bool true) t29_1 fun t30 =>
 jn1 (fun k2 =>
 gif t30 false
 (bi .gtr t21 (.int .u64 9223372036854775807) fun t33 =>
 k2 t33 w)
 (k2 undef w)) fun _ t33_1 w =>
 pik t30 (.bool true) t33_1 fun t34 =>
 cnd t34
 (rdP P (Instr.build T_api_Block #[]) w fun t35 =>
 stN 34 t2 t35 w fun w =>
 ldN 34 t2 w.heap fun r3 =>
 R (.tuple #[r3, (.int .i64 30)]) w)
 (cvi .i64 t21 fun t37 =>
 rdP P (Instr.build T_api_Block #[(1, t37), (2, t23)]) w fun t39 =>
 efP P (Instr.alloc T_api_Block true (.tuple #[])) w fun t9 w =>
 stN 34 t9 t39 w fun w =>
 fad 0 t9 fun t40 =>
 sla 32 1 t40 none none fun t41 =>
 efP P (Builtin.copy_ #[T_sl_uint8, T_sl_uint8] T_int #[t41, t19]) w fun t43 w =>
 ldN 34 t9 w.heap fun t44 =>
 cal P f_block_made [t44] w fun t45 w =>
 ext 0 t45 fun t46 =>
 ext 1 t45 fun t47 =>
 stN 34 t2 t46 w fun w =>
 ldN 34 t2 w.heap fun r4 =>
 R (.tuple #[r4, t47]) w))
theorem k_block_Parse : kO Tryz.f108 A_block_Parse = true := by kernel_rfl
theorem s_block_Parse (h : SQ Q (c_block_Parse t0 w)) : cal P f_block_Parse [t0] w Q := sO Tryz.func108 rfl (by kernel_rfl) k_block_Parse (by kernel_rfl) h

/-- (*flurry/pack.Unpacker).Long -/
def A_pack_Unpacker_Long : An := (An.s (An.r []) (An.s (An.r []) An.o))
def c_pack_Unpacker_Long (t0 : Value) (w : World) (R : KR) : Prop :=
 cal P f_pack_Unpacker_take [t0, (.int .i64 8)] w fun t4 w =>
 cal P f_pack_value [t4] w fun t5 w =>
 R t5 w
theorem k_pack_Unpacker_Long : kO Tryz.f109 A_pack_Unpacker_Long = true := by kernel_rfl
theorem s_pack_Unpacker_Long (h : SQ Q (c_pack_Unpacker_Long t0 w)) : cal P f_pack_Unpacker_Long [t0] w Q := sO Tryz.func109 rfl (by kernel_rfl) k_pack_Unpacker_Long (by kernel_rfl) h

/-- flurry/flurryref02.words -/
def A_ref02_words : An := (An.s (An.r []) (An.s (An.r []) (An.s (An.s (An.r []) (An.b (An.l [4] (An.s (An.s (An.r []) (An.s An.o An.o)) (An.s (An.b (An.s (An.r []) (An.b (An.l [5] (An.s (An.s (An.r []) (An.s An.o An.o)) (An.s (An.b (An.dc [0, 1, 2, 3, 4, 5, 6, 7, 8, 9, 10, 11, 12, 13, 14, 15] [15] [])) (An.r []))))))) (An.r [])))))) (An.s (An.s (An.r []) (An.b (An.l [6] (An.s (An.s (An.r []) (An.s An.o An.o)) (An.s (An.b (An.s (An.r []) (An.s (An.r []) (An.s (An.r []) (An.s (An.r []) (An.dc [0, 1, 2, 3, 4, 5, 6, 7, 8, 9, 10, 11, 12, 13, 14, 15] [15] [])))))) (An.r [])))))) (An.s (An.r []) An.o)))))
def c_ref02_words (t0 : Value) (w : World) (R : KR) : Prop :=
 efP P (Instr.alloc T_a64_uint32 true (.tuple #[])) w fun t2 w =>
 efP P (Instr.alloc T_a64_uint32 true (.tuple #[])) w fun t3 w =>
 lp1 (.int .i64 0) w fun _ t4 w again0 =>
 bi .lss t4 (.int .i64 16) fun t12 =>
 cnd t12
 (lp1 (.int .i64 0) w fun _ t5 w again1 =>
 bi .lss t5 (.int .i64 4) fun t16 =>
 cnd t16
 (drH w fun S w =>
 ixa 64 1 t3 t4 fun t21 =>
 rdS S (fun w => ld1 t21 w.heap) fun t22 =>
 bi .mul t22 (.int .u32 256) fun t23 =>
 bi .mul (.int .i64 4) t4 fun t26 =>
 bi .add t26 t5 fun t28 =>
 ixs 1 t0 t28 fun t29 =>
 rdS S (fun w => ld1 t29 w.heap) fun t30 =>
 cvi .u32 t30 fun t31 =>
 bi .add t23 t31 fun t32 =>
 ixa 64 1 t3 t4 fun t33 =>
 efC (fun w K => st1 t33 t32 w (K undef)) w fun S _ w =>
 bi .add t5 (.int .i64 1) fun t18 =>
 again1 t18 w)
 (bi .add t4 (.int .i64 1) fun t14 =>
 again0 t14 w))
 (lp1 (.int .i64 16) w fun _ t6 w again2 =>
 bi .lss t6 (.int .i64 64) fun t35 =>
 cnd t35
 (bi .sub t6 (.int .i64 15) fun t39 =>
 ixa 64 1 t3 t39 fun t40 =>
 ld1 t40 w.heap fun t41 =>
 bi .sub t6 (.int .i64 2) fun t43 =>
 ixa 64 1 t3 t43 fun t44 =>
 ld1 t44 w.heap fun t45 =>
 cal P f_ref02_turned [t41, (.int .u64 7)] w fun t47 w =>
 cal P f_ref02_turned [t41, (.int .u64 18)] w fun t49 w =>
 bi .xor t47 t49 fun t50 =>
 sh .shr t41 (.int .u64 3) fun t52 =>
 bi .xor t50 t52 fun t53 =>
 cal P f_ref02_turned [t45, (.int .u64 17)] w fun t55 w =>
 cal P f_ref02_turned [t45, (.int .u64 19)] w fun t57 w =>
 bi .xor t55 t57 fun t58 =>
 sh .shr t45 (.int .u64 10) fun t60 =>
 bi .xor t58 t60 fun t61 =>
 drH w fun S w =>
 bi .sub t6 (.int .i64 7) fun t65 =>
 ixa 64 1 t3 t65 fun t66 =>
 rdS S (fun w => ld1 t66 w.heap) fun t67 =>
 bi .add t61 t67 fun t68 =>
 bi .add t68 t53 fun t70 =>
 bi .sub t6 (.int .i64 16) fun t72 =>
 ixa 64 1 t3 t72 fun t73 =>
 rdS S (fun w => ld1 t73 w.heap) fun t74 =>
 bi .add t70 t74 fun t75 =>
 ixa 64 1 t3 t6 fun t76 =>
 efC (fun w K => st1 t76 t75 w (K undef)) w fun S _ w =>
 bi .add t6 (.int .i64 1) fun t37 =>
 again2 t37 w)
 (ldN 64 t3 w.heap fun t77 =>
 stN 64 t2 t77 w fun w =>
 ldN 64 t2 w.heap fun r3 =>
 R r3 w))
theorem k_ref02_words : kO Tryz.f110 A_ref02_words = true := by kernel_rfl
theorem s_ref02_words (h : SQ Q (c_ref02_words t0 w)) : cal P f_ref02_words [t0] w Q := sO Tryz.func110 rfl (by kernel_rfl) k_ref02_words (by kernel_rfl) h

/-- flurry/flurryref02.constants -/
def A_ref02_constants : An := (An.s (An.r []) (An.s (An.r []) An.o))
def c_ref02_constants (w : World) (R : KR) : Prop :=
 efP P (Instr.alloc T_a64_uint32 true (.tuple #[])) w fun t0 w =>
 rdP P (Instr.build T_a64_uint32 #[(0, (.int .u32 1116352408)), (1, (.int .u32 1899447441)), (2, (.int .u32 3049323471)), (3, (.int .u32 3921009573)), (4, (.int .u32 961987163)), (5, (.int .u32 1508970993)), (6, (.int .u32 2453635748)), (7, (.int .u32 2870763221)), (8, (.int .u32 3624381080)), (9, (.int .u32 310598401)), (10, (.int .u32 607225278)), (11, (.int .u32 1426881987)), (12, (.int .u32 1925078388)), (13, (.int .u32 2162078206)), (14, (.int .u32 2614888103)), (15, (.int .u32 3248222580)), (16, (.int .u32 3835390401)), (17, (.int .u32 4022224774)), (18, (.int .u32 264347078)), (19, (.int .u32 604807628)), (20, (.int .u32 770255983)), (21, (.int .u32 1249150122)), (22, (.int .u32 1555081692)), (23, (.int .u32 1996064986)), (24, (.int .u32 2554220882)), (25, (.int .u32 2821834349)), (26, (.int .u32 2952996808)), (27, (.int .u32 3210313671)), (28, (.int .u32 3336571891)), (29, (.int .u32 3584528711)), (30, (.int .u32 113926993)), (31, (.int .u32 338241895)), (32, (.int .u32 666307205)), (33, (.int .u32 773529912)), (34, (.int .u32 1294757372)), (35, (.int .u32 1396182291)), (36, (.int .u32 1695183700)), (37, (.int .u32 1986661051)), (38, (.int .u32 2177026350)), (39, (.int .u32 2456956037)), (40, (.int .u32 2730485921)), (41, (.int .u32 2820302411)), (42, (.int .u32 3259730800)), (43, (.int .u32 3345764771)), (44, (.int .u32 3516065817)), (45, (.int .u32 3600352804)), (46, (.int .u32 4094571909)), (47, (.int .u32 275423344)), (48, (.int .u32 430227734)), (49, (.int .u32 506948616)), (50, (.int .u32 659060556)), (51, (.int .u32 883997877)), (52, (.int .u32 958139571)), (53, (.int .u32 1322822218)), (54, (.int .u32 1537002063)), (55, (.int .u32 1747873779)), (56, (.int .u32 1955562222)), (57, (.int .u32 2024104815)), (58, (.int .u32 2227730452)), (59, (.int .u32 2361852424)), (60, (.int .u32 2428436474)), (61, (.int .u32 2756734187)), (62, (.int .u32 3204031479)), (63, (.int .u32 3329325298))]) w fun t1 =>
 stN 64 t0 t1 w fun w =>
 ldN 64 t0 w.heap fun r0 =>
 R r0 w
theorem k_ref02_constants : kO Tryz.f111 A_ref02_constants = true := by kernel_rfl
theorem s_ref02_constants (h : SQ Q (c_ref02_constants w)) : cal P f_ref02_constants [] w Q := sO Tryz.func111 rfl (by kernel_rfl) k_ref02_constants (by kernel_rfl) h

/-- flurry/flurryref02.turned -/
def A_ref02_turned : An := (An.s (An.r []) (An.s (An.r []) An.o))
def c_ref02_turned (t0 t1 : Value) (w : World) (R : KR) : Prop :=
 sh .shr t0 t1 fun t7 =>
 bi .sub (.int .u64 32) t1 fun t10 =>
 sh .shl t0 t10 fun t11 =>
 bi .or t7 t11 fun t12 =>
 R t12 w
theorem k_ref02_turned : kO Tryz.f112 A_ref02_turned = true := by kernel_rfl
theorem s_ref02_turned (h : SQ Q (c_ref02_turned t0 t1 w)) : cal P f_ref02_turned [t0, t1] w Q := sO Tryz.func112 rfl (by kernel_rfl) k_ref02_turned (by kernel_rfl) h

/-- flurry/flurryref01.Val -/
def A_ref01_Val : An := (An.s (An.r []) (An.s (An.r []) (An.s (An.s (An.r []) (An.b (An.l [3, 4] (An.s (An.s (An.r []) (An.s An.o An.o)) (An.s (An.b (An.r [])) (An.r [])))))) (An.s (An.r []) An.o))))
def c_ref01_Val (t0 : Value) (w : World) (R : KR) : Prop :=
 lp2 (.int .u64 0) (.int .i64 0) w fun _ t3 t4 w again0 =>
 lenS t0 fun t7 =>
 bi .lss t4 t7 fun t8 =>
 cnd t8
 (bi .mul (.int .u64 256) t3 fun t12 =>
 ixs 1 t0 t4 fun t15 =>
 ld1 t15 w.heap fun t16 =>
 cvi .u64 t16 fun t17 =>
 bi .add t12 t17 fun t18 =>
 bi .add t4 (.int .i64 1) fun t10 =>
 again0 t18 t10 w)
 (R t3 w)
theorem k_ref01_Val : kO Tryz.f113 A_ref01_Val = true := by kernel_rfl
theorem s_ref01_Val (h : SQ Q (c_ref01_Val t0 w)) : cal P f_ref01_Val [t0] w Q := sO Tryz.func113 rfl (by kernel_rfl) k_ref01_Val (by kernel_rfl) h

/-- flurry/flurryref03.Parse -/
def A_ref03_Parse : An := (An.s (An.r []) (An.s (An.s (An.r []) (An.s (An.s (An.r []) An.o) An.o)) (An.s (An.dt (Pl.step 0 (Pl.step 1 (Pl.step 4 (Pl.step 5 (Pl.br (Pl.alt 2 (Pl.step 3 (Pl.step 6 (Pl.step 7 (Pl.step 8 Pl.nil)))) (Pl.alt 7 (Pl.step 2 (Pl.step 3 (Pl.step 6 (Pl.step 8 Pl.nil)))) Pl.non))))))) [2, 8] [4]) (An.s (An.s (An.r []) (An.b (An.l [5] (An.s (An.s (An.r []) (An.s An.o An.o)) (An.s (An.b (An.r [])) (An.r [])))))) (An.s (An.r []) (An.s (An.s (An.r [[43]]) (An.s (An.s (An.r []) An.o) An.o)) (An.s (An.r []) An.o)))))))
def c_ref03_Parse (t0 : Value) (w : World) (R : KR) : Prop :=
 efP P (Instr.alloc T_api_Block true (.tuple #[])) w fun t2 w =>
 lenS t0 fun t9 =>
 bi .lss t9 (.int .i64 46) fun t10 =>
 cnd t10
 (rdP P (Instr.build T_api_Block #[]) w fun t11 =>
 stN 34 t2 t11 w fun w =>
 ldN 34 t2 w.heap fun r0 =>
 R (.tuple #[r0, (.int .i64 30)]) w)
 (drH w fun S w =>
 jn1 (fun k1 =>
 slc 1 t0 (some (.int .i64 34)) (some (.int .i64 42)) fun t13 =>
 slc 1 t0 (some (.int .i64 46)) none fun t17 =>
 (efC (cal P f_ref01_Val [t13]) w fun S t14_1 w =>
 cvi .i64 t14_1 fun t15_1 =>
 rdS S (rdP P (Instr.build T_api_Block #[(1, t15_1), (2, t17)])) fun t18_1 =>
 efS S (efP P (Instr.alloc T_api_Block true (.tuple #[]))) w fun t4_1 w =>
 efC (fun w K => stN 34 t4_1 t18_1 w (K undef)) w fun S _ w =>
 k1 t4_1 w) ∧
 ((efS S (efP P (Instr.alloc T_api_Block true (.tuple #[]))) w fun t4 w =>
 efC (cal P f_ref01_Val [t13]) w fun S t14 w =>
 cvi .i64 t14 fun t15 =>
 rdS S (rdP P (Instr.build T_api_Block #[(1, t15), (2, t17)])) fun t18 =>
 efC (fun w K => stN 34 t4 t18 w (K undef)) w fun S _ w =>
 k1 t4 w) ∧
 (True))) fun _ t4_2 w =>
 lp1 (.int .i64 0) w fun _ t5 w again2 =>
 bi .lss t5 (.int .i64 32) fun t20 =>
 cnd t20
 (bi .add (.int .i64 2) t5 fun t26 =>
 ixs 1 t0 t26 fun t27 =>
 ld1 t27 w.heap fun t28 =>
 fad 0 t4_2 fun t29 =>
 ixa 32 1 t29 t5 fun t30 =>
 st1 t30 t28 w fun w =>
 bi .add t5 (.int .i64 1) fun t22 =>
 again2 t22 w)
 (ldN 34 t4_2 w.heap fun t32 =>
 cal P f_ref03_Bytes [t32] w fun t33 w =>
 ext 0 t33 fun t34 =>
 ext 1 t33 fun t35 =>
 bi .neq t35 (.int .i64 0) fun t37 =>
 jn1 (fun k3 =>
 gif t37 false
 (rdP P (convert T_sl_uint8 T_string t34) w fun t40 =>
 rdP P (convert T_sl_uint8 T_string t0) w fun t42 =>
 rdP P (eqS .neq T_string (Operand.tmp 40) (Operand.tmp 42) t40 t42) w fun t43 =>
 k3 t43 w)
 (k3 undef w)) fun _ t43_1 w =>
 pik t37 (.bool true) t43_1 fun t44 =>
 cnd t44
 (rdP P (Instr.build T_api_Block #[]) w fun t45 =>
 stN 34 t2 t45 w fun w =>
 ldN 34 t2 w.heap fun r4 =>
 R (.tuple #[r4, (.int .i64 30)]) w)
 (ldN 34 t4_2 w.heap fun t46 =>
 cal P f_ref03_Clone [t46] w fun t47 w =>
 stN 34 t2 t47 w fun w =>
 ldN 34 t2 w.heap fun r5 =>
 R (.tuple #[r5, (.int .i64 0)]) w)))
theorem k_ref03_Parse : kO Tryz.f114 A_ref03_Parse = true := by kernel_rfl
theorem s_ref03_Parse (h : SQ Q (c_ref03_Parse t0 w)) : cal P f_ref03_Parse [t0] w Q := sO Tryz.func114 rfl (by kernel_rfl) k_ref03_Parse (by kernel_rfl) h

/-- (*flurry/pack.Packer).works -/
def A_pack_Packer_works : An := (An.s (An.r []) (An.s (An.r [[10], [18]]) An.o))
def c_pack_Packer_works (t0 : Value) (w : World) (R : KR) : Prop :=
 nilP true t0 fun t4 =>
 jn1 (fun k0 =>
 gif t4 true
 (nilc t0 fun t7 =>
 fad 0 t7 fun t8 =>
 fad 0 t8 fun t9 =>
 ld1 t9 w.heap fun t10 =>
 k0 t10 w)
 (k0 undef w)) fun _ t10_1 w =>
 pik t4 t10_1 (.bool false) fun t11 =>
 jn1 (fun k1 =>
 gif t11 true
 (nilc t0 fun t14 =>
 fad 0 t14 fun t15 =>
 fad 2 t15 fun t16 =>
 ld1 t16 w.heap fun t17 =>
 bi .eql t17 (.int .i64 0) fun t18 =>
 k1 t18 w)
 (k1 undef w)) fun _ t18_1 w =>
 pik t11 t18_1 (.bool false) fun t19 =>
 R t19 w
theorem k_pack_Packer_works : kO Tryz.f115 A_pack_Packer_works = true := by kernel_rfl
theorem s_pack_Packer_works (h : SQ Q (c_pack_Packer_works t0 w)) : cal P f_pack_Packer_works [t0] w Q := sO Tryz.func115 rfl (by kernel_rfl) k_pack_Packer_works (by kernel_rfl) h

/-- (*flurry/pack.kept).fails -/
def A_pack_kept_fails : An := (An.s (An.r []) (An.s (An.r []) An.o))
def c_pack_kept_fails (t0 t1 : Value) (w : World) (R : KR) : Prop :=
 nilc t0 fun t5 =>
 fad 2 t5 fun t6 =>
 ld1 t6 w.heap fun t7 =>
 bi .eql t7 (.int .i64 0) fun t8 =>
 cnd t8
 (nilc t0 fun t11 =>
 fad 2 t11 fun t12 =>
 st1 t12 t1 w fun w =>
 R (.tuple #[]) w)
 (R (.tuple #[]) w)
theorem k_pack_kept_fails : kO Tryz.f116 A_pack_kept_fails = true := by kernel_rfl
theorem s_pack_kept_fails (h : SQ Q (c_pack_kept_fails t0 t1 w)) : cal P f_pack_kept_fails [t0, t1] w Q := sO Tryz.func116 rfl (by kernel_rfl) k_pack_kept_fails (by kernel_rfl) h

/-- flurry/sha.first -/
def A_sha_first : An := (An.s (An.r []) (An.s (An.r []) An.o))
def c_sha_first (w : World) (R : KR) : Prop :=
 efP P (Instr.alloc T_a8_uint32 true (.tuple #[])) w fun t0 w =>
 rdP P (Instr.build T_a8_uint32 #[(0, (.int .u32 1779033703)), (1, (.int .u32 3144134277)), (2, (.int .u32 1013904242)), (3, (.int .u32 2773480762)), (4, (.int .u32 1359893119)), (5, (.int .u32 2600822924)), (6, (.int .u32 528734635)), (7, (.int .u32 1541459225))]) w fun t1 =>
 stN 8 t0 t1 w fun w =>
 ldN 8 t0 w.heap fun r0 =>
 R r0 w
theorem k_sha_first : kO Tryz.f117 A_sha_first = true := by kernel_rfl
theorem s_sha_first (h : SQ Q (c_sha_first w)) : cal P f_sha_first [] w Q := sO Tryz.func117 rfl (by kernel_rfl) k_sha_first (by kernel_rfl) h

/-- (*flurry/sha.State).none -/
def A_sha_State_none : An := (An.s (An.r []) (An.s (An.r [[10]]) An.o))
def c_sha_State_none (t0 : Value) (w : World) (R : KR) : Prop :=
 nilP false t0 fun t4 =>
 jn1 (fun k0 =>
 gif t4 false
 (nilc t0 fun t7 =>
 fad 10 t7 fun t8 =>
 ld1 t8 w.heap fun t9 =>
 notB t9 fun t10 =>
 k0 t10 w)
 (k0 undef w)) fun _ t10_1 w =>
 pik t4 (.bool true) t10_1 fun t11 =>
 R t11 w
theorem k_sha_State_none : kO Tryz.f118 A_sha_State_none = true := by kernel_rfl
theorem s_sha_State_none (h : SQ Q (c_sha_State_none t0 w)) : cal P f_sha_State_none [t0] w Q := sO Tryz.func118 rfl (by kernel_rfl) k_sha_State_none (by kernel_rfl) h

/-- slices.Concat[[]byte,byte] -/
def A_slices_Concat_byte_byte : An := (An.s (An.r []) (An.s (An.r []) (An.s (An.s (An.r []) (An.b (An.l [3, 11] (An.s (An.r []) (An.s (An.s An.o An.o) (An.s (An.j [3] (An.b (An.s (An.r []) (An.s (An.r []) (An.s (An.r []) (An.s (An.r []) An.o)))))) (An.r []))))))) (An.s (An.r []) (An.s (An.s (An.r []) (An.b (An.l [6, 27] (An.s (An.r []) (An.s (An.s An.o An.o) (An.s (An.b (An.s (An.r []) (An.r []))) (An.r []))))))) (An.s (An.r []) An.o))))))
def c_slices_Concat_byte_byte (t0 : Value) (w : World) (R : KR) : Prop :=
 lenS t0 fun t10 =>
 lp2 (.int .i64 0) (.int .i64 0) w fun _ t3 t11 w again0 =>
 bi .lss t11 t10 fun t12 =>
 cnd t12
 (jn1 (fun k1 =>
 ixs 1 t0 t11 fun t13 =>
 ld1 t13 w.heap fun t14 =>
 lenS t14 fun t17 =>
 bi .add t3 t17 fun t18 =>
 bi .lss t18 (.int .i64 0) fun t20 =>
 cnd t20
 (rdP P (Instr.makeInterface T_string (.string { data := #[108, 101, 110, 32, 111, 117, 116, 32, 111, 102, 32, 114, 97, 110, 103, 101] })) w fun t21 =>
 False)
 (k1 t18 w)) fun _ t3_1 w =>
 bi .add t11 (.int .i64 1) fun t22 =>
 again0 t3_1 t22 w)
 (cal P f_slices_Grow_byte_byte [(.slice none 0 0), t3] w fun t24 w =>
 lenS t0 fun t26 =>
 lp2 t24 (.int .i64 0) w fun _ t6 t27 w again2 =>
 bi .lss t27 t26 fun t28 =>
 cnd t28
 (ixs 1 t0 t27 fun t29 =>
 ld1 t29 w.heap fun t30 =>
 efP P (Builtin.append_ #[T_sl_uint8, T_sl_uint8] T_sl_uint8 #[t6, t30]) w fun t33 w =>
 bi .add t27 (.int .i64 1) fun t34 =>
 again2 t33 t34 w)
 (R t6 w))
theorem k_slices_Concat_byte_byte : kO Tryz.f119 A_slices_Concat_byte_byte = true := by kernel_rfl
theorem s_slices_Concat_byte_byte (h : SQ Q (c_slices_Concat_byte_byte t0 w)) : cal P f_slices_Concat_byte_byte [t0] w Q := sO Tryz.func119 rfl (by kernel_rfl) k_slices_Concat_byte_byte (by kernel_rfl) h

/-- flurry/sha.mixed -/
def A_sha_mixed : An := (An.s (An.r []) (An.s (An.r []) (An.s (An.s (An.r []) (An.b (An.l [18] (An.s (An.r []) (An.s (An.s An.o An.o) (An.s (An.b (An.s (An.r []) (An.s (An.r []) (An.s (An.r []) (An.s (An.r []) (An.s (An.r []) (An.s (An.r []) (An.r [])))))))) (An.r []))))))) (An.s (An.s (An.r []) (An.b (An.l [99] (An.s (An.r []) (An.s (An.s An.o An.o) (An.s (An.b (An.s (An.r []) (An.dc [0, 1, 2, 3, 4, 5, 6, 7, 8] [8] []))) (An.r []))))))) (An.s (An.r []) An.o)))))
def c_sha_mixed (t0 t1 : Value) (w : World) (R : KR) : Prop :=
 bx T_a8_uint32 t0 w fun t2 w =>
 efP P (Instr.alloc T_a8_uint32 true (.tuple #[])) w fun t4 w =>
 ldN 8 t2 w.heap fun t15 =>
 efP P (Instr.alloc T_a8_uint32 true (.tuple #[])) w fun t5 w =>
 stN 8 t5 t15 w fun w =>
 cal P f_sha_schedule [t1] w fun t17 w =>
 lp1 (.int .i64 0) w fun _ t18 w again0 =>
 bi .lss t18 (.int .i64 64) fun t19 =>
 cnd t19
 (ixv 64 1 false t17 t18 fun t21 =>
 drw w fun w =>
 ixa 8 1 t5 (.int .i64 0) fun t22 =>
 ld1 t22 w.heap fun t23 =>
 ixa 8 1 t5 (.int .i64 4) fun t24 =>
 ld1 t24 w.heap fun t25 =>
 cal P f_math_bits_RotateLeft32 [t25, (.int .i64 (-6))] w fun t27 w =>
 cal P f_math_bits_RotateLeft32 [t25, (.int .i64 (-11))] w fun t29 w =>
 bi .xor t27 t29 fun t30 =>
 cal P f_math_bits_RotateLeft32 [t25, (.int .i64 (-25))] w fun t32 w =>
 bi .xor t30 t32 fun t33 =>
 drw w fun w =>
 ixa 8 1 t5 (.int .i64 7) fun t34 =>
 ld1 t34 w.heap fun t35 =>
 bi .add t35 t33 fun t37 =>
 ixa 8 1 t5 (.int .i64 5) fun t39 =>
 ld1 t39 w.heap fun t40 =>
 bi .and t25 t40 fun t41 =>
 rdP P (Op.unary UnOp.xor t25) w fun t43 =>
 ixa 8 1 t5 (.int .i64 6) fun t44 =>
 ld1 t44 w.heap fun t45 =>
 bi .and t43 t45 fun t46 =>
 bi .xor t41 t46 fun t47 =>
 bi .add t37 t47 fun t48 =>
 ixa 64 1 (.pointer (some ⟨0, 0, none⟩)) t18 fun t50 =>
 ld1 t50 w.heap fun t51 =>
 bi .add t48 t51 fun t52 =>
 bi .add t52 t21 fun t54 =>
 cal P f_math_bits_RotateLeft32 [t23, (.int .i64 (-2))] w fun t56 w =>
 cal P f_math_bits_RotateLeft32 [t23, (.int .i64 (-13))] w fun t58 w =>
 bi .xor t56 t58 fun t59 =>
 cal P f_math_bits_RotateLeft32 [t23, (.int .i64 (-22))] w fun t61 w =>
 bi .xor t59 t61 fun t62 =>
 ixa 8 1 t5 (.int .i64 1) fun t65 =>
 ld1 t65 w.heap fun t66 =>
 bi .and t23 t66 fun t67 =>
 ixa 8 1 t5 (.int .i64 2) fun t69 =>
 ld1 t69 w.heap fun t70 =>
 bi .and t23 t70 fun t71 =>
 bi .xor t67 t71 fun t72 =>
 ixa 8 1 t5 (.int .i64 1) fun t73 =>
 ld1 t73 w.heap fun t74 =>
 ixa 8 1 t5 (.int .i64 2) fun t75 =>
 ld1 t75 w.heap fun t76 =>
 bi .and t74 t76 fun t77 =>
 bi .xor t72 t77 fun t78 =>
 bi .add t62 t78 fun t79 =>
 bi .add t54 t79 fun t82 =>
 ixa 8 1 t5 (.int .i64 1) fun t84 =>
 ld1 t84 w.heap fun t85 =>
 ixa 8 1 t5 (.int .i64 2) fun t86 =>
 ld1 t86 w.heap fun t87 =>
 ixa 8 1 t5 (.int .i64 3) fun t88 =>
 ld1 t88 w.heap fun t89 =>
 bi .add t89 t54 fun t91 =>
 ixa 8 1 t5 (.int .i64 5) fun t93 =>
 ld1 t93 w.heap fun t94 =>
 ixa 8 1 t5 (.int .i64 6) fun t95 =>
 ld1 t95 w.heap fun t96 =>
 rdP P (Instr.build T_a8_uint32 #[(0, t82), (1, t23), (2, t85), (3, t87), (4, t91), (5, t25), (6, t94), (7, t96)]) w fun t97 =>
 stN 8 t5 t97 w fun w =>
 bi .add t18 (.int .i64 1) fun t98 =>
 again0 t98 w)
 (lp1 (.int .i64 0) w fun _ t99 w again1 =>
 bi .lss t99 (.int .i64 8) fun t100 =>
 cnd t100
 (drH w fun S w =>
 ixa 8 1 t2 t99 fun t103 =>
 rdS S (fun w => ld1 t103 w.heap) fun t104 =>
 ixa 8 1 t5 t99 fun t106 =>
 rdS S (fun w => ld1 t106 w.heap) fun t107 =>
 bi .add t104 t107 fun t108 =>
 ixa 8 1 t2 t99 fun t109 =>
 efC (fun w K => st1 t109 t108 w (K undef)) w fun S _ w =>
 bi .add t99 (.int .i64 1) fun t110 =>
 again1 t110 w)
 (ldN 8 t2 w.heap fun t111 =>
 stN 8 t4 t111 w fun w =>
 ldN 8 t4 w.heap fun r2 =>
 R r2 w))
theorem k_sha_mixed : kO Tryz.f120 A_sha_mixed = true := by kernel_rfl
theorem s_sha_mixed (h : SQ Q (c_sha_mixed t0 t1 w)) : cal P f_sha_mixed [t0, t1] w Q := sO Tryz.func120 rfl (by kernel_rfl) k_sha_mixed (by kernel_rfl) h

/-- flurry/pack.value -/
def A_pack_value : An := (An.s (An.r []) (An.s (An.r []) (An.s (An.s (An.r []) (An.b (An.l [3, 8] (An.s (An.r []) (An.s (An.s An.o An.o) (An.s (An.b (An.s (An.r []) (An.r []))) (An.r []))))))) (An.s (An.r []) An.o))))
def c_pack_value (t0 : Value) (w : World) (R : KR) : Prop :=
 lenS t0 fun t7 =>
 lp2 (.int .u64 0) (.int .i64 0) w fun _ t3 t8 w again0 =>
 bi .lss t8 t7 fun t9 =>
 cnd t9
 (ixs 1 t0 t8 fun t10 =>
 ld1 t10 w.heap fun t11 =>
 sh .shl t3 (.int .u64 8) fun t13 =>
 cvi .u64 t11 fun t15 =>
 bi .or t13 t15 fun t16 =>
 bi .add t8 (.int .i64 1) fun t17 =>
 again0 t16 t17 w)
 (R t3 w)
theorem k_pack_value : kO Tryz.f121 A_pack_value = true := by kernel_rfl
theorem s_pack_value (h : SQ Q (c_pack_value t0 w)) : cal P f_pack_value [t0] w Q := sO Tryz.func121 rfl (by kernel_rfl) k_pack_value (by kernel_rfl) h

/-- (*flurry/pack.Unpacker).take -/
def A_pack_Unpacker_take : An := (An.s (An.r []) (An.s (An.b (An.s (An.r []) (An.s (An.s (An.r []) An.o) (An.s (An.r []) (An.s (An.s (An.r []) (An.s (An.r []) An.o)) (An.s (An.r []) (An.s (An.s (An.r []) (An.s (An.r []) An.o)) An.o))))))) (An.s (An.r []) (An.s (An.r []) (An.s (An.r []) (An.s (An.r []) An.o))))))
def c_pack_Unpacker_take (t0 t1 : Value) (w : World) (R : KR) : Prop :=
 cal P f_pack_Unpacker_works [t0] w fun t8 w =>
 notB t8 fun t9 =>
 cnd t9
 (R (.slice none 0 0) w)
 (bi .lss t1 (.int .i64 0) fun t12 =>
 cnd t12
 (nilc t0 fun t14 =>
 fad 0 t14 fun t15 =>
 cal P f_pack_kept_fails [t15, (.int .i64 1)] w fun t16 w =>
 R (.slice none 0 0) w)
 (nilc t0 fun t20 =>
 fad 0 t20 fun t21 =>
 fad 1 t21 fun t22 =>
 ld1 t22 w.heap fun t23 =>
 lenS t23 fun t24 =>
 bi .gtr t1 t24 fun t25 =>
 cnd t25
 (nilc t0 fun t27 =>
 fad 0 t27 fun t28 =>
 cal P f_pack_kept_fails [t28, (.int .i64 11)] w fun t29 w =>
 R (.slice none 0 0) w)
 (efP P (Instr.makeSlice T_sl_uint8 t1 t1) w fun t31 w =>
 nilc t0 fun t34 =>
 fad 0 t34 fun t35 =>
 fad 1 t35 fun t36 =>
 ld1 t36 w.heap fun t37 =>
 efP P (Builtin.copy_ #[T_sl_uint8, T_sl_uint8] T_int #[t31, t37]) w fun t38 w =>
 nilc t0 fun t41 =>
 fad 0 t41 fun t42 =>
 fad 1 t42 fun t43 =>
 ld1 t43 w.heap fun t44 =>
 slc 1 t44 (some t1) none fun t46 =>
 nilc t0 fun t47 =>
 fad 0 t47 fun t48 =>
 fad 1 t48 fun t49 =>
 st1 t49 t46 w fun w =>
 R t31 w)))
theorem k_pack_Unpacker_take : kO Tryz.f122 A_pack_Unpacker_take = true := by kernel_rfl
theorem s_pack_Unpacker_take (h : SQ Q (c_pack_Unpacker_take t0 t1 w)) : cal P f_pack_Unpacker_take [t0, t1] w Q := sO Tryz.func122 rfl (by kernel_rfl) k_pack_Unpacker_take (by kernel_rfl) h

/-- (*flurry/pack.Unpacker).Short -/
def A_pack_Unpacker_Short : An := (An.s (An.r []) (An.s (An.r []) An.o))
def c_pack_Unpacker_Short (t0 : Value) (w : World) (R : KR) : Prop :=
 cal P f_pack_Unpacker_take [t0, (.int .i64 2)] w fun t4 w =>
 cal P f_pack_value [t4] w fun t5 w =>
 cvi .u16 t5 fun t6 =>
 R t6 w
theorem k_pack_Unpacker_Short : kO Tryz.f123 A_pack_Unpacker_Short = true := by kernel_rfl
theorem s_pack_Unpacker_Short (h : SQ Q (c_pack_Unpacker_Short t0 w)) : cal P f_pack_Unpacker_Short [t0] w Q := sO Tryz.func123 rfl (by kernel_rfl) k_pack_Unpacker_Short (by kernel_rfl) h

/-- (*flurry/pack.Unpacker).Fixed -/
def A_pack_Unpacker_Fixed : An := (An.s (An.r []) (An.s (An.r []) An.o))
def c_pack_Unpacker_Fixed (t0 t1 : Value) (w : World) (R : KR) : Prop :=
 cal P f_pack_Unpacker_take [t0, t1] w fun t7 w =>
 R t7 w
theorem k_pack_Unpacker_Fixed : kO Tryz.f124 A_pack_Unpacker_Fixed = true := by kernel_rfl
theorem s_pack_Unpacker_Fixed (h : SQ Q (c_pack_Unpacker_Fixed t0 t1 w)) : cal P f_pack_Unpacker_Fixed [t0, t1] w Q := sO Tryz.func124 rfl (by kernel_rfl) k_pack_Unpacker_Fixed (by kernel_rfl) h

/-- (*flurry/pack.Unpacker).Bytes -/
def A_pack_Unpacker_Bytes : An := (An.s (An.r []) (An.s (An.r []) An.o))
def c_pack_Unpacker_Bytes (t0 t1 : Value) (w : World) (R : KR) : Prop :=
 cal P f_pack_Unpacker_counted [t0, (.int .i64 4), t1] w fun t7 w =>
 R t7 w
theorem k_pack_Unpacker_Bytes : kO Tryz.f125 A_pack_Unpacker_Bytes = true := by kernel_rfl
theorem s_pack_Unpacker_Bytes (h : SQ Q (c_pack_Unpacker_Bytes t0 t1 w)) : cal P f_pack_Unpacker_Bytes [t0, t1] w Q := sO Tryz.func125 rfl (by kernel_rfl) k_pack_Unpacker_Bytes (by kernel_rfl) h

/-- (*flurry/pack.Unpacker).End -/
def A_pack_Unpacker_End : An := (An.s (An.r []) (An.s (An.s (An.r []) (An.s (An.r [[15]]) (An.s (An.s (An.r []) An.o) An.o))) (An.s (An.r []) An.o)))
def c_pack_Unpacker_End (t0 : Value) (w : World) (R : KR) : Prop :=
 cal P f_pack_Unpacker_Err [t0] w fun t5 w =>
 bi .neq t5 (.int .i64 0) fun t7 =>
 jn1 (fun k0 =>
 gif t7 false
 (nilc t0 fun t10 =>
 fad 0 t10 fun t11 =>
 fad 1 t11 fun t12 =>
 ld1 t12 w.heap fun t13 =>
 lenS t13 fun t14 =>
 bi .eql t14 (.int .i64 0) fun t15 =>
 k0 t15 w)
 (k0 undef w)) fun _ t15_1 w =>
 pik t7 (.bool true) t15_1 fun t16 =>
 cnd t16
 (R t5 w)
 (R (.int .i64 12) w)
theorem k_pack_Unpacker_End : kO Tryz.f126 A_pack_Unpacker_End = true := by kernel_rfl
theorem s_pack_Unpacker_End (h : SQ Q (c_pack_Unpacker_End t0 w)) : cal P f_pack_Unpacker_End [t0] w Q := sO Tryz.func126 rfl (by kernel_rfl) k_pack_Unpacker_End (by kernel_rfl) h

/-- flurry/block.made -/
def A_block_made : An := (An.s (An.r []) (An.s (An.s (An.r []) (An.s (An.r []) (An.s (An.s (An.r []) An.o) An.o))) (An.s (An.r []) An.o)))
def c_block_made (t0 : Value) (w : World) (R : KR) : Prop :=
 bx T_api_Block t0 w fun t1 w =>
 efP P (Instr.alloc T_api_Block true (.tuple #[])) w fun t2 w =>
 ldN 34 t1 w.heap fun t5 =>
 cal P f_block_Check [t5] w fun t6 w =>
 bi .neq t6 (.int .i64 0) fun t8 =>
 cnd t8
 (rdP P (Instr.build T_api_Block #[]) w fun t9 =>
 stN 34 t2 t9 w fun w =>
 ldN 34 t2 w.heap fun r0 =>
 R (.tuple #[r0, t6]) w)
 (ldN 34 t1 w.heap fun t11 =>
 cal P f_block_Clone [t11] w fun t12 w =>
 stN 34 t2 t12 w fun w =>
 ldN 34 t2 w.heap fun r1 =>
 R (.tuple #[r1, (.int .i64 0)]) w)
theorem k_block_made : kO Tryz.f127 A_block_made = true := by kernel_rfl
theorem s_block_made (h : SQ Q (c_block_made t0 w)) : cal P f_block_made [t0] w Q := sO Tryz.func127 rfl (by kernel_rfl) k_block_made (by kernel_rfl) h

/-- slices.Grow[[]byte,byte] -/
def A_slices_Grow_byte_byte : An := (An.s (An.r []) (An.s (An.j [] (An.s (An.r []) (An.s (An.r []) An.o))) (An.s (An.s (An.r []) (An.s (An.r []) (An.s (An.r []) An.o))) (An.s (An.r []) An.o))))
def c_slices_Grow_byte_byte (t0 t1 : Value) (w : World) (R : KR) : Prop :=
 jn0 (fun k0 =>
 bi .lss t1 (.int .i64 0) fun t6 =>
 cnd t6
 (rdP P (Instr.makeInterface T_string (.string { data := #[99, 97, 110, 110, 111, 116, 32, 98, 101, 32, 110, 101, 103, 97, 116, 105, 118, 101] })) w fun t7 =>
 False)
 (k0 w)) fun _ w =>
 rdP P (Builtin.cap_ #[T_sl_uint8] T_int #[t0]) w fun t10 =>
 lenS t0 fun t12 =>
 bi .sub t10 t12 fun t13 =>
 bi .sub t1 t13 fun t14 =>
 bi .gtr t14 (.int .i64 0) fun t16 =>
 cnd t16
 (rdP P (Builtin.cap_ #[T_sl_uint8] T_int #[t0]) w fun t19 =>
 slc 1 t0 none (some t19) fun t20 =>
 efP P (Builtin.append_ #[T_sl_uint8, T_int] T_sl_uint8 #[t20, t14]) w fun t22 w =>
 lenS t0 fun t24 =>
 slc 1 t22 none (some t24) fun t25 =>
 R t25 w)
 (R t0 w)
theorem k_slices_Grow_byte_byte : kO Tryz.f128 A_slices_Grow_byte_byte = true := by kernel_rfl
theorem s_slices_Grow_byte_byte (h : SQ Q (c_slices_Grow_byte_byte t0 t1 w)) : cal P f_slices_Grow_byte_byte [t0, t1] w Q := sO Tryz.func128 rfl (by kernel_rfl) k_slices_Grow_byte_byte (by kernel_rfl) h

/-- flurry/sha.schedule -/
def A_sha_schedule : An := (An.s (An.r []) (An.s (An.r []) (An.s (An.s (An.r []) (An.b (An.l [9] (An.s (An.r []) (An.s (An.s An.o An.o) (An.s (An.j [] (An.b (An.s (An.r []) (An.s (An.s (An.r []) (An.s (An.s (An.dc [0, 1, 2, 3, 4, 5, 6, 7, 8, 9, 10, 11, 12, 13, 14, 15, 16, 17, 18, 19, 20, 21, 22, 23, 24, 25, 26, 27, 28, 29, 30, 31, 32, 33, 34, 35] [35] []) An.o) An.o)) (An.s (An.r []) (An.s (An.r []) (An.s (An.r []) (An.dc [0, 1, 2, 3, 4, 5, 6, 7, 8, 9, 10, 11, 12, 13, 14, 15] [15] [])))))))) (An.r []))))))) (An.s (An.r []) An.o))))
def c_sha_schedule (t0 : Value) (w : World) (R : KR) : Prop :=
 efP P (Instr.alloc T_a64_uint32 true (.tuple #[])) w fun t2 w =>
 efP P (Instr.alloc T_a64_uint32 true (.tuple #[])) w fun t3 w =>
 lp1 (.int .i64 0) w fun _ t9 w again0 =>
 bi .lss t9 (.int .i64 64) fun t10 =>
 cnd t10
 (jn0 (fun k1 =>
 bi .lss t9 (.int .i64 16) fun t13 =>
 cnd t13
 (drH w fun S w =>
 bi .mul (.int .i64 4) t9 fun t17 =>
 ixs 1 t0 t17 fun t18 =>
 rdS S (fun w => ld1 t18 w.heap) fun t19 =>
 cvi .u32 t19 fun t20 =>
 sh .shl t20 (.int .u64 24) fun t21 =>
 bi .mul (.int .i64 4) t9 fun t24 =>
 bi .add t24 (.int .i64 1) fun t25 =>
 ixs 1 t0 t25 fun t26 =>
 rdS S (fun w => ld1 t26 w.heap) fun t27 =>
 cvi .u32 t27 fun t28 =>
 sh .shl t28 (.int .u64 16) fun t29 =>
 bi .or t21 t29 fun t30 =>
 bi .mul (.int .i64 4) t9 fun t33 =>
 bi .add t33 (.int .i64 2) fun t34 =>
 ixs 1 t0 t34 fun t35 =>
 rdS S (fun w => ld1 t35 w.heap) fun t36 =>
 cvi .u32 t36 fun t37 =>
 sh .shl t37 (.int .u64 8) fun t38 =>
 bi .or t30 t38 fun t39 =>
 bi .mul (.int .i64 4) t9 fun t42 =>
 bi .add t42 (.int .i64 3) fun t43 =>
 ixs 1 t0 t43 fun t44 =>
 rdS S (fun w => ld1 t44 w.heap) fun t45 =>
 cvi .u32 t45 fun t46 =>
 bi .or t39 t46 fun t47 =>
 ixa 64 1 t3 t9 fun t48 =>
 efC (fun w K => st1 t48 t47 w (K undef)) w fun S _ w =>
 k1 w)
 (drw w fun w =>
 bi .sub t9 (.int .i64 15) fun t50 =>
 ixa 64 1 t3 t50 fun t51 =>
 ld1 t51 w.heap fun t52 =>
 bi .sub t9 (.int .i64 2) fun t54 =>
 ixa 64 1 t3 t54 fun t55 =>
 ld1 t55 w.heap fun t56 =>
 cal P f_math_bits_RotateLeft32 [t52, (.int .i64 (-7))] w fun t58 w =>
 cal P f_math_bits_RotateLeft32 [t52, (.int .i64 (-18))] w fun t60 w =>
 bi .xor t58 t60 fun t61 =>
 sh .shr t52 (.int .u64 3) fun t63 =>
 bi .xor t61 t63 fun t64 =>
 cal P f_math_bits_RotateLeft32 [t56, (.int .i64 (-17))] w fun t66 w =>
 cal P f_math_bits_RotateLeft32 [t56, (.int .i64 (-19))] w fun t68 w =>
 bi .xor t66 t68 fun t69 =>
 sh .shr t56 (.int .u64 10) fun t71 =>
 bi .xor t69 t71 fun t72 =>
 drH w fun S w =>
 bi .sub t9 (.int .i64 7) fun t76 =>
 ixa 64 1 t3 t76 fun t77 =>
 rdS S (fun w => ld1 t77 w.heap) fun t78 =>
 bi .add t72 t78 fun t79 =>
 bi .add t79 t64 fun t81 =>
 bi .sub t9 (.int .i64 16) fun t83 =>
 ixa 64 1 t3 t83 fun t84 =>
 rdS S (fun w => ld1 t84 w.heap) fun t85 =>
 bi .add t81 t85 fun t86 =>
 ixa 64 1 t3 t9 fun t87 =>
 efC (fun w K => st1 t87 t86 w (K undef)) w fun S _ w =>
 k1 w)) fun _ w =>
 bi .add t9 (.int .i64 1) fun t88 =>
 again0 t88 w)
 (ldN 64 t3 w.heap fun t89 =>
 stN 64 t2 t89 w fun w =>
 ldN 64 t2 w.heap fun r2 =>
 R r2 w)
theorem k_sha_schedule : kO Tryz.f129 A_sha_schedule = true := by kernel_rfl
theorem s_sha_schedule (h : SQ Q (c_sha_schedule t0 w)) : cal P f_sha_schedule [t0] w Q := sO Tryz.func129 rfl (by kernel_rfl) k_sha_schedule (by kernel_rfl) h

/-- math/bits.RotateLeft32 -/
def A_math_bits_RotateLeft32 : An := (An.s (An.r []) (An.s (An.r []) (An.s (An.r []) An.o)))
def c_math_bits_RotateLeft32 (t0 t1 : Value) (w : World) (R : KR) : Prop :=
 cvi .u64 t1 fun t7 =>
 bi .and t7 (.int .u64 31) fun t8 =>
 sh .shl t0 t8 fun t11 =>
 bi .sub (.int .u64 32) t8 fun t14 =>
 sh .shr t0 t14 fun t15 =>
 bi .or t11 t15 fun t16 =>
 R t16 w
theorem k_math_bits_RotateLeft32 : kO Tryz.f130 A_math_bits_RotateLeft32 = true := by kernel_rfl
theorem s_math_bits_RotateLeft32 (h : SQ Q (c_math_bits_RotateLeft32 t0 t1 w)) : cal P f_math_bits_RotateLeft32 [t0, t1] w Q := sO Tryz.func130 rfl (by kernel_rfl) k_math_bits_RotateLeft32 (by kernel_rfl) h

/-- (*flurry/pack.Unpacker).works -/
def A_pack_Unpacker_works : An := (An.s (An.r []) (An.s (An.r [[10], [18]]) An.o))
def c_pack_Unpacker_works (t0 : Value) (w : World) (R : KR) : Prop :=
 nilP true t0 fun t4 =>
 jn1 (fun k0 =>
 gif t4 true
 (nilc t0 fun t7 =>
 fad 0 t7 fun t8 =>
 fad 0 t8 fun t9 =>
 ld1 t9 w.heap fun t10 =>
 k0 t10 w)
 (k0 undef w)) fun _ t10_1 w =>
 pik t4 t10_1 (.bool false) fun t11 =>
 jn1 (fun k1 =>
 gif t11 true
 (nilc t0 fun t14 =>
 fad 0 t14 fun t15 =>
 fad 2 t15 fun t16 =>
 ld1 t16 w.heap fun t17 =>
 bi .eql t17 (.int .i64 0) fun t18 =>
 k1 t18 w)
 (k1 undef w)) fun _ t18_1 w =>
 pik t11 t18_1 (.bool false) fun t19 =>
 R t19 w
theorem k_pack_Unpacker_works : kO Tryz.f131 A_pack_Unpacker_works = true := by kernel_rfl
theorem s_pack_Unpacker_works (h : SQ Q (c_pack_Unpacker_works t0 w)) : cal P f_pack_Unpacker_works [t0] w Q := sO Tryz.func131 rfl (by kernel_rfl) k_pack_Unpacker_works (by kernel_rfl) h

/-- (*flurry/pack.Unpacker).counted -/
def A_pack_Unpacker_counted : An := (An.s (An.r []) (An.s (An.s (An.r []) (An.s (An.s (An.r []) An.o) An.o)) (An.s (An.s (An.r []) (An.s (An.s (An.r []) (An.s (An.r []) An.o)) An.o)) (An.s (An.s (An.r []) (An.s (An.s (An.r []) (An.s (An.r []) An.o)) An.o)) (An.s (An.r []) (An.s (An.b (An.s (An.r []) (An.s (An.s (An.r []) (An.s (An.r []) An.o)) (An.s (An.r []) (An.s (An.s (An.r []) (An.s (An.r []) An.o)) An.o))))) (An.s (An.r []) (An.s (An.r []) An.o))))))))
def c_pack_Unpacker_counted (t0 t1 t2 : Value) (w : World) (R : KR) : Prop :=
 cal P f_pack_Unpacker_works [t0] w fun t9 w =>
 notB t9 fun t10 =>
 cnd t10
 (R (.slice none 0 0) w)
 (bi .lss t2 (.int .i64 0) fun t12 =>
 cnd t12
 (nilc t0 fun t14 =>
 fad 0 t14 fun t15 =>
 cal P f_pack_kept_fails [t15, (.int .i64 1)] w fun t16 w =>
 R (.slice none 0 0) w)
 (nilc t0 fun t18 =>
 fad 0 t18 fun t19 =>
 fad 1 t19 fun t20 =>
 ld1 t20 w.heap fun t21 =>
 lenS t21 fun t22 =>
 bi .lss t22 t1 fun t24 =>
 cnd t24
 (nilc t0 fun t26 =>
 fad 0 t26 fun t27 =>
 cal P f_pack_kept_fails [t27, (.int .i64 11)] w fun t28 w =>
 R (.slice none 0 0) w)
 (nilc t0 fun t30 =>
 fad 0 t30 fun t31 =>
 fad 1 t31 fun t32 =>
 ld1 t32 w.heap fun t33 =>
 slc 1 t33 none (some t1) fun t35 =>
 cal P f_pack_value [t35] w fun t36 w =>
 cvi .u64 t2 fun t40 =>
 bi .gtr t36 t40 fun t41 =>
 cnd t41
 (nilc t0 fun t43 =>
 fad 0 t43 fun t44 =>
 cal P f_pack_kept_fails [t44, (.int .i64 3)] w fun t45 w =>
 R (.slice none 0 0) w)
 (nilc t0 fun t49 =>
 fad 0 t49 fun t50 =>
 fad 1 t50 fun t51 =>
 ld1 t51 w.heap fun t52 =>
 lenS t52 fun t53 =>
 bi .sub t53 t1 fun t55 =>
 cvi .u64 t55 fun t56 =>
 bi .gtr t36 t56 fun t57 =>
 cnd t57
 (nilc t0 fun t59 =>
 fad 0 t59 fun t60 =>
 cal P f_pack_kept_fails [t60, (.int .i64 11)] w fun t61 w =>
 R (.slice none 0 0) w)
 (nilc t0 fun t64 =>
 fad 0 t64 fun t65 =>
 fad 1 t65 fun t66 =>
 ld1 t66 w.heap fun t67 =>
 slc 1 t67 (some t1) none fun t69 =>
 nilc t0 fun t70 =>
 fad 0 t70 fun t71 =>
 fad 1 t71 fun t72 =>
 st1 t72 t69 w fun w =>
 cvi .i64 t36 fun t75 =>
 cal P f_pack_Unpacker_take [t0, t75] w fun t76 w =>
 R t76 w)))))
theorem k_pack_Unpacker_counted : kO Tryz.f132 A_pack_Unpacker_counted = true := by kernel_rfl
theorem s_pack_Unpacker_counted (h : SQ Q (c_pack_Unpacker_counted t0 t1 t2 w)) : cal P f_pack_Unpacker_counted [t0, t1, t2] w Q := sO Tryz.func132 rfl (by kernel_rfl) k_pack_Unpacker_counted (by kernel_rfl) h

/-- (*flurry/pack.Unpacker).Err -/
def A_pack_Unpacker_Err : An := (An.s (An.r []) (An.s (An.s (An.r [[11]]) (An.s (An.s (An.r []) An.o) An.o)) (An.s (An.r []) An.o)))
def c_pack_Unpacker_Err (t0 : Value) (w : World) (R : KR) : Prop :=
 nilP false t0 fun t4 =>
 jn1 (fun k0 =>
 gif t4 false
 (nilc t0 fun t7 =>
 fad 0 t7 fun t8 =>
 fad 0 t8 fun t9 =>
 ld1 t9 w.heap fun t10 =>
 notB t10 fun t11 =>
 k0 t11 w)
 (k0 undef w)) fun _ t11_1 w =>
 pik t4 (.bool true) t11_1 fun t12 =>
 cnd t12
 (R (.int .i64 2) w)
 (nilc t0 fun t14 =>
 fad 0 t14 fun t15 =>
 fad 2 t15 fun t16 =>
 ld1 t16 w.heap fun t17 =>
 R t17 w)
theorem k_pack_Unpacker_Err : kO Tryz.f133 A_pack_Unpacker_Err = true := by kernel_rfl
theorem s_pack_Unpacker_Err (h : SQ Q (c_pack_Unpacker_Err t0 w)) : cal P f_pack_Unpacker_Err [t0] w Q := sO Tryz.func133 rfl (by kernel_rfl) k_pack_Unpacker_Err (by kernel_rfl) h

end Go.Fx
