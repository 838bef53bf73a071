/-
  The readings, part 4.
-/
import Derived.Test.YtpdnddcodnpmeaaGreatDoorQd963d5f1
import Derived.Test.YtpdnddcodnpmeaaGreatDoorQ7b5fe899
import Derived.Test.YtpdnddcodnpmeaaGreatDoorQ52f385ea
import Derived.Test.YtpdnddcodnpmeaaGreatDoorQ3ba871d2
import Derived.Test.YtpdnddcodnpmeaaGreatDoorQ67391b50
set_option linter.unusedVariables false
set_option maxRecDepth 100000
namespace Go.Fx
open Go.Proofs
variable {t0 t1 t2 t3 t4 t5 t6 t7 t8 t9 : Value} {w : World} {Q : KR}
def Sd : An := (An.s (An.r []) (An.s (An.s (An.r []) (An.s (An.s (An.r []) An.o) An.o)) (An.s (An.dt (Pl.step 0 (Pl.step 1 (Pl.step 2 (Pl.step 3 (Pl.step 5 (Pl.step 6 (Pl.step 7 (Pl.step 8 (Pl.br (Pl.alt 4 (Pl.step 9 (Pl.step 10 (Pl.step 11 (Pl.step 12 Pl.nil)))) (Pl.alt 9 (Pl.step 4 (Pl.step 10 (Pl.step 11 (Pl.step 12 Pl.nil)))) Pl.non))))))))))) [11] [3]) (An.s (An.s (An.r []) (An.b (An.l [] (An.s (An.r []) (An.s (An.s An.o An.o) (An.b (An.s (An.r []) (An.dc [0, 1, 2, 3, 4, 5, 6] [6] [])))))))) (An.s (An.r []) An.o)))))
def KB (t0 : Value) (w : World) (R : KR) : Prop :=
 cal P BO [t0] w fun t7 w =>
 cnd t7
 (R (.pointer none) w)
 (drH w fun S w =>
 jn1 (fun k0 =>
 nilc t0 fun t9 =>
 fad 0 t9 fun t10 =>
 rdS S (fun w => ld1 t10 w.heap) fun t11 =>
 nilc t0 fun t14 =>
 fad 1 t14 fun t15 =>
 rdS S (fun w => ldN 4 t15 w.heap) fun t16 =>
 (efS S (cal P C8 [t11]) w fun t12_1 w =>
 efS S (efP P (Instr.makeMap A4 none)) w fun t17_1 w =>
 rdS S (rdP P (Instr.build Bj #[(0, t12_1), (1, t16), (2, t17_1)])) fun t18_1 =>
 efC (bx Bj t18_1) w fun S t19_1 w =>
 k0 t19_1 w) ∧
 ((efS S (efP P (Instr.makeMap A4 none)) w fun t17 w =>
 efS S (cal P C8 [t11]) w fun t12 w =>
 rdS S (rdP P (Instr.build Bj #[(0, t12), (1, t16), (2, t17)])) fun t18 =>
 efC (bx Bj t18) w fun S t19 w =>
 k0 t19 w) ∧
 (True))) fun _ t3 w =>
 nilc t0 fun t21 =>
 fad 5 t21 fun t22 =>
 ld1 t22 w.heap fun t23 =>
 efP P (Instr.range A4 t23) w fun t24 w =>
 lp0 w fun _ w again1 =>
 efP P (Instr.next t24 false T_) w fun t25 w =>
 ext 0 t25 fun t26 =>
 cnd t26
 (rdP P (Instr.entry t24) w fun t27 =>
 ext 0 t27 fun t28 =>
 ext 1 t27 fun t29 =>
 efP P (Instr.alloc Aa true (.tuple #[])) w fun t4 w =>
 efP P (Instr.alloc Ak true (.tuple #[])) w fun t5 w =>
 stN 32 t4 t28 w fun w =>
 stN 67 t5 t29 w fun w =>
 drH w fun S w =>
 nilc t3 fun t31 =>
 fad 5 t31 fun t32 =>
 rdS S (fun w => ld1 t32 w.heap) fun t33 =>
 rdS S (fun w => ldN 32 t4 w.heap) fun t34 =>
 rdS S (fun w => ldN 67 t5 w.heap) fun t35 =>
 efC (fun w K => efU P (Instr.mapUpdate A4 t33 t34 t35) w (K undef)) w fun S _ w =>
 again1 w)
 (R t3 w))
theorem ST : kO Tryz.f32 Sd = true := by kernel_rfl
theorem Sz (h : SQ Q (KB t0 w)) : cal P Hx [t0] w Q := sO Tryz.func32 rfl (by kernel_rfl) ST (by kernel_rfl) h
def Qn : An := (An.s (An.r []) (An.s (An.dc [0, 1, 2, 3, 4, 5, 6, 7, 8, 9, 10, 11] [10] []) (An.s (An.s (An.r []) (An.b (An.l [4] (An.s (An.s (An.r []) (An.s An.o An.o)) (An.s (An.b (An.dc [0, 1, 2, 3, 4, 5, 6, 7, 8, 9, 10, 11, 12, 13, 14, 15, 16, 17, 18, 19, 20, 21, 22, 23, 24, 25, 26, 27] [24, 27] [])) (An.r [])))))) (An.s (An.r []) An.o))))
def J4 (t0 : Value) (w : World) (R : KR) : Prop :=
 drH w fun S w =>
 nilc t0 fun t6 =>
 fad 0 t6 fun t7 =>
 rdS S (fun w => ldN 4 t7 w.heap) fun t8 =>
 nilc t0 fun t10 =>
 fad 4 t10 fun t11 =>
 rdS S (fun w => ld1 t11 w.heap) fun t12 =>
 efS S (cal P Ed [t12]) w fun t13 w =>
 rdS S (rdP P (Instr.build BI #[(0, t8), (1, t13)])) fun t14 =>
 efC (bx BI t14) w fun S t15 w =>
 lp1 (.int .i64 0) w fun _ t4 w again0 =>
 nilc t0 fun t18 =>
 fad 5 t18 fun t19 =>
 ld1 t19 w.heap fun t20 =>
 lenS t20 fun t21 =>
 bi .lss t4 t21 fun t22 =>
 cnd t22
 (drH w fun S w =>
 nilc t15 fun t27 =>
 fad 5 t27 fun t28 =>
 rdS S (fun w => ld1 t28 w.heap) fun t29 =>
 nilc t0 fun t31 =>
 fad 5 t31 fun t32 =>
 rdS S (fun w => ld1 t32 w.heap) fun t33 =>
 ixs 99 t33 t4 fun t35 =>
 fad 0 t35 fun t36 =>
 rdS S (fun w => ldN 32 t36 w.heap) fun t37 =>
 nilc t0 fun t39 =>
 fad 5 t39 fun t40 =>
 rdS S (fun w => ld1 t40 w.heap) fun t41 =>
 ixs 99 t41 t4 fun t43 =>
 fad 32 t43 fun t44 =>
 rdS S (fun w => ldN 67 t44 w.heap) fun t45 =>
 efS S (cal P Eo [t45]) w fun t46 w =>
 rdS S (rdP P (Instr.build BG #[(0, t37), (1, t46)])) fun t47 =>
 efS S (efP P (Instr.buildSlice Br 1 #[(0, t47)])) w fun t48 w =>
 efC (efP P (Builtin.append_ #[Br, Br] Br #[t29, t48])) w fun S t49 w =>
 nilc t15 fun t50 =>
 fad 5 t50 fun t51 =>
 efC (fun w K => st1 t51 t49 w (K undef)) w fun S _ w =>
 bi .add t4 (.int .i64 1) fun t24 =>
 again0 t24 w)
 (R t15 w)
theorem Q2 : kO Tryz.f33 Qn = true := by kernel_rfl
theorem P5 (h : SQ Q (J4 t0 w)) : cal P Ha [t0] w Q := sO Tryz.func33 rfl (by kernel_rfl) Q2 (by kernel_rfl) h
def Jk : An := (An.s (An.r []) (An.s (An.s (An.r []) (An.s (An.s (An.r []) An.o) An.o)) (An.s (An.r []) An.o)))
def FA (t0 : Value) (w : World) (R : KR) : Prop :=
 nilS false t0 fun t4 =>
 cnd t4
 (R (.slice none 0 0) w)
 (efP P (Instr.buildSlice Ax 0 #[]) w fun t5 w =>
 efP P (Builtin.append_ #[Ax, Ax] Ax #[t5, t0]) w fun t7 w =>
 R t7 w)
theorem Jt : kO Tryz.f34 Jk = true := by kernel_rfl
theorem Ju (h : SQ Q (FA t0 w)) : cal P B7 [t0] w Q := sO Tryz.func34 rfl (by kernel_rfl) Jt (by kernel_rfl) h
def Ki : An := (An.s (An.r []) (An.s (An.s (An.r []) (An.s (An.s (An.r []) An.o) An.o)) (An.s (An.r []) An.o)))
def Gh (t0 : Value) (w : World) (R : KR) : Prop :=
 nilS false t0 fun t4 =>
 cnd t4
 (R (.slice none 0 0) w)
 (efP P (Instr.buildSlice Bb 0 #[]) w fun t5 w =>
 efP P (Builtin.append_ #[Bb, Bb] Bb #[t5, t0]) w fun t7 w =>
 R t7 w)
theorem Kg : kO Tryz.f35 Ki = true := by kernel_rfl
theorem Kh (h : SQ Q (Gh t0 w)) : cal P En [t0] w Q := sO Tryz.func35 rfl (by kernel_rfl) Kg (by kernel_rfl) h
def Ud : An := (An.s (An.r []) (An.s (An.s (An.r []) (An.s (An.s (An.r []) An.o) An.o)) (An.s (An.dc [0, 1, 2, 3, 4, 5, 6, 7, 8, 9, 10, 11] [10] []) (An.s (An.s (An.r [[32]]) (An.s (An.s (An.r []) An.o) An.o)) (An.s (An.r []) (An.s (An.r []) (An.s (An.s (An.r []) (An.b (An.l [42] (An.s (An.r []) (An.s (An.s An.o An.o) (An.s (An.b (An.s (An.r []) (An.dc [0, 1, 2, 3, 4, 5] [5] []))) (An.r []))))))) (An.s (An.dc [0, 1, 2, 3, 4, 5] [5] []) (An.s (An.dc [0, 1, 2, 3, 4, 5, 6, 7, 8, 9, 10, 11, 12, 13, 14, 15] [15] []) (An.s (An.r []) An.o))))))))))
def Ll (t0 t1 : Value) (w : World) (R : KR) : Prop :=
 bx DU t0 w fun t2 w =>
 bx Aa t1 w fun t3 w =>
 ld1 t2 w.heap fun t12 =>
 cal P Cp [t12] w fun t13 w =>
 cnd t13
 (R (.tuple #[(.slice none 0 0), (.int .i64 2)]) w)
 (drH w fun S w =>
 rdS S (fun w => ld1 t2 w.heap) fun t15 =>
 nilc t15 fun t16 =>
 fad 35 t16 fun t17 =>
 rdS S (fun w => ld1 t17 w.heap) fun t18 =>
 rdS S (fun w => ldN 32 t3 w.heap) fun t19 =>
 rdS S (rdP P (Instr.lookup AT t18 t19 true)) fun t20 =>
 ext 0 t20 fun t21 =>
 ext 1 t20 fun t22 =>
 efS S (efP P (Instr.alloc Ao true (.tuple #[]))) w fun t6 w =>
 efC (fun w K => stN 34 t6 t21 w (K undef)) w fun S _ w =>
 drw w fun w =>
 notB t22 fun t24 =>
 jn1 (fun k0 =>
 gif t24 false
 (fad 0 t6 fun t26 =>
 ldN 32 t26 w.heap fun t27 =>
 ld1 t2 w.heap fun t28 =>
 nilc t28 fun t29 =>
 fad 1 t29 fun t30 =>
 ldN 32 t30 w.heap fun t31 =>
 rdP P (eqS .neq Aa (Operand.tmp 27) (Operand.tmp 31) t27 t31) w fun t32 =>
 k0 t32 w)
 (k0 undef w)) fun _ t32_1 w =>
 pik t24 (.bool true) t32_1 fun t33 =>
 cnd t33
 (R (.tuple #[(.slice none 0 0), (.int .i64 4)]) w)
 (ld1 t2 w.heap fun t34 =>
 cal P Er [t34, (.func (Fn.func G6) #[] #[t2, t3])] w fun t36 w =>
 ld1 t2 w.heap fun t37 =>
 cal P Er [t37, (.func (Fn.func G4) #[] #[t3, t2])] w fun t39 w =>
 lenS t36 fun t41 =>
 lp1 (.int .i64 0) w fun _ t42 w again1 =>
 bi .lss t42 t41 fun t43 =>
 cnd t43
 (ixs 32 t36 t42 fun t44 =>
 ldN 32 t44 w.heap fun t45 =>
 efP P (Instr.alloc Aa true (.tuple #[])) w fun t11 w =>
 stN 32 t11 t45 w fun w =>
 drH w fun S w =>
 rdS S (fun w => ld1 t2 w.heap) fun t46 =>
 nilc t46 fun t47 =>
 fad 35 t47 fun t48 =>
 rdS S (fun w => ld1 t48 w.heap) fun t49 =>
 rdS S (fun w => ldN 32 t11 w.heap) fun t50 =>
 efC (efP P (Builtin.delete_ #[AT, Aa] T_ #[t49, t50])) w fun S _ w =>
 bi .add t42 (.int .i64 1) fun t51 =>
 again1 t51 w)
 (drH w fun S w =>
 rdS S (fun w => ld1 t2 w.heap) fun t52 =>
 nilc t52 fun t53 =>
 fad 35 t53 fun t54 =>
 rdS S (fun w => ld1 t54 w.heap) fun t55 =>
 rdS S (fun w => ldN 32 t3 w.heap) fun t56 =>
 efC (efP P (Builtin.delete_ #[AT, Aa] T_ #[t55, t56])) w fun S _ w =>
 drH w fun S w =>
 rdS S (fun w => ld1 t2 w.heap) fun t57 =>
 rdS S (fun w => ld1 t2 w.heap) fun t58 =>
 rdS S (fun w => ld1 t2 w.heap) fun t59 =>
 rdS S (fun w => ldN 32 t3 w.heap) fun t60 =>
 fad 32 t6 fun t61 =>
 rdS S (fun w => ld1 t61 w.heap) fun t62 =>
 nilc t57 fun t64 =>
 fad 1 t64 fun t65 =>
 efS S (fun w K => stN 32 t65 t60 w (K undef)) w fun _ w =>
 nilc t58 fun t66 =>
 fad 33 t66 fun t67 =>
 efS S (fun w K => st1 t67 t62 w (K undef)) w fun _ w =>
 nilc t59 fun t68 =>
 fad 36 t68 fun t69 =>
 efC (fun w K => st1 t69 t39 w (K undef)) w fun S _ w =>
 R (.tuple #[t36, (.int .i64 0)]) w)))
theorem Uf : kO Tryz.f36 Ud = true := by kernel_rfl
theorem UO (h : SQ Q (Ll t0 t1 w)) : cal P FN [t0, t1] w Q := sO Tryz.func36 rfl (by kernel_rfl) Uf (by kernel_rfl) h
def Zh : An := (An.s (An.r []) (An.s (An.r []) An.o))
def OY (t0 : Value) (w : World) (R : KR) : Prop :=
 efP P (Instr.alloc Ao true (.tuple #[])) w fun t2 w =>
 rdP P (Instr.build Ao #[(2, t0)]) w fun t5 =>
 cal P IP [t5] w fun t6 w =>
 ext 0 t6 fun t7 =>
 ext 1 t6 fun t8 =>
 stN 34 t2 t7 w fun w =>
 ldN 34 t2 w.heap fun r0 =>
 R (.tuple #[r0, t8]) w
theorem Yv : kO Tryz.f37 Zh = true := by kernel_rfl
theorem Yx (h : SQ Q (OY t0 w)) : cal P Kf [t0] w Q := sO Tryz.func37 rfl (by kernel_rfl) Yv (by kernel_rfl) h
def AdW : An := (An.s (An.r []) (An.s (An.r []) (An.s (An.s (An.r []) (An.s (An.s (An.r []) An.o) An.o)) (An.s (An.r []) An.o))))
def Wq (t0 : Value) (w : World) (R : KR) : Prop :=
 bx Ao t0 w fun t1 w =>
 efP P (Instr.alloc Aa true (.tuple #[])) w fun t2 w =>
 ldN 34 t1 w.heap fun t7 =>
 cal P Ka [t7] w fun t8 w =>
 ext 0 t8 fun t9 =>
 ext 1 t8 fun t10 =>
 bi .neq t10 (.int .i64 0) fun t12 =>
 cnd t12
 (rdP P (Instr.build Aa #[]) w fun t13 =>
 stN 32 t2 t13 w fun w =>
 ldN 32 t2 w.heap fun r0 =>
 R (.tuple #[r0, t10]) w)
 (cal P P0 [t9] w fun t16 w =>
 stN 32 t2 t16 w fun w =>
 ldN 32 t2 w.heap fun r1 =>
 R (.tuple #[r1, (.int .i64 0)]) w)
theorem AdJ : kO Tryz.f38 AdW = true := by kernel_rfl
theorem Aen (h : SQ Q (Wq t0 w)) : cal P I4 [t0] w Q := sO Tryz.func38 rfl (by kernel_rfl) AdJ (by kernel_rfl) h
def Aek : An := (An.s (An.r []) (An.s (An.s (An.r []) (An.s (An.r []) (An.s (An.s (An.r []) An.o) An.o))) (An.s (An.r []) (An.s (An.s (An.r []) (An.s (An.s (An.r []) An.o) An.o)) (An.s (An.r []) An.o)))))
def VD (t0 t1 t2 t3 : Value) (w : World) (R : KR) : Prop :=
 bx AZ t0 w fun t4 w =>
 bx Aa t1 w fun t5 w =>
 ldN 4 t4 w.heap fun t13 =>
 cal P Gi [t13] w fun t14 w =>
 bi .neq t14 (.int .i64 0) fun t16 =>
 cnd t16
 (R (.tuple #[(.pointer none), t14]) w)
 (ldN 32 t5 w.heap fun t19 =>
 cal P Oa [t19, t2, t3] w fun t22 w =>
 ext 0 t22 fun t23 =>
 ext 1 t22 fun t24 =>
 bi .neq t24 (.int .i64 0) fun t26 =>
 cnd t26
 (R (.tuple #[(.pointer none), t24]) w)
 (ldN 4 t4 w.heap fun t29 =>
 efP P (Instr.makeMap A4 none) w fun t30 w =>
 rdP P (Instr.build Bj #[(0, t23), (1, t29), (2, t30)]) w fun t31 =>
 bx Bj t31 w fun t32 w =>
 R (.tuple #[t32, (.int .i64 0)]) w))
theorem AeO : kO Tryz.f39 Aek = true := by kernel_rfl
theorem AeI (h : SQ Q (VD t0 t1 t2 t3 w)) : cal P La [t0, t1, t2, t3] w Q := sO Tryz.func39 rfl (by kernel_rfl) AeO (by kernel_rfl) h
def AcS : An := (An.s (An.r []) (An.s (An.r []) An.o))
def TC (w : World) (R : KR) : Prop :=
 efP P (Instr.alloc AZ true (.tuple #[])) w fun t0 w =>
 rdP P (Instr.build AZ #[(0, (.int .i64 1)), (1, (.int .i64 1)), (2, (.int .i64 1)), (3, (.int .i64 1))]) w fun t1 =>
 stN 4 t0 t1 w fun w =>
 ldN 4 t0 w.heap fun r0 =>
 R r0 w
theorem Acs : kO Tryz.f40 AcS = true := by kernel_rfl
theorem AbH (h : SQ Q (TC w)) : cal P MT [] w Q := sO Tryz.func40 rfl (by kernel_rfl) Acs (by kernel_rfl) h
def Y1 : An := (An.s (An.r []) (An.s (An.r []) (An.s (An.s (An.r [[18]]) (An.s (An.s (An.r []) An.o) An.o)) (An.s (An.r []) An.o))))
def OW (t0 t1 : Value) (w : World) (R : KR) : Prop :=
 bx Ao t0 w fun t2 w =>
 efP P (Instr.alloc Ao true (.tuple #[])) w fun t4 w =>
 ldN 34 t2 w.heap fun t9 =>
 cal P I4 [t9] w fun t10 w =>
 ext 0 t10 fun t11 =>
 ext 1 t10 fun t12 =>
 efP P (Instr.alloc Aa true (.tuple #[])) w fun t6 w =>
 stN 32 t6 t11 w fun w =>
 bi .neq t12 (.int .i64 0) fun t14 =>
 jn1 (fun k0 =>
 gif t14 false
 (fad 32 t2 fun t16 =>
 ld1 t16 w.heap fun t17 =>
 bi .eql t17 (.int .i64 9223372036854775807) fun t18 =>
 k0 t18 w)
 (k0 undef w)) fun _ t18_1 w =>
 pik t14 (.bool true) t18_1 fun t19 =>
 cnd t19
 (rdP P (Instr.build Ao #[]) w fun t20 =>
 stN 34 t4 t20 w fun w =>
 ldN 34 t4 w.heap fun r1 =>
 R (.tuple #[r1, (.int .i64 30)]) w)
 (ldN 32 t6 w.heap fun t21 =>
 fad 32 t2 fun t22 =>
 ld1 t22 w.heap fun t23 =>
 bi .add t23 (.int .i64 1) fun t24 =>
 rdP P (Instr.build Ao #[(0, t21), (1, t24), (2, t1)]) w fun t26 =>
 cal P IP [t26] w fun t27 w =>
 ext 0 t27 fun t28 =>
 ext 1 t27 fun t29 =>
 stN 34 t4 t28 w fun w =>
 ldN 34 t4 w.heap fun r2 =>
 R (.tuple #[r2, t29]) w)
theorem YN : kO Tryz.f41 Y1 = true := by kernel_rfl
theorem Yi (h : SQ Q (OW t0 t1 w)) : cal P H3 [t0, t1] w Q := sO Tryz.func41 rfl (by kernel_rfl) YN (by kernel_rfl) h
def Vm : An := (An.s (An.r []) (An.s (An.s (An.r []) (An.s (An.s (An.r []) An.o) An.o)) (An.s (An.dc [0, 1, 2, 3, 4, 5, 6, 7, 8, 9, 10, 11, 12] [11] []) (An.s (An.s (An.r [[30]]) (An.s (An.s (An.s (An.dt (Pl.step 0 (Pl.step 1 (Pl.step 2 (Pl.step 3 (Pl.step 5 (Pl.br (Pl.alt 4 (Pl.br (Pl.alt 6 (Pl.step 7 (Pl.step 8 (Pl.step 9 (Pl.step 10 (Pl.step 11 (Pl.step 12 Pl.nil)))))) (Pl.alt 10 (Pl.step 6 (Pl.step 7 (Pl.step 8 (Pl.step 9 (Pl.step 11 (Pl.step 12 Pl.nil)))))) Pl.non))) (Pl.alt 10 (Pl.step 4 (Pl.step 6 (Pl.step 7 (Pl.step 8 (Pl.step 9 (Pl.step 11 (Pl.step 12 Pl.nil))))))) Pl.non)))))))) [6, 11] [9]) (An.s (An.r []) (An.s (An.s (An.r []) An.o) An.o))) (An.s (An.r []) An.o)) An.o)) (An.s (An.dt (Pl.step 0 (Pl.step 1 (Pl.step 2 (Pl.step 3 (Pl.step 4 (Pl.br (Pl.alt 5 (Pl.step 6 (Pl.step 7 (Pl.step 8 (Pl.step 9 (Pl.step 10 (Pl.step 11 Pl.nil)))))) (Pl.alt 9 (Pl.step 5 (Pl.step 6 (Pl.step 7 (Pl.step 8 (Pl.step 10 (Pl.step 11 Pl.nil)))))) Pl.non)))))))) [5, 10] [10, 11]) (An.s (An.s (An.r []) (An.s (An.s (An.r []) An.o) An.o)) (An.s (An.j [11] (An.s (An.r []) (An.s (An.dc [0, 1, 2, 3, 4, 5, 6, 7, 8, 9, 10, 11] [6, 10] []) (An.dc [0, 1, 2, 3, 4, 5, 6, 7, 8, 9, 10] [5, 9] [])))) (An.s (An.j [] (An.s (An.r []) (An.s (An.dc [0, 1, 2, 3, 4, 5, 6, 7] [7] []) An.o))) (An.s (An.r []) An.o)))))))))
def MA (t0 t1 : Value) (w : World) (R : KR) : Prop :=
 bx Ao t1 w fun t3 w =>
 efP P (Instr.alloc Aa true (.tuple #[])) w fun t4 w =>
 cal P BO [t0] w fun t13 w =>
 cnd t13
 (rdP P (Instr.build Aa #[]) w fun t14 =>
 stN 32 t4 t14 w fun w =>
 ldN 32 t4 w.heap fun r0 =>
 R (.tuple #[r0, (.int .i64 2)]) w)
 (drH w fun S w =>
 nilc t0 fun t17 =>
 fad 5 t17 fun t18 =>
 rdS S (fun w => ld1 t18 w.heap) fun t19 =>
 fad 0 t3 fun t20 =>
 rdS S (fun w => ldN 32 t20 w.heap) fun t21 =>
 rdS S (rdP P (Instr.lookup A4 t19 t21 true)) fun t22 =>
 ext 0 t22 fun t23 =>
 ext 1 t22 fun t24 =>
 efS S (efP P (Instr.alloc Ak true (.tuple #[]))) w fun t6 w =>
 efC (fun w K => stN 67 t6 t23 w (K undef)) w fun S _ w =>
 jn1 (fun k1 =>
 gif t24 true
 (fad 0 t6 fun t27 =>
 ld1 t27 w.heap fun t28 =>
 lenS t28 fun t29 =>
 bi .geq t29 (.int .i64 32) fun t30 =>
 k1 t30 w)
 (k1 undef w)) fun _ t30_1 w =>
 pik t24 t30_1 (.bool false) fun t31 =>
 cnd t31
 (drH w fun S w =>
 jn1 (fun k2 =>
 nilc t0 fun t34 =>
 fad 0 t34 fun t35 =>
 rdS S (fun w => ld1 t35 w.heap) fun t36 =>
 rdS S (fun w => ldN 34 t3 w.heap) fun t38 =>
 (efS S (cal P C8 [t36]) w fun t37_1 w =>
 (efC (cal P Da [t37_1, t38]) w fun S t39_2 w =>
 ext 0 t39_2 fun t40_2 =>
 ext 1 t39_2 fun t41_2 =>
 efS S (efP P (Instr.alloc Aa true (.tuple #[]))) w fun t8_2 w =>
 efC (fun w K => stN 32 t8_2 t40_2 w (K undef)) w fun S _ w =>
 k2 t41_2 w) ∧
 ((efS S (efP P (Instr.alloc Aa true (.tuple #[]))) w fun t8_1 w =>
 efC (cal P Da [t37_1, t38]) w fun S t39_1 w =>
 ext 0 t39_1 fun t40_1 =>
 ext 1 t39_1 fun t41_1 =>
 efC (fun w K => stN 32 t8_1 t40_1 w (K undef)) w fun S _ w =>
 k2 t41_1 w) ∧
 (True))) ∧
 ((efS S (efP P (Instr.alloc Aa true (.tuple #[]))) w fun t8 w =>
 efS S (cal P C8 [t36]) w fun t37 w =>
 efC (cal P Da [t37, t38]) w fun S t39 w =>
 ext 0 t39 fun t40 =>
 ext 1 t39 fun t41 =>
 efC (fun w K => stN 32 t8 t40 w (K undef)) w fun S _ w =>
 k2 t41 w) ∧
 (True))) fun _ t9 w =>
 bi .neq t9 (.int .i64 0) fun t43 =>
 cnd t43
 (rdP P (Instr.build Aa #[]) w fun t44 =>
 stN 32 t4 t44 w fun w =>
 ldN 32 t4 w.heap fun r3 =>
 R (.tuple #[r3, t9]) w)
 (rdP P (Instr.build Aa #[]) w fun t46 =>
 stN 32 t4 t46 w fun w =>
 ldN 32 t4 w.heap fun r4 =>
 R (.tuple #[r4, (.int .i64 6)]) w))
 (drH w fun S w =>
 jn2 (fun k5 =>
 nilc t0 fun t49 =>
 fad 0 t49 fun t50 =>
 rdS S (fun w => ld1 t50 w.heap) fun t51 =>
 rdS S (fun w => ldN 34 t3 w.heap) fun t52 =>
 (efC (cal P Da [t51, t52]) w fun S t53_1 w =>
 ext 0 t53_1 fun t54_1 =>
 ext 1 t53_1 fun t55_1 =>
 efS S (efP P (Instr.alloc Aa true (.tuple #[]))) w fun t10_1 w =>
 efC (fun w K => stN 32 t10_1 t54_1 w (K undef)) w fun S _ w =>
 k5 t10_1 t55_1 w) ∧
 ((efS S (efP P (Instr.alloc Aa true (.tuple #[]))) w fun t10 w =>
 efC (cal P Da [t51, t52]) w fun S t53 w =>
 ext 0 t53 fun t54 =>
 ext 1 t53 fun t55 =>
 efC (fun w K => stN 32 t10 t54 w (K undef)) w fun S _ w =>
 k5 t10 t55 w) ∧
 (True))) fun _ t10_2 t11 w =>
 bi .neq t11 (.int .i64 0) fun t57 =>
 cnd t57
 (rdP P (Instr.build Aa #[]) w fun t58 =>
 stN 32 t4 t58 w fun w =>
 ldN 32 t4 w.heap fun r6 =>
 R (.tuple #[r6, t11]) w)
 (jn1 (fun k7 =>
 cnd t24
 (drH w fun S w =>
 nilc t0 fun t63 =>
 fad 1 t63 fun t64 =>
 rdS S (fun w => ldN 4 t64 w.heap) fun t65 =>
 rdS S (fun w => ldN 67 t6 w.heap) fun t66 =>
 rdS S (fun w => ldN 32 t10_2 w.heap) fun t67 =>
 efC (cal P Ob [t65, t66, t67]) w fun S t68 w =>
 ext 0 t68 fun t69 =>
 ext 1 t68 fun t70 =>
 efC (fun w K => stN 67 t6 t69 w (K undef)) w fun S _ w =>
 k7 t70 w)
 (drH w fun S w =>
 nilc t0 fun t73 =>
 fad 1 t73 fun t74 =>
 rdS S (fun w => ldN 4 t74 w.heap) fun t75 =>
 rdS S (fun w => ldN 32 t10_2 w.heap) fun t76 =>
 efC (cal P Od [t75, t76]) w fun S t77 w =>
 ext 0 t77 fun t78 =>
 ext 1 t77 fun t79 =>
 efC (fun w K => stN 67 t6 t78 w (K undef)) w fun S _ w =>
 k7 t79 w)) fun _ t11_1 w =>
 jn0 (fun k8 =>
 bi .eql t11_1 (.int .i64 0) fun t81 =>
 cnd t81
 (drH w fun S w =>
 nilc t0 fun t83 =>
 fad 5 t83 fun t84 =>
 rdS S (fun w => ld1 t84 w.heap) fun t85 =>
 fad 0 t3 fun t86 =>
 rdS S (fun w => ldN 32 t86 w.heap) fun t87 =>
 rdS S (fun w => ldN 67 t6 w.heap) fun t88 =>
 efC (fun w K => efU P (Instr.mapUpdate A4 t85 t87 t88) w (K undef)) w fun S _ w =>
 k8 w)
 (k8 w)) fun _ w =>
 ldN 32 t10_2 w.heap fun t89 =>
 stN 32 t4 t89 w fun w =>
 ldN 32 t4 w.heap fun r9 =>
 R (.tuple #[r9, (.int .i64 0)]) w)))
theorem Wu : kO Tryz.f42 Vm = true := by kernel_rfl
theorem V0 (h : SQ Q (MA t0 t1 w)) : cal P El [t0, t1] w Q := sO Tryz.func42 rfl (by kernel_rfl) Wu (by kernel_rfl) h
def TQ : An := (An.s (An.r []) (An.s (An.b (An.s (An.r []) (An.s (An.s (An.r []) An.o) (An.s (An.r []) (An.s (An.s (An.r []) An.o) (An.s (An.d [0, 2, 3, 4, 5, 6, 1, 7, 8] []) (An.s (An.s (An.r []) An.o) An.o))))))) (An.s (An.r []) (An.s (An.r []) (An.s (An.r []) (An.s (An.r []) (An.s (An.j [9, 10] (An.b (An.l [9, 10] (An.b (An.s (An.r []) (An.s (An.s (An.dc [0, 1, 2, 3, 4, 5, 6, 7, 8, 9, 10, 11] [10] []) (An.s (An.r [[73], [77]]) (An.s (An.s (An.r []) (An.s (An.dc [0, 1, 2, 3, 4, 5, 6, 7, 8, 9, 10] [5] []) (An.s (An.s (An.r []) (An.s An.o An.o)) (An.s (An.r []) (An.s (An.r []) (An.s (An.r []) An.o)))))) An.o))) (An.s (An.r []) (An.s (An.s (An.r []) (An.s An.o An.o)) (An.s (An.dt (Pl.step 0 (Pl.step 1 (Pl.step 2 (Pl.step 3 (Pl.step 4 (Pl.step 5 (Pl.step 6 (Pl.step 7 (Pl.step 8 (Pl.step 9 (Pl.step 10 (Pl.step 11 (Pl.br (Pl.alt 12 (Pl.step 13 (Pl.step 14 (Pl.step 15 (Pl.step 16 (Pl.step 17 (Pl.step 18 Pl.nil)))))) (Pl.alt 16 (Pl.step 12 (Pl.step 13 (Pl.step 14 (Pl.step 15 (Pl.step 17 (Pl.step 18 Pl.nil)))))) Pl.non))))))))))))))) [12, 17] [22, 23]) (An.s (An.s (An.r []) (An.s An.o An.o)) (An.s (An.dc [0, 1, 2, 3, 4, 5, 6] [6] []) (An.s (An.r []) (An.s (An.r [[146]]) (An.s (An.r []) An.o)))))))))))))) (An.s (An.r []) (An.s (An.r []) An.o)))))))))
def LQ (t0 t1 : Value) (w : World) (R : KR) : Prop :=
 cal P BO [t0] w fun t26 w =>
 cnd t26
 (R (.tuple #[(.slice none 0 0), (.slice none 0 0), (.int .i64 2)]) w)
 (cal P HS [t1] w fun t29 w =>
 bi .neq t29 (.int .i64 0) fun t30 =>
 cnd t30
 (R (.tuple #[(.slice none 0 0), (.slice none 0 0), (.int .i64 70)]) w)
 (drH w fun S w =>
 nilc t0 fun t35 =>
 fad 1 t35 fun t36 =>
 fad 0 t36 fun t37 =>
 rdS S (fun w => ld1 t37 w.heap) fun t38 =>
 efS S (cal P MH [t1]) w fun t33 w =>
 bi .gtr t33 t38 fun t39 =>
 cnd t39
 (R (.tuple #[(.slice none 0 0), (.slice none 0 0), (.int .i64 1)]) w)
 (cal P Ee [t0, t1] w fun t42 w =>
 efP P (Instr.makeMap Fp none) w fun t43 w =>
 nilc t0 fun t46 =>
 fad 0 t46 fun t47 =>
 ld1 t47 w.heap fun t48 =>
 cal P Dn [t48] w fun t49 w =>
 ext 0 t49 fun t50 =>
 ext 1 t49 fun t51 =>
 efP P (Instr.alloc Aa true (.tuple #[])) w fun t11 w =>
 stN 32 t11 t50 w fun w =>
 jn2 (fun k0 =>
 lp2 (.slice none 0 0) (.slice none 0 0) w fun _ t9 t10 w again1 =>
 nilc t0 fun t54 =>
 fad 0 t54 fun t55 =>
 ld1 t55 w.heap fun t56 =>
 cal P Dn [t56] w fun t57 w =>
 ext 0 t57 fun t58 =>
 ext 1 t57 fun t59 =>
 efP P (Instr.alloc Aa true (.tuple #[])) w fun t13 w =>
 stN 32 t13 t58 w fun w =>
 drH w fun S w =>
 nilc t0 fun t62 =>
 fad 5 t62 fun t63 =>
 rdS S (fun w => ld1 t63 w.heap) fun t64 =>
 rdS S (fun w => ldN 32 t11 w.heap) fun t65 =>
 rdS S (rdP P (Instr.lookup A4 t64 t65 true)) fun t66 =>
 ext 0 t66 fun t67 =>
 ext 1 t66 fun t68 =>
 efS S (efP P (Instr.alloc Ak true (.tuple #[]))) w fun t15 w =>
 efC (fun w K => stN 67 t15 t67 w (K undef)) w fun S _ w =>
 jn1 (fun k2 =>
 gif t68 true
 (ldN 32 t11 w.heap fun t71 =>
 ldN 32 t13 w.heap fun t72 =>
 rdP P (eqS .eql Aa (Operand.tmp 71) (Operand.tmp 72) t71 t72) w fun t73 =>
 k2 t73 w)
 (k2 undef w)) fun _ t73_1 w =>
 pik t68 t73_1 (.bool false) fun t74 =>
 jn1 (fun k3 =>
 gif t74 true
 (fad 66 t15 fun t76 =>
 ld1 t76 w.heap fun t77 =>
 k3 t77 w)
 (k3 undef w)) fun _ t77_1 w =>
 pik t74 t77_1 (.bool false) fun t78 =>
 cnd t78
 (ldN 67 t15 w.heap fun t79 =>
 cal P Hl [t79] w fun t80 w =>
 efP P (Instr.alloc Aa true (.tuple #[])) w fun t17 w =>
 stN 32 t17 t80 w fun w =>
 drH w fun S w =>
 nilc t0 fun t83 =>
 fad 0 t83 fun t84 =>
 rdS S (fun w => ld1 t84 w.heap) fun t85 =>
 rdS S (fun w => ldN 32 t17 w.heap) fun t86 =>
 efC (cal P FN [t85, t86]) w fun S t87 w =>
 ext 0 t87 fun t88 =>
 ext 1 t87 fun t89 =>
 bi .neq t89 (.int .i64 0) fun t91 =>
 cnd t91
 (k0 t9 t10 w)
 (ldN 32 t17 w.heap fun t93 =>
 efP P (Instr.buildSlice Ax 1 #[(0, t93)]) w fun t94 w =>
 efP P (Builtin.append_ #[Ax, Ax] Ax #[t9, t94]) w fun t95 w =>
 efP P (Builtin.append_ #[Ax, Ax] Ax #[t10, t88]) w fun t98 w =>
 ldN 32 t17 w.heap fun t99 =>
 stN 32 t11 t99 w fun w =>
 again1 t95 t98 w))
 (ldN 32 t11 w.heap fun t103 =>
 cal P Io [t0, t42, t103] w fun t104 w =>
 ext 0 t104 fun t105 =>
 ext 1 t104 fun t106 =>
 efP P (Instr.alloc Aa true (.tuple #[])) w fun t20 w =>
 stN 32 t20 t105 w fun w =>
 nilc t0 fun t109 =>
 fad 1 t109 fun t110 =>
 fad 1 t110 fun t111 =>
 ld1 t111 w.heap fun t112 =>
 bi .lss t106 t112 fun t113 =>
 cnd t113
 (k0 t9 t10 w)
 (drH w fun S w =>
 jn2 (fun k4 =>
 nilc t0 fun t116 =>
 fad 1 t116 fun t117 =>
 rdS S (fun w => ldN 4 t117 w.heap) fun t118 =>
 nilc t0 fun t120 =>
 fad 5 t120 fun t121 =>
 rdS S (fun w => ld1 t121 w.heap) fun t122 =>
 rdS S (fun w => ldN 32 t11 w.heap) fun t123 =>
 rdS S (rdP P (Instr.lookup A4 t122 t123 false)) fun t124 =>
 rdS S (fun w => ldN 32 t20 w.heap) fun t125 =>
 (efC (cal P JH [t118, t124, t125, t106]) w fun S t127_1 w =>
 ext 0 t127_1 fun t128_1 =>
 ext 1 t127_1 fun t129_1 =>
 efS S (efP P (Instr.alloc Ak true (.tuple #[]))) w fun t22_1 w =>
 efC (fun w K => stN 67 t22_1 t128_1 w (K undef)) w fun S _ w =>
 k4 t22_1 t129_1 w) ∧
 ((efS S (efP P (Instr.alloc Ak true (.tuple #[]))) w fun t22 w =>
 efC (cal P JH [t118, t124, t125, t106]) w fun S t127 w =>
 ext 0 t127 fun t128 =>
 ext 1 t127 fun t129 =>
 efC (fun w K => stN 67 t22 t128 w (K undef)) w fun S _ w =>
 k4 t22 t129 w) ∧
 (True))) fun _ t22_2 t23 w =>
 bi .neq t23 (.int .i64 0) fun t131 =>
 cnd t131
 (k0 t9 t10 w)
 (drH w fun S w =>
 nilc t0 fun t133 =>
 fad 5 t133 fun t134 =>
 rdS S (fun w => ld1 t134 w.heap) fun t135 =>
 rdS S (fun w => ldN 32 t11 w.heap) fun t136 =>
 rdS S (fun w => ldN 67 t22_2 w.heap) fun t137 =>
 efC (fun w K => efU P (Instr.mapUpdate A4 t135 t136 t137) w (K undef)) w fun S _ w =>
 ldN 32 t11 w.heap fun t139 =>
 efU P (Instr.mapUpdate Fp t43 t139 (.bool true)) w fun w =>
 ldN 32 t11 w.heap fun t140 =>
 ldN 32 t13 w.heap fun t141 =>
 rdP P (eqS .neq Aa (Operand.tmp 140) (Operand.tmp 141) t140 t141) w fun t142 =>
 jn1 (fun k5 =>
 gif t142 false
 (fad 66 t22_2 fun t144 =>
 ld1 t144 w.heap fun t145 =>
 notB t145 fun t146 =>
 k5 t146 w)
 (k5 undef w)) fun _ t146_1 w =>
 pik t142 (.bool true) t146_1 fun t147 =>
 cnd t147
 (ldN 32 t20 w.heap fun t148 =>
 stN 32 t11 t148 w fun w =>
 again1 t9 t10 w)
 (again1 t9 t10 w))))) fun _ t9_1 t10_1 w =>
 cal P HA [t0, t43] w fun t151 w =>
 R (.tuple #[t9_1, t10_1, (.int .i64 0)]) w)))
theorem TR : kO Tryz.f43 TQ = true := by kernel_rfl
theorem TU (h : SQ Q (LQ t0 t1 w)) : cal P FY [t0, t1] w Q := sO Tryz.func43 rfl (by kernel_rfl) TR (by kernel_rfl) h
def Jp : An := (An.s (An.r []) (An.s (An.s (An.r []) (An.s (An.s (An.r []) An.o) An.o)) (An.s (An.s (An.r []) (An.b (An.l [13] (An.s (An.r []) (An.s (An.s An.o An.o) (An.s (An.b (An.s (An.r []) (An.s (An.r []) (An.s (An.s (An.r []) An.o) An.o)))) (An.r []))))))) (An.s (An.r []) An.o))))
def FC (t0 t1 : Value) (w : World) (R : KR) : Prop :=
 lenS t0 fun t7 =>
 lenS t1 fun t9 =>
 bi .neq t7 t9 fun t10 =>
 cnd t10
 (R (.bool false) w)
 (lenS t0 fun t12 =>
 lp1 (.int .i64 0) w fun _ t13 w again0 =>
 bi .lss t13 t12 fun t14 =>
 cnd t14
 (drw w fun w =>
 ixs 32 t0 t13 fun t18 =>
 ldN 32 t18 w.heap fun t19 =>
 ixs 32 t1 t13 fun t22 =>
 ldN 32 t22 w.heap fun t23 =>
 rdP P (eqS .neq Aa (Operand.tmp 19) (Operand.tmp 23) t19 t23) w fun t24 =>
 cnd t24
 (R (.bool false) w)
 (bi .add t13 (.int .i64 1) fun t25 =>
 again0 t25 w))
 (R (.bool true) w))
theorem Jh : kO Tryz.f44 Jp = true := by kernel_rfl
theorem Jo (h : SQ Q (FC t0 t1 w)) : cal P B8 [t0, t1] w Q := sO Tryz.func44 rfl (by kernel_rfl) Jh (by kernel_rfl) h
def QM : An := (An.s (An.r []) (An.dt (Pl.step 0 (Pl.step 1 (Pl.step 2 (Pl.step 3 (Pl.step 4 (Pl.step 5 (Pl.step 6 (Pl.step 9 (Pl.step 10 (Pl.step 11 (Pl.step 12 (Pl.step 13 (Pl.step 14 (Pl.br (Pl.alt 7 (Pl.br (Pl.alt 8 (Pl.step 15 (Pl.step 16 (Pl.step 17 (Pl.step 18 (Pl.step 19 (Pl.step 20 (Pl.step 21 (Pl.step 22 Pl.nil)))))))) (Pl.alt 15 (Pl.step 8 (Pl.step 16 (Pl.step 17 (Pl.step 18 (Pl.step 19 (Pl.step 20 (Pl.step 21 (Pl.step 22 Pl.nil)))))))) Pl.non))) (Pl.alt 15 (Pl.step 7 (Pl.step 8 (Pl.step 16 (Pl.step 17 (Pl.step 18 (Pl.step 19 (Pl.step 20 (Pl.step 21 (Pl.step 22 Pl.nil))))))))) Pl.non)))))))))))))))) [16, 19, 22] []))
def JP (t0 t1 t2 : Value) (w : World) (R : KR) : Prop :=
 bx Aa t1 w fun t4 w =>
 bx Ao t2 w fun t5 w =>
 drH w fun S w =>
 jn0 (fun k0 =>
 nilc t0 fun t9 =>
 fad 0 t9 fun t10 =>
 rdS S (fun w => ld1 t10 w.heap) fun t11 =>
 rdS S (fun w => ldN 32 t4 w.heap) fun t12 =>
 nilc t0 fun t16 =>
 fad 1 t16 fun t17 =>
 rdS S (fun w => ld1 t17 w.heap) fun t18 =>
 fad 32 t5 fun t19 =>
 rdS S (fun w => ld1 t19 w.heap) fun t20 =>
 (efS S (efP P (Instr.buildSlice Ax 1 #[(0, t12)])) w fun t13_1 w =>
 (efS S (efP P (Builtin.append_ #[Ax, Ax] Ax #[t11, t13_1])) w fun t14_2 w =>
 efS S (efP P (Instr.buildSlice Bb 1 #[(0, t20)])) w fun t21_2 w =>
 efC (efP P (Builtin.append_ #[Bb, Bb] Bb #[t18, t21_2])) w fun S t22_2 w =>
 nilc t0 fun t23_2 =>
 fad 0 t23_2 fun t24_2 =>
 efC (fun w K => st1 t24_2 t14_2 w (K undef)) w fun S _ w =>
 nilc t0 fun t25_2 =>
 fad 1 t25_2 fun t26_2 =>
 efC (fun w K => st1 t26_2 t22_2 w (K undef)) w fun S _ w =>
 k0 w) ∧
 ((efS S (efP P (Instr.buildSlice Bb 1 #[(0, t20)])) w fun t21_1 w =>
 efS S (efP P (Builtin.append_ #[Ax, Ax] Ax #[t11, t13_1])) w fun t14_1 w =>
 efC (efP P (Builtin.append_ #[Bb, Bb] Bb #[t18, t21_1])) w fun S t22_1 w =>
 nilc t0 fun t23_1 =>
 fad 0 t23_1 fun t24_1 =>
 efC (fun w K => st1 t24_1 t14_1 w (K undef)) w fun S _ w =>
 nilc t0 fun t25_1 =>
 fad 1 t25_1 fun t26_1 =>
 efC (fun w K => st1 t26_1 t22_1 w (K undef)) w fun S _ w =>
 k0 w) ∧
 (True))) ∧
 ((efS S (efP P (Instr.buildSlice Bb 1 #[(0, t20)])) w fun t21 w =>
 efS S (efP P (Instr.buildSlice Ax 1 #[(0, t12)])) w fun t13 w =>
 efS S (efP P (Builtin.append_ #[Ax, Ax] Ax #[t11, t13])) w fun t14 w =>
 efC (efP P (Builtin.append_ #[Bb, Bb] Bb #[t18, t21])) w fun S t22 w =>
 nilc t0 fun t23 =>
 fad 0 t23 fun t24 =>
 efC (fun w K => st1 t24 t14 w (K undef)) w fun S _ w =>
 nilc t0 fun t25 =>
 fad 1 t25 fun t26 =>
 efC (fun w K => st1 t26 t22 w (K undef)) w fun S _ w =>
 k0 w) ∧
 (True))) fun _ w =>
 R (.tuple #[]) w
theorem PF : kO Tryz.f45 QM = true := by kernel_rfl
theorem QQ (h : SQ Q (JP t0 t1 t2 w)) : cal P GV [t0, t1, t2] w Q := sO Tryz.func45 rfl (by kernel_rfl) PF (by kernel_rfl) h
def Ui : An := (An.s (An.r []) (An.s (An.r [[10]]) An.o))
def L2 (t0 : Value) (w : World) (R : KR) : Prop :=
 nilP false t0 fun t4 =>
 jn1 (fun k0 =>
 gif t4 false
 (nilc t0 fun t7 =>
 fad 0 t7 fun t8 =>
 ld1 t8 w.heap fun t9 =>
 nilP false t9 fun t10 =>
 k0 t10 w)
 (k0 undef w)) fun _ t10_1 w =>
 pik t4 (.bool true) t10_1 fun t11 =>
 R t11 w
theorem TV : kO Tryz.f46 Ui = true := by kernel_rfl
theorem T8 (h : SQ Q (L2 t0 w)) : cal P BO [t0] w Q := sO Tryz.func46 rfl (by kernel_rfl) TV (by kernel_rfl) h
def VC : An := (An.s (An.r []) (An.s (An.s (An.r []) (An.s (An.s (An.r []) An.o) An.o)) (An.s (An.dc [0, 1, 2, 3, 4, 5, 6, 7, 8, 9, 10, 11] [10] []) (An.s (An.s (An.r []) (An.s (An.s (An.r []) An.o) An.o)) (An.s (An.r []) An.o)))))
def Mn (t0 t1 : Value) (w : World) (R : KR) : Prop :=
 bx Aa t1 w fun t3 w =>
 efP P (Instr.alloc Ao true (.tuple #[])) w fun t4 w =>
 cal P Cp [t0] w fun t9 w =>
 cnd t9
 (rdP P (Instr.build Ao #[]) w fun t10 =>
 stN 34 t4 t10 w fun w =>
 ldN 34 t4 w.heap fun r0 =>
 R (.tuple #[r0, (.int .i64 2)]) w)
 (drH w fun S w =>
 nilc t0 fun t13 =>
 fad 35 t13 fun t14 =>
 rdS S (fun w => ld1 t14 w.heap) fun t15 =>
 rdS S (fun w => ldN 32 t3 w.heap) fun t16 =>
 rdS S (rdP P (Instr.lookup AT t15 t16 true)) fun t17 =>
 ext 0 t17 fun t18 =>
 ext 1 t17 fun t19 =>
 efS S (efP P (Instr.alloc Ao true (.tuple #[]))) w fun t6 w =>
 efC (fun w K => stN 34 t6 t18 w (K undef)) w fun S _ w =>
 notB t19 fun t21 =>
 cnd t21
 (rdP P (Instr.build Ao #[]) w fun t22 =>
 stN 34 t4 t22 w fun w =>
 ldN 34 t4 w.heap fun r1 =>
 R (.tuple #[r1, (.int .i64 4)]) w)
 (ldN 34 t6 w.heap fun t23 =>
 cal P Ge [t23] w fun t24 w =>
 stN 34 t4 t24 w fun w =>
 ldN 34 t4 w.heap fun r2 =>
 R (.tuple #[r2, (.int .i64 0)]) w))
theorem VS : kO Tryz.f47 VC = true := by kernel_rfl
theorem VP (h : SQ Q (Mn t0 t1 w)) : cal P IR [t0, t1] w Q := sO Tryz.func47 rfl (by kernel_rfl) VS (by kernel_rfl) h
def XC : An := (An.s (An.r []) (An.s (An.s (An.r []) (An.s (An.s (An.r []) An.o) An.o)) (An.s (An.r []) An.o)))
def Ns (t0 : Value) (w : World) (R : KR) : Prop :=
 bx Ak t0 w fun t1 w =>
 efP P (Instr.alloc Aa true (.tuple #[])) w fun t2 w =>
 fad 66 t1 fun t3 =>
 ld1 t3 w.heap fun t4 =>
 cnd t4
 (fad 33 t1 fun t5 =>
 ldN 32 t5 w.heap fun t6 =>
 stN 32 t2 t6 w fun w =>
 ldN 32 t2 w.heap fun r0 =>
 R r0 w)
 (fad 1 t1 fun t7 =>
 ldN 32 t7 w.heap fun t8 =>
 stN 32 t2 t8 w fun w =>
 ldN 32 t2 w.heap fun r1 =>
 R r1 w)
theorem WX : kO Tryz.f49 XC = true := by kernel_rfl
theorem Xd (h : SQ Q (Ns t0 w)) : cal P Hl [t0] w Q := sO Tryz.func49 rfl (by kernel_rfl) WX (by kernel_rfl) h
def We : An := (An.s (An.r []) (An.s (An.s (An.r []) (An.s (An.s (An.r []) An.o) An.o)) (An.s (An.r []) An.o)))
def Mk (t0 : Value) (w : World) (R : KR) : Prop :=
 cal P Cp [t0] w fun t4 w =>
 cnd t4
 (R (.int .i64 0) w)
 (nilc t0 fun t6 =>
 fad 35 t6 fun t7 =>
 ld1 t7 w.heap fun t8 =>
 rdP P (Builtin.len_ #[AT] CS #[t8]) w fun t9 =>
 R t9 w)
theorem VJ : kO Tryz.f50 We = true := by kernel_rfl
theorem VX (h : SQ Q (Mk t0 w)) : cal P IY [t0] w Q := sO Tryz.func50 rfl (by kernel_rfl) VJ (by kernel_rfl) h
def Acy : An := (An.s (An.r []) (An.s (An.r []) (An.s (An.s (An.r []) (An.b (An.l [3, 8] (An.s (An.r []) (An.s (An.s An.o An.o) (An.s (An.b (An.s (An.r []) (An.s (An.s (An.d [0, 1, 2, 3, 4, 5, 6, 7, 8, 9, 10, 11, 12, 13, 14, 15, 16, 17, 18, 19, 20, 21, 22, 23, 24, 25] [[25], [30], [37]]) (An.s (An.s (An.r []) An.o) An.o)) (An.r [])))) (An.r []))))))) (An.s (An.r []) An.o))))
def Ty (t0 : Value) (w : World) (R : KR) : Prop :=
 lenS t0 fun t7 =>
 lp2 (.int .i64 0) (.int .i64 0) w fun _ t3 t8 w again0 =>
 bi .lss t8 t7 fun t9 =>
 cnd t9
 (ixs 33 t0 t8 fun t11 =>
 ldN 33 t11 w.heap fun t12 =>
 efP P (Instr.alloc BQ true (.tuple #[])) w fun t5 w =>
 stN 33 t5 t12 w fun w =>
 drH w fun S w =>
 bi .gtr t8 (.int .i64 0) fun t14 =>
 jn1 (fun k1 =>
 gif t14 true
 (bi .sub t8 (.int .i64 1) fun t18 =>
 ixs 33 t0 t18 fun t19 =>
 fad 0 t19 fun t20 =>
 rdS S (fun w => ldN 32 t20 w.heap) fun t21 =>
 fad 0 t5 fun t22 =>
 rdS S (fun w => ldN 32 t22 w.heap) fun t23 =>
 efS S (cal P K7 [t21, t23]) w fun t24 w =>
 notB t24 fun t25 =>
 k1 t25 w)
 (k1 undef w)) fun _ t25_1 w =>
 pik t14 t25_1 (.bool false) fun t26 =>
 jn1 (fun k2 =>
 gif t26 false
 (fad 32 t5 fun t28 =>
 rdS S (fun w => ld1 t28 w.heap) fun t29 =>
 bi .lss t29 (.int .i64 1) fun t30 =>
 k2 t30 w)
 (k2 undef w)) fun _ t30_1 w =>
 pik t26 (.bool true) t30_1 fun t31 =>
 jn1 (fun k3 =>
 gif t31 false
 (fad 32 t5 fun t33 =>
 rdS S (fun w => ld1 t33 w.heap) fun t34 =>
 bi .sub (.int .i64 1048576) t3 fun t36 =>
 bi .gtr t34 t36 fun t37 =>
 k3 t37 w)
 (k3 undef w)) fun _ t37_1 w =>
 pik t31 (.bool true) t37_1 fun t38 =>
 cnd t38
 (R (.int .i64 70) w)
 (fad 32 t5 fun t40 =>
 ld1 t40 w.heap fun t41 =>
 bi .add t3 t41 fun t42 =>
 bi .add t8 (.int .i64 1) fun t43 =>
 again0 t42 t43 w))
 (R (.int .i64 0) w)
theorem Acz : kO Tryz.f51 Acy = true := by kernel_rfl
theorem AbM (h : SQ Q (Ty t0 w)) : cal P HS [t0] w Q := sO Tryz.func51 rfl (by kernel_rfl) Acz (by kernel_rfl) h
def QC : An := (An.s (An.r []) (An.s (An.r []) (An.s (An.r []) (An.s (An.r []) (An.s (An.r []) (An.s (An.r []) (An.s (An.r []) An.o)))))))
def J3 (t0 t1 : Value) (w : World) (R : KR) : Prop :=
 bx Ic t0 w fun t2 w =>
 bx Bg t1 w fun t3 w =>
 efP P (Instr.makeMap By none) w fun t9 w =>
 efP P (Instr.alloc By true (.tuple #[])) w fun t5 w =>
 st1 t5 t9 w fun w =>
 efP P (Instr.alloc Es true (.tuple #[])) w fun t6 w =>
 st1 t6 (.func (Fn.func C2) #[] #[t3, t2, t6, t5]) w fun w =>
 ld1 t2 w.heap fun t12 =>
 nilc t12 fun t13 =>
 fad 0 t13 fun t14 =>
 ld1 t14 w.heap fun t15 =>
 cal P Dn [t15] w fun t16 w =>
 ext 0 t16 fun t17 =>
 ext 1 t16 fun t18 =>
 efP P (Instr.alloc Aa true (.tuple #[])) w fun t7 w =>
 stN 32 t7 t17 w fun w =>
 ld1 t6 w.heap fun t19 =>
 ldN 32 t7 w.heap fun t20 =>
 calV P t19 [t20] w fun t21 w =>
 ld1 t5 w.heap fun t22 =>
 R t22 w
theorem Re : kO Tryz.f52 QC = true := by kernel_rfl
theorem Qa (h : SQ Q (J3 t0 t1 w)) : cal P Ee [t0, t1] w Q := sO Tryz.func52 rfl (by kernel_rfl) Re (by kernel_rfl) h
def Ab8 : An := (An.s (An.r []) (An.s (An.b (An.s (An.r []) (An.s (An.s (An.r []) An.o) (An.s (An.r []) (An.s (An.s (An.r []) An.o) (An.s (An.r []) (An.s (An.s (An.r []) An.o) An.o))))))) (An.s (An.r []) An.o)))
def Tq (t0 t1 t2 : Value) (w : World) (R : KR) : Prop :=
 bx Aa t1 w fun t4 w =>
 cal P EU [t0] w fun t10 w =>
 bi .neq t10 (.int .i64 0) fun t11 =>
 cnd t11
 (R (.tuple #[(.slice none 0 0), (.int .i64 70)]) w)
 (bi .lss t2 (.int .i64 0) fun t14 =>
 cnd t14
 (R (.tuple #[(.slice none 0 0), (.int .i64 1)]) w)
 (cal P HY [t0] w fun t18 w =>
 bi .sub (.int .i64 1048576) t18 fun t19 =>
 bi .gtr t2 t19 fun t20 =>
 cnd t20
 (R (.tuple #[(.slice none 0 0), (.int .i64 6)]) w)
 (ldN 32 t4 w.heap fun t22 =>
 cal P M5 [t0, t22, t2] w fun t24 w =>
 R (.tuple #[t24, (.int .i64 0)]) w)))
theorem AbQ : kO Tryz.f53 Ab8 = true := by kernel_rfl
theorem AcO (h : SQ Q (Tq t0 t1 t2 w)) : cal P Nb [t0, t1, t2] w Q := sO Tryz.func53 rfl (by kernel_rfl) AbQ (by kernel_rfl) h
def R2 : An := (An.s (An.r []) (An.s (An.s (An.r []) (An.s (An.s (An.r []) An.o) An.o)) (An.s (An.dt (Pl.step 0 (Pl.step 1 (Pl.step 2 (Pl.step 3 (Pl.step 4 (Pl.step 5 (Pl.step 6 (Pl.step 7 (Pl.step 8 (Pl.step 9 (Pl.step 10 (Pl.step 11 (Pl.step 13 (Pl.step 14 (Pl.step 15 (Pl.step 16 (Pl.br (Pl.alt 12 (Pl.step 17 (Pl.step 18 (Pl.step 19 (Pl.step 20 Pl.nil)))) (Pl.alt 17 (Pl.step 12 (Pl.step 18 (Pl.step 19 (Pl.step 20 Pl.nil)))) Pl.non))))))))))))))))))) [19] [3]) (An.s (An.s (An.r []) (An.b (An.l [] (An.s (An.r []) (An.s (An.s An.o An.o) (An.b (An.s (An.r []) (An.dc [0, 1, 2, 3, 4, 5, 6] [6] [])))))))) (An.s (An.r []) An.o)))))
def KD (t0 : Value) (w : World) (R : KR) : Prop :=
 cal P Cp [t0] w fun t7 w =>
 cnd t7
 (R (.pointer none) w)
 (drH w fun S w =>
 jn1 (fun k0 =>
 nilc t0 fun t9 =>
 fad 1 t9 fun t10 =>
 rdS S (fun w => ldN 32 t10 w.heap) fun t11 =>
 nilc t0 fun t13 =>
 fad 33 t13 fun t14 =>
 rdS S (fun w => ld1 t14 w.heap) fun t15 =>
 nilc t0 fun t17 =>
 fad 34 t17 fun t18 =>
 rdS S (fun w => ld1 t18 w.heap) fun t19 =>
 nilc t0 fun t22 =>
 fad 36 t22 fun t23 =>
 rdS S (fun w => ld1 t23 w.heap) fun t24 =>
 (efS S (efP P (Instr.makeMap AT none)) w fun t20_1 w =>
 efS S (cal P B7 [t24]) w fun t25_1 w =>
 rdS S (rdP P (Instr.build BE #[(0, (.bool true)), (1, t11), (2, t15), (3, t19), (4, t20_1), (5, t25_1)])) fun t26_1 =>
 efC (bx BE t26_1) w fun S t27_1 w =>
 k0 t27_1 w) ∧
 ((efS S (cal P B7 [t24]) w fun t25 w =>
 efS S (efP P (Instr.makeMap AT none)) w fun t20 w =>
 rdS S (rdP P (Instr.build BE #[(0, (.bool true)), (1, t11), (2, t15), (3, t19), (4, t20), (5, t25)])) fun t26 =>
 efC (bx BE t26) w fun S t27 w =>
 k0 t27 w) ∧
 (True))) fun _ t3 w =>
 nilc t0 fun t29 =>
 fad 35 t29 fun t30 =>
 ld1 t30 w.heap fun t31 =>
 efP P (Instr.range AT t31) w fun t32 w =>
 lp0 w fun _ w again1 =>
 efP P (Instr.next t32 false T_) w fun t33 w =>
 ext 0 t33 fun t34 =>
 cnd t34
 (rdP P (Instr.entry t32) w fun t35 =>
 ext 0 t35 fun t36 =>
 ext 1 t35 fun t37 =>
 efP P (Instr.alloc Aa true (.tuple #[])) w fun t4 w =>
 efP P (Instr.alloc Ao true (.tuple #[])) w fun t5 w =>
 stN 32 t4 t36 w fun w =>
 stN 34 t5 t37 w fun w =>
 drH w fun S w =>
 nilc t3 fun t39 =>
 fad 35 t39 fun t40 =>
 rdS S (fun w => ld1 t40 w.heap) fun t41 =>
 rdS S (fun w => ldN 32 t4 w.heap) fun t42 =>
 rdS S (fun w => ldN 34 t5 w.heap) fun t43 =>
 efC (fun w K => efU P (Instr.mapUpdate AT t41 t42 t43) w (K undef)) w fun S _ w =>
 again1 w)
 (R t3 w))
theorem Sb : kO Tryz.f54 R2 = true := by kernel_rfl
theorem R5 (h : SQ Q (KD t0 w)) : cal P C8 [t0] w Q := sO Tryz.func54 rfl (by kernel_rfl) Sb (by kernel_rfl) h
def Sq : An := (An.s (An.r []) (An.s (An.s (An.r []) (An.s (An.s (An.r []) An.o) An.o)) (An.s (An.s (An.r []) (An.s (An.s (An.r []) An.o) An.o)) (An.s (An.dc [0, 1, 2, 3, 4, 5, 6, 7, 8, 9, 10, 11] [10] []) (An.s (An.r []) An.o)))))
def KK (t0 t1 : Value) (w : World) (R : KR) : Prop :=
 bx Aa t1 w fun t3 w =>
 cal P Cp [t0] w fun t9 w =>
 cnd t9
 (R (.tuple #[(.int .i64 0), (.bool false)]) w)
 (drw w fun w =>
 ldN 32 t3 w.heap fun t10 =>
 nilc t0 fun t12 =>
 fad 1 t12 fun t13 =>
 ldN 32 t13 w.heap fun t14 =>
 rdP P (eqS .eql Aa (Operand.tmp 10) (Operand.tmp 14) t10 t14) w fun t15 =>
 cnd t15
 (nilc t0 fun t17 =>
 fad 33 t17 fun t18 =>
 ld1 t18 w.heap fun t19 =>
 R (.tuple #[t19, (.bool true)]) w)
 (drH w fun S w =>
 nilc t0 fun t22 =>
 fad 35 t22 fun t23 =>
 rdS S (fun w => ld1 t23 w.heap) fun t24 =>
 rdS S (fun w => ldN 32 t3 w.heap) fun t25 =>
 rdS S (rdP P (Instr.lookup AT t24 t25 true)) fun t26 =>
 ext 0 t26 fun t27 =>
 ext 1 t26 fun t28 =>
 efS S (efP P (Instr.alloc Ao true (.tuple #[]))) w fun t6 w =>
 efC (fun w K => stN 34 t6 t27 w (K undef)) w fun S _ w =>
 fad 32 t6 fun t29 =>
 ld1 t29 w.heap fun t30 =>
 R (.tuple #[t30, t28]) w))
theorem Sy : kO Tryz.f55 Sq = true := by kernel_rfl
theorem R4 (h : SQ Q (KK t0 t1 w)) : cal P Fm [t0, t1] w Q := sO Tryz.func55 rfl (by kernel_rfl) Sy (by kernel_rfl) h
def Uw : An := (An.s (An.r []) (An.s (An.r [[10]]) An.o))
def Lt (t0 : Value) (w : World) (R : KR) : Prop :=
 nilP false t0 fun t4 =>
 jn1 (fun k0 =>
 gif t4 false
 (nilc t0 fun t7 =>
 fad 0 t7 fun t8 =>
 ld1 t8 w.heap fun t9 =>
 notB t9 fun t10 =>
 k0 t10 w)
 (k0 undef w)) fun _ t10_1 w =>
 pik t4 (.bool true) t10_1 fun t11 =>
 R t11 w
theorem Ut : kO Tryz.f56 Uw = true := by kernel_rfl
theorem Uk (h : SQ Q (Lt t0 w)) : cal P Cp [t0] w Q := sO Tryz.func56 rfl (by kernel_rfl) Ut (by kernel_rfl) h
def IH : An := (An.s (An.r []) (An.b (An.l [2, 3] (An.s (An.s (An.r []) (An.s An.o An.o)) (An.s (An.b (An.dc [0, 1, 2, 3, 4, 5, 6, 7, 8, 9, 10, 11, 12, 13, 14, 15] [13, 15] [])) (An.r []))))))
def E8 (t0 : Value) (w : World) (R : KR) : Prop :=
 lenS t0 fun t5 =>
 bi .sub t5 (.int .i64 1) fun t6 =>
 lp2 (.int .i64 0) t6 w fun _ t2 t3 w again0 =>
 bi .lss t2 t3 fun t9 =>
 cnd t9
 (drH w fun S w =>
 ixs 32 t0 t3 fun t20 =>
 rdS S (fun w => ldN 32 t20 w.heap) fun t21 =>
 ixs 32 t0 t2 fun t24 =>
 rdS S (fun w => ldN 32 t24 w.heap) fun t25 =>
 ixs 32 t0 t2 fun t26 =>
 efC (fun w K => stN 32 t26 t21 w (K undef)) w fun S _ w =>
 ixs 32 t0 t3 fun t27 =>
 efC (fun w K => stN 32 t27 t25 w (K undef)) w fun S _ w =>
 bi .add t2 (.int .i64 1) fun t11 =>
 bi .sub t3 (.int .i64 1) fun t13 =>
 again0 t11 t13 w)
 (R (.tuple #[]) w)
theorem IL : kO Tryz.f57 IH = true := by kernel_rfl
theorem IS (h : SQ Q (E8 t0 w)) : cal P DD [t0] w Q := sO Tryz.func57 rfl (by kernel_rfl) IL (by kernel_rfl) h
def UP : An := (An.s (An.r []) (An.s (An.s (An.r []) (An.s (An.s (An.r []) An.o) An.o)) (An.s (An.r []) An.o)))
def LV (t0 t1 : Value) (w : World) (R : KR) : Prop :=
 bx DU t0 w fun t2 w =>
 bx Aa t1 w fun t3 w =>
 ld1 t2 w.heap fun t5 =>
 ldN 32 t3 w.heap fun t6 =>
 cal P Cz [t5, t6] w fun t7 w =>
 notB t7 fun t8 =>
 cnd t8
 (cal P Jz [(.slice none 0 0)] w fun t9 w =>
 R t9 w)
 (ld1 t2 w.heap fun t10 =>
 cal P Er [t10, (.func (Fn.func GQ) #[] #[t2, t3])] w fun t12 w =>
 cal P Jz [t12] w fun t13 w =>
 R t13 w)
theorem UB : kO Tryz.f58 UP = true := by kernel_rfl
theorem T0 (h : SQ Q (LV t0 t1 w)) : cal P FX [t0, t1] w Q := sO Tryz.func58 rfl (by kernel_rfl) UB (by kernel_rfl) h
def AcX : An := (An.s (An.r []) (An.s (An.s (An.r []) (An.s (An.r []) (An.s (An.s (An.r []) An.o) An.o))) (An.s (An.r []) (An.s (An.s (An.r []) (An.s (An.s (An.r []) An.o) An.o)) (An.s (An.r []) An.o)))))
def Te (t0 t1 t2 t3 : Value) (w : World) (R : KR) : Prop :=
 bx AZ t0 w fun t4 w =>
 bx Aa t1 w fun t5 w =>
 ldN 4 t4 w.heap fun t13 =>
 cal P FE [t13] w fun t14 w =>
 bi .neq t14 (.int .i64 0) fun t16 =>
 cnd t16
 (R (.tuple #[(.pointer none), t14]) w)
 (ldN 32 t5 w.heap fun t19 =>
 cal P MY [t19, t2, t3] w fun t22 w =>
 ext 0 t22 fun t23 =>
 ext 1 t22 fun t24 =>
 bi .neq t24 (.int .i64 0) fun t26 =>
 cnd t26
 (R (.tuple #[(.pointer none), t24]) w)
 (ldN 4 t4 w.heap fun t28 =>
 rdP P (Instr.build BI #[(0, t28), (1, t23)]) w fun t30 =>
 bx BI t30 w fun t31 w =>
 R (.tuple #[t31, (.int .i64 0)]) w))
theorem Acx : kO Tryz.f59 AcX = true := by kernel_rfl
theorem AbX (h : SQ Q (Te t0 t1 t2 t3 w)) : cal P MJ [t0, t1, t2, t3] w Q := sO Tryz.func59 rfl (by kernel_rfl) Acx (by kernel_rfl) h
def Ih : An := (An.s (An.r []) (An.s (An.s (An.r []) (An.s (An.s (An.r []) An.o) An.o)) (An.s (An.r []) An.o)))
def EG (t0 : Value) (w : World) (R : KR) : Prop :=
 nilS false t0 fun t4 =>
 cnd t4
 (R (.slice none 0 0) w)
 (efP P (Instr.buildSlice Bg 0 #[]) w fun t5 w =>
 efP P (Builtin.append_ #[Bg, Bg] Bg #[t5, t0]) w fun t7 w =>
 R t7 w)
theorem If : kO Tryz.f60 Ih = true := by kernel_rfl
theorem Iq (h : SQ Q (EG t0 w)) : cal P Dp [t0] w Q := sO Tryz.func60 rfl (by kernel_rfl) If (by kernel_rfl) h
def R1 : An := (An.s (An.r []) (An.s (An.b (An.s (An.r []) (An.s (An.s (An.r []) An.o) (An.s (An.d [0, 2, 3, 4, 5, 6, 1, 7, 8] []) (An.s (An.s (An.r []) An.o) An.o))))) (An.s (An.r []) (An.s (An.r []) (An.s (An.b (An.l [7, 8, 9] (An.b (An.s (An.r []) (An.s (An.s (An.r [[53], [64]]) (An.s (An.s (An.r []) (An.s (An.dc [0, 1, 2, 3, 4, 5, 6, 7, 8, 9, 10] [5] []) (An.s (An.r []) (An.s (An.r []) An.o)))) An.o)) (An.s (An.r []) (An.s (An.s (An.r []) (An.s An.o An.o)) (An.s (An.dc [0, 1, 2, 3, 4, 5, 6, 7, 8, 9, 10, 11, 12, 13, 14, 15, 16, 17, 18, 19, 20, 21, 22, 23, 24, 25] [25] []) (An.s (An.r []) (An.s (An.r [[153]]) (An.s (An.r []) An.o))))))))))) (An.s (An.r []) (An.s (An.s (An.r []) (An.b (An.l [16, 17] (An.s (An.s (An.r []) (An.s An.o An.o)) (An.s (An.j [16] (An.b (An.s (An.s (An.dc [0, 1, 2, 3, 4, 5, 6, 7, 8, 9, 10, 11, 12, 13] [12] []) (An.s An.o An.o)) (An.s (An.r []) (An.s (An.j [] (An.s (An.r []) (An.s (An.dc [0, 1, 2, 3, 4, 5, 6, 7, 8, 9, 10, 11] [6, 11] []) An.o))) (An.r [])))))) (An.r [])))))) (An.s (An.r []) (An.s (An.r []) An.o)))))))))
def Kz (t0 t1 : Value) (w : World) (R : KR) : Prop :=
 cal P EU [t1] w fun t21 w =>
 bi .neq t21 (.int .i64 0) fun t22 =>
 cnd t22
 (R (.tuple #[(.slice none 0 0), (.slice none 0 0), (.int .i64 70)]) w)
 (drH w fun S w =>
 nilc t0 fun t27 =>
 fad 0 t27 fun t28 =>
 fad 0 t28 fun t29 =>
 rdS S (fun w => ld1 t29 w.heap) fun t30 =>
 efS S (cal P HY [t1]) w fun t25 w =>
 bi .gtr t25 t30 fun t31 =>
 cnd t31
 (R (.tuple #[(.slice none 0 0), (.slice none 0 0), (.int .i64 1)]) w)
 (nilc t0 fun t33 =>
 fad 4 t33 fun t34 =>
 ld1 t34 w.heap fun t35 =>
 nilc t35 fun t36 =>
 fad 0 t36 fun t37 =>
 ldN 32 t37 w.heap fun t38 =>
 efP P (Instr.alloc Aa true (.tuple #[])) w fun t10 w =>
 stN 32 t10 t38 w fun w =>
 lp3 (.slice none 0 0) (.slice none 0 0) (.slice none 0 0) w fun _ t7 t8 t9 w again0 =>
 ldN 32 t10 w.heap fun t40 =>
 cal P CZ [t0, t40] w fun t41 w =>
 drw w fun w =>
 bi .geq t41 (.int .i64 0) fun t43 =>
 jn1 (fun k1 =>
 gif t43 true
 (ldN 32 t10 w.heap fun t45 =>
 nilc t0 fun t47 =>
 fad 4 t47 fun t48 =>
 ld1 t48 w.heap fun t49 =>
 nilc t49 fun t50 =>
 fad 0 t50 fun t51 =>
 ldN 32 t51 w.heap fun t52 =>
 rdP P (eqS .eql Aa (Operand.tmp 45) (Operand.tmp 52) t45 t52) w fun t53 =>
 k1 t53 w)
 (k1 undef w)) fun _ t53_1 w =>
 pik t43 t53_1 (.bool false) fun t54 =>
 jn1 (fun k2 =>
 gif t54 true
 (nilc t0 fun t57 =>
 fad 5 t57 fun t58 =>
 ld1 t58 w.heap fun t59 =>
 ixs 99 t59 t41 fun t61 =>
 fad 32 t61 fun t62 =>
 fad 66 t62 fun t63 =>
 ld1 t63 w.heap fun t64 =>
 k2 t64 w)
 (k2 undef w)) fun _ t64_1 w =>
 pik t54 t64_1 (.bool false) fun t65 =>
 cnd t65
 (nilc t0 fun t67 =>
 fad 5 t67 fun t68 =>
 ld1 t68 w.heap fun t69 =>
 ixs 99 t69 t41 fun t71 =>
 fad 32 t71 fun t72 =>
 ldN 67 t72 w.heap fun t73 =>
 cal P GG [t73] w fun t74 w =>
 stN 32 t10 t74 w fun w =>
 drH w fun S w =>
 nilc t0 fun t77 =>
 fad 4 t77 fun t78 =>
 rdS S (fun w => ld1 t78 w.heap) fun t79 =>
 rdS S (fun w => ldN 32 t10 w.heap) fun t80 =>
 efC (cal P HB [t79, t80]) w fun S t81 w =>
 ext 0 t81 fun t82 =>
 ext 1 t81 fun t83 =>
 ldN 32 t10 w.heap fun t85 =>
 efP P (Instr.buildSlice Ax 1 #[(0, t85)]) w fun t86 w =>
 efP P (Builtin.append_ #[Ax, Ax] Ax #[t7, t86]) w fun t87 w =>
 efP P (Builtin.append_ #[Ax, Ax] Ax #[t8, t82]) w fun t90 w =>
 again0 t87 t90 t9 w)
 (ldN 32 t10 w.heap fun t94 =>
 cal P Hy [t0, t1, t94] w fun t95 w =>
 ext 0 t95 fun t96 =>
 ext 1 t95 fun t97 =>
 efP P (Instr.alloc Aa true (.tuple #[])) w fun t14 w =>
 stN 32 t14 t96 w fun w =>
 nilc t0 fun t100 =>
 fad 0 t100 fun t101 =>
 fad 1 t101 fun t102 =>
 ld1 t102 w.heap fun t103 =>
 bi .lss t97 t103 fun t104 =>
 cnd t104
 (lp2 (.slice none 0 0) (.int .i64 0) w fun _ t16 t17 w again3 =>
 nilc t0 fun t158 =>
 fad 5 t158 fun t159 =>
 ld1 t159 w.heap fun t160 =>
 lenS t160 fun t161 =>
 bi .lss t17 t161 fun t162 =>
 cnd t162
 (jn1 (fun k4 =>
 drH w fun S w =>
 nilc t0 fun t166 =>
 fad 4 t166 fun t167 =>
 rdS S (fun w => ld1 t167 w.heap) fun t168 =>
 nilc t0 fun t170 =>
 fad 5 t170 fun t171 =>
 rdS S (fun w => ld1 t171 w.heap) fun t172 =>
 ixs 99 t172 t17 fun t174 =>
 fad 0 t174 fun t175 =>
 rdS S (fun w => ldN 32 t175 w.heap) fun t176 =>
 efC (cal P CJ [t168, t176]) w fun S t177 w =>
 notB t177 fun t178 =>
 cnd t178
 (k4 t16 w)
 (nilc t0 fun t180 =>
 fad 5 t180 fun t181 =>
 ld1 t181 w.heap fun t182 =>
 ixs 99 t182 t17 fun t184 =>
 ldN 99 t184 w.heap fun t185 =>
 efP P (Instr.alloc BG true (.tuple #[])) w fun t18 w =>
 stN 99 t18 t185 w fun w =>
 jn0 (fun k5 =>
 fad 0 t18 fun t187 =>
 ldN 32 t187 w.heap fun t188 =>
 cal P NT [t9, t188] w fun t189 w =>
 notB t189 fun t190 =>
 cnd t190
 (drH w fun S w =>
 nilc t0 fun t193 =>
 fad 0 t193 fun t194 =>
 rdS S (fun w => ldN 4 t194 w.heap) fun t195 =>
 fad 32 t18 fun t196 =>
 rdS S (fun w => ldN 67 t196 w.heap) fun t197 =>
 efC (cal P I1 [t195, t197]) w fun S t198 w =>
 ext 0 t198 fun t199 =>
 ext 1 t198 fun t200 =>
 fad 32 t18 fun t201 =>
 efC (fun w K => stN 67 t201 t199 w (K undef)) w fun S _ w =>
 k5 w)
 (k5 w)) fun _ w =>
 ldN 99 t18 w.heap fun t203 =>
 efP P (Instr.buildSlice Br 1 #[(0, t203)]) w fun t204 w =>
 efP P (Builtin.append_ #[Br, Br] Br #[t16, t204]) w fun t205 w =>
 k4 t205 w)) fun _ t16_1 w =>
 bi .add t17 (.int .i64 1) fun t164 =>
 again3 t16_1 t164 w)
 (nilc t0 fun t208 =>
 fad 5 t208 fun t209 =>
 st1 t209 t16 w fun w =>
 R (.tuple #[t7, t8, (.int .i64 0)]) w))
 (drH w fun S w =>
 nilc t0 fun t107 =>
 fad 5 t107 fun t108 =>
 rdS S (fun w => ld1 t108 w.heap) fun t109 =>
 nilc t0 fun t112 =>
 fad 0 t112 fun t113 =>
 rdS S (fun w => ldN 4 t113 w.heap) fun t114 =>
 nilc t0 fun t116 =>
 fad 5 t116 fun t117 =>
 rdS S (fun w => ld1 t117 w.heap) fun t118 =>
 ixs 99 t118 t41 fun t120 =>
 fad 32 t120 fun t121 =>
 rdS S (fun w => ldN 67 t121 w.heap) fun t122 =>
 rdS S (fun w => ldN 32 t14 w.heap) fun t123 =>
 efS S (cal P LI [t114, t122, t123, t97]) w fun t125 w =>
 ext 0 t125 fun t126 =>
 ext 1 t125 fun t127 =>
 ixs 99 t109 t41 fun t128 =>
 fad 32 t128 fun t129 =>
 efC (fun w K => stN 67 t129 t126 w (K undef)) w fun S _ w =>
 ldN 32 t10 w.heap fun t131 =>
 efP P (Instr.buildSlice Ax 1 #[(0, t131)]) w fun t132 w =>
 efP P (Builtin.append_ #[Ax, Ax] Ax #[t9, t132]) w fun t133 w =>
 drw w fun w =>
 ldN 32 t10 w.heap fun t134 =>
 nilc t0 fun t136 =>
 fad 4 t136 fun t137 =>
 ld1 t137 w.heap fun t138 =>
 nilc t138 fun t139 =>
 fad 0 t139 fun t140 =>
 ldN 32 t140 w.heap fun t141 =>
 rdP P (eqS .neq Aa (Operand.tmp 134) (Operand.tmp 141) t134 t141) w fun t142 =>
 jn1 (fun k6 =>
 gif t142 false
 (nilc t0 fun t145 =>
 fad 5 t145 fun t146 =>
 ld1 t146 w.heap fun t147 =>
 ixs 99 t147 t41 fun t149 =>
 fad 32 t149 fun t150 =>
 fad 66 t150 fun t151 =>
 ld1 t151 w.heap fun t152 =>
 notB t152 fun t153 =>
 k6 t153 w)
 (k6 undef w)) fun _ t153_1 w =>
 pik t142 (.bool true) t153_1 fun t154 =>
 cnd t154
 (ldN 32 t14 w.heap fun t155 =>
 stN 32 t10 t155 w fun w =>
 again0 t7 t8 t133 w)
 (again0 t7 t8 t133 w)))))
theorem SA : kO Tryz.f61 R1 = true := by kernel_rfl
theorem St (h : SQ Q (Kz t0 t1 w)) : cal P HL [t0, t1] w Q := sO Tryz.func61 rfl (by kernel_rfl) SA (by kernel_rfl) h
def Im : An := (An.s (An.r []) (An.s (An.s (An.r []) (An.s (An.s (An.r []) An.o) An.o)) (An.s (An.s (An.r []) (An.b (An.l [13] (An.s (An.r []) (An.s (An.s An.o An.o) (An.s (An.b (An.s (An.r []) (An.s (An.r []) (An.s (An.s (An.r []) An.o) An.o)))) (An.r []))))))) (An.s (An.r []) An.o))))
def EI (t0 t1 : Value) (w : World) (R : KR) : Prop :=
 lenS t0 fun t7 =>
 lenS t1 fun t9 =>
 bi .neq t7 t9 fun t10 =>
 cnd t10
 (R (.bool false) w)
 (lenS t0 fun t12 =>
 lp1 (.int .i64 0) w fun _ t13 w again0 =>
 bi .lss t13 t12 fun t14 =>
 cnd t14
 (drw w fun w =>
 ixs 33 t0 t13 fun t18 =>
 ldN 33 t18 w.heap fun t19 =>
 ixs 33 t1 t13 fun t22 =>
 ldN 33 t22 w.heap fun t23 =>
 rdP P (eqS .neq BQ (Operand.tmp 19) (Operand.tmp 23) t19 t23) w fun t24 =>
 cnd t24
 (R (.bool false) w)
 (bi .add t13 (.int .i64 1) fun t25 =>
 again0 t25 w))
 (R (.bool true) w))
theorem Ig : kO Tryz.f62 Im = true := by kernel_rfl
theorem Ie (h : SQ Q (EI t0 t1 w)) : cal P Do [t0, t1] w Q := sO Tryz.func62 rfl (by kernel_rfl) Ig (by kernel_rfl) h
def TW : An := (An.s (An.r []) (An.s (An.dt (Pl.step 0 (Pl.step 1 (Pl.step 2 (Pl.step 3 (Pl.step 5 (Pl.br (Pl.alt 4 (Pl.br (Pl.alt 6 (Pl.step 7 (Pl.step 8 (Pl.step 9 (Pl.step 10 (Pl.step 11 (Pl.step 12 Pl.nil)))))) (Pl.alt 10 (Pl.step 6 (Pl.step 7 (Pl.step 8 (Pl.step 9 (Pl.step 11 (Pl.step 12 Pl.nil)))))) Pl.non))) (Pl.alt 10 (Pl.step 4 (Pl.step 6 (Pl.step 7 (Pl.step 8 (Pl.step 9 (Pl.step 11 (Pl.step 12 Pl.nil))))))) Pl.non)))))))) [6, 11] [6, 7]) (An.s (An.s (An.r []) (An.s (An.s (An.r []) An.o) An.o)) (An.s (An.r []) (An.s (An.s (An.r [[42]]) (An.s (An.s (An.r []) An.o) An.o)) (An.s (An.dc [0, 1, 2, 3, 4, 5] [5] []) (An.s (An.s (An.r []) (An.s (An.s (An.dt (Pl.step 0 (Pl.step 1 (Pl.step 2 (Pl.step 3 (Pl.step 4 (Pl.br (Pl.alt 5 (Pl.step 6 (Pl.step 7 (Pl.step 8 (Pl.step 9 (Pl.step 10 (Pl.step 11 Pl.nil)))))) (Pl.alt 9 (Pl.step 5 (Pl.step 6 (Pl.step 7 (Pl.step 8 (Pl.step 10 (Pl.step 11 Pl.nil)))))) Pl.non)))))))) [5, 10] [9]) (An.s (An.dc [0, 1, 2, 3, 4, 5, 6, 7, 8, 9, 10, 11, 12, 13] [10, 13] []) (An.s (An.r []) An.o))) An.o)) (An.s (An.dc [0, 1, 2, 3, 4, 5, 6, 7, 8, 9, 10, 11, 12, 13, 14, 15, 16, 17, 18, 19, 20, 21, 22, 23, 24] [24] []) (An.s (An.r []) An.o)))))))))
def L4 (t0 t1 : Value) (w : World) (R : KR) : Prop :=
 bx Ao t1 w fun t3 w =>
 efP P (Instr.alloc Aa true (.tuple #[])) w fun t4 w =>
 drH w fun S w =>
 jn2 (fun k0 =>
 nilc t0 fun t13 =>
 fad 4 t13 fun t14 =>
 rdS S (fun w => ld1 t14 w.heap) fun t15 =>
 rdS S (fun w => ldN 34 t3 w.heap) fun t17 =>
 (efS S (cal P Ed [t15]) w fun t16_1 w =>
 (efC (cal P Dq [t16_1, t17]) w fun S t18_2 w =>
 ext 0 t18_2 fun t19_2 =>
 ext 1 t18_2 fun t20_2 =>
 efS S (efP P (Instr.alloc Aa true (.tuple #[]))) w fun t6_2 w =>
 efC (fun w K => stN 32 t6_2 t19_2 w (K undef)) w fun S _ w =>
 k0 t6_2 t20_2 w) ∧
 ((efS S (efP P (Instr.alloc Aa true (.tuple #[]))) w fun t6_1 w =>
 efC (cal P Dq [t16_1, t17]) w fun S t18_1 w =>
 ext 0 t18_1 fun t19_1 =>
 ext 1 t18_1 fun t20_1 =>
 efC (fun w K => stN 32 t6_1 t19_1 w (K undef)) w fun S _ w =>
 k0 t6_1 t20_1 w) ∧
 (True))) ∧
 ((efS S (efP P (Instr.alloc Aa true (.tuple #[]))) w fun t6 w =>
 efS S (cal P Ed [t15]) w fun t16 w =>
 efC (cal P Dq [t16, t17]) w fun S t18 w =>
 ext 0 t18 fun t19 =>
 ext 1 t18 fun t20 =>
 efC (fun w K => stN 32 t6 t19 w (K undef)) w fun S _ w =>
 k0 t6 t20 w) ∧
 (True))) fun _ t6_3 t7 w =>
 bi .neq t7 (.int .i64 0) fun t22 =>
 cnd t22
 (rdP P (Instr.build Aa #[]) w fun t23 =>
 stN 32 t4 t23 w fun w =>
 ldN 32 t4 w.heap fun r1 =>
 R (.tuple #[r1, t7]) w)
 (fad 0 t3 fun t26 =>
 ldN 32 t26 w.heap fun t27 =>
 cal P CZ [t0, t27] w fun t28 w =>
 bi .geq t28 (.int .i64 0) fun t30 =>
 jn1 (fun k2 =>
 gif t30 true
 (nilc t0 fun t33 =>
 fad 5 t33 fun t34 =>
 ld1 t34 w.heap fun t35 =>
 ixs 99 t35 t28 fun t37 =>
 fad 32 t37 fun t38 =>
 fad 0 t38 fun t39 =>
 ld1 t39 w.heap fun t40 =>
 lenS t40 fun t41 =>
 bi .geq t41 (.int .i64 32) fun t42 =>
 k2 t42 w)
 (k2 undef w)) fun _ t42_1 w =>
 pik t30 t42_1 (.bool false) fun t43 =>
 cnd t43
 (rdP P (Instr.build Aa #[]) w fun t44 =>
 stN 32 t4 t44 w fun w =>
 ldN 32 t4 w.heap fun r3 =>
 R (.tuple #[r3, (.int .i64 6)]) w)
 (drH w fun S w =>
 nilc t0 fun t46 =>
 fad 4 t46 fun t47 =>
 rdS S (fun w => ld1 t47 w.heap) fun t48 =>
 rdS S (fun w => ldN 34 t3 w.heap) fun t49 =>
 efC (cal P Dq [t48, t49]) w fun S t50 w =>
 bi .lss t28 (.int .i64 0) fun t52 =>
 cnd t52
 (drH w fun S w =>
 jn1 (fun k4 =>
 nilc t0 fun t55 =>
 fad 0 t55 fun t56 =>
 rdS S (fun w => ldN 4 t56 w.heap) fun t57 =>
 rdS S (fun w => ldN 32 t6_3 w.heap) fun t58 =>
 (efC (cal P JD [t57, t58]) w fun S t59_1 w =>
 ext 0 t59_1 fun t60_1 =>
 ext 1 t59_1 fun t61_1 =>
 efS S (efP P (Instr.alloc Ak true (.tuple #[]))) w fun t9_1 w =>
 efC (fun w K => stN 67 t9_1 t60_1 w (K undef)) w fun S _ w =>
 k4 t9_1 w) ∧
 ((efS S (efP P (Instr.alloc Ak true (.tuple #[]))) w fun t9 w =>
 efC (cal P JD [t57, t58]) w fun S t59 w =>
 ext 0 t59 fun t60 =>
 ext 1 t59 fun t61 =>
 efC (fun w K => stN 67 t9 t60 w (K undef)) w fun S _ w =>
 k4 t9 w) ∧
 (True))) fun _ t9_2 w =>
 drH w fun S w =>
 nilc t0 fun t64 =>
 fad 5 t64 fun t65 =>
 rdS S (fun w => ld1 t65 w.heap) fun t66 =>
 fad 0 t3 fun t67 =>
 rdS S (fun w => ldN 32 t67 w.heap) fun t68 =>
 rdS S (fun w => ldN 67 t9_2 w.heap) fun t69 =>
 rdS S (rdP P (Instr.build BG #[(0, t68), (1, t69)])) fun t70 =>
 efS S (efP P (Instr.buildSlice Br 1 #[(0, t70)])) w fun t71 w =>
 efC (efP P (Builtin.append_ #[Br, Br] Br #[t66, t71])) w fun S t72 w =>
 nilc t0 fun t73 =>
 fad 5 t73 fun t74 =>
 efC (fun w K => st1 t74 t72 w (K undef)) w fun S _ w =>
 ldN 32 t6_3 w.heap fun t75 =>
 stN 32 t4 t75 w fun w =>
 ldN 32 t4 w.heap fun r5 =>
 R (.tuple #[r5, (.int .i64 0)]) w)
 (drH w fun S w =>
 nilc t0 fun t78 =>
 fad 5 t78 fun t79 =>
 rdS S (fun w => ld1 t79 w.heap) fun t80 =>
 nilc t0 fun t83 =>
 fad 0 t83 fun t84 =>
 rdS S (fun w => ldN 4 t84 w.heap) fun t85 =>
 nilc t0 fun t87 =>
 fad 5 t87 fun t88 =>
 rdS S (fun w => ld1 t88 w.heap) fun t89 =>
 ixs 99 t89 t28 fun t91 =>
 fad 32 t91 fun t92 =>
 rdS S (fun w => ldN 67 t92 w.heap) fun t93 =>
 rdS S (fun w => ldN 32 t6_3 w.heap) fun t94 =>
 efS S (cal P MM [t85, t93, t94]) w fun t95 w =>
 ext 0 t95 fun t96 =>
 ext 1 t95 fun t97 =>
 ixs 99 t80 t28 fun t98 =>
 fad 32 t98 fun t99 =>
 efC (fun w K => stN 67 t99 t96 w (K undef)) w fun S _ w =>
 ldN 32 t6_3 w.heap fun t100 =>
 stN 32 t4 t100 w fun w =>
 ldN 32 t4 w.heap fun r6 =>
 R (.tuple #[r6, (.int .i64 0)]) w)))
theorem UJ : kO Tryz.f63 TW = true := by kernel_rfl
theorem UA (h : SQ Q (L4 t0 t1 w)) : cal P EF [t0, t1] w Q := sO Tryz.func63 rfl (by kernel_rfl) UJ (by kernel_rfl) h
end Go.Fx
