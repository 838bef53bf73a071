/-
  The readings, part 6.
-/
import Derived.Test.YtpdnddcodnpmeaaGreatDoorQ738e87f5
import Derived.Test.YtpdnddcodnpmeaaGreatDoorQ7b5fe899
import Derived.Test.YtpdnddcodnpmeaaGreatDoorQ52f385ea
import Derived.Test.YtpdnddcodnpmeaaGreatDoorQ3ba871d2
import Derived.Test.YtpdnddcodnpmeaaGreatDoorQ67391b50
import Derived.Test.YtpdnddcodnpmeaaGreatDoorQd963d5f1
import Derived.Test.YtpdnddcodnpmeaaGreatDoorQf186b5bc
set_option linter.unusedVariables false
set_option maxRecDepth 100000
namespace Go.Fx
open Go.Proofs
variable {t0 t1 t2 t3 t4 t5 t6 t7 t8 t9 : Value} {w : World} {Q : KR}
def YV : An := (An.s (An.r []) (An.s (An.b (An.s (An.j [3] (An.s (An.r []) (An.s An.o (An.r [])))) (An.s (An.s (An.r []) An.o) (An.s (An.r [[19]]) (An.s (An.s (An.r []) An.o) An.o))))) (An.s (An.r []) An.o)))
def OV (t0 : Value) (w : World) (R : KR) : Prop :=
 bx Ao t0 w fun t1 w =>
 jn1 (fun k0 =>
 fad 32 t1 fun t4 =>
 ld1 t4 w.heap fun t5 =>
 bi .lss t5 (.int .i64 0) fun t6 =>
 cnd t6
 (k0 t6 w)
 (fad 33 t1 fun t7 =>
 ld1 t7 w.heap fun t8 =>
 lenS t8 fun t9 =>
 bi .gtr t9 (.int .i64 200) fun t10 =>
 k0 t10 w)) fun _ t3 w =>
 cnd t3
 (R (.int .i64 30) w)
 (fad 32 t1 fun t12 =>
 ld1 t12 w.heap fun t13 =>
 bi .eql t13 (.int .i64 0) fun t14 =>
 jn1 (fun k1 =>
 gif t14 true
 (fad 0 t1 fun t16 =>
 ldN 32 t16 w.heap fun t17 =>
 rdP P (Instr.build Aa #[]) w fun t18 =>
 rdP P (eqS .neq Aa (Operand.tmp 17) (Operand.tmp 18) t17 t18) w fun t19 =>
 k1 t19 w)
 (k1 undef w)) fun _ t19_1 w =>
 pik t14 t19_1 (.bool false) fun t20 =>
 cnd t20
 (R (.int .i64 30) w)
 (R (.int .i64 0) w))
theorem YQ : kO Tryz.f114 YV = true := by kernel_rfl
theorem Yw (h : SQ Q (OV t0 w)) : cal P H5 [t0] w Q := sO Tryz.func114 rfl (by kernel_rfl) YQ (by kernel_rfl) h
def AeJ : An := (An.s (An.r []) (An.s (An.r []) (An.s (An.r []) (An.s (An.s (An.r [[15]]) (An.s (An.r []) An.o)) (An.s (An.r []) An.o)))))
def Wo (t0 : Value) (w : World) (R : KR) : Prop :=
 rdP P (Instr.build DV #[(1, t0)]) w fun t5 =>
 bx DV t5 w fun t6 w =>
 nilc t6 fun t8 =>
 fad 0 t8 fun t9 =>
 fad 0 t9 fun t10 =>
 st1 t10 (.bool true) w fun w =>
 bi .lss t0 (.int .i64 0) fun t12 =>
 jn1 (fun k0 =>
 gif t12 false
 (bi .gtr t0 (.int .i64 8192) fun t15 =>
 k0 t15 w)
 (k0 undef w)) fun _ t15_1 w =>
 pik t12 (.bool true) t15_1 fun t16 =>
 cnd t16
 (nilc t6 fun t18 =>
 fad 0 t18 fun t19 =>
 fad 2 t19 fun t20 =>
 st1 t20 (.int .i64 1) w fun w =>
 R t6 w)
 (R t6 w)
theorem AdY : kO Tryz.f115 AeJ = true := by kernel_rfl
theorem Ad4 (h : SQ Q (Wo t0 w)) : cal P NR [t0] w Q := sO Tryz.func115 rfl (by kernel_rfl) AdY (by kernel_rfl) h
def Pa : An := (An.r [])
def Jb (t0 t1 : Value) (w : World) (R : KR) : Prop :=
 cvi .u64 t1 fun t6 =>
 cal P ES [(.int .i64 2), t6] w fun t7 w =>
 cal P C9 [t0, t7, (.slice none 0 0)] w fun t8 w =>
 R (.tuple #[]) w
theorem Pt : kO Tryz.f116 Pa = true := by kernel_rfl
theorem Pn (h : SQ Q (Jb t0 t1 w)) : cal P Gu [t0, t1] w Q := sO Tryz.func116 rfl (by kernel_rfl) Pt (by kernel_rfl) h
def Po : An := (An.r [])
def Jd (t0 t1 : Value) (w : World) (R : KR) : Prop :=
 cal P C9 [t0, (.slice none 0 0), t1] w fun t6 w =>
 R (.tuple #[]) w
theorem O6 : kO Tryz.f117 Po = true := by kernel_rfl
theorem Pr (h : SQ Q (Jd t0 t1 w)) : cal P Gt [t0, t1] w Q := sO Tryz.func117 rfl (by kernel_rfl) O6 (by kernel_rfl) h
def QE : An := (An.r [])
def J0 (t0 t1 : Value) (w : World) (R : KR) : Prop :=
 cal P ES [(.int .i64 8), t1] w fun t6 w =>
 cal P C9 [t0, t6, (.slice none 0 0)] w fun t7 w =>
 R (.tuple #[]) w
theorem Qt : kO Tryz.f118 QE = true := by kernel_rfl
theorem QZ (h : SQ Q (J0 t0 t1 w)) : cal P GM [t0, t1] w Q := sO Tryz.func118 rfl (by kernel_rfl) Qt (by kernel_rfl) h
def PB : An := (An.r [])
def Ja (t0 t1 : Value) (w : World) (R : KR) : Prop :=
 lenS t1 fun t6 =>
 cvi .u64 t6 fun t7 =>
 cal P ES [(.int .i64 4), t7] w fun t8 w =>
 cal P C9 [t0, t8, t1] w fun t10 w =>
 R (.tuple #[]) w
theorem Py : kO Tryz.f119 PB = true := by kernel_rfl
theorem Pc (h : SQ Q (Ja t0 t1 w)) : cal P Gw [t0, t1] w Q := sO Tryz.func119 rfl (by kernel_rfl) Py (by kernel_rfl) h
def Sh : An := (An.s (An.r []) (An.s (An.s (An.r []) (An.s (An.r []) (An.s (An.s (An.r []) An.o) An.o))) (An.s (An.r []) (An.s (An.r []) (An.s (An.r []) An.o)))))
def KO (t0 : Value) (w : World) (R : KR) : Prop :=
 cal P HE [t0] w fun t7 w =>
 bi .neq t7 (.int .i64 0) fun t9 =>
 cnd t9
 (R (.tuple #[(.slice none 0 0), t7]) w)
 (nilc t0 fun t12 =>
 fad 0 t12 fun t13 =>
 fad 1 t13 fun t14 =>
 ld1 t14 w.heap fun t15 =>
 lenS t15 fun t16 =>
 efP P (Instr.makeSlice Az t16 t16) w fun t17 w =>
 nilc t0 fun t20 =>
 fad 0 t20 fun t21 =>
 fad 1 t21 fun t22 =>
 ld1 t22 w.heap fun t23 =>
 efP P (Builtin.copy_ #[Az, Az] CS #[t17, t23]) w fun t24 w =>
 R (.tuple #[t17, (.int .i64 0)]) w)
theorem SU : kO Tryz.f120 Sh = true := by kernel_rfl
theorem Sm (h : SQ Q (KO t0 w)) : cal P HD [t0] w Q := sO Tryz.func120 rfl (by kernel_rfl) SU (by kernel_rfl) h
def AeW : An := (An.s (An.r []) (An.s (An.r []) An.o))
def XQ (w : World) (R : KR) : Prop :=
 cal P MR [] w fun t1 w =>
 rdP P (Instr.build JB #[(0, t1), (3, (.bool true))]) w fun t2 =>
 bx JB t2 w fun t3 w =>
 R t3 w
theorem Afu : kO Tryz.f121 AeW = true := by kernel_rfl
theorem Ae0 (h : SQ Q (XQ w)) : cal P Rn [] w Q := sO Tryz.func121 rfl (by kernel_rfl) Afu (by kernel_rfl) h
def Ss : An := (An.s (An.r []) (An.s (An.s (An.r []) (An.s (An.s (An.r []) An.o) An.o)) (An.s (An.s (An.r []) (An.b (An.l [12] (An.s (An.r []) (An.s (An.s An.o An.o) (An.s (An.b (An.s (An.r []) (An.s (An.r []) (An.s (An.r []) (An.s (An.b (An.l [7] (An.s (An.s (An.r []) (An.s An.o An.o)) (An.b (An.s (An.dc [0, 1, 2, 3, 4, 5, 6, 7, 8, 9, 10] [7, 10] []) (An.r [])))))) (An.r [])))))) (An.r []))))))) (An.s (An.r []) An.o))))
def Kw (t0 t1 : Value) (w : World) (R : KR) : Prop :=
 cal P FR [t0] w fun t9 w =>
 cnd t9
 (R (.int .i64 2) w)
 (lenS t1 fun t11 =>
 lp1 (.int .i64 0) w fun _ t12 w again0 =>
 bi .lss t12 t11 fun t13 =>
 cnd t13
 (ixs 1 t1 t12 fun t14 =>
 ld1 t14 w.heap fun t15 =>
 nilc t0 fun t17 =>
 fad 9 t17 fun t18 =>
 ld1 t18 w.heap fun t19 =>
 lenS t15 fun t21 =>
 bi .add t19 t21 fun t22 =>
 nilc t0 fun t23 =>
 fad 9 t23 fun t24 =>
 st1 t24 t22 w fun w =>
 nilc t0 fun t26 =>
 fad 8 t26 fun t27 =>
 ld1 t27 w.heap fun t28 =>
 efP P (Instr.buildSlice HZ 2 #[(0, t28), (1, t15)]) w fun t30 w =>
 cal P Ev [t30] w fun t31 w =>
 lp1 t31 w fun _ t7 w again1 =>
 lenS t7 fun t33 =>
 bi .geq t33 (.int .i64 64) fun t34 =>
 cnd t34
 (drH w fun S w =>
 nilc t0 fun t37 =>
 fad 0 t37 fun t38 =>
 rdS S (fun w => ldN 8 t38 w.heap) fun t39 =>
 slc 1 t7 none (some (.int .i64 64)) fun t41 =>
 efC (cal P JG [t39, t41]) w fun S t42 w =>
 nilc t0 fun t43 =>
 fad 0 t43 fun t44 =>
 efC (fun w K => stN 8 t44 t42 w (K undef)) w fun S _ w =>
 slc 1 t7 (some (.int .i64 64)) none fun t46 =>
 again1 t46 w)
 (cal P Ga [t7] w fun t49 w =>
 nilc t0 fun t50 =>
 fad 8 t50 fun t51 =>
 st1 t51 t49 w fun w =>
 bi .add t12 (.int .i64 1) fun t52 =>
 again0 t52 w))
 (R (.int .i64 0) w))
theorem Sk : kO Tryz.f122 Ss = true := by kernel_rfl
theorem SS (h : SQ Q (Kw t0 t1 w)) : cal P HI [t0, t1] w Q := sO Tryz.func122 rfl (by kernel_rfl) Sk (by kernel_rfl) h
def Wl : An := (An.s (An.r []) (An.s (An.r []) (An.s (An.s (An.r []) (An.s (An.s (An.r []) An.o) An.o)) (An.s (An.r []) (An.s (An.b (An.l [4] (An.s (An.s (An.r []) (An.s An.o An.o)) (An.b (An.r []))))) (An.s (An.r []) (An.s (An.s (An.r []) (An.b (An.l [4, 33] (An.s (An.r []) (An.s (An.s An.o An.o) (An.s (An.b (An.s (An.r []) (An.r []))) (An.r []))))))) (An.s (An.r []) (An.s (An.b (An.l [4] (An.s (An.s (An.r []) (An.s An.o An.o)) (An.s (An.b (An.dc [0, 1, 2, 3, 4] [3, 4] [])) (An.r []))))) (An.s (An.s (An.r []) (An.b (An.l [60] (An.s (An.r []) (An.s (An.s An.o An.o) (An.s (An.b (An.s (An.r []) (An.r []))) (An.r []))))))) (An.s (An.r []) An.o)))))))))))
def Ml (t0 : Value) (w : World) (R : KR) : Prop :=
 efP P (Instr.alloc Aa true (.tuple #[])) w fun t2 w =>
 efP P (Instr.alloc Aa true (.tuple #[])) w fun t3 w =>
 cal P FR [t0] w fun t11 w =>
 cnd t11
 (ldN 32 t3 w.heap fun t12 =>
 stN 32 t2 t12 w fun w =>
 ldN 32 t2 w.heap fun r0 =>
 R r0 w)
 (nilc t0 fun t14 =>
 fad 8 t14 fun t15 =>
 ld1 t15 w.heap fun t16 =>
 cal P Ga [t16] w fun t17 w =>
 efP P (Instr.buildSlice Az 1 #[(0, (.int .u8 128))]) w fun t18 w =>
 efP P (Builtin.append_ #[Az, Az] Az #[t17, t18]) w fun t19 w =>
 lp1 t19 w fun _ t4 w again1 =>
 lenS t4 fun t21 =>
 bi .rem t21 (.int .i64 64) fun t22 =>
 bi .neq t22 (.int .i64 56) fun t23 =>
 cnd t23
 (efP P (Instr.buildSlice Az 1 #[(0, (.int .u8 0))]) w fun t25 w =>
 efP P (Builtin.append_ #[Az, Az] Az #[t4, t25]) w fun t26 w =>
 again1 t26 w)
 (nilc t0 fun t28 =>
 fad 9 t28 fun t29 =>
 ld1 t29 w.heap fun t30 =>
 cvi .u64 t30 fun t31 =>
 bi .mul t31 (.int .u64 8) fun t32 =>
 lp2 t4 (.int .i64 0) w fun _ t4_1 t33 w again2 =>
 bi .lss t33 (.int .i64 8) fun t34 =>
 cnd t34
 (bi .mul (.int .i64 8) t33 fun t39 =>
 bi .sub (.int .i64 56) t39 fun t40 =>
 sh .shr t32 t40 fun t41 =>
 cvi .u8 t41 fun t42 =>
 efP P (Instr.buildSlice Az 1 #[(0, t42)]) w fun t43 w =>
 efP P (Builtin.append_ #[Az, Az] Az #[t4_1, t43]) w fun t44 w =>
 bi .add t33 (.int .i64 1) fun t45 =>
 again2 t44 t45 w)
 (nilc t0 fun t47 =>
 fad 0 t47 fun t48 =>
 ldN 8 t48 w.heap fun t49 =>
 efP P (Instr.alloc Bc true (.tuple #[])) w fun t7 w =>
 stN 8 t7 t49 w fun w =>
 lp1 t4_1 w fun _ t4_2 w again3 =>
 lenS t4_2 fun t51 =>
 bi .gtr t51 (.int .i64 0) fun t52 =>
 cnd t52
 (drH w fun S w =>
 rdS S (fun w => ldN 8 t7 w.heap) fun t55 =>
 slc 1 t4_2 none (some (.int .i64 64)) fun t57 =>
 efC (cal P JG [t55, t57]) w fun S t58 w =>
 efC (fun w K => stN 8 t7 t58 w (K undef)) w fun S _ w =>
 slc 1 t4_2 (some (.int .i64 64)) none fun t54 =>
 again3 t54 w)
 (ldN 8 t7 w.heap fun t59 =>
 lp1 (.int .i64 0) w fun _ t60 w again4 =>
 bi .lss t60 (.int .i64 8) fun t61 =>
 cnd t61
 (ixv 8 1 false t59 t60 fun t63 =>
 bi .mul (.int .i64 4) t60 fun t65 =>
 bi .mul (.int .i64 4) t60 fun t67 =>
 bi .add t67 (.int .i64 1) fun t68 =>
 bi .mul (.int .i64 4) t60 fun t70 =>
 bi .add t70 (.int .i64 2) fun t71 =>
 bi .mul (.int .i64 4) t60 fun t73 =>
 bi .add t73 (.int .i64 3) fun t74 =>
 sh .shr t63 (.int .u64 24) fun t76 =>
 cvi .u8 t76 fun t77 =>
 sh .shr t63 (.int .u64 16) fun t79 =>
 cvi .u8 t79 fun t80 =>
 sh .shr t63 (.int .u64 8) fun t82 =>
 cvi .u8 t82 fun t83 =>
 cvi .u8 t63 fun t85 =>
 ixa 32 1 t3 t65 fun t86 =>
 st1 t86 t77 w fun w =>
 ixa 32 1 t3 t68 fun t87 =>
 st1 t87 t80 w fun w =>
 ixa 32 1 t3 t71 fun t88 =>
 st1 t88 t83 w fun w =>
 ixa 32 1 t3 t74 fun t89 =>
 st1 t89 t85 w fun w =>
 bi .add t60 (.int .i64 1) fun t90 =>
 again4 t90 w)
 (ldN 32 t3 w.heap fun t91 =>
 stN 32 t2 t91 w fun w =>
 ldN 32 t2 w.heap fun r5 =>
 R r5 w)))))
theorem V9 : kO Tryz.f123 Wl = true := by kernel_rfl
theorem Vs (h : SQ Q (Ml t0 w)) : cal P IE [t0] w Q := sO Tryz.func123 rfl (by kernel_rfl) V9 (by kernel_rfl) h
def Aar : An := (An.s (An.r []) (An.s (An.s (An.r []) (An.s (An.r []) (An.s (An.s (An.r []) An.o) An.o))) (An.s (An.r []) (An.s (An.s (An.r [[26], [30], [37], [42], [49], [59]]) (An.s (An.s (An.r []) An.o) An.o)) (An.s (An.s (An.r []) (An.b (An.l [64] (An.s (An.r []) (An.s (An.s An.o An.o) (An.s (An.b (An.s (An.r []) (An.s (An.dc [0, 1, 2, 4, 3, 5, 6, 7, 8, 9, 10, 11, 12, 13, 14, 15, 16, 17, 18, 19, 20, 21, 22, 23, 24, 25, 26] [3] [[78], [83], [94]]) (An.s (An.s (An.r []) An.o) An.o)))) (An.r []))))))) (An.s (An.r []) An.o))))))
def QL (t0 t1 : Value) (w : World) (R : KR) : Prop :=
 bx AZ t0 w fun t2 w =>
 bx Ak t1 w fun t3 w =>
 ldN 4 t2 w.heap fun t9 =>
 cal P Gi [t9] w fun t10 w =>
 bi .neq t10 (.int .i64 0) fun t12 =>
 cnd t12
 (R t10 w)
 (ldN 67 t3 w.heap fun t14 =>
 fad 1 t3 fun t15 =>
 ldN 32 t15 w.heap fun t16 =>
 cal P Eh [t14, t16] w fun t17 w =>
 fad 0 t3 fun t18 =>
 ld1 t18 w.heap fun t19 =>
 lenS t19 fun t20 =>
 bi .lss t20 (.int .i64 1) fun t21 =>
 jn1 (fun k0 =>
 gif t21 false
 (fad 0 t3 fun t23 =>
 ld1 t23 w.heap fun t24 =>
 lenS t24 fun t25 =>
 bi .gtr t25 (.int .i64 32) fun t26 =>
 k0 t26 w)
 (k0 undef w)) fun _ t26_1 w =>
 pik t21 (.bool true) t26_1 fun t27 =>
 jn1 (fun k1 =>
 gif t27 false
 (bi .lss t17 (.int .i64 0) fun t30 =>
 k1 t30 w)
 (k1 undef w)) fun _ t30_1 w =>
 pik t27 (.bool true) t30_1 fun t31 =>
 jn1 (fun k2 =>
 gif t31 false
 (ldN 67 t3 w.heap fun t33 =>
 fad 33 t3 fun t34 =>
 ldN 32 t34 w.heap fun t35 =>
 cal P Eh [t33, t35] w fun t36 w =>
 bi .lss t36 (.int .i64 0) fun t37 =>
 k2 t37 w)
 (k2 undef w)) fun _ t37_1 w =>
 pik t31 (.bool true) t37_1 fun t38 =>
 jn1 (fun k3 =>
 gif t38 false
 (fad 65 t3 fun t40 =>
 ld1 t40 w.heap fun t41 =>
 bi .lss t41 (.int .i64 0) fun t42 =>
 k3 t42 w)
 (k3 undef w)) fun _ t42_1 w =>
 pik t38 (.bool true) t42_1 fun t43 =>
 jn1 (fun k4 =>
 gif t43 false
 (fad 65 t3 fun t45 =>
 ld1 t45 w.heap fun t46 =>
 fad 3 t2 fun t47 =>
 ld1 t47 w.heap fun t48 =>
 bi .gtr t46 t48 fun t49 =>
 k4 t49 w)
 (k4 undef w)) fun _ t49_1 w =>
 pik t43 (.bool true) t49_1 fun t50 =>
 jn1 (fun k5 =>
 gif t50 false
 (fad 66 t3 fun t52 =>
 ld1 t52 w.heap fun t53 =>
 fad 65 t3 fun t54 =>
 ld1 t54 w.heap fun t55 =>
 fad 3 t2 fun t56 =>
 ld1 t56 w.heap fun t57 =>
 bi .eql t55 t57 fun t58 =>
 rdP P (eqS .neq F9 (Operand.tmp 53) (Operand.tmp 58) t53 t58) w fun t59 =>
 k5 t59 w)
 (k5 undef w)) fun _ t59_1 w =>
 pik t50 (.bool true) t59_1 fun t60 =>
 cnd t60
 (R (.int .i64 171) w)
 (fad 0 t3 fun t61 =>
 ld1 t61 w.heap fun t62 =>
 lenS t62 fun t63 =>
 lp1 (.int .i64 0) w fun _ t64 w again6 =>
 bi .lss t64 t63 fun t65 =>
 cnd t65
 (ixs 33 t62 t64 fun t67 =>
 ldN 33 t67 w.heap fun t68 =>
 efP P (Instr.alloc BH true (.tuple #[])) w fun t8 w =>
 stN 33 t8 t68 w fun w =>
 drH w fun S w =>
 rdS S (fun w => ldN 67 t3 w.heap) fun t69 =>
 fad 0 t8 fun t70 =>
 rdS S (fun w => ldN 32 t70 w.heap) fun t71 =>
 efC (cal P Eh [t69, t71]) w fun S t72 w =>
 bi .neq t72 t64 fun t74 =>
 jn1 (fun k7 =>
 gif t74 false
 (fad 32 t8 fun t76 =>
 rdS S (fun w => ld1 t76 w.heap) fun t77 =>
 bi .lss t77 (.int .i64 0) fun t78 =>
 k7 t78 w)
 (k7 undef w)) fun _ t78_1 w =>
 pik t74 (.bool true) t78_1 fun t79 =>
 jn1 (fun k8 =>
 gif t79 false
 (fad 32 t8 fun t81 =>
 rdS S (fun w => ld1 t81 w.heap) fun t82 =>
 bi .gtr t82 (.int .i64 1073741824) fun t83 =>
 k8 t83 w)
 (k8 undef w)) fun _ t83_1 w =>
 pik t79 (.bool true) t83_1 fun t84 =>
 jn1 (fun k9 =>
 gif t84 false
 (fad 32 t8 fun t86 =>
 rdS S (fun w => ld1 t86 w.heap) fun t87 =>
 fad 0 t3 fun t88 =>
 rdS S (fun w => ld1 t88 w.heap) fun t89 =>
 ixs 33 t89 t17 fun t91 =>
 fad 32 t91 fun t92 =>
 rdS S (fun w => ld1 t92 w.heap) fun t93 =>
 bi .gtr t87 t93 fun t94 =>
 k9 t94 w)
 (k9 undef w)) fun _ t94_1 w =>
 pik t84 (.bool true) t94_1 fun t95 =>
 cnd t95
 (R (.int .i64 171) w)
 (bi .add t64 (.int .i64 1) fun t96 =>
 again6 t96 w))
 (R (.int .i64 0) w)))
theorem Abr : kO Tryz.f124 Aar = true := by kernel_rfl
theorem AbB (h : SQ Q (QL t0 t1 w)) : cal P GO [t0, t1] w Q := sO Tryz.func124 rfl (by kernel_rfl) Abr (by kernel_rfl) h
def AeU : An := (An.s (An.r []) (An.s (An.r []) An.o))
def WG (t0 t1 : Value) (w : World) (R : KR) : Prop :=
 bx Ak t0 w fun t2 w =>
 bx Aa t1 w fun t3 w =>
 ldN 67 t2 w.heap fun t5 =>
 ldN 32 t3 w.heap fun t6 =>
 cal P Eh [t5, t6] w fun t7 w =>
 bi .geq t7 (.int .i64 0) fun t8 =>
 R t8 w
theorem Aea : kO Tryz.f125 AeU = true := by kernel_rfl
theorem Aee (h : SQ Q (WG t0 t1 w)) : cal P OD [t0, t1] w Q := sO Tryz.func125 rfl (by kernel_rfl) Aea (by kernel_rfl) h
def Ad1 : An := (An.s (An.r []) (An.s (An.r []) (An.s (An.r []) An.o)))
def Vw (t0 : Value) (w : World) (R : KR) : Prop :=
 bx Ak t0 w fun t1 w =>
 efP P (Instr.alloc Ak true (.tuple #[])) w fun t2 w =>
 fad 0 t1 fun t3 =>
 ld1 t3 w.heap fun t4 =>
 cal P CY [t4] w fun t5 w =>
 fad 0 t1 fun t6 =>
 st1 t6 t5 w fun w =>
 ldN 67 t1 w.heap fun t7 =>
 stN 67 t2 t7 w fun w =>
 ldN 67 t2 w.heap fun r0 =>
 R r0 w
theorem Aex : kO Tryz.f126 Ad1 = true := by kernel_rfl
theorem AdF (h : SQ Q (Vw t0 w)) : cal P IZ [t0] w Q := sO Tryz.func126 rfl (by kernel_rfl) Aex (by kernel_rfl) h
def Aer : An := (An.s (An.r []) (An.s (An.s (An.r []) (An.s (An.s (An.r []) An.o) An.o)) (An.s (An.r []) An.o)))
def V7 (t0 : Value) (w : World) (R : KR) : Prop :=
 cal P HS [t0] w fun t4 w =>
 bi .neq t4 (.int .i64 0) fun t5 =>
 cnd t5
 (R (.slice none 0 0) w)
 (R t0 w)
theorem AdZ : kO Tryz.f127 Aer = true := by kernel_rfl
theorem Aeq (h : SQ Q (V7 t0 w)) : cal P K0 [t0] w Q := sO Tryz.func127 rfl (by kernel_rfl) AdZ (by kernel_rfl) h
def AbA : An := (An.s (An.r []) (An.s (An.r []) An.o))
def Qj (t0 t1 : Value) (w : World) (R : KR) : Prop :=
 bx Ak t0 w fun t2 w =>
 bx Aa t1 w fun t3 w =>
 fad 0 t2 fun t5 =>
 ld1 t5 w.heap fun t6 =>
 cal P DF [t6, (.func (Fn.func Nk) #[] #[t3])] w fun t8 w =>
 R t8 w
theorem AaK : kO Tryz.f128 AbA = true := by kernel_rfl
theorem AbE (h : SQ Q (Qj t0 t1 w)) : cal P Eh [t0, t1] w Q := sO Tryz.func128 rfl (by kernel_rfl) AaK (by kernel_rfl) h
def AaA : An := (An.s (An.r []) (An.s (An.b (An.s (An.r []) (An.s (An.s (An.r []) An.o) (An.s (An.r []) (An.s (An.s (An.r []) An.o) An.o))))) (An.s (An.r []) An.o)))
def Q7 (t0 t1 : Value) (w : World) (R : KR) : Prop :=
 bx AZ t0 w fun t2 w =>
 fad 2 t2 fun t7 =>
 ld1 t7 w.heap fun t8 =>
 bi .geq t1 t8 fun t9 =>
 cnd t9
 (R (.int .i64 2) w)
 (fad 1 t2 fun t12 =>
 ld1 t12 w.heap fun t13 =>
 bi .geq t1 t13 fun t14 =>
 cnd t14
 (R (.int .i64 1) w)
 (R (.int .i64 0) w))
theorem Z5 : kO Tryz.f129 AaA = true := by kernel_rfl
theorem AbC (h : SQ Q (Q7 t0 t1 w)) : cal P Lk [t0, t1] w Q := sO Tryz.func129 rfl (by kernel_rfl) Z5 (by kernel_rfl) h
def AbJ : An := (An.s (An.r []) (An.s (An.s (An.r []) (An.s (An.r []) (An.s (An.s (An.r []) An.o) An.o))) (An.s (An.r []) (An.s (An.j [] (An.s (An.r []) (An.s (An.r []) An.o))) (An.s (An.r []) An.o)))))
def Tb (t0 t1 : Value) (w : World) (R : KR) : Prop :=
 bx AZ t0 w fun t2 w =>
 bx Ak t1 w fun t3 w =>
 efP P (Instr.alloc Ak true (.tuple #[])) w fun t4 w =>
 ldN 4 t2 w.heap fun t7 =>
 ldN 67 t3 w.heap fun t8 =>
 cal P GO [t7, t8] w fun t9 w =>
 bi .neq t9 (.int .i64 0) fun t11 =>
 cnd t11
 (rdP P (Instr.build Ak #[]) w fun t12 =>
 stN 67 t4 t12 w fun w =>
 ldN 67 t4 w.heap fun r0 =>
 R (.tuple #[r0, t9]) w)
 (ldN 67 t3 w.heap fun t14 =>
 cal P IZ [t14] w fun t15 w =>
 stN 67 t3 t15 w fun w =>
 jn0 (fun k1 =>
 fad 66 t3 fun t16 =>
 ld1 t16 w.heap fun t17 =>
 notB t17 fun t18 =>
 cnd t18
 (fad 65 t3 fun t19 =>
 st1 t19 (.int .i64 0) w fun w =>
 k1 w)
 (k1 w)) fun _ w =>
 ldN 67 t3 w.heap fun t20 =>
 stN 67 t4 t20 w fun w =>
 ldN 67 t4 w.heap fun r2 =>
 R (.tuple #[r2, (.int .i64 0)]) w)
theorem Ac1 : kO Tryz.f130 AbJ = true := by kernel_rfl
theorem Acu (h : SQ Q (Tb t0 t1 w)) : cal P JC [t0, t1] w Q := sO Tryz.func130 rfl (by kernel_rfl) Ac1 (by kernel_rfl) h
def Yk : An := (An.s (An.r []) (An.s (An.s (An.r []) (An.s (An.s (An.r []) An.o) An.o)) (An.s (An.r []) An.o)))
def OL (t0 : Value) (w : World) (R : KR) : Prop :=
 nilS false t0 fun t4 =>
 cnd t4
 (R (.slice none 0 0) w)
 (efP P (Instr.buildSlice Az 0 #[]) w fun t5 w =>
 efP P (Builtin.append_ #[Az, Az] Az #[t5, t0]) w fun t7 w =>
 R t7 w)
theorem YK : kO Tryz.f131 Yk = true := by kernel_rfl
theorem YC (h : SQ Q (OL t0 w)) : cal P Ga [t0] w Q := sO Tryz.func131 rfl (by kernel_rfl) YK (by kernel_rfl) h
def Y9 : An := (An.s (An.r []) (An.s (An.dc [0, 1, 2, 3] [2] []) An.o))
def OU (t0 t1 : Value) (w : World) (R : KR) : Prop :=
 bx Aa t0 w fun t2 w =>
 bx Aa t1 w fun t3 w =>
 drH w fun S w =>
 sla 32 1 t2 none none fun t5 =>
 sla 32 1 t3 none none fun t6 =>
 efC (cal P IJ [t5, t6]) w fun S t7 w =>
 R t7 w
theorem Zd : kO Tryz.f132 Y9 = true := by kernel_rfl
theorem Yh (h : SQ Q (OU t0 t1 w)) : cal P Km [t0, t1] w Q := sO Tryz.func132 rfl (by kernel_rfl) Zd (by kernel_rfl) h
def Aal : An := (An.s (An.r []) (An.s (An.s (An.r []) (An.b (An.l [5] (An.s (An.s (An.r []) (An.s An.o An.o)) (An.s (An.b (An.s (An.r []) (An.s (An.s (An.r []) An.o) An.o))) (An.r [])))))) (An.s (An.r []) An.o)))
def Q1 (t0 t1 : Value) (w : World) (R : KR) : Prop :=
 bx Aa t0 w fun t2 w =>
 bx Aa t1 w fun t3 w =>
 lp1 (.int .i64 0) w fun _ t5 w again0 =>
 bi .lss t5 (.int .i64 32) fun t7 =>
 cnd t7
 (drw w fun w =>
 ixa 32 1 t2 t5 fun t11 =>
 ld1 t11 w.heap fun t12 =>
 ixa 32 1 t3 t5 fun t14 =>
 ld1 t14 w.heap fun t15 =>
 bi .neq t12 t15 fun t16 =>
 cnd t16
 (drw w fun w =>
 ixa 32 1 t2 t5 fun t18 =>
 ld1 t18 w.heap fun t19 =>
 ixa 32 1 t3 t5 fun t21 =>
 ld1 t21 w.heap fun t22 =>
 bi .lss t19 t22 fun t23 =>
 R t23 w)
 (bi .add t5 (.int .i64 1) fun t9 =>
 again0 t9 w))
 (R (.bool false) w)
theorem AaP : kO Tryz.f133 Aal = true := by kernel_rfl
theorem ZL (h : SQ Q (Q1 t0 t1 w)) : cal P G8 [t0, t1] w Q := sO Tryz.func133 rfl (by kernel_rfl) AaP (by kernel_rfl) h
def Zg : AnY := (AnY.s (AnY.c (An.r [])) (AnY.b (AnY.l [7] (AnY.s (AnY.c (An.r [])) (AnY.s (AnY.s AnY.o AnY.o) (AnY.s (AnY.b (AnY.s (AnY.c (An.r [])) (AnY.s AnY.y (AnY.s AnY.o AnY.o)))) (AnY.c (An.r []))))))))
def OS (t0 t1 : Value) (w : World) (R : KR) : Prop :=
 ld1 t1 w.heap fun t5 =>
 lenS t5 fun t6 =>
 lp1 (.int .i64 0) w fun _ t7 w again0 =>
 bi .lss t7 t6 fun t8 =>
 cnd t8
 (ixs 32 t5 t7 fun t9 =>
 ldN 32 t9 w.heap fun t10 =>
 efP P (Instr.alloc Aa true (.tuple #[])) w fun t4 w =>
 stN 32 t4 t10 w fun w =>
 ldN 32 t4 w.heap fun t12 =>
 calY P t0 [t12] w fun t13 w =>
 notB t13 fun t14 =>
 cnd t14
 (R (.tuple #[]) w)
 (bi .add t7 (.int .i64 1) fun t15 =>
 again0 t15 w))
 (R (.tuple #[]) w)
theorem Y6 : kOY Tryz.f134 Zg = true := by kernel_rfl
theorem Zi (h : SQ Q (OS t0 t1 w)) : cal P Gf [t0, t1] w Q := sOY Tryz.func134 rfl (by kernel_rfl) Y6 (by kernel_rfl) h
def SP : An := (An.s (An.r []) (An.s (An.r []) (An.s (An.s (An.r []) (An.b (An.l [5, 6] (An.s (An.s (An.r [[17]]) (An.s An.o An.o)) (An.s (An.j [5] (An.b (An.s (An.r []) (An.s (An.r []) An.o)))) (An.r [])))))) (An.s (An.r []) An.o))))
def KF (t0 t1 : Value) (w : World) (R : KR) : Prop :=
 bx Aa t1 w fun t3 w =>
 lp2 (.slice none 0 0) (.int .i64 0) w fun _ t5 t6 w again0 =>
 nilc t0 fun t9 =>
 fad 34 t9 fun t10 =>
 ld1 t10 w.heap fun t11 =>
 lenS t11 fun t12 =>
 bi .lss t6 t12 fun t13 =>
 jn1 (fun k1 =>
 gif t13 true
 (ldN 32 t3 w.heap fun t16 =>
 cal P CJ [t0, t16] w fun t17 w =>
 k1 t17 w)
 (k1 undef w)) fun _ t17_1 w =>
 pik t13 t17_1 (.bool false) fun t18 =>
 cnd t18
 (jn1 (fun k2 =>
 drw w fun w =>
 nilc t0 fun t22 =>
 fad 34 t22 fun t23 =>
 ld1 t23 w.heap fun t24 =>
 ixs 66 t24 t6 fun t26 =>
 fad 32 t26 fun t27 =>
 fad 0 t27 fun t28 =>
 ldN 32 t28 w.heap fun t29 =>
 ldN 32 t3 w.heap fun t30 =>
 rdP P (eqS .eql Aa (Operand.tmp 29) (Operand.tmp 30) t29 t30) w fun t31 =>
 cnd t31
 (nilc t0 fun t34 =>
 fad 34 t34 fun t35 =>
 ld1 t35 w.heap fun t36 =>
 ixs 66 t36 t6 fun t38 =>
 fad 0 t38 fun t39 =>
 ldN 32 t39 w.heap fun t40 =>
 efP P (Instr.buildSlice Ax 1 #[(0, t40)]) w fun t41 w =>
 efP P (Builtin.append_ #[Ax, Ax] Ax #[t5, t41]) w fun t42 w =>
 k2 t42 w)
 (k2 t5 w)) fun _ t5_1 w =>
 bi .add t6 (.int .i64 1) fun t20 =>
 again0 t5_1 t20 w)
 (R t5 w)
theorem R9 : kO Tryz.f135 SP = true := by kernel_rfl
theorem R6 (h : SQ Q (KF t0 t1 w)) : cal P Hw [t0, t1] w Q := sO Tryz.func135 rfl (by kernel_rfl) R9 (by kernel_rfl) h
def Zk : An := (An.s (An.r []) (An.s (An.s (An.r []) (An.s (An.r []) (An.s (An.s (An.r []) An.o) An.o))) (An.s (An.s (An.r [[22], [29], [36], [41], [48], [58]]) (An.s (An.s (An.r []) An.o) An.o)) (An.s (An.d [0, 1, 2, 3, 4, 5, 6, 7, 8, 9] []) (An.s (An.s (An.r []) (An.b (An.l [7] (An.s (An.s (An.r []) (An.s An.o An.o)) (An.s (An.b (An.s (An.r []) (An.s (An.r [[90], [95], [101]]) (An.s (An.s (An.r []) An.o) An.o)))) (An.r [])))))) (An.s (An.r []) An.o))))))
def OQ (t0 t1 : Value) (w : World) (R : KR) : Prop :=
 bx AZ t0 w fun t2 w =>
 bx Ak t1 w fun t3 w =>
 ldN 4 t2 w.heap fun t9 =>
 cal P FE [t9] w fun t10 w =>
 bi .neq t10 (.int .i64 0) fun t12 =>
 cnd t12
 (R t10 w)
 (fad 0 t3 fun t14 =>
 ld1 t14 w.heap fun t15 =>
 lenS t15 fun t16 =>
 bi .lss t16 (.int .i64 1) fun t17 =>
 jn1 (fun k0 =>
 gif t17 false
 (fad 0 t3 fun t19 =>
 ld1 t19 w.heap fun t20 =>
 lenS t20 fun t21 =>
 bi .gtr t21 (.int .i64 32) fun t22 =>
 k0 t22 w)
 (k0 undef w)) fun _ t22_1 w =>
 pik t17 (.bool true) t22_1 fun t23 =>
 jn1 (fun k1 =>
 gif t23 false
 (ldN 67 t3 w.heap fun t25 =>
 fad 1 t3 fun t26 =>
 ldN 32 t26 w.heap fun t27 =>
 cal P Dl [t25, t27] w fun t28 w =>
 bi .lss t28 (.int .i64 0) fun t29 =>
 k1 t29 w)
 (k1 undef w)) fun _ t29_1 w =>
 pik t23 (.bool true) t29_1 fun t30 =>
 jn1 (fun k2 =>
 gif t30 false
 (ldN 67 t3 w.heap fun t32 =>
 fad 33 t3 fun t33 =>
 ldN 32 t33 w.heap fun t34 =>
 cal P Dl [t32, t34] w fun t35 w =>
 bi .lss t35 (.int .i64 0) fun t36 =>
 k2 t36 w)
 (k2 undef w)) fun _ t36_1 w =>
 pik t30 (.bool true) t36_1 fun t37 =>
 jn1 (fun k3 =>
 gif t37 false
 (fad 65 t3 fun t39 =>
 ld1 t39 w.heap fun t40 =>
 bi .lss t40 (.int .i64 0) fun t41 =>
 k3 t41 w)
 (k3 undef w)) fun _ t41_1 w =>
 pik t37 (.bool true) t41_1 fun t42 =>
 jn1 (fun k4 =>
 gif t42 false
 (fad 65 t3 fun t44 =>
 ld1 t44 w.heap fun t45 =>
 fad 3 t2 fun t46 =>
 ld1 t46 w.heap fun t47 =>
 bi .gtr t45 t47 fun t48 =>
 k4 t48 w)
 (k4 undef w)) fun _ t48_1 w =>
 pik t42 (.bool true) t48_1 fun t49 =>
 jn1 (fun k5 =>
 gif t49 false
 (fad 66 t3 fun t51 =>
 ld1 t51 w.heap fun t52 =>
 fad 65 t3 fun t53 =>
 ld1 t53 w.heap fun t54 =>
 fad 3 t2 fun t55 =>
 ld1 t55 w.heap fun t56 =>
 bi .eql t54 t56 fun t57 =>
 rdP P (eqS .neq F9 (Operand.tmp 52) (Operand.tmp 57) t52 t57) w fun t58 =>
 k5 t58 w)
 (k5 undef w)) fun _ t58_1 w =>
 pik t49 (.bool true) t58_1 fun t59 =>
 cnd t59
 (R (.int .i64 171) w)
 (drH w fun S w =>
 fad 0 t3 fun t60 =>
 rdS S (fun w => ld1 t60 w.heap) fun t61 =>
 rdS S (fun w => ldN 67 t3 w.heap) fun t62 =>
 fad 1 t3 fun t63 =>
 rdS S (fun w => ldN 32 t63 w.heap) fun t64 =>
 efS S (cal P Dl [t62, t64]) w fun t65 w =>
 ixs 33 t61 t65 fun t66 =>
 fad 32 t66 fun t67 =>
 rdS S (fun w => ld1 t67 w.heap) fun t68 =>
 lp1 (.int .i64 0) w fun _ t7 w again6 =>
 fad 0 t3 fun t70 =>
 ld1 t70 w.heap fun t71 =>
 lenS t71 fun t72 =>
 bi .lss t7 t72 fun t73 =>
 cnd t73
 (fad 0 t3 fun t76 =>
 ld1 t76 w.heap fun t77 =>
 ixs 33 t77 t7 fun t79 =>
 ldN 33 t79 w.heap fun t80 =>
 efP P (Instr.alloc BH true (.tuple #[])) w fun t8 w =>
 stN 33 t8 t80 w fun w =>
 ldN 67 t3 w.heap fun t81 =>
 fad 0 t8 fun t82 =>
 ldN 32 t82 w.heap fun t83 =>
 cal P Dl [t81, t83] w fun t84 w =>
 bi .neq t84 t7 fun t86 =>
 jn1 (fun k7 =>
 gif t86 false
 (fad 32 t8 fun t88 =>
 ld1 t88 w.heap fun t89 =>
 bi .lss t89 (.int .i64 0) fun t90 =>
 k7 t90 w)
 (k7 undef w)) fun _ t90_1 w =>
 pik t86 (.bool true) t90_1 fun t91 =>
 jn1 (fun k8 =>
 gif t91 false
 (fad 32 t8 fun t93 =>
 ld1 t93 w.heap fun t94 =>
 bi .gtr t94 (.int .i64 1073741824) fun t95 =>
 k8 t95 w)
 (k8 undef w)) fun _ t95_1 w =>
 pik t91 (.bool true) t95_1 fun t96 =>
 jn1 (fun k9 =>
 gif t96 false
 (fad 32 t8 fun t98 =>
 ld1 t98 w.heap fun t99 =>
 bi .gtr t99 t68 fun t101 =>
 k9 t101 w)
 (k9 undef w)) fun _ t101_1 w =>
 pik t96 (.bool true) t101_1 fun t102 =>
 cnd t102
 (R (.int .i64 171) w)
 (bi .add t7 (.int .i64 1) fun t75 =>
 again6 t75 w))
 (R (.int .i64 0) w)))
theorem Zr : kO Tryz.f136 Zk = true := by kernel_rfl
theorem Yp (h : SQ Q (OQ t0 t1 w)) : cal P ER [t0, t1] w Q := sO Tryz.func136 rfl (by kernel_rfl) Zr (by kernel_rfl) h
def Yr : An := (An.s (An.r []) (An.s (An.s (An.r []) (An.b (An.l [5] (An.s (An.s (An.r []) (An.s An.o An.o)) (An.s (An.b (An.s (An.r []) (An.s (An.s (An.r []) An.o) An.o))) (An.r [])))))) (An.s (An.r []) An.o)))
def OF (t0 t1 : Value) (w : World) (R : KR) : Prop :=
 bx Ak t0 w fun t2 w =>
 bx Aa t1 w fun t3 w =>
 lp1 (.int .i64 0) w fun _ t5 w again0 =>
 fad 0 t2 fun t7 =>
 ld1 t7 w.heap fun t8 =>
 lenS t8 fun t9 =>
 bi .lss t5 t9 fun t10 =>
 cnd t10
 (drw w fun w =>
 fad 0 t2 fun t13 =>
 ld1 t13 w.heap fun t14 =>
 ixs 33 t14 t5 fun t16 =>
 fad 0 t16 fun t17 =>
 ldN 32 t17 w.heap fun t18 =>
 ldN 32 t3 w.heap fun t19 =>
 rdP P (eqS .eql Aa (Operand.tmp 18) (Operand.tmp 19) t18 t19) w fun t20 =>
 cnd t20
 (R t5 w)
 (bi .add t5 (.int .i64 1) fun t12 =>
 again0 t12 w))
 (R (.int .i64 (-1)) w)
theorem Yl : kO Tryz.f137 Yr = true := by kernel_rfl
theorem Yg (h : SQ Q (OF t0 t1 w)) : cal P Dl [t0, t1] w Q := sO Tryz.func137 rfl (by kernel_rfl) Yl (by kernel_rfl) h
def Aed : An := (An.s (An.r []) (An.s (An.r []) (An.s (An.s (An.r []) (An.s (An.s (An.r []) An.o) An.o)) (An.s (An.r []) An.o))))
def V2 (t0 : Value) (w : World) (R : KR) : Prop :=
 bx Ao t0 w fun t1 w =>
 efP P (Instr.alloc Aa true (.tuple #[])) w fun t2 w =>
 ldN 34 t1 w.heap fun t7 =>
 cal P Kq [t7] w fun t8 w =>
 ext 0 t8 fun t9 =>
 ext 1 t8 fun t10 =>
 bi .neq t10 (.int .i64 0) fun t12 =>
 cnd t12
 (rdP P (Instr.build Aa #[]) w fun t13 =>
 stN 32 t2 t13 w fun w =>
 ldN 32 t2 w.heap fun r0 =>
 R (.tuple #[r0, t10]) w)
 (cal P MW [t9] w fun t16 w =>
 stN 32 t2 t16 w fun w =>
 ldN 32 t2 w.heap fun r1 =>
 R (.tuple #[r1, (.int .i64 0)]) w)
theorem Ad3 : kO Tryz.f138 Aed = true := by kernel_rfl
theorem Aey (h : SQ Q (V2 t0 w)) : cal P NU [t0] w Q := sO Tryz.func138 rfl (by kernel_rfl) Ad3 (by kernel_rfl) h
def Pb : An := (An.s (An.r []) (An.s (An.s (An.r []) (An.s (An.s (An.r []) An.o) An.o)) (An.s (An.r []) (An.s (An.s (An.r []) (An.s (An.s (An.r []) An.o) An.o)) (An.s (An.r []) An.o)))))
def Jc (t0 t1 : Value) (w : World) (R : KR) : Prop :=
 bx Aa t1 w fun t3 w =>
 drw w fun w =>
 ldN 32 t3 w.heap fun t6 =>
 nilc t0 fun t8 =>
 fad 0 t8 fun t9 =>
 ldN 32 t9 w.heap fun t10 =>
 rdP P (eqS .eql Aa (Operand.tmp 6) (Operand.tmp 10) t6 t10) w fun t11 =>
 cnd t11
 (nilc t0 fun t13 =>
 fad 32 t13 fun t14 =>
 ld1 t14 w.heap fun t15 =>
 R t15 w)
 (ldN 32 t3 w.heap fun t17 =>
 cal P CA [t0, t17] w fun t18 w =>
 bi .lss t18 (.int .i64 0) fun t20 =>
 cnd t20
 (R (.int .i64 (-1)) w)
 (nilc t0 fun t22 =>
 fad 34 t22 fun t23 =>
 ld1 t23 w.heap fun t24 =>
 ixs 66 t24 t18 fun t26 =>
 fad 32 t26 fun t27 =>
 fad 32 t27 fun t28 =>
 ld1 t28 w.heap fun t29 =>
 R t29 w))
theorem O9 : kO Tryz.f139 Pb = true := by kernel_rfl
theorem Pd (h : SQ Q (Jc t0 t1 w)) : cal P Gz [t0, t1] w Q := sO Tryz.func139 rfl (by kernel_rfl) O9 (by kernel_rfl) h
def SZ : An := (An.s (An.s (An.r []) (An.s An.o An.o)) (An.s (An.r []) (An.s (An.s (An.r [[32]]) (An.s (An.s (An.r []) An.o) An.o)) (An.r []))))
def Kr (t0 t1 t2 : Value) (w : World) (R : KR) : Prop :=
 cal P Gv [t0] w fun t8 w =>
 notB t8 fun t9 =>
 cnd t9
 (R (.tuple #[]) w)
 (drw w fun w =>
 nilc t0 fun t11 =>
 fad 3 t11 fun t12 =>
 ld1 t12 w.heap fun t13 =>
 nilc t0 fun t15 =>
 fad 0 t15 fun t16 =>
 fad 1 t16 fun t17 =>
 ld1 t17 w.heap fun t18 =>
 lenS t18 fun t19 =>
 bi .sub t13 t19 fun t20 =>
 lenS t1 fun t22 =>
 bi .gtr t22 t20 fun t24 =>
 jn1 (fun k0 =>
 gif t24 false
 (lenS t2 fun t27 =>
 lenS t1 fun t30 =>
 bi .sub t20 t30 fun t31 =>
 bi .gtr t27 t31 fun t32 =>
 k0 t32 w)
 (k0 undef w)) fun _ t32_1 w =>
 pik t24 (.bool true) t32_1 fun t33 =>
 cnd t33
 (nilc t0 fun t35 =>
 fad 0 t35 fun t36 =>
 cal P Sj [t36, (.int .i64 10)] w fun t37 w =>
 R (.tuple #[]) w)
 (nilc t0 fun t40 =>
 fad 0 t40 fun t41 =>
 fad 1 t41 fun t42 =>
 ld1 t42 w.heap fun t43 =>
 efP P (Builtin.append_ #[Az, Az] Az #[t43, t1]) w fun t45 w =>
 efP P (Builtin.append_ #[Az, Az] Az #[t45, t2]) w fun t47 w =>
 nilc t0 fun t48 =>
 fad 0 t48 fun t49 =>
 fad 1 t49 fun t50 =>
 st1 t50 t47 w fun w =>
 R (.tuple #[]) w))
theorem SD : kO Tryz.f140 SZ = true := by kernel_rfl
theorem Sw (h : SQ Q (Kr t0 t1 t2 w)) : cal P C9 [t0, t1, t2] w Q := sO Tryz.func140 rfl (by kernel_rfl) SD (by kernel_rfl) h
def YX : An := (An.s (An.r []) (An.s (An.r []) (An.s (An.s (An.r []) (An.b (An.l [11] (An.s (An.r []) (An.s (An.s An.o An.o) (An.s (An.b (An.s (An.r []) (An.r []))) (An.r []))))))) (An.s (An.r []) An.o))))
def ON (t0 t1 : Value) (w : World) (R : KR) : Prop :=
 efP P (Instr.makeSlice Az t0 t0) w fun t8 w =>
 lenS t8 fun t10 =>
 lp1 (.int .i64 0) w fun _ t11 w again0 =>
 bi .lss t11 t10 fun t12 =>
 cnd t12
 (bi .sub t0 (.int .i64 1) fun t16 =>
 bi .sub t16 t11 fun t18 =>
 bi .mul (.int .i64 8) t11 fun t21 =>
 sh .shr t1 t21 fun t22 =>
 cvi .u8 t22 fun t23 =>
 ixs 1 t8 t18 fun t24 =>
 st1 t24 t23 w fun w =>
 bi .add t11 (.int .i64 1) fun t25 =>
 again0 t25 w)
 (R t8 w)
theorem Yj : kO Tryz.f141 YX = true := by kernel_rfl
theorem Yn (h : SQ Q (ON t0 t1 w)) : cal P ES [t0, t1] w Q := sO Tryz.func141 rfl (by kernel_rfl) Yj (by kernel_rfl) h
def SC : An := (An.s (An.r []) (An.s (An.s (An.r [[11]]) (An.s (An.s (An.r []) An.o) An.o)) (An.s (An.r []) An.o)))
def Ku (t0 : Value) (w : World) (R : KR) : Prop :=
 nilP false t0 fun t4 =>
 jn1 (fun k0 =>
 gif t4 false
 (nilc t0 fun t7 =>
 fad 0 t7 fun t8 =>
 fad 0 t8 fun t9 =>
 ld1 t9 w.heap fun t10 =>
 notB t10 fun t11 =>
 k0 t11 w)
 (k0 undef w)) fun _ t11_1 w =>
 pik t4 (.bool true) t11_1 fun t12 =>
 cnd t12
 (R (.int .i64 2) w)
 (nilc t0 fun t14 =>
 fad 0 t14 fun t15 =>
 fad 2 t15 fun t16 =>
 ld1 t16 w.heap fun t17 =>
 R t17 w)
theorem Sr : kO Tryz.f142 SC = true := by kernel_rfl
theorem SY (h : SQ Q (Ku t0 w)) : cal P HE [t0] w Q := sO Tryz.func142 rfl (by kernel_rfl) Sr (by kernel_rfl) h
def Acn : An := (An.s (An.r []) (An.s (An.r []) An.o))
def Td (w : World) (R : KR) : Prop :=
 efP P (Instr.alloc Bc true (.tuple #[])) w fun t0 w =>
 rdP P (Instr.build Bc #[(0, (.int .u32 1779033703)), (1, (.int .u32 3144134277)), (2, (.int .u32 1013904242)), (3, (.int .u32 2773480762)), (4, (.int .u32 1359893119)), (5, (.int .u32 2600822924)), (6, (.int .u32 528734635)), (7, (.int .u32 1541459225))]) w fun t1 =>
 stN 8 t0 t1 w fun w =>
 ldN 8 t0 w.heap fun r0 =>
 R r0 w
theorem Ab6 : kO Tryz.f143 Acn = true := by kernel_rfl
theorem Ack (h : SQ Q (Td w)) : cal P MR [] w Q := sO Tryz.func143 rfl (by kernel_rfl) Ab6 (by kernel_rfl) h
def Uh : An := (An.s (An.r []) (An.s (An.r [[10]]) An.o))
def LY (t0 : Value) (w : World) (R : KR) : Prop :=
 nilP false t0 fun t4 =>
 jn1 (fun k0 =>
 gif t4 false
 (nilc t0 fun t7 =>
 fad 10 t7 fun t8 =>
 ld1 t8 w.heap fun t9 =>
 notB t9 fun t10 =>
 k0 t10 w)
 (k0 undef w)) fun _ t10_1 w =>
 pik t4 (.bool true) t10_1 fun t11 =>
 R t11 w
theorem TJ : kO Tryz.f144 Uh = true := by kernel_rfl
theorem TO (h : SQ Q (LY t0 w)) : cal P FR [t0] w Q := sO Tryz.func144 rfl (by kernel_rfl) TJ (by kernel_rfl) h
def KQ : An := (An.s (An.r []) (An.s (An.r []) (An.s (An.s (An.r []) (An.b (An.l [3, 11] (An.s (An.r []) (An.s (An.s An.o An.o) (An.s (An.j [3] (An.b (An.s (An.r []) (An.s (An.r []) (An.s (An.r []) (An.s (An.r []) An.o)))))) (An.r []))))))) (An.s (An.r []) (An.s (An.s (An.r []) (An.b (An.l [6, 27] (An.s (An.r []) (An.s (An.s An.o An.o) (An.s (An.b (An.s (An.r []) (An.r []))) (An.r []))))))) (An.s (An.r []) An.o))))))
def GF (t0 : Value) (w : World) (R : KR) : Prop :=
 lenS t0 fun t10 =>
 lp2 (.int .i64 0) (.int .i64 0) w fun _ t3 t11 w again0 =>
 bi .lss t11 t10 fun t12 =>
 cnd t12
 (jn1 (fun k1 =>
 ixs 1 t0 t11 fun t13 =>
 ld1 t13 w.heap fun t14 =>
 lenS t14 fun t17 =>
 bi .add t3 t17 fun t18 =>
 bi .lss t18 (.int .i64 0) fun t20 =>
 cnd t20
 (rdP P (Instr.makeInterface Jj (.string { data := #[108, 101, 110, 32, 111, 117, 116, 32, 111, 102, 32, 114, 97, 110, 103, 101] })) w fun t21 =>
 False)
 (k1 t18 w)) fun _ t3_1 w =>
 bi .add t11 (.int .i64 1) fun t22 =>
 again0 t3_1 t22 w)
 (cal P EN [(.slice none 0 0), t3] w fun t24 w =>
 lenS t0 fun t26 =>
 lp2 t24 (.int .i64 0) w fun _ t6 t27 w again2 =>
 bi .lss t27 t26 fun t28 =>
 cnd t28
 (ixs 1 t0 t27 fun t29 =>
 ld1 t29 w.heap fun t30 =>
 efP P (Builtin.append_ #[Az, Az] Az #[t6, t30]) w fun t33 w =>
 bi .add t27 (.int .i64 1) fun t34 =>
 again2 t33 t34 w)
 (R t6 w))
theorem K8 : kO Tryz.f145 KQ = true := by kernel_rfl
theorem KU (h : SQ Q (GF t0 w)) : cal P Ev [t0] w Q := sO Tryz.func145 rfl (by kernel_rfl) K8 (by kernel_rfl) h
def AcZ : An := (An.s (An.r []) (An.s (An.r []) (An.s (An.s (An.r []) (An.b (An.l [18] (An.s (An.r []) (An.s (An.s An.o An.o) (An.s (An.b (An.s (An.r []) (An.s (An.r []) (An.s (An.r []) (An.s (An.r []) (An.s (An.r []) (An.s (An.r []) (An.r [])))))))) (An.r []))))))) (An.s (An.s (An.r []) (An.b (An.l [99] (An.s (An.r []) (An.s (An.s An.o An.o) (An.s (An.b (An.s (An.r []) (An.dc [0, 1, 2, 3, 4, 5, 6, 7, 8] [8] []))) (An.r []))))))) (An.s (An.r []) An.o)))))
def Tu (t0 t1 : Value) (w : World) (R : KR) : Prop :=
 bx Bc t0 w fun t2 w =>
 efP P (Instr.alloc Bc true (.tuple #[])) w fun t4 w =>
 ldN 8 t2 w.heap fun t15 =>
 efP P (Instr.alloc Bc true (.tuple #[])) w fun t5 w =>
 stN 8 t5 t15 w fun w =>
 cal P Jv [t1] w fun t17 w =>
 lp1 (.int .i64 0) w fun _ t18 w again0 =>
 bi .lss t18 (.int .i64 64) fun t19 =>
 cnd t19
 (ixv 64 1 false t17 t18 fun t21 =>
 drw w fun w =>
 ixa 8 1 t5 (.int .i64 0) fun t22 =>
 ld1 t22 w.heap fun t23 =>
 ixa 8 1 t5 (.int .i64 4) fun t24 =>
 ld1 t24 w.heap fun t25 =>
 cal P Bt [t25, (.int .i64 (-6))] w fun t27 w =>
 cal P Bt [t25, (.int .i64 (-11))] w fun t29 w =>
 bi .xor t27 t29 fun t30 =>
 cal P Bt [t25, (.int .i64 (-25))] w fun t32 w =>
 bi .xor t30 t32 fun t33 =>
 drw w fun w =>
 ixa 8 1 t5 (.int .i64 7) fun t34 =>
 ld1 t34 w.heap fun t35 =>
 bi .add t35 t33 fun t37 =>
 ixa 8 1 t5 (.int .i64 5) fun t39 =>
 ld1 t39 w.heap fun t40 =>
 bi .and t25 t40 fun t41 =>
 rdP P (Op.unary UnOp.xor t25) w fun t43 =>
 ixa 8 1 t5 (.int .i64 6) fun t44 =>
 ld1 t44 w.heap fun t45 =>
 bi .and t43 t45 fun t46 =>
 bi .xor t41 t46 fun t47 =>
 bi .add t37 t47 fun t48 =>
 ixa 64 1 (.pointer (some ⟨0, 0, none⟩)) t18 fun t50 =>
 ld1 t50 w.heap fun t51 =>
 bi .add t48 t51 fun t52 =>
 bi .add t52 t21 fun t54 =>
 cal P Bt [t23, (.int .i64 (-2))] w fun t56 w =>
 cal P Bt [t23, (.int .i64 (-13))] w fun t58 w =>
 bi .xor t56 t58 fun t59 =>
 cal P Bt [t23, (.int .i64 (-22))] w fun t61 w =>
 bi .xor t59 t61 fun t62 =>
 ixa 8 1 t5 (.int .i64 1) fun t65 =>
 ld1 t65 w.heap fun t66 =>
 bi .and t23 t66 fun t67 =>
 ixa 8 1 t5 (.int .i64 2) fun t69 =>
 ld1 t69 w.heap fun t70 =>
 bi .and t23 t70 fun t71 =>
 bi .xor t67 t71 fun t72 =>
 ixa 8 1 t5 (.int .i64 1) fun t73 =>
 ld1 t73 w.heap fun t74 =>
 ixa 8 1 t5 (.int .i64 2) fun t75 =>
 ld1 t75 w.heap fun t76 =>
 bi .and t74 t76 fun t77 =>
 bi .xor t72 t77 fun t78 =>
 bi .add t62 t78 fun t79 =>
 bi .add t54 t79 fun t82 =>
 ixa 8 1 t5 (.int .i64 1) fun t84 =>
 ld1 t84 w.heap fun t85 =>
 ixa 8 1 t5 (.int .i64 2) fun t86 =>
 ld1 t86 w.heap fun t87 =>
 ixa 8 1 t5 (.int .i64 3) fun t88 =>
 ld1 t88 w.heap fun t89 =>
 bi .add t89 t54 fun t91 =>
 ixa 8 1 t5 (.int .i64 5) fun t93 =>
 ld1 t93 w.heap fun t94 =>
 ixa 8 1 t5 (.int .i64 6) fun t95 =>
 ld1 t95 w.heap fun t96 =>
 rdP P (Instr.build Bc #[(0, t82), (1, t23), (2, t85), (3, t87), (4, t91), (5, t25), (6, t94), (7, t96)]) w fun t97 =>
 stN 8 t5 t97 w fun w =>
 bi .add t18 (.int .i64 1) fun t98 =>
 again0 t98 w)
 (lp1 (.int .i64 0) w fun _ t99 w again1 =>
 bi .lss t99 (.int .i64 8) fun t100 =>
 cnd t100
 (drH w fun S w =>
 ixa 8 1 t2 t99 fun t103 =>
 rdS S (fun w => ld1 t103 w.heap) fun t104 =>
 ixa 8 1 t5 t99 fun t106 =>
 rdS S (fun w => ld1 t106 w.heap) fun t107 =>
 bi .add t104 t107 fun t108 =>
 ixa 8 1 t2 t99 fun t109 =>
 efC (fun w K => st1 t109 t108 w (K undef)) w fun S _ w =>
 bi .add t99 (.int .i64 1) fun t110 =>
 again1 t110 w)
 (ldN 8 t2 w.heap fun t111 =>
 stN 8 t4 t111 w fun w =>
 ldN 8 t4 w.heap fun r2 =>
 R r2 w))
theorem Acv : kO Tryz.f146 AcZ = true := by kernel_rfl
theorem Ab9 (h : SQ Q (Tu t0 t1 w)) : cal P JG [t0, t1] w Q := sO Tryz.func146 rfl (by kernel_rfl) Acv (by kernel_rfl) h
def GP : An := (An.s (An.r []) (An.s (An.s (An.r []) (An.s (An.s (An.r []) An.o) An.o)) (An.s (An.r []) An.o)))
def Ec (t0 : Value) (w : World) (R : KR) : Prop :=
 nilS false t0 fun t4 =>
 cnd t4
 (R (.slice none 0 0) w)
 (efP P (Instr.buildSlice Bd 0 #[]) w fun t5 w =>
 efP P (Builtin.append_ #[Bd, Bd] Bd #[t5, t0]) w fun t7 w =>
 R t7 w)
theorem Hd : kO Tryz.f147 GP = true := by kernel_rfl
theorem Hb (h : SQ Q (Ec t0 w)) : cal P CY [t0] w Q := sO Tryz.func147 rfl (by kernel_rfl) Hd (by kernel_rfl) h
def FT : An := (An.s (An.r []) (An.s (An.s (An.r []) (An.b (An.l [8] (An.s (An.r []) (An.s (An.s An.o An.o) (An.s (An.b (An.s (An.r []) (An.s (An.r []) (An.s (An.s (An.r []) An.o) An.o)))) (An.r []))))))) (An.s (An.r []) An.o)))
def DH (t0 t1 : Value) (w : World) (R : KR) : Prop :=
 lenS t0 fun t7 =>
 lp1 (.int .i64 0) w fun _ t8 w again0 =>
 bi .lss t8 t7 fun t9 =>
 cnd t9
 (ixs 33 t0 t8 fun t14 =>
 ldN 33 t14 w.heap fun t15 =>
 calV P t1 [t15] w fun t16 w =>
 cnd t16
 (R t8 w)
 (bi .add t8 (.int .i64 1) fun t18 =>
 again0 t18 w))
 (R (.int .i64 (-1)) w)
theorem FI : kO Tryz.f148 FT = true := by kernel_rfl
theorem FO (h : SQ Q (DH t0 t1 w)) : cal P DF [t0, t1] w Q := sO Tryz.func148 rfl (by kernel_rfl) FI (by kernel_rfl) h
def WQ : An := (An.s (An.r []) (An.s (An.r []) An.o))
def NA (t0 t1 : Value) (w : World) (R : KR) : Prop :=
 bx BH t0 w fun t2 w =>
 fad 0 t2 fun t4 =>
 ldN 32 t4 w.heap fun t5 =>
 ldN 32 t1 w.heap fun t6 =>
 rdP P (eqS .eql Aa (Operand.tmp 5) (Operand.tmp 6) t5 t6) w fun t7 =>
 R t7 w
theorem Xk : kO Tryz.f149 WQ = true := by kernel_rfl
theorem W4 (h : SQ Q (NA t0 t1 w)) : cal P Nk [t0, t1] w Q := sO Tryz.func149 rfl (by kernel_rfl) Xk (by kernel_rfl) h
def UR : An := (An.s (An.r []) (An.s (An.r []) An.o))
def Mw (t0 t1 : Value) (w : World) (R : KR) : Prop :=
 efN P Dk [t0, t1] w fun t7 w =>
 R t7 w
theorem VB : kO Tryz.f150 UR = true := by kernel_rfl
theorem Vx (h : SQ Q (Mw t0 t1 w)) : cal P IJ [t0, t1] w Q := sO Tryz.func150 rfl (by kernel_rfl) VB (by kernel_rfl) h
def Zm : An := (An.s (An.r []) (An.s (An.s (An.r []) (An.s (An.r []) (An.s (An.s (An.r []) An.o) An.o))) (An.s (An.r []) (An.s (An.s (An.r []) (An.b (An.l [5, 6] (An.s (An.s (An.r []) (An.s An.o An.o)) (An.s (An.b (An.r [])) (An.r [])))))) (An.s (An.r []) (An.s (An.r []) (An.s (An.r []) An.o)))))))
def OP (t0 : Value) (w : World) (R : KR) : Prop :=
 bx Ao t0 w fun t1 w =>
 ldN 34 t1 w.heap fun t7 =>
 cal P Kc [t7] w fun t8 w =>
 bi .neq t8 (.int .i64 0) fun t10 =>
 cnd t10
 (R (.tuple #[(.slice none 0 0), t8]) w)
 (efP P (Instr.buildSlice Az 2 #[(0, (.int .u8 0)), (1, (.int .u8 0))]) w fun t12 w =>
 lp2 t12 (.int .i64 0) w fun _ t5 t6 w again0 =>
 bi .lss t6 (.int .i64 32) fun t14 =>
 cnd t14
 (fad 0 t1 fun t19 =>
 ixa 32 1 t19 t6 fun t20 =>
 ld1 t20 w.heap fun t21 =>
 efP P (Instr.buildSlice Az 1 #[(0, t21)]) w fun t22 w =>
 efP P (Builtin.append_ #[Az, Az] Az #[t5, t22]) w fun t23 w =>
 bi .add t6 (.int .i64 1) fun t16 =>
 again0 t23 t16 w)
 (fad 32 t1 fun t25 =>
 ld1 t25 w.heap fun t26 =>
 cvi .u64 t26 fun t27 =>
 cal P Jx [(.int .i64 8), t27] w fun t28 w =>
 efP P (Builtin.append_ #[Az, Az] Az #[t5, t28]) w fun t29 w =>
 fad 33 t1 fun t31 =>
 ld1 t31 w.heap fun t32 =>
 lenS t32 fun t33 =>
 cvi .u64 t33 fun t34 =>
 cal P Jx [(.int .i64 4), t34] w fun t35 w =>
 efP P (Builtin.append_ #[Az, Az] Az #[t29, t35]) w fun t36 w =>
 fad 33 t1 fun t38 =>
 ld1 t38 w.heap fun t39 =>
 efP P (Builtin.append_ #[Az, Az] Az #[t36, t39]) w fun t40 w =>
 R (.tuple #[t40, (.int .i64 0)]) w))
theorem YB : kO Tryz.f151 Zm = true := by kernel_rfl
theorem Zl (h : SQ Q (OP t0 w)) : cal P Kq [t0] w Q := sO Tryz.func151 rfl (by kernel_rfl) YB (by kernel_rfl) h
def AcA : An := (An.s (An.r []) (An.s (An.r []) (An.s (An.r []) (An.s (An.s (An.r []) (An.b (An.l [5] (An.s (An.s (An.r []) (An.s An.o An.o)) (An.s (An.b (An.dc [0, 1, 2, 3, 4, 5, 6, 7] [6, 7] [])) (An.r [])))))) (An.s (An.r []) (An.s (An.s (An.r []) (An.b (An.l [7] (An.s (An.s (An.r []) (An.s An.o An.o)) (An.s (An.b (An.r [])) (An.r [])))))) (An.s (An.r []) An.o)))))))
def Ti (t0 : Value) (w : World) (R : KR) : Prop :=
 efP P (Instr.alloc Aa true (.tuple #[])) w fun t2 w =>
 cal P Jl [t0] w fun t9 w =>
 rdP P (Instr.build Bc #[(0, (.int .u32 1779033703)), (1, (.int .u32 3144134277)), (2, (.int .u32 1013904242)), (3, (.int .u32 2773480762)), (4, (.int .u32 1359893119)), (5, (.int .u32 2600822924)), (6, (.int .u32 528734635)), (7, (.int .u32 1541459225))]) w fun t10 =>
 efP P (Instr.alloc Bc true (.tuple #[])) w fun t4 w =>
 stN 8 t4 t10 w fun w =>
 lp1 (.int .i64 0) w fun _ t5 w again0 =>
 lenS t9 fun t13 =>
 bi .lss t5 t13 fun t14 =>
 cnd t14
 (drH w fun S w =>
 rdS S (fun w => ldN 8 t4 w.heap) fun t17 =>
 bi .add t5 (.int .i64 64) fun t21 =>
 slc 1 t9 (some t5) (some t21) fun t22 =>
 efC (cal P LM [t17, t22]) w fun S t23 w =>
 efC (fun w K => stN 8 t4 t23 w (K undef)) w fun S _ w =>
 bi .add t5 (.int .i64 64) fun t16 =>
 again0 t16 w)
 (efP P (Instr.alloc Aa true (.tuple #[])) w fun t6 w =>
 lp1 (.int .i64 0) w fun _ t7 w again1 =>
 bi .lss t7 (.int .i64 32) fun t25 =>
 cnd t25
 (bi .quo t7 (.int .i64 4) fun t30 =>
 ixa 8 1 t4 t30 fun t31 =>
 ld1 t31 w.heap fun t32 =>
 bi .rem t7 (.int .i64 4) fun t34 =>
 bi .mul (.int .i64 8) t34 fun t35 =>
 bi .sub (.int .i64 24) t35 fun t36 =>
 cvi .u64 t36 fun t37 =>
 sh .shr t32 t37 fun t38 =>
 cvi .u8 t38 fun t39 =>
 ixa 32 1 t6 t7 fun t40 =>
 st1 t40 t39 w fun w =>
 bi .add t7 (.int .i64 1) fun t27 =>
 again1 t27 w)
 (ldN 32 t6 w.heap fun t41 =>
 stN 32 t2 t41 w fun w =>
 ldN 32 t2 w.heap fun r2 =>
 R r2 w))
theorem Aca : kO Tryz.f152 AcA = true := by kernel_rfl
theorem AcI (h : SQ Q (Ti t0 w)) : cal P MW [t0] w Q := sO Tryz.func152 rfl (by kernel_rfl) Aca (by kernel_rfl) h
def Pz : An := (An.s (An.r []) (An.s (An.r [[10], [18]]) An.o))
def I8 (t0 : Value) (w : World) (R : KR) : Prop :=
 nilP true t0 fun t4 =>
 jn1 (fun k0 =>
 gif t4 true
 (nilc t0 fun t7 =>
 fad 0 t7 fun t8 =>
 fad 0 t8 fun t9 =>
 ld1 t9 w.heap fun t10 =>
 k0 t10 w)
 (k0 undef w)) fun _ t10_1 w =>
 pik t4 t10_1 (.bool false) fun t11 =>
 jn1 (fun k1 =>
 gif t11 true
 (nilc t0 fun t14 =>
 fad 0 t14 fun t15 =>
 fad 2 t15 fun t16 =>
 ld1 t16 w.heap fun t17 =>
 bi .eql t17 (.int .i64 0) fun t18 =>
 k1 t18 w)
 (k1 undef w)) fun _ t18_1 w =>
 pik t11 t18_1 (.bool false) fun t19 =>
 R t19 w
theorem Pi : kO Tryz.f153 Pz = true := by kernel_rfl
theorem PC (h : SQ Q (I8 t0 w)) : cal P Gv [t0] w Q := sO Tryz.func153 rfl (by kernel_rfl) Pi (by kernel_rfl) h
def Mg : An := (An.s (An.r []) (An.s (An.j [] (An.s (An.r []) (An.s (An.r []) An.o))) (An.s (An.s (An.r []) (An.s (An.r []) (An.s (An.r []) An.o))) (An.s (An.r []) An.o))))
def Hu (t0 t1 : Value) (w : World) (R : KR) : Prop :=
 jn0 (fun k0 =>
 bi .lss t1 (.int .i64 0) fun t6 =>
 cnd t6
 (rdP P (Instr.makeInterface Jj (.string { data := #[99, 97, 110, 110, 111, 116, 32, 98, 101, 32, 110, 101, 103, 97, 116, 105, 118, 101] })) w fun t7 =>
 False)
 (k0 w)) fun _ w =>
 rdP P (Builtin.cap_ #[Az] CS #[t0]) w fun t10 =>
 lenS t0 fun t12 =>
 bi .sub t10 t12 fun t13 =>
 bi .sub t1 t13 fun t14 =>
 bi .gtr t14 (.int .i64 0) fun t16 =>
 cnd t16
 (rdP P (Builtin.cap_ #[Az] CS #[t0]) w fun t19 =>
 slc 1 t0 none (some t19) fun t20 =>
 efP P (Builtin.append_ #[Az, CS] Az #[t20, t14]) w fun t22 w =>
 lenS t0 fun t24 =>
 slc 1 t22 none (some t24) fun t25 =>
 R t25 w)
 (R t0 w)
theorem Me : kO Tryz.f155 Mg = true := by kernel_rfl
theorem Mf (h : SQ Q (Hu t0 t1 w)) : cal P EN [t0, t1] w Q := sO Tryz.func155 rfl (by kernel_rfl) Me (by kernel_rfl) h
def Xc : An := (An.s (An.r []) (An.s (An.r []) (An.s (An.s (An.r []) (An.b (An.l [9] (An.s (An.r []) (An.s (An.s An.o An.o) (An.s (An.j [] (An.b (An.s (An.r []) (An.s (An.s (An.r []) (An.s (An.s (An.dc [0, 1, 2, 3, 4, 5, 6, 7, 8, 9, 10, 11, 12, 13, 14, 15, 16, 17, 18, 19, 20, 21, 22, 23, 24, 25, 26, 27, 28, 29, 30, 31, 32, 33, 34, 35] [35] []) An.o) An.o)) (An.s (An.r []) (An.s (An.r []) (An.s (An.r []) (An.dc [0, 1, 2, 3, 4, 5, 6, 7, 8, 9, 10, 11, 12, 13, 14, 15] [15] [])))))))) (An.r []))))))) (An.s (An.r []) An.o))))
def Nn (t0 : Value) (w : World) (R : KR) : Prop :=
 efP P (Instr.alloc Bn true (.tuple #[])) w fun t2 w =>
 efP P (Instr.alloc Bn true (.tuple #[])) w fun t3 w =>
 lp1 (.int .i64 0) w fun _ t9 w again0 =>
 bi .lss t9 (.int .i64 64) fun t10 =>
 cnd t10
 (jn0 (fun k1 =>
 bi .lss t9 (.int .i64 16) fun t13 =>
 cnd t13
 (drH w fun S w =>
 bi .mul (.int .i64 4) t9 fun t17 =>
 ixs 1 t0 t17 fun t18 =>
 rdS S (fun w => ld1 t18 w.heap) fun t19 =>
 cvi .u32 t19 fun t20 =>
 sh .shl t20 (.int .u64 24) fun t21 =>
 bi .mul (.int .i64 4) t9 fun t24 =>
 bi .add t24 (.int .i64 1) fun t25 =>
 ixs 1 t0 t25 fun t26 =>
 rdS S (fun w => ld1 t26 w.heap) fun t27 =>
 cvi .u32 t27 fun t28 =>
 sh .shl t28 (.int .u64 16) fun t29 =>
 bi .or t21 t29 fun t30 =>
 bi .mul (.int .i64 4) t9 fun t33 =>
 bi .add t33 (.int .i64 2) fun t34 =>
 ixs 1 t0 t34 fun t35 =>
 rdS S (fun w => ld1 t35 w.heap) fun t36 =>
 cvi .u32 t36 fun t37 =>
 sh .shl t37 (.int .u64 8) fun t38 =>
 bi .or t30 t38 fun t39 =>
 bi .mul (.int .i64 4) t9 fun t42 =>
 bi .add t42 (.int .i64 3) fun t43 =>
 ixs 1 t0 t43 fun t44 =>
 rdS S (fun w => ld1 t44 w.heap) fun t45 =>
 cvi .u32 t45 fun t46 =>
 bi .or t39 t46 fun t47 =>
 ixa 64 1 t3 t9 fun t48 =>
 efC (fun w K => st1 t48 t47 w (K undef)) w fun S _ w =>
 k1 w)
 (drw w fun w =>
 bi .sub t9 (.int .i64 15) fun t50 =>
 ixa 64 1 t3 t50 fun t51 =>
 ld1 t51 w.heap fun t52 =>
 bi .sub t9 (.int .i64 2) fun t54 =>
 ixa 64 1 t3 t54 fun t55 =>
 ld1 t55 w.heap fun t56 =>
 cal P Bt [t52, (.int .i64 (-7))] w fun t58 w =>
 cal P Bt [t52, (.int .i64 (-18))] w fun t60 w =>
 bi .xor t58 t60 fun t61 =>
 sh .shr t52 (.int .u64 3) fun t63 =>
 bi .xor t61 t63 fun t64 =>
 cal P Bt [t56, (.int .i64 (-17))] w fun t66 w =>
 cal P Bt [t56, (.int .i64 (-19))] w fun t68 w =>
 bi .xor t66 t68 fun t69 =>
 sh .shr t56 (.int .u64 10) fun t71 =>
 bi .xor t69 t71 fun t72 =>
 drH w fun S w =>
 bi .sub t9 (.int .i64 7) fun t76 =>
 ixa 64 1 t3 t76 fun t77 =>
 rdS S (fun w => ld1 t77 w.heap) fun t78 =>
 bi .add t72 t78 fun t79 =>
 bi .add t79 t64 fun t81 =>
 bi .sub t9 (.int .i64 16) fun t83 =>
 ixa 64 1 t3 t83 fun t84 =>
 rdS S (fun w => ld1 t84 w.heap) fun t85 =>
 bi .add t81 t85 fun t86 =>
 ixa 64 1 t3 t9 fun t87 =>
 efC (fun w K => st1 t87 t86 w (K undef)) w fun S _ w =>
 k1 w)) fun _ w =>
 bi .add t9 (.int .i64 1) fun t88 =>
 again0 t88 w)
 (ldN 64 t3 w.heap fun t89 =>
 stN 64 t2 t89 w fun w =>
 ldN 64 t2 w.heap fun r2 =>
 R r2 w)
theorem Xm : kO Tryz.f156 Xc = true := by kernel_rfl
theorem Xe (h : SQ Q (Nn t0 w)) : cal P Jv [t0] w Q := sO Tryz.func156 rfl (by kernel_rfl) Xm (by kernel_rfl) h
def Lr : An := (An.s (An.r []) (An.s (An.r []) (An.s (An.r []) An.o)))
def G9 (t0 t1 : Value) (w : World) (R : KR) : Prop :=
 cvi .u64 t1 fun t7 =>
 bi .and t7 (.int .u64 31) fun t8 =>
 sh .shl t0 t8 fun t11 =>
 bi .sub (.int .u64 32) t8 fun t14 =>
 sh .shr t0 t14 fun t15 =>
 bi .or t11 t15 fun t16 =>
 R t16 w
theorem L5 : kO Tryz.f157 Lr = true := by kernel_rfl
theorem Ly (h : SQ Q (G9 t0 t1 w)) : cal P Bt [t0, t1] w Q := sO Tryz.func157 rfl (by kernel_rfl) L5 (by kernel_rfl) h
def Yf : An := (An.s (An.r []) (An.s (An.s (An.r [[10], [16], [20], [21]]) (An.s (An.s (An.r []) An.o) An.o)) (An.s (An.r []) An.o)))
def OG (t0 : Value) (w : World) (R : KR) : Prop :=
 bx Ao t0 w fun t1 w =>
 fad 32 t1 fun t3 =>
 ld1 t3 w.heap fun t4 =>
 bi .lss t4 (.int .i64 0) fun t5 =>
 jn1 (fun k0 =>
 gif t5 false
 (fad 33 t1 fun t7 =>
 ld1 t7 w.heap fun t8 =>
 lenS t8 fun t9 =>
 bi .gtr t9 (.int .i64 200) fun t10 =>
 k0 t10 w)
 (k0 undef w)) fun _ t10_1 w =>
 pik t5 (.bool true) t10_1 fun t11 =>
 jn1 (fun k1 =>
 gif t11 false
 (fad 32 t1 fun t13 =>
 ld1 t13 w.heap fun t14 =>
 bi .eql t14 (.int .i64 0) fun t15 =>
 k1 t15 w)
 (k1 undef w)) fun _ t16 w =>
 jn1 (fun k2 =>
 gif t16 true
 (fad 0 t1 fun t17 =>
 ldN 32 t17 w.heap fun t18 =>
 rdP P (Instr.build Aa #[]) w fun t19 =>
 rdP P (eqS .neq Aa (Operand.tmp 18) (Operand.tmp 19) t18 t19) w fun t20 =>
 k2 t20 w)
 (k2 undef w)) fun _ t20_1 w =>
 jn1 (fun k3 =>
 gif t11 false
 (pik t16 t20_1 (.bool false) fun t21 =>
 k3 t21 w)
 (k3 undef w)) fun _ t21_1 w =>
 pik t11 (.bool true) t21_1 fun t22 =>
 cnd t22
 (R (.int .i64 30) w)
 (R (.int .i64 0) w)
theorem YG : kO Tryz.f159 Yf = true := by kernel_rfl
theorem YF (h : SQ Q (OG t0 w)) : cal P Kc [t0] w Q := sO Tryz.func159 rfl (by kernel_rfl) YG (by kernel_rfl) h
def AbO : An := (An.s (An.r []) (An.s (An.r []) (An.s (An.s (An.r []) (An.b (An.l [1, 6] (An.s (An.s (An.r []) (An.s An.o An.o)) (An.s (An.b (An.s (An.r []) (An.r []))) (An.r [])))))) (An.s (An.r []) An.o))))
def Tc (t0 t1 : Value) (w : World) (R : KR) : Prop :=
 efP P (Instr.makeSlice Az t0 t0) w fun t8 w =>
 bi .sub t0 (.int .i64 1) fun t10 =>
 lp2 t1 t10 w fun _ t1_1 t6 w again0 =>
 bi .geq t6 (.int .i64 0) fun t12 =>
 cnd t12
 (bi .rem t1_1 (.int .u64 256) fun t18 =>
 cvi .u8 t18 fun t19 =>
 ixs 1 t8 t6 fun t20 =>
 st1 t20 t19 w fun w =>
 bi .quo t1_1 (.int .u64 256) fun t22 =>
 bi .sub t6 (.int .i64 1) fun t14 =>
 again0 t22 t14 w)
 (R t8 w)
theorem Ac2 : kO Tryz.f160 AbO = true := by kernel_rfl
theorem Ab3 (h : SQ Q (Tc t0 t1 w)) : cal P Jx [t0, t1] w Q := sO Tryz.func160 rfl (by kernel_rfl) Ac2 (by kernel_rfl) h
def Xt : An := (An.s (An.r []) (An.s (An.r []) (An.s (An.r []) (An.s (An.b (An.l [3] (An.s (An.s (An.r []) (An.s An.o An.o)) (An.b (An.r []))))) (An.s (An.r []) (An.s (An.s (An.r []) (An.b (An.l [3, 5] (An.s (An.s (An.r []) (An.s An.o An.o)) (An.s (An.b (An.r [])) (An.r [])))))) (An.s (An.r []) An.o)))))))
def NI (t0 : Value) (w : World) (R : KR) : Prop :=
 efP P (Builtin.append_ #[Az, Az] Az #[(.slice none 0 0), t0]) w fun t7 w =>
 efP P (Instr.buildSlice Az 1 #[(0, (.int .u8 128))]) w fun t9 w =>
 efP P (Builtin.append_ #[Az, Az] Az #[t7, t9]) w fun t10 w =>
 lp1 t10 w fun _ t3 w again0 =>
 lenS t3 fun t12 =>
 bi .rem t12 (.int .i64 64) fun t13 =>
 bi .neq t13 (.int .i64 56) fun t14 =>
 cnd t14
 (efP P (Instr.buildSlice Az 1 #[(0, (.int .u8 0))]) w fun t16 w =>
 efP P (Builtin.append_ #[Az, Az] Az #[t3, t16]) w fun t17 w =>
 again0 t17 w)
 (lenS t0 fun t19 =>
 cvi .u64 t19 fun t20 =>
 bi .mul t20 (.int .u64 8) fun t21 =>
 lp2 t3 (.int .i64 0) w fun _ t3_1 t5 w again1 =>
 bi .lss t5 (.int .i64 8) fun t23 =>
 cnd t23
 (bi .mul (.int .i64 8) t5 fun t29 =>
 bi .sub (.int .i64 56) t29 fun t30 =>
 cvi .u64 t30 fun t31 =>
 sh .shr t21 t31 fun t32 =>
 cvi .u8 t32 fun t33 =>
 efP P (Instr.buildSlice Az 1 #[(0, t33)]) w fun t34 w =>
 efP P (Builtin.append_ #[Az, Az] Az #[t3_1, t34]) w fun t35 w =>
 bi .add t5 (.int .i64 1) fun t25 =>
 again1 t35 t25 w)
 (R t3_1 w))
theorem W7 : kO Tryz.f161 Xt = true := by kernel_rfl
theorem WL (h : SQ Q (NI t0 w)) : cal P Jl [t0] w Q := sO Tryz.func161 rfl (by kernel_rfl) W7 (by kernel_rfl) h
def Aat : An := (An.s (An.r []) (An.s (An.r []) (An.s (An.r []) (An.s (An.r []) (An.s (An.s (An.r []) (An.b (An.l [8] (An.s (An.s (An.r []) (An.s An.o An.o)) (An.s (An.b (An.s (An.r []) (An.s (An.r []) (An.s (An.d [0, 1, 2, 4, 7, 11, 12, 13, 14, 15, 16, 17, 18, 19, 20, 22, 23, 24, 26, 27, 28, 3, 5, 6, 8, 9, 10, 21, 25, 29, 30] []) (An.s (An.d [0, 2, 5, 8, 9, 10, 11, 12, 13, 14, 15, 16, 17, 18, 19, 20, 21, 22, 1, 3, 4, 6, 7, 23, 24] []) (An.r [])))))) (An.r [])))))) (An.s (An.s (An.r []) (An.b (An.l [13] (An.s (An.s (An.r []) (An.s An.o An.o)) (An.s (An.b (An.dc [0, 1, 2, 3, 4, 5, 6, 7, 8] [8] [])) (An.r [])))))) (An.s (An.r []) An.o)))))))
def PK (t0 t1 : Value) (w : World) (R : KR) : Prop :=
 bx Bc t0 w fun t2 w =>
 efP P (Instr.alloc Bc true (.tuple #[])) w fun t4 w =>
 cal P Ke [t1] w fun t15 w =>
 efP P (Instr.alloc Bn true (.tuple #[])) w fun t5 w =>
 stN 64 t5 t15 w fun w =>
 cal P HH [] w fun t16 w =>
 efP P (Instr.alloc Bn true (.tuple #[])) w fun t6 w =>
 stN 64 t6 t16 w fun w =>
 ldN 8 t2 w.heap fun t17 =>
 efP P (Instr.alloc Bc true (.tuple #[])) w fun t7 w =>
 stN 8 t7 t17 w fun w =>
 lp1 (.int .i64 0) w fun _ t8 w again0 =>
 bi .lss t8 (.int .i64 64) fun t19 =>
 cnd t19
 (ixa 8 1 t7 (.int .i64 4) fun t22 =>
 ld1 t22 w.heap fun t23 =>
 ixa 8 1 t7 (.int .i64 0) fun t24 =>
 ld1 t24 w.heap fun t25 =>
 drH w fun S w =>
 ixa 8 1 t7 (.int .i64 7) fun t26 =>
 rdS S (fun w => ld1 t26 w.heap) fun t27 =>
 ixa 8 1 t7 (.int .i64 5) fun t38 =>
 rdS S (fun w => ld1 t38 w.heap) fun t39 =>
 bi .and t23 t39 fun t40 =>
 rdS S (rdP P (Op.unary UnOp.xor t23)) fun t42 =>
 ixa 8 1 t7 (.int .i64 6) fun t43 =>
 rdS S (fun w => ld1 t43 w.heap) fun t44 =>
 bi .and t42 t44 fun t45 =>
 bi .xor t40 t45 fun t46 =>
 ixa 64 1 t6 t8 fun t49 =>
 rdS S (fun w => ld1 t49 w.heap) fun t50 =>
 ixa 64 1 t5 t8 fun t53 =>
 rdS S (fun w => ld1 t53 w.heap) fun t54 =>
 efS S (cal P Cm [t23, (.int .u64 6)]) w fun t29 w =>
 efS S (cal P Cm [t23, (.int .u64 11)]) w fun t31 w =>
 bi .xor t29 t31 fun t32 =>
 efS S (cal P Cm [t23, (.int .u64 25)]) w fun t34 w =>
 bi .xor t32 t34 fun t35 =>
 bi .add t27 t35 fun t36 =>
 bi .add t36 t46 fun t47 =>
 bi .add t47 t50 fun t51 =>
 bi .add t51 t54 fun t55 =>
 drH w fun S w =>
 ixa 8 1 t7 (.int .i64 1) fun t65 =>
 rdS S (fun w => ld1 t65 w.heap) fun t66 =>
 bi .and t25 t66 fun t67 =>
 ixa 8 1 t7 (.int .i64 2) fun t69 =>
 rdS S (fun w => ld1 t69 w.heap) fun t70 =>
 bi .and t25 t70 fun t71 =>
 bi .xor t67 t71 fun t72 =>
 ixa 8 1 t7 (.int .i64 1) fun t73 =>
 rdS S (fun w => ld1 t73 w.heap) fun t74 =>
 ixa 8 1 t7 (.int .i64 2) fun t75 =>
 rdS S (fun w => ld1 t75 w.heap) fun t76 =>
 bi .and t74 t76 fun t77 =>
 bi .xor t72 t77 fun t78 =>
 efS S (cal P Cm [t25, (.int .u64 2)]) w fun t57 w =>
 efS S (cal P Cm [t25, (.int .u64 13)]) w fun t59 w =>
 bi .xor t57 t59 fun t60 =>
 efS S (cal P Cm [t25, (.int .u64 22)]) w fun t62 w =>
 bi .xor t60 t62 fun t63 =>
 bi .add t63 t78 fun t79 =>
 bi .add t55 t79 fun t82 =>
 ixa 8 1 t7 (.int .i64 0) fun t83 =>
 ld1 t83 w.heap fun t84 =>
 ixa 8 1 t7 (.int .i64 1) fun t85 =>
 ld1 t85 w.heap fun t86 =>
 ixa 8 1 t7 (.int .i64 2) fun t87 =>
 ld1 t87 w.heap fun t88 =>
 ixa 8 1 t7 (.int .i64 3) fun t89 =>
 ld1 t89 w.heap fun t90 =>
 bi .add t90 t55 fun t92 =>
 ixa 8 1 t7 (.int .i64 4) fun t93 =>
 ld1 t93 w.heap fun t94 =>
 ixa 8 1 t7 (.int .i64 5) fun t95 =>
 ld1 t95 w.heap fun t96 =>
 ixa 8 1 t7 (.int .i64 6) fun t97 =>
 ld1 t97 w.heap fun t98 =>
 rdP P (Instr.build Bc #[(0, t82), (1, t84), (2, t86), (3, t88), (4, t92), (5, t94), (6, t96), (7, t98)]) w fun t99 =>
 stN 8 t7 t99 w fun w =>
 bi .add t8 (.int .i64 1) fun t21 =>
 again0 t21 w)
 (lp1 (.int .i64 0) w fun _ t13 w again1 =>
 bi .lss t13 (.int .i64 8) fun t101 =>
 cnd t101
 (drH w fun S w =>
 ixa 8 1 t2 t13 fun t105 =>
 rdS S (fun w => ld1 t105 w.heap) fun t106 =>
 ixa 8 1 t7 t13 fun t108 =>
 rdS S (fun w => ld1 t108 w.heap) fun t109 =>
 bi .add t106 t109 fun t110 =>
 ixa 8 1 t2 t13 fun t111 =>
 efC (fun w K => st1 t111 t110 w (K undef)) w fun S _ w =>
 bi .add t13 (.int .i64 1) fun t103 =>
 again1 t103 w)
 (ldN 8 t2 w.heap fun t112 =>
 stN 8 t4 t112 w fun w =>
 ldN 8 t4 w.heap fun r2 =>
 R r2 w))
theorem Aaz : kO Tryz.f162 Aat = true := by kernel_rfl
theorem Abc (h : SQ Q (PK t0 t1 w)) : cal P LM [t0, t1] w Q := sO Tryz.func162 rfl (by kernel_rfl) Aaz (by kernel_rfl) h
def Y0 : An := (An.s (An.r []) (An.s (An.r []) (An.s (An.s (An.r []) (An.b (An.l [4] (An.s (An.s (An.r []) (An.s An.o An.o)) (An.s (An.b (An.s (An.r []) (An.b (An.l [5] (An.s (An.s (An.r []) (An.s An.o An.o)) (An.s (An.b (An.dc [0, 1, 2, 3, 4, 5, 6, 7, 8, 9, 10, 11, 12, 13, 14, 15] [15] [])) (An.r []))))))) (An.r [])))))) (An.s (An.s (An.r []) (An.b (An.l [6] (An.s (An.s (An.r []) (An.s An.o An.o)) (An.s (An.b (An.s (An.r []) (An.s (An.r []) (An.s (An.r []) (An.s (An.r []) (An.dc [0, 1, 2, 3, 4, 5, 6, 7, 8, 9, 10, 11, 12, 13, 14, 15] [15] [])))))) (An.r [])))))) (An.s (An.r []) An.o)))))
def O0 (t0 : Value) (w : World) (R : KR) : Prop :=
 efP P (Instr.alloc Bn true (.tuple #[])) w fun t2 w =>
 efP P (Instr.alloc Bn true (.tuple #[])) w fun t3 w =>
 lp1 (.int .i64 0) w fun _ t4 w again0 =>
 bi .lss t4 (.int .i64 16) fun t12 =>
 cnd t12
 (lp1 (.int .i64 0) w fun _ t5 w again1 =>
 bi .lss t5 (.int .i64 4) fun t16 =>
 cnd t16
 (drH w fun S w =>
 ixa 64 1 t3 t4 fun t21 =>
 rdS S (fun w => ld1 t21 w.heap) fun t22 =>
 bi .mul t22 (.int .u32 256) fun t23 =>
 bi .mul (.int .i64 4) t4 fun t26 =>
 bi .add t26 t5 fun t28 =>
 ixs 1 t0 t28 fun t29 =>
 rdS S (fun w => ld1 t29 w.heap) fun t30 =>
 cvi .u32 t30 fun t31 =>
 bi .add t23 t31 fun t32 =>
 ixa 64 1 t3 t4 fun t33 =>
 efC (fun w K => st1 t33 t32 w (K undef)) w fun S _ w =>
 bi .add t5 (.int .i64 1) fun t18 =>
 again1 t18 w)
 (bi .add t4 (.int .i64 1) fun t14 =>
 again0 t14 w))
 (lp1 (.int .i64 16) w fun _ t6 w again2 =>
 bi .lss t6 (.int .i64 64) fun t35 =>
 cnd t35
 (bi .sub t6 (.int .i64 15) fun t39 =>
 ixa 64 1 t3 t39 fun t40 =>
 ld1 t40 w.heap fun t41 =>
 bi .sub t6 (.int .i64 2) fun t43 =>
 ixa 64 1 t3 t43 fun t44 =>
 ld1 t44 w.heap fun t45 =>
 cal P Cm [t41, (.int .u64 7)] w fun t47 w =>
 cal P Cm [t41, (.int .u64 18)] w fun t49 w =>
 bi .xor t47 t49 fun t50 =>
 sh .shr t41 (.int .u64 3) fun t52 =>
 bi .xor t50 t52 fun t53 =>
 cal P Cm [t45, (.int .u64 17)] w fun t55 w =>
 cal P Cm [t45, (.int .u64 19)] w fun t57 w =>
 bi .xor t55 t57 fun t58 =>
 sh .shr t45 (.int .u64 10) fun t60 =>
 bi .xor t58 t60 fun t61 =>
 drH w fun S w =>
 bi .sub t6 (.int .i64 7) fun t65 =>
 ixa 64 1 t3 t65 fun t66 =>
 rdS S (fun w => ld1 t66 w.heap) fun t67 =>
 bi .add t61 t67 fun t68 =>
 bi .add t68 t53 fun t70 =>
 bi .sub t6 (.int .i64 16) fun t72 =>
 ixa 64 1 t3 t72 fun t73 =>
 rdS S (fun w => ld1 t73 w.heap) fun t74 =>
 bi .add t70 t74 fun t75 =>
 ixa 64 1 t3 t6 fun t76 =>
 efC (fun w K => st1 t76 t75 w (K undef)) w fun S _ w =>
 bi .add t6 (.int .i64 1) fun t37 =>
 again2 t37 w)
 (ldN 64 t3 w.heap fun t77 =>
 stN 64 t2 t77 w fun w =>
 ldN 64 t2 w.heap fun r3 =>
 R r3 w))
theorem YY : kO Tryz.f163 Y0 = true := by kernel_rfl
theorem Za (h : SQ Q (O0 t0 w)) : cal P Ke [t0] w Q := sO Tryz.func163 rfl (by kernel_rfl) YY (by kernel_rfl) h
def SH : An := (An.s (An.r []) (An.s (An.r []) An.o))
def KI (w : World) (R : KR) : Prop :=
 efP P (Instr.alloc Bn true (.tuple #[])) w fun t0 w =>
 rdP P (Instr.build Bn #[(0, (.int .u32 1116352408)), (1, (.int .u32 1899447441)), (2, (.int .u32 3049323471)), (3, (.int .u32 3921009573)), (4, (.int .u32 961987163)), (5, (.int .u32 1508970993)), (6, (.int .u32 2453635748)), (7, (.int .u32 2870763221)), (8, (.int .u32 3624381080)), (9, (.int .u32 310598401)), (10, (.int .u32 607225278)), (11, (.int .u32 1426881987)), (12, (.int .u32 1925078388)), (13, (.int .u32 2162078206)), (14, (.int .u32 2614888103)), (15, (.int .u32 3248222580)), (16, (.int .u32 3835390401)), (17, (.int .u32 4022224774)), (18, (.int .u32 264347078)), (19, (.int .u32 604807628)), (20, (.int .u32 770255983)), (21, (.int .u32 1249150122)), (22, (.int .u32 1555081692)), (23, (.int .u32 1996064986)), (24, (.int .u32 2554220882)), (25, (.int .u32 2821834349)), (26, (.int .u32 2952996808)), (27, (.int .u32 3210313671)), (28, (.int .u32 3336571891)), (29, (.int .u32 3584528711)), (30, (.int .u32 113926993)), (31, (.int .u32 338241895)), (32, (.int .u32 666307205)), (33, (.int .u32 773529912)), (34, (.int .u32 1294757372)), (35, (.int .u32 1396182291)), (36, (.int .u32 1695183700)), (37, (.int .u32 1986661051)), (38, (.int .u32 2177026350)), (39, (.int .u32 2456956037)), (40, (.int .u32 2730485921)), (41, (.int .u32 2820302411)), (42, (.int .u32 3259730800)), (43, (.int .u32 3345764771)), (44, (.int .u32 3516065817)), (45, (.int .u32 3600352804)), (46, (.int .u32 4094571909)), (47, (.int .u32 275423344)), (48, (.int .u32 430227734)), (49, (.int .u32 506948616)), (50, (.int .u32 659060556)), (51, (.int .u32 883997877)), (52, (.int .u32 958139571)), (53, (.int .u32 1322822218)), (54, (.int .u32 1537002063)), (55, (.int .u32 1747873779)), (56, (.int .u32 1955562222)), (57, (.int .u32 2024104815)), (58, (.int .u32 2227730452)), (59, (.int .u32 2361852424)), (60, (.int .u32 2428436474)), (61, (.int .u32 2756734187)), (62, (.int .u32 3204031479)), (63, (.int .u32 3329325298))]) w fun t1 =>
 stN 64 t0 t1 w fun w =>
 ldN 64 t0 w.heap fun r0 =>
 R r0 w
theorem R8 : kO Tryz.f164 SH = true := by kernel_rfl
theorem SO (h : SQ Q (KI w)) : cal P HH [] w Q := sO Tryz.func164 rfl (by kernel_rfl) R8 (by kernel_rfl) h
def Xo : An := (An.s (An.r []) (An.s (An.r []) An.o))
def NB (t0 t1 : Value) (w : World) (R : KR) : Prop :=
 sh .shr t0 t1 fun t7 =>
 bi .sub (.int .u64 32) t1 fun t10 =>
 sh .shl t0 t10 fun t11 =>
 bi .or t7 t11 fun t12 =>
 R t12 w
theorem W3 : kO Tryz.f165 Xo = true := by kernel_rfl
theorem Xz (h : SQ Q (NB t0 t1 w)) : cal P Cm [t0, t1] w Q := sO Tryz.func165 rfl (by kernel_rfl) W3 (by kernel_rfl) h
end Go.Fx
