/-
  The readings, part 5.
-/
import Derived.Test.YtpdnddcodnpmeaaGreatDoorQf186b5bc
import Derived.Test.YtpdnddcodnpmeaaGreatDoorQ7b5fe899
import Derived.Test.YtpdnddcodnpmeaaGreatDoorQ52f385ea
import Derived.Test.YtpdnddcodnpmeaaGreatDoorQ3ba871d2
import Derived.Test.YtpdnddcodnpmeaaGreatDoorQ67391b50
import Derived.Test.YtpdnddcodnpmeaaGreatDoorQd963d5f1
set_option linter.unusedVariables false
set_option maxRecDepth 100000
namespace Go.Fx
open Go.Proofs
variable {t0 t1 t2 t3 t4 t5 t6 t7 t8 t9 : Value} {w : World} {Q : KR}
def YZ : An := (An.s (An.r []) (An.s (An.r []) (An.s (An.r []) (An.s (An.r []) An.o))))
def OE (t0 : Value) (w : World) (R : KR) : Prop :=
 bx Ao t0 w fun t1 w =>
 efP P (Instr.alloc Ao true (.tuple #[])) w fun t2 w =>
 fad 33 t1 fun t5 =>
 ld1 t5 w.heap fun t6 =>
 efP P (Builtin.append_ #[Az, Az] Az #[(.slice none 0 0), t6]) w fun t7 w =>
 fad 33 t1 fun t8 =>
 st1 t8 t7 w fun w =>
 ldN 34 t1 w.heap fun t9 =>
 stN 34 t2 t9 w fun w =>
 ldN 34 t2 w.heap fun r0 =>
 R r0 w
theorem Yq : kO Tryz.f64 YZ = true := by kernel_rfl
theorem Y8 (h : SQ Q (OE t0 w)) : cal P F8 [t0] w Q := sO Tryz.func64 rfl (by kernel_rfl) Yq (by kernel_rfl) h
def Mh : An := (An.s (An.r []) (An.s (An.r []) (An.s (An.b (An.l [] (An.s (An.s (An.r []) (An.s An.o An.o)) (An.b (An.dc [0, 1, 2, 3, 4, 5, 6, 7, 8, 9, 10, 11] [10, 11] []))))) (An.s (An.r []) An.o))))
def Hv (t0 : Value) (w : World) (R : KR) : Prop :=
 efP P (Instr.alloc Aa true (.tuple #[])) w fun t2 w =>
 nilc t0 fun t5 =>
 fad 4 t5 fun t6 =>
 ld1 t6 w.heap fun t7 =>
 nilc t7 fun t8 =>
 fad 0 t8 fun t9 =>
 ldN 32 t9 w.heap fun t10 =>
 efP P (Instr.alloc Aa true (.tuple #[])) w fun t3 w =>
 stN 32 t3 t10 w fun w =>
 lp0 w fun _ w again0 =>
 ldN 32 t3 w.heap fun t12 =>
 cal P CZ [t0, t12] w fun t13 w =>
 bi .geq t13 (.int .i64 0) fun t14 =>
 cnd t14
 (drH w fun S w =>
 nilc t0 fun t16 =>
 fad 5 t16 fun t17 =>
 rdS S (fun w => ld1 t17 w.heap) fun t18 =>
 rdS S (fun w => ldN 32 t3 w.heap) fun t20 =>
 efS S (cal P CZ [t0, t20]) w fun t21 w =>
 ixs 99 t18 t21 fun t22 =>
 fad 32 t22 fun t23 =>
 rdS S (fun w => ldN 67 t23 w.heap) fun t24 =>
 efC (cal P GG [t24]) w fun S t25 w =>
 efC (fun w K => stN 32 t3 t25 w (K undef)) w fun S _ w =>
 again0 w)
 (ldN 32 t3 w.heap fun t26 =>
 stN 32 t2 t26 w fun w =>
 ldN 32 t2 w.heap fun r1 =>
 R r1 w)
theorem Mc : kO Tryz.f65 Mh = true := by kernel_rfl
theorem Mb (h : SQ Q (Hv t0 w)) : cal P DZ [t0] w Q := sO Tryz.func65 rfl (by kernel_rfl) Mc (by kernel_rfl) h
def SW : An := (An.s (An.r []) (An.s (An.r []) (An.s (An.s (An.r []) (An.s (An.s (An.r []) An.o) An.o)) (An.s (An.r []) An.o))))
def Ky (t0 t1 : Value) (w : World) (R : KR) : Prop :=
 bx Aa t1 w fun t3 w =>
 efP P (Instr.alloc Ak true (.tuple #[])) w fun t4 w =>
 ldN 32 t3 w.heap fun t8 =>
 cal P CZ [t0, t8] w fun t9 w =>
 bi .lss t9 (.int .i64 0) fun t11 =>
 cnd t11
 (rdP P (Instr.build Ak #[]) w fun t12 =>
 stN 67 t4 t12 w fun w =>
 ldN 67 t4 w.heap fun r0 =>
 R (.tuple #[r0, (.int .i64 4)]) w)
 (nilc t0 fun t14 =>
 fad 5 t14 fun t15 =>
 ld1 t15 w.heap fun t16 =>
 ixs 99 t16 t9 fun t18 =>
 fad 32 t18 fun t19 =>
 ldN 67 t19 w.heap fun t20 =>
 cal P Eo [t20] w fun t21 w =>
 stN 67 t4 t21 w fun w =>
 ldN 67 t4 w.heap fun r1 =>
 R (.tuple #[r1, (.int .i64 0)]) w)
theorem Sf : kO Tryz.f66 SW = true := by kernel_rfl
theorem SB (h : SQ Q (Ky t0 t1 w)) : cal P Fl [t0, t1] w Q := sO Tryz.func66 rfl (by kernel_rfl) Sf (by kernel_rfl) h
def TD : An := (An.s (An.r []) (An.s (An.r []) (An.s (An.s (An.r []) (An.s (An.s (An.r []) An.o) An.o)) (An.s (An.r []) An.o))))
def LA (t0 t1 : Value) (w : World) (R : KR) : Prop :=
 bx Aa t1 w fun t3 w =>
 efP P (Instr.alloc Ao true (.tuple #[])) w fun t4 w =>
 ldN 32 t3 w.heap fun t8 =>
 cal P CA [t0, t8] w fun t9 w =>
 bi .lss t9 (.int .i64 0) fun t11 =>
 cnd t11
 (rdP P (Instr.build Ao #[]) w fun t12 =>
 stN 34 t4 t12 w fun w =>
 ldN 34 t4 w.heap fun r0 =>
 R (.tuple #[r0, (.int .i64 4)]) w)
 (nilc t0 fun t14 =>
 fad 34 t14 fun t15 =>
 ld1 t15 w.heap fun t16 =>
 ixs 66 t16 t9 fun t18 =>
 fad 32 t18 fun t19 =>
 ldN 34 t19 w.heap fun t20 =>
 stN 34 t4 t20 w fun w =>
 ldN 34 t4 w.heap fun r1 =>
 R (.tuple #[r1, (.int .i64 0)]) w)
theorem UI : kO Tryz.f67 TD = true := by kernel_rfl
theorem TZ (h : SQ Q (LA t0 t1 w)) : cal P FS [t0, t1] w Q := sO Tryz.func67 rfl (by kernel_rfl) UI (by kernel_rfl) h
def Aaf : An := (An.s (An.r []) (An.s (An.s (An.r [[18], [25], [32], [39]]) (An.s (An.s (An.r []) An.o) An.o)) (An.s (An.s (An.r []) (An.b (An.l [5] (An.s (An.s (An.r []) (An.s An.o An.o)) (An.s (An.b (An.s (An.r []) (An.s (An.s (An.r []) An.o) An.o))) (An.r [])))))) (An.s (An.r []) An.o))))
def QO (t0 t1 : Value) (w : World) (R : KR) : Prop :=
 bx Ak t0 w fun t2 w =>
 bx Ak t1 w fun t3 w =>
 fad 0 t2 fun t6 =>
 ld1 t6 w.heap fun t7 =>
 lenS t7 fun t8 =>
 fad 0 t3 fun t9 =>
 ld1 t9 w.heap fun t10 =>
 lenS t10 fun t11 =>
 bi .neq t8 t11 fun t12 =>
 jn1 (fun k0 =>
 gif t12 false
 (fad 1 t2 fun t14 =>
 ldN 32 t14 w.heap fun t15 =>
 fad 1 t3 fun t16 =>
 ldN 32 t16 w.heap fun t17 =>
 rdP P (eqS .neq Aa (Operand.tmp 15) (Operand.tmp 17) t15 t17) w fun t18 =>
 k0 t18 w)
 (k0 undef w)) fun _ t18_1 w =>
 pik t12 (.bool true) t18_1 fun t19 =>
 jn1 (fun k1 =>
 gif t19 false
 (fad 33 t2 fun t21 =>
 ldN 32 t21 w.heap fun t22 =>
 fad 33 t3 fun t23 =>
 ldN 32 t23 w.heap fun t24 =>
 rdP P (eqS .neq Aa (Operand.tmp 22) (Operand.tmp 24) t22 t24) w fun t25 =>
 k1 t25 w)
 (k1 undef w)) fun _ t25_1 w =>
 pik t19 (.bool true) t25_1 fun t26 =>
 jn1 (fun k2 =>
 gif t26 false
 (fad 65 t2 fun t28 =>
 ld1 t28 w.heap fun t29 =>
 fad 65 t3 fun t30 =>
 ld1 t30 w.heap fun t31 =>
 bi .neq t29 t31 fun t32 =>
 k2 t32 w)
 (k2 undef w)) fun _ t32_1 w =>
 pik t26 (.bool true) t32_1 fun t33 =>
 jn1 (fun k3 =>
 gif t33 false
 (fad 66 t2 fun t35 =>
 ld1 t35 w.heap fun t36 =>
 fad 66 t3 fun t37 =>
 ld1 t37 w.heap fun t38 =>
 rdP P (eqS .neq F9 (Operand.tmp 36) (Operand.tmp 38) t36 t38) w fun t39 =>
 k3 t39 w)
 (k3 undef w)) fun _ t39_1 w =>
 pik t33 (.bool true) t39_1 fun t40 =>
 cnd t40
 (R (.bool false) w)
 (lp1 (.int .i64 0) w fun _ t5 w again4 =>
 fad 0 t2 fun t42 =>
 ld1 t42 w.heap fun t43 =>
 lenS t43 fun t44 =>
 bi .lss t5 t44 fun t45 =>
 cnd t45
 (drw w fun w =>
 fad 0 t2 fun t48 =>
 ld1 t48 w.heap fun t49 =>
 ixs 33 t49 t5 fun t51 =>
 ldN 33 t51 w.heap fun t52 =>
 fad 0 t3 fun t53 =>
 ld1 t53 w.heap fun t54 =>
 ixs 33 t54 t5 fun t56 =>
 ldN 33 t56 w.heap fun t57 =>
 rdP P (eqS .neq BH (Operand.tmp 52) (Operand.tmp 57) t52 t57) w fun t58 =>
 cnd t58
 (R (.bool false) w)
 (bi .add t5 (.int .i64 1) fun t47 =>
 again4 t47 w))
 (R (.bool true) w))
theorem ZM : kO Tryz.f68 Aaf = true := by kernel_rfl
theorem Aa4 (h : SQ Q (QO t0 t1 w)) : cal P LK [t0, t1] w Q := sO Tryz.func68 rfl (by kernel_rfl) ZM (by kernel_rfl) h
def AaN : An := (An.s (An.r []) (An.s (An.r [[15], [24]]) An.o))
def Rg (t0 t1 : Value) (w : World) (R : KR) : Prop :=
 bx Ao t0 w fun t2 w =>
 bx Ao t1 w fun t3 w =>
 fad 0 t2 fun t5 =>
 ldN 32 t5 w.heap fun t6 =>
 fad 0 t3 fun t7 =>
 ldN 32 t7 w.heap fun t8 =>
 rdP P (eqS .eql Aa (Operand.tmp 6) (Operand.tmp 8) t6 t8) w fun t9 =>
 jn1 (fun k0 =>
 gif t9 true
 (fad 32 t2 fun t11 =>
 ld1 t11 w.heap fun t12 =>
 fad 32 t3 fun t13 =>
 ld1 t13 w.heap fun t14 =>
 bi .eql t12 t14 fun t15 =>
 k0 t15 w)
 (k0 undef w)) fun _ t15_1 w =>
 pik t9 t15_1 (.bool false) fun t16 =>
 jn1 (fun k1 =>
 gif t16 true
 (fad 33 t2 fun t18 =>
 ld1 t18 w.heap fun t19 =>
 rdP P (convert Az Jj t19) w fun t20 =>
 fad 33 t3 fun t21 =>
 ld1 t21 w.heap fun t22 =>
 rdP P (convert Az Jj t22) w fun t23 =>
 rdP P (eqS .eql Jj (Operand.tmp 20) (Operand.tmp 23) t20 t23) w fun t24 =>
 k1 t24 w)
 (k1 undef w)) fun _ t24_1 w =>
 pik t16 t24_1 (.bool false) fun t25 =>
 R t25 w
theorem Abq : kO Tryz.f69 AaN = true := by kernel_rfl
theorem Aa1 (h : SQ Q (Rg t0 t1 w)) : cal P Lw [t0, t1] w Q := sO Tryz.func69 rfl (by kernel_rfl) Abq (by kernel_rfl) h
def Uq : An := (An.s (An.r []) (An.s (An.d [0, 1, 2, 3, 4, 5, 6, 7, 8, 9, 10, 11, 12] [[15]]) An.o))
def LJ (t0 t1 : Value) (w : World) (R : KR) : Prop :=
 bx Aa t1 w fun t3 w =>
 drH w fun S w =>
 rdS S (fun w => ldN 32 t3 w.heap) fun t5 =>
 nilc t0 fun t7 =>
 fad 0 t7 fun t8 =>
 rdS S (fun w => ldN 32 t8 w.heap) fun t9 =>
 rdS S (rdP P (eqS .eql Aa (Operand.tmp 5) (Operand.tmp 9) t5 t9)) fun t10 =>
 jn1 (fun k0 =>
 gif t10 false
 (rdS S (fun w => ldN 32 t3 w.heap) fun t13 =>
 efS S (cal P CA [t0, t13]) w fun t14 w =>
 bi .geq t14 (.int .i64 0) fun t15 =>
 k0 t15 w)
 (k0 undef w)) fun _ t15_1 w =>
 pik t10 (.bool true) t15_1 fun t16 =>
 R t16 w
theorem UC : kO Tryz.f70 Uq = true := by kernel_rfl
theorem TH (h : SQ Q (LJ t0 t1 w)) : cal P CJ [t0, t1] w Q := sO Tryz.func70 rfl (by kernel_rfl) UC (by kernel_rfl) h
def MU : An := (An.s (An.r []) (An.s (An.dc [0, 1, 2, 3, 4, 6, 5, 7, 8] [7] []) An.o))
def HW (t0 t1 : Value) (w : World) (R : KR) : Prop :=
 bx Aa t1 w fun t3 w =>
 drH w fun S w =>
 nilc t0 fun t6 =>
 fad 4 t6 fun t7 =>
 rdS S (fun w => ld1 t7 w.heap) fun t8 =>
 rdS S (fun w => ldN 32 t3 w.heap) fun t11 =>
 efS S (cal P DZ [t0]) w fun t10 w =>
 efC (cal P D6 [t8, t10, t11]) w fun S t12 w =>
 R t12 w
theorem M9 : kO Tryz.f71 MU = true := by kernel_rfl
theorem M2 (h : SQ Q (HW t0 t1 w)) : cal P Fc [t0, t1] w Q := sO Tryz.func71 rfl (by kernel_rfl) M9 (by kernel_rfl) h
def Rm : An := (An.s (An.r []) (An.s (An.r []) (An.s (An.s (An.r []) (An.b (An.l [7, 8] (An.s (An.s (An.r [[16]]) (An.s An.o An.o)) (An.s (An.j [7] (An.b (An.s (An.dc [0, 1, 2, 3, 4, 5, 6, 7, 8, 9, 10] [10] []) (An.s (An.r []) An.o)))) (An.r [])))))) (An.s (An.r []) An.o))))
def JQ (t0 t1 t2 : Value) (w : World) (R : KR) : Prop :=
 bx Aa t2 w fun t5 w =>
 lp2 (.int .i64 0) (.int .i64 0) w fun _ t7 t8 w again0 =>
 lenS t1 fun t11 =>
 bi .lss t8 t11 fun t12 =>
 jn1 (fun k1 =>
 gif t12 true
 (cal P EU [t1] w fun t15 w =>
 bi .eql t15 (.int .i64 0) fun t16 =>
 k1 t16 w)
 (k1 undef w)) fun _ t16_1 w =>
 pik t12 t16_1 (.bool false) fun t17 =>
 cnd t17
 (jn1 (fun k2 =>
 drH w fun S w =>
 nilc t0 fun t21 =>
 fad 4 t21 fun t22 =>
 rdS S (fun w => ld1 t22 w.heap) fun t23 =>
 ixs 33 t1 t8 fun t26 =>
 fad 0 t26 fun t27 =>
 rdS S (fun w => ldN 32 t27 w.heap) fun t28 =>
 rdS S (fun w => ldN 32 t5 w.heap) fun t29 =>
 efC (cal P D6 [t23, t28, t29]) w fun S t30 w =>
 cnd t30
 (ixs 33 t1 t8 fun t34 =>
 fad 32 t34 fun t35 =>
 ld1 t35 w.heap fun t36 =>
 bi .add t7 t36 fun t37 =>
 k2 t37 w)
 (k2 t7 w)) fun _ t7_1 w =>
 bi .add t8 (.int .i64 1) fun t19 =>
 again0 t7_1 t19 w)
 (R t7 w)
theorem Qo : kO Tryz.f72 Rm = true := by kernel_rfl
theorem Rb (h : SQ Q (JQ t0 t1 t2 w)) : cal P E9 [t0, t1, t2] w Q := sO Tryz.func72 rfl (by kernel_rfl) Qo (by kernel_rfl) h
def SX : An := (An.s (An.r []) (An.s (An.r []) (An.s (An.s (An.r []) (An.b (An.l [5, 6] (An.s (An.s (An.r []) (An.s An.o An.o)) (An.s (An.b (An.r [])) (An.r [])))))) (An.s (An.r []) An.o))))
def KG (t0 t1 : Value) (w : World) (R : KR) : Prop :=
 bx Aa t1 w fun t3 w =>
 ldN 32 t3 w.heap fun t8 =>
 cal P CA [t0, t8] w fun t9 w =>
 lp2 (.slice none 0 0) t9 w fun _ t5 t6 w again0 =>
 bi .geq t6 (.int .i64 0) fun t11 =>
 cnd t11
 (nilc t0 fun t24 =>
 fad 34 t24 fun t25 =>
 ld1 t25 w.heap fun t26 =>
 ixs 66 t26 t6 fun t28 =>
 fad 0 t28 fun t29 =>
 ldN 32 t29 w.heap fun t30 =>
 efP P (Instr.buildSlice Ax 1 #[(0, t30)]) w fun t31 w =>
 efP P (Builtin.append_ #[Ax, Ax] Ax #[t31, t5]) w fun t33 w =>
 nilc t0 fun t14 =>
 fad 34 t14 fun t15 =>
 ld1 t15 w.heap fun t16 =>
 ixs 66 t16 t6 fun t18 =>
 fad 32 t18 fun t19 =>
 fad 0 t19 fun t20 =>
 ldN 32 t20 w.heap fun t21 =>
 cal P CA [t0, t21] w fun t22 w =>
 again0 t33 t22 w)
 (R t5 w)
theorem Se : kO Tryz.f73 SX = true := by kernel_rfl
theorem Si (h : SQ Q (KG t0 t1 w)) : cal P Fj [t0, t1] w Q := sO Tryz.func73 rfl (by kernel_rfl) Se (by kernel_rfl) h
def PH : An := (An.s (An.r []) (An.s (An.dc [0, 1, 2, 3, 4, 5, 6, 7, 8, 9, 10, 11, 12, 13, 14] [13] []) (An.s (An.dc [0, 1, 2, 3, 4, 5, 6, 7, 8, 9, 10, 11, 12] [9, 12] []) (An.s (An.r []) An.o))))
def JR (t0 : Value) (w : World) (R : KR) : Prop :=
 drH w fun S w =>
 nilc t0 fun t5 =>
 fad 0 t5 fun t6 =>
 rdS S (fun w => ldN 32 t6 w.heap) fun t7 =>
 nilc t0 fun t9 =>
 fad 32 t9 fun t10 =>
 rdS S (fun w => ld1 t10 w.heap) fun t11 =>
 nilc t0 fun t13 =>
 fad 33 t13 fun t14 =>
 rdS S (fun w => ld1 t14 w.heap) fun t15 =>
 rdS S (rdP P (Instr.build BZ #[(0, t7), (1, t11), (2, t15)])) fun t16 =>
 efC (bx BZ t16) w fun S t17 w =>
 drH w fun S w =>
 nilc t17 fun t20 =>
 fad 34 t20 fun t21 =>
 rdS S (fun w => ld1 t21 w.heap) fun t22 =>
 nilc t0 fun t24 =>
 fad 34 t24 fun t25 =>
 rdS S (fun w => ld1 t25 w.heap) fun t26 =>
 efC (efP P (Builtin.append_ #[Bv, Bv] Bv #[t22, t26])) w fun S t27 w =>
 nilc t17 fun t28 =>
 fad 34 t28 fun t29 =>
 efC (fun w K => st1 t29 t27 w (K undef)) w fun S _ w =>
 R t17 w
theorem PY : kO Tryz.f74 PH = true := by kernel_rfl
theorem Q0 (h : SQ Q (JR t0 w)) : cal P Ed [t0] w Q := sO Tryz.func74 rfl (by kernel_rfl) PY (by kernel_rfl) h
def YE : An := (An.s (An.r []) (An.s (An.r []) (An.s (An.r []) (An.s (An.r []) An.o))))
def OZ (t0 : Value) (w : World) (R : KR) : Prop :=
 bx Ak t0 w fun t1 w =>
 efP P (Instr.alloc Ak true (.tuple #[])) w fun t2 w =>
 fad 0 t1 fun t5 =>
 ld1 t5 w.heap fun t6 =>
 efP P (Builtin.append_ #[Bd, Bd] Bd #[(.slice none 0 0), t6]) w fun t7 w =>
 fad 0 t1 fun t8 =>
 st1 t8 t7 w fun w =>
 ldN 67 t1 w.heap fun t9 =>
 stN 67 t2 t9 w fun w =>
 ldN 67 t2 w.heap fun r0 =>
 R r0 w
theorem YJ : kO Tryz.f75 YE = true := by kernel_rfl
theorem Yt (h : SQ Q (OZ t0 w)) : cal P Eo [t0] w Q := sO Tryz.func75 rfl (by kernel_rfl) YJ (by kernel_rfl) h
def Sx : An := (An.s (An.r []) (An.s (An.s (An.r []) (An.s (An.s (An.r []) An.o) An.o)) (An.s (An.r []) (An.s (An.s (An.r []) (An.b (An.l [5, 15] (An.s (An.r []) (An.s (An.s An.o An.o) (An.s (An.j [5] (An.b (An.s (An.r []) (An.s (An.r []) (An.s (An.r []) An.o))))) (An.r []))))))) (An.s (An.r []) An.o)))))
def Kt (t0 t1 : Value) (w : World) (R : KR) : Prop :=
 cal P Cp [t0] w fun t9 w =>
 cnd t9
 (R (.slice none 0 0) w)
 (nilc t0 fun t11 =>
 fad 36 t11 fun t12 =>
 ld1 t12 w.heap fun t13 =>
 lenS t13 fun t14 =>
 lp2 (.slice none 0 0) (.int .i64 0) w fun _ t5 t15 w again0 =>
 bi .lss t15 t14 fun t16 =>
 cnd t16
 (jn1 (fun k1 =>
 ixs 32 t13 t15 fun t17 =>
 ldN 32 t17 w.heap fun t18 =>
 efP P (Instr.alloc Aa true (.tuple #[])) w fun t7 w =>
 stN 32 t7 t18 w fun w =>
 ldN 32 t7 w.heap fun t20 =>
 calV P t1 [t20] w fun t21 w =>
 cnd t21
 (ldN 32 t7 w.heap fun t23 =>
 efP P (Instr.buildSlice Ax 1 #[(0, t23)]) w fun t24 w =>
 efP P (Builtin.append_ #[Ax, Ax] Ax #[t5, t24]) w fun t25 w =>
 k1 t25 w)
 (k1 t5 w)) fun _ t5_1 w =>
 bi .add t15 (.int .i64 1) fun t26 =>
 again0 t5_1 t26 w)
 (R t5 w))
theorem R0 : kO Tryz.f76 Sx = true := by kernel_rfl
theorem Sp (h : SQ Q (Kt t0 t1 w)) : cal P Er [t0, t1] w Q := sO Tryz.func76 rfl (by kernel_rfl) R0 (by kernel_rfl) h
def PG : An := (An.s (An.r []) (An.s (An.r []) An.o))
def J5 (t0 t1 t2 : Value) (w : World) (R : KR) : Prop :=
 bx Aa t0 w fun t3 w =>
 ld1 t1 w.heap fun t5 =>
 ldN 32 t3 w.heap fun t6 =>
 ldN 32 t2 w.heap fun t7 =>
 cal P Ef [t5, t6, t7] w fun t8 w =>
 notB t8 fun t9 =>
 R t9 w
theorem Q6 : kO Tryz.f77 PG = true := by kernel_rfl
theorem Qi (h : SQ Q (J5 t0 t1 t2 w)) : cal P G6 [t0, t1, t2] w Q := sO Tryz.func77 rfl (by kernel_rfl) Q6 (by kernel_rfl) h
def QH : An := (An.s (An.r []) (An.s (An.r [[12]]) An.o))
def JT (t0 t1 t2 : Value) (w : World) (R : KR) : Prop :=
 bx Aa t0 w fun t3 w =>
 ldN 32 t3 w.heap fun t5 =>
 ldN 32 t1 w.heap fun t6 =>
 rdP P (eqS .neq Aa (Operand.tmp 5) (Operand.tmp 6) t5 t6) w fun t7 =>
 jn1 (fun k0 =>
 gif t7 true
 (ld1 t2 w.heap fun t9 =>
 ldN 32 t3 w.heap fun t10 =>
 ldN 32 t1 w.heap fun t11 =>
 cal P Ef [t9, t10, t11] w fun t12 w =>
 k0 t12 w)
 (k0 undef w)) fun _ t12_1 w =>
 pik t7 t12_1 (.bool false) fun t13 =>
 R t13 w
theorem Rd : kO Tryz.f78 QH = true := by kernel_rfl
theorem Qq (h : SQ Q (JT t0 t1 t2 w)) : cal P G4 [t0, t1, t2] w Q := sO Tryz.func78 rfl (by kernel_rfl) Rd (by kernel_rfl) h
def Aa3 : An := (An.s (An.r []) (An.s (An.s (An.r []) (An.s (An.r []) (An.s (An.s (An.r []) An.o) An.o))) (An.s (An.r []) An.o)))
def P3 (t0 : Value) (w : World) (R : KR) : Prop :=
 bx Ao t0 w fun t1 w =>
 efP P (Instr.alloc Ao true (.tuple #[])) w fun t2 w =>
 ldN 34 t1 w.heap fun t5 =>
 cal P H5 [t5] w fun t6 w =>
 bi .neq t6 (.int .i64 0) fun t8 =>
 cnd t8
 (rdP P (Instr.build Ao #[]) w fun t9 =>
 stN 34 t2 t9 w fun w =>
 ldN 34 t2 w.heap fun r0 =>
 R (.tuple #[r0, t6]) w)
 (ldN 34 t1 w.heap fun t11 =>
 cal P Ge [t11] w fun t12 w =>
 stN 34 t2 t12 w fun w =>
 ldN 34 t2 w.heap fun r1 =>
 R (.tuple #[r1, (.int .i64 0)]) w)
theorem AaY : kO Tryz.f79 Aa3 = true := by kernel_rfl
theorem Abm (h : SQ Q (P3 t0 w)) : cal P IP [t0] w Q := sO Tryz.func79 rfl (by kernel_rfl) AaY (by kernel_rfl) h
def Y7 : An := (An.s (An.r []) (An.s (An.s (An.r []) (An.s (An.r []) (An.s (An.s (An.r []) An.o) An.o))) (An.s (An.r []) (An.s (An.r []) (An.s (An.r []) (An.s (An.r []) (An.s (An.r []) (An.s (An.r []) An.o))))))))
def OO (t0 : Value) (w : World) (R : KR) : Prop :=
 bx Ao t0 w fun t1 w =>
 ldN 34 t1 w.heap fun t6 =>
 cal P H5 [t6] w fun t7 w =>
 bi .neq t7 (.int .i64 0) fun t9 =>
 cnd t9
 (R (.tuple #[(.slice none 0 0), t7]) w)
 (cal P NR [(.int .i64 246)] w fun t11 w =>
 cal P Gu [t11, (.int .u16 0)] w fun t13 w =>
 fad 0 t1 fun t15 =>
 sla 32 1 t15 none none fun t16 =>
 cal P Gt [t11, t16] w fun t17 w =>
 fad 32 t1 fun t19 =>
 ld1 t19 w.heap fun t20 =>
 cvi .u64 t20 fun t21 =>
 cal P GM [t11, t21] w fun t22 w =>
 fad 33 t1 fun t24 =>
 ld1 t24 w.heap fun t25 =>
 cal P Gw [t11, t25] w fun t26 w =>
 cal P HD [t11] w fun t28 w =>
 ext 0 t28 fun t29 =>
 ext 1 t28 fun t30 =>
 R (.tuple #[t29, t30]) w)
theorem YA : kO Tryz.f80 Y7 = true := by kernel_rfl
theorem YP (h : SQ Q (OO t0 w)) : cal P Ka [t0] w Q := sO Tryz.func80 rfl (by kernel_rfl) YA (by kernel_rfl) h
def Afr : An := (An.s (An.r []) (An.s (An.r []) (An.s (An.r []) (An.s (An.r []) An.o))))
def X2 (t0 : Value) (w : World) (R : KR) : Prop :=
 efP P (Instr.alloc Aa true (.tuple #[])) w fun t2 w =>
 cal P Rn [] w fun t4 w =>
 efP P (Instr.buildSlice HZ 1 #[(0, t0)]) w fun t7 w =>
 cal P HI [t4, t7] w fun t8 w =>
 cal P IE [t4] w fun t10 w =>
 stN 32 t2 t10 w fun w =>
 ldN 32 t2 w.heap fun r0 =>
 R r0 w
theorem Afz : kO Tryz.f81 Afr = true := by kernel_rfl
theorem Ae6 (h : SQ Q (X2 t0 w)) : cal P P0 [t0] w Q := sO Tryz.func81 rfl (by kernel_rfl) Afz (by kernel_rfl) h
def Yu : An := (An.s (An.r []) (An.s (An.s (An.r [[9], [17], [24], [31], [36], [41]]) (An.s (An.s (An.r []) An.o) An.o)) (An.s (An.r []) An.o)))
def OI (t0 : Value) (w : World) (R : KR) : Prop :=
 bx AZ t0 w fun t1 w =>
 fad 0 t1 fun t3 =>
 ld1 t3 w.heap fun t4 =>
 bi .lss t4 (.int .i64 1) fun t5 =>
 jn1 (fun k0 =>
 gif t5 false
 (fad 0 t1 fun t7 =>
 ld1 t7 w.heap fun t8 =>
 bi .gtr t8 (.int .i64 64) fun t9 =>
 k0 t9 w)
 (k0 undef w)) fun _ t9_1 w =>
 pik t5 (.bool true) t9_1 fun t10 =>
 jn1 (fun k1 =>
 gif t10 false
 (fad 1 t1 fun t12 =>
 ld1 t12 w.heap fun t13 =>
 fad 0 t1 fun t14 =>
 ld1 t14 w.heap fun t15 =>
 bi .quo t15 (.int .i64 2) fun t16 =>
 bi .leq t13 t16 fun t17 =>
 k1 t17 w)
 (k1 undef w)) fun _ t17_1 w =>
 pik t10 (.bool true) t17_1 fun t18 =>
 jn1 (fun k2 =>
 gif t18 false
 (fad 1 t1 fun t20 =>
 ld1 t20 w.heap fun t21 =>
 fad 2 t1 fun t22 =>
 ld1 t22 w.heap fun t23 =>
 bi .gtr t21 t23 fun t24 =>
 k2 t24 w)
 (k2 undef w)) fun _ t24_1 w =>
 pik t18 (.bool true) t24_1 fun t25 =>
 jn1 (fun k3 =>
 gif t25 false
 (fad 2 t1 fun t27 =>
 ld1 t27 w.heap fun t28 =>
 fad 0 t1 fun t29 =>
 ld1 t29 w.heap fun t30 =>
 bi .gtr t28 t30 fun t31 =>
 k3 t31 w)
 (k3 undef w)) fun _ t31_1 w =>
 pik t25 (.bool true) t31_1 fun t32 =>
 jn1 (fun k4 =>
 gif t32 false
 (fad 3 t1 fun t34 =>
 ld1 t34 w.heap fun t35 =>
 bi .lss t35 (.int .i64 1) fun t36 =>
 k4 t36 w)
 (k4 undef w)) fun _ t36_1 w =>
 pik t32 (.bool true) t36_1 fun t37 =>
 jn1 (fun k5 =>
 gif t37 false
 (fad 3 t1 fun t39 =>
 ld1 t39 w.heap fun t40 =>
 bi .gtr t40 (.int .i64 1000) fun t41 =>
 k5 t41 w)
 (k5 undef w)) fun _ t41_1 w =>
 pik t37 (.bool true) t41_1 fun t42 =>
 cnd t42
 (R (.int .i64 170) w)
 (R (.int .i64 0) w)
theorem Y4 : kO Tryz.f82 Yu = true := by kernel_rfl
theorem Yo (h : SQ Q (OI t0 w)) : cal P Gi [t0] w Q := sO Tryz.func82 rfl (by kernel_rfl) Y4 (by kernel_rfl) h
def AdG : An := (An.s (An.r []) (An.s (An.s (An.r [[12], [16]]) (An.s (An.s (An.r []) An.o) An.o)) (An.s (An.r []) An.o)))
def WD (t0 t1 t2 : Value) (w : World) (R : KR) : Prop :=
 bx Aa t0 w fun t3 w =>
 bi .lss t1 (.int .i64 0) fun t9 =>
 jn1 (fun k0 =>
 gif t9 false
 (bi .lss t2 (.int .i64 1) fun t12 =>
 k0 t12 w)
 (k0 undef w)) fun _ t12_1 w =>
 pik t9 (.bool true) t12_1 fun t13 =>
 jn1 (fun k1 =>
 gif t13 false
 (bi .gtr t2 (.int .i64 256) fun t16 =>
 k1 t16 w)
 (k1 undef w)) fun _ t16_1 w =>
 pik t13 (.bool true) t16_1 fun t17 =>
 cnd t17
 (R (.tuple #[(.pointer none), (.int .i64 1)]) w)
 (ldN 32 t3 w.heap fun t18 =>
 efP P (Instr.makeMap AT none) w fun t21 w =>
 rdP P (Instr.build BE #[(0, (.bool true)), (1, t18), (2, t1), (3, t2), (4, t21)]) w fun t22 =>
 bx BE t22 w fun t23 w =>
 R (.tuple #[t23, (.int .i64 0)]) w)
theorem AdN : kO Tryz.f83 AdG = true := by kernel_rfl
theorem Aeb (h : SQ Q (WD t0 t1 t2 w)) : cal P Oa [t0, t1, t2] w Q := sO Tryz.func83 rfl (by kernel_rfl) AdN (by kernel_rfl) h
def Wt : An := (An.s (An.r []) (An.s (An.s (An.r []) (An.s (An.s (An.r []) An.o) An.o)) (An.s (An.r []) (An.s (An.s (An.r []) (An.s (An.s (An.r []) An.o) An.o)) (An.s (An.s (An.r []) (An.s (An.s (An.r []) An.o) An.o)) (An.s (An.r []) (An.s (An.s (An.r [[38], [45]]) (An.s (An.s (An.r []) An.o) An.o)) (An.s (An.s (An.r []) (An.s (An.s (An.r []) An.o) An.o)) (An.s (An.dc [0, 1, 2, 3, 4, 5, 6, 7] [7] []) (An.s (An.dc [0, 1, 2, 3, 4, 5, 6, 7, 8, 9, 10] [7, 10] []) (An.s (An.r []) An.o)))))))))))
def MD (t0 t1 : Value) (w : World) (R : KR) : Prop :=
 bx Ao t1 w fun t3 w =>
 efP P (Instr.alloc Aa true (.tuple #[])) w fun t4 w =>
 cal P Cp [t0] w fun t11 w =>
 cnd t11
 (rdP P (Instr.build Aa #[]) w fun t12 =>
 stN 32 t4 t12 w fun w =>
 ldN 32 t4 w.heap fun r0 =>
 R (.tuple #[r0, (.int .i64 2)]) w)
 (ldN 34 t3 w.heap fun t14 =>
 cal P I4 [t14] w fun t15 w =>
 ext 0 t15 fun t16 =>
 ext 1 t15 fun t17 =>
 efP P (Instr.alloc Aa true (.tuple #[])) w fun t6 w =>
 stN 32 t6 t16 w fun w =>
 bi .neq t17 (.int .i64 0) fun t19 =>
 cnd t19
 (rdP P (Instr.build Aa #[]) w fun t20 =>
 stN 32 t4 t20 w fun w =>
 ldN 32 t4 w.heap fun r1 =>
 R (.tuple #[r1, t17]) w)
 (ldN 32 t6 w.heap fun t23 =>
 cal P Cz [t0, t23] w fun t24 w =>
 cnd t24
 (rdP P (Instr.build Aa #[]) w fun t25 =>
 stN 32 t4 t25 w fun w =>
 ldN 32 t4 w.heap fun r2 =>
 R (.tuple #[r2, (.int .i64 110)]) w)
 (fad 0 t3 fun t28 =>
 ldN 32 t28 w.heap fun t29 =>
 cal P Fm [t0, t29] w fun t30 w =>
 ext 0 t30 fun t31 =>
 ext 1 t30 fun t32 =>
 notB t32 fun t34 =>
 jn1 (fun k3 =>
 gif t34 false
 (fad 32 t3 fun t36 =>
 ld1 t36 w.heap fun t37 =>
 bi .lss t37 (.int .i64 1) fun t38 =>
 k3 t38 w)
 (k3 undef w)) fun _ t38_1 w =>
 pik t34 (.bool true) t38_1 fun t39 =>
 jn1 (fun k4 =>
 gif t39 false
 (fad 32 t3 fun t41 =>
 ld1 t41 w.heap fun t42 =>
 bi .sub t42 (.int .i64 1) fun t43 =>
 bi .neq t43 t31 fun t45 =>
 k4 t45 w)
 (k4 undef w)) fun _ t45_1 w =>
 pik t39 (.bool true) t45_1 fun t46 =>
 cnd t46
 (rdP P (Instr.build Aa #[]) w fun t47 =>
 stN 32 t4 t47 w fun w =>
 ldN 32 t4 w.heap fun r5 =>
 R (.tuple #[r5, (.int .i64 31)]) w)
 (drw w fun w =>
 nilc t0 fun t49 =>
 fad 35 t49 fun t50 =>
 ld1 t50 w.heap fun t51 =>
 rdP P (Builtin.len_ #[AT] CS #[t51]) w fun t52 =>
 nilc t0 fun t54 =>
 fad 34 t54 fun t55 =>
 ld1 t55 w.heap fun t56 =>
 bi .geq t52 t56 fun t57 =>
 cnd t57
 (rdP P (Instr.build Aa #[]) w fun t58 =>
 stN 32 t4 t58 w fun w =>
 ldN 32 t4 w.heap fun r6 =>
 R (.tuple #[r6, (.int .i64 6)]) w)
 (drH w fun S w =>
 nilc t0 fun t60 =>
 fad 35 t60 fun t61 =>
 rdS S (fun w => ld1 t61 w.heap) fun t62 =>
 rdS S (fun w => ldN 32 t6 w.heap) fun t63 =>
 rdS S (fun w => ldN 34 t3 w.heap) fun t64 =>
 efS S (cal P Ge [t64]) w fun t65 w =>
 efC (fun w K => efU P (Instr.mapUpdate AT t62 t63 t65) w (K undef)) w fun S _ w =>
 drH w fun S w =>
 nilc t0 fun t68 =>
 fad 36 t68 fun t69 =>
 rdS S (fun w => ld1 t69 w.heap) fun t70 =>
 rdS S (fun w => ldN 32 t6 w.heap) fun t71 =>
 efS S (efP P (Instr.buildSlice Ax 1 #[(0, t71)])) w fun t72 w =>
 efC (efP P (Builtin.append_ #[Ax, Ax] Ax #[t70, t72])) w fun S t73 w =>
 nilc t0 fun t74 =>
 fad 36 t74 fun t75 =>
 efC (fun w K => st1 t75 t73 w (K undef)) w fun S _ w =>
 ldN 32 t6 w.heap fun t76 =>
 stN 32 t4 t76 w fun w =>
 ldN 32 t4 w.heap fun r7 =>
 R (.tuple #[r7, (.int .i64 0)]) w)))))
theorem Vb : kO Tryz.f84 Wt = true := by kernel_rfl
theorem Vq (h : SQ Q (MD t0 t1 w)) : cal P Da [t0, t1] w Q := sO Tryz.func84 rfl (by kernel_rfl) Vb (by kernel_rfl) h
def AeA : An := (An.s (An.r []) (An.s (An.s (An.r []) (An.s (An.r []) (An.s (An.s (An.r []) An.o) An.o))) (An.s (An.b (An.s (An.r []) (An.s (An.s (An.r []) An.o) (An.s (An.r []) (An.s (An.s (An.r []) An.o) An.o))))) (An.s (An.r []) (An.s (An.r []) (An.s (An.r []) An.o))))))
def V5 (t0 t1 t2 : Value) (w : World) (R : KR) : Prop :=
 bx AZ t0 w fun t3 w =>
 bx Ak t1 w fun t4 w =>
 bx Aa t2 w fun t5 w =>
 efP P (Instr.alloc Ak true (.tuple #[])) w fun t6 w =>
 ldN 4 t3 w.heap fun t9 =>
 ldN 67 t4 w.heap fun t10 =>
 cal P GO [t9, t10] w fun t11 w =>
 bi .neq t11 (.int .i64 0) fun t13 =>
 cnd t13
 (rdP P (Instr.build Ak #[]) w fun t14 =>
 stN 67 t6 t14 w fun w =>
 ldN 67 t6 w.heap fun r0 =>
 R (.tuple #[r0, t11]) w)
 (ldN 67 t4 w.heap fun t17 =>
 ldN 32 t5 w.heap fun t18 =>
 cal P OD [t17, t18] w fun t19 w =>
 cnd t19
 (rdP P (Instr.build Ak #[]) w fun t20 =>
 stN 67 t6 t20 w fun w =>
 ldN 67 t6 w.heap fun r1 =>
 R (.tuple #[r1, (.int .i64 110)]) w)
 (fad 0 t4 fun t22 =>
 ld1 t22 w.heap fun t23 =>
 lenS t23 fun t24 =>
 bi .eql t24 (.int .i64 32) fun t25 =>
 cnd t25
 (rdP P (Instr.build Ak #[]) w fun t26 =>
 stN 67 t6 t26 w fun w =>
 ldN 67 t6 w.heap fun r2 =>
 R (.tuple #[r2, (.int .i64 6)]) w)
 (ldN 67 t4 w.heap fun t27 =>
 cal P IZ [t27] w fun t28 w =>
 stN 67 t4 t28 w fun w =>
 fad 0 t4 fun t29 =>
 ld1 t29 w.heap fun t30 =>
 ldN 32 t5 w.heap fun t31 =>
 rdP P (Instr.build BH #[(0, t31)]) w fun t32 =>
 efP P (Instr.buildSlice Bd 1 #[(0, t32)]) w fun t33 w =>
 efP P (Builtin.append_ #[Bd, Bd] Bd #[t30, t33]) w fun t34 w =>
 fad 0 t4 fun t35 =>
 st1 t35 t34 w fun w =>
 ldN 67 t4 w.heap fun t36 =>
 stN 67 t6 t36 w fun w =>
 ldN 67 t6 w.heap fun r3 =>
 R (.tuple #[r3, (.int .i64 0)]) w)))
theorem Aep : kO Tryz.f85 AeA = true := by kernel_rfl
theorem AeL (h : SQ Q (V5 t0 t1 t2 w)) : cal P Ob [t0, t1, t2] w Q := sO Tryz.func85 rfl (by kernel_rfl) Aep (by kernel_rfl) h
def Aei : An := (An.s (An.r []) (An.s (An.s (An.r []) (An.s (An.r []) (An.s (An.s (An.r []) An.o) An.o))) (An.s (An.r []) An.o)))
def Ws (t0 t1 : Value) (w : World) (R : KR) : Prop :=
 bx AZ t0 w fun t2 w =>
 bx Aa t1 w fun t3 w =>
 efP P (Instr.alloc Ak true (.tuple #[])) w fun t4 w =>
 ldN 4 t2 w.heap fun t7 =>
 cal P Gi [t7] w fun t8 w =>
 bi .neq t8 (.int .i64 0) fun t10 =>
 cnd t10
 (rdP P (Instr.build Ak #[]) w fun t11 =>
 stN 67 t4 t11 w fun w =>
 ldN 67 t4 w.heap fun r0 =>
 R (.tuple #[r0, t8]) w)
 (ldN 32 t3 w.heap fun t13 =>
 rdP P (Instr.build BH #[(0, t13)]) w fun t14 =>
 efP P (Instr.buildSlice Bd 1 #[(0, t14)]) w fun t15 w =>
 ldN 32 t3 w.heap fun t16 =>
 ldN 32 t3 w.heap fun t17 =>
 rdP P (Instr.build Ak #[(0, t15), (1, t16), (2, t17)]) w fun t18 =>
 stN 67 t4 t18 w fun w =>
 ldN 67 t4 w.heap fun r1 =>
 R (.tuple #[r1, (.int .i64 0)]) w)
theorem Ael : kO Tryz.f86 Aei = true := by kernel_rfl
theorem Ad6 (h : SQ Q (Ws t0 t1 w)) : cal P Od [t0, t1] w Q := sO Tryz.func86 rfl (by kernel_rfl) Ael (by kernel_rfl) h
def AcD : An := (An.s (An.r []) (An.s (An.r []) (An.s (An.s (An.r []) (An.b (An.l [3, 9] (An.s (An.r []) (An.s (An.s An.o An.o) (An.s (An.b (An.s (An.r []) (An.r []))) (An.r []))))))) (An.s (An.r []) An.o))))
def Tz (t0 : Value) (w : World) (R : KR) : Prop :=
 cal P K0 [t0] w fun t7 w =>
 lenS t7 fun t8 =>
 lp2 (.int .i64 0) (.int .i64 0) w fun _ t3 t9 w again0 =>
 bi .lss t9 t8 fun t10 =>
 cnd t10
 (ixs 33 t7 t9 fun t11 =>
 ldN 33 t11 w.heap fun t12 =>
 efP P (Instr.alloc BQ true (.tuple #[])) w fun t5 w =>
 stN 33 t5 t12 w fun w =>
 fad 32 t5 fun t14 =>
 ld1 t14 w.heap fun t15 =>
 bi .add t3 t15 fun t16 =>
 bi .add t9 (.int .i64 1) fun t17 =>
 again0 t16 t17 w)
 (R t3 w)
theorem AbR : kO Tryz.f87 AcD = true := by kernel_rfl
theorem Acl (h : SQ Q (Tz t0 w)) : cal P MH [t0] w Q := sO Tryz.func87 rfl (by kernel_rfl) AbR (by kernel_rfl) h
def UE : AnY := (AnY.s (AnY.c (An.r [])) (AnY.s (AnY.c (An.r [])) (AnY.s (AnY.c (An.r [])) (AnY.s (AnY.s (AnY.c (An.dc [0, 1, 2, 3, 4, 5] [5] [])) (AnY.b (AnY.f (AnY.c (An.r [])) (AnY.b (AnY.s (AnY.c (An.r [])) (AnY.s (AnY.c (An.r [[29], [31], [33], [36], [37]])) (AnY.s (AnY.c (An.r [])) AnY.o))))))) (AnY.s (AnY.c (An.d [0, 1, 2, 3] [])) AnY.o)))))
def LL (t0 t1 t2 : Value) (w : World) (R : KR) : Prop :=
 bx By t1 w fun t4 w =>
 bx Aa t2 w fun t5 w =>
 efP P (Instr.alloc Aa true (.tuple #[])) w fun t6 w =>
 efP P (Instr.alloc Aa true (.tuple #[])) w fun t8 w =>
 efP P (Instr.alloc CS true (.tuple #[])) w fun t9 w =>
 st1 t9 (.int .i64 0) w fun w =>
 drH w fun S w =>
 nilc t0 fun t13 =>
 fad 0 t13 fun t14 =>
 rdS S (fun w => ld1 t14 w.heap) fun t15 =>
 rdS S (fun w => ldN 32 t5 w.heap) fun t16 =>
 efC (cal P FX [t15, t16]) w fun S t17 w =>
 rng P t17 1 w (fun args0 w beg0 fin0 =>
 efP P (Instr.alloc Aa true (.tuple #[])) w fun t10 w =>
 stN 32 t10 (args0.getD 0 undef) w fun w =>
 beg0 w fun w =>
 ld1 t4 w.heap fun t19 =>
 ldN 32 t10 w.heap fun t20 =>
 rdP P (Instr.lookup By t19 t20 false) w fun t21 =>
 ld1 t9 w.heap fun t23 =>
 bi .gtr t21 t23 fun t24 =>
 jn1 (fun k1 =>
 gif t24 false
 (ld1 t9 w.heap fun t27 =>
 bi .eql t21 t27 fun t28 =>
 k1 t28 w)
 (k1 undef w)) fun _ t29 w =>
 jn1 (fun k2 =>
 gif t29 true
 (ld1 t9 w.heap fun t30 =>
 bi .gtr t30 (.int .i64 0) fun t31 =>
 k2 t31 w)
 (k2 undef w)) fun _ t31_1 w =>
 jn1 (fun k3 =>
 gif t24 false
 (pik t29 t31_1 (.bool false) fun t32 =>
 k3 t32 w)
 (k3 undef w)) fun _ t33 w =>
 jn1 (fun k4 =>
 gif t33 true
 (ldN 32 t10 w.heap fun t34 =>
 ldN 32 t8 w.heap fun t35 =>
 cal P K7 [t34, t35] w fun t36 w =>
 k4 t36 w)
 (k4 undef w)) fun _ t36_1 w =>
 jn1 (fun k5 =>
 gif t24 false
 (pik t33 t36_1 (.bool false) fun t37 =>
 k5 t37 w)
 (k5 undef w)) fun _ t37_1 w =>
 pik t24 (.bool true) t37_1 fun t38 =>
 cnd t38
 (ldN 32 t10 w.heap fun t39 =>
 stN 32 t8 t39 w fun w =>
 st1 t9 t21 w fun w =>
 fin0 none w)
 (fin0 none w)) fun D0 => [(none, fun w =>
 drH w fun S w =>
 rdS S (fun w => ldN 32 t8 w.heap) fun t41 =>
 rdS S (fun w => ld1 t9 w.heap) fun t42 =>
 efS S (fun w K => stN 32 t6 t41 w (K undef)) w fun _ w =>
 RP [D0] w fun w =>
 ldN 32 t6 w.heap fun r6 =>
 R (.tuple #[r6, t42]) w)]
theorem T9 : kOY Tryz.f88 UE = true := by kernel_rfl
theorem Um (h : SQ Q (LL t0 t1 t2 w)) : cal P Io [t0, t1, t2] w Q := sOY Tryz.func88 rfl (by kernel_rfl) T9 (by kernel_rfl) h
def AcJ : An := (An.s (An.r []) (An.s (An.s (An.r []) (An.s (An.r []) (An.s (An.s (An.r []) An.o) An.o))) (An.s (An.s (An.r [[27]]) (An.s (An.s (An.r []) An.o) An.o)) (An.s (An.r []) (An.s (An.s (An.r []) (An.s (An.s (An.r []) An.o) An.o)) (An.s (An.r []) (An.s (An.s (An.r []) (An.s (An.s (An.r []) An.o) An.o)) (An.s (An.r []) (An.s (An.s (An.r []) (An.b (An.s (An.j [12] (An.b (An.s (An.j [12] (An.b (An.s (An.b (An.s (An.s (An.s (An.r []) (An.s An.o An.o)) (An.s (An.r []) (An.s An.o An.o))) An.o)) (An.s (An.r []) (An.s (An.r []) (An.s (An.r []) An.o)))))) (An.s (An.r []) (An.s (An.r []) (An.s (An.j [] (An.s (An.d [0, 1, 2, 3, 4, 5, 6, 7, 8, 9, 10, 11, 12, 13] []) (An.s (An.r []) An.o))) (An.r []))))))) (An.s (An.s (An.r []) (An.r [])) An.o)))) (An.s (An.r []) An.o))))))))))
def Tf (t0 t1 t2 t3 : Value) (w : World) (R : KR) : Prop :=
 bx AZ t0 w fun t4 w =>
 bx Ak t1 w fun t5 w =>
 bx Aa t2 w fun t6 w =>
 efP P (Instr.alloc Ak true (.tuple #[])) w fun t8 w =>
 ldN 4 t4 w.heap fun t14 =>
 ldN 67 t5 w.heap fun t15 =>
 cal P GO [t14, t15] w fun t16 w =>
 bi .neq t16 (.int .i64 0) fun t18 =>
 cnd t18
 (rdP P (Instr.build Ak #[]) w fun t19 =>
 stN 67 t8 t19 w fun w =>
 ldN 67 t8 w.heap fun r0 =>
 R (.tuple #[r0, t16]) w)
 (bi .lss t3 (.int .i64 0) fun t22 =>
 jn1 (fun k1 =>
 gif t22 false
 (fad 0 t4 fun t25 =>
 ld1 t25 w.heap fun t26 =>
 bi .gtr t3 t26 fun t27 =>
 k1 t27 w)
 (k1 undef w)) fun _ t27_1 w =>
 pik t22 (.bool true) t27_1 fun t28 =>
 cnd t28
 (rdP P (Instr.build Ak #[]) w fun t29 =>
 stN 67 t8 t29 w fun w =>
 ldN 67 t8 w.heap fun r2 =>
 R (.tuple #[r2, (.int .i64 1)]) w)
 (ldN 67 t5 w.heap fun t30 =>
 ldN 32 t6 w.heap fun t31 =>
 cal P Eh [t30, t31] w fun t32 w =>
 bi .lss t32 (.int .i64 0) fun t34 =>
 cnd t34
 (rdP P (Instr.build Ak #[]) w fun t35 =>
 stN 67 t8 t35 w fun w =>
 ldN 67 t8 w.heap fun r3 =>
 R (.tuple #[r3, (.int .i64 4)]) w)
 (ldN 67 t5 w.heap fun t36 =>
 cal P IZ [t36] w fun t37 w =>
 stN 67 t5 t37 w fun w =>
 fad 66 t5 fun t38 =>
 ld1 t38 w.heap fun t39 =>
 cnd t39
 (ldN 67 t5 w.heap fun t40 =>
 stN 67 t8 t40 w fun w =>
 ldN 67 t8 w.heap fun r4 =>
 R (.tuple #[r4, (.int .i64 0)]) w)
 (ldN 4 t4 w.heap fun t41 =>
 cal P Lk [t41, t3] w fun t43 w =>
 jn1 (fun k5 =>
 jn1 (fun k6 =>
 bi .eql t43 (.int .i64 2) fun t45 =>
 cnd t45
 (ldN 32 t6 w.heap fun t48 =>
 fad 33 t5 fun t49 =>
 ldN 32 t49 w.heap fun t50 =>
 rdP P (eqS .eql Aa (Operand.tmp 48) (Operand.tmp 50) t48 t50) w fun t51 =>
 cnd t51
 (fad 65 t5 fun t52 =>
 ld1 t52 w.heap fun t53 =>
 bi .add t53 (.int .i64 1) fun t54 =>
 k6 t54 w)
 (k6 (.int .i64 1) w))
 (bi .eql t43 (.int .i64 1) fun t47 =>
 cnd t47
 (k6 (.int .i64 0) w)
 (k5 (.int .i64 0) w))) fun _ t12 w =>
 fad 0 t5 fun t55 =>
 ld1 t55 w.heap fun t56 =>
 ixs 33 t56 t32 fun t58 =>
 nilc t58 fun t61 =>
 fad 32 t61 fun t62 =>
 ld1 t62 w.heap fun t63 =>
 bi .add t63 (.int .i64 1) fun t64 =>
 rdP P (Builtin.min_ #[CS, CS] CS #[t64, (.int .i64 1073741824)]) w fun t65 =>
 nilc t58 fun t66 =>
 fad 32 t66 fun t67 =>
 st1 t67 t65 w fun w =>
 jn0 (fun k7 =>
 drH w fun S w =>
 nilc t58 fun t69 =>
 fad 32 t69 fun t70 =>
 rdS S (fun w => ld1 t70 w.heap) fun t71 =>
 fad 0 t5 fun t72 =>
 rdS S (fun w => ld1 t72 w.heap) fun t73 =>
 rdS S (fun w => ldN 67 t5 w.heap) fun t74 =>
 fad 1 t5 fun t75 =>
 rdS S (fun w => ldN 32 t75 w.heap) fun t76 =>
 efS S (cal P Eh [t74, t76]) w fun t77 w =>
 ixs 33 t73 t77 fun t78 =>
 fad 32 t78 fun t79 =>
 rdS S (fun w => ld1 t79 w.heap) fun t80 =>
 bi .gtr t71 t80 fun t81 =>
 cnd t81
 (ldN 32 t6 w.heap fun t82 =>
 fad 1 t5 fun t83 =>
 stN 32 t83 t82 w fun w =>
 k7 w)
 (k7 w)) fun _ w =>
 ldN 32 t6 w.heap fun t84 =>
 fad 33 t5 fun t85 =>
 stN 32 t85 t84 w fun w =>
 k5 t12 w) fun _ t12_1 w =>
 fad 65 t5 fun t87 =>
 st1 t87 t12_1 w fun w =>
 fad 3 t4 fun t89 =>
 ld1 t89 w.heap fun t90 =>
 bi .eql t12_1 t90 fun t91 =>
 fad 66 t5 fun t92 =>
 st1 t92 t91 w fun w =>
 ldN 67 t5 w.heap fun t93 =>
 stN 67 t8 t93 w fun w =>
 ldN 67 t8 w.heap fun r8 =>
 R (.tuple #[r8, (.int .i64 0)]) w))))
theorem AbK : kO Tryz.f89 AcJ = true := by kernel_rfl
theorem AcP (h : SQ Q (Tf t0 t1 t2 t3 w)) : cal P JH [t0, t1, t2, t3] w Q := sO Tryz.func89 rfl (by kernel_rfl) AbK (by kernel_rfl) h
def Sc : An := (An.s (An.r []) (An.s (An.s (An.r []) (An.b (An.l [] (An.s (An.r []) (An.s (An.s An.o An.o) (An.b (An.s (An.r []) (An.s (An.s (An.dc [0, 1, 2, 3, 4, 5, 6] [5] []) (An.s An.o An.o)) (An.s (An.j [] (An.s (An.r []) (An.s (An.s (An.dt (Pl.step 0 (Pl.step 1 (Pl.step 2 (Pl.step 3 (Pl.step 4 (Pl.br (Pl.alt 5 (Pl.step 6 (Pl.step 7 (Pl.step 8 (Pl.step 9 (Pl.step 10 (Pl.step 11 Pl.nil)))))) (Pl.alt 9 (Pl.step 5 (Pl.step 6 (Pl.step 7 (Pl.step 8 (Pl.step 10 (Pl.step 11 Pl.nil)))))) Pl.non)))))))) [5, 10] [7, 8]) (An.s (An.r []) (An.s (An.r []) An.o))) An.o))) (An.r [])))))))))) (An.r [])))
def KL (t0 t1 : Value) (w : World) (R : KR) : Prop :=
 efP P (Instr.makeMap A4 none) w fun t9 w =>
 nilc t0 fun t11 =>
 fad 5 t11 fun t12 =>
 ld1 t12 w.heap fun t13 =>
 efP P (Instr.range A4 t13) w fun t14 w =>
 lp0 w fun _ w again0 =>
 efP P (Instr.next t14 false T_) w fun t15 w =>
 ext 0 t15 fun t16 =>
 cnd t16
 (rdP P (Instr.entry t14) w fun t17 =>
 ext 0 t17 fun t18 =>
 ext 1 t17 fun t19 =>
 efP P (Instr.alloc Aa true (.tuple #[])) w fun t5 w =>
 efP P (Instr.alloc Ak true (.tuple #[])) w fun t6 w =>
 stN 32 t5 t18 w fun w =>
 stN 67 t6 t19 w fun w =>
 drH w fun S w =>
 nilc t0 fun t21 =>
 fad 0 t21 fun t22 =>
 rdS S (fun w => ld1 t22 w.heap) fun t23 =>
 rdS S (fun w => ldN 32 t5 w.heap) fun t24 =>
 efC (cal P Cz [t23, t24]) w fun S t25 w =>
 notB t25 fun t26 =>
 cnd t26
 (again0 w)
 (jn0 (fun k1 =>
 ldN 32 t5 w.heap fun t28 =>
 rdP P (Instr.lookup Fp t1 t28 false) w fun t29 =>
 notB t29 fun t30 =>
 cnd t30
 (drH w fun S w =>
 jn2 (fun k2 =>
 nilc t0 fun t33 =>
 fad 1 t33 fun t34 =>
 rdS S (fun w => ldN 4 t34 w.heap) fun t35 =>
 rdS S (fun w => ldN 67 t6 w.heap) fun t36 =>
 (efC (cal P JC [t35, t36]) w fun S t37_1 w =>
 ext 0 t37_1 fun t38_1 =>
 ext 1 t37_1 fun t39_1 =>
 efS S (efP P (Instr.alloc Ak true (.tuple #[]))) w fun t7_1 w =>
 efC (fun w K => stN 67 t7_1 t38_1 w (K undef)) w fun S _ w =>
 k2 t7_1 t39_1 w) ∧
 ((efS S (efP P (Instr.alloc Ak true (.tuple #[]))) w fun t7 w =>
 efC (cal P JC [t35, t36]) w fun S t37 w =>
 ext 0 t37 fun t38 =>
 ext 1 t37 fun t39 =>
 efC (fun w K => stN 67 t7 t38 w (K undef)) w fun S _ w =>
 k2 t7 t39 w) ∧
 (True))) fun _ t7_2 t8 w =>
 bi .eql t8 (.int .i64 0) fun t41 =>
 cnd t41
 (ldN 67 t7_2 w.heap fun t42 =>
 stN 67 t6 t42 w fun w =>
 k1 w)
 (k1 w))
 (k1 w)) fun _ w =>
 ldN 32 t5 w.heap fun t44 =>
 ldN 67 t6 w.heap fun t45 =>
 efU P (Instr.mapUpdate A4 t9 t44 t45) w fun w =>
 again0 w))
 (nilc t0 fun t48 =>
 fad 5 t48 fun t49 =>
 st1 t49 t9 w fun w =>
 R (.tuple #[]) w)
theorem Sa : kO Tryz.f90 Sc = true := by kernel_rfl
theorem RZ (h : SQ Q (KL t0 t1 w)) : cal P HA [t0, t1] w Q := sO Tryz.func90 rfl (by kernel_rfl) Sa (by kernel_rfl) h
def Y5 : An := (An.s (An.r []) (An.s (An.r []) (An.s (An.r []) An.o)))
def OX (t0 : Value) (w : World) (R : KR) : Prop :=
 bx Ao t0 w fun t1 w =>
 efP P (Instr.alloc Ao true (.tuple #[])) w fun t2 w =>
 fad 33 t1 fun t3 =>
 ld1 t3 w.heap fun t4 =>
 cal P Ga [t4] w fun t5 w =>
 fad 33 t1 fun t6 =>
 st1 t6 t5 w fun w =>
 ldN 34 t1 w.heap fun t7 =>
 stN 34 t2 t7 w fun w =>
 ldN 34 t2 w.heap fun r0 =>
 R r0 w
theorem YM : kO Tryz.f91 Y5 = true := by kernel_rfl
theorem Ze (h : SQ Q (OX t0 w)) : cal P Ge [t0] w Q := sO Tryz.func91 rfl (by kernel_rfl) YM (by kernel_rfl) h
def Aev : An := (An.s (An.r []) (An.s (An.r []) An.o))
def U2 (t0 t1 : Value) (w : World) (R : KR) : Prop :=
 bx Aa t0 w fun t2 w =>
 bx Aa t1 w fun t3 w =>
 ldN 32 t2 w.heap fun t5 =>
 ldN 32 t3 w.heap fun t6 =>
 cal P Km [t5, t6] w fun t7 w =>
 bi .lss t7 (.int .i64 0) fun t8 =>
 R t8 w
theorem Ad2 : kO Tryz.f92 Aev = true := by kernel_rfl
theorem AeQ (h : SQ Q (U2 t0 t1 w)) : cal P K7 [t0, t1] w Q := sO Tryz.func92 rfl (by kernel_rfl) Ad2 (by kernel_rfl) h
def Oq : AnY := (AnY.s (AnY.c (An.r [])) (AnY.s (AnY.c (An.r [])) (AnY.s (AnY.s (AnY.c (An.dc [0, 1, 2, 3, 4, 5] [5] [])) (AnY.b (AnY.f (AnY.c (An.r [])) (AnY.b (AnY.c (An.dc [0, 1, 2, 3, 4, 5] [5] [])))))) (AnY.s (AnY.c (An.r [])) (AnY.s (AnY.c (An.r [])) AnY.o)))))
def IX (t0 t1 t2 t3 t4 : Value) (w : World) (R : KR) : Prop :=
 bx Aa t0 w fun t5 w =>
 ld1 t1 w.heap fun t9 =>
 ldN 32 t5 w.heap fun t10 =>
 cal P MO [t9, t10] w fun t11 w =>
 efP P (Instr.alloc CS true (.tuple #[])) w fun t7 w =>
 st1 t7 t11 w fun w =>
 drH w fun S w =>
 rdS S (fun w => ld1 t2 w.heap) fun t12 =>
 nilc t12 fun t13 =>
 fad 0 t13 fun t14 =>
 rdS S (fun w => ld1 t14 w.heap) fun t15 =>
 rdS S (fun w => ldN 32 t5 w.heap) fun t16 =>
 efC (cal P FX [t15, t16]) w fun S t17 w =>
 rng P t17 1 w (fun args0 w beg0 fin0 =>
 efP P (Instr.alloc Aa true (.tuple #[])) w fun t8 w =>
 stN 32 t8 (args0.getD 0 undef) w fun w =>
 beg0 w fun w =>
 drH w fun S w =>
 rdS S (fun w => ld1 t7 w.heap) fun t19 =>
 rdS S (fun w => ld1 t3 w.heap) fun t20 =>
 rdS S (fun w => ldN 32 t8 w.heap) fun t21 =>
 efS S (calV P t20 [t21]) w fun t22 w =>
 bi .add t19 t22 fun t23 =>
 efC (fun w K => st1 t7 t23 w (K undef)) w fun S _ w =>
 fin0 none w) fun D0 => [(none, fun w =>
 ld1 t4 w.heap fun t24 =>
 ldN 32 t5 w.heap fun t25 =>
 ld1 t7 w.heap fun t26 =>
 efU P (Instr.mapUpdate By t24 t25 t26) w fun w =>
 ld1 t7 w.heap fun t27 =>
 RP [D0] w fun w =>
 R t27 w)]
theorem Ot : kOY Tryz.f93 Oq = true := by kernel_rfl
theorem Ol (h : SQ Q (IX t0 t1 t2 t3 t4 w)) : cal P C2 [t0, t1, t2, t3, t4] w Q := sOY Tryz.func93 rfl (by kernel_rfl) Ot (by kernel_rfl) h
def AcB : An := (An.s (An.r []) (An.s (An.s (An.r []) (An.b (An.l [10] (An.s (An.r []) (An.s (An.s An.o An.o) (An.s (An.b (An.s (An.r []) (An.s (An.r []) (An.s (An.s (An.r []) An.o) An.o)))) (An.r []))))))) (An.s (An.r []) An.o)))
def Ts (t0 t1 : Value) (w : World) (R : KR) : Prop :=
 bx Aa t1 w fun t3 w =>
 cal P K0 [t0] w fun t8 w =>
 lenS t8 fun t9 =>
 lp1 (.int .i64 0) w fun _ t10 w again0 =>
 bi .lss t10 t9 fun t11 =>
 cnd t11
 (ixs 33 t8 t10 fun t12 =>
 ldN 33 t12 w.heap fun t13 =>
 efP P (Instr.alloc BQ true (.tuple #[])) w fun t6 w =>
 stN 33 t6 t13 w fun w =>
 fad 0 t6 fun t14 =>
 ldN 32 t14 w.heap fun t15 =>
 ldN 32 t3 w.heap fun t16 =>
 rdP P (eqS .eql Aa (Operand.tmp 15) (Operand.tmp 16) t15 t16) w fun t17 =>
 cnd t17
 (fad 32 t6 fun t18 =>
 ld1 t18 w.heap fun t19 =>
 R t19 w)
 (bi .add t10 (.int .i64 1) fun t20 =>
 again0 t20 w))
 (R (.int .i64 0) w)
theorem Ac0 : kO Tryz.f94 AcB = true := by kernel_rfl
theorem Acf (h : SQ Q (Ts t0 t1 w)) : cal P MO [t0, t1] w Q := sO Tryz.func94 rfl (by kernel_rfl) Ac0 (by kernel_rfl) h
def YS : An := (An.s (An.r []) (An.s (An.r []) (An.s (An.s (An.r []) (An.b (An.l [3, 4] (An.s (An.s (An.r []) (An.s An.o An.o)) (An.s (An.b (An.s (An.s (An.d [0, 1, 2, 3, 4, 5, 6, 7, 8, 9, 10, 11, 12, 13, 14, 15, 16, 17, 18, 19, 20, 21, 22, 23, 24, 25, 26, 27, 28, 29, 30, 31, 32, 33] [[24], [29], [42], [43]]) (An.s (An.s (An.r []) An.o) An.o)) (An.r []))) (An.r [])))))) (An.s (An.r []) An.o))))
def OR (t0 : Value) (w : World) (R : KR) : Prop :=
 lp2 (.int .i64 1048576) (.int .i64 0) w fun _ t3 t4 w again0 =>
 lenS t0 fun t7 =>
 bi .lss t4 t7 fun t8 =>
 cnd t8
 (drH w fun S w =>
 ixs 33 t0 t4 fun t13 =>
 fad 32 t13 fun t14 =>
 rdS S (fun w => ld1 t14 w.heap) fun t15 =>
 bi .lss t15 (.int .i64 1) fun t16 =>
 jn1 (fun k1 =>
 gif t16 false
 (ixs 33 t0 t4 fun t20 =>
 fad 32 t20 fun t21 =>
 rdS S (fun w => ld1 t21 w.heap) fun t22 =>
 bi .gtr t22 t3 fun t24 =>
 k1 t24 w)
 (k1 undef w)) fun _ t24_1 w =>
 pik t16 (.bool true) t24_1 fun t25 =>
 jn1 (fun k2 =>
 gif t25 false
 (bi .gtr t4 (.int .i64 0) fun t28 =>
 k2 t28 w)
 (k2 undef w)) fun _ t29 w =>
 jn1 (fun k3 =>
 gif t29 true
 (bi .sub t4 (.int .i64 1) fun t32 =>
 ixs 33 t0 t32 fun t33 =>
 fad 0 t33 fun t34 =>
 rdS S (fun w => ldN 32 t34 w.heap) fun t35 =>
 ixs 33 t0 t4 fun t38 =>
 fad 0 t38 fun t39 =>
 rdS S (fun w => ldN 32 t39 w.heap) fun t40 =>
 efS S (cal P G8 [t35, t40]) w fun t41 w =>
 notB t41 fun t42 =>
 k3 t42 w)
 (k3 undef w)) fun _ t42_1 w =>
 jn1 (fun k4 =>
 gif t25 false
 (pik t29 t42_1 (.bool false) fun t43 =>
 k4 t43 w)
 (k4 undef w)) fun _ t43_1 w =>
 pik t25 (.bool true) t43_1 fun t44 =>
 cnd t44
 (R (.int .i64 70) w)
 (ixs 33 t0 t4 fun t48 =>
 fad 32 t48 fun t49 =>
 ld1 t49 w.heap fun t50 =>
 bi .sub t3 t50 fun t51 =>
 bi .add t4 (.int .i64 1) fun t10 =>
 again0 t51 t10 w))
 (R (.int .i64 0) w)
theorem YW : kO Tryz.f95 YS = true := by kernel_rfl
theorem Yy (h : SQ Q (OR t0 w)) : cal P EU [t0] w Q := sO Tryz.func95 rfl (by kernel_rfl) YW (by kernel_rfl) h
def Zf : An := (An.s (An.r []) (An.s (An.r []) (An.s (An.s (An.r []) (An.b (An.l [3, 4] (An.s (An.s (An.r [[12]]) (An.s An.o An.o)) (An.s (An.b (An.r [])) (An.r [])))))) (An.s (An.r []) An.o))))
def OH (t0 : Value) (w : World) (R : KR) : Prop :=
 lp2 (.int .i64 0) (.int .i64 0) w fun _ t3 t4 w again0 =>
 lenS t0 fun t7 =>
 bi .lss t4 t7 fun t8 =>
 jn1 (fun k1 =>
 gif t8 true
 (cal P EU [t0] w fun t11 w =>
 bi .eql t11 (.int .i64 0) fun t12 =>
 k1 t12 w)
 (k1 undef w)) fun _ t12_1 w =>
 pik t8 t12_1 (.bool false) fun t13 =>
 cnd t13
 (ixs 33 t0 t4 fun t19 =>
 fad 32 t19 fun t20 =>
 ld1 t20 w.heap fun t21 =>
 bi .add t3 t21 fun t22 =>
 bi .add t4 (.int .i64 1) fun t15 =>
 again0 t22 t15 w)
 (R t3 w)
theorem Zo : kO Tryz.f96 Zf = true := by kernel_rfl
theorem Yz (h : SQ Q (OH t0 w)) : cal P HY [t0] w Q := sO Tryz.func96 rfl (by kernel_rfl) Zo (by kernel_rfl) h
def AcM : An := (An.s (An.r []) (An.s (An.r []) (An.s (An.s (An.r []) (An.s (An.s (An.r []) An.o) An.o)) (An.s (An.r []) (An.s (An.b (An.l [8] (An.s (An.s (An.d [0, 1, 2, 3, 4, 5, 6, 7, 8, 9, 10, 11, 12] [[25]]) (An.s An.o An.o)) (An.b (An.r []))))) (An.s (An.r []) (An.s (An.j [2, 8] (An.s (An.r [[45]]) (An.s (An.s (An.r []) (An.r [])) An.o))) (An.s (An.dc [0, 1, 2, 3, 6, 7, 8, 4, 5, 9, 10] [4, 5, 9] []) An.o))))))))
def Tt (t0 t1 t2 : Value) (w : World) (R : KR) : Prop :=
 bx Aa t1 w fun t4 w =>
 bi .eql t2 (.int .i64 0) fun t10 =>
 cnd t10
 (efP P (Builtin.append_ #[Bg, Bg] Bg #[(.slice none 0 0), t0]) w fun t13 w =>
 R t13 w)
 (lp1 (.int .i64 0) w fun _ t8 w again0 =>
 drH w fun S w =>
 lenS t0 fun t16 =>
 bi .lss t8 t16 fun t17 =>
 jn1 (fun k1 =>
 gif t17 true
 (ixs 33 t0 t8 fun t21 =>
 fad 0 t21 fun t22 =>
 rdS S (fun w => ldN 32 t22 w.heap) fun t23 =>
 rdS S (fun w => ldN 32 t4 w.heap) fun t24 =>
 efS S (cal P G8 [t23, t24]) w fun t25 w =>
 k1 t25 w)
 (k1 undef w)) fun _ t25_1 w =>
 pik t17 t25_1 (.bool false) fun t26 =>
 cnd t26
 (bi .add t8 (.int .i64 1) fun t28 =>
 again0 t28 w)
 (slc 33 t0 none (some t8) fun t32 =>
 efP P (Builtin.append_ #[Bg, Bg] Bg #[(.slice none 0 0), t32]) w fun t33 w =>
 jn2 (fun k2 =>
 drw w fun w =>
 lenS t0 fun t36 =>
 bi .lss t8 t36 fun t37 =>
 jn1 (fun k3 =>
 gif t37 true
 (ixs 33 t0 t8 fun t41 =>
 fad 0 t41 fun t42 =>
 ldN 32 t42 w.heap fun t43 =>
 ldN 32 t4 w.heap fun t44 =>
 rdP P (eqS .eql Aa (Operand.tmp 43) (Operand.tmp 44) t43 t44) w fun t45 =>
 k3 t45 w)
 (k3 undef w)) fun _ t45_1 w =>
 pik t37 t45_1 (.bool false) fun t46 =>
 cnd t46
 (ixs 33 t0 t8 fun t50 =>
 fad 32 t50 fun t51 =>
 ld1 t51 w.heap fun t52 =>
 bi .add t2 t52 fun t53 =>
 bi .add t8 (.int .i64 1) fun t55 =>
 k2 t53 t55 w)
 (k2 t2 t8 w)) fun _ t2_1 t8_1 w =>
 drH w fun S w =>
 rdS S (fun w => ldN 32 t4 w.heap) fun t57 =>
 rdS S (rdP P (Instr.build BQ #[(0, t57), (1, t2_1)])) fun t59 =>
 slc 33 t0 (some t8_1) none fun t64 =>
 efC (efP P (Instr.buildSlice Bg 1 #[(0, t59)])) w fun S t60 w =>
 efC (efP P (Builtin.append_ #[Bg, Bg] Bg #[t33, t60])) w fun S t61 w =>
 efC (efP P (Builtin.append_ #[Bg, Bg] Bg #[t61, t64])) w fun S t65 w =>
 R t65 w))
theorem AcG : kO Tryz.f97 AcM = true := by kernel_rfl
theorem Ab1 (h : SQ Q (Tt t0 t1 t2 w)) : cal P M5 [t0, t1, t2] w Q := sO Tryz.func97 rfl (by kernel_rfl) AcG (by kernel_rfl) h
def AbT : An := (An.s (An.r []) (An.s (An.r []) An.o))
def TB (t0 : Value) (w : World) (R : KR) : Prop :=
 bx Ax t0 w fun t1 w =>
 R (.func (Fn.func Gf) #[] #[t1]) w
theorem Acw : kO Tryz.f98 AbT = true := by kernel_rfl
theorem Acj (h : SQ Q (TB t0 w)) : cal P Jz [t0] w Q := sO Tryz.func98 rfl (by kernel_rfl) Acw (by kernel_rfl) h
def Ql : An := (An.s (An.r []) (An.s (An.r []) An.o))
def JU (t0 t1 t2 : Value) (w : World) (R : KR) : Prop :=
 bx Aa t0 w fun t3 w =>
 drw w fun w =>
 ld1 t1 w.heap fun t5 =>
 nilc t5 fun t6 =>
 fad 35 t6 fun t7 =>
 ld1 t7 w.heap fun t8 =>
 ldN 32 t3 w.heap fun t9 =>
 rdP P (Instr.lookup AT t8 t9 false) w fun t10 =>
 fldv 0 32 true t10 fun t11 =>
 ldN 32 t2 w.heap fun t12 =>
 rdP P (eqS .eql Aa (Operand.tmp 11) (Operand.tmp 12) t11 t12) w fun t13 =>
 R t13 w
theorem QS : kO Tryz.f99 Ql = true := by kernel_rfl
theorem Rp (h : SQ Q (JU t0 t1 t2 w)) : cal P GQ [t0, t1, t2] w Q := sO Tryz.func99 rfl (by kernel_rfl) QS (by kernel_rfl) h
def WT : An := (An.s (An.r []) (An.s (An.s (An.r [[9], [14], [21], [28], [38], [43], [48]]) (An.s (An.s (An.r []) An.o) An.o)) (An.s (An.r []) An.o)))
def NH (t0 : Value) (w : World) (R : KR) : Prop :=
 bx AZ t0 w fun t1 w =>
 fad 0 t1 fun t3 =>
 ld1 t3 w.heap fun t4 =>
 bi .lss t4 (.int .i64 1) fun t5 =>
 jn1 (fun k0 =>
 gif t5 false
 (fad 0 t1 fun t7 =>
 ld1 t7 w.heap fun t8 =>
 bi .gtr t8 (.int .i64 64) fun t9 =>
 k0 t9 w)
 (k0 undef w)) fun _ t9_1 w =>
 pik t5 (.bool true) t9_1 fun t10 =>
 jn1 (fun k1 =>
 gif t10 false
 (fad 1 t1 fun t12 =>
 ld1 t12 w.heap fun t13 =>
 bi .lss t13 (.int .i64 1) fun t14 =>
 k1 t14 w)
 (k1 undef w)) fun _ t14_1 w =>
 pik t10 (.bool true) t14_1 fun t15 =>
 jn1 (fun k2 =>
 gif t15 false
 (fad 1 t1 fun t17 =>
 ld1 t17 w.heap fun t18 =>
 fad 2 t1 fun t19 =>
 ld1 t19 w.heap fun t20 =>
 bi .gtr t18 t20 fun t21 =>
 k2 t21 w)
 (k2 undef w)) fun _ t21_1 w =>
 pik t15 (.bool true) t21_1 fun t22 =>
 jn1 (fun k3 =>
 gif t22 false
 (fad 2 t1 fun t24 =>
 ld1 t24 w.heap fun t25 =>
 fad 0 t1 fun t26 =>
 ld1 t26 w.heap fun t27 =>
 bi .gtr t25 t27 fun t28 =>
 k3 t28 w)
 (k3 undef w)) fun _ t28_1 w =>
 pik t22 (.bool true) t28_1 fun t29 =>
 jn1 (fun k4 =>
 gif t29 false
 (fad 1 t1 fun t31 =>
 ld1 t31 w.heap fun t32 =>
 fad 0 t1 fun t33 =>
 ld1 t33 w.heap fun t34 =>
 fad 1 t1 fun t35 =>
 ld1 t35 w.heap fun t36 =>
 bi .sub t34 t36 fun t37 =>
 bi .leq t32 t37 fun t38 =>
 k4 t38 w)
 (k4 undef w)) fun _ t38_1 w =>
 pik t29 (.bool true) t38_1 fun t39 =>
 jn1 (fun k5 =>
 gif t39 false
 (fad 3 t1 fun t41 =>
 ld1 t41 w.heap fun t42 =>
 bi .lss t42 (.int .i64 1) fun t43 =>
 k5 t43 w)
 (k5 undef w)) fun _ t43_1 w =>
 pik t39 (.bool true) t43_1 fun t44 =>
 jn1 (fun k6 =>
 gif t44 false
 (fad 3 t1 fun t46 =>
 ld1 t46 w.heap fun t47 =>
 bi .gtr t47 (.int .i64 1000) fun t48 =>
 k6 t48 w)
 (k6 undef w)) fun _ t48_1 w =>
 pik t44 (.bool true) t48_1 fun t49 =>
 cnd t49
 (R (.int .i64 170) w)
 (R (.int .i64 0) w)
theorem W0 : kO Tryz.f100 WT = true := by kernel_rfl
theorem Xi (h : SQ Q (NH t0 w)) : cal P FE [t0] w Q := sO Tryz.func100 rfl (by kernel_rfl) W0 (by kernel_rfl) h
def Acp : An := (An.s (An.r []) (An.s (An.s (An.r [[12], [16]]) (An.s (An.s (An.r []) An.o) An.o)) (An.s (An.r []) An.o)))
def S0 (t0 t1 t2 : Value) (w : World) (R : KR) : Prop :=
 bx Aa t0 w fun t3 w =>
 bi .lss t1 (.int .i64 0) fun t9 =>
 jn1 (fun k0 =>
 gif t9 false
 (bi .lss t2 (.int .i64 1) fun t12 =>
 k0 t12 w)
 (k0 undef w)) fun _ t12_1 w =>
 pik t9 (.bool true) t12_1 fun t13 =>
 jn1 (fun k1 =>
 gif t13 false
 (bi .gtr t2 (.int .i64 256) fun t16 =>
 k1 t16 w)
 (k1 undef w)) fun _ t16_1 w =>
 pik t13 (.bool true) t16_1 fun t17 =>
 cnd t17
 (R (.tuple #[(.pointer none), (.int .i64 1)]) w)
 (ldN 32 t3 w.heap fun t18 =>
 rdP P (Instr.build BZ #[(0, t18), (1, t1), (2, t2)]) w fun t21 =>
 bx BZ t21 w fun t22 w =>
 R (.tuple #[t22, (.int .i64 0)]) w)
theorem Acc : kO Tryz.f101 Acp = true := by kernel_rfl
theorem Acr (h : SQ Q (S0 t0 t1 t2 w)) : cal P MY [t0, t1, t2] w Q := sO Tryz.func101 rfl (by kernel_rfl) Acc (by kernel_rfl) h
def Qy : An := (An.s (An.r []) (An.s (An.s (An.r []) (An.b (An.l [5] (An.s (An.s (An.r []) (An.s An.o An.o)) (An.s (An.b (An.s (An.r []) (An.s (An.s (An.r []) An.o) An.o))) (An.r [])))))) (An.s (An.r []) An.o)))
def JN (t0 t1 : Value) (w : World) (R : KR) : Prop :=
 bx Aa t1 w fun t3 w =>
 lp1 (.int .i64 0) w fun _ t5 w again0 =>
 nilc t0 fun t8 =>
 fad 5 t8 fun t9 =>
 ld1 t9 w.heap fun t10 =>
 lenS t10 fun t11 =>
 bi .lss t5 t11 fun t12 =>
 cnd t12
 (drw w fun w =>
 nilc t0 fun t16 =>
 fad 5 t16 fun t17 =>
 ld1 t17 w.heap fun t18 =>
 ixs 99 t18 t5 fun t20 =>
 fad 0 t20 fun t21 =>
 ldN 32 t21 w.heap fun t22 =>
 ldN 32 t3 w.heap fun t23 =>
 rdP P (eqS .eql Aa (Operand.tmp 22) (Operand.tmp 23) t22 t23) w fun t24 =>
 cnd t24
 (R t5 w)
 (bi .add t5 (.int .i64 1) fun t14 =>
 again0 t14 w))
 (R (.int .i64 (-1)) w)
theorem QF : kO Tryz.f102 Qy = true := by kernel_rfl
theorem Q8 (h : SQ Q (JN t0 t1 w)) : cal P CZ [t0, t1] w Q := sO Tryz.func102 rfl (by kernel_rfl) QF (by kernel_rfl) h
def Vi : An := (An.s (An.r []) (An.s (An.s (An.r []) (An.s (An.s (An.r []) An.o) An.o)) (An.s (An.r []) An.o)))
def Mr (t0 : Value) (w : World) (R : KR) : Prop :=
 bx Ak t0 w fun t1 w =>
 efP P (Instr.alloc Aa true (.tuple #[])) w fun t2 w =>
 fad 66 t1 fun t3 =>
 ld1 t3 w.heap fun t4 =>
 cnd t4
 (fad 33 t1 fun t5 =>
 ldN 32 t5 w.heap fun t6 =>
 stN 32 t2 t6 w fun w =>
 ldN 32 t2 w.heap fun r0 =>
 R r0 w)
 (fad 1 t1 fun t7 =>
 ldN 32 t7 w.heap fun t8 =>
 stN 32 t2 t8 w fun w =>
 ldN 32 t2 w.heap fun r1 =>
 R r1 w)
theorem WA : kO Tryz.f103 Vi = true := by kernel_rfl
theorem Vc (h : SQ Q (Mr t0 w)) : cal P GG [t0] w Q := sO Tryz.func103 rfl (by kernel_rfl) WA (by kernel_rfl) h
def R3 : An := (An.s (An.r []) (An.s (An.r []) (An.s (An.s (An.r [[29]]) (An.s (An.s (An.r []) An.o) An.o)) (An.s (An.r []) (An.s (An.r []) (An.s (An.s (An.r []) (An.b (An.l [7, 8, 9] (An.s (An.s (An.r []) (An.s An.o An.o)) (An.s (An.j [7, 8] (An.b (An.b (An.s (An.r []) (An.s An.o (An.s (An.dc [0, 1, 2, 3, 4, 5, 6, 7, 8, 9, 10, 11] [10] []) (An.s (An.r []) (An.r [])))))))) (An.r [])))))) (An.s (An.dc [0, 1, 2, 3, 4, 5, 6, 7, 8, 9, 10, 11, 12, 13, 14, 15, 16, 17, 18, 19, 20, 21, 22] [16, 19, 22] []) (An.s (An.r []) An.o))))))))
def KC (t0 t1 : Value) (w : World) (R : KR) : Prop :=
 bx Aa t1 w fun t3 w =>
 ldN 32 t3 w.heap fun t11 =>
 cal P CA [t0, t11] w fun t12 w =>
 drw w fun w =>
 bi .lss t12 (.int .i64 0) fun t14 =>
 jn1 (fun k0 =>
 gif t14 false
 (nilc t0 fun t17 =>
 fad 34 t17 fun t18 =>
 ld1 t18 w.heap fun t19 =>
 ixs 66 t19 t12 fun t21 =>
 fad 32 t21 fun t22 =>
 fad 0 t22 fun t23 =>
 ldN 32 t23 w.heap fun t24 =>
 nilc t0 fun t26 =>
 fad 0 t26 fun t27 =>
 ldN 32 t27 w.heap fun t28 =>
 rdP P (eqS .neq Aa (Operand.tmp 24) (Operand.tmp 28) t24 t28) w fun t29 =>
 k0 t29 w)
 (k0 undef w)) fun _ t29_1 w =>
 pik t14 (.bool true) t29_1 fun t30 =>
 cnd t30
 (R (.tuple #[(.slice none 0 0), (.int .i64 4)]) w)
 (lp3 (.slice none 0 0) (.slice none 0 0) (.int .i64 0) w fun _ t7 t8 t9 w again1 =>
 nilc t0 fun t33 =>
 fad 34 t33 fun t34 =>
 ld1 t34 w.heap fun t35 =>
 lenS t35 fun t36 =>
 bi .lss t9 t36 fun t37 =>
 cnd t37
 (jn2 (fun k2 =>
 bi .eql t9 t12 fun t54 =>
 cnd t54
 (k2 t7 t8 w)
 (drH w fun S w =>
 nilc t0 fun t58 =>
 fad 34 t58 fun t59 =>
 rdS S (fun w => ld1 t59 w.heap) fun t60 =>
 ixs 66 t60 t9 fun t62 =>
 fad 0 t62 fun t63 =>
 rdS S (fun w => ldN 32 t63 w.heap) fun t64 =>
 rdS S (fun w => ldN 32 t3 w.heap) fun t65 =>
 efC (cal P D6 [t0, t64, t65]) w fun S t66 w =>
 cnd t66
 (nilc t0 fun t69 =>
 fad 34 t69 fun t70 =>
 ld1 t70 w.heap fun t71 =>
 ixs 66 t71 t9 fun t73 =>
 ldN 66 t73 w.heap fun t74 =>
 efP P (Instr.buildSlice Bv 1 #[(0, t74)]) w fun t75 w =>
 efP P (Builtin.append_ #[Bv, Bv] Bv #[t8, t75]) w fun t76 w =>
 k2 t7 t76 w)
 (nilc t0 fun t42 =>
 fad 34 t42 fun t43 =>
 ld1 t43 w.heap fun t44 =>
 ixs 66 t44 t9 fun t46 =>
 fad 0 t46 fun t47 =>
 ldN 32 t47 w.heap fun t48 =>
 efP P (Instr.buildSlice Ax 1 #[(0, t48)]) w fun t49 w =>
 efP P (Builtin.append_ #[Ax, Ax] Ax #[t7, t49]) w fun t50 w =>
 k2 t50 t8 w))) fun _ t7_1 t8_1 w =>
 bi .add t9 (.int .i64 1) fun t39 =>
 again1 t7_1 t8_1 t39 w)
 (drH w fun S w =>
 rdS S (fun w => ldN 32 t3 w.heap) fun t80 =>
 nilc t0 fun t82 =>
 fad 34 t82 fun t83 =>
 rdS S (fun w => ld1 t83 w.heap) fun t84 =>
 ixs 66 t84 t12 fun t86 =>
 fad 32 t86 fun t87 =>
 fad 32 t87 fun t88 =>
 rdS S (fun w => ld1 t88 w.heap) fun t89 =>
 nilc t0 fun t91 =>
 fad 0 t91 fun t92 =>
 efC (fun w K => stN 32 t92 t80 w (K undef)) w fun S _ w =>
 nilc t0 fun t93 =>
 fad 32 t93 fun t94 =>
 efC (fun w K => st1 t94 t89 w (K undef)) w fun S _ w =>
 nilc t0 fun t95 =>
 fad 34 t95 fun t96 =>
 efC (fun w K => st1 t96 t8 w (K undef)) w fun S _ w =>
 R (.tuple #[t7, (.int .i64 0)]) w))
theorem SK : kO Tryz.f104 R3 = true := by kernel_rfl
theorem SJ (h : SQ Q (KC t0 t1 w)) : cal P HB [t0, t1] w Q := sO Tryz.func104 rfl (by kernel_rfl) SK (by kernel_rfl) h
def Sv : An := (An.s (An.r []) (An.s (An.dc [0, 1, 2, 3, 4, 5, 6] [5] []) (An.s (An.r []) (An.s (An.r []) (An.s (An.s (An.r []) (An.b (An.l [10, 11] (An.s (An.s (An.r []) (An.s An.o An.o)) (An.s (An.j [10] (An.b (An.s (An.r []) (An.s (An.d [0, 1, 2, 3, 4, 5, 6, 7, 8, 9, 10, 11, 12, 13, 14, 15, 16, 17, 18, 19] [[39], [41], [43], [49], [50]]) (An.s (An.s (An.r []) (An.r [])) An.o))))) (An.r [])))))) (An.s (An.r []) An.o))))))
def KE (t0 t1 t2 : Value) (w : World) (R : KR) : Prop :=
 bx Aa t2 w fun t5 w =>
 efP P (Instr.alloc Aa true (.tuple #[])) w fun t6 w =>
 drH w fun S w =>
 nilc t0 fun t14 =>
 fad 4 t14 fun t15 =>
 rdS S (fun w => ld1 t15 w.heap) fun t16 =>
 rdS S (fun w => ldN 32 t5 w.heap) fun t17 =>
 efC (cal P Hw [t16, t17]) w fun S t18 w =>
 efP P (Instr.alloc Aa true (.tuple #[])) w fun t9 w =>
 lp2 (.int .i64 0) (.int .i64 0) w fun _ t10 t11 w again0 =>
 lenS t18 fun t21 =>
 bi .lss t11 t21 fun t22 =>
 cnd t22
 (jn1 (fun k1 =>
 ixs 32 t18 t11 fun t29 =>
 ldN 32 t29 w.heap fun t30 =>
 cal P E9 [t0, t1, t30] w fun t31 w =>
 drH w fun S w =>
 bi .gtr t31 t10 fun t34 =>
 jn1 (fun k2 =>
 gif t34 false
 (bi .eql t31 t10 fun t38 =>
 k2 t38 w)
 (k2 undef w)) fun _ t39 w =>
 jn1 (fun k3 =>
 gif t39 true
 (bi .gtr t10 (.int .i64 0) fun t41 =>
 k3 t41 w)
 (k3 undef w)) fun _ t41_1 w =>
 jn1 (fun k4 =>
 gif t34 false
 (pik t39 t41_1 (.bool false) fun t42 =>
 k4 t42 w)
 (k4 undef w)) fun _ t43 w =>
 jn1 (fun k5 =>
 gif t43 true
 (ixs 32 t18 t11 fun t46 =>
 rdS S (fun w => ldN 32 t46 w.heap) fun t47 =>
 rdS S (fun w => ldN 32 t9 w.heap) fun t48 =>
 efS S (cal P G8 [t47, t48]) w fun t49 w =>
 k5 t49 w)
 (k5 undef w)) fun _ t49_1 w =>
 jn1 (fun k6 =>
 gif t34 false
 (pik t43 t49_1 (.bool false) fun t50 =>
 k6 t50 w)
 (k6 undef w)) fun _ t50_1 w =>
 pik t34 (.bool true) t50_1 fun t51 =>
 cnd t51
 (ixs 32 t18 t11 fun t54 =>
 ldN 32 t54 w.heap fun t55 =>
 stN 32 t9 t55 w fun w =>
 k1 t31 w)
 (k1 t10 w)) fun _ t10_1 w =>
 bi .add t11 (.int .i64 1) fun t24 =>
 again0 t10_1 t24 w)
 (ldN 32 t9 w.heap fun t57 =>
 stN 32 t6 t57 w fun w =>
 ldN 32 t6 w.heap fun r7 =>
 R (.tuple #[r7, t10]) w)
theorem So : kO Tryz.f105 Sv = true := by kernel_rfl
theorem SE (h : SQ Q (KE t0 t1 t2 w)) : cal P Hy [t0, t1, t2] w Q := sO Tryz.func105 rfl (by kernel_rfl) So (by kernel_rfl) h
def Aaq : An := (An.s (An.r []) (An.s (An.s (An.r []) (An.s (An.r []) (An.s (An.s (An.r []) An.o) An.o))) (An.s (An.s (An.r [[26]]) (An.s (An.s (An.r []) An.o) An.o)) (An.s (An.r []) (An.s (An.s (An.r []) (An.s (An.s (An.r []) An.o) An.o)) (An.s (An.s (An.r [[41]]) (An.s (An.s (An.r []) An.o) An.o)) (An.s (An.r []) (An.s (An.dc [0, 1, 2, 3, 4, 5, 6, 7, 8, 9, 10, 11, 12, 13] [13] []) (An.s (An.j [] (An.s (An.d [0, 1, 2, 3, 4, 5, 6, 7, 8, 9, 10, 11, 12, 13, 14, 15] []) (An.s (An.r []) An.o))) (An.s (An.j [] (An.s (An.r []) (An.s (An.r []) An.o))) (An.s (An.r []) (An.s (An.s (An.r []) (An.s (An.s (An.r []) (An.s (An.r []) An.o)) An.o)) (An.s (An.r []) (An.s (An.r []) (An.s (An.r []) An.o)))))))))))))))
def Qh (t0 t1 t2 t3 : Value) (w : World) (R : KR) : Prop :=
 bx AZ t0 w fun t4 w =>
 bx Ak t1 w fun t5 w =>
 bx Aa t2 w fun t6 w =>
 efP P (Instr.alloc Ak true (.tuple #[])) w fun t8 w =>
 ldN 4 t4 w.heap fun t13 =>
 ldN 67 t5 w.heap fun t14 =>
 cal P ER [t13, t14] w fun t15 w =>
 bi .neq t15 (.int .i64 0) fun t17 =>
 cnd t17
 (rdP P (Instr.build Ak #[]) w fun t18 =>
 stN 67 t8 t18 w fun w =>
 ldN 67 t8 w.heap fun r0 =>
 R (.tuple #[r0, t15]) w)
 (bi .lss t3 (.int .i64 0) fun t21 =>
 jn1 (fun k1 =>
 gif t21 false
 (fad 0 t4 fun t24 =>
 ld1 t24 w.heap fun t25 =>
 bi .gtr t3 t25 fun t26 =>
 k1 t26 w)
 (k1 undef w)) fun _ t26_1 w =>
 pik t21 (.bool true) t26_1 fun t27 =>
 cnd t27
 (rdP P (Instr.build Ak #[]) w fun t28 =>
 stN 67 t8 t28 w fun w =>
 ldN 67 t8 w.heap fun r2 =>
 R (.tuple #[r2, (.int .i64 1)]) w)
 (ldN 67 t5 w.heap fun t29 =>
 ldN 32 t6 w.heap fun t30 =>
 cal P Dl [t29, t30] w fun t31 w =>
 bi .lss t31 (.int .i64 0) fun t33 =>
 cnd t33
 (rdP P (Instr.build Ak #[]) w fun t34 =>
 stN 67 t8 t34 w fun w =>
 ldN 67 t8 w.heap fun r3 =>
 R (.tuple #[r3, (.int .i64 4)]) w)
 (fad 66 t5 fun t35 =>
 ld1 t35 w.heap fun t36 =>
 jn1 (fun k4 =>
 gif t36 false
 (fad 1 t4 fun t39 =>
 ld1 t39 w.heap fun t40 =>
 bi .lss t3 t40 fun t41 =>
 k4 t41 w)
 (k4 undef w)) fun _ t41_1 w =>
 pik t36 (.bool true) t41_1 fun t42 =>
 cnd t42
 (ldN 4 t4 w.heap fun t43 =>
 ldN 67 t5 w.heap fun t44 =>
 cal P I1 [t43, t44] w fun t45 w =>
 ext 0 t45 fun t46 =>
 ext 1 t45 fun t47 =>
 stN 67 t8 t46 w fun w =>
 ldN 67 t8 w.heap fun r5 =>
 R (.tuple #[r5, t47]) w)
 (ldN 67 t5 w.heap fun t48 =>
 cal P Eo [t48] w fun t49 w =>
 efP P (Instr.alloc Ak true (.tuple #[])) w fun t12 w =>
 stN 67 t12 t49 w fun w =>
 drH w fun S w =>
 fad 0 t12 fun t50 =>
 rdS S (fun w => ld1 t50 w.heap) fun t51 =>
 fad 0 t12 fun t53 =>
 rdS S (fun w => ld1 t53 w.heap) fun t54 =>
 ixs 33 t54 t31 fun t56 =>
 fad 32 t56 fun t57 =>
 rdS S (fun w => ld1 t57 w.heap) fun t58 =>
 bi .add t58 (.int .i64 1) fun t59 =>
 rdS S (rdP P (Builtin.min_ #[CS, CS] CS #[t59, (.int .i64 1073741824)])) fun t60 =>
 ixs 33 t51 t31 fun t61 =>
 fad 32 t61 fun t62 =>
 efC (fun w K => st1 t62 t60 w (K undef)) w fun S _ w =>
 jn0 (fun k6 =>
 drH w fun S w =>
 fad 0 t12 fun t63 =>
 rdS S (fun w => ld1 t63 w.heap) fun t64 =>
 ixs 33 t64 t31 fun t66 =>
 fad 32 t66 fun t67 =>
 rdS S (fun w => ld1 t67 w.heap) fun t68 =>
 fad 0 t12 fun t69 =>
 rdS S (fun w => ld1 t69 w.heap) fun t70 =>
 rdS S (fun w => ldN 67 t12 w.heap) fun t71 =>
 fad 1 t12 fun t72 =>
 rdS S (fun w => ldN 32 t72 w.heap) fun t73 =>
 efS S (cal P Dl [t71, t73]) w fun t74 w =>
 ixs 33 t70 t74 fun t75 =>
 fad 32 t75 fun t76 =>
 rdS S (fun w => ld1 t76 w.heap) fun t77 =>
 bi .gtr t68 t77 fun t78 =>
 cnd t78
 (ldN 32 t6 w.heap fun t79 =>
 fad 1 t12 fun t80 =>
 stN 32 t80 t79 w fun w =>
 k6 w)
 (k6 w)) fun _ w =>
 jn0 (fun k7 =>
 fad 33 t12 fun t81 =>
 ldN 32 t81 w.heap fun t82 =>
 ldN 32 t6 w.heap fun t83 =>
 rdP P (eqS .neq Aa (Operand.tmp 82) (Operand.tmp 83) t82 t83) w fun t84 =>
 cnd t84
 (fad 65 t12 fun t85 =>
 st1 t85 (.int .i64 0) w fun w =>
 k7 w)
 (k7 w)) fun _ w =>
 ldN 32 t6 w.heap fun t86 =>
 fad 33 t12 fun t87 =>
 stN 32 t87 t86 w fun w =>
 fad 2 t4 fun t89 =>
 ld1 t89 w.heap fun t90 =>
 bi .lss t3 t90 fun t91 =>
 cnd t91
 (fad 65 t12 fun t92 =>
 st1 t92 (.int .i64 0) w fun w =>
 ldN 67 t12 w.heap fun t93 =>
 stN 67 t8 t93 w fun w =>
 ldN 67 t8 w.heap fun r8 =>
 R (.tuple #[r8, (.int .i64 0)]) w)
 (fad 65 t12 fun t94 =>
 ld1 t94 w.heap fun t95 =>
 bi .add t95 (.int .i64 1) fun t96 =>
 fad 65 t12 fun t97 =>
 st1 t97 t96 w fun w =>
 fad 65 t12 fun t98 =>
 ld1 t98 w.heap fun t99 =>
 fad 3 t4 fun t100 =>
 ld1 t100 w.heap fun t101 =>
 bi .eql t99 t101 fun t102 =>
 fad 66 t12 fun t103 =>
 st1 t103 t102 w fun w =>
 ldN 67 t12 w.heap fun t104 =>
 stN 67 t8 t104 w fun w =>
 ldN 67 t8 w.heap fun r9 =>
 R (.tuple #[r9, (.int .i64 0)]) w)))))
theorem Aa5 : kO Tryz.f106 Aaq = true := by kernel_rfl
theorem ZQ (h : SQ Q (Qh t0 t1 t2 t3 w)) : cal P LI [t0, t1, t2, t3] w Q := sO Tryz.func106 rfl (by kernel_rfl) Aa5 (by kernel_rfl) h
def AeN : An := (An.s (An.r []) (An.s (An.s (An.r []) (An.b (An.l [5] (An.s (An.s (An.r []) (An.s An.o An.o)) (An.s (An.b (An.s (An.r []) (An.s (An.s (An.r []) An.o) An.o))) (An.r [])))))) (An.s (An.r []) An.o)))
def Vy (t0 t1 : Value) (w : World) (R : KR) : Prop :=
 bx Aa t1 w fun t3 w =>
 lp1 (.int .i64 0) w fun _ t5 w again0 =>
 lenS t0 fun t8 =>
 bi .lss t5 t8 fun t9 =>
 cnd t9
 (drw w fun w =>
 ixs 32 t0 t5 fun t14 =>
 ldN 32 t14 w.heap fun t15 =>
 ldN 32 t3 w.heap fun t16 =>
 rdP P (eqS .eql Aa (Operand.tmp 15) (Operand.tmp 16) t15 t16) w fun t17 =>
 cnd t17
 (R (.bool true) w)
 (bi .add t5 (.int .i64 1) fun t11 =>
 again0 t11 w))
 (R (.bool false) w)
theorem Aet : kO Tryz.f107 AeN = true := by kernel_rfl
theorem AdM (h : SQ Q (Vy t0 t1 w)) : cal P NT [t0, t1] w Q := sO Tryz.func107 rfl (by kernel_rfl) Aet (by kernel_rfl) h
def Aau : An := (An.s (An.r []) (An.s (An.s (An.r []) (An.s (An.r []) (An.s (An.s (An.r []) An.o) An.o))) (An.s (An.r []) (An.s (An.j [] (An.s (An.r []) (An.s (An.r []) An.o))) (An.s (An.r []) An.o)))))
def Rt (t0 t1 : Value) (w : World) (R : KR) : Prop :=
 bx AZ t0 w fun t2 w =>
 bx Ak t1 w fun t3 w =>
 efP P (Instr.alloc Ak true (.tuple #[])) w fun t4 w =>
 ldN 4 t2 w.heap fun t8 =>
 ldN 67 t3 w.heap fun t9 =>
 cal P ER [t8, t9] w fun t10 w =>
 bi .neq t10 (.int .i64 0) fun t12 =>
 cnd t12
 (rdP P (Instr.build Ak #[]) w fun t13 =>
 stN 67 t4 t13 w fun w =>
 ldN 67 t4 w.heap fun r0 =>
 R (.tuple #[r0, t10]) w)
 (ldN 67 t3 w.heap fun t15 =>
 cal P Eo [t15] w fun t16 w =>
 efP P (Instr.alloc Ak true (.tuple #[])) w fun t7 w =>
 stN 67 t7 t16 w fun w =>
 jn0 (fun k1 =>
 fad 66 t7 fun t17 =>
 ld1 t17 w.heap fun t18 =>
 notB t18 fun t19 =>
 cnd t19
 (fad 65 t7 fun t20 =>
 st1 t20 (.int .i64 0) w fun w =>
 k1 w)
 (k1 w)) fun _ w =>
 ldN 67 t7 w.heap fun t21 =>
 stN 67 t4 t21 w fun w =>
 ldN 67 t4 w.heap fun r2 =>
 R (.tuple #[r2, (.int .i64 0)]) w)
theorem Aa7 : kO Tryz.f108 Aau = true := by kernel_rfl
theorem Aac (h : SQ Q (Rt t0 t1 w)) : cal P I1 [t0, t1] w Q := sO Tryz.func108 rfl (by kernel_rfl) Aa7 (by kernel_rfl) h
def UH : An := (An.s (An.r []) (An.s (An.r []) (An.s (An.b (An.s (An.r []) (An.s (An.s (An.r []) An.o) (An.s (An.r []) (An.s (An.s (An.r []) An.o) (An.s (An.dc [0, 1, 2, 3, 4, 5, 6, 7, 8, 9, 10, 11, 12, 13, 15, 16, 17, 14, 18, 19, 20] [3] [[32], [42]]) (An.s (An.s (An.r []) An.o) (An.s (An.r []) (An.s (An.s (An.r []) An.o) An.o))))))))) (An.s (An.dc [0, 1, 2, 3, 4, 5, 6, 7, 8, 9, 10, 11, 12, 13] [10, 13] []) (An.s (An.r []) An.o)))))
def L3 (t0 t1 : Value) (w : World) (R : KR) : Prop :=
 bx Ao t1 w fun t3 w =>
 efP P (Instr.alloc Aa true (.tuple #[])) w fun t4 w =>
 ldN 34 t3 w.heap fun t9 =>
 cal P NU [t9] w fun t10 w =>
 ext 0 t10 fun t11 =>
 ext 1 t10 fun t12 =>
 efP P (Instr.alloc Aa true (.tuple #[])) w fun t6 w =>
 stN 32 t6 t11 w fun w =>
 bi .neq t12 (.int .i64 0) fun t15 =>
 cnd t15
 (rdP P (Instr.build Aa #[]) w fun t16 =>
 stN 32 t4 t16 w fun w =>
 ldN 32 t4 w.heap fun r0 =>
 R (.tuple #[r0, t12]) w)
 (ldN 32 t6 w.heap fun t20 =>
 cal P CJ [t0, t20] w fun t21 w =>
 cnd t21
 (rdP P (Instr.build Aa #[]) w fun t22 =>
 stN 32 t4 t22 w fun w =>
 ldN 32 t4 w.heap fun r1 =>
 R (.tuple #[r1, (.int .i64 110)]) w)
 (drH w fun S w =>
 fad 0 t3 fun t25 =>
 rdS S (fun w => ldN 32 t25 w.heap) fun t26 =>
 efC (cal P CJ [t0, t26]) w fun S t27 w =>
 notB t27 fun t28 =>
 jn1 (fun k2 =>
 gif t28 false
 (fad 32 t3 fun t30 =>
 rdS S (fun w => ld1 t30 w.heap) fun t31 =>
 bi .lss t31 (.int .i64 1) fun t32 =>
 k2 t32 w)
 (k2 undef w)) fun _ t32_1 w =>
 pik t28 (.bool true) t32_1 fun t33 =>
 jn1 (fun k3 =>
 gif t33 false
 (fad 0 t3 fun t36 =>
 rdS S (fun w => ldN 32 t36 w.heap) fun t37 =>
 fad 32 t3 fun t39 =>
 rdS S (fun w => ld1 t39 w.heap) fun t40 =>
 bi .sub t40 (.int .i64 1) fun t41 =>
 efS S (cal P Gz [t0, t37]) w fun t38 w =>
 bi .neq t38 t41 fun t42 =>
 k3 t42 w)
 (k3 undef w)) fun _ t42_1 w =>
 pik t33 (.bool true) t42_1 fun t43 =>
 cnd t43
 (rdP P (Instr.build Aa #[]) w fun t44 =>
 stN 32 t4 t44 w fun w =>
 ldN 32 t4 w.heap fun r4 =>
 R (.tuple #[r4, (.int .i64 31)]) w)
 (drw w fun w =>
 nilc t0 fun t47 =>
 fad 34 t47 fun t48 =>
 ld1 t48 w.heap fun t49 =>
 lenS t49 fun t50 =>
 nilc t0 fun t52 =>
 fad 33 t52 fun t53 =>
 ld1 t53 w.heap fun t54 =>
 bi .geq t50 t54 fun t55 =>
 cnd t55
 (rdP P (Instr.build Aa #[]) w fun t56 =>
 stN 32 t4 t56 w fun w =>
 ldN 32 t4 w.heap fun r5 =>
 R (.tuple #[r5, (.int .i64 6)]) w)
 (drH w fun S w =>
 nilc t0 fun t59 =>
 fad 34 t59 fun t60 =>
 rdS S (fun w => ld1 t60 w.heap) fun t61 =>
 rdS S (fun w => ldN 32 t6 w.heap) fun t62 =>
 rdS S (fun w => ldN 34 t3 w.heap) fun t63 =>
 efS S (cal P F8 [t63]) w fun t64 w =>
 rdS S (rdP P (Instr.build CD #[(0, t62), (1, t64)])) fun t65 =>
 efS S (efP P (Instr.buildSlice Bv 1 #[(0, t65)])) w fun t66 w =>
 efC (efP P (Builtin.append_ #[Bv, Bv] Bv #[t61, t66])) w fun S t67 w =>
 nilc t0 fun t68 =>
 fad 34 t68 fun t69 =>
 efC (fun w K => st1 t69 t67 w (K undef)) w fun S _ w =>
 ldN 32 t6 w.heap fun t70 =>
 stN 32 t4 t70 w fun w =>
 ldN 32 t4 w.heap fun r6 =>
 R (.tuple #[r6, (.int .i64 0)]) w))))
theorem Uz : kO Tryz.f109 UH = true := by kernel_rfl
theorem Ue (h : SQ Q (L3 t0 t1 w)) : cal P Dq [t0, t1] w Q := sO Tryz.func109 rfl (by kernel_rfl) Uz (by kernel_rfl) h
def Ac4 : An := (An.s (An.r []) (An.s (An.s (An.r []) (An.s (An.r []) (An.s (An.s (An.r []) An.o) An.o))) (An.s (An.r []) An.o)))
def S7 (t0 t1 : Value) (w : World) (R : KR) : Prop :=
 bx AZ t0 w fun t2 w =>
 bx Aa t1 w fun t3 w =>
 efP P (Instr.alloc Ak true (.tuple #[])) w fun t4 w =>
 ldN 4 t2 w.heap fun t7 =>
 cal P FE [t7] w fun t8 w =>
 bi .neq t8 (.int .i64 0) fun t10 =>
 cnd t10
 (rdP P (Instr.build Ak #[]) w fun t11 =>
 stN 67 t4 t11 w fun w =>
 ldN 67 t4 w.heap fun r0 =>
 R (.tuple #[r0, t8]) w)
 (ldN 32 t3 w.heap fun t13 =>
 rdP P (Instr.build BH #[(0, t13)]) w fun t14 =>
 efP P (Instr.buildSlice Bd 1 #[(0, t14)]) w fun t15 w =>
 ldN 32 t3 w.heap fun t16 =>
 ldN 32 t3 w.heap fun t17 =>
 rdP P (Instr.build Ak #[(0, t15), (1, t16), (2, t17)]) w fun t18 =>
 stN 67 t4 t18 w fun w =>
 ldN 67 t4 w.heap fun r1 =>
 R (.tuple #[r1, (.int .i64 0)]) w)
theorem Ach : kO Tryz.f110 Ac4 = true := by kernel_rfl
theorem AcK (h : SQ Q (S7 t0 t1 w)) : cal P JD [t0, t1] w Q := sO Tryz.func110 rfl (by kernel_rfl) Ach (by kernel_rfl) h
def Ab7 : An := (An.s (An.r []) (An.s (An.b (An.s (An.r []) (An.s (An.s (An.r []) An.o) (An.s (An.r []) (An.s (An.s (An.r []) An.o) (An.s (An.r []) (An.s (An.s (An.r []) An.o) An.o))))))) (An.s (An.r []) (An.s (An.r []) (An.s (An.r []) An.o)))))
def Tk (t0 t1 t2 : Value) (w : World) (R : KR) : Prop :=
 bx AZ t0 w fun t3 w =>
 bx Ak t1 w fun t4 w =>
 bx Aa t2 w fun t5 w =>
 efP P (Instr.alloc Ak true (.tuple #[])) w fun t6 w =>
 ldN 4 t3 w.heap fun t10 =>
 ldN 67 t4 w.heap fun t11 =>
 cal P ER [t10, t11] w fun t12 w =>
 bi .neq t12 (.int .i64 0) fun t13 =>
 cnd t13
 (rdP P (Instr.build Ak #[]) w fun t14 =>
 ldN 4 t3 w.heap fun t15 =>
 ldN 67 t4 w.heap fun t16 =>
 cal P ER [t15, t16] w fun t17 w =>
 stN 67 t6 t14 w fun w =>
 ldN 67 t6 w.heap fun r0 =>
 R (.tuple #[r0, t17]) w)
 (ldN 67 t4 w.heap fun t19 =>
 ldN 32 t5 w.heap fun t20 =>
 cal P Dl [t19, t20] w fun t21 w =>
 bi .geq t21 (.int .i64 0) fun t22 =>
 cnd t22
 (rdP P (Instr.build Ak #[]) w fun t23 =>
 stN 67 t6 t23 w fun w =>
 ldN 67 t6 w.heap fun r1 =>
 R (.tuple #[r1, (.int .i64 110)]) w)
 (fad 0 t4 fun t25 =>
 ld1 t25 w.heap fun t26 =>
 lenS t26 fun t27 =>
 bi .geq t27 (.int .i64 32) fun t28 =>
 cnd t28
 (rdP P (Instr.build Ak #[]) w fun t29 =>
 stN 67 t6 t29 w fun w =>
 ldN 67 t6 w.heap fun r2 =>
 R (.tuple #[r2, (.int .i64 6)]) w)
 (ldN 67 t4 w.heap fun t30 =>
 cal P Eo [t30] w fun t31 w =>
 efP P (Instr.alloc Ak true (.tuple #[])) w fun t8 w =>
 stN 67 t8 t31 w fun w =>
 fad 0 t8 fun t32 =>
 ld1 t32 w.heap fun t33 =>
 ldN 32 t5 w.heap fun t34 =>
 rdP P (Instr.build BH #[(0, t34)]) w fun t35 =>
 efP P (Instr.buildSlice Bd 1 #[(0, t35)]) w fun t36 w =>
 efP P (Builtin.append_ #[Bd, Bd] Bd #[t33, t36]) w fun t37 w =>
 fad 0 t8 fun t38 =>
 st1 t38 t37 w fun w =>
 ldN 67 t8 w.heap fun t39 =>
 stN 67 t6 t39 w fun w =>
 ldN 67 t6 w.heap fun r3 =>
 R (.tuple #[r3, (.int .i64 0)]) w)))
theorem AbS : kO Tryz.f111 Ab7 = true := by kernel_rfl
theorem Acb (h : SQ Q (Tk t0 t1 t2 w)) : cal P MM [t0, t1, t2] w Q := sO Tryz.func111 rfl (by kernel_rfl) AbS (by kernel_rfl) h
def Q9 : An := (An.s (An.r []) (An.s (An.s (An.r []) (An.b (An.l [5] (An.s (An.s (An.r []) (An.s An.o An.o)) (An.s (An.b (An.s (An.r []) (An.s (An.s (An.r []) An.o) An.o))) (An.r [])))))) (An.s (An.r []) An.o)))
def JX (t0 t1 : Value) (w : World) (R : KR) : Prop :=
 bx Aa t1 w fun t3 w =>
 lp1 (.int .i64 0) w fun _ t5 w again0 =>
 nilc t0 fun t8 =>
 fad 34 t8 fun t9 =>
 ld1 t9 w.heap fun t10 =>
 lenS t10 fun t11 =>
 bi .lss t5 t11 fun t12 =>
 cnd t12
 (drw w fun w =>
 nilc t0 fun t16 =>
 fad 34 t16 fun t17 =>
 ld1 t17 w.heap fun t18 =>
 ixs 66 t18 t5 fun t20 =>
 fad 0 t20 fun t21 =>
 ldN 32 t21 w.heap fun t22 =>
 ldN 32 t3 w.heap fun t23 =>
 rdP P (eqS .eql Aa (Operand.tmp 22) (Operand.tmp 23) t22 t23) w fun t24 =>
 cnd t24
 (R t5 w)
 (bi .add t5 (.int .i64 1) fun t14 =>
 again0 t14 w))
 (R (.int .i64 (-1)) w)
theorem Qf : kO Tryz.f112 Q9 = true := by kernel_rfl
theorem Qb (h : SQ Q (JX t0 t1 w)) : cal P CA [t0, t1] w Q := sO Tryz.func112 rfl (by kernel_rfl) Qf (by kernel_rfl) h
def O4 : An := (An.s (An.r []) (An.s (An.s (An.r []) (An.s (An.s (An.r []) An.o) An.o)) (An.s (An.r []) (An.s (An.s (An.r []) (An.b (An.l [8] (An.s (An.s (An.r []) (An.s An.o An.o)) (An.s (An.b (An.s (An.r []) (An.s (An.s (An.r []) An.o) An.o))) (An.r [])))))) (An.s (An.r []) An.o)))))
def Je (t0 t1 t2 : Value) (w : World) (R : KR) : Prop :=
 bx Aa t1 w fun t4 w =>
 bx Aa t2 w fun t5 w =>
 ldN 32 t4 w.heap fun t10 =>
 cal P CJ [t0, t10] w fun t11 w =>
 notB t11 fun t12 =>
 cnd t12
 (R (.bool false) w)
 (ldN 32 t4 w.heap fun t14 =>
 cal P Fj [t0, t14] w fun t15 w =>
 lp1 (.int .i64 0) w fun _ t8 w again0 =>
 lenS t15 fun t18 =>
 bi .lss t8 t18 fun t19 =>
 cnd t19
 (drw w fun w =>
 ixs 32 t15 t8 fun t24 =>
 ldN 32 t24 w.heap fun t25 =>
 ldN 32 t5 w.heap fun t26 =>
 rdP P (eqS .eql Aa (Operand.tmp 25) (Operand.tmp 26) t25 t26) w fun t27 =>
 cnd t27
 (R (.bool true) w)
 (bi .add t8 (.int .i64 1) fun t21 =>
 again0 t21 w))
 (drw w fun w =>
 ldN 32 t5 w.heap fun t28 =>
 nilc t0 fun t30 =>
 fad 0 t30 fun t31 =>
 ldN 32 t31 w.heap fun t32 =>
 rdP P (eqS .eql Aa (Operand.tmp 28) (Operand.tmp 32) t28 t32) w fun t33 =>
 R t33 w))
theorem Pm : kO Tryz.f113 O4 = true := by kernel_rfl
theorem O1 (h : SQ Q (Je t0 t1 t2 w)) : cal P D6 [t0, t1, t2] w Q := sO Tryz.func113 rfl (by kernel_rfl) Pm (by kernel_rfl) h
end Go.Fx
