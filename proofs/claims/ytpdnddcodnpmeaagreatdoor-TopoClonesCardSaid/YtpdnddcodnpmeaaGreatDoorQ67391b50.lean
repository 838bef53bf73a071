/-
  The readings, part 2.
-/
import Derived.Test.YtpdnddcodnpmeaaGreatDoorQ3ba871d2
import Derived.Test.YtpdnddcodnpmeaaGreatDoorQ7b5fe899
import Derived.Test.YtpdnddcodnpmeaaGreatDoorQ52f385ea
set_option linter.unusedVariables false
set_option maxRecDepth 100000
namespace Go.Fx
open Go.Proofs
variable {t0 t1 t2 t3 t4 t5 t6 t7 t8 t9 : Value} {w : World} {Q : KR}
def SN : An := (An.s (An.r []) (An.s (An.s (An.r []) (An.s (An.s (An.dc [0, 1, 2, 3, 4, 5] [4] []) (An.s (An.r []) (An.s (An.r []) (An.s (An.r []) (An.s (An.r [[53], [58], [63]]) An.o))))) An.o)) (An.s (An.dt (Pl.step 0 (Pl.step 1 (Pl.step 2 (Pl.step 3 (Pl.br (Pl.alt 4 (Pl.step 5 (Pl.step 6 Pl.nil)) (Pl.alt 5 (Pl.step 4 (Pl.step 6 Pl.nil)) Pl.non))))))) [4, 6] [13]) (An.s (An.dt (Pl.step 0 (Pl.step 1 (Pl.step 2 (Pl.step 3 (Pl.step 4 (Pl.br (Pl.alt 5 (Pl.step 6 (Pl.step 7 (Pl.step 8 (Pl.step 9 (Pl.step 10 (Pl.step 11 Pl.nil)))))) (Pl.alt 9 (Pl.step 5 (Pl.step 6 (Pl.step 7 (Pl.step 8 (Pl.step 10 (Pl.step 11 Pl.nil)))))) Pl.non)))))))) [5, 10] [14, 15]) (An.s (An.dt (Pl.step 0 (Pl.step 1 (Pl.step 2 (Pl.step 3 (Pl.step 4 (Pl.br (Pl.alt 5 (Pl.br (Pl.alt 6 (Pl.step 7 (Pl.step 8 (Pl.step 9 (Pl.step 10 (Pl.step 11 (Pl.step 12 Pl.nil)))))) (Pl.alt 10 (Pl.step 6 (Pl.step 7 (Pl.step 8 (Pl.step 9 (Pl.step 11 (Pl.step 12 Pl.nil)))))) Pl.non))) (Pl.alt 10 (Pl.step 5 (Pl.step 6 (Pl.step 7 (Pl.step 8 (Pl.step 9 (Pl.step 11 (Pl.step 12 Pl.nil))))))) Pl.non)))))))) [6, 11] [16, 17]) (An.s (An.j [] (An.s (An.r []) (An.s (An.dc [0, 1, 2, 3, 4, 5] [5] []) An.o))) (An.s (An.r [[103]]) An.o)))))))
def HJ (t0 t1 : Value) (w : World) (R : KR) : Prop :=
 bx Be t1 w fun t3 w =>
 fad 0 t3 fun t18 =>
 ld1 t18 w.heap fun t19 =>
 cnd t19
 (drH w fun S w =>
 nilc t0 fun t21 =>
 fad 2 t21 fun t22 =>
 rdS S (fun w => ldN 4 t3 w.heap) fun t23 =>
 efC (cal P Gy [t22, t23]) w fun S t24 w =>
 cal P Dp [t24] w fun t26 w =>
 nilc t0 fun t29 =>
 fad 0 t29 fun t30 =>
 ld1 t30 w.heap fun t31 =>
 cal P FY [t31, t24] w fun t33 w =>
 ext 0 t33 fun t34 =>
 ext 1 t33 fun t35 =>
 ext 2 t33 fun t36 =>
 nilc t0 fun t39 =>
 fad 1 t39 fun t40 =>
 ld1 t40 w.heap fun t41 =>
 cal P HL [t41, t26] w fun t43 w =>
 ext 0 t43 fun t44 =>
 ext 1 t43 fun t45 =>
 ext 2 t43 fun t46 =>
 cal P B8 [t34, t44] w fun t49 w =>
 jn1 (fun k0 =>
 gif t49 true
 (cal P B8 [t35, t45] w fun t53 w =>
 k0 t53 w)
 (k0 undef w)) fun _ t53_1 w =>
 pik t49 t53_1 (.bool false) fun t54 =>
 jn1 (fun k1 =>
 gif t54 true
 (bi .eql t36 t46 fun t58 =>
 k1 t58 w)
 (k1 undef w)) fun _ t58_1 w =>
 pik t54 t58_1 (.bool false) fun t59 =>
 jn1 (fun k2 =>
 gif t59 true
 (cal P Do [t24, t26] w fun t63 w =>
 k2 t63 w)
 (k2 undef w)) fun _ t63_1 w =>
 pik t59 t63_1 (.bool false) fun t64 =>
 R t64 w)
 (drH w fun S w =>
 jn1 (fun k3 =>
 nilc t0 fun t66 =>
 fad 2 t66 fun t67 =>
 rdS S (fun w => ldN 4 t3 w.heap) fun t68 =>
 (efC (cal P EM [t67, t68]) w fun S t69_1 w =>
 efS S (efP P (Instr.alloc Ao true (.tuple #[]))) w fun t13_1 w =>
 efC (fun w K => stN 34 t13_1 t69_1 w (K undef)) w fun S _ w =>
 k3 t13_1 w) ∧
 ((efS S (efP P (Instr.alloc Ao true (.tuple #[]))) w fun t13 w =>
 efC (cal P EM [t67, t68]) w fun S t69 w =>
 efC (fun w K => stN 34 t13 t69 w (K undef)) w fun S _ w =>
 k3 t13 w) ∧
 (True))) fun _ t13_2 w =>
 drH w fun S w =>
 jn2 (fun k4 =>
 nilc t0 fun t72 =>
 fad 0 t72 fun t73 =>
 rdS S (fun w => ld1 t73 w.heap) fun t74 =>
 rdS S (fun w => ldN 34 t13_2 w.heap) fun t75 =>
 (efC (cal P El [t74, t75]) w fun S t76_1 w =>
 ext 0 t76_1 fun t77_1 =>
 ext 1 t76_1 fun t78_1 =>
 efS S (efP P (Instr.alloc Aa true (.tuple #[]))) w fun t14_1 w =>
 efC (fun w K => stN 32 t14_1 t77_1 w (K undef)) w fun S _ w =>
 k4 t14_1 t78_1 w) ∧
 ((efS S (efP P (Instr.alloc Aa true (.tuple #[]))) w fun t14 w =>
 efC (cal P El [t74, t75]) w fun S t76 w =>
 ext 0 t76 fun t77 =>
 ext 1 t76 fun t78 =>
 efC (fun w K => stN 32 t14 t77 w (K undef)) w fun S _ w =>
 k4 t14 t78 w) ∧
 (True))) fun _ t14_2 t15 w =>
 drH w fun S w =>
 jn2 (fun k5 =>
 nilc t0 fun t81 =>
 fad 1 t81 fun t82 =>
 rdS S (fun w => ld1 t82 w.heap) fun t83 =>
 rdS S (fun w => ldN 34 t13_2 w.heap) fun t84 =>
 (efS S (cal P F8 [t84]) w fun t85_1 w =>
 (efC (cal P EF [t83, t85_1]) w fun S t86_2 w =>
 ext 0 t86_2 fun t87_2 =>
 ext 1 t86_2 fun t88_2 =>
 efS S (efP P (Instr.alloc Aa true (.tuple #[]))) w fun t16_2 w =>
 efC (fun w K => stN 32 t16_2 t87_2 w (K undef)) w fun S _ w =>
 k5 t16_2 t88_2 w) ∧
 ((efS S (efP P (Instr.alloc Aa true (.tuple #[]))) w fun t16_1 w =>
 efC (cal P EF [t83, t85_1]) w fun S t86_1 w =>
 ext 0 t86_1 fun t87_1 =>
 ext 1 t86_1 fun t88_1 =>
 efC (fun w K => stN 32 t16_1 t87_1 w (K undef)) w fun S _ w =>
 k5 t16_1 t88_1 w) ∧
 (True))) ∧
 ((efS S (efP P (Instr.alloc Aa true (.tuple #[]))) w fun t16 w =>
 efS S (cal P F8 [t84]) w fun t85 w =>
 efC (cal P EF [t83, t85]) w fun S t86 w =>
 ext 0 t86 fun t87 =>
 ext 1 t86 fun t88 =>
 efC (fun w K => stN 32 t16 t87 w (K undef)) w fun S _ w =>
 k5 t16 t88 w) ∧
 (True))) fun _ t16_3 t17 w =>
 jn0 (fun k6 =>
 bi .eql t15 (.int .i64 0) fun t90 =>
 cnd t90
 (drH w fun S w =>
 nilc t0 fun t92 =>
 fad 2 t92 fun t93 =>
 rdS S (fun w => ldN 32 t14_2 w.heap) fun t94 =>
 rdS S (fun w => ldN 34 t13_2 w.heap) fun t95 =>
 efC (cal P GV [t93, t94, t95]) w fun S t96 w =>
 k6 w)
 (k6 w)) fun _ w =>
 ldN 32 t14_2 w.heap fun t97 =>
 ldN 32 t16_3 w.heap fun t98 =>
 rdP P (eqS .eql Aa (Operand.tmp 97) (Operand.tmp 98) t97 t98) w fun t99 =>
 jn1 (fun k7 =>
 gif t99 true
 (bi .eql t15 t17 fun t103 =>
 k7 t103 w)
 (k7 undef w)) fun _ t103_1 w =>
 pik t99 t103_1 (.bool false) fun t104 =>
 R t104 w)
theorem SL : kO Tryz.f30 SN = true := by kernel_rfl
theorem KA (h : SQ Q (HJ t0 t1 w)) : cal P DQ [t0, t1] w Q := sO Tryz.func30 rfl (by kernel_rfl) SL (by kernel_rfl) h
end Go.Fx
