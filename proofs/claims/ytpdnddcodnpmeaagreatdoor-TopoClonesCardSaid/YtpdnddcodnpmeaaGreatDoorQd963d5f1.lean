/-
  The readings, part 3.
-/
import Derived.Test.YtpdnddcodnpmeaaGreatDoorQ67391b50
import Derived.Test.YtpdnddcodnpmeaaGreatDoorQ7b5fe899
import Derived.Test.YtpdnddcodnpmeaaGreatDoorQ52f385ea
import Derived.Test.YtpdnddcodnpmeaaGreatDoorQ3ba871d2
set_option linter.unusedVariables false
set_option maxRecDepth 100000
namespace Go.Fx
open Go.Proofs
variable {t0 t1 t2 t3 t4 t5 t6 t7 t8 t9 : Value} {w : World} {Q : KR}
def P2 : An := (An.s (An.r []) (An.s (An.r []) (An.s (An.s (An.d [0, 1, 2, 3, 4, 5, 6, 7, 8, 9, 10, 11, 12, 13, 14, 15, 16, 17, 18, 19, 20, 21, 22, 23, 24, 25, 26, 27, 28, 29, 30, 32, 33, 34, 35, 36, 37, 38, 39, 40, 41, 42, 31, 43, 44, 45, 46, 47, 48, 49, 51, 52, 53, 54, 50, 55, 56, 57] [[50], [69], [82]]) (An.s (An.s (An.r []) An.o) An.o)) (An.s (An.r []) (An.s (An.s (An.r []) (An.s (An.s (An.r []) An.o) An.o)) (An.s (An.s (An.r []) (An.b (An.l [101] (An.s (An.r []) (An.s (An.s An.o An.o) (An.s (An.b (An.s (An.r []) (An.s (An.dt (Pl.step 0 (Pl.step 1 (Pl.step 2 (Pl.step 3 (Pl.step 4 (Pl.br (Pl.alt 5 (Pl.step 6 (Pl.step 7 (Pl.step 8 (Pl.step 9 (Pl.step 10 (Pl.step 11 Pl.nil)))))) (Pl.alt 9 (Pl.step 5 (Pl.step 6 (Pl.step 7 (Pl.step 8 (Pl.step 10 (Pl.step 11 Pl.nil)))))) Pl.non)))))))) [5, 10] [10, 11]) (An.s (An.dt (Pl.step 0 (Pl.step 1 (Pl.step 2 (Pl.step 3 (Pl.step 4 (Pl.br (Pl.alt 5 (Pl.step 6 (Pl.step 7 (Pl.step 8 (Pl.step 9 (Pl.step 10 (Pl.step 11 Pl.nil)))))) (Pl.alt 9 (Pl.step 5 (Pl.step 6 (Pl.step 7 (Pl.step 8 (Pl.step 10 (Pl.step 11 Pl.nil)))))) Pl.non)))))))) [5, 10] [12, 13]) (An.s (An.dt (Pl.step 0 (Pl.step 1 (Pl.step 2 (Pl.step 3 (Pl.step 4 (Pl.br (Pl.alt 5 (Pl.step 6 (Pl.step 7 (Pl.step 8 (Pl.step 9 (Pl.step 10 (Pl.step 11 Pl.nil)))))) (Pl.alt 9 (Pl.step 5 (Pl.step 6 (Pl.step 7 (Pl.step 8 (Pl.step 10 (Pl.step 11 Pl.nil)))))) Pl.non)))))))) [5, 10] [14, 15]) (An.s (An.dt (Pl.step 0 (Pl.step 1 (Pl.step 2 (Pl.step 3 (Pl.step 4 (Pl.step 5 (Pl.step 6 (Pl.step 7 (Pl.br (Pl.alt 8 (Pl.step 9 (Pl.step 10 (Pl.step 11 (Pl.step 12 (Pl.step 13 (Pl.step 14 Pl.nil)))))) (Pl.alt 12 (Pl.step 8 (Pl.step 9 (Pl.step 10 (Pl.step 11 (Pl.step 13 (Pl.step 14 Pl.nil)))))) Pl.non))))))))))) [8, 13] [16, 17]) (An.s (An.dc [0, 1, 2, 3, 4, 5, 6, 7, 8, 9, 10, 11, 12, 13, 14, 15, 16, 17, 18, 19, 20, 21, 22, 23, 24, 25, 27, 28, 29, 30, 31, 32, 33, 34, 26, 35, 36, 37, 38, 39, 40, 41, 42, 43, 45, 46, 47, 48, 49, 44, 50, 51, 52, 53, 54, 55, 56, 57, 58, 59, 61, 62, 63, 64, 65, 66, 60, 67, 68, 69, 70, 71, 72, 74, 75, 76, 77, 78, 79, 80, 81, 73, 82, 83, 84, 85, 86, 87, 89, 90, 91, 92, 93, 94, 95, 96, 88, 97, 98, 99, 100] [2] [[151], [157], [162], [180], [195], [212], [227], [243]]) (An.s (An.s (An.r []) An.o) An.o)))))))) (An.r []))))))) (An.s (An.r []) An.o)))))))
def J6 (t0 t1 : Value) (w : World) (R : KR) : Prop :=
 nilc t0 fun t20 =>
 fad 0 t20 fun t21 =>
 ld1 t21 w.heap fun t22 =>
 cal P Ir [t22] w fun t23 w =>
 ext 0 t23 fun t24 =>
 ext 1 t23 fun t25 =>
 efP P (Instr.alloc Aa true (.tuple #[])) w fun t5 w =>
 stN 32 t5 t24 w fun w =>
 drH w fun S w =>
 rdS S (fun w => ldN 32 t5 w.heap) fun t26 =>
 nilc t0 fun t28 =>
 fad 1 t28 fun t29 =>
 rdS S (fun w => ld1 t29 w.heap) fun t30 =>
 nilc t30 fun t31 =>
 fad 4 t31 fun t32 =>
 rdS S (fun w => ld1 t32 w.heap) fun t33 =>
 nilc t33 fun t34 =>
 fad 0 t34 fun t35 =>
 rdS S (fun w => ldN 32 t35 w.heap) fun t36 =>
 rdS S (rdP P (eqS .neq Aa (Operand.tmp 26) (Operand.tmp 36) t26 t36)) fun t37 =>
 jn1 (fun k0 =>
 gif t37 false
 (nilc t0 fun t41 =>
 fad 1 t41 fun t42 =>
 rdS S (fun w => ld1 t42 w.heap) fun t43 =>
 nilc t43 fun t44 =>
 fad 4 t44 fun t45 =>
 rdS S (fun w => ld1 t45 w.heap) fun t46 =>
 nilc t46 fun t47 =>
 fad 32 t47 fun t48 =>
 rdS S (fun w => ld1 t48 w.heap) fun t49 =>
 bi .neq t25 t49 fun t50 =>
 k0 t50 w)
 (k0 undef w)) fun _ t50_1 w =>
 pik t37 (.bool true) t50_1 fun t51 =>
 jn1 (fun k1 =>
 gif t51 false
 (nilc t0 fun t54 =>
 fad 0 t54 fun t55 =>
 rdS S (fun w => ld1 t55 w.heap) fun t56 =>
 nilc t0 fun t59 =>
 fad 1 t59 fun t60 =>
 rdS S (fun w => ld1 t60 w.heap) fun t61 =>
 nilc t61 fun t62 =>
 fad 4 t62 fun t63 =>
 rdS S (fun w => ld1 t63 w.heap) fun t64 =>
 nilc t64 fun t65 =>
 fad 34 t65 fun t66 =>
 rdS S (fun w => ld1 t66 w.heap) fun t67 =>
 lenS t67 fun t68 =>
 efS S (cal P GB [t56]) w fun t57 w =>
 bi .neq t57 t68 fun t69 =>
 k1 t69 w)
 (k1 undef w)) fun _ t69_1 w =>
 pik t51 (.bool true) t69_1 fun t70 =>
 jn1 (fun k2 =>
 gif t70 false
 (nilc t0 fun t73 =>
 fad 0 t73 fun t74 =>
 rdS S (fun w => ld1 t74 w.heap) fun t75 =>
 nilc t0 fun t78 =>
 fad 1 t78 fun t79 =>
 rdS S (fun w => ld1 t79 w.heap) fun t80 =>
 efS S (cal P CN [t75]) w fun t76 w =>
 efS S (cal P DZ [t80]) w fun t81 w =>
 rdS S (rdP P (eqS .neq Aa (Operand.tmp 76) (Operand.tmp 81) t76 t81)) fun t82 =>
 k2 t82 w)
 (k2 undef w)) fun _ t82_1 w =>
 pik t70 (.bool true) t82_1 fun t83 =>
 cnd t83
 (R (.bool false) w)
 (nilc t0 fun t85 =>
 fad 0 t85 fun t86 =>
 ld1 t86 w.heap fun t87 =>
 cal P FJ [t87] w fun t88 w =>
 nilP false t88 fun t90 =>
 cnd t90
 (R (.bool false) w)
 (nilc t0 fun t92 =>
 fad 2 t92 fun t93 =>
 fad 0 t93 fun t94 =>
 ld1 t94 w.heap fun t95 =>
 cal P B7 [t95] w fun t96 w =>
 rdP P (Instr.build Aa #[(0, (.int .u8 222))]) w fun t97 =>
 efP P (Instr.buildSlice Ax 1 #[(0, t97)]) w fun t98 w =>
 efP P (Builtin.append_ #[Ax, Ax] Ax #[t96, t98]) w fun t99 w =>
 lenS t99 fun t100 =>
 lp1 (.int .i64 0) w fun _ t101 w again3 =>
 bi .lss t101 t100 fun t102 =>
 cnd t102
 (ixs 32 t99 t101 fun t103 =>
 ldN 32 t103 w.heap fun t104 =>
 efP P (Instr.alloc Aa true (.tuple #[])) w fun t9 w =>
 stN 32 t9 t104 w fun w =>
 drH w fun S w =>
 jn2 (fun k4 =>
 nilc t0 fun t107 =>
 fad 0 t107 fun t108 =>
 rdS S (fun w => ld1 t108 w.heap) fun t109 =>
 rdS S (fun w => ldN 32 t9 w.heap) fun t110 =>
 (efC (cal P FM [t109, t110]) w fun S t111_1 w =>
 ext 0 t111_1 fun t112_1 =>
 ext 1 t111_1 fun t113_1 =>
 efS S (efP P (Instr.alloc Ak true (.tuple #[]))) w fun t10_1 w =>
 efC (fun w K => stN 67 t10_1 t112_1 w (K undef)) w fun S _ w =>
 k4 t10_1 t113_1 w) ∧
 ((efS S (efP P (Instr.alloc Ak true (.tuple #[]))) w fun t10 w =>
 efC (cal P FM [t109, t110]) w fun S t111 w =>
 ext 0 t111 fun t112 =>
 ext 1 t111 fun t113 =>
 efC (fun w K => stN 67 t10 t112 w (K undef)) w fun S _ w =>
 k4 t10 t113 w) ∧
 (True))) fun _ t10_2 t11 w =>
 drH w fun S w =>
 jn2 (fun k5 =>
 nilc t0 fun t116 =>
 fad 1 t116 fun t117 =>
 rdS S (fun w => ld1 t117 w.heap) fun t118 =>
 rdS S (fun w => ldN 32 t9 w.heap) fun t119 =>
 (efC (cal P Fl [t118, t119]) w fun S t120_1 w =>
 ext 0 t120_1 fun t121_1 =>
 ext 1 t120_1 fun t122_1 =>
 efS S (efP P (Instr.alloc Ak true (.tuple #[]))) w fun t12_1 w =>
 efC (fun w K => stN 67 t12_1 t121_1 w (K undef)) w fun S _ w =>
 k5 t12_1 t122_1 w) ∧
 ((efS S (efP P (Instr.alloc Ak true (.tuple #[]))) w fun t12 w =>
 efC (cal P Fl [t118, t119]) w fun S t120 w =>
 ext 0 t120 fun t121 =>
 ext 1 t120 fun t122 =>
 efC (fun w K => stN 67 t12 t121 w (K undef)) w fun S _ w =>
 k5 t12 t122 w) ∧
 (True))) fun _ t12_2 t13 w =>
 drH w fun S w =>
 jn2 (fun k6 =>
 nilc t0 fun t125 =>
 fad 0 t125 fun t126 =>
 rdS S (fun w => ld1 t126 w.heap) fun t127 =>
 rdS S (fun w => ldN 32 t9 w.heap) fun t128 =>
 (efC (cal P GA [t127, t128]) w fun S t129_1 w =>
 ext 0 t129_1 fun t130_1 =>
 ext 1 t129_1 fun t131_1 =>
 efS S (efP P (Instr.alloc Ao true (.tuple #[]))) w fun t14_1 w =>
 efC (fun w K => stN 34 t14_1 t130_1 w (K undef)) w fun S _ w =>
 k6 t14_1 t131_1 w) ∧
 ((efS S (efP P (Instr.alloc Ao true (.tuple #[]))) w fun t14 w =>
 efC (cal P GA [t127, t128]) w fun S t129 w =>
 ext 0 t129 fun t130 =>
 ext 1 t129 fun t131 =>
 efC (fun w K => stN 34 t14 t130 w (K undef)) w fun S _ w =>
 k6 t14 t131 w) ∧
 (True))) fun _ t14_2 t15 w =>
 drH w fun S w =>
 jn2 (fun k7 =>
 nilc t0 fun t134 =>
 fad 1 t134 fun t135 =>
 rdS S (fun w => ld1 t135 w.heap) fun t136 =>
 nilc t136 fun t137 =>
 fad 4 t137 fun t138 =>
 rdS S (fun w => ld1 t138 w.heap) fun t139 =>
 rdS S (fun w => ldN 32 t9 w.heap) fun t140 =>
 (efC (cal P FS [t139, t140]) w fun S t141_1 w =>
 ext 0 t141_1 fun t142_1 =>
 ext 1 t141_1 fun t143_1 =>
 efS S (efP P (Instr.alloc Ao true (.tuple #[]))) w fun t16_1 w =>
 efC (fun w K => stN 34 t16_1 t142_1 w (K undef)) w fun S _ w =>
 k7 t16_1 t143_1 w) ∧
 ((efS S (efP P (Instr.alloc Ao true (.tuple #[]))) w fun t16 w =>
 efC (cal P FS [t139, t140]) w fun S t141 w =>
 ext 0 t141 fun t142 =>
 ext 1 t141 fun t143 =>
 efC (fun w K => stN 34 t16 t142 w (K undef)) w fun S _ w =>
 k7 t16 t143 w) ∧
 (True))) fun _ t16_2 t17 w =>
 drH w fun S w =>
 rdS S (fun w => ldN 67 t10_2 w.heap) fun t144 =>
 rdS S (fun w => ldN 67 t12_2 w.heap) fun t145 =>
 efC (cal P LK [t144, t145]) w fun S t146 w =>
 notB t146 fun t147 =>
 jn1 (fun k8 =>
 gif t147 false
 (bi .neq t11 t13 fun t151 =>
 k8 t151 w)
 (k8 undef w)) fun _ t151_1 w =>
 pik t147 (.bool true) t151_1 fun t152 =>
 jn1 (fun k9 =>
 gif t152 false
 (rdS S (fun w => ldN 34 t14_2 w.heap) fun t154 =>
 rdS S (fun w => ldN 34 t16_2 w.heap) fun t155 =>
 efS S (cal P Lw [t154, t155]) w fun t156 w =>
 notB t156 fun t157 =>
 k9 t157 w)
 (k9 undef w)) fun _ t157_1 w =>
 pik t152 (.bool true) t157_1 fun t158 =>
 jn1 (fun k10 =>
 gif t158 false
 (bi .neq t15 t17 fun t162 =>
 k10 t162 w)
 (k10 undef w)) fun _ t162_1 w =>
 pik t158 (.bool true) t162_1 fun t163 =>
 jn1 (fun k11 =>
 gif t163 false
 (nilc t0 fun t166 =>
 fad 0 t166 fun t167 =>
 rdS S (fun w => ld1 t167 w.heap) fun t168 =>
 rdS S (fun w => ldN 32 t9 w.heap) fun t169 =>
 nilc t0 fun t172 =>
 fad 1 t172 fun t173 =>
 rdS S (fun w => ld1 t173 w.heap) fun t174 =>
 nilc t174 fun t175 =>
 fad 4 t175 fun t176 =>
 rdS S (fun w => ld1 t176 w.heap) fun t177 =>
 rdS S (fun w => ldN 32 t9 w.heap) fun t178 =>
 efS S (cal P IU [t168, t169]) w fun t170 w =>
 efS S (cal P CJ [t177, t178]) w fun t179 w =>
 rdS S (rdP P (eqS .neq F9 (Operand.tmp 170) (Operand.tmp 179) t170 t179)) fun t180 =>
 k11 t180 w)
 (k11 undef w)) fun _ t180_1 w =>
 pik t163 (.bool true) t180_1 fun t181 =>
 jn1 (fun k12 =>
 gif t181 false
 (nilc t0 fun t184 =>
 fad 0 t184 fun t185 =>
 rdS S (fun w => ld1 t185 w.heap) fun t186 =>
 rdS S (fun w => ldN 32 t9 w.heap) fun t187 =>
 nilc t0 fun t190 =>
 fad 1 t190 fun t191 =>
 rdS S (fun w => ld1 t191 w.heap) fun t192 =>
 rdS S (fun w => ldN 32 t9 w.heap) fun t193 =>
 efS S (cal P Fy [t186, t187]) w fun t188 w =>
 efS S (cal P Fc [t192, t193]) w fun t194 w =>
 rdS S (rdP P (eqS .neq F9 (Operand.tmp 188) (Operand.tmp 194) t188 t194)) fun t195 =>
 k12 t195 w)
 (k12 undef w)) fun _ t195_1 w =>
 pik t181 (.bool true) t195_1 fun t196 =>
 jn1 (fun k13 =>
 gif t196 false
 (nilc t0 fun t199 =>
 fad 0 t199 fun t200 =>
 rdS S (fun w => ld1 t200 w.heap) fun t201 =>
 rdS S (fun w => ldN 32 t9 w.heap) fun t203 =>
 nilc t0 fun t206 =>
 fad 1 t206 fun t207 =>
 rdS S (fun w => ld1 t207 w.heap) fun t208 =>
 rdS S (fun w => ldN 32 t9 w.heap) fun t210 =>
 efS S (cal P HC [t201, t1, t203]) w fun t204 w =>
 efS S (cal P E9 [t208, t1, t210]) w fun t211 w =>
 bi .neq t204 t211 fun t212 =>
 k13 t212 w)
 (k13 undef w)) fun _ t212_1 w =>
 pik t196 (.bool true) t212_1 fun t213 =>
 jn1 (fun k14 =>
 gif t213 false
 (rdS S (fun w => ldN 32 t9 w.heap) fun t216 =>
 nilc t0 fun t219 =>
 fad 1 t219 fun t220 =>
 rdS S (fun w => ld1 t220 w.heap) fun t221 =>
 nilc t221 fun t222 =>
 fad 4 t222 fun t223 =>
 rdS S (fun w => ld1 t223 w.heap) fun t224 =>
 rdS S (fun w => ldN 32 t9 w.heap) fun t225 =>
 efS S (cal P Cz [t88, t216]) w fun t217 w =>
 efS S (cal P CJ [t224, t225]) w fun t226 w =>
 rdS S (rdP P (eqS .neq F9 (Operand.tmp 217) (Operand.tmp 226) t217 t226)) fun t227 =>
 k14 t227 w)
 (k14 undef w)) fun _ t227_1 w =>
 pik t213 (.bool true) t227_1 fun t228 =>
 jn1 (fun k15 =>
 gif t228 false
 (rdS S (fun w => ldN 32 t9 w.heap) fun t231 =>
 nilc t0 fun t234 =>
 fad 1 t234 fun t235 =>
 rdS S (fun w => ld1 t235 w.heap) fun t236 =>
 nilc t236 fun t237 =>
 fad 4 t237 fun t238 =>
 rdS S (fun w => ld1 t238 w.heap) fun t239 =>
 rdS S (fun w => ldN 32 t9 w.heap) fun t240 =>
 efS S (cal P In [t88, t231]) w fun t232 w =>
 efS S (cal P Fj [t239, t240]) w fun t241 w =>
 efS S (cal P B8 [t232, t241]) w fun t242 w =>
 notB t242 fun t243 =>
 k15 t243 w)
 (k15 undef w)) fun _ t243_1 w =>
 pik t228 (.bool true) t243_1 fun t244 =>
 cnd t244
 (R (.bool false) w)
 (bi .add t101 (.int .i64 1) fun t245 =>
 again3 t245 w))
 (R (.bool true) w)))
theorem Rr : kO Tryz.f31 P2 = true := by kernel_rfl
theorem PU (h : SQ Q (J6 t0 t1 w)) : cal P EW [t0, t1] w Q := sO Tryz.func31 rfl (by kernel_rfl) Rr (by kernel_rfl) h
end Go.Fx
