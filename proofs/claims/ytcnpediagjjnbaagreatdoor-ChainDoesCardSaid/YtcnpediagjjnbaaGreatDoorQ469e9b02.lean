/-
  The readings, part 2.
-/
import Derived.Test.YtcnpediagjjnbaaGreatDoorQ3611c588
import Derived.Test.YtcnpediagjjnbaaGreatDoorQ3cb80874
import Derived.Test.YtcnpediagjjnbaaGreatDoorQ301ba823
set_option linter.unusedVariables false
set_option maxRecDepth 100000
namespace Go.Fx
open Go.Proofs
variable {t0 t1 t2 t3 t4 t5 t6 t7 t8 t9 : Value} {w : World} {Q : KR}
/-- (*flurry/flurrylaw10.world).does -/
def A_law10_world_does : An := (An.s (An.r []) (An.s (An.s (An.r []) (An.b (An.s (An.r []) (An.s (An.s (An.dt (Pl.step 0 (Pl.step 1 (Pl.step 2 (Pl.step 3 (Pl.step 4 (Pl.step 5 (Pl.step 6 (Pl.step 7 (Pl.step 8 (Pl.step 9 (Pl.step 10 (Pl.step 11 (Pl.step 12 (Pl.step 13 (Pl.step 14 (Pl.step 15 (Pl.step 16 (Pl.step 17 (Pl.step 18 (Pl.step 19 (Pl.br (Pl.alt 20 (Pl.step 21 (Pl.step 22 Pl.nil)) (Pl.alt 21 (Pl.step 20 (Pl.step 22 Pl.nil)) Pl.non))))))))))))))))))))))) [20, 22] [5]) (An.s (An.r []) (An.s (An.dc [0, 1, 2, 3, 4, 5, 6] [5] []) (An.s (An.s (An.r []) (An.b (An.l [45] (An.s (An.r []) (An.s (An.s An.o An.o) (An.s (An.b (An.s (An.r []) (An.r []))) (An.r []))))))) (An.s (An.dc [0, 1, 2, 3, 4, 5, 6, 7, 8] [6] []) An.o))))) (An.s (An.r []) (An.s (An.s (An.dc [0, 1, 2, 3, 4, 5, 7, 8, 9, 10, 11, 12, 6, 13, 14, 15] [13] []) An.o) (An.s (An.r []) (An.s (An.s (An.dc [0, 1, 2, 3, 4, 5, 7, 8, 9, 10, 11, 12, 6, 13, 14, 15] [13] []) An.o) (An.s (An.r []) (An.s (An.s (An.dc [0, 1, 2, 3, 5, 6, 7, 8, 4, 9, 10, 11] [9] []) An.o) (An.s (An.r []) (An.s (An.s (An.dc [0, 1, 2, 3, 5, 6, 7, 8, 4, 9, 10, 11, 12, 13, 14, 15, 16] [9] [[127]]) An.o) (An.s (An.r []) (An.s (An.s (An.dt (Pl.step 0 (Pl.step 1 (Pl.step 2 (Pl.step 3 (Pl.step 4 (Pl.step 5 (Pl.step 8 (Pl.step 9 (Pl.step 10 (Pl.step 11 (Pl.step 12 (Pl.step 13 (Pl.br (Pl.alt 6 (Pl.br (Pl.alt 7 (Pl.step 14 (Pl.step 15 (Pl.step 16 (Pl.step 17 (Pl.step 18 (Pl.step 19 (Pl.step 20 (Pl.step 21 (Pl.step 23 (Pl.step 24 (Pl.step 25 (Pl.step 26 (Pl.step 22 (Pl.step 27 (Pl.step 28 (Pl.step 29 (Pl.step 30 (Pl.step 31 (Pl.step 32 (Pl.step 33 (Pl.step 34 (Pl.step 35 Pl.nil)))))))))))))))))))))) (Pl.alt 14 (Pl.step 7 (Pl.step 15 (Pl.step 16 (Pl.step 17 (Pl.step 18 (Pl.step 19 (Pl.step 20 (Pl.step 21 (Pl.step 23 (Pl.step 24 (Pl.step 25 (Pl.step 26 (Pl.step 22 (Pl.step 27 (Pl.step 28 (Pl.step 29 (Pl.step 30 (Pl.step 31 (Pl.step 32 (Pl.step 33 (Pl.step 34 (Pl.step 35 Pl.nil)))))))))))))))))))))) Pl.non))) (Pl.alt 14 (Pl.step 6 (Pl.step 7 (Pl.step 15 (Pl.step 16 (Pl.step 17 (Pl.step 18 (Pl.step 19 (Pl.step 20 (Pl.step 21 (Pl.step 23 (Pl.step 24 (Pl.step 25 (Pl.step 26 (Pl.step 22 (Pl.step 27 (Pl.step 28 (Pl.step 29 (Pl.step 30 (Pl.step 31 (Pl.step 32 (Pl.step 33 (Pl.step 34 (Pl.step 35 Pl.nil))))))))))))))))))))))) Pl.non))))))))))))))) [15] [4]) An.o) An.o)))))))))))))) (An.s (An.dc [0, 1, 2, 3, 4, 5, 6, 7, 8, 9, 10] [9] []) An.o)))
def c_law10_world_does (t0 t1 : Value) (w : World) (R : KR) : Prop :=
 bx T_flurrylaw10_Op t1 w fun t3 w =>
 fad 0 t3 fun t9 =>
 ld1 t9 w.heap fun t10 =>
 bi .eql t10 (.int .i64 0) fun t12 =>
 cnd t12
 (drH w fun S w =>
 jn1 (fun k0 =>
 nilc t0 fun t14 =>
 fad 3 t14 fun t15 =>
 rdS S (fun w => ld1 t15 w.heap) fun t16 =>
 nilc t16 fun t17 =>
 fad 1 t17 fun t18 =>
 rdS S (fun w => ld1 t18 w.heap) fun t19 =>
 nilc t0 fun t21 =>
 fad 3 t21 fun t22 =>
 rdS S (fun w => ld1 t22 w.heap) fun t23 =>
 nilc t23 fun t24 =>
 fad 1 t24 fun t25 =>
 rdS S (fun w => ld1 t25 w.heap) fun t26 =>
 lenS t26 fun t27 =>
 bi .sub t27 (.int .i64 1) fun t28 =>
 ixs 34 t19 t28 fun t29 =>
 rdS S (fun w => ldN 34 t29 w.heap) fun t30 =>
 fad 2 t3 fun t31 =>
 rdS S (fun w => ld1 t31 w.heap) fun t32 =>
 (efC (cal P f_law10_child [t30, t32]) w fun S t33_1 w =>
 efS S (efP P (Instr.alloc T_api_Block true (.tuple #[]))) w fun t5_1 w =>
 efC (fun w K => stN 34 t5_1 t33_1 w (K undef)) w fun S _ w =>
 k0 t5_1 w) ∧
 ((efS S (efP P (Instr.alloc T_api_Block true (.tuple #[]))) w fun t5 w =>
 efC (cal P f_law10_child [t30, t32]) w fun S t33 w =>
 efC (fun w K => stN 34 t5 t33 w (K undef)) w fun S _ w =>
 k0 t5 w) ∧
 (True))) fun _ t5_2 w =>
 ldN 34 t5_2 w.heap fun t34 =>
 cal P f_ref03_Clone [t34] w fun t35 w =>
 efP P (Instr.alloc T_api_Block true (.tuple #[])) w fun t6 w =>
 stN 34 t6 t35 w fun w =>
 drH w fun S w =>
 nilc t0 fun t37 =>
 fad 1 t37 fun t38 =>
 rdS S (fun w => ld1 t38 w.heap) fun t39 =>
 rdS S (fun w => ldN 34 t6 w.heap) fun t40 =>
 efC (cal P f_chain_Chain_Accept [t39, t40]) w fun S t41 w =>
 fad 33 t6 fun t42 =>
 ld1 t42 w.heap fun t43 =>
 lenS t43 fun t44 =>
 lp1 (.int .i64 0) w fun _ t45 w again1 =>
 bi .lss t45 t44 fun t46 =>
 cnd t46
 (fad 33 t6 fun t48 =>
 ld1 t48 w.heap fun t49 =>
 ixs 1 t49 t45 fun t51 =>
 ld1 t51 w.heap fun t52 =>
 bi .xor t52 (.int .u8 255) fun t53 =>
 ixs 1 t49 t45 fun t54 =>
 st1 t54 t53 w fun w =>
 bi .add t45 (.int .i64 1) fun t55 =>
 again1 t55 w)
 (drH w fun S w =>
 nilc t0 fun t58 =>
 fad 3 t58 fun t59 =>
 rdS S (fun w => ld1 t59 w.heap) fun t60 =>
 rdS S (fun w => ldN 34 t5_2 w.heap) fun t61 =>
 efC (cal P f_ref10_Chain_Accept [t60, t61]) w fun S t62 w =>
 bi .eql t41 t62 fun t63 =>
 R t63 w))
 (bi .eql t10 (.int .i64 1) fun t65 =>
 cnd t65
 (drH w fun S w =>
 nilc t0 fun t67 =>
 fad 1 t67 fun t68 =>
 rdS S (fun w => ld1 t68 w.heap) fun t69 =>
 fad 3 t3 fun t70 =>
 rdS S (fun w => ldN 34 t70 w.heap) fun t71 =>
 nilc t0 fun t74 =>
 fad 3 t74 fun t75 =>
 rdS S (fun w => ld1 t75 w.heap) fun t76 =>
 fad 3 t3 fun t77 =>
 rdS S (fun w => ldN 34 t77 w.heap) fun t78 =>
 efS S (cal P f_chain_Chain_Accept [t69, t71]) w fun t72 w =>
 efC (cal P f_ref10_Chain_Accept [t76, t78]) w fun S t79 w =>
 bi .eql t72 t79 fun t80 =>
 R t80 w)
 (bi .eql t10 (.int .i64 2) fun t82 =>
 cnd t82
 (drH w fun S w =>
 nilc t0 fun t84 =>
 fad 0 t84 fun t85 =>
 rdS S (fun w => ld1 t85 w.heap) fun t86 =>
 fad 1 t3 fun t87 =>
 rdS S (fun w => ld1 t87 w.heap) fun t88 =>
 nilc t0 fun t91 =>
 fad 2 t91 fun t92 =>
 rdS S (fun w => ld1 t92 w.heap) fun t93 =>
 fad 1 t3 fun t94 =>
 rdS S (fun w => ld1 t94 w.heap) fun t95 =>
 efS S (cal P f_tape_Tape_Arm [t86, t88]) w fun t89 w =>
 efC (cal P f_ref08_Tape_Arm [t93, t95]) w fun S t96 w =>
 bi .eql t89 t96 fun t97 =>
 R t97 w)
 (bi .eql t10 (.int .i64 3) fun t99 =>
 cnd t99
 (drH w fun S w =>
 nilc t0 fun t101 =>
 fad 0 t101 fun t102 =>
 rdS S (fun w => ld1 t102 w.heap) fun t103 =>
 nilc t0 fun t106 =>
 fad 2 t106 fun t107 =>
 rdS S (fun w => ld1 t107 w.heap) fun t108 =>
 efS S (cal P f_tape_Tape_Crash [t103]) w fun t104 w =>
 efC (cal P f_ref08_Tape_Crash [t108]) w fun S t109 w =>
 bi .eql t104 t109 fun t110 =>
 R t110 w)
 (bi .eql t10 (.int .i64 4) fun t112 =>
 cnd t112
 (drH w fun S w =>
 nilc t0 fun t114 =>
 fad 0 t114 fun t115 =>
 rdS S (fun w => ld1 t115 w.heap) fun t116 =>
 nilc t0 fun t119 =>
 fad 2 t119 fun t120 =>
 rdS S (fun w => ld1 t120 w.heap) fun t121 =>
 efS S (cal P f_tape_Tape_Restart [t116]) w fun t117 w =>
 efC (cal P f_ref08_Tape_Restart [t121]) w fun S t122 w =>
 bi .eql t117 t122 fun t123 =>
 jn1 (fun k2 =>
 gif t123 true
 (efS S (cal P f_law10_first []) w fun t126 w =>
 efS S (cal P f_law10_world_opens [t0, t126]) w fun t127 w =>
 k2 t127 w)
 (k2 undef w)) fun _ t127_1 w =>
 pik t123 t127_1 (.bool false) fun t128 =>
 R t128 w)
 (bi .eql t10 (.int .i64 6) fun t130 =>
 cnd t130
 (drH w fun S w =>
 jn1 (fun k3 =>
 nilc t0 fun t132 =>
 fad 0 t132 fun t133 =>
 rdS S (fun w => ld1 t133 w.heap) fun t134 =>
 fad 2 t3 fun t135 =>
 rdS S (fun w => ld1 t135 w.heap) fun t136 =>
 nilc t0 fun t140 =>
 fad 2 t140 fun t141 =>
 rdS S (fun w => ld1 t141 w.heap) fun t142 =>
 fad 2 t3 fun t143 =>
 rdS S (fun w => ld1 t143 w.heap) fun t144 =>
 (efS S (efP P (Instr.buildSlice T_sl_sl_uint8 1 #[(0, t136)])) w fun t137_1 w =>
 (efS S (cal P f_tape_Tape_Append [t134, t137_1]) w fun t138_2 w =>
 efS S (efP P (Instr.buildSlice T_sl_sl_uint8 1 #[(0, t144)])) w fun t145_2 w =>
 efC (cal P f_ref08_Tape_Append [t142, t145_2]) w fun S t146_2 w =>
 bi .eql t138_2 t146_2 fun t147_2 =>
 jn1 (fun k32 =>
 gif t147_2 true
 (k32 t0 w)
 (k32 undef w)) fun _ t149_2 w =>
 jn1 (fun k33 =>
 gif t147_2 true
 (nilc t149_2 fun x =>
 k33 x w)
 (k33 undef w)) fun _ t150_2 w =>
 jn1 (fun k34 =>
 gif t147_2 true
 (fad 0 t150_2 fun x =>
 k34 x w)
 (k34 undef w)) fun _ t151_2 w =>
 jn1 (fun k35 =>
 gif t147_2 true
 (rdS S (fun w => ld1 t151_2 w.heap) fun x =>
 k35 x w)
 (k35 undef w)) fun _ t152_2 w =>
 jn1 (fun k36 =>
 gif t147_2 true
 (k36 t0 w)
 (k36 undef w)) fun _ t154_2 w =>
 jn1 (fun k37 =>
 gif t147_2 true
 (nilc t154_2 fun x =>
 k37 x w)
 (k37 undef w)) fun _ t155_2 w =>
 jn1 (fun k38 =>
 gif t147_2 true
 (fad 2 t155_2 fun x =>
 k38 x w)
 (k38 undef w)) fun _ t156_2 w =>
 jn1 (fun k39 =>
 gif t147_2 true
 (rdS S (fun w => ld1 t156_2 w.heap) fun x =>
 k39 x w)
 (k39 undef w)) fun _ t157_2 w =>
 jn1 (fun k40 =>
 gif t147_2 true
 (efS S (cal P f_tape_Tape_Restart [t152_2]) w fun x w =>
 k40 x w)
 (k40 undef w)) fun _ t153_2 w =>
 jn1 (fun k41 =>
 gif t147_2 true
 (efS S (cal P f_ref08_Tape_Restart [t157_2]) w fun x w =>
 k41 x w)
 (k41 undef w)) fun _ t158_2 w =>
 jn1 (fun k42 =>
 gif t147_2 true
 (bi .eql t153_2 t158_2 fun x =>
 k42 x w)
 (k42 undef w)) fun _ t159_2 w =>
 pik t147_2 t159_2 (.bool false) fun t160_2 =>
 jn1 (fun k43 =>
 gif t160_2 true
 (k43 t0 w)
 (k43 undef w)) fun _ t162_2 w =>
 jn1 (fun k44 =>
 gif t160_2 true
 (efS S (cal P f_law10_first []) w fun x w =>
 k44 x w)
 (k44 undef w)) fun _ t163_2 w =>
 jn1 (fun k45 =>
 gif t160_2 true
 (efS S (cal P f_law10_world_opens [t162_2, t163_2]) w fun x w =>
 k45 x w)
 (k45 undef w)) fun _ t164_2 w =>
 pik t160_2 t164_2 (.bool false) fun t165_2 =>
 k3 t165_2 w) ∧
 ((efS S (efP P (Instr.buildSlice T_sl_sl_uint8 1 #[(0, t144)])) w fun t145_1 w =>
 efS S (cal P f_tape_Tape_Append [t134, t137_1]) w fun t138_1 w =>
 efC (cal P f_ref08_Tape_Append [t142, t145_1]) w fun S t146_1 w =>
 bi .eql t138_1 t146_1 fun t147_1 =>
 jn1 (fun k18 =>
 gif t147_1 true
 (k18 t0 w)
 (k18 undef w)) fun _ t149_1 w =>
 jn1 (fun k19 =>
 gif t147_1 true
 (nilc t149_1 fun x =>
 k19 x w)
 (k19 undef w)) fun _ t150_1 w =>
 jn1 (fun k20 =>
 gif t147_1 true
 (fad 0 t150_1 fun x =>
 k20 x w)
 (k20 undef w)) fun _ t151_1 w =>
 jn1 (fun k21 =>
 gif t147_1 true
 (rdS S (fun w => ld1 t151_1 w.heap) fun x =>
 k21 x w)
 (k21 undef w)) fun _ t152_1 w =>
 jn1 (fun k22 =>
 gif t147_1 true
 (k22 t0 w)
 (k22 undef w)) fun _ t154_1 w =>
 jn1 (fun k23 =>
 gif t147_1 true
 (nilc t154_1 fun x =>
 k23 x w)
 (k23 undef w)) fun _ t155_1 w =>
 jn1 (fun k24 =>
 gif t147_1 true
 (fad 2 t155_1 fun x =>
 k24 x w)
 (k24 undef w)) fun _ t156_1 w =>
 jn1 (fun k25 =>
 gif t147_1 true
 (rdS S (fun w => ld1 t156_1 w.heap) fun x =>
 k25 x w)
 (k25 undef w)) fun _ t157_1 w =>
 jn1 (fun k26 =>
 gif t147_1 true
 (efS S (cal P f_tape_Tape_Restart [t152_1]) w fun x w =>
 k26 x w)
 (k26 undef w)) fun _ t153_1 w =>
 jn1 (fun k27 =>
 gif t147_1 true
 (efS S (cal P f_ref08_Tape_Restart [t157_1]) w fun x w =>
 k27 x w)
 (k27 undef w)) fun _ t158_1 w =>
 jn1 (fun k28 =>
 gif t147_1 true
 (bi .eql t153_1 t158_1 fun x =>
 k28 x w)
 (k28 undef w)) fun _ t159_1 w =>
 pik t147_1 t159_1 (.bool false) fun t160_1 =>
 jn1 (fun k29 =>
 gif t160_1 true
 (k29 t0 w)
 (k29 undef w)) fun _ t162_1 w =>
 jn1 (fun k30 =>
 gif t160_1 true
 (efS S (cal P f_law10_first []) w fun x w =>
 k30 x w)
 (k30 undef w)) fun _ t163_1 w =>
 jn1 (fun k31 =>
 gif t160_1 true
 (efS S (cal P f_law10_world_opens [t162_1, t163_1]) w fun x w =>
 k31 x w)
 (k31 undef w)) fun _ t164_1 w =>
 pik t160_1 t164_1 (.bool false) fun t165_1 =>
 k3 t165_1 w) ∧
 (True))) ∧
 ((efS S (efP P (Instr.buildSlice T_sl_sl_uint8 1 #[(0, t144)])) w fun t145 w =>
 efS S (efP P (Instr.buildSlice T_sl_sl_uint8 1 #[(0, t136)])) w fun t137 w =>
 efS S (cal P f_tape_Tape_Append [t134, t137]) w fun t138 w =>
 efC (cal P f_ref08_Tape_Append [t142, t145]) w fun S t146 w =>
 bi .eql t138 t146 fun t147 =>
 jn1 (fun k4 =>
 gif t147 true
 (k4 t0 w)
 (k4 undef w)) fun _ t149 w =>
 jn1 (fun k5 =>
 gif t147 true
 (nilc t149 fun x =>
 k5 x w)
 (k5 undef w)) fun _ t150 w =>
 jn1 (fun k6 =>
 gif t147 true
 (fad 0 t150 fun x =>
 k6 x w)
 (k6 undef w)) fun _ t151 w =>
 jn1 (fun k7 =>
 gif t147 true
 (rdS S (fun w => ld1 t151 w.heap) fun x =>
 k7 x w)
 (k7 undef w)) fun _ t152 w =>
 jn1 (fun k8 =>
 gif t147 true
 (k8 t0 w)
 (k8 undef w)) fun _ t154 w =>
 jn1 (fun k9 =>
 gif t147 true
 (nilc t154 fun x =>
 k9 x w)
 (k9 undef w)) fun _ t155 w =>
 jn1 (fun k10 =>
 gif t147 true
 (fad 2 t155 fun x =>
 k10 x w)
 (k10 undef w)) fun _ t156 w =>
 jn1 (fun k11 =>
 gif t147 true
 (rdS S (fun w => ld1 t156 w.heap) fun x =>
 k11 x w)
 (k11 undef w)) fun _ t157 w =>
 jn1 (fun k12 =>
 gif t147 true
 (efS S (cal P f_tape_Tape_Restart [t152]) w fun x w =>
 k12 x w)
 (k12 undef w)) fun _ t153 w =>
 jn1 (fun k13 =>
 gif t147 true
 (efS S (cal P f_ref08_Tape_Restart [t157]) w fun x w =>
 k13 x w)
 (k13 undef w)) fun _ t158 w =>
 jn1 (fun k14 =>
 gif t147 true
 (bi .eql t153 t158 fun x =>
 k14 x w)
 (k14 undef w)) fun _ t159 w =>
 pik t147 t159 (.bool false) fun t160 =>
 jn1 (fun k15 =>
 gif t160 true
 (k15 t0 w)
 (k15 undef w)) fun _ t162 w =>
 jn1 (fun k16 =>
 gif t160 true
 (efS S (cal P f_law10_first []) w fun x w =>
 k16 x w)
 (k16 undef w)) fun _ t163 w =>
 jn1 (fun k17 =>
 gif t160 true
 (efS S (cal P f_law10_world_opens [t162, t163]) w fun x w =>
 k17 x w)
 (k17 undef w)) fun _ t164 w =>
 pik t160 t164 (.bool false) fun t165 =>
 k3 t165 w) ∧
 (True))) fun _ t4 w =>
 R t4 w)
 (drH w fun S w =>
 nilc t0 fun t167 =>
 fad 1 t167 fun t168 =>
 rdS S (fun w => ld1 t168 w.heap) fun t169 =>
 nilc t0 fun t171 =>
 fad 3 t171 fun t172 =>
 rdS S (fun w => ld1 t172 w.heap) fun t173 =>
 rdS S (fun w => ldN 37 t3 w.heap) fun t174 =>
 efC (cal P f_law10_asks [t169, t173, t174]) w fun S t175 w =>
 R t175 w))))))
theorem k_law10_world_does : kO Tryz.f32 A_law10_world_does = true := by kernel_rfl
theorem s_law10_world_does (h : SQ Q (c_law10_world_does t0 t1 w)) : cal P f_law10_world_does [t0, t1] w Q := sO Tryz.func32 rfl (by kernel_rfl) k_law10_world_does (by kernel_rfl) h

/-- (*flurry/tape.Tape).On -/
def A_tape_Tape_On : An := (An.s (An.r []) (An.s (An.r []) An.o))
def c_tape_Tape_On (t0 : Value) (w : World) (R : KR) : Prop :=
 cal P f_tape_Tape_may [t0] w fun t4 w =>
 bi .eql t4 (.int .i64 0) fun t5 =>
 R t5 w
theorem k_tape_Tape_On : kO Tryz.f33 A_tape_Tape_On = true := by kernel_rfl
theorem s_tape_Tape_On (h : SQ Q (c_tape_Tape_On t0 w)) : cal P f_tape_Tape_On [t0] w Q := sO Tryz.func33 rfl (by kernel_rfl) k_tape_Tape_On (by kernel_rfl) h

/-- flurry/tape.New -/
def A_tape_New : An := (An.s (An.r []) (An.s (An.r []) An.o))
def c_tape_New (w : World) (R : KR) : Prop :=
 rdP P (Instr.build T_tape_Tape #[(1, (.int .i64 (-1))), (3, (.bool true))]) w fun t1 =>
 bx T_tape_Tape t1 w fun t2 w =>
 R t2 w
theorem k_tape_New : kO Tryz.f34 A_tape_New = true := by kernel_rfl
theorem s_tape_New (h : SQ Q (c_tape_New w)) : cal P f_tape_New [] w Q := sO Tryz.func34 rfl (by kernel_rfl) k_tape_New (by kernel_rfl) h

/-- flurry/flurrylaw10.child -/
def A_law10_child : An := (An.s (An.r []) (An.s (An.dt (Pl.step 0 (Pl.step 1 (Pl.step 2 (Pl.step 3 (Pl.step 4 (Pl.step 5 (Pl.br (Pl.alt 6 (Pl.step 7 (Pl.step 8 (Pl.step 9 (Pl.step 10 (Pl.step 11 (Pl.step 12 Pl.nil)))))) (Pl.alt 10 (Pl.step 6 (Pl.step 7 (Pl.step 8 (Pl.step 9 (Pl.step 11 (Pl.step 12 Pl.nil)))))) Pl.non))))))))) [6, 11] [5]) (An.s (An.r []) An.o)))
def c_law10_child (t0 t1 : Value) (w : World) (R : KR) : Prop :=
 bx T_api_Block t0 w fun t2 w =>
 efP P (Instr.alloc T_api_Block true (.tuple #[])) w fun t4 w =>
 drH w fun S w =>
 jn1 (fun k0 =>
 rdS S (fun w => ldN 34 t2 w.heap) fun t8 =>
 lenS t1 fun t11 =>
 rdS S (rdP P (Builtin.min_ #[T_int, T_int] T_int #[t11, (.int .i64 200)])) fun t12 =>
 slc 1 t1 none (some t12) fun t13 =>
 (efC (cal P f_ref03_Child [t8, t13]) w fun S t14_1 w =>
 ext 0 t14_1 fun t15_1 =>
 ext 1 t14_1 fun t16_1 =>
 efS S (efP P (Instr.alloc T_api_Block true (.tuple #[]))) w fun t5_1 w =>
 efC (fun w K => stN 34 t5_1 t15_1 w (K undef)) w fun S _ w =>
 k0 t5_1 w) ∧
 ((efS S (efP P (Instr.alloc T_api_Block true (.tuple #[]))) w fun t5 w =>
 efC (cal P f_ref03_Child [t8, t13]) w fun S t14 w =>
 ext 0 t14 fun t15 =>
 ext 1 t14 fun t16 =>
 efC (fun w K => stN 34 t5 t15 w (K undef)) w fun S _ w =>
 k0 t5 w) ∧
 (True))) fun _ t5_2 w =>
 ldN 34 t5_2 w.heap fun t17 =>
 stN 34 t4 t17 w fun w =>
 ldN 34 t4 w.heap fun r1 =>
 R r1 w
theorem k_law10_child : kO Tryz.f35 A_law10_child = true := by kernel_rfl
theorem s_law10_child (h : SQ Q (c_law10_child t0 t1 w)) : cal P f_law10_child [t0, t1] w Q := sO Tryz.func35 rfl (by kernel_rfl) k_law10_child (by kernel_rfl) h

/-- (*flurry/tape.Tape).Arm -/
def A_tape_Tape_Arm : An := (An.s (An.r []) (An.s (An.s (An.r []) (An.s (An.r []) (An.s (An.s (An.r []) An.o) An.o))) (An.s (An.s (An.r []) (An.s (An.s (An.r []) An.o) An.o)) (An.s (An.r []) (An.s (An.r []) An.o)))))
def c_tape_Tape_Arm (t0 t1 : Value) (w : World) (R : KR) : Prop :=
 cal P f_tape_Tape_may [t0] w fun t7 w =>
 bi .neq t7 (.int .i64 0) fun t9 =>
 cnd t9
 (R t7 w)
 (bi .lss t1 (.int .i64 0) fun t12 =>
 cnd t12
 (R (.int .i64 1) w)
 (nilc t0 fun t15 =>
 fad 1 t15 fun t16 =>
 st1 t16 t1 w fun w =>
 R (.int .i64 0) w))
theorem k_tape_Tape_Arm : kO Tryz.f36 A_tape_Tape_Arm = true := by kernel_rfl
theorem s_tape_Tape_Arm (h : SQ Q (c_tape_Tape_Arm t0 t1 w)) : cal P f_tape_Tape_Arm [t0, t1] w Q := sO Tryz.func36 rfl (by kernel_rfl) k_tape_Tape_Arm (by kernel_rfl) h

/-- (*flurry/tape.Tape).Restart -/
def A_tape_Tape_Restart : An := (An.s (An.r []) (An.s (An.s (An.r []) (An.b (An.s (An.r []) (An.s (An.s (An.r []) An.o) (An.s (An.r []) (An.s (An.s (An.r []) (An.s (An.r []) An.o)) An.o)))))) (An.s (An.r []) An.o)))
def c_tape_Tape_Restart (t0 : Value) (w : World) (R : KR) : Prop :=
 cal P f_tape_Tape_may [t0] w fun t4 w =>
 bi .eql t4 (.int .i64 0) fun t6 =>
 cnd t6
 (R (.int .i64 7) w)
 (bi .eql t4 (.int .i64 5) fun t8 =>
 cnd t8
 (nilc t0 fun t10 =>
 fad 2 t10 fun t11 =>
 st1 t11 (.bool false) w fun w =>
 R (.int .i64 0) w)
 (R (.int .i64 2) w))
theorem k_tape_Tape_Restart : kO Tryz.f37 A_tape_Tape_Restart = true := by kernel_rfl
theorem s_tape_Tape_Restart (h : SQ Q (c_tape_Tape_Restart t0 w)) : cal P f_tape_Tape_Restart [t0] w Q := sO Tryz.func37 rfl (by kernel_rfl) k_tape_Tape_Restart (by kernel_rfl) h

/-- (*flurry/tape.Tape).Len -/
def A_tape_Tape_Len : An := (An.s (An.r []) (An.s (An.s (An.r []) (An.s (An.s (An.r []) An.o) An.o)) (An.s (An.r []) An.o)))
def c_tape_Tape_Len (t0 : Value) (w : World) (R : KR) : Prop :=
 cal P f_tape_Tape_may [t0] w fun t4 w =>
 bi .eql t4 (.int .i64 2) fun t5 =>
 cnd t5
 (R (.int .i64 0) w)
 (nilc t0 fun t7 =>
 fad 0 t7 fun t8 =>
 ld1 t8 w.heap fun t9 =>
 lenS t9 fun t10 =>
 R t10 w)
theorem k_tape_Tape_Len : kO Tryz.f38 A_tape_Tape_Len = true := by kernel_rfl
theorem s_tape_Tape_Len (h : SQ Q (c_tape_Tape_Len t0 w)) : cal P f_tape_Tape_Len [t0] w Q := sO Tryz.func38 rfl (by kernel_rfl) k_tape_Tape_Len (by kernel_rfl) h

/-- flurry/tape.told -/
def A_tape_told : An := (An.s (An.r []) (An.s (An.r []) (An.s (An.r []) (An.s (An.r []) An.o))))
def c_tape_told (t0 : Value) (w : World) (R : KR) : Prop :=
 lenS t0 fun t6 =>
 efP P (Instr.makeSlice T_sl_uint8 t6 t6) w fun t7 w =>
 efP P (Builtin.copy_ #[T_sl_uint8, T_sl_uint8] T_int #[t7, t0]) w fun t10 w =>
 rdP P (Instr.sliceAt T_sl_uint8 t7 none (some t10) (some t10)) w fun t14 =>
 R t14 w
theorem k_tape_told : kO Tryz.f39 A_tape_told = true := by kernel_rfl
theorem s_tape_told (h : SQ Q (c_tape_told t0 w)) : cal P f_tape_told [t0] w Q := sO Tryz.func39 rfl (by kernel_rfl) k_tape_told (by kernel_rfl) h

/-- (*flurry/tape.Tape).Clone -/
def A_tape_Tape_Clone : An := (An.s (An.r []) (An.s (An.s (An.r []) (An.s (An.s (An.r []) An.o) An.o)) (An.s (An.r []) (An.s (An.r []) (An.s (An.r []) An.o)))))
def c_tape_Tape_Clone (t0 : Value) (w : World) (R : KR) : Prop :=
 cal P f_tape_Tape_may [t0] w fun t5 w =>
 bi .eql t5 (.int .i64 2) fun t6 =>
 cnd t6
 (R (.pointer none) w)
 (nilc t0 fun t8 =>
 ldN 4 t8 w.heap fun t9 =>
 efP P (Instr.alloc T_tape_Tape true (.tuple #[])) w fun t3 w =>
 stN 4 t3 t9 w fun w =>
 nilc t0 fun t11 =>
 fad 0 t11 fun t12 =>
 ld1 t12 w.heap fun t13 =>
 cal P f_tape_told [t13] w fun t14 w =>
 fad 0 t3 fun t15 =>
 st1 t15 t14 w fun w =>
 R t3 w)
theorem k_tape_Tape_Clone : kO Tryz.f40 A_tape_Tape_Clone = true := by kernel_rfl
theorem s_tape_Tape_Clone (h : SQ Q (c_tape_Tape_Clone t0 w)) : cal P f_tape_Tape_Clone [t0] w Q := sO Tryz.func40 rfl (by kernel_rfl) k_tape_Tape_Clone (by kernel_rfl) h

/-- flurry/block.Check -/
def A_block_Check : An := (An.s (An.r []) (An.s (An.b (An.s (An.j [3] (An.s (An.r []) (An.s An.o (An.r [])))) (An.s (An.s (An.r []) An.o) (An.s (An.r [[19]]) (An.s (An.s (An.r []) An.o) An.o))))) (An.s (An.r []) An.o)))
def c_block_Check (t0 : Value) (w : World) (R : KR) : Prop :=
 bx T_api_Block t0 w fun t1 w =>
 jn1 (fun k0 =>
 fad 32 t1 fun t4 =>
 ld1 t4 w.heap fun t5 =>
 bi .lss t5 (.int .i64 0) fun t6 =>
 cnd t6
 (k0 t6 w)
 (fad 33 t1 fun t7 =>
 ld1 t7 w.heap fun t8 =>
 lenS t8 fun t9 =>
 bi .gtr t9 (.int .i64 200) fun t10 =>
 k0 t10 w)) fun _ t3 w =>
 cnd t3
 (R (.int .i64 30) w)
 (fad 32 t1 fun t12 =>
 ld1 t12 w.heap fun t13 =>
 bi .eql t13 (.int .i64 0) fun t14 =>
 jn1 (fun k1 =>
 gif t14 true
 (fad 0 t1 fun t16 =>
 ldN 32 t16 w.heap fun t17 =>
 rdP P (Instr.build T_api_ID #[]) w fun t18 =>
 rdP P (eqS .neq T_api_ID (Operand.tmp 17) (Operand.tmp 18) t17 t18) w fun t19 =>
 k1 t19 w)
 (k1 undef w)) fun _ t19_1 w =>
 pik t14 t19_1 (.bool false) fun t20 =>
 cnd t20
 (R (.int .i64 30) w)
 (R (.int .i64 0) w))
theorem k_block_Check : kO Tryz.f41 A_block_Check = true := by kernel_rfl
theorem s_block_Check (h : SQ Q (c_block_Check t0 w)) : cal P f_block_Check [t0] w Q := sO Tryz.func41 rfl (by kernel_rfl) k_block_Check (by kernel_rfl) h

/-- (*flurry/chain.Chain).add -/
def A_chain_Chain_add : An := (An.s (An.r []) (An.s (An.r []) (An.s (An.dc [0, 1, 2, 3, 4, 5, 6, 7, 8, 9, 10] [10] []) (An.dt (Pl.step 0 (Pl.step 1 (Pl.step 2 (Pl.step 3 (Pl.step 4 (Pl.step 5 (Pl.step 6 (Pl.step 10 (Pl.step 11 (Pl.step 12 (Pl.step 13 (Pl.step 14 (Pl.br (Pl.alt 7 (Pl.br (Pl.alt 8 (Pl.br (Pl.alt 9 (Pl.step 15 (Pl.step 16 (Pl.step 17 (Pl.step 18 (Pl.step 19 (Pl.step 20 (Pl.step 21 (Pl.step 22 Pl.nil)))))))) (Pl.alt 15 (Pl.step 9 (Pl.step 16 (Pl.step 17 (Pl.step 18 (Pl.step 19 (Pl.step 20 (Pl.step 21 (Pl.step 22 Pl.nil)))))))) Pl.non))) (Pl.alt 15 (Pl.step 8 (Pl.step 9 (Pl.step 16 (Pl.step 17 (Pl.step 18 (Pl.step 19 (Pl.step 20 (Pl.step 21 (Pl.step 22 Pl.nil))))))))) Pl.non))) (Pl.alt 15 (Pl.step 7 (Pl.step 8 (Pl.step 9 (Pl.step 16 (Pl.step 17 (Pl.step 18 (Pl.step 19 (Pl.step 20 (Pl.step 21 (Pl.step 22 Pl.nil)))))))))) Pl.non))))))))))))))) [16, 19, 22] []))))
def c_chain_Chain_add (t0 t1 : Value) (w : World) (R : KR) : Prop :=
 bx T_api_Block t1 w fun t3 w =>
 ldN 34 t3 w.heap fun t7 =>
 cal P f_block_ID [t7] w fun t8 w =>
 ext 0 t8 fun t9 =>
 ext 1 t8 fun t10 =>
 efP P (Instr.alloc T_api_ID true (.tuple #[])) w fun t4 w =>
 stN 32 t4 t9 w fun w =>
 drH w fun S w =>
 nilc t0 fun t12 =>
 fad 3 t12 fun t13 =>
 rdS S (fun w => ld1 t13 w.heap) fun t14 =>
 rdS S (fun w => ldN 32 t4 w.heap) fun t15 =>
 nilc t0 fun t17 =>
 fad 1 t17 fun t18 =>
 rdS S (fun w => ld1 t18 w.heap) fun t19 =>
 lenS t19 fun t20 =>
 efC (fun w K => efU P (Instr.mapUpdate T_map_api_ID_int t14 t15 t20) w (K undef)) w fun S _ w =>
 drH w fun S w =>
 jn0 (fun k0 =>
 nilc t0 fun t24 =>
 fad 1 t24 fun t25 =>
 rdS S (fun w => ld1 t25 w.heap) fun t26 =>
 rdS S (fun w => ldN 34 t3 w.heap) fun t27 =>
 nilc t0 fun t32 =>
 fad 2 t32 fun t33 =>
 rdS S (fun w => ld1 t33 w.heap) fun t34 =>
 rdS S (fun w => ldN 32 t4 w.heap) fun t35 =>
 (efS S (cal P f_block_Clone [t27]) w fun t28_1 w =>
 (efS S (efP P (Instr.buildSlice T_sl_api_Block 1 #[(0, t28_1)])) w fun t29_2 w =>
 (efS S (efP P (Builtin.append_ #[T_sl_api_Block, T_sl_api_Block] T_sl_api_Block #[t26, t29_2])) w fun t30_3 w =>
 efS S (efP P (Instr.buildSlice T_sl_api_ID 1 #[(0, t35)])) w fun t36_3 w =>
 efC (efP P (Builtin.append_ #[T_sl_api_ID, T_sl_api_ID] T_sl_api_ID #[t34, t36_3])) w fun S t37_3 w =>
 nilc t0 fun t38_3 =>
 fad 1 t38_3 fun t39_3 =>
 efC (fun w K => st1 t39_3 t30_3 w (K undef)) w fun S _ w =>
 nilc t0 fun t40_3 =>
 fad 2 t40_3 fun t41_3 =>
 efC (fun w K => st1 t41_3 t37_3 w (K undef)) w fun S _ w =>
 k0 w) ∧
 ((efS S (efP P (Instr.buildSlice T_sl_api_ID 1 #[(0, t35)])) w fun t36_2 w =>
 efS S (efP P (Builtin.append_ #[T_sl_api_Block, T_sl_api_Block] T_sl_api_Block #[t26, t29_2])) w fun t30_2 w =>
 efC (efP P (Builtin.append_ #[T_sl_api_ID, T_sl_api_ID] T_sl_api_ID #[t34, t36_2])) w fun S t37_2 w =>
 nilc t0 fun t38_2 =>
 fad 1 t38_2 fun t39_2 =>
 efC (fun w K => st1 t39_2 t30_2 w (K undef)) w fun S _ w =>
 nilc t0 fun t40_2 =>
 fad 2 t40_2 fun t41_2 =>
 efC (fun w K => st1 t41_2 t37_2 w (K undef)) w fun S _ w =>
 k0 w) ∧
 (True))) ∧
 ((efS S (efP P (Instr.buildSlice T_sl_api_ID 1 #[(0, t35)])) w fun t36_1 w =>
 efS S (efP P (Instr.buildSlice T_sl_api_Block 1 #[(0, t28_1)])) w fun t29_1 w =>
 efS S (efP P (Builtin.append_ #[T_sl_api_Block, T_sl_api_Block] T_sl_api_Block #[t26, t29_1])) w fun t30_1 w =>
 efC (efP P (Builtin.append_ #[T_sl_api_ID, T_sl_api_ID] T_sl_api_ID #[t34, t36_1])) w fun S t37_1 w =>
 nilc t0 fun t38_1 =>
 fad 1 t38_1 fun t39_1 =>
 efC (fun w K => st1 t39_1 t30_1 w (K undef)) w fun S _ w =>
 nilc t0 fun t40_1 =>
 fad 2 t40_1 fun t41_1 =>
 efC (fun w K => st1 t41_1 t37_1 w (K undef)) w fun S _ w =>
 k0 w) ∧
 (True))) ∧
 ((efS S (efP P (Instr.buildSlice T_sl_api_ID 1 #[(0, t35)])) w fun t36 w =>
 efS S (cal P f_block_Clone [t27]) w fun t28 w =>
 efS S (efP P (Instr.buildSlice T_sl_api_Block 1 #[(0, t28)])) w fun t29 w =>
 efS S (efP P (Builtin.append_ #[T_sl_api_Block, T_sl_api_Block] T_sl_api_Block #[t26, t29])) w fun t30 w =>
 efC (efP P (Builtin.append_ #[T_sl_api_ID, T_sl_api_ID] T_sl_api_ID #[t34, t36])) w fun S t37 w =>
 nilc t0 fun t38 =>
 fad 1 t38 fun t39 =>
 efC (fun w K => st1 t39 t30 w (K undef)) w fun S _ w =>
 nilc t0 fun t40 =>
 fad 2 t40 fun t41 =>
 efC (fun w K => st1 t41 t37 w (K undef)) w fun S _ w =>
 k0 w) ∧
 (True))) fun _ w =>
 R (.tuple #[]) w
theorem k_chain_Chain_add : kO Tryz.f42 A_chain_Chain_add = true := by kernel_rfl
theorem s_chain_Chain_add (h : SQ Q (c_chain_Chain_add t0 t1 w)) : cal P f_chain_Chain_add [t0, t1] w Q := sO Tryz.func42 rfl (by kernel_rfl) k_chain_Chain_add (by kernel_rfl) h

/-- flurry/rec.Scan -/
def A_rec_Scan : An := (An.s (An.r []) (An.s (An.r []) (An.s (An.s (An.r []) (An.s (An.s (An.r []) An.o) An.o)) (An.s (An.r []) An.o))))
def c_rec_Scan (t0 : Value) (w : World) (R : KR) : Prop :=
 cal P f_rec_scan [t0] w fun t8 w =>
 ext 0 t8 fun t9 =>
 ext 1 t8 fun t10 =>
 lenS t10 fun t12 =>
 bi .eql t12 (.int .i64 0) fun t13 =>
 cnd t13
 (R (.tuple #[(.slice none 0 0), (.int .i64 0)]) w)
 (drw w fun w =>
 lenS t10 fun t17 =>
 bi .sub t17 (.int .i64 1) fun t18 =>
 ixs 1 t10 t18 fun t19 =>
 ld1 t19 w.heap fun t20 =>
 R (.tuple #[t9, t20]) w)
theorem k_rec_Scan : kO Tryz.f43 A_rec_Scan = true := by kernel_rfl
theorem s_rec_Scan (h : SQ Q (c_rec_Scan t0 w)) : cal P f_rec_Scan [t0] w Q := sO Tryz.func43 rfl (by kernel_rfl) k_rec_Scan (by kernel_rfl) h

/-- flurry/block.Linked -/
def A_block_Linked : An := (An.s (An.r []) (An.s (An.r []) (An.s (An.b (An.s (An.r [[18]]) (An.s (An.s (An.r []) An.o) (An.s (An.r [[28], [36]]) (An.s (An.s (An.r []) An.o) An.o))))) (An.s (An.r []) An.o))))
def c_block_Linked (t0 t1 : Value) (w : World) (R : KR) : Prop :=
 bx T_api_Block t0 w fun t2 w =>
 bx T_api_Block t1 w fun t3 w =>
 ldN 34 t3 w.heap fun t8 =>
 cal P f_block_ID [t8] w fun t9 w =>
 ext 0 t9 fun t10 =>
 ext 1 t9 fun t11 =>
 efP P (Instr.alloc T_api_ID true (.tuple #[])) w fun t5 w =>
 stN 32 t5 t10 w fun w =>
 bi .neq t11 (.int .i64 0) fun t14 =>
 jn1 (fun k0 =>
 gif t14 false
 (ldN 34 t2 w.heap fun t16 =>
 cal P f_block_Check [t16] w fun t17 w =>
 bi .neq t17 (.int .i64 0) fun t18 =>
 k0 t18 w)
 (k0 undef w)) fun _ t18_1 w =>
 pik t14 (.bool true) t18_1 fun t19 =>
 cnd t19
 (R (.int .i64 30) w)
 (fad 0 t2 fun t21 =>
 ldN 32 t21 w.heap fun t22 =>
 ldN 32 t5 w.heap fun t23 =>
 rdP P (eqS .neq T_api_ID (Operand.tmp 22) (Operand.tmp 23) t22 t23) w fun t24 =>
 jn1 (fun k1 =>
 gif t24 false
 (fad 32 t3 fun t26 =>
 ld1 t26 w.heap fun t27 =>
 bi .eql t27 (.int .i64 9223372036854775807) fun t28 =>
 k1 t28 w)
 (k1 undef w)) fun _ t28_1 w =>
 pik t24 (.bool true) t28_1 fun t29 =>
 jn1 (fun k2 =>
 gif t29 false
 (fad 32 t2 fun t31 =>
 ld1 t31 w.heap fun t32 =>
 fad 32 t3 fun t33 =>
 ld1 t33 w.heap fun t34 =>
 bi .add t34 (.int .i64 1) fun t35 =>
 bi .neq t32 t35 fun t36 =>
 k2 t36 w)
 (k2 undef w)) fun _ t36_1 w =>
 pik t29 (.bool true) t36_1 fun t37 =>
 cnd t37
 (R (.int .i64 31) w)
 (R (.int .i64 0) w))
theorem k_block_Linked : kO Tryz.f44 A_block_Linked = true := by kernel_rfl
theorem s_block_Linked (h : SQ Q (c_block_Linked t0 t1 w)) : cal P f_block_Linked [t0, t1] w Q := sO Tryz.func44 rfl (by kernel_rfl) k_block_Linked (by kernel_rfl) h

/-- (*flurry/chain.Chain).last -/
def A_chain_Chain_last : An := (An.s (An.r []) (An.s (An.dc [0, 1, 2, 3, 4, 5, 6, 7, 8, 9, 10, 11, 12] [12] []) An.o))
def c_chain_Chain_last (t0 : Value) (w : World) (R : KR) : Prop :=
 efP P (Instr.alloc T_api_Block true (.tuple #[])) w fun t2 w =>
 drH w fun S w =>
 nilc t0 fun t4 =>
 fad 1 t4 fun t5 =>
 rdS S (fun w => ld1 t5 w.heap) fun t6 =>
 nilc t0 fun t8 =>
 fad 1 t8 fun t9 =>
 rdS S (fun w => ld1 t9 w.heap) fun t10 =>
 lenS t10 fun t11 =>
 bi .sub t11 (.int .i64 1) fun t12 =>
 ixs 34 t6 t12 fun t13 =>
 rdS S (fun w => ldN 34 t13 w.heap) fun t14 =>
 efC (fun w K => stN 34 t2 t14 w (K undef)) w fun S _ w =>
 ldN 34 t2 w.heap fun r0 =>
 R r0 w
theorem k_chain_Chain_last : kO Tryz.f45 A_chain_Chain_last = true := by kernel_rfl
theorem s_chain_Chain_last (h : SQ Q (c_chain_Chain_last t0 w)) : cal P f_chain_Chain_last [t0] w Q := sO Tryz.func45 rfl (by kernel_rfl) k_chain_Chain_last (by kernel_rfl) h

/-- flurry/rec.Size -/
def A_rec_Size : An := (An.s (An.r []) (An.s (An.s (An.r []) (An.s (An.s (An.r []) An.o) An.o)) (An.s (An.r []) An.o)))
def c_rec_Size (t0 : Value) (w : World) (R : KR) : Prop :=
 bx T_api_Block t0 w fun t1 w =>
 ldN 34 t1 w.heap fun t3 =>
 cal P f_block_Check [t3] w fun t4 w =>
 bi .neq t4 (.int .i64 0) fun t5 =>
 cnd t5
 (R (.int .i64 0) w)
 (fad 33 t1 fun t6 =>
 ld1 t6 w.heap fun t7 =>
 lenS t7 fun t8 =>
 bi .add (.int .i64 58) t8 fun t9 =>
 bi .add t9 (.int .i64 8) fun t10 =>
 R t10 w)
theorem k_rec_Size : kO Tryz.f46 A_rec_Size = true := by kernel_rfl
theorem s_rec_Size (h : SQ Q (c_rec_Size t0 w)) : cal P f_rec_Size [t0] w Q := sO Tryz.func46 rfl (by kernel_rfl) k_rec_Size (by kernel_rfl) h

/-- (*flurry/tape.Tape).Truncate -/
def A_tape_Tape_Truncate : An := (An.s (An.r []) (An.s (An.s (An.r []) (An.s (An.r []) (An.s (An.s (An.r []) An.o) An.o))) (An.s (An.s (An.r [[20]]) (An.s (An.s (An.r []) An.o) An.o)) (An.s (An.r []) (An.s (An.r []) An.o)))))
def c_tape_Tape_Truncate (t0 t1 : Value) (w : World) (R : KR) : Prop :=
 cal P f_tape_Tape_may [t0] w fun t7 w =>
 bi .neq t7 (.int .i64 0) fun t9 =>
 cnd t9
 (R t7 w)
 (bi .lss t1 (.int .i64 0) fun t12 =>
 jn1 (fun k0 =>
 gif t12 false
 (nilc t0 fun t16 =>
 fad 0 t16 fun t17 =>
 ld1 t17 w.heap fun t18 =>
 lenS t18 fun t19 =>
 bi .gtr t1 t19 fun t20 =>
 k0 t20 w)
 (k0 undef w)) fun _ t20_1 w =>
 pik t12 (.bool true) t20_1 fun t21 =>
 cnd t21
 (R (.int .i64 1) w)
 (nilc t0 fun t24 =>
 fad 0 t24 fun t25 =>
 ld1 t25 w.heap fun t26 =>
 slc 1 t26 none (some t1) fun t28 =>
 cal P f_tape_told [t28] w fun t29 w =>
 nilc t0 fun t30 =>
 fad 0 t30 fun t31 =>
 st1 t31 t29 w fun w =>
 R (.int .i64 0) w))
theorem k_tape_Tape_Truncate : kO Tryz.f47 A_tape_Tape_Truncate = true := by kernel_rfl
theorem s_tape_Tape_Truncate (h : SQ Q (c_tape_Tape_Truncate t0 t1 w)) : cal P f_tape_Tape_Truncate [t0, t1] w Q := sO Tryz.func47 rfl (by kernel_rfl) k_tape_Tape_Truncate (by kernel_rfl) h

/-- (*flurry/tape.Tape).may -/
def A_tape_Tape_may : An := (An.s (An.r []) (An.s (An.b (An.s (An.r [[11]]) (An.s (An.s (An.r []) An.o) (An.s (An.r []) (An.s (An.s (An.r []) An.o) An.o))))) (An.s (An.r []) An.o)))
def c_tape_Tape_may (t0 : Value) (w : World) (R : KR) : Prop :=
 nilP false t0 fun t5 =>
 jn1 (fun k0 =>
 gif t5 false
 (nilc t0 fun t8 =>
 fad 3 t8 fun t9 =>
 ld1 t9 w.heap fun t10 =>
 notB t10 fun t11 =>
 k0 t11 w)
 (k0 undef w)) fun _ t11_1 w =>
 pik t5 (.bool true) t11_1 fun t12 =>
 cnd t12
 (R (.int .i64 2) w)
 (nilc t0 fun t15 =>
 fad 2 t15 fun t16 =>
 ld1 t16 w.heap fun t17 =>
 cnd t17
 (R (.int .i64 5) w)
 (R (.int .i64 0) w))
theorem k_tape_Tape_may : kO Tryz.f48 A_tape_Tape_may = true := by kernel_rfl
theorem s_tape_Tape_may (h : SQ Q (c_tape_Tape_may t0 w)) : cal P f_tape_Tape_may [t0] w Q := sO Tryz.func48 rfl (by kernel_rfl) k_tape_Tape_may (by kernel_rfl) h

/-- (*flurry/chain.Chain).All -/
def A_chain_Chain_All : An := (An.s (An.r []) (An.s (An.r []) (An.s (An.r []) (An.s (An.j [] (An.s (An.r []) (An.s (An.dc [0, 1, 2, 3, 5, 6, 7, 8, 4, 9, 10, 11] [9, 10, 11] []) An.o))) (An.s (An.r []) An.o)))))
def c_chain_Chain_All (t0 : Value) (w : World) (R : KR) : Prop :=
 efP P (Instr.alloc T_sl_api_Block true (.tuple #[])) w fun t3 w =>
 efP P (Instr.alloc T_sl_api_ID true (.tuple #[])) w fun t4 w =>
 jn0 (fun k0 =>
 cal P f_chain_Chain_none [t0] w fun t6 w =>
 notB t6 fun t7 =>
 cnd t7
 (drH w fun S w =>
 nilc t0 fun t9 =>
 fad 1 t9 fun t10 =>
 rdS S (fun w => ld1 t10 w.heap) fun t11 =>
 nilc t0 fun t14 =>
 fad 2 t14 fun t15 =>
 rdS S (fun w => ld1 t15 w.heap) fun t16 =>
 efS S (cal P f_slices_Clone_api_Block_api_Block [t11]) w fun t12 w =>
 efC (cal P f_slices_Clone_api_ID_api_ID [t16]) w fun S t17 w =>
 efC (fun w K => st1 t3 t12 w (K undef)) w fun S _ w =>
 efC (fun w K => st1 t4 t17 w (K undef)) w fun S _ w =>
 k0 w)
 (k0 w)) fun _ w =>
 R (.func (Fn.func f_chain_Chain_All_1) #[] #[t3, t4]) w
theorem k_chain_Chain_All : kO Tryz.f49 A_chain_Chain_All = true := by kernel_rfl
theorem s_chain_Chain_All (h : SQ Q (c_chain_Chain_All t0 w)) : cal P f_chain_Chain_All [t0] w Q := sO Tryz.func49 rfl (by kernel_rfl) k_chain_Chain_All (by kernel_rfl) h

/-- flurry/flurryref03.ID -/
def A_ref03_ID : An := (An.s (An.r []) (An.s (An.r []) (An.s (An.s (An.r []) (An.s (An.s (An.r []) An.o) An.o)) (An.s (An.r []) An.o))))
def c_ref03_ID (t0 : Value) (w : World) (R : KR) : Prop :=
 bx T_api_Block t0 w fun t1 w =>
 efP P (Instr.alloc T_api_ID true (.tuple #[])) w fun t2 w =>
 ldN 34 t1 w.heap fun t7 =>
 cal P f_ref03_Bytes [t7] w fun t8 w =>
 ext 0 t8 fun t9 =>
 ext 1 t8 fun t10 =>
 bi .neq t10 (.int .i64 0) fun t12 =>
 cnd t12
 (rdP P (Instr.build T_api_ID #[]) w fun t13 =>
 stN 32 t2 t13 w fun w =>
 ldN 32 t2 w.heap fun r0 =>
 R (.tuple #[r0, t10]) w)
 (cal P f_ref02_Sum [t9] w fun t16 w =>
 stN 32 t2 t16 w fun w =>
 ldN 32 t2 w.heap fun r1 =>
 R (.tuple #[r1, (.int .i64 0)]) w)
theorem k_ref03_ID : kO Tryz.f50 A_ref03_ID = true := by kernel_rfl
theorem s_ref03_ID (h : SQ Q (c_ref03_ID t0 w)) : cal P f_ref03_ID [t0] w Q := sO Tryz.func50 rfl (by kernel_rfl) k_ref03_ID (by kernel_rfl) h

/-- flurry/flurryref03.Check -/
def A_ref03_Check : An := (An.s (An.r []) (An.s (An.s (An.r [[10], [16], [20], [21]]) (An.s (An.s (An.r []) An.o) An.o)) (An.s (An.r []) An.o)))
def c_ref03_Check (t0 : Value) (w : World) (R : KR) : Prop :=
 bx T_api_Block t0 w fun t1 w =>
 fad 32 t1 fun t3 =>
 ld1 t3 w.heap fun t4 =>
 bi .lss t4 (.int .i64 0) fun t5 =>
 jn1 (fun k0 =>
 gif t5 false
 (fad 33 t1 fun t7 =>
 ld1 t7 w.heap fun t8 =>
 lenS t8 fun t9 =>
 bi .gtr t9 (.int .i64 200) fun t10 =>
 k0 t10 w)
 (k0 undef w)) fun _ t10_1 w =>
 pik t5 (.bool true) t10_1 fun t11 =>
 jn1 (fun k1 =>
 gif t11 false
 (fad 32 t1 fun t13 =>
 ld1 t13 w.heap fun t14 =>
 bi .eql t14 (.int .i64 0) fun t15 =>
 k1 t15 w)
 (k1 undef w)) fun _ t16 w =>
 jn1 (fun k2 =>
 gif t16 true
 (fad 0 t1 fun t17 =>
 ldN 32 t17 w.heap fun t18 =>
 rdP P (Instr.build T_api_ID #[]) w fun t19 =>
 rdP P (eqS .neq T_api_ID (Operand.tmp 18) (Operand.tmp 19) t18 t19) w fun t20 =>
 k2 t20 w)
 (k2 undef w)) fun _ t20_1 w =>
 jn1 (fun k3 =>
 gif t11 false
 (pik t16 t20_1 (.bool false) fun t21 =>
 k3 t21 w)
 (k3 undef w)) fun _ t21_1 w =>
 pik t11 (.bool true) t21_1 fun t22 =>
 cnd t22
 (R (.int .i64 30) w)
 (R (.int .i64 0) w)
theorem k_ref03_Check : kO Tryz.f51 A_ref03_Check = true := by kernel_rfl
theorem s_ref03_Check (h : SQ Q (c_ref03_Check t0 w)) : cal P f_ref03_Check [t0] w Q := sO Tryz.func51 rfl (by kernel_rfl) k_ref03_Check (by kernel_rfl) h

/-- (*flurry/chain.Chain).may -/
def A_chain_Chain_may : An := (An.s (An.r []) (An.s (An.b (An.s (An.r []) (An.s (An.s (An.r []) An.o) (An.s (An.r []) (An.s (An.s (An.r []) An.o) An.o))))) (An.s (An.r []) An.o)))
def c_chain_Chain_may (t0 : Value) (w : World) (R : KR) : Prop :=
 cal P f_chain_Chain_none [t0] w fun t5 w =>
 cnd t5
 (R (.int .i64 2) w)
 (nilc t0 fun t8 =>
 fad 4 t8 fun t9 =>
 ld1 t9 w.heap fun t10 =>
 cnd t10
 (R (.int .i64 5) w)
 (R (.int .i64 0) w))
theorem k_chain_Chain_may : kO Tryz.f52 A_chain_Chain_may = true := by kernel_rfl
theorem s_chain_Chain_may (h : SQ Q (c_chain_Chain_may t0 w)) : cal P f_chain_Chain_may [t0] w Q := sO Tryz.func52 rfl (by kernel_rfl) k_chain_Chain_may (by kernel_rfl) h

/-- flurry/block.Clone -/
def A_block_Clone : An := (An.s (An.r []) (An.s (An.r []) (An.s (An.r []) An.o)))
def c_block_Clone (t0 : Value) (w : World) (R : KR) : Prop :=
 bx T_api_Block t0 w fun t1 w =>
 efP P (Instr.alloc T_api_Block true (.tuple #[])) w fun t2 w =>
 fad 33 t1 fun t3 =>
 ld1 t3 w.heap fun t4 =>
 cal P f_bytes_Clone [t4] w fun t5 w =>
 fad 33 t1 fun t6 =>
 st1 t6 t5 w fun w =>
 ldN 34 t1 w.heap fun t7 =>
 stN 34 t2 t7 w fun w =>
 ldN 34 t2 w.heap fun r0 =>
 R r0 w
theorem k_block_Clone : kO Tryz.f53 A_block_Clone = true := by kernel_rfl
theorem s_block_Clone (h : SQ Q (c_block_Clone t0 w)) : cal P f_block_Clone [t0] w Q := sO Tryz.func53 rfl (by kernel_rfl) k_block_Clone (by kernel_rfl) h

/-- flurry/flurryref09.Bytes -/
def A_ref09_Bytes : An := (An.s (An.r []) (An.s (An.r []) (An.s (An.s (An.r []) (An.s (An.s (An.r []) An.o) An.o)) (An.s (An.dc [0, 1, 2, 4, 5, 6, 3, 7, 8, 9] [7, 8] []) (An.s (An.r []) (An.s (An.r []) (An.s (An.s (An.r []) (An.b (An.l [6, 8] (An.s (An.s (An.r []) (An.s An.o An.o)) (An.s (An.b (An.r [])) (An.r [])))))) (An.s (An.r []) An.o))))))))
def c_ref09_Bytes (t0 : Value) (w : World) (R : KR) : Prop :=
 bx T_api_Block t0 w fun t1 w =>
 ldN 34 t1 w.heap fun t10 =>
 cal P f_ref03_Bytes [t10] w fun t11 w =>
 ext 0 t11 fun t12 =>
 ext 1 t11 fun t13 =>
 bi .neq t13 (.int .i64 0) fun t15 =>
 cnd t15
 (R (.tuple #[(.slice none 0 0), t13]) w)
 (drH w fun S w =>
 lenS t12 fun t18 =>
 cvi .u64 t18 fun t19 =>
 fad 32 t1 fun t21 =>
 rdS S (fun w => ld1 t21 w.heap) fun t22 =>
 cvi .u64 t22 fun t23 =>
 efS S (cal P f_ref01_Num [(.int .i64 4), t19]) w fun t20 w =>
 efC (cal P f_ref01_Num [(.int .i64 8), t23]) w fun S t24 w =>
 efC (efP P (Builtin.append_ #[T_sl_uint8, T_sl_uint8] T_sl_uint8 #[t20, t24])) w fun S t25 w =>
 efP P (Builtin.append_ #[T_sl_uint8, T_sl_uint8] T_sl_uint8 #[t25, t12]) w fun t28 w =>
 cal P f_ref02_Sum [t28] w fun t30 w =>
 efP P (Instr.alloc T_api_ID true (.tuple #[])) w fun t7 w =>
 stN 32 t7 t30 w fun w =>
 lp2 t28 (.int .i64 0) w fun _ t6 t8 w again0 =>
 bi .lss t8 (.int .i64 8) fun t32 =>
 cnd t32
 (ixa 32 1 t7 t8 fun t37 =>
 ld1 t37 w.heap fun t38 =>
 efP P (Instr.buildSlice T_sl_uint8 1 #[(0, t38)]) w fun t39 w =>
 efP P (Builtin.append_ #[T_sl_uint8, T_sl_uint8] T_sl_uint8 #[t6, t39]) w fun t40 w =>
 bi .add t8 (.int .i64 1) fun t34 =>
 again0 t40 t34 w)
 (R (.tuple #[t6, (.int .i64 0)]) w))
theorem k_ref09_Bytes : kO Tryz.f54 A_ref09_Bytes = true := by kernel_rfl
theorem s_ref09_Bytes (h : SQ Q (c_ref09_Bytes t0 w)) : cal P f_ref09_Bytes [t0] w Q := sO Tryz.func54 rfl (by kernel_rfl) k_ref09_Bytes (by kernel_rfl) h

/-- (*flurry/chain.Chain).none -/
def A_chain_Chain_none : An := (An.s (An.r []) (An.s (An.r [[10]]) An.o))
def c_chain_Chain_none (t0 : Value) (w : World) (R : KR) : Prop :=
 nilP false t0 fun t4 =>
 jn1 (fun k0 =>
 gif t4 false
 (nilc t0 fun t7 =>
 fad 0 t7 fun t8 =>
 ld1 t8 w.heap fun t9 =>
 nilP false t9 fun t10 =>
 k0 t10 w)
 (k0 undef w)) fun _ t10_1 w =>
 pik t4 (.bool true) t10_1 fun t11 =>
 R t11 w
theorem k_chain_Chain_none : kO Tryz.f55 A_chain_Chain_none = true := by kernel_rfl
theorem s_chain_Chain_none (h : SQ Q (c_chain_Chain_none t0 w)) : cal P f_chain_Chain_none [t0] w Q := sO Tryz.func55 rfl (by kernel_rfl) k_chain_Chain_none (by kernel_rfl) h

/-- (*flurry/tape.Tape).goes -/
def A_tape_Tape_goes : An := (An.r [])
def c_tape_Tape_goes (t0 : Value) (w : World) (R : KR) : Prop :=
 nilc t0 fun t4 =>
 fad 2 t4 fun t5 =>
 st1 t5 (.bool true) w fun w =>
 nilc t0 fun t6 =>
 fad 1 t6 fun t7 =>
 st1 t7 (.int .i64 (-1)) w fun w =>
 R (.tuple #[]) w
theorem k_tape_Tape_goes : kO Tryz.f56 A_tape_Tape_goes = true := by kernel_rfl
theorem s_tape_Tape_goes (h : SQ Q (c_tape_Tape_goes t0 w)) : cal P f_tape_Tape_goes [t0] w Q := sO Tryz.func56 rfl (by kernel_rfl) k_tape_Tape_goes (by kernel_rfl) h

/-- flurry/flurryref10.Open -/
def A_ref10_Open : An := (An.s (An.r []) (An.s (An.s (An.r []) (An.s (An.s (An.r []) An.o) An.o)) (An.s (An.s (An.r [[21]]) (An.s (An.s (An.r []) An.o) An.o)) (An.s (An.r []) (An.s (An.r []) (An.s (An.r []) (An.s (An.j [9] (An.s (An.r []) (An.b (An.l [9, 10] (An.s (An.s (An.r []) (An.s An.o An.o)) (An.s (An.b (An.s (An.s (An.dc [0, 1, 2, 3, 4, 5, 6, 7, 8, 9, 10, 11, 12, 13, 14, 15, 16, 17] [16] []) (An.s An.o An.o)) (An.s (An.dc [0, 1, 2, 3, 4, 5, 6, 7, 8, 9, 10, 11, 12, 13] [10, 13] []) (An.r [])))) (An.r []))))))) (An.s (An.s (An.r []) (An.s (An.r []) An.o)) (An.s (An.r []) An.o)))))))))
def c_ref10_Open (t0 t1 : Value) (w : World) (R : KR) : Prop :=
 bx T_api_Block t1 w fun t3 w =>
 nilc t0 fun t12 =>
 fad 1 t12 fun t13 =>
 ld1 t13 w.heap fun t14 =>
 cnd t14
 (R (.tuple #[(.pointer none), (.int .i64 5)]) w)
 (ldN 34 t3 w.heap fun t15 =>
 cal P f_ref03_Check [t15] w fun t16 w =>
 bi .neq t16 (.int .i64 0) fun t17 =>
 jn1 (fun k0 =>
 gif t17 false
 (fad 32 t3 fun t19 =>
 ld1 t19 w.heap fun t20 =>
 bi .neq t20 (.int .i64 0) fun t21 =>
 k0 t21 w)
 (k0 undef w)) fun _ t21_1 w =>
 pik t17 (.bool true) t21_1 fun t22 =>
 cnd t22
 (R (.tuple #[(.pointer none), (.int .i64 30)]) w)
 (ldN 34 t3 w.heap fun t24 =>
 cal P f_ref03_Clone [t24] w fun t25 w =>
 efP P (Instr.buildSlice T_sl_api_Block 1 #[(0, t25)]) w fun t26 w =>
 rdP P (Instr.build T_flurryref10_Chain #[(0, t0), (1, t26)]) w fun t27 =>
 bx T_flurryref10_Chain t27 w fun t28 w =>
 nilc t0 fun t31 =>
 fad 0 t31 fun t32 =>
 ld1 t32 w.heap fun t33 =>
 cal P f_ref09_Scan [t33] w fun t34 w =>
 ext 0 t34 fun t35 =>
 ext 1 t34 fun t36 =>
 jn1 (fun k1 =>
 lp2 (.int .i64 0) (.int .i64 0) w fun _ t9 t10 w again2 =>
 lenS t35 fun t39 =>
 bi .lss t10 t39 fun t40 =>
 cnd t40
 (drH w fun S w =>
 ixs 34 t35 t10 fun t45 =>
 rdS S (fun w => ldN 34 t45 w.heap) fun t46 =>
 nilc t28 fun t48 =>
 fad 1 t48 fun t49 =>
 rdS S (fun w => ld1 t49 w.heap) fun t50 =>
 nilc t28 fun t52 =>
 fad 1 t52 fun t53 =>
 rdS S (fun w => ld1 t53 w.heap) fun t54 =>
 lenS t54 fun t55 =>
 bi .sub t55 (.int .i64 1) fun t56 =>
 ixs 34 t50 t56 fun t57 =>
 rdS S (fun w => ldN 34 t57 w.heap) fun t58 =>
 efC (cal P f_ref03_Linked [t46, t58]) w fun S t59 w =>
 bi .neq t59 (.int .i64 0) fun t60 =>
 cnd t60
 (k1 t9 w)
 (drH w fun S w =>
 nilc t28 fun t63 =>
 fad 1 t63 fun t64 =>
 rdS S (fun w => ld1 t64 w.heap) fun t65 =>
 ixs 34 t35 t10 fun t68 =>
 rdS S (fun w => ldN 34 t68 w.heap) fun t69 =>
 efS S (efP P (Instr.buildSlice T_sl_api_Block 1 #[(0, t69)])) w fun t70 w =>
 efC (efP P (Builtin.append_ #[T_sl_api_Block, T_sl_api_Block] T_sl_api_Block #[t65, t70])) w fun S t71 w =>
 nilc t28 fun t72 =>
 fad 1 t72 fun t73 =>
 efC (fun w K => st1 t73 t71 w (K undef)) w fun S _ w =>
 ixs 34 t35 t10 fun t77 =>
 ldN 34 t77 w.heap fun t78 =>
 cal P f_ref09_Size [t78] w fun t79 w =>
 bi .add t9 t79 fun t80 =>
 bi .add t10 (.int .i64 1) fun t42 =>
 again2 t80 t42 w))
 (k1 t9 w)) fun _ t9_1 w =>
 nilc t0 fun t83 =>
 fad 0 t83 fun t84 =>
 ld1 t84 w.heap fun t85 =>
 lenS t85 fun t86 =>
 bi .lss t9_1 t86 fun t87 =>
 cnd t87
 (cal P f_ref08_Tape_Truncate [t0, t9_1] w fun t90 w =>
 R (.tuple #[t28, (.int .i64 0)]) w)
 (R (.tuple #[t28, (.int .i64 0)]) w)))
theorem k_ref10_Open : kO Tryz.f57 A_ref10_Open = true := by kernel_rfl
theorem s_ref10_Open (h : SQ Q (c_ref10_Open t0 t1 w)) : cal P f_ref10_Open [t0, t1] w Q := sO Tryz.func57 rfl (by kernel_rfl) k_ref10_Open (by kernel_rfl) h

/-- (*flurry/flurryref10.Chain).Last -/
def A_ref10_Chain_Last : An := (An.s (An.r []) (An.s (An.dc [0, 1, 2, 3, 4, 5, 6, 7, 8, 9, 10, 11, 12, 13] [13] []) (An.s (An.r []) (An.s (An.d [0, 1, 2, 3, 4] []) An.o))))
def c_ref10_Chain_Last (t0 : Value) (w : World) (R : KR) : Prop :=
 efP P (Instr.alloc T_api_ID true (.tuple #[])) w fun t2 w =>
 drH w fun S w =>
 nilc t0 fun t8 =>
 fad 1 t8 fun t9 =>
 rdS S (fun w => ld1 t9 w.heap) fun t10 =>
 nilc t0 fun t12 =>
 fad 1 t12 fun t13 =>
 rdS S (fun w => ld1 t13 w.heap) fun t14 =>
 lenS t14 fun t15 =>
 bi .sub t15 (.int .i64 1) fun t16 =>
 ixs 34 t10 t16 fun t17 =>
 rdS S (fun w => ldN 34 t17 w.heap) fun t18 =>
 efS S (efP P (Instr.alloc T_api_Block true (.tuple #[]))) w fun t4 w =>
 efC (fun w K => stN 34 t4 t18 w (K undef)) w fun S _ w =>
 ldN 34 t4 w.heap fun t20 =>
 cal P f_ref03_ID [t20] w fun t21 w =>
 ext 0 t21 fun t22 =>
 ext 1 t21 fun t23 =>
 efP P (Instr.alloc T_api_ID true (.tuple #[])) w fun t5 w =>
 stN 32 t5 t22 w fun w =>
 drH w fun S w =>
 rdS S (fun w => ldN 32 t5 w.heap) fun t24 =>
 fad 32 t4 fun t25 =>
 rdS S (fun w => ld1 t25 w.heap) fun t26 =>
 efS S (fun w K => stN 32 t2 t24 w (K undef)) w fun _ w =>
 ldN 32 t2 w.heap fun r0 =>
 R (.tuple #[r0, t26]) w
theorem k_ref10_Chain_Last : kO Tryz.f58 A_ref10_Chain_Last = true := by kernel_rfl
theorem s_ref10_Chain_Last (h : SQ Q (c_ref10_Chain_Last t0 w)) : cal P f_ref10_Chain_Last [t0] w Q := sO Tryz.func58 rfl (by kernel_rfl) k_ref10_Chain_Last (by kernel_rfl) h

/-- flurry/rec.Bytes -/
def A_rec_Bytes : An := (An.s (An.r []) (An.s (An.r []) (An.s (An.s (An.r []) (An.s (An.s (An.r []) An.o) An.o)) (An.s (An.r []) (An.s (An.r []) (An.s (An.r []) (An.s (An.r []) (An.s (An.r []) (An.s (An.s (An.r []) (An.s (An.s (An.r []) An.o) An.o)) (An.s (An.r []) (An.s (An.r []) An.o)))))))))))
def c_rec_Bytes (t0 : Value) (w : World) (R : KR) : Prop :=
 bx T_api_Block t0 w fun t1 w =>
 ldN 34 t1 w.heap fun t10 =>
 cal P f_block_Bytes [t10] w fun t11 w =>
 ext 0 t11 fun t12 =>
 ext 1 t11 fun t13 =>
 bi .neq t13 (.int .i64 0) fun t15 =>
 cnd t15
 (R (.tuple #[(.slice none 0 0), t13]) w)
 (cal P f_pack_New [(.int .i64 258)] w fun t17 w =>
 lenS t12 fun t20 =>
 cvi .u32 t20 fun t21 =>
 cal P f_pack_Packer_Int [t17, t21] w fun t22 w =>
 fad 32 t1 fun t24 =>
 ld1 t24 w.heap fun t25 =>
 cvi .u64 t25 fun t26 =>
 cal P f_pack_Packer_Long [t17, t26] w fun t27 w =>
 cal P f_pack_Packer_Fixed [t17, t12] w fun t30 w =>
 cal P f_pack_Packer_Out [t17] w fun t33 w =>
 ext 0 t33 fun t34 =>
 ext 1 t33 fun t35 =>
 bi .neq t35 (.int .i64 0) fun t37 =>
 cnd t37
 (R (.tuple #[(.slice none 0 0), t35]) w)
 (cal P f_sha_Sum [t34] w fun t40 w =>
 efP P (Instr.alloc T_api_ID true (.tuple #[])) w fun t8 w =>
 stN 32 t8 t40 w fun w =>
 sla 32 1 t8 none (some (.int .i64 8)) fun t42 =>
 efP P (Builtin.append_ #[T_sl_uint8, T_sl_uint8] T_sl_uint8 #[t34, t42]) w fun t43 w =>
 R (.tuple #[t43, (.int .i64 0)]) w))
theorem k_rec_Bytes : kO Tryz.f59 A_rec_Bytes = true := by kernel_rfl
theorem s_rec_Bytes (h : SQ Q (c_rec_Bytes t0 w)) : cal P f_rec_Bytes [t0] w Q := sO Tryz.func59 rfl (by kernel_rfl) k_rec_Bytes (by kernel_rfl) h

/-- (*flurry/tape.Tape).Append -/
def A_tape_Tape_Append : An := (An.s (An.r []) (An.s (An.s (An.r []) (An.s (An.r []) (An.s (An.s (An.r []) An.o) An.o))) (An.s (An.r []) (An.s (An.s (An.r []) (An.b (An.l [6, 25] (An.s (An.r []) (An.s (An.s An.o An.o) (An.s (An.b (An.s (An.r []) (An.s (An.s (An.r []) (An.s (An.s (An.r []) An.o) An.o)) (An.r [])))) (An.r []))))))) (An.s (An.s (An.r []) (An.b (An.l [40] (An.s (An.r []) (An.s (An.s An.o An.o) (An.s (An.b (An.s (An.r []) (An.s (An.r []) (An.s (An.j [11] (An.s (An.r []) (An.s (An.s (An.r []) (An.r [])) An.o))) (An.s (An.dc [0, 1, 2, 3, 4, 5, 6, 7, 8, 9, 10, 11] [8, 11] []) (An.s (An.r []) (An.s (An.s (An.r []) (An.s (An.r []) An.o)) An.o))))))) (An.r []))))))) (An.s (An.r []) An.o))))))
def c_tape_Tape_Append (t0 t1 : Value) (w : World) (R : KR) : Prop :=
 cal P f_tape_Tape_may [t0] w fun t13 w =>
 bi .neq t13 (.int .i64 0) fun t15 =>
 cnd t15
 (R t13 w)
 (nilc t0 fun t18 =>
 fad 0 t18 fun t19 =>
 ld1 t19 w.heap fun t20 =>
 lenS t20 fun t21 =>
 bi .sub (.int .i64 262144) t21 fun t22 =>
 lenS t1 fun t24 =>
 lp2 t22 (.int .i64 0) w fun _ t6 t25 w again0 =>
 bi .lss t25 t24 fun t26 =>
 cnd t26
 (ixs 1 t1 t25 fun t27 =>
 ld1 t27 w.heap fun t28 =>
 lenS t28 fun t30 =>
 bi .gtr t30 t6 fun t32 =>
 cnd t32
 (R (.int .i64 6) w)
 (lenS t28 fun t35 =>
 bi .sub t6 t35 fun t36 =>
 bi .add t25 (.int .i64 1) fun t37 =>
 again0 t36 t37 w))
 (lenS t1 fun t39 =>
 lp1 (.int .i64 0) w fun _ t40 w again1 =>
 bi .lss t40 t39 fun t41 =>
 cnd t41
 (ixs 1 t1 t40 fun t42 =>
 ld1 t42 w.heap fun t43 =>
 lenS t43 fun t45 =>
 jn1 (fun k2 =>
 nilc t0 fun t47 =>
 fad 1 t47 fun t48 =>
 ld1 t48 w.heap fun t49 =>
 bi .neq t49 (.int .i64 (-1)) fun t50 =>
 cnd t50
 (nilc t0 fun t53 =>
 fad 1 t53 fun t54 =>
 ld1 t54 w.heap fun t55 =>
 rdP P (Builtin.min_ #[T_int, T_int] T_int #[t45, t55]) w fun t56 =>
 nilc t0 fun t58 =>
 fad 1 t58 fun t59 =>
 ld1 t59 w.heap fun t60 =>
 bi .sub t60 t56 fun t62 =>
 nilc t0 fun t63 =>
 fad 1 t63 fun t64 =>
 st1 t64 t62 w fun w =>
 k2 t56 w)
 (k2 t45 w)) fun _ t11 w =>
 drH w fun S w =>
 nilc t0 fun t67 =>
 fad 0 t67 fun t68 =>
 rdS S (fun w => ld1 t68 w.heap) fun t69 =>
 slc 1 t43 none (some t11) fun t72 =>
 efC (efP P (Builtin.append_ #[T_sl_uint8, T_sl_uint8] T_sl_uint8 #[t69, t72])) w fun S t73 w =>
 nilc t0 fun t74 =>
 fad 0 t74 fun t75 =>
 efC (fun w K => st1 t75 t73 w (K undef)) w fun S _ w =>
 lenS t43 fun t78 =>
 bi .lss t11 t78 fun t79 =>
 cnd t79
 (cal P f_tape_Tape_goes [t0] w fun t81 w =>
 R (.int .i64 5) w)
 (bi .add t40 (.int .i64 1) fun t82 =>
 again1 t82 w))
 (R (.int .i64 0) w)))
theorem k_tape_Tape_Append : kO Tryz.f60 A_tape_Tape_Append = true := by kernel_rfl
theorem s_tape_Tape_Append (h : SQ Q (c_tape_Tape_Append t0 t1 w)) : cal P f_tape_Tape_Append [t0, t1] w Q := sO Tryz.func60 rfl (by kernel_rfl) k_tape_Tape_Append (by kernel_rfl) h

/-- flurry/flurryref03.Clone -/
def A_ref03_Clone : An := (An.s (An.r []) (An.s (An.r []) (An.s (An.r []) (An.s (An.r []) An.o))))
def c_ref03_Clone (t0 : Value) (w : World) (R : KR) : Prop :=
 bx T_api_Block t0 w fun t1 w =>
 efP P (Instr.alloc T_api_Block true (.tuple #[])) w fun t2 w =>
 fad 33 t1 fun t5 =>
 ld1 t5 w.heap fun t6 =>
 efP P (Builtin.append_ #[T_sl_uint8, T_sl_uint8] T_sl_uint8 #[(.slice none 0 0), t6]) w fun t7 w =>
 fad 33 t1 fun t8 =>
 st1 t8 t7 w fun w =>
 ldN 34 t1 w.heap fun t9 =>
 stN 34 t2 t9 w fun w =>
 ldN 34 t2 w.heap fun r0 =>
 R r0 w
theorem k_ref03_Clone : kO Tryz.f61 A_ref03_Clone = true := by kernel_rfl
theorem s_ref03_Clone (h : SQ Q (c_ref03_Clone t0 w)) : cal P f_ref03_Clone [t0] w Q := sO Tryz.func61 rfl (by kernel_rfl) k_ref03_Clone (by kernel_rfl) h

/-- (*flurry/flurryref10.Chain).Accept -/
def A_ref10_Chain_Accept : An := (An.s (An.r []) (An.s (An.s (An.r [[20]]) (An.s (An.s (An.r []) An.o) An.o)) (An.s (An.s (An.dc [0, 1, 2, 3, 4, 5, 6, 7, 8, 9, 10, 11, 12, 13, 14] [13] []) (An.s (An.r []) (An.s (An.s (An.r []) An.o) An.o))) (An.s (An.r []) (An.s (An.s (An.r []) (An.s (An.s (An.r []) An.o) An.o)) (An.s (An.s (An.r []) (An.s (An.r []) (An.s (An.s (An.r []) (An.s (An.r []) An.o)) An.o))) (An.s (An.dc [0, 1, 2, 3, 4, 5, 6, 7, 8, 9, 10, 11] [8, 11] []) (An.s (An.r []) An.o))))))))
def c_ref10_Chain_Accept (t0 t1 : Value) (w : World) (R : KR) : Prop :=
 bx T_api_Block t1 w fun t3 w =>
 nilc t0 fun t10 =>
 fad 2 t10 fun t11 =>
 ld1 t11 w.heap fun t12 =>
 jn1 (fun k0 =>
 gif t12 false
 (nilc t0 fun t15 =>
 fad 0 t15 fun t16 =>
 ld1 t16 w.heap fun t17 =>
 nilc t17 fun t18 =>
 fad 1 t18 fun t19 =>
 ld1 t19 w.heap fun t20 =>
 k0 t20 w)
 (k0 undef w)) fun _ t20_1 w =>
 pik t12 (.bool true) t20_1 fun t21 =>
 cnd t21
 (R (.int .i64 5) w)
 (drH w fun S w =>
 rdS S (fun w => ldN 34 t3 w.heap) fun t22 =>
 nilc t0 fun t24 =>
 fad 1 t24 fun t25 =>
 rdS S (fun w => ld1 t25 w.heap) fun t26 =>
 nilc t0 fun t28 =>
 fad 1 t28 fun t29 =>
 rdS S (fun w => ld1 t29 w.heap) fun t30 =>
 lenS t30 fun t31 =>
 bi .sub t31 (.int .i64 1) fun t32 =>
 ixs 34 t26 t32 fun t33 =>
 rdS S (fun w => ldN 34 t33 w.heap) fun t34 =>
 efC (cal P f_ref03_Linked [t22, t34]) w fun S t35 w =>
 bi .neq t35 (.int .i64 0) fun t37 =>
 cnd t37
 (R t35 w)
 (ldN 34 t3 w.heap fun t40 =>
 cal P f_ref09_Bytes [t40] w fun t41 w =>
 ext 0 t41 fun t42 =>
 ext 1 t41 fun t43 =>
 bi .neq t43 (.int .i64 0) fun t45 =>
 cnd t45
 (R t43 w)
 (nilc t0 fun t48 =>
 fad 0 t48 fun t49 =>
 ld1 t49 w.heap fun t50 =>
 efP P (Instr.buildSlice T_sl_sl_uint8 1 #[(0, t42)]) w fun t52 w =>
 cal P f_ref08_Tape_Append [t50, t52] w fun t53 w =>
 bi .neq t53 (.int .i64 0) fun t55 =>
 cnd t55
 (bi .eql t53 (.int .i64 5) fun t58 =>
 nilc t0 fun t59 =>
 fad 2 t59 fun t60 =>
 st1 t60 t58 w fun w =>
 R t53 w)
 (drH w fun S w =>
 nilc t0 fun t64 =>
 fad 1 t64 fun t65 =>
 rdS S (fun w => ld1 t65 w.heap) fun t66 =>
 rdS S (fun w => ldN 34 t3 w.heap) fun t67 =>
 efS S (cal P f_ref03_Clone [t67]) w fun t68 w =>
 efS S (efP P (Instr.buildSlice T_sl_api_Block 1 #[(0, t68)])) w fun t69 w =>
 efC (efP P (Builtin.append_ #[T_sl_api_Block, T_sl_api_Block] T_sl_api_Block #[t66, t69])) w fun S t70 w =>
 nilc t0 fun t71 =>
 fad 1 t71 fun t72 =>
 efC (fun w K => st1 t72 t70 w (K undef)) w fun S _ w =>
 R (.int .i64 0) w))))
theorem k_ref10_Chain_Accept : kO Tryz.f62 A_ref10_Chain_Accept = true := by kernel_rfl
theorem s_ref10_Chain_Accept (h : SQ Q (c_ref10_Chain_Accept t0 t1 w)) : cal P f_ref10_Chain_Accept [t0, t1] w Q := sO Tryz.func62 rfl (by kernel_rfl) k_ref10_Chain_Accept (by kernel_rfl) h

/-- (*flurry/flurryref08.Tape).Arm -/
def A_ref08_Tape_Arm : An := (An.s (An.r []) (An.s (An.s (An.r []) (An.s (An.s (An.r []) An.o) An.o)) (An.s (An.s (An.r []) (An.s (An.s (An.r []) An.o) An.o)) (An.s (An.r []) (An.s (An.r []) An.o)))))
def c_ref08_Tape_Arm (t0 t1 : Value) (w : World) (R : KR) : Prop :=
 nilc t0 fun t6 =>
 fad 1 t6 fun t7 =>
 ld1 t7 w.heap fun t8 =>
 cnd t8
 (R (.int .i64 5) w)
 (bi .lss t1 (.int .i64 0) fun t10 =>
 cnd t10
 (R (.int .i64 1) w)
 (nilc t0 fun t13 =>
 fad 2 t13 fun t14 =>
 st1 t14 t1 w fun w =>
 R (.int .i64 0) w))
theorem k_ref08_Tape_Arm : kO Tryz.f63 A_ref08_Tape_Arm = true := by kernel_rfl
theorem s_ref08_Tape_Arm (h : SQ Q (c_ref08_Tape_Arm t0 t1 w)) : cal P f_ref08_Tape_Arm [t0, t1] w Q := sO Tryz.func63 rfl (by kernel_rfl) k_ref08_Tape_Arm (by kernel_rfl) h

/-- (*flurry/flurryref08.Tape).Restart -/
def A_ref08_Tape_Restart : An := (An.s (An.r []) (An.s (An.s (An.r []) (An.s (An.s (An.r []) An.o) An.o)) (An.s (An.r []) (An.s (An.r []) An.o))))
def c_ref08_Tape_Restart (t0 : Value) (w : World) (R : KR) : Prop :=
 nilc t0 fun t4 =>
 fad 1 t4 fun t5 =>
 ld1 t5 w.heap fun t6 =>
 notB t6 fun t7 =>
 cnd t7
 (R (.int .i64 7) w)
 (nilc t0 fun t9 =>
 fad 1 t9 fun t10 =>
 st1 t10 (.bool false) w fun w =>
 R (.int .i64 0) w)
theorem k_ref08_Tape_Restart : kO Tryz.f64 A_ref08_Tape_Restart = true := by kernel_rfl
theorem s_ref08_Tape_Restart (h : SQ Q (c_ref08_Tape_Restart t0 w)) : cal P f_ref08_Tape_Restart [t0] w Q := sO Tryz.func64 rfl (by kernel_rfl) k_ref08_Tape_Restart (by kernel_rfl) h

/-- (*flurry/flurryref08.Tape).Append -/
def A_ref08_Tape_Append : An := (An.s (An.r []) (An.s (An.s (An.r []) (An.s (An.s (An.r []) An.o) An.o)) (An.s (An.r []) (An.s (An.s (An.r []) (An.b (An.l [5, 6] (An.s (An.s (An.r []) (An.s An.o An.o)) (An.s (An.b (An.s (An.s (An.r []) (An.s (An.s (An.r []) An.o) An.o)) (An.r []))) (An.r [])))))) (An.s (An.s (An.r []) (An.b (An.l [7] (An.s (An.s (An.r []) (An.s An.o An.o)) (An.s (An.b (An.s (An.s (An.r []) (An.s (An.s (An.r []) (An.s (An.r []) An.o)) An.o)) (An.s (An.j [] (An.s (An.r []) (An.s (An.r []) An.o))) (An.dc [0, 1, 2, 3, 4, 5, 6, 7, 8, 9, 10, 11, 12, 13] [10, 13] [])))) (An.r [])))))) (An.s (An.r []) An.o))))))
def c_ref08_Tape_Append (t0 t1 : Value) (w : World) (R : KR) : Prop :=
 nilc t0 fun t9 =>
 fad 1 t9 fun t10 =>
 ld1 t10 w.heap fun t11 =>
 cnd t11
 (R (.int .i64 5) w)
 (lp2 (.slice none 0 0) (.int .i64 0) w fun _ t5 t6 w again0 =>
 lenS t1 fun t14 =>
 bi .lss t6 t14 fun t15 =>
 cnd t15
 (drw w fun w =>
 ixs 1 t1 t6 fun t20 =>
 ld1 t20 w.heap fun t21 =>
 lenS t21 fun t22 =>
 nilc t0 fun t24 =>
 fad 0 t24 fun t25 =>
 ld1 t25 w.heap fun t26 =>
 lenS t26 fun t27 =>
 bi .sub (.int .i64 262144) t27 fun t28 =>
 lenS t5 fun t30 =>
 bi .sub t28 t30 fun t31 =>
 bi .gtr t22 t31 fun t32 =>
 cnd t32
 (R (.int .i64 6) w)
 (ixs 1 t1 t6 fun t36 =>
 ld1 t36 w.heap fun t37 =>
 efP P (Builtin.append_ #[T_sl_uint8, T_sl_uint8] T_sl_uint8 #[t5, t37]) w fun t38 w =>
 bi .add t6 (.int .i64 1) fun t17 =>
 again0 t38 t17 w))
 (lp1 (.int .i64 0) w fun _ t7 w again1 =>
 lenS t5 fun t41 =>
 bi .lss t7 t41 fun t42 =>
 cnd t42
 (nilc t0 fun t46 =>
 fad 2 t46 fun t47 =>
 ld1 t47 w.heap fun t48 =>
 bi .eql t48 (.int .i64 0) fun t49 =>
 cnd t49
 (cal P f_ref08_Tape_Crash [t0] w fun t51 w =>
 R (.int .i64 5) w)
 (jn0 (fun k2 =>
 nilc t0 fun t53 =>
 fad 2 t53 fun t54 =>
 ld1 t54 w.heap fun t55 =>
 bi .gtr t55 (.int .i64 0) fun t56 =>
 cnd t56
 (nilc t0 fun t58 =>
 fad 2 t58 fun t59 =>
 ld1 t59 w.heap fun t60 =>
 bi .sub t60 (.int .i64 1) fun t61 =>
 nilc t0 fun t62 =>
 fad 2 t62 fun t63 =>
 st1 t63 t61 w fun w =>
 k2 w)
 (k2 w)) fun _ w =>
 drH w fun S w =>
 nilc t0 fun t66 =>
 fad 0 t66 fun t67 =>
 rdS S (fun w => ld1 t67 w.heap) fun t68 =>
 ixs 1 t5 t7 fun t71 =>
 rdS S (fun w => ld1 t71 w.heap) fun t72 =>
 efS S (efP P (Instr.buildSlice T_sl_uint8 1 #[(0, t72)])) w fun t73 w =>
 efC (efP P (Builtin.append_ #[T_sl_uint8, T_sl_uint8] T_sl_uint8 #[t68, t73])) w fun S t74 w =>
 nilc t0 fun t75 =>
 fad 0 t75 fun t76 =>
 efC (fun w K => st1 t76 t74 w (K undef)) w fun S _ w =>
 bi .add t7 (.int .i64 1) fun t44 =>
 again1 t44 w))
 (R (.int .i64 0) w)))
theorem k_ref08_Tape_Append : kO Tryz.f65 A_ref08_Tape_Append = true := by kernel_rfl
theorem s_ref08_Tape_Append (h : SQ Q (c_ref08_Tape_Append t0 t1 w)) : cal P f_ref08_Tape_Append [t0, t1] w Q := sO Tryz.func65 rfl (by kernel_rfl) k_ref08_Tape_Append (by kernel_rfl) h

/-- flurry/flurrylaw10.asks -/
def A_law10_asks : An := (An.s (An.r []) (An.s (An.r []) (An.s (An.r []) (An.s (An.r []) (An.s (An.j [] (An.s (An.r [[55]]) (An.s (An.dc [0, 1, 2, 3, 4, 5, 6, 7, 8, 9, 10, 11, 12] [8, 12] []) An.o))) (An.s (An.r []) (An.s (An.r []) (An.s (An.s (An.dc [0, 1, 2, 3, 4, 5, 6, 7, 8, 9, 10, 11, 12, 13, 14, 15, 16, 17, 18, 19, 20, 21, 22, 24, 25, 23, 26, 27, 28, 29] [2] [[88], [94], [99], [109]]) (An.s (An.s (An.r []) An.o) An.o)) (An.s (An.s (An.r []) (An.b (An.l [114] (An.s (An.r []) (An.s (An.s An.o An.o) (An.s (An.b (An.s (An.r []) (An.r []))) (An.r []))))))) (An.s (An.s (An.r []) (An.b (An.l [132] (An.s (An.r []) (An.s (An.s An.o An.o) (An.s (An.b (An.s (An.r []) (An.s (An.r []) (An.s (An.r []) (An.s (An.r [[157]]) (An.s (An.s (An.r []) An.o) An.o)))))) (An.r []))))))) (An.s (An.r []) An.o)))))))))))
def c_law10_asks (t0 t1 t2 : Value) (w : World) (R : KR) : Prop :=
 bx T_flurrylaw10_Op t2 w fun t5 w =>
 fad 1 t5 fun t26 =>
 ld1 t26 w.heap fun t27 =>
 cal P f_chain_Chain_At [t0, t27] w fun t28 w =>
 ext 0 t28 fun t29 =>
 ext 1 t28 fun t30 =>
 efP P (Instr.alloc T_api_Block true (.tuple #[])) w fun t7 w =>
 stN 34 t7 t29 w fun w =>
 fad 1 t5 fun t33 =>
 ld1 t33 w.heap fun t34 =>
 cal P f_ref10_Chain_At [t1, t34] w fun t35 w =>
 ext 0 t35 fun t36 =>
 ext 1 t35 fun t37 =>
 efP P (Instr.alloc T_api_Block true (.tuple #[])) w fun t9 w =>
 stN 34 t9 t36 w fun w =>
 fad 3 t5 fun t39 =>
 ldN 34 t39 w.heap fun t40 =>
 cal P f_ref03_ID [t40] w fun t41 w =>
 ext 0 t41 fun t42 =>
 ext 1 t41 fun t43 =>
 efP P (Instr.alloc T_api_ID true (.tuple #[])) w fun t11 w =>
 stN 32 t11 t42 w fun w =>
 jn0 (fun k0 =>
 drw w fun w =>
 fad 1 t5 fun t44 =>
 ld1 t44 w.heap fun t45 =>
 bi .geq t45 (.int .i64 0) fun t46 =>
 jn1 (fun k1 =>
 gif t46 true
 (fad 1 t5 fun t48 =>
 ld1 t48 w.heap fun t49 =>
 nilc t1 fun t51 =>
 fad 1 t51 fun t52 =>
 ld1 t52 w.heap fun t53 =>
 lenS t53 fun t54 =>
 bi .lss t49 t54 fun t55 =>
 k1 t55 w)
 (k1 undef w)) fun _ t55_1 w =>
 pik t46 t55_1 (.bool false) fun t56 =>
 cnd t56
 (drH w fun S w =>
 nilc t1 fun t59 =>
 fad 1 t59 fun t60 =>
 rdS S (fun w => ld1 t60 w.heap) fun t61 =>
 fad 1 t5 fun t62 =>
 rdS S (fun w => ld1 t62 w.heap) fun t63 =>
 ixs 34 t61 t63 fun t64 =>
 rdS S (fun w => ldN 34 t64 w.heap) fun t65 =>
 efC (cal P f_ref03_ID [t65]) w fun S t66 w =>
 ext 0 t66 fun t67 =>
 ext 1 t66 fun t68 =>
 efC (fun w K => stN 32 t11 t67 w (K undef)) w fun S _ w =>
 k0 w)
 (k0 w)) fun _ w =>
 ldN 32 t11 w.heap fun t71 =>
 cal P f_chain_Chain_Get [t0, t71] w fun t72 w =>
 ext 0 t72 fun t73 =>
 ext 1 t72 fun t74 =>
 efP P (Instr.alloc T_api_Block true (.tuple #[])) w fun t13 w =>
 stN 34 t13 t73 w fun w =>
 ldN 32 t11 w.heap fun t77 =>
 cal P f_ref10_Chain_Get [t1, t77] w fun t78 w =>
 ext 0 t78 fun t79 =>
 ext 1 t78 fun t80 =>
 efP P (Instr.alloc T_api_Block true (.tuple #[])) w fun t15 w =>
 stN 34 t15 t79 w fun w =>
 drH w fun S w =>
 rdS S (fun w => ldN 34 t7 w.heap) fun t81 =>
 rdS S (fun w => ldN 34 t9 w.heap) fun t82 =>
 efC (cal P f_ref03_Same [t81, t82]) w fun S t83 w =>
 notB t83 fun t84 =>
 jn1 (fun k2 =>
 gif t84 false
 (bi .neq t30 t37 fun t88 =>
 k2 t88 w)
 (k2 undef w)) fun _ t88_1 w =>
 pik t84 (.bool true) t88_1 fun t89 =>
 jn1 (fun k3 =>
 gif t89 false
 (rdS S (fun w => ldN 34 t13 w.heap) fun t91 =>
 rdS S (fun w => ldN 34 t15 w.heap) fun t92 =>
 efS S (cal P f_ref03_Same [t91, t92]) w fun t93 w =>
 notB t93 fun t94 =>
 k3 t94 w)
 (k3 undef w)) fun _ t94_1 w =>
 pik t89 (.bool true) t94_1 fun t95 =>
 jn1 (fun k4 =>
 gif t95 false
 (bi .neq t74 t80 fun t99 =>
 k4 t99 w)
 (k4 undef w)) fun _ t99_1 w =>
 pik t95 (.bool true) t99_1 fun t100 =>
 jn1 (fun k5 =>
 gif t100 false
 (rdS S (fun w => ldN 32 t11 w.heap) fun t103 =>
 rdS S (fun w => ldN 32 t11 w.heap) fun t106 =>
 efS S (cal P f_chain_Chain_Has [t0, t103]) w fun t104 w =>
 efS S (cal P f_ref10_Chain_Find [t1, t106]) w fun t107 w =>
 bi .geq t107 (.int .i64 0) fun t108 =>
 rdS S (rdP P (eqS .neq T_bool (Operand.tmp 104) (Operand.tmp 108) t104 t108)) fun t109 =>
 k5 t109 w)
 (k5 undef w)) fun _ t109_1 w =>
 pik t100 (.bool true) t109_1 fun t110 =>
 cnd t110
 (R (.bool false) w)
 (fad 33 t13 fun t111 =>
 ld1 t111 w.heap fun t112 =>
 lenS t112 fun t113 =>
 lp1 (.int .i64 0) w fun _ t114 w again6 =>
 bi .lss t114 t113 fun t115 =>
 cnd t115
 (fad 33 t13 fun t117 =>
 ld1 t117 w.heap fun t118 =>
 ixs 1 t118 t114 fun t120 =>
 ld1 t120 w.heap fun t121 =>
 bi .xor t121 (.int .u8 255) fun t122 =>
 ixs 1 t118 t114 fun t123 =>
 st1 t123 t122 w fun w =>
 bi .add t114 (.int .i64 1) fun t124 =>
 again6 t124 w)
 (fad 1 t5 fun t125 =>
 ld1 t125 w.heap fun t126 =>
 fad 2 t5 fun t127 =>
 ld1 t127 w.heap fun t128 =>
 lenS t128 fun t129 =>
 efP P (Instr.buildSlice T_sl_int 2 #[(0, t126), (1, t129)]) w fun t130 w =>
 lenS t130 fun t131 =>
 lp1 (.int .i64 0) w fun _ t132 w again7 =>
 bi .lss t132 t131 fun t133 =>
 cnd t133
 (ixs 1 t130 t132 fun t134 =>
 ld1 t134 w.heap fun t135 =>
 ldN 32 t11 w.heap fun t138 =>
 cal P f_chain_Chain_Ancestors [t0, t138, t135] w fun t140 w =>
 ext 0 t140 fun t141 =>
 ext 1 t140 fun t142 =>
 ldN 32 t11 w.heap fun t145 =>
 cal P f_ref10_Chain_Ancestors [t1, t145, t135] w fun t147 w =>
 ext 0 t147 fun t148 =>
 ext 1 t147 fun t149 =>
 cal P f_ref09_SameAll [t141, t148] w fun t152 w =>
 notB t152 fun t153 =>
 jn1 (fun k8 =>
 gif t153 false
 (bi .neq t142 t149 fun t157 =>
 k8 t157 w)
 (k8 undef w)) fun _ t157_1 w =>
 pik t153 (.bool true) t157_1 fun t158 =>
 cnd t158
 (R (.bool false) w)
 (bi .add t132 (.int .i64 1) fun t159 =>
 again7 t159 w))
 (R (.bool true) w)))
theorem k_law10_asks : kO Tryz.f66 A_law10_asks = true := by kernel_rfl
theorem s_law10_asks (h : SQ Q (c_law10_asks t0 t1 t2 w)) : cal P f_law10_asks [t0, t1, t2] w Q := sO Tryz.func66 rfl (by kernel_rfl) k_law10_asks (by kernel_rfl) h

/-- flurry/flurryref03.Child -/
def A_ref03_Child : An := (An.s (An.r []) (An.s (An.r []) (An.s (An.s (An.r [[18], [23]]) (An.s (An.s (An.r []) An.o) An.o)) (An.s (An.r []) An.o))))
def c_ref03_Child (t0 t1 : Value) (w : World) (R : KR) : Prop :=
 bx T_api_Block t0 w fun t2 w =>
 efP P (Instr.alloc T_api_Block true (.tuple #[])) w fun t4 w =>
 ldN 34 t2 w.heap fun t9 =>
 cal P f_ref03_ID [t9] w fun t10 w =>
 ext 0 t10 fun t11 =>
 ext 1 t10 fun t12 =>
 efP P (Instr.alloc T_api_ID true (.tuple #[])) w fun t6 w =>
 stN 32 t6 t11 w fun w =>
 bi .neq t12 (.int .i64 0) fun t14 =>
 jn1 (fun k0 =>
 gif t14 false
 (fad 32 t2 fun t16 =>
 ld1 t16 w.heap fun t17 =>
 bi .eql t17 (.int .i64 9223372036854775807) fun t18 =>
 k0 t18 w)
 (k0 undef w)) fun _ t18_1 w =>
 pik t14 (.bool true) t18_1 fun t19 =>
 jn1 (fun k1 =>
 gif t19 false
 (lenS t1 fun t22 =>
 bi .gtr t22 (.int .i64 200) fun t23 =>
 k1 t23 w)
 (k1 undef w)) fun _ t23_1 w =>
 pik t19 (.bool true) t23_1 fun t24 =>
 cnd t24
 (rdP P (Instr.build T_api_Block #[]) w fun t25 =>
 stN 34 t4 t25 w fun w =>
 ldN 34 t4 w.heap fun r2 =>
 R (.tuple #[r2, (.int .i64 30)]) w)
 (ldN 32 t6 w.heap fun t26 =>
 fad 32 t2 fun t27 =>
 ld1 t27 w.heap fun t28 =>
 bi .add t28 (.int .i64 1) fun t29 =>
 rdP P (Instr.build T_api_Block #[(0, t26), (1, t29), (2, t1)]) w fun t31 =>
 cal P f_ref03_Clone [t31] w fun t32 w =>
 stN 34 t4 t32 w fun w =>
 ldN 34 t4 w.heap fun r3 =>
 R (.tuple #[r3, (.int .i64 0)]) w)
theorem k_ref03_Child : kO Tryz.f67 A_ref03_Child = true := by kernel_rfl
theorem s_ref03_Child (h : SQ Q (c_ref03_Child t0 t1 w)) : cal P f_ref03_Child [t0, t1] w Q := sO Tryz.func67 rfl (by kernel_rfl) k_ref03_Child (by kernel_rfl) h

/-- flurry/block.ID -/
def A_block_ID : An := (An.s (An.r []) (An.s (An.r []) (An.s (An.s (An.r []) (An.s (An.s (An.r []) An.o) An.o)) (An.s (An.r []) An.o))))
def c_block_ID (t0 : Value) (w : World) (R : KR) : Prop :=
 bx T_api_Block t0 w fun t1 w =>
 efP P (Instr.alloc T_api_ID true (.tuple #[])) w fun t2 w =>
 ldN 34 t1 w.heap fun t7 =>
 cal P f_block_Bytes [t7] w fun t8 w =>
 ext 0 t8 fun t9 =>
 ext 1 t8 fun t10 =>
 bi .neq t10 (.int .i64 0) fun t12 =>
 cnd t12
 (rdP P (Instr.build T_api_ID #[]) w fun t13 =>
 stN 32 t2 t13 w fun w =>
 ldN 32 t2 w.heap fun r0 =>
 R (.tuple #[r0, t10]) w)
 (cal P f_sha_Sum [t9] w fun t16 w =>
 stN 32 t2 t16 w fun w =>
 ldN 32 t2 w.heap fun r1 =>
 R (.tuple #[r1, (.int .i64 0)]) w)
theorem k_block_ID : kO Tryz.f68 A_block_ID = true := by kernel_rfl
theorem s_block_ID (h : SQ Q (c_block_ID t0 w)) : cal P f_block_ID [t0] w Q := sO Tryz.func68 rfl (by kernel_rfl) k_block_ID (by kernel_rfl) h

/-- flurry/rec.scan -/
def A_rec_scan : An := (An.s (An.r []) (An.g 0 [4, 5, 6] (An.s (An.r []) (An.s (An.r []) (An.s (An.r []) An.o))) (An.s (An.r []) (An.s (An.s (An.r []) (An.s (An.s (An.r []) An.o) An.o)) (An.s (An.r []) (An.s (An.r []) (An.s (An.r []) An.o)))))))
def c_rec_scan (t0 : Value) (w : World) (R : KR) : Prop :=
 lp3 (.slice none 0 0) (.slice none 0 0) (.int .i64 0) w fun _ t4 t5 t6 w again0 =>
 cal P f_rec_Take [t0, t6] w fun t13 w =>
 ext 0 t13 fun t14 =>
 ext 1 t13 fun t15 =>
 ext 2 t13 fun t16 =>
 efP P (Instr.alloc T_api_Block true (.tuple #[])) w fun t7 w =>
 stN 34 t7 t14 w fun w =>
 bi .neq t16 (.int .i64 0) fun t18 =>
 cnd t18
 (R (.tuple #[t4, t5]) w)
 (ldN 34 t7 w.heap fun t22 =>
 efP P (Instr.buildSlice T_sl_api_Block 1 #[(0, t22)]) w fun t23 w =>
 efP P (Builtin.append_ #[T_sl_api_Block, T_sl_api_Block] T_sl_api_Block #[t4, t23]) w fun t24 w =>
 efP P (Instr.buildSlice T_sl_int 1 #[(0, t15)]) w fun t27 w =>
 efP P (Builtin.append_ #[T_sl_int, T_sl_int] T_sl_int #[t5, t27]) w fun t28 w =>
 again0 t24 t28 t15 w)
theorem k_rec_scan : kO Tryz.f69 A_rec_scan = true := by kernel_rfl
theorem s_rec_scan (h : SQ Q (c_rec_scan t0 w)) : cal P f_rec_scan [t0] w Q := sO Tryz.func69 rfl (by kernel_rfl) k_rec_scan (by kernel_rfl) h

/-- slices.Clone[[]flurry/api.Block,flurry/api.Block] -/
def A_slices_Clone_api_Block_api_Block : An := (An.s (An.r []) (An.s (An.s (An.r []) (An.s (An.s (An.r []) An.o) An.o)) (An.s (An.r []) An.o)))
def c_slices_Clone_api_Block_api_Block (t0 : Value) (w : World) (R : KR) : Prop :=
 nilS false t0 fun t4 =>
 cnd t4
 (R (.slice none 0 0) w)
 (efP P (Instr.buildSlice T_sl_api_Block 0 #[]) w fun t5 w =>
 efP P (Builtin.append_ #[T_sl_api_Block, T_sl_api_Block] T_sl_api_Block #[t5, t0]) w fun t7 w =>
 R t7 w)
theorem k_slices_Clone_api_Block_api_Block : kO Tryz.f70 A_slices_Clone_api_Block_api_Block = true := by kernel_rfl
theorem s_slices_Clone_api_Block_api_Block (h : SQ Q (c_slices_Clone_api_Block_api_Block t0 w)) : cal P f_slices_Clone_api_Block_api_Block [t0] w Q := sO Tryz.func70 rfl (by kernel_rfl) k_slices_Clone_api_Block_api_Block (by kernel_rfl) h

/-- slices.Clone[[]flurry/api.ID,flurry/api.ID] -/
def A_slices_Clone_api_ID_api_ID : An := (An.s (An.r []) (An.s (An.s (An.r []) (An.s (An.s (An.r []) An.o) An.o)) (An.s (An.r []) An.o)))
def c_slices_Clone_api_ID_api_ID (t0 : Value) (w : World) (R : KR) : Prop :=
 nilS false t0 fun t4 =>
 cnd t4
 (R (.slice none 0 0) w)
 (efP P (Instr.buildSlice T_sl_api_ID 0 #[]) w fun t5 w =>
 efP P (Builtin.append_ #[T_sl_api_ID, T_sl_api_ID] T_sl_api_ID #[t5, t0]) w fun t7 w =>
 R t7 w)
theorem k_slices_Clone_api_ID_api_ID : kO Tryz.f71 A_slices_Clone_api_ID_api_ID = true := by kernel_rfl
theorem s_slices_Clone_api_ID_api_ID (h : SQ Q (c_slices_Clone_api_ID_api_ID t0 w)) : cal P f_slices_Clone_api_ID_api_ID [t0] w Q := sO Tryz.func71 rfl (by kernel_rfl) k_slices_Clone_api_ID_api_ID (by kernel_rfl) h

/-- (*flurry/chain.Chain).All$1 -/
def A_chain_Chain_All_1 : AnY := (AnY.s (AnY.c (An.r [])) (AnY.s (AnY.c (An.r [])) (AnY.b (AnY.f (AnY.s (AnY.c (An.r [])) (AnY.c (An.r []))) (AnY.b (AnY.s (AnY.d (An.d [0, 1, 2, 3, 4, 5, 6] [])) (AnY.s AnY.o AnY.o)))))))
def c_chain_Chain_All_1 (t0 t1 t2 : Value) (w : World) (R : KR) : Prop :=
 bx T_func_api_ID_api_Block_bool t0 w fun t3 w =>
 ld1 t1 w.heap fun t6 =>
 cal P f_slices_All_api_Block_api_Block [t6] w fun t7 w =>
 rng P t7 2 w (fun args0 w beg0 fin0 =>
 efP P (Instr.alloc T_api_Block true (.tuple #[])) w fun t5 w =>
 stN 34 t5 (args0.getD 1 undef) w fun w =>
 beg0 w fun w =>
 drH w fun S w =>
 rdS S (fun w => ld1 t3 w.heap) fun t10 =>
 rdS S (fun w => ld1 t2 w.heap) fun t11 =>
 ixs 32 t11 (args0.getD 0 undef) fun t13 =>
 rdS S (fun w => ldN 32 t13 w.heap) fun t14 =>
 rdS S (fun w => ldN 34 t5 w.heap) fun t15 =>
 efS S (cal P f_block_Clone [t15]) w fun t16 w =>
 calY P t10 [t14, t16] w fun t17 w =>
 notB t17 fun t18 =>
 cnd t18
 (fin0 (some .ret) w)
 (fin0 none w)) fun D0 => [(none, fun w =>
 takeD [D0] w fun w =>
 R (.tuple #[]) w), (some (.ret), fun w =>
 takeD [D0] w fun w =>
 R (.tuple #[]) w)]
theorem k_chain_Chain_All_1 : kOY Tryz.f72 A_chain_Chain_All_1 = true := by kernel_rfl
theorem s_chain_Chain_All_1 (h : SQ Q (c_chain_Chain_All_1 t0 t1 t2 w)) : cal P f_chain_Chain_All_1 [t0, t1, t2] w Q := sOY Tryz.func72 rfl (by kernel_rfl) k_chain_Chain_All_1 (by kernel_rfl) h

/-- slices.All[[]flurry/api.Block,flurry/api.Block] -/
def A_slices_All_api_Block_api_Block : An := (An.s (An.r []) (An.s (An.r []) An.o))
def c_slices_All_api_Block_api_Block (t0 : Value) (w : World) (R : KR) : Prop :=
 bx T_sl_api_Block t0 w fun t1 w =>
 R (.func (Fn.func f_slices_All_api_Block_api_Block_1) #[] #[t1]) w
theorem k_slices_All_api_Block_api_Block : kO Tryz.f73 A_slices_All_api_Block_api_Block = true := by kernel_rfl
theorem s_slices_All_api_Block_api_Block (h : SQ Q (c_slices_All_api_Block_api_Block t0 w)) : cal P f_slices_All_api_Block_api_Block [t0] w Q := sO Tryz.func73 rfl (by kernel_rfl) k_slices_All_api_Block_api_Block (by kernel_rfl) h

/-- flurry/flurryref03.Bytes -/
def A_ref03_Bytes : An := (An.s (An.r []) (An.s (An.s (An.r []) (An.s (An.r []) (An.s (An.s (An.r []) An.o) An.o))) (An.s (An.r []) (An.s (An.s (An.r []) (An.b (An.l [5, 6] (An.s (An.s (An.r []) (An.s An.o An.o)) (An.s (An.b (An.r [])) (An.r [])))))) (An.s (An.r []) (An.s (An.r []) (An.s (An.r []) An.o)))))))
def c_ref03_Bytes (t0 : Value) (w : World) (R : KR) : Prop :=
 bx T_api_Block t0 w fun t1 w =>
 ldN 34 t1 w.heap fun t7 =>
 cal P f_ref03_Check [t7] w fun t8 w =>
 bi .neq t8 (.int .i64 0) fun t10 =>
 cnd t10
 (R (.tuple #[(.slice none 0 0), t8]) w)
 (efP P (Instr.buildSlice T_sl_uint8 2 #[(0, (.int .u8 0)), (1, (.int .u8 0))]) w fun t12 w =>
 lp2 t12 (.int .i64 0) w fun _ t5 t6 w again0 =>
 bi .lss t6 (.int .i64 32) fun t14 =>
 cnd t14
 (fad 0 t1 fun t19 =>
 ixa 32 1 t19 t6 fun t20 =>
 ld1 t20 w.heap fun t21 =>
 efP P (Instr.buildSlice T_sl_uint8 1 #[(0, t21)]) w fun t22 w =>
 efP P (Builtin.append_ #[T_sl_uint8, T_sl_uint8] T_sl_uint8 #[t5, t22]) w fun t23 w =>
 bi .add t6 (.int .i64 1) fun t16 =>
 again0 t23 t16 w)
 (fad 32 t1 fun t25 =>
 ld1 t25 w.heap fun t26 =>
 cvi .u64 t26 fun t27 =>
 cal P f_ref01_Num [(.int .i64 8), t27] w fun t28 w =>
 efP P (Builtin.append_ #[T_sl_uint8, T_sl_uint8] T_sl_uint8 #[t5, t28]) w fun t29 w =>
 fad 33 t1 fun t31 =>
 ld1 t31 w.heap fun t32 =>
 lenS t32 fun t33 =>
 cvi .u64 t33 fun t34 =>
 cal P f_ref01_Num [(.int .i64 4), t34] w fun t35 w =>
 efP P (Builtin.append_ #[T_sl_uint8, T_sl_uint8] T_sl_uint8 #[t29, t35]) w fun t36 w =>
 fad 33 t1 fun t38 =>
 ld1 t38 w.heap fun t39 =>
 efP P (Builtin.append_ #[T_sl_uint8, T_sl_uint8] T_sl_uint8 #[t36, t39]) w fun t40 w =>
 R (.tuple #[t40, (.int .i64 0)]) w))
theorem k_ref03_Bytes : kO Tryz.f74 A_ref03_Bytes = true := by kernel_rfl
theorem s_ref03_Bytes (h : SQ Q (c_ref03_Bytes t0 w)) : cal P f_ref03_Bytes [t0] w Q := sO Tryz.func74 rfl (by kernel_rfl) k_ref03_Bytes (by kernel_rfl) h

/-- flurry/flurryref02.Sum -/
def A_ref02_Sum : An := (An.s (An.r []) (An.s (An.r []) (An.s (An.r []) (An.s (An.s (An.r []) (An.b (An.l [5] (An.s (An.s (An.r []) (An.s An.o An.o)) (An.s (An.b (An.dc [0, 1, 2, 3, 4, 5, 6, 7] [6, 7] [])) (An.r [])))))) (An.s (An.r []) (An.s (An.s (An.r []) (An.b (An.l [7] (An.s (An.s (An.r []) (An.s An.o An.o)) (An.s (An.b (An.r [])) (An.r [])))))) (An.s (An.r []) An.o)))))))
def c_ref02_Sum (t0 : Value) (w : World) (R : KR) : Prop :=
 efP P (Instr.alloc T_api_ID true (.tuple #[])) w fun t2 w =>
 cal P f_ref02_padded [t0] w fun t9 w =>
 rdP P (Instr.build T_a8_uint32 #[(0, (.int .u32 1779033703)), (1, (.int .u32 3144134277)), (2, (.int .u32 1013904242)), (3, (.int .u32 2773480762)), (4, (.int .u32 1359893119)), (5, (.int .u32 2600822924)), (6, (.int .u32 528734635)), (7, (.int .u32 1541459225))]) w fun t10 =>
 efP P (Instr.alloc T_a8_uint32 true (.tuple #[])) w fun t4 w =>
 stN 8 t4 t10 w fun w =>
 lp1 (.int .i64 0) w fun _ t5 w again0 =>
 lenS t9 fun t13 =>
 bi .lss t5 t13 fun t14 =>
 cnd t14
 (drH w fun S w =>
 rdS S (fun w => ldN 8 t4 w.heap) fun t17 =>
 bi .add t5 (.int .i64 64) fun t21 =>
 slc 1 t9 (some t5) (some t21) fun t22 =>
 efC (cal P f_ref02_goes [t17, t22]) w fun S t23 w =>
 efC (fun w K => stN 8 t4 t23 w (K undef)) w fun S _ w =>
 bi .add t5 (.int .i64 64) fun t16 =>
 again0 t16 w)
 (efP P (Instr.alloc T_api_ID true (.tuple #[])) w fun t6 w =>
 lp1 (.int .i64 0) w fun _ t7 w again1 =>
 bi .lss t7 (.int .i64 32) fun t25 =>
 cnd t25
 (bi .quo t7 (.int .i64 4) fun t30 =>
 ixa 8 1 t4 t30 fun t31 =>
 ld1 t31 w.heap fun t32 =>
 bi .rem t7 (.int .i64 4) fun t34 =>
 bi .mul (.int .i64 8) t34 fun t35 =>
 bi .sub (.int .i64 24) t35 fun t36 =>
 cvi .u64 t36 fun t37 =>
 sh .shr t32 t37 fun t38 =>
 cvi .u8 t38 fun t39 =>
 ixa 32 1 t6 t7 fun t40 =>
 st1 t40 t39 w fun w =>
 bi .add t7 (.int .i64 1) fun t27 =>
 again1 t27 w)
 (ldN 32 t6 w.heap fun t41 =>
 stN 32 t2 t41 w fun w =>
 ldN 32 t2 w.heap fun r2 =>
 R r2 w))
theorem k_ref02_Sum : kO Tryz.f75 A_ref02_Sum = true := by kernel_rfl
theorem s_ref02_Sum (h : SQ Q (c_ref02_Sum t0 w)) : cal P f_ref02_Sum [t0] w Q := sO Tryz.func75 rfl (by kernel_rfl) k_ref02_Sum (by kernel_rfl) h

/-- bytes.Clone -/
def A_bytes_Clone : An := (An.s (An.r []) (An.s (An.s (An.r []) (An.s (An.s (An.r []) An.o) An.o)) (An.s (An.r []) An.o)))
def c_bytes_Clone (t0 : Value) (w : World) (R : KR) : Prop :=
 nilS false t0 fun t4 =>
 cnd t4
 (R (.slice none 0 0) w)
 (efP P (Instr.buildSlice T_sl_uint8 0 #[]) w fun t5 w =>
 efP P (Builtin.append_ #[T_sl_uint8, T_sl_uint8] T_sl_uint8 #[t5, t0]) w fun t7 w =>
 R t7 w)
theorem k_bytes_Clone : kO Tryz.f76 A_bytes_Clone = true := by kernel_rfl
theorem s_bytes_Clone (h : SQ Q (c_bytes_Clone t0 w)) : cal P f_bytes_Clone [t0] w Q := sO Tryz.func76 rfl (by kernel_rfl) k_bytes_Clone (by kernel_rfl) h

/-- flurry/flurryref01.Num -/
def A_ref01_Num : An := (An.s (An.r []) (An.s (An.r []) (An.s (An.s (An.r []) (An.b (An.l [1, 6] (An.s (An.s (An.r []) (An.s An.o An.o)) (An.s (An.b (An.s (An.r []) (An.r []))) (An.r [])))))) (An.s (An.r []) An.o))))
def c_ref01_Num (t0 t1 : Value) (w : World) (R : KR) : Prop :=
 efP P (Instr.makeSlice T_sl_uint8 t0 t0) w fun t8 w =>
 bi .sub t0 (.int .i64 1) fun t10 =>
 lp2 t1 t10 w fun _ t1_1 t6 w again0 =>
 bi .geq t6 (.int .i64 0) fun t12 =>
 cnd t12
 (bi .rem t1_1 (.int .u64 256) fun t18 =>
 cvi .u8 t18 fun t19 =>
 ixs 1 t8 t6 fun t20 =>
 st1 t20 t19 w fun w =>
 bi .quo t1_1 (.int .u64 256) fun t22 =>
 bi .sub t6 (.int .i64 1) fun t14 =>
 again0 t22 t14 w)
 (R t8 w)
theorem k_ref01_Num : kO Tryz.f77 A_ref01_Num = true := by kernel_rfl
theorem s_ref01_Num (h : SQ Q (c_ref01_Num t0 t1 w)) : cal P f_ref01_Num [t0, t1] w Q := sO Tryz.func77 rfl (by kernel_rfl) k_ref01_Num (by kernel_rfl) h

/-- flurry/flurryref09.Scan -/
def A_ref09_Scan : An := (An.s (An.r []) (An.s (An.r []) (An.s (An.r []) (An.b (An.l [4, 5] (An.b (An.s (An.r []) (An.s (An.s (An.r []) (An.s (An.s (An.r []) An.o) An.o)) (An.s (An.r []) (An.r []))))))))))
def c_ref09_Scan (t0 : Value) (w : World) (R : KR) : Prop :=
 lp2 (.slice none 0 0) (.int .i64 0) w fun _ t4 t5 w again0 =>
 cal P f_ref09_Take [t0, t5] w fun t12 w =>
 ext 0 t12 fun t13 =>
 ext 1 t12 fun t14 =>
 ext 2 t12 fun t15 =>
 efP P (Instr.alloc T_api_Block true (.tuple #[])) w fun t6 w =>
 stN 34 t6 t13 w fun w =>
 bi .neq t15 (.int .i64 0) fun t17 =>
 cnd t17
 (R (.tuple #[t4, t5]) w)
 (ldN 34 t6 w.heap fun t21 =>
 efP P (Instr.buildSlice T_sl_api_Block 1 #[(0, t21)]) w fun t22 w =>
 efP P (Builtin.append_ #[T_sl_api_Block, T_sl_api_Block] T_sl_api_Block #[t4, t22]) w fun t23 w =>
 again0 t23 t14 w)
theorem k_ref09_Scan : kO Tryz.f78 A_ref09_Scan = true := by kernel_rfl
theorem s_ref09_Scan (h : SQ Q (c_ref09_Scan t0 w)) : cal P f_ref09_Scan [t0] w Q := sO Tryz.func78 rfl (by kernel_rfl) k_ref09_Scan (by kernel_rfl) h

/-- (*flurry/flurryref08.Tape).Truncate -/
def A_ref08_Tape_Truncate : An := (An.s (An.r []) (An.s (An.s (An.r []) (An.s (An.s (An.r []) An.o) An.o)) (An.s (An.s (An.r [[18]]) (An.s (An.s (An.r []) An.o) An.o)) (An.s (An.r []) (An.s (An.r []) An.o)))))
def c_ref08_Tape_Truncate (t0 t1 : Value) (w : World) (R : KR) : Prop :=
 nilc t0 fun t6 =>
 fad 1 t6 fun t7 =>
 ld1 t7 w.heap fun t8 =>
 cnd t8
 (R (.int .i64 5) w)
 (bi .lss t1 (.int .i64 0) fun t10 =>
 jn1 (fun k0 =>
 gif t10 false
 (nilc t0 fun t14 =>
 fad 0 t14 fun t15 =>
 ld1 t15 w.heap fun t16 =>
 lenS t16 fun t17 =>
 bi .gtr t1 t17 fun t18 =>
 k0 t18 w)
 (k0 undef w)) fun _ t18_1 w =>
 pik t10 (.bool true) t18_1 fun t19 =>
 cnd t19
 (R (.int .i64 1) w)
 (nilc t0 fun t22 =>
 fad 0 t22 fun t23 =>
 ld1 t23 w.heap fun t24 =>
 slc 1 t24 none (some t1) fun t26 =>
 efP P (Builtin.append_ #[T_sl_uint8, T_sl_uint8] T_sl_uint8 #[(.slice none 0 0), t26]) w fun t27 w =>
 nilc t0 fun t28 =>
 fad 0 t28 fun t29 =>
 st1 t29 t27 w fun w =>
 R (.int .i64 0) w))
theorem k_ref08_Tape_Truncate : kO Tryz.f79 A_ref08_Tape_Truncate = true := by kernel_rfl
theorem s_ref08_Tape_Truncate (h : SQ Q (c_ref08_Tape_Truncate t0 t1 w)) : cal P f_ref08_Tape_Truncate [t0, t1] w Q := sO Tryz.func79 rfl (by kernel_rfl) k_ref08_Tape_Truncate (by kernel_rfl) h

/-- flurry/block.Bytes -/
def A_block_Bytes : An := (An.s (An.r []) (An.s (An.s (An.r []) (An.s (An.r []) (An.s (An.s (An.r []) An.o) An.o))) (An.s (An.r []) (An.s (An.r []) (An.s (An.r []) (An.s (An.r []) (An.s (An.r []) (An.s (An.r []) An.o))))))))
def c_block_Bytes (t0 : Value) (w : World) (R : KR) : Prop :=
 bx T_api_Block t0 w fun t1 w =>
 ldN 34 t1 w.heap fun t6 =>
 cal P f_block_Check [t6] w fun t7 w =>
 bi .neq t7 (.int .i64 0) fun t9 =>
 cnd t9
 (R (.tuple #[(.slice none 0 0), t7]) w)
 (cal P f_pack_New [(.int .i64 246)] w fun t11 w =>
 cal P f_pack_Packer_Short [t11, (.int .u16 0)] w fun t13 w =>
 fad 0 t1 fun t15 =>
 sla 32 1 t15 none none fun t16 =>
 cal P f_pack_Packer_Fixed [t11, t16] w fun t17 w =>
 fad 32 t1 fun t19 =>
 ld1 t19 w.heap fun t20 =>
 cvi .u64 t20 fun t21 =>
 cal P f_pack_Packer_Long [t11, t21] w fun t22 w =>
 fad 33 t1 fun t24 =>
 ld1 t24 w.heap fun t25 =>
 cal P f_pack_Packer_Bytes [t11, t25] w fun t26 w =>
 cal P f_pack_Packer_Out [t11] w fun t28 w =>
 ext 0 t28 fun t29 =>
 ext 1 t28 fun t30 =>
 R (.tuple #[t29, t30]) w)
theorem k_block_Bytes : kO Tryz.f80 A_block_Bytes = true := by kernel_rfl
theorem s_block_Bytes (h : SQ Q (c_block_Bytes t0 w)) : cal P f_block_Bytes [t0] w Q := sO Tryz.func80 rfl (by kernel_rfl) k_block_Bytes (by kernel_rfl) h

/-- flurry/pack.New -/
def A_pack_New : An := (An.s (An.r []) (An.s (An.r []) (An.s (An.r []) (An.s (An.s (An.r [[15]]) (An.s (An.r []) An.o)) (An.s (An.r []) An.o)))))
def c_pack_New (t0 : Value) (w : World) (R : KR) : Prop :=
 rdP P (Instr.build T_pack_Packer #[(1, t0)]) w fun t5 =>
 bx T_pack_Packer t5 w fun t6 w =>
 nilc t6 fun t8 =>
 fad 0 t8 fun t9 =>
 fad 0 t9 fun t10 =>
 st1 t10 (.bool true) w fun w =>
 bi .lss t0 (.int .i64 0) fun t12 =>
 jn1 (fun k0 =>
 gif t12 false
 (bi .gtr t0 (.int .i64 8192) fun t15 =>
 k0 t15 w)
 (k0 undef w)) fun _ t15_1 w =>
 pik t12 (.bool true) t15_1 fun t16 =>
 cnd t16
 (nilc t6 fun t18 =>
 fad 0 t18 fun t19 =>
 fad 2 t19 fun t20 =>
 st1 t20 (.int .i64 1) w fun w =>
 R t6 w)
 (R t6 w)
theorem k_pack_New : kO Tryz.f81 A_pack_New = true := by kernel_rfl
theorem s_pack_New (h : SQ Q (c_pack_New t0 w)) : cal P f_pack_New [t0] w Q := sO Tryz.func81 rfl (by kernel_rfl) k_pack_New (by kernel_rfl) h


end Go.Fx
