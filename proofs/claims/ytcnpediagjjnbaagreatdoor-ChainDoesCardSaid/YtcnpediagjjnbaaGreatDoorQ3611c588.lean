/-
  The readings of the functions that are walked (c_..), printed by program; each is held against the loaded code by the kernel (e_..), and gives the call (l_..).
-/
import Derived.Test.YtcnpediagjjnbaaGreatDoorProg
import Derived.KernelRfl
import Derived.Test.YtcnpediagjjnbaaGreatDoorQ301ba823
import Derived.Test.YtcnpediagjjnbaaGreatDoorQ3cb80874
set_option linter.unusedVariables false
set_option maxRecDepth 100000
namespace Go.Fx
noncomputable abbrev P : Program := Go.Proofs.Tryz.prog
open Go.Proofs
def bodyOf (f : Func) : Code := match f.body with | some c => c | none => .skip
theorem mixed : P.follows .mixedOrders = true := by kernel_rfl
abbrev KR := Value → World → Prop
abbrev SQ (Q : KR) (c : KR → Prop) : Prop := ∀ R : KR, (∀ v w', Q v w' → R v w') → c R
noncomputable def kO (fn : Func) (A : An) : Bool := chk P fn.ntmps A (bodyOf fn)
def iO (fn : Func) (A : An) (l : List Value) (w : World) (R : KR) : Prop := intp P A (bodyOf fn) (ini l) w (retK P fn.results.toList R) (fun _ _ _ => False) (retK P fn.results.toList R)
theorem sO {f : FuncId} {fn : Func} {A : An} {l : List Value} {w : World} {Q : KR} {c : KR → Prop} (hf : P.funcs[f]? = some fn) (hb : fn.body = some (bodyOf fn)) (hn : Nat.ble l.length fn.ntmps = true) (hk : kO fn A = true)
    (he : iO fn A l w Q = c Q) (h : SQ Q c) : cal P f l w Q := calls_of mixed hf hb hn hk (Eq.mpr he (h Q fun _ _ h => h))
noncomputable def kOY (fn : Func) (A : AnY) : Bool := chkY P fn.ntmps A (bodyOf fn)
def iOY (fn : Func) (A : AnY) (l : List Value) (w : World) (R : KR) : Prop := intpY P A (bodyOf fn) (ini l) [] w (retY P fn.results.toList R) (fun _ _ _ _ => False) (retY P fn.results.toList R)
theorem sOY {f : FuncId} {fn : Func} {A : AnY} {l : List Value} {w : World} {Q : KR} {c : KR → Prop} (hf : P.funcs[f]? = some fn) (hb : fn.body = some (bodyOf fn)) (hn : Nat.ble l.length fn.ntmps = true) (hk : kOY fn A = true)
    (he : iOY fn A l w Q = c Q) (h : SQ Q c) : cal P f l w Q := calls_ofY mixed hf hb hn hk (Eq.mpr he (h Q fun _ _ h => h))
variable {t0 t1 t2 t3 t4 t5 t6 t7 t8 t9 : Value} {w : World} {Q : KR}
abbrev f_law10_ChainDoes : FuncId := 6
abbrev f_law10_begun : FuncId := 7
abbrev f_tape_Of : FuncId := 8
abbrev f_chain_Open : FuncId := 9
abbrev f_law10_first : FuncId := 10
abbrev f_tape_Tape_Bytes : FuncId := 12
abbrev f_law10_told : FuncId := 13
abbrev f_ref03_Same : FuncId := 14
abbrev f_ref03_Linked : FuncId := 15
abbrev f_chain_Chain_At : FuncId := 16
abbrev f_ref09_Size : FuncId := 17
abbrev f_bytes_Equal : FuncId := 18
abbrev f_chain_Chain_Last : FuncId := 19
abbrev f_ref08_Of : FuncId := 20
abbrev f_tape_Tape_Crash : FuncId := 21
abbrev f_ref08_Tape_Crash : FuncId := 22
abbrev f_law10_world_opens : FuncId := 23
abbrev f_law10_alike : FuncId := 24
abbrev f_chain_Chain_Get : FuncId := 25
abbrev f_chain_Chain_Ancestors : FuncId := 26
abbrev f_chain_Chain_Accept : FuncId := 27
abbrev f_chain_Chain_Has : FuncId := 28
abbrev f_chain_Chain_Tape : FuncId := 29
abbrev f_chain_Chain_Block : FuncId := 30
abbrev f_law10_few : FuncId := 31
abbrev f_law10_world_does : FuncId := 32
abbrev f_tape_Tape_On : FuncId := 33
abbrev f_tape_New : FuncId := 34
abbrev f_law10_child : FuncId := 35
abbrev f_tape_Tape_Arm : FuncId := 36
abbrev f_tape_Tape_Restart : FuncId := 37
abbrev f_tape_Tape_Len : FuncId := 38
abbrev f_tape_told : FuncId := 39
abbrev f_tape_Tape_Clone : FuncId := 40
abbrev f_block_Check : FuncId := 41
abbrev f_chain_Chain_add : FuncId := 42
abbrev f_rec_Scan : FuncId := 43
abbrev f_block_Linked : FuncId := 44
abbrev f_chain_Chain_last : FuncId := 45
abbrev f_rec_Size : FuncId := 46
abbrev f_tape_Tape_Truncate : FuncId := 47
abbrev f_tape_Tape_may : FuncId := 48
abbrev f_chain_Chain_All : FuncId := 49
abbrev f_ref03_ID : FuncId := 50
abbrev f_ref03_Check : FuncId := 51
abbrev f_chain_Chain_may : FuncId := 52
abbrev f_block_Clone : FuncId := 53
abbrev f_ref09_Bytes : FuncId := 54
abbrev f_chain_Chain_none : FuncId := 55
abbrev f_tape_Tape_goes : FuncId := 56
abbrev f_ref10_Open : FuncId := 57
abbrev f_ref10_Chain_Last : FuncId := 58
abbrev f_rec_Bytes : FuncId := 59
abbrev f_tape_Tape_Append : FuncId := 60
abbrev f_ref03_Clone : FuncId := 61
abbrev f_ref10_Chain_Accept : FuncId := 62
abbrev f_ref08_Tape_Arm : FuncId := 63
abbrev f_ref08_Tape_Restart : FuncId := 64
abbrev f_ref08_Tape_Append : FuncId := 65
abbrev f_law10_asks : FuncId := 66
abbrev f_ref03_Child : FuncId := 67
abbrev f_block_ID : FuncId := 68
abbrev f_rec_scan : FuncId := 69
abbrev f_slices_Clone_api_Block_api_Block : FuncId := 70
abbrev f_slices_Clone_api_ID_api_ID : FuncId := 71
abbrev f_chain_Chain_All_1 : FuncId := 72
abbrev f_slices_All_api_Block_api_Block : FuncId := 73
abbrev f_ref03_Bytes : FuncId := 74
abbrev f_ref02_Sum : FuncId := 75
abbrev f_bytes_Clone : FuncId := 76
abbrev f_ref01_Num : FuncId := 77
abbrev f_ref09_Scan : FuncId := 78
abbrev f_ref08_Tape_Truncate : FuncId := 79
abbrev f_block_Bytes : FuncId := 80
abbrev f_pack_New : FuncId := 81
abbrev f_pack_Packer_Int : FuncId := 82
abbrev f_pack_Packer_Long : FuncId := 83
abbrev f_pack_Packer_Fixed : FuncId := 84
abbrev f_pack_Packer_Out : FuncId := 85
abbrev f_sha_Sum : FuncId := 86
abbrev f_ref10_Chain_At : FuncId := 87
abbrev f_ref10_Chain_Get : FuncId := 88
abbrev f_ref10_Chain_Find : FuncId := 89
abbrev f_ref10_Chain_Ancestors : FuncId := 90
abbrev f_ref09_SameAll : FuncId := 91
abbrev f_rec_Take : FuncId := 92
abbrev f_slices_All_api_Block_api_Block_1 : FuncId := 93
abbrev f_ref02_padded : FuncId := 94
abbrev f_ref02_goes : FuncId := 95
abbrev f_ref09_Take : FuncId := 96
abbrev f_pack_Packer_Short : FuncId := 97
abbrev f_pack_Packer_Bytes : FuncId := 98
abbrev f_pack_Packer_put : FuncId := 99
abbrev f_pack_number : FuncId := 100
abbrev f_pack_Packer_Err : FuncId := 101
abbrev f_sha_New : FuncId := 102
abbrev f_sha_State_Write : FuncId := 103
abbrev f_sha_State_Sum : FuncId := 104
abbrev f_ref10_Chain_can : FuncId := 105
abbrev f_pack_Read : FuncId := 106
abbrev f_pack_Unpacker_Int : FuncId := 107
abbrev f_block_Parse : FuncId := 108
abbrev f_pack_Unpacker_Long : FuncId := 109
abbrev f_ref02_words : FuncId := 110
abbrev f_ref02_constants : FuncId := 111
abbrev f_ref02_turned : FuncId := 112
abbrev f_ref01_Val : FuncId := 113
abbrev f_ref03_Parse : FuncId := 114
abbrev f_pack_Packer_works : FuncId := 115
abbrev f_pack_kept_fails : FuncId := 116
abbrev f_sha_first : FuncId := 117
abbrev f_sha_State_none : FuncId := 118
abbrev f_slices_Concat_byte_byte : FuncId := 119
abbrev f_sha_mixed : FuncId := 120
abbrev f_pack_value : FuncId := 121
abbrev f_pack_Unpacker_take : FuncId := 122
abbrev f_pack_Unpacker_Short : FuncId := 123
abbrev f_pack_Unpacker_Fixed : FuncId := 124
abbrev f_pack_Unpacker_Bytes : FuncId := 125
abbrev f_pack_Unpacker_End : FuncId := 126
abbrev f_block_made : FuncId := 127
abbrev f_slices_Grow_byte_byte : FuncId := 128
abbrev f_sha_schedule : FuncId := 129
abbrev f_math_bits_RotateLeft32 : FuncId := 130
abbrev f_pack_Unpacker_works : FuncId := 131
abbrev f_pack_Unpacker_counted : FuncId := 132
abbrev f_pack_Unpacker_Err : FuncId := 133
abbrev T_int64 : TypeId := 2
abbrev T_int : TypeId := 3
abbrev T_bool : TypeId := 4
abbrev T_uint8 : TypeId := 5
abbrev T_string : TypeId := 9
abbrev T_sl_uint8 : TypeId := 22
abbrev T_p_tape_Tape : TypeId := 24
abbrev T_api_ID : TypeId := 32
abbrev T_api_Block : TypeId := 34
abbrev T_sl_flurrylaw10_named : TypeId := 38
abbrev T_flurrylaw10_named : TypeId := 42
abbrev T_flurrylaw10_world : TypeId := 56
abbrev T_flurryref08_Tape : TypeId := 60
abbrev T_sl_api_Block : TypeId := 64
abbrev T_sl_api_ID : TypeId := 65
abbrev T_map_api_ID_int : TypeId := 66
abbrev T_chain_Chain : TypeId := 68
abbrev T_sl_flurrylaw10_Op : TypeId := 77
abbrev T_flurrylaw10_Op : TypeId := 81
abbrev T_tape_Tape : TypeId := 89
abbrev T_chain_held : TypeId := 91
abbrev T_iter_Seq2_api_ID_api_Block : TypeId := 96
abbrev T_flurryref10_Chain : TypeId := 106
abbrev T_sl_sl_uint8 : TypeId := 110
abbrev T_sl_int : TypeId := 113
abbrev T_func_api_ID_api_Block_bool : TypeId := 118
abbrev T_uint32 : TypeId := 128
abbrev T_a8_uint32 : TypeId := 137
abbrev T_pack_Packer : TypeId := 146
abbrev T_a64_uint32 : TypeId := 156
abbrev T_sha_State : TypeId := 164
abbrev T_pack_Unpacker : TypeId := 167
/-- flurry/flurrylaw10.ChainDoes -/
def A_law10_ChainDoes : An := (An.s (An.r []) (An.s (An.r []) (An.s (An.s (An.r [[23], [28]]) (An.s (An.s (An.r []) An.o) An.o)) (An.s (An.r []) (An.s (An.r []) (An.s (An.r []) (An.s (An.s (An.r [[49], [53], [59], [66]]) (An.s (An.s (An.r []) An.o) An.o)) (An.s (An.s (An.r []) (An.b (An.l [70] (An.s (An.r []) (An.s (An.s An.o An.o) (An.s (An.b (An.s (An.r []) (An.s (An.dc [0, 1, 2, 3, 4, 5, 6, 7, 8, 9, 10, 11, 12, 13, 14, 15, 16, 17, 18, 19, 20, 22, 23, 24, 25, 26, 27, 28, 21, 29, 30, 31, 32, 33, 34, 35, 36, 38, 39, 40, 41, 42, 43, 44, 37, 45, 46] [2] [[88], [104], [119]]) (An.s (An.s (An.r []) An.o) An.o)))) (An.r []))))))) (An.s (An.r []) An.o)))))))))
def c_law10_ChainDoes (t0 t1 : Value) (w : World) (R : KR) : Prop :=
 cal P f_law10_few [t1] w fun t16 w =>
 ext 0 t16 fun t17 =>
 ext 1 t16 fun t18 =>
 cal P f_law10_begun [] w fun t19 w =>
 notB t19 fun t20 =>
 jn1 (fun k0 =>
 gif t20 false
 (notB t18 fun t23 =>
 k0 t23 w)
 (k0 undef w)) fun _ t23_1 w =>
 pik t20 (.bool true) t23_1 fun t24 =>
 jn1 (fun k1 =>
 gif t24 false
 (lenS t0 fun t27 =>
 bi .gtr t27 (.int .i64 5000) fun t28 =>
 k1 t28 w)
 (k1 undef w)) fun _ t28_1 w =>
 pik t24 (.bool true) t28_1 fun t29 =>
 cnd t29
 (cal P f_law10_begun [] w fun t30 w =>
 R t30 w)
 (cal P f_tape_Of [t0] w fun t33 w =>
 ext 0 t33 fun t34 =>
 ext 1 t33 fun t35 =>
 cal P f_ref08_Of [t0] w fun t38 w =>
 ext 0 t38 fun t39 =>
 ext 1 t38 fun t40 =>
 rdP P (Instr.build T_flurrylaw10_world #[(0, t34), (2, t39)]) w fun t43 =>
 bx T_flurrylaw10_world t43 w fun t44 w =>
 bi .neq t35 (.int .i64 0) fun t46 =>
 jn1 (fun k2 =>
 gif t46 false
 (bi .neq t40 (.int .i64 0) fun t49 =>
 k2 t49 w)
 (k2 undef w)) fun _ t49_1 w =>
 pik t46 (.bool true) t49_1 fun t50 =>
 jn1 (fun k3 =>
 gif t50 false
 (nilP false t34 fun t53 =>
 k3 t53 w)
 (k3 undef w)) fun _ t53_1 w =>
 pik t50 (.bool true) t53_1 fun t54 =>
 jn1 (fun k4 =>
 gif t54 false
 (cal P f_law10_first [] w fun t57 w =>
 cal P f_law10_world_opens [t44, t57] w fun t58 w =>
 notB t58 fun t59 =>
 k4 t59 w)
 (k4 undef w)) fun _ t59_1 w =>
 pik t54 (.bool true) t59_1 fun t60 =>
 jn1 (fun k5 =>
 gif t60 false
 (nilc t44 fun t63 =>
 fad 1 t63 fun t64 =>
 ld1 t64 w.heap fun t65 =>
 nilP false t65 fun t66 =>
 k5 t66 w)
 (k5 undef w)) fun _ t66_1 w =>
 pik t60 (.bool true) t66_1 fun t67 =>
 cnd t67
 (R (.bool false) w)
 (lenS t17 fun t69 =>
 lp1 (.int .i64 0) w fun _ t70 w again6 =>
 bi .lss t70 t69 fun t71 =>
 cnd t71
 (ixs 37 t17 t70 fun t72 =>
 ldN 37 t72 w.heap fun t73 =>
 efP P (Instr.alloc T_flurrylaw10_Op true (.tuple #[])) w fun t13 w =>
 stN 37 t13 t73 w fun w =>
 drH w fun S w =>
 rdS S (fun w => ldN 37 t13 w.heap) fun t75 =>
 efC (cal P f_law10_world_does [t44, t75]) w fun S t76 w =>
 notB t76 fun t77 =>
 jn1 (fun k7 =>
 gif t77 false
 (nilc t44 fun t80 =>
 fad 1 t80 fun t81 =>
 rdS S (fun w => ld1 t81 w.heap) fun t82 =>
 nilc t44 fun t84 =>
 fad 3 t84 fun t85 =>
 rdS S (fun w => ld1 t85 w.heap) fun t86 =>
 efS S (cal P f_law10_alike [t82, t86]) w fun t87 w =>
 notB t87 fun t88 =>
 k7 t88 w)
 (k7 undef w)) fun _ t88_1 w =>
 pik t77 (.bool true) t88_1 fun t89 =>
 jn1 (fun k8 =>
 gif t89 false
 (nilc t44 fun t92 =>
 fad 0 t92 fun t93 =>
 rdS S (fun w => ld1 t93 w.heap) fun t94 =>
 nilc t44 fun t97 =>
 fad 2 t97 fun t98 =>
 rdS S (fun w => ld1 t98 w.heap) fun t99 =>
 nilc t99 fun t100 =>
 fad 0 t100 fun t101 =>
 rdS S (fun w => ld1 t101 w.heap) fun t102 =>
 efS S (cal P f_tape_Tape_Bytes [t94]) w fun t95 w =>
 efS S (cal P f_bytes_Equal [t95, t102]) w fun t103 w =>
 notB t103 fun t104 =>
 k8 t104 w)
 (k8 undef w)) fun _ t104_1 w =>
 pik t89 (.bool true) t104_1 fun t105 =>
 jn1 (fun k9 =>
 gif t105 false
 (nilc t44 fun t108 =>
 fad 0 t108 fun t109 =>
 rdS S (fun w => ld1 t109 w.heap) fun t110 =>
 nilc t44 fun t113 =>
 fad 2 t113 fun t114 =>
 rdS S (fun w => ld1 t114 w.heap) fun t115 =>
 nilc t115 fun t116 =>
 fad 1 t116 fun t117 =>
 rdS S (fun w => ld1 t117 w.heap) fun t118 =>
 efS S (cal P f_tape_Tape_On [t110]) w fun t111 w =>
 rdS S (rdP P (eqS .eql T_bool (Operand.tmp 111) (Operand.tmp 118) t111 t118)) fun t119 =>
 k9 t119 w)
 (k9 undef w)) fun _ t119_1 w =>
 pik t105 (.bool true) t119_1 fun t120 =>
 cnd t120
 (R (.bool false) w)
 (bi .add t70 (.int .i64 1) fun t121 =>
 again6 t121 w))
 (R (.bool true) w)))
theorem k_law10_ChainDoes : kO Tryz.f6 A_law10_ChainDoes = true := by kernel_rfl
theorem s_law10_ChainDoes (h : SQ Q (c_law10_ChainDoes t0 t1 w)) : cal P f_law10_ChainDoes [t0, t1] w Q := sO Tryz.func6 rfl (by kernel_rfl) k_law10_ChainDoes (by kernel_rfl) h

/-- flurry/flurrylaw10.begun -/
def A_law10_begun : An := (An.s (An.r []) (An.s (An.r []) (An.s (An.r []) (An.s (An.s (An.r [[19], [23]]) (An.s (An.s (An.r []) An.o) An.o)) (An.s (An.r []) (An.s (An.s (An.r [[36], [43], [48]]) (An.s (An.s (An.r []) An.o) An.o)) (An.s (An.r []) (An.s (An.s (An.r [[60]]) (An.s (An.s (An.r []) An.o) An.o)) (An.s (An.r []) (An.s (An.d [0, 1, 2, 3, 5, 4, 6, 7, 8, 9] [[74]]) An.o))))))))))
def c_law10_begun (w : World) (R : KR) : Prop :=
 cal P f_tape_New [] w fun t8 w =>
 cal P f_law10_first [] w fun t11 w =>
 cal P f_chain_Open [t8, t11] w fun t12 w =>
 ext 0 t12 fun t13 =>
 ext 1 t12 fun t14 =>
 bi .neq t14 (.int .i64 0) fun t16 =>
 jn1 (fun k0 =>
 gif t16 false
 (nilP false t13 fun t19 =>
 k0 t19 w)
 (k0 undef w)) fun _ t19_1 w =>
 pik t16 (.bool true) t19_1 fun t20 =>
 jn1 (fun k1 =>
 gif t20 false
 (nilP false t8 fun t23 =>
 k1 t23 w)
 (k1 undef w)) fun _ t23_1 w =>
 pik t20 (.bool true) t23_1 fun t24 =>
 cnd t24
 (R (.bool false) w)
 (cal P f_law10_first [] w fun t25 w =>
 efP P (Instr.buildSlice T_sl_uint8 1 #[(0, (.int .u8 97))]) w fun t26 w =>
 efP P (convert T_sl_uint8 T_sl_uint8 t26) w fun t27 w =>
 cal P f_law10_child [t25, t27] w fun t28 w =>
 efP P (Instr.alloc T_api_Block true (.tuple #[])) w fun t4 w =>
 stN 34 t4 t28 w fun w =>
 ldN 34 t4 w.heap fun t30 =>
 cal P f_chain_Chain_Accept [t13, t30] w fun t31 w =>
 bi .neq t31 (.int .i64 0) fun t32 =>
 jn1 (fun k2 =>
 gif t32 false
 (cal P f_tape_Tape_Arm [t8, (.int .i64 10)] w fun t35 w =>
 bi .neq t35 (.int .i64 0) fun t36 =>
 k2 t36 w)
 (k2 undef w)) fun _ t36_1 w =>
 pik t32 (.bool true) t36_1 fun t37 =>
 jn1 (fun k3 =>
 gif t37 false
 (ldN 34 t4 w.heap fun t40 =>
 cal P f_law10_child [t40, (.slice none 0 0)] w fun t41 w =>
 cal P f_chain_Chain_Accept [t13, t41] w fun t42 w =>
 bi .neq t42 (.int .i64 5) fun t43 =>
 k3 t43 w)
 (k3 undef w)) fun _ t43_1 w =>
 pik t37 (.bool true) t43_1 fun t44 =>
 jn1 (fun k4 =>
 gif t44 false
 (cal P f_tape_Tape_Restart [t8] w fun t47 w =>
 bi .neq t47 (.int .i64 0) fun t48 =>
 k4 t48 w)
 (k4 undef w)) fun _ t48_1 w =>
 pik t44 (.bool true) t48_1 fun t49 =>
 cnd t49
 (R (.bool false) w)
 (cal P f_law10_first [] w fun t52 w =>
 cal P f_chain_Open [t8, t52] w fun t53 w =>
 ext 0 t53 fun t54 =>
 ext 1 t53 fun t55 =>
 bi .neq t55 (.int .i64 0) fun t57 =>
 jn1 (fun k5 =>
 gif t57 false
 (nilP false t54 fun t60 =>
 k5 t60 w)
 (k5 undef w)) fun _ t60_1 w =>
 pik t57 (.bool true) t60_1 fun t61 =>
 cnd t61
 (R (.bool false) w)
 (cal P f_chain_Chain_Last [t54] w fun t64 w =>
 ext 0 t64 fun t65 =>
 ext 1 t64 fun t66 =>
 efP P (Instr.alloc T_api_ID true (.tuple #[])) w fun t6 w =>
 stN 32 t6 t65 w fun w =>
 drH w fun S w =>
 bi .eql t66 (.int .i64 1) fun t68 =>
 jn1 (fun k6 =>
 gif t68 true
 (rdS S (fun w => ldN 34 t4 w.heap) fun t72 =>
 efS S (cal P f_tape_Tape_Len [t8]) w fun t71 w =>
 efS S (cal P f_ref09_Size [t72]) w fun t73 w =>
 bi .eql t71 t73 fun t74 =>
 k6 t74 w)
 (k6 undef w)) fun _ t74_1 w =>
 pik t68 t74_1 (.bool false) fun t75 =>
 R t75 w)))
theorem k_law10_begun : kO Tryz.f7 A_law10_begun = true := by kernel_rfl
theorem s_law10_begun (h : SQ Q (c_law10_begun w)) : cal P f_law10_begun [] w Q := sO Tryz.func7 rfl (by kernel_rfl) k_law10_begun (by kernel_rfl) h

/-- flurry/tape.Of -/
def A_tape_Of : An := (An.s (An.r []) (An.s (An.s (An.r []) (An.s (An.s (An.r []) An.o) An.o)) (An.s (An.r []) (An.s (An.r []) (An.s (An.r []) An.o)))))
def c_tape_Of (t0 : Value) (w : World) (R : KR) : Prop :=
 lenS t0 fun t6 =>
 bi .gtr t6 (.int .i64 262144) fun t7 =>
 cnd t7
 (R (.tuple #[(.pointer none), (.int .i64 3)]) w)
 (cal P f_tape_New [] w fun t8 w =>
 cal P f_tape_told [t0] w fun t11 w =>
 nilc t8 fun t12 =>
 fad 0 t12 fun t13 =>
 st1 t13 t11 w fun w =>
 R (.tuple #[t8, (.int .i64 0)]) w)
theorem k_tape_Of : kO Tryz.f8 A_tape_Of = true := by kernel_rfl
theorem s_tape_Of (h : SQ Q (c_tape_Of t0 w)) : cal P f_tape_Of [t0] w Q := sO Tryz.func8 rfl (by kernel_rfl) k_tape_Of (by kernel_rfl) h

/-- flurry/chain.Open -/
def A_chain_Open : An := (An.s (An.r []) (An.s (An.s (An.r []) (An.s (An.s (An.r []) An.o) An.o)) (An.s (An.s (An.r []) (An.s (An.s (An.r []) An.o) An.o)) (An.s (An.s (An.r [[25]]) (An.s (An.s (An.r []) An.o) An.o)) (An.s (An.r []) (An.s (An.r []) (An.s (An.r []) (An.s (An.r []) (An.s (An.j [9] (An.s (An.r []) (An.b (An.l [9, 44] (An.s (An.r []) (An.s (An.s An.o An.o) (An.s (An.b (An.s (An.r []) (An.s (An.s (An.dc [0, 1, 2, 3, 4] [3] []) (An.s An.o An.o)) (An.s (An.r []) (An.r []))))) (An.r [])))))))) (An.s (An.s (An.r []) (An.s (An.s (An.r []) (An.s (An.r []) (An.s (An.s (An.r []) An.o) An.o))) An.o)) (An.s (An.r []) An.o)))))))))))
def c_chain_Open (t0 t1 : Value) (w : World) (R : KR) : Prop :=
 bx T_api_Block t1 w fun t3 w =>
 cal P f_tape_Tape_Clone [t0] w fun t14 w =>
 nilP false t14 fun t15 =>
 cnd t15
 (R (.tuple #[(.pointer none), (.int .i64 2)]) w)
 (cal P f_tape_Tape_On [t0] w fun t17 w =>
 notB t17 fun t18 =>
 cnd t18
 (R (.tuple #[(.pointer none), (.int .i64 5)]) w)
 (ldN 34 t3 w.heap fun t19 =>
 cal P f_block_Check [t19] w fun t20 w =>
 bi .neq t20 (.int .i64 0) fun t21 =>
 jn1 (fun k0 =>
 gif t21 false
 (fad 32 t3 fun t23 =>
 ld1 t23 w.heap fun t24 =>
 bi .neq t24 (.int .i64 0) fun t25 =>
 k0 t25 w)
 (k0 undef w)) fun _ t25_1 w =>
 pik t21 (.bool true) t25_1 fun t26 =>
 cnd t26
 (R (.tuple #[(.pointer none), (.int .i64 30)]) w)
 (rdP P (Instr.build T_chain_held #[(0, t0)]) w fun t28 =>
 bx T_chain_held t28 w fun t29 w =>
 efP P (Instr.makeMap T_map_api_ID_int none) w fun t30 w =>
 rdP P (Instr.build T_chain_Chain #[(0, t29), (3, t30)]) w fun t31 =>
 bx T_chain_Chain t31 w fun t32 w =>
 ldN 34 t3 w.heap fun t34 =>
 cal P f_chain_Chain_add [t32, t34] w fun t35 w =>
 cal P f_tape_Tape_Bytes [t0] w fun t38 w =>
 cal P f_rec_Scan [t38] w fun t39 w =>
 ext 0 t39 fun t40 =>
 ext 1 t39 fun t41 =>
 jn1 (fun k1 =>
 lenS t40 fun t43 =>
 lp2 (.int .i64 0) (.int .i64 0) w fun _ t9 t44 w again2 =>
 bi .lss t44 t43 fun t45 =>
 cnd t45
 (ixs 34 t40 t44 fun t46 =>
 ldN 34 t46 w.heap fun t47 =>
 efP P (Instr.alloc T_api_Block true (.tuple #[])) w fun t11 w =>
 stN 34 t11 t47 w fun w =>
 drH w fun S w =>
 rdS S (fun w => ldN 34 t11 w.heap) fun t48 =>
 efS S (cal P f_chain_Chain_last [t32]) w fun t50 w =>
 efC (cal P f_block_Linked [t48, t50]) w fun S t51 w =>
 bi .neq t51 (.int .i64 0) fun t52 =>
 cnd t52
 (k1 t9 w)
 (ldN 34 t11 w.heap fun t54 =>
 cal P f_rec_Size [t54] w fun t55 w =>
 bi .add t9 t55 fun t56 =>
 ldN 34 t11 w.heap fun t58 =>
 cal P f_chain_Chain_add [t32, t58] w fun t59 w =>
 bi .add t44 (.int .i64 1) fun t60 =>
 again2 t56 t60 w))
 (k1 t9 w)) fun _ t9_1 w =>
 cal P f_tape_Tape_Len [t0] w fun t63 w =>
 bi .lss t9_1 t63 fun t64 =>
 cnd t64
 (cal P f_tape_Tape_Truncate [t0, t9_1] w fun t67 w =>
 bi .neq t67 (.int .i64 0) fun t69 =>
 cnd t69
 (R (.tuple #[(.pointer none), t67]) w)
 (R (.tuple #[t32, (.int .i64 0)]) w))
 (R (.tuple #[t32, (.int .i64 0)]) w))))
theorem k_chain_Open : kO Tryz.f9 A_chain_Open = true := by kernel_rfl
theorem s_chain_Open (h : SQ Q (c_chain_Open t0 t1 w)) : cal P f_chain_Open [t0, t1] w Q := sO Tryz.func9 rfl (by kernel_rfl) k_chain_Open (by kernel_rfl) h

/-- flurry/flurrylaw10.first -/
def A_law10_first : An := (An.s (An.r []) (An.s (An.r []) An.o))
def c_law10_first (w : World) (R : KR) : Prop :=
 efP P (Instr.alloc T_api_Block true (.tuple #[])) w fun t0 w =>
 efP P (Instr.buildSlice T_sl_uint8 1 #[(0, (.int .u8 103))]) w fun t1 w =>
 efP P (convert T_sl_uint8 T_sl_uint8 t1) w fun t2 w =>
 rdP P (Instr.build T_api_Block #[(2, t2)]) w fun t3 =>
 stN 34 t0 t3 w fun w =>
 ldN 34 t0 w.heap fun r0 =>
 R r0 w
theorem k_law10_first : kO Tryz.f10 A_law10_first = true := by kernel_rfl
theorem s_law10_first (h : SQ Q (c_law10_first w)) : cal P f_law10_first [] w Q := sO Tryz.func10 rfl (by kernel_rfl) k_law10_first (by kernel_rfl) h

/-- (*flurry/tape.Tape).Bytes -/
def A_tape_Tape_Bytes : An := (An.s (An.r []) (An.s (An.s (An.r []) (An.s (An.s (An.r []) An.o) An.o)) (An.s (An.r []) An.o)))
def c_tape_Tape_Bytes (t0 : Value) (w : World) (R : KR) : Prop :=
 cal P f_tape_Tape_may [t0] w fun t4 w =>
 bi .eql t4 (.int .i64 2) fun t5 =>
 cnd t5
 (R (.slice none 0 0) w)
 (nilc t0 fun t7 =>
 fad 0 t7 fun t8 =>
 ld1 t8 w.heap fun t9 =>
 cal P f_tape_told [t9] w fun t10 w =>
 R t10 w)
theorem k_tape_Tape_Bytes : kO Tryz.f12 A_tape_Tape_Bytes = true := by kernel_rfl
theorem s_tape_Tape_Bytes (h : SQ Q (c_tape_Tape_Bytes t0 w)) : cal P f_tape_Tape_Bytes [t0] w Q := sO Tryz.func12 rfl (by kernel_rfl) k_tape_Tape_Bytes (by kernel_rfl) h

/-- flurry/flurrylaw10.told -/
def A_law10_told : AnY := (AnY.s (AnY.c (An.r [])) (AnY.s (AnY.c (An.r [])) (AnY.s (AnY.c (An.r [])) (AnY.s (AnY.s (AnY.c (An.r [])) (AnY.s (AnY.s (AnY.c (An.r [])) AnY.o) AnY.o)) (AnY.s (AnY.s (AnY.c (An.r [])) (AnY.b (AnY.f (AnY.s (AnY.c (An.r [])) (AnY.c (An.r []))) (AnY.b (AnY.s (AnY.s (AnY.c (An.r [])) (AnY.s AnY.o AnY.o)) (AnY.c (An.r []))))))) (AnY.s (AnY.c (An.r [])) AnY.o))))))
def c_law10_told (t0 t1 : Value) (w : World) (R : KR) : Prop :=
 bx T_int t1 w fun t3 w =>
 efP P (Instr.alloc T_sl_flurrylaw10_named true (.tuple #[])) w fun t5 w =>
 cal P f_chain_Chain_All [t0] w fun t10 w =>
 rdP P (eqS .eql T_iter_Seq2_api_ID_api_Block (Operand.tmp 11) (Operand.const Value.nilFunc) t10 Value.nilFunc) w fun t12 =>
 cnd t12
 (R (.slice none 0 0) w)
 (rng P t10 2 w (fun args0 w beg0 fin0 =>
 efP P (Instr.alloc T_api_ID true (.tuple #[])) w fun t7 w =>
 stN 32 t7 (args0.getD 0 undef) w fun w =>
 efP P (Instr.alloc T_api_Block true (.tuple #[])) w fun t8 w =>
 stN 34 t8 (args0.getD 1 undef) w fun w =>
 beg0 w fun w =>
 ld1 t5 w.heap fun t16 =>
 lenS t16 fun t17 =>
 ld1 t3 w.heap fun t18 =>
 bi .geq t17 t18 fun t19 =>
 cnd t19
 (fin0 (some (.exit 0)) w)
 (ld1 t5 w.heap fun t20 =>
 ldN 32 t7 w.heap fun t21 =>
 ldN 34 t8 w.heap fun t22 =>
 rdP P (Instr.build T_flurrylaw10_named #[(0, t21), (1, t22)]) w fun t23 =>
 efP P (Instr.buildSlice T_sl_flurrylaw10_named 1 #[(0, t23)]) w fun t24 w =>
 efP P (Builtin.append_ #[T_sl_flurrylaw10_named, T_sl_flurrylaw10_named] T_sl_flurrylaw10_named #[t20, t24]) w fun t25 w =>
 st1 t5 t25 w fun w =>
 fin0 none w)) fun D0 => [(none, fun w =>
 ld1 t5 w.heap fun t26 =>
 takeD [D0] w fun w =>
 R t26 w), (some (.exit 0), fun w =>
 ld1 t5 w.heap fun t26_1 =>
 takeD [D0] w fun w =>
 R t26_1 w)])
theorem k_law10_told : kOY Tryz.f13 A_law10_told = true := by kernel_rfl
theorem s_law10_told (h : SQ Q (c_law10_told t0 t1 w)) : cal P f_law10_told [t0, t1] w Q := sOY Tryz.func13 rfl (by kernel_rfl) k_law10_told (by kernel_rfl) h

/-- flurry/flurryref03.Same -/
def A_ref03_Same : An := (An.s (An.r []) (An.s (An.r [[15], [24]]) An.o))
def c_ref03_Same (t0 t1 : Value) (w : World) (R : KR) : Prop :=
 bx T_api_Block t0 w fun t2 w =>
 bx T_api_Block t1 w fun t3 w =>
 fad 0 t2 fun t5 =>
 ldN 32 t5 w.heap fun t6 =>
 fad 0 t3 fun t7 =>
 ldN 32 t7 w.heap fun t8 =>
 rdP P (eqS .eql T_api_ID (Operand.tmp 6) (Operand.tmp 8) t6 t8) w fun t9 =>
 jn1 (fun k0 =>
 gif t9 true
 (fad 32 t2 fun t11 =>
 ld1 t11 w.heap fun t12 =>
 fad 32 t3 fun t13 =>
 ld1 t13 w.heap fun t14 =>
 bi .eql t12 t14 fun t15 =>
 k0 t15 w)
 (k0 undef w)) fun _ t15_1 w =>
 pik t9 t15_1 (.bool false) fun t16 =>
 jn1 (fun k1 =>
 gif t16 true
 (fad 33 t2 fun t18 =>
 ld1 t18 w.heap fun t19 =>
 rdP P (convert T_sl_uint8 T_string t19) w fun t20 =>
 fad 33 t3 fun t21 =>
 ld1 t21 w.heap fun t22 =>
 rdP P (convert T_sl_uint8 T_string t22) w fun t23 =>
 rdP P (eqS .eql T_string (Operand.tmp 20) (Operand.tmp 23) t20 t23) w fun t24 =>
 k1 t24 w)
 (k1 undef w)) fun _ t24_1 w =>
 pik t16 t24_1 (.bool false) fun t25 =>
 R t25 w
theorem k_ref03_Same : kO Tryz.f14 A_ref03_Same = true := by kernel_rfl
theorem s_ref03_Same (h : SQ Q (c_ref03_Same t0 t1 w)) : cal P f_ref03_Same [t0, t1] w Q := sO Tryz.func14 rfl (by kernel_rfl) k_ref03_Same (by kernel_rfl) h

/-- flurry/flurryref03.Linked -/
def A_ref03_Linked : An := (An.s (An.r []) (An.s (An.r []) (An.s (An.s (An.r [[17]]) (An.s (An.s (An.r []) An.o) An.o)) (An.s (An.s (An.r [[26], [34]]) (An.s (An.s (An.r []) An.o) An.o)) (An.s (An.r []) An.o)))))
def c_ref03_Linked (t0 t1 : Value) (w : World) (R : KR) : Prop :=
 bx T_api_Block t0 w fun t2 w =>
 bx T_api_Block t1 w fun t3 w =>
 ldN 34 t3 w.heap fun t8 =>
 cal P f_ref03_ID [t8] w fun t9 w =>
 ext 0 t9 fun t10 =>
 ext 1 t9 fun t11 =>
 efP P (Instr.alloc T_api_ID true (.tuple #[])) w fun t5 w =>
 stN 32 t5 t10 w fun w =>
 bi .neq t11 (.int .i64 0) fun t13 =>
 jn1 (fun k0 =>
 gif t13 false
 (ldN 34 t2 w.heap fun t15 =>
 cal P f_ref03_Check [t15] w fun t16 w =>
 bi .neq t16 (.int .i64 0) fun t17 =>
 k0 t17 w)
 (k0 undef w)) fun _ t17_1 w =>
 pik t13 (.bool true) t17_1 fun t18 =>
 cnd t18
 (R (.int .i64 30) w)
 (fad 32 t2 fun t19 =>
 ld1 t19 w.heap fun t20 =>
 bi .lss t20 (.int .i64 1) fun t21 =>
 jn1 (fun k1 =>
 gif t21 false
 (fad 0 t2 fun t23 =>
 ldN 32 t23 w.heap fun t24 =>
 ldN 32 t5 w.heap fun t25 =>
 rdP P (eqS .neq T_api_ID (Operand.tmp 24) (Operand.tmp 25) t24 t25) w fun t26 =>
 k1 t26 w)
 (k1 undef w)) fun _ t26_1 w =>
 pik t21 (.bool true) t26_1 fun t27 =>
 jn1 (fun k2 =>
 gif t27 false
 (fad 32 t2 fun t29 =>
 ld1 t29 w.heap fun t30 =>
 bi .sub t30 (.int .i64 1) fun t31 =>
 fad 32 t3 fun t32 =>
 ld1 t32 w.heap fun t33 =>
 bi .neq t31 t33 fun t34 =>
 k2 t34 w)
 (k2 undef w)) fun _ t34_1 w =>
 pik t27 (.bool true) t34_1 fun t35 =>
 cnd t35
 (R (.int .i64 31) w)
 (R (.int .i64 0) w))
theorem k_ref03_Linked : kO Tryz.f15 A_ref03_Linked = true := by kernel_rfl
theorem s_ref03_Linked (h : SQ Q (c_ref03_Linked t0 t1 w)) : cal P f_ref03_Linked [t0, t1] w Q := sO Tryz.func15 rfl (by kernel_rfl) k_ref03_Linked (by kernel_rfl) h

/-- (*flurry/chain.Chain).At -/
def A_chain_Chain_At : An := (An.s (An.r []) (An.s (An.s (An.r []) (An.s (An.r []) (An.s (An.s (An.r []) An.o) An.o))) (An.s (An.s (An.r [[22]]) (An.s (An.s (An.r []) An.o) An.o)) (An.s (An.r []) An.o))))
def c_chain_Chain_At (t0 t1 : Value) (w : World) (R : KR) : Prop :=
 efP P (Instr.alloc T_api_Block true (.tuple #[])) w fun t4 w =>
 cal P f_chain_Chain_may [t0] w fun t8 w =>
 bi .neq t8 (.int .i64 0) fun t10 =>
 cnd t10
 (rdP P (Instr.build T_api_Block #[]) w fun t11 =>
 stN 34 t4 t11 w fun w =>
 ldN 34 t4 w.heap fun r0 =>
 R (.tuple #[r0, t8]) w)
 (bi .lss t1 (.int .i64 0) fun t14 =>
 jn1 (fun k1 =>
 gif t14 false
 (nilc t0 fun t18 =>
 fad 1 t18 fun t19 =>
 ld1 t19 w.heap fun t20 =>
 lenS t20 fun t21 =>
 bi .geq t1 t21 fun t22 =>
 k1 t22 w)
 (k1 undef w)) fun _ t22_1 w =>
 pik t14 (.bool true) t22_1 fun t23 =>
 cnd t23
 (rdP P (Instr.build T_api_Block #[]) w fun t24 =>
 stN 34 t4 t24 w fun w =>
 ldN 34 t4 w.heap fun r2 =>
 R (.tuple #[r2, (.int .i64 4)]) w)
 (nilc t0 fun t26 =>
 fad 1 t26 fun t27 =>
 ld1 t27 w.heap fun t28 =>
 ixs 34 t28 t1 fun t30 =>
 ldN 34 t30 w.heap fun t31 =>
 cal P f_block_Clone [t31] w fun t32 w =>
 stN 34 t4 t32 w fun w =>
 ldN 34 t4 w.heap fun r3 =>
 R (.tuple #[r3, (.int .i64 0)]) w))
theorem k_chain_Chain_At : kO Tryz.f16 A_chain_Chain_At = true := by kernel_rfl
theorem s_chain_Chain_At (h : SQ Q (c_chain_Chain_At t0 t1 w)) : cal P f_chain_Chain_At [t0, t1] w Q := sO Tryz.func16 rfl (by kernel_rfl) k_chain_Chain_At (by kernel_rfl) h

/-- flurry/flurryref09.Size -/
def A_ref09_Size : An := (An.s (An.r []) (An.s (An.r []) (An.s (An.r []) An.o)))
def c_ref09_Size (t0 : Value) (w : World) (R : KR) : Prop :=
 bx T_api_Block t0 w fun t1 w =>
 ldN 34 t1 w.heap fun t6 =>
 cal P f_ref09_Bytes [t6] w fun t7 w =>
 ext 0 t7 fun t8 =>
 ext 1 t7 fun t9 =>
 lenS t8 fun t11 =>
 R t11 w
theorem k_ref09_Size : kO Tryz.f17 A_ref09_Size = true := by kernel_rfl
theorem s_ref09_Size (h : SQ Q (c_ref09_Size t0 w)) : cal P f_ref09_Size [t0] w Q := sO Tryz.func17 rfl (by kernel_rfl) k_ref09_Size (by kernel_rfl) h

/-- bytes.Equal -/
def A_bytes_Equal : An := (An.s (An.r []) (An.s (An.r []) An.o))
def c_bytes_Equal (t0 t1 : Value) (w : World) (R : KR) : Prop :=
 rdP P (convert T_sl_uint8 T_string t0) w fun t6 =>
 rdP P (convert T_sl_uint8 T_string t1) w fun t8 =>
 rdP P (eqS .eql T_string (Operand.tmp 6) (Operand.tmp 8) t6 t8) w fun t9 =>
 R t9 w
theorem k_bytes_Equal : kO Tryz.f18 A_bytes_Equal = true := by kernel_rfl
theorem s_bytes_Equal (h : SQ Q (c_bytes_Equal t0 t1 w)) : cal P f_bytes_Equal [t0, t1] w Q := sO Tryz.func18 rfl (by kernel_rfl) k_bytes_Equal (by kernel_rfl) h

/-- (*flurry/chain.Chain).Last -/
def A_chain_Chain_Last : An := (An.s (An.r []) (An.s (An.s (An.r []) (An.s (An.s (An.r []) An.o) An.o)) (An.s (An.dc [0, 1, 2, 3, 4, 5, 6, 7, 8, 9, 10, 11, 12, 13, 14, 15, 16] [15] []) An.o)))
def c_chain_Chain_Last (t0 : Value) (w : World) (R : KR) : Prop :=
 efP P (Instr.alloc T_api_ID true (.tuple #[])) w fun t2 w =>
 cal P f_chain_Chain_none [t0] w fun t5 w =>
 cnd t5
 (rdP P (Instr.build T_api_ID #[]) w fun t6 =>
 stN 32 t2 t6 w fun w =>
 ldN 32 t2 w.heap fun r0 =>
 R (.tuple #[r0, (.int .i64 0)]) w)
 (drH w fun S w =>
 nilc t0 fun t8 =>
 fad 2 t8 fun t9 =>
 rdS S (fun w => ld1 t9 w.heap) fun t10 =>
 nilc t0 fun t12 =>
 fad 2 t12 fun t13 =>
 rdS S (fun w => ld1 t13 w.heap) fun t14 =>
 lenS t14 fun t15 =>
 bi .sub t15 (.int .i64 1) fun t16 =>
 ixs 32 t10 t16 fun t17 =>
 rdS S (fun w => ldN 32 t17 w.heap) fun t18 =>
 efS S (cal P f_chain_Chain_last [t0]) w fun t20 w =>
 fldv 32 1 false t20 fun t21 =>
 efC (fun w K => stN 32 t2 t18 w (K undef)) w fun S _ w =>
 ldN 32 t2 w.heap fun r1 =>
 R (.tuple #[r1, t21]) w)
theorem k_chain_Chain_Last : kO Tryz.f19 A_chain_Chain_Last = true := by kernel_rfl
theorem s_chain_Chain_Last (h : SQ Q (c_chain_Chain_Last t0 w)) : cal P f_chain_Chain_Last [t0] w Q := sO Tryz.func19 rfl (by kernel_rfl) k_chain_Chain_Last (by kernel_rfl) h

/-- flurry/flurryref08.Of -/
def A_ref08_Of : An := (An.s (An.r []) (An.s (An.s (An.r []) (An.s (An.s (An.r []) An.o) An.o)) (An.s (An.r []) An.o)))
def c_ref08_Of (t0 : Value) (w : World) (R : KR) : Prop :=
 lenS t0 fun t5 =>
 bi .gtr t5 (.int .i64 262144) fun t6 =>
 cnd t6
 (R (.tuple #[(.pointer none), (.int .i64 3)]) w)
 (efP P (Builtin.append_ #[T_sl_uint8, T_sl_uint8] T_sl_uint8 #[(.slice none 0 0), t0]) w fun t8 w =>
 rdP P (Instr.build T_flurryref08_Tape #[(0, t8), (2, (.int .i64 (-1)))]) w fun t9 =>
 bx T_flurryref08_Tape t9 w fun t10 w =>
 R (.tuple #[t10, (.int .i64 0)]) w)
theorem k_ref08_Of : kO Tryz.f20 A_ref08_Of = true := by kernel_rfl
theorem s_ref08_Of (h : SQ Q (c_ref08_Of t0 w)) : cal P f_ref08_Of [t0] w Q := sO Tryz.func20 rfl (by kernel_rfl) k_ref08_Of (by kernel_rfl) h

/-- (*flurry/tape.Tape).Crash -/
def A_tape_Tape_Crash : An := (An.s (An.r []) (An.s (An.r []) (An.s (An.s (An.r []) (An.s (An.r []) An.o)) (An.s (An.r []) An.o))))
def c_tape_Tape_Crash (t0 : Value) (w : World) (R : KR) : Prop :=
 cal P f_tape_Tape_may [t0] w fun t5 w =>
 bi .eql t5 (.int .i64 0) fun t7 =>
 cnd t7
 (cal P f_tape_Tape_goes [t0] w fun t9 w =>
 R t5 w)
 (R t5 w)
theorem k_tape_Tape_Crash : kO Tryz.f21 A_tape_Tape_Crash = true := by kernel_rfl
theorem s_tape_Tape_Crash (h : SQ Q (c_tape_Tape_Crash t0 w)) : cal P f_tape_Tape_Crash [t0] w Q := sO Tryz.func21 rfl (by kernel_rfl) k_tape_Tape_Crash (by kernel_rfl) h

/-- (*flurry/flurryref08.Tape).Crash -/
def A_ref08_Tape_Crash : An := (An.s (An.r []) (An.s (An.s (An.r []) (An.s (An.s (An.r []) An.o) An.o)) (An.s (An.r []) (An.s (An.r []) (An.s (An.r []) An.o)))))
def c_ref08_Tape_Crash (t0 : Value) (w : World) (R : KR) : Prop :=
 nilc t0 fun t4 =>
 fad 1 t4 fun t5 =>
 ld1 t5 w.heap fun t6 =>
 cnd t6
 (R (.int .i64 5) w)
 (nilc t0 fun t8 =>
 fad 1 t8 fun t9 =>
 st1 t9 (.bool true) w fun w =>
 nilc t0 fun t11 =>
 fad 2 t11 fun t12 =>
 st1 t12 (.int .i64 (-1)) w fun w =>
 R (.int .i64 0) w)
theorem k_ref08_Tape_Crash : kO Tryz.f22 A_ref08_Tape_Crash = true := by kernel_rfl
theorem s_ref08_Tape_Crash (h : SQ Q (c_ref08_Tape_Crash t0 w)) : cal P f_ref08_Tape_Crash [t0] w Q := sO Tryz.func22 rfl (by kernel_rfl) k_ref08_Tape_Crash (by kernel_rfl) h

/-- (*flurry/flurrylaw10.world).opens -/
def A_law10_world_opens : An := (An.s (An.r []) (An.s (An.dc [0, 1, 2, 3, 4, 5, 6, 7, 8, 9, 10] [5] []) (An.s (An.dc [0, 1, 2, 3, 4, 5, 6, 7, 8, 9, 10] [5] []) (An.s (An.s (An.r [[35], [42]]) (An.s (An.s (An.r []) An.o) An.o)) (An.s (An.j [] (An.s (An.r []) (An.s (An.r []) An.o))) (An.s (An.d [0, 1, 2, 3, 5, 6, 7, 8, 4, 9, 10, 11] [[63]]) An.o))))))
def c_law10_world_opens (t0 t1 : Value) (w : World) (R : KR) : Prop :=
 bx T_api_Block t1 w fun t3 w =>
 drH w fun S w =>
 nilc t0 fun t11 =>
 fad 0 t11 fun t12 =>
 rdS S (fun w => ld1 t12 w.heap) fun t13 =>
 rdS S (fun w => ldN 34 t3 w.heap) fun t14 =>
 efC (cal P f_chain_Open [t13, t14]) w fun S t15 w =>
 ext 0 t15 fun t16 =>
 ext 1 t15 fun t17 =>
 drH w fun S w =>
 nilc t0 fun t20 =>
 fad 2 t20 fun t21 =>
 rdS S (fun w => ld1 t21 w.heap) fun t22 =>
 rdS S (fun w => ldN 34 t3 w.heap) fun t23 =>
 efC (cal P f_ref10_Open [t22, t23]) w fun S t24 w =>
 ext 0 t24 fun t25 =>
 ext 1 t24 fun t26 =>
 bi .neq t17 t26 fun t29 =>
 jn1 (fun k0 =>
 gif t29 false
 (nilP false t16 fun t32 =>
 nilP false t25 fun t34 =>
 rdP P (eqS .neq T_bool (Operand.tmp 32) (Operand.tmp 34) t32 t34) w fun t35 =>
 k0 t35 w)
 (k0 undef w)) fun _ t35_1 w =>
 pik t29 (.bool true) t35_1 fun t36 =>
 jn1 (fun k1 =>
 gif t36 false
 (nilP false t16 fun t39 =>
 bi .neq t17 (.int .i64 0) fun t41 =>
 rdP P (eqS .neq T_bool (Operand.tmp 39) (Operand.tmp 41) t39 t41) w fun t42 =>
 k1 t42 w)
 (k1 undef w)) fun _ t42_1 w =>
 pik t36 (.bool true) t42_1 fun t43 =>
 cnd t43
 (R (.bool false) w)
 (jn0 (fun k2 =>
 nilP true t16 fun t45 =>
 cnd t45
 (nilc t0 fun t50 =>
 fad 1 t50 fun t51 =>
 st1 t51 t16 w fun w =>
 nilc t0 fun t52 =>
 fad 3 t52 fun t53 =>
 st1 t53 t25 w fun w =>
 k2 w)
 (k2 w)) fun _ w =>
 drH w fun S w =>
 nilP false t16 fun t55 =>
 jn1 (fun k3 =>
 gif t55 false
 (nilc t0 fun t60 =>
 fad 0 t60 fun t61 =>
 rdS S (fun w => ld1 t61 w.heap) fun t62 =>
 efS S (cal P f_chain_Chain_Tape [t16]) w fun t58 w =>
 rdS S (rdP P (eqS .eql T_p_tape_Tape (Operand.tmp 58) (Operand.tmp 62) t58 t62)) fun t63 =>
 k3 t63 w)
 (k3 undef w)) fun _ t63_1 w =>
 pik t55 (.bool true) t63_1 fun t64 =>
 R t64 w)
theorem k_law10_world_opens : kO Tryz.f23 A_law10_world_opens = true := by kernel_rfl
theorem s_law10_world_opens (h : SQ Q (c_law10_world_opens t0 t1 w)) : cal P f_law10_world_opens [t0, t1] w Q := sO Tryz.func23 rfl (by kernel_rfl) k_law10_world_opens (by kernel_rfl) h

/-- flurry/flurrylaw10.alike -/
def A_law10_alike : An := (An.s (An.r []) (An.s (An.r []) (An.s (An.r []) (An.s (An.r []) (An.s (An.s (An.d [0, 1, 2, 3, 4, 5, 6, 7, 8, 9, 10, 11, 12, 13, 14, 15, 16, 17, 18, 19, 22, 23, 24, 25, 26, 27, 20, 21, 28, 29, 30, 31, 33, 34, 35, 36, 37, 38, 39, 40, 41, 42, 43, 44, 32, 45, 46, 47] [[32], [42], [54], [72]]) (An.s (An.s (An.r []) An.o) An.o)) (An.s (An.s (An.r []) (An.b (An.l [79] (An.s (An.r []) (An.s (An.s An.o An.o) (An.s (An.b (An.s (An.r []) (An.s (An.r []) (An.s (An.d [0, 1, 2, 3, 4, 5, 6, 7, 8, 9, 10, 11, 12, 13, 14, 15, 16, 17, 18, 19, 20, 21, 22] [[104], [110]]) (An.s (An.s (An.r []) An.o) An.o))))) (An.r []))))))) (An.s (An.r []) An.o)))))))
def c_law10_alike (t0 t1 : Value) (w : World) (R : KR) : Prop :=
 cal P f_chain_Chain_Last [t0] w fun t16 w =>
 ext 0 t16 fun t17 =>
 ext 1 t16 fun t18 =>
 efP P (Instr.alloc T_api_ID true (.tuple #[])) w fun t5 w =>
 stN 32 t5 t17 w fun w =>
 cal P f_ref10_Chain_Last [t1] w fun t21 w =>
 ext 0 t21 fun t22 =>
 ext 1 t21 fun t23 =>
 efP P (Instr.alloc T_api_ID true (.tuple #[])) w fun t7 w =>
 stN 32 t7 t22 w fun w =>
 cal P f_law10_told [t0, (.int .i64 1048576)] w fun t25 w =>
 drH w fun S w =>
 rdS S (fun w => ldN 32 t5 w.heap) fun t26 =>
 rdS S (fun w => ldN 32 t7 w.heap) fun t27 =>
 rdS S (rdP P (eqS .neq T_api_ID (Operand.tmp 26) (Operand.tmp 27) t26 t27)) fun t28 =>
 jn1 (fun k0 =>
 gif t28 false
 (bi .neq t18 t23 fun t32 =>
 k0 t32 w)
 (k0 undef w)) fun _ t32_1 w =>
 pik t28 (.bool true) t32_1 fun t33 =>
 jn1 (fun k1 =>
 gif t33 false
 (lenS t25 fun t36 =>
 nilc t1 fun t38 =>
 fad 1 t38 fun t39 =>
 rdS S (fun w => ld1 t39 w.heap) fun t40 =>
 lenS t40 fun t41 =>
 bi .neq t36 t41 fun t42 =>
 k1 t42 w)
 (k1 undef w)) fun _ t42_1 w =>
 pik t33 (.bool true) t42_1 fun t43 =>
 jn1 (fun k2 =>
 gif t43 false
 (nilc t1 fun t49 =>
 fad 1 t49 fun t50 =>
 rdS S (fun w => ld1 t50 w.heap) fun t51 =>
 lenS t51 fun t52 =>
 rdS S (rdP P (Builtin.min_ #[T_int, T_int] T_int #[(.int .i64 1), t52])) fun t53 =>
 efS S (cal P f_law10_told [t0, (.int .i64 1)]) w fun t46 w =>
 lenS t46 fun t47 =>
 bi .neq t47 t53 fun t54 =>
 k2 t54 w)
 (k2 undef w)) fun _ t54_1 w =>
 pik t43 (.bool true) t54_1 fun t55 =>
 jn1 (fun k3 =>
 gif t55 false
 (nilc t1 fun t60 =>
 fad 1 t60 fun t61 =>
 rdS S (fun w => ld1 t61 w.heap) fun t62 =>
 nilc t1 fun t64 =>
 fad 1 t64 fun t65 =>
 rdS S (fun w => ld1 t65 w.heap) fun t66 =>
 lenS t66 fun t67 =>
 bi .sub t67 (.int .i64 1) fun t68 =>
 ixs 34 t62 t68 fun t69 =>
 rdS S (fun w => ldN 34 t69 w.heap) fun t70 =>
 efS S (cal P f_chain_Chain_Block [t0]) w fun t58 w =>
 efS S (cal P f_ref03_Same [t58, t70]) w fun t71 w =>
 notB t71 fun t72 =>
 k3 t72 w)
 (k3 undef w)) fun _ t72_1 w =>
 pik t55 (.bool true) t72_1 fun t73 =>
 cnd t73
 (R (.bool false) w)
 (nilc t1 fun t75 =>
 fad 1 t75 fun t76 =>
 ld1 t76 w.heap fun t77 =>
 lenS t77 fun t78 =>
 lp1 (.int .i64 0) w fun _ t79 w again4 =>
 bi .lss t79 t78 fun t80 =>
 cnd t80
 (ixs 34 t77 t79 fun t82 =>
 ldN 34 t82 w.heap fun t83 =>
 efP P (Instr.alloc T_api_Block true (.tuple #[])) w fun t11 w =>
 stN 34 t11 t83 w fun w =>
 ldN 34 t11 w.heap fun t85 =>
 cal P f_ref03_ID [t85] w fun t86 w =>
 ext 0 t86 fun t87 =>
 ext 1 t86 fun t88 =>
 efP P (Instr.alloc T_api_ID true (.tuple #[])) w fun t12 w =>
 stN 32 t12 t87 w fun w =>
 drH w fun S w =>
 ixs 66 t25 t79 fun t91 =>
 fad 0 t91 fun t92 =>
 rdS S (fun w => ldN 32 t92 w.heap) fun t93 =>
 rdS S (fun w => ldN 32 t12 w.heap) fun t94 =>
 rdS S (rdP P (eqS .neq T_api_ID (Operand.tmp 93) (Operand.tmp 94) t93 t94)) fun t95 =>
 jn1 (fun k5 =>
 gif t95 false
 (ixs 66 t25 t79 fun t99 =>
 fad 32 t99 fun t100 =>
 rdS S (fun w => ldN 34 t100 w.heap) fun t101 =>
 rdS S (fun w => ldN 34 t11 w.heap) fun t102 =>
 efS S (cal P f_ref03_Same [t101, t102]) w fun t103 w =>
 notB t103 fun t104 =>
 k5 t104 w)
 (k5 undef w)) fun _ t104_1 w =>
 pik t95 (.bool true) t104_1 fun t105 =>
 jn1 (fun k6 =>
 gif t105 false
 (rdS S (fun w => ldN 32 t12 w.heap) fun t108 =>
 efS S (cal P f_chain_Chain_Has [t0, t108]) w fun t109 w =>
 notB t109 fun t110 =>
 k6 t110 w)
 (k6 undef w)) fun _ t110_1 w =>
 pik t105 (.bool true) t110_1 fun t111 =>
 cnd t111
 (R (.bool false) w)
 (bi .add t79 (.int .i64 1) fun t112 =>
 again4 t112 w))
 (R (.bool true) w))
theorem k_law10_alike : kO Tryz.f24 A_law10_alike = true := by kernel_rfl
theorem s_law10_alike (h : SQ Q (c_law10_alike t0 t1 w)) : cal P f_law10_alike [t0, t1] w Q := sO Tryz.func24 rfl (by kernel_rfl) k_law10_alike (by kernel_rfl) h

/-- (*flurry/chain.Chain).Get -/
def A_chain_Chain_Get : An := (An.s (An.r []) (An.s (An.s (An.r []) (An.s (An.r []) (An.s (An.s (An.r []) An.o) An.o))) (An.s (An.r []) (An.s (An.s (An.r []) (An.s (An.s (An.r []) An.o) An.o)) (An.s (An.r []) An.o)))))
def c_chain_Chain_Get (t0 t1 : Value) (w : World) (R : KR) : Prop :=
 bx T_api_ID t1 w fun t3 w =>
 efP P (Instr.alloc T_api_Block true (.tuple #[])) w fun t4 w =>
 cal P f_chain_Chain_may [t0] w fun t10 w =>
 bi .neq t10 (.int .i64 0) fun t12 =>
 cnd t12
 (rdP P (Instr.build T_api_Block #[]) w fun t13 =>
 stN 34 t4 t13 w fun w =>
 ldN 34 t4 w.heap fun r0 =>
 R (.tuple #[r0, t10]) w)
 (drw w fun w =>
 nilc t0 fun t17 =>
 fad 3 t17 fun t18 =>
 ld1 t18 w.heap fun t19 =>
 ldN 32 t3 w.heap fun t20 =>
 rdP P (Instr.lookup T_map_api_ID_int t19 t20 true) w fun t21 =>
 ext 0 t21 fun t22 =>
 ext 1 t21 fun t23 =>
 notB t23 fun t25 =>
 cnd t25
 (rdP P (Instr.build T_api_Block #[]) w fun t26 =>
 stN 34 t4 t26 w fun w =>
 ldN 34 t4 w.heap fun r1 =>
 R (.tuple #[r1, (.int .i64 4)]) w)
 (nilc t0 fun t28 =>
 fad 1 t28 fun t29 =>
 ld1 t29 w.heap fun t30 =>
 ixs 34 t30 t22 fun t32 =>
 ldN 34 t32 w.heap fun t33 =>
 cal P f_block_Clone [t33] w fun t34 w =>
 stN 34 t4 t34 w fun w =>
 ldN 34 t4 w.heap fun r2 =>
 R (.tuple #[r2, (.int .i64 0)]) w))
theorem k_chain_Chain_Get : kO Tryz.f25 A_chain_Chain_Get = true := by kernel_rfl
theorem s_chain_Chain_Get (h : SQ Q (c_chain_Chain_Get t0 t1 w)) : cal P f_chain_Chain_Get [t0, t1] w Q := sO Tryz.func25 rfl (by kernel_rfl) k_chain_Chain_Get (by kernel_rfl) h

/-- (*flurry/chain.Chain).Ancestors -/
def A_chain_Chain_Ancestors : An := (An.s (An.r []) (An.s (An.s (An.r []) (An.s (An.r []) (An.s (An.s (An.r []) An.o) An.o))) (An.s (An.s (An.r [[21]]) (An.s (An.s (An.r []) An.o) An.o)) (An.s (An.r []) (An.s (An.s (An.r []) (An.s (An.s (An.r []) An.o) An.o)) (An.s (An.r []) (An.s (An.b (An.l [9, 11] (An.s (An.s (An.r [[40]]) (An.s An.o An.o)) (An.s (An.b (An.r [])) (An.r []))))) (An.s (An.r []) An.o))))))))
def c_chain_Chain_Ancestors (t0 t1 t2 : Value) (w : World) (R : KR) : Prop :=
 bx T_api_ID t1 w fun t4 w =>
 cal P f_chain_Chain_may [t0] w fun t13 w =>
 bi .neq t13 (.int .i64 0) fun t15 =>
 cnd t15
 (R (.tuple #[(.slice none 0 0), t13]) w)
 (bi .lss t2 (.int .i64 1) fun t18 =>
 jn1 (fun k0 =>
 gif t18 false
 (bi .gtr t2 (.int .i64 1024) fun t21 =>
 k0 t21 w)
 (k0 undef w)) fun _ t21_1 w =>
 pik t18 (.bool true) t21_1 fun t22 =>
 cnd t22
 (R (.tuple #[(.slice none 0 0), (.int .i64 1)]) w)
 (drw w fun w =>
 nilc t0 fun t25 =>
 fad 3 t25 fun t26 =>
 ld1 t26 w.heap fun t27 =>
 ldN 32 t4 w.heap fun t28 =>
 rdP P (Instr.lookup T_map_api_ID_int t27 t28 true) w fun t29 =>
 ext 0 t29 fun t30 =>
 ext 1 t29 fun t31 =>
 notB t31 fun t33 =>
 cnd t33
 (R (.tuple #[(.slice none 0 0), (.int .i64 4)]) w)
 (lp2 t30 (.slice none 0 0) w fun _ t9 t11 w again1 =>
 bi .geq t9 (.int .i64 0) fun t35 =>
 jn1 (fun k2 =>
 gif t35 true
 (lenS t11 fun t38 =>
 bi .lss t38 t2 fun t40 =>
 k2 t40 w)
 (k2 undef w)) fun _ t40_1 w =>
 pik t35 t40_1 (.bool false) fun t41 =>
 cnd t41
 (nilc t0 fun t46 =>
 fad 1 t46 fun t47 =>
 ld1 t47 w.heap fun t48 =>
 ixs 34 t48 t9 fun t50 =>
 ldN 34 t50 w.heap fun t51 =>
 cal P f_block_Clone [t51] w fun t52 w =>
 efP P (Instr.buildSlice T_sl_api_Block 1 #[(0, t52)]) w fun t53 w =>
 efP P (Builtin.append_ #[T_sl_api_Block, T_sl_api_Block] T_sl_api_Block #[t11, t53]) w fun t54 w =>
 bi .sub t9 (.int .i64 1) fun t43 =>
 again1 t43 t54 w)
 (R (.tuple #[t11, (.int .i64 0)]) w))))
theorem k_chain_Chain_Ancestors : kO Tryz.f26 A_chain_Chain_Ancestors = true := by kernel_rfl
theorem s_chain_Chain_Ancestors (h : SQ Q (c_chain_Chain_Ancestors t0 t1 t2 w)) : cal P f_chain_Chain_Ancestors [t0, t1, t2] w Q := sO Tryz.func26 rfl (by kernel_rfl) k_chain_Chain_Ancestors (by kernel_rfl) h

/-- (*flurry/chain.Chain).Accept -/
def A_chain_Chain_Accept : An := (An.s (An.r []) (An.s (An.s (An.r []) (An.s (An.r []) (An.s (An.s (An.r []) An.o) An.o))) (An.s (An.s (An.r []) (An.s (An.s (An.r []) An.o) An.o)) (An.s (An.s (An.dc [0, 1, 2, 3, 4] [3] []) (An.s (An.r []) (An.s (An.s (An.r []) An.o) An.o))) (An.s (An.r []) (An.s (An.s (An.r []) (An.s (An.s (An.r []) An.o) An.o)) (An.s (An.r []) (An.s (An.s (An.r []) (An.b (An.s (An.r []) (An.s (An.r []) (An.s (An.r []) (An.s (An.r []) An.o)))))) (An.s (An.r []) An.o)))))))))
def c_chain_Chain_Accept (t0 t1 : Value) (w : World) (R : KR) : Prop :=
 bx T_api_Block t1 w fun t3 w =>
 cal P f_chain_Chain_may [t0] w fun t10 w =>
 bi .neq t10 (.int .i64 0) fun t12 =>
 cnd t12
 (R t10 w)
 (nilc t0 fun t15 =>
 fad 0 t15 fun t16 =>
 ld1 t16 w.heap fun t17 =>
 nilc t17 fun t18 =>
 fad 0 t18 fun t19 =>
 ld1 t19 w.heap fun t20 =>
 cal P f_tape_Tape_On [t20] w fun t21 w =>
 notB t21 fun t22 =>
 cnd t22
 (R (.int .i64 5) w)
 (drH w fun S w =>
 rdS S (fun w => ldN 34 t3 w.heap) fun t23 =>
 efS S (cal P f_chain_Chain_last [t0]) w fun t25 w =>
 efC (cal P f_block_Linked [t23, t25]) w fun S t26 w =>
 bi .neq t26 (.int .i64 0) fun t28 =>
 cnd t28
 (R t26 w)
 (ldN 34 t3 w.heap fun t31 =>
 cal P f_rec_Bytes [t31] w fun t32 w =>
 ext 0 t32 fun t33 =>
 ext 1 t32 fun t34 =>
 bi .neq t34 (.int .i64 0) fun t36 =>
 cnd t36
 (R t34 w)
 (nilc t0 fun t39 =>
 fad 0 t39 fun t40 =>
 ld1 t40 w.heap fun t41 =>
 nilc t41 fun t42 =>
 fad 0 t42 fun t43 =>
 ld1 t43 w.heap fun t44 =>
 efP P (Instr.buildSlice T_sl_sl_uint8 1 #[(0, t33)]) w fun t46 w =>
 cal P f_tape_Tape_Append [t44, t46] w fun t47 w =>
 bi .eql t47 (.int .i64 0) fun t50 =>
 cnd t50
 (ldN 34 t3 w.heap fun t52 =>
 cal P f_chain_Chain_add [t0, t52] w fun t53 w =>
 R t47 w)
 (bi .eql t47 (.int .i64 5) fun t55 =>
 cnd t55
 (nilc t0 fun t57 =>
 fad 4 t57 fun t58 =>
 st1 t58 (.bool true) w fun w =>
 R t47 w)
 (R t47 w))))))
theorem k_chain_Chain_Accept : kO Tryz.f27 A_chain_Chain_Accept = true := by kernel_rfl
theorem s_chain_Chain_Accept (h : SQ Q (c_chain_Chain_Accept t0 t1 w)) : cal P f_chain_Chain_Accept [t0, t1] w Q := sO Tryz.func27 rfl (by kernel_rfl) k_chain_Chain_Accept (by kernel_rfl) h

/-- (*flurry/chain.Chain).Has -/
def A_chain_Chain_Has : An := (An.s (An.r []) (An.s (An.s (An.r []) (An.s (An.s (An.r []) An.o) An.o)) (An.s (An.r []) (An.s (An.r []) An.o))))
def c_chain_Chain_Has (t0 t1 : Value) (w : World) (R : KR) : Prop :=
 bx T_api_ID t1 w fun t3 w =>
 cal P f_chain_Chain_none [t0] w fun t8 w =>
 cnd t8
 (R (.bool false) w)
 (drw w fun w =>
 nilc t0 fun t11 =>
 fad 3 t11 fun t12 =>
 ld1 t12 w.heap fun t13 =>
 ldN 32 t3 w.heap fun t14 =>
 rdP P (Instr.lookup T_map_api_ID_int t13 t14 true) w fun t15 =>
 ext 0 t15 fun t16 =>
 ext 1 t15 fun t17 =>
 R t17 w)
theorem k_chain_Chain_Has : kO Tryz.f28 A_chain_Chain_Has = true := by kernel_rfl
theorem s_chain_Chain_Has (h : SQ Q (c_chain_Chain_Has t0 t1 w)) : cal P f_chain_Chain_Has [t0, t1] w Q := sO Tryz.func28 rfl (by kernel_rfl) k_chain_Chain_Has (by kernel_rfl) h

/-- (*flurry/chain.Chain).Tape -/
def A_chain_Chain_Tape : An := (An.s (An.r []) (An.s (An.s (An.r []) (An.s (An.s (An.r []) An.o) An.o)) (An.s (An.r []) An.o)))
def c_chain_Chain_Tape (t0 : Value) (w : World) (R : KR) : Prop :=
 cal P f_chain_Chain_none [t0] w fun t4 w =>
 cnd t4
 (R (.pointer none) w)
 (nilc t0 fun t6 =>
 fad 0 t6 fun t7 =>
 ld1 t7 w.heap fun t8 =>
 nilc t8 fun t9 =>
 fad 0 t9 fun t10 =>
 ld1 t10 w.heap fun t11 =>
 R t11 w)
theorem k_chain_Chain_Tape : kO Tryz.f29 A_chain_Chain_Tape = true := by kernel_rfl
theorem s_chain_Chain_Tape (h : SQ Q (c_chain_Chain_Tape t0 w)) : cal P f_chain_Chain_Tape [t0] w Q := sO Tryz.func29 rfl (by kernel_rfl) k_chain_Chain_Tape (by kernel_rfl) h

/-- (*flurry/chain.Chain).Block -/
def A_chain_Chain_Block : An := (An.s (An.r []) (An.s (An.s (An.r []) (An.s (An.s (An.r []) An.o) An.o)) (An.s (An.r []) An.o)))
def c_chain_Chain_Block (t0 : Value) (w : World) (R : KR) : Prop :=
 efP P (Instr.alloc T_api_Block true (.tuple #[])) w fun t2 w =>
 cal P f_chain_Chain_none [t0] w fun t4 w =>
 cnd t4
 (rdP P (Instr.build T_api_Block #[]) w fun t5 =>
 stN 34 t2 t5 w fun w =>
 ldN 34 t2 w.heap fun r0 =>
 R r0 w)
 (cal P f_chain_Chain_last [t0] w fun t7 w =>
 cal P f_block_Clone [t7] w fun t8 w =>
 stN 34 t2 t8 w fun w =>
 ldN 34 t2 w.heap fun r1 =>
 R r1 w)
theorem k_chain_Chain_Block : kO Tryz.f30 A_chain_Chain_Block = true := by kernel_rfl
theorem s_chain_Chain_Block (h : SQ Q (c_chain_Chain_Block t0 w)) : cal P f_chain_Chain_Block [t0] w Q := sO Tryz.func30 rfl (by kernel_rfl) k_chain_Chain_Block (by kernel_rfl) h

/-- flurry/flurrylaw10.few -/
def A_law10_few : An := (An.s (An.r []) (An.s (An.r []) (An.s (An.s (An.r []) (An.b (An.l [13] (An.s (An.r []) (An.s (An.s An.o An.o) (An.s (An.b (An.s (An.r []) (An.s (An.r [[26]]) (An.s (An.s (An.r []) An.o) An.o)))) (An.r []))))))) (An.s (An.r []) An.o))))
def c_law10_few (t0 : Value) (w : World) (R : KR) : Prop :=
 lenS t0 fun t8 =>
 rdP P (Builtin.min_ #[T_int, T_int] T_int #[t8, (.int .i64 30)]) w fun t9 =>
 slc 37 t0 none (some t9) fun t10 =>
 lenS t10 fun t12 =>
 lp1 (.int .i64 0) w fun _ t13 w again0 =>
 bi .lss t13 t12 fun t14 =>
 cnd t14
 (ixs 37 t10 t13 fun t15 =>
 ldN 37 t15 w.heap fun t16 =>
 efP P (Instr.alloc T_flurrylaw10_Op true (.tuple #[])) w fun t5 w =>
 stN 37 t5 t16 w fun w =>
 fad 2 t5 fun t17 =>
 ld1 t17 w.heap fun t18 =>
 lenS t18 fun t19 =>
 bi .gtr t19 (.int .i64 300) fun t20 =>
 jn1 (fun k1 =>
 gif t20 false
 (fad 3 t5 fun t22 =>
 fad 33 t22 fun t23 =>
 ld1 t23 w.heap fun t24 =>
 lenS t24 fun t25 =>
 bi .gtr t25 (.int .i64 300) fun t26 =>
 k1 t26 w)
 (k1 undef w)) fun _ t26_1 w =>
 pik t20 (.bool true) t26_1 fun t27 =>
 cnd t27
 (R (.tuple #[(.slice none 0 0), (.bool false)]) w)
 (bi .add t13 (.int .i64 1) fun t28 =>
 again0 t28 w))
 (R (.tuple #[t10, (.bool true)]) w)
theorem k_law10_few : kO Tryz.f31 A_law10_few = true := by kernel_rfl
theorem s_law10_few (h : SQ Q (c_law10_few t0 w)) : cal P f_law10_few [t0] w Q := sO Tryz.func31 rfl (by kernel_rfl) k_law10_few (by kernel_rfl) h


end Go.Fx
