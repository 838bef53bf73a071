/-
  The readings of the functions that are walked (c_..), printed by program; each is held against the loaded code by the kernel (e_..), and gives the call (l_..).
-/
import Derived.Test.YtpdnddcodnpmeaaGreatDoorProg
import Derived.KernelRfl
import Derived.Test.YtpdnddcodnpmeaaGreatDoorQ952b5fe2
import Derived.Test.YtpdnddcodnpmeaaGreatDoorQd5ec66e2
set_option linter.unusedVariables false
set_option maxRecDepth 100000
namespace Go.Fx
noncomputable abbrev P : Program := Go.Proofs.Tryz.prog
open Go.Proofs
def bodyOf (f : Func) : Code := match f.body with | some c => c | none => .skip
theorem mixed : P.follows .mixedOrders = true := by kernel_rfl
abbrev KR := Value → World → Prop
abbrev SQ (Q : KR) (c : KR → Prop) : Prop := ∀ R : KR, (∀ v w', Q v w' → R v w') → c R
noncomputable def kO (fn : Func) (A : An) : Bool := chk P fn.ntmps A (bodyOf fn)
def iO (fn : Func) (A : An) (l : List Value) (w : World) (R : KR) : Prop := intp P A (bodyOf fn) (ini l) w (retK P fn.results.toList R) (fun _ _ _ => False) (retK P fn.results.toList R)
theorem sO {f : FuncId} {fn : Func} {A : An} {l : List Value} {w : World} {Q : KR} {c : KR → Prop} (hf : P.funcs[f]? = some fn) (hb : fn.body = some (bodyOf fn)) (hn : Nat.ble l.length fn.ntmps = true) (hk : kO fn A = true)
    (he : iO fn A l w Q = c Q) (h : SQ Q c) : cal P f l w Q := calls_of mixed hf hb hn hk (Eq.mpr he (h Q fun _ _ h => h))
noncomputable def kOY (fn : Func) (A : AnY) : Bool := chkY P fn.ntmps A (bodyOf fn)
def iOY (fn : Func) (A : AnY) (l : List Value) (w : World) (R : KR) : Prop := intpY P A (bodyOf fn) (ini l) [] w (retY P fn.results.toList R) (fun _ _ _ _ => False) (retY P fn.results.toList R)
theorem sOY {f : FuncId} {fn : Func} {A : AnY} {l : List Value} {w : World} {Q : KR} {c : KR → Prop} (hf : P.funcs[f]? = some fn) (hb : fn.body = some (bodyOf fn)) (hn : Nat.ble l.length fn.ntmps = true) (hk : kOY fn A = true)
    (he : iOY fn A l w Q = c Q) (h : SQ Q c) : cal P f l w Q := calls_ofY mixed hf hb hn hk (Eq.mpr he (h Q fun _ _ h => h))
variable {t0 t1 t2 t3 t4 t5 t6 t7 t8 t9 : Value} {w : World} {Q : KR}
abbrev f_law19_TopoStays : FuncId := 5
abbrev f_law19_live : FuncId := 8
abbrev f_law19_few : FuncId := 9
abbrev f_law19_fresh : FuncId := 10
abbrev f_law19_names_block : FuncId := 11
abbrev f_law19_world_does : FuncId := 12
abbrev f_slices_Contains_api_ID_api_ID : FuncId := 15
abbrev f_topo_Topo_Preference : FuncId := 16
abbrev f_topo_Topo_Len : FuncId := 17
abbrev f_topo_Topo_Count : FuncId := 18
abbrev f_law19_names_votes : FuncId := 19
abbrev f_topo_Topo_Tree : FuncId := 20
abbrev f_topo_Topo_Preferred : FuncId := 22
abbrev f_tree_Tree_Within : FuncId := 24
abbrev f_tree_Tree_Has : FuncId := 25
abbrev f_tree_Tree_Root : FuncId := 26
abbrev f_tree_Tree_Path : FuncId := 27
abbrev f_law19_kids : FuncId := 28
abbrev f_slices_Clone_api_ID_api_ID : FuncId := 34
abbrev f_tree_Tree_Move : FuncId := 36
abbrev f_block_First : FuncId := 37
abbrev f_block_ID : FuncId := 38
abbrev f_topo_New : FuncId := 39
abbrev f_law19_one : FuncId := 40
abbrev f_block_Child : FuncId := 41
abbrev f_topo_Topo_Add : FuncId := 42
abbrev f_topo_Topo_Poll : FuncId := 43
abbrev f_slices_Equal_api_ID_api_ID : FuncId := 44
abbrev f_law19_names_told : FuncId := 45
abbrev f_topo_Topo_none : FuncId := 46
abbrev f_slices_Index_api_ID_api_ID : FuncId := 48
abbrev f_snow_Prefers : FuncId := 49
abbrev f_tree_Tree_Len : FuncId := 50
abbrev f_bag_Check : FuncId := 51
abbrev f_topo_Topo_counts : FuncId := 52
abbrev f_ref07_Add : FuncId := 53
abbrev f_tree_Tree_Clone : FuncId := 54
abbrev f_tree_Tree_level : FuncId := 55
abbrev f_tree_Tree_none : FuncId := 56
abbrev f_slices_Reverse_api_ID_api_ID : FuncId := 57
abbrev f_tree_Tree_Kids : FuncId := 58
abbrev f_tree_Tree_those : FuncId := 76
abbrev f_tree_Tree_Move_1 : FuncId := 77
abbrev f_tree_Tree_Move_2 : FuncId := 78
abbrev f_block_made : FuncId := 79
abbrev f_block_Bytes : FuncId := 80
abbrev f_sha_Sum : FuncId := 81
abbrev f_snow_Params : FuncId := 82
abbrev f_tree_New : FuncId := 83
abbrev f_tree_Tree_Add : FuncId := 84
abbrev f_snow_Add : FuncId := 85
abbrev f_snow_New : FuncId := 86
abbrev f_bag_Total : FuncId := 87
abbrev f_topo_Topo_best : FuncId := 88
abbrev f_snow_Poll : FuncId := 89
abbrev f_topo_Topo_fails : FuncId := 90
abbrev f_block_Clone : FuncId := 91
abbrev f_bag_Less : FuncId := 92
abbrev f_topo_Topo_counts_1 : FuncId := 93
abbrev f_bag_Count : FuncId := 94
abbrev f_ref07_Check : FuncId := 95
abbrev f_ref07_Total : FuncId := 96
abbrev f_ref07_put : FuncId := 97
abbrev f_tree_told : FuncId := 98
abbrev f_tree_Tree_Kids_1 : FuncId := 99
abbrev f_block_Check : FuncId := 114
abbrev f_pack_New : FuncId := 115
abbrev f_pack_Packer_Short : FuncId := 116
abbrev f_pack_Packer_Fixed : FuncId := 117
abbrev f_pack_Packer_Long : FuncId := 118
abbrev f_pack_Packer_Bytes : FuncId := 119
abbrev f_pack_Packer_Out : FuncId := 120
abbrev f_sha_New : FuncId := 121
abbrev f_sha_State_Write : FuncId := 122
abbrev f_sha_State_Sum : FuncId := 123
abbrev f_snow_Check : FuncId := 124
abbrev f_snow_Has : FuncId := 125
abbrev f_snow_own : FuncId := 126
abbrev f_bag_good : FuncId := 127
abbrev f_snow_place : FuncId := 128
abbrev f_snow_reach : FuncId := 129
abbrev f_snow_Fail : FuncId := 130
abbrev f_bytes_Clone : FuncId := 131
abbrev f_bag_compare : FuncId := 132
abbrev f_ref07_Less : FuncId := 133
abbrev f_tree_told_1 : FuncId := 134
abbrev f_pack_Packer_put : FuncId := 140
abbrev f_pack_number : FuncId := 141
abbrev f_pack_Packer_Err : FuncId := 142
abbrev f_sha_first : FuncId := 143
abbrev f_sha_State_none : FuncId := 144
abbrev f_slices_Concat_byte_byte : FuncId := 145
abbrev f_sha_mixed : FuncId := 146
abbrev f_slices_Clone_api_Choice_api_Choice : FuncId := 147
abbrev f_slices_IndexFunc_api_Choice_api_Choice : FuncId := 148
abbrev f_snow_place_1 : FuncId := 149
abbrev f_bytes_Compare : FuncId := 150
abbrev f_pack_Packer_works : FuncId := 153
abbrev f_pack_kept_fails : FuncId := 154
abbrev f_slices_Grow_byte_byte : FuncId := 155
abbrev f_sha_schedule : FuncId := 156
abbrev f_math_bits_RotateLeft32 : FuncId := 157
abbrev f_internal_bytealg_Compare : FuncId := 158
abbrev T_ : TypeId := 0
abbrev T_int64 : TypeId := 2
abbrev T_int : TypeId := 3
abbrev T_bool : TypeId := 4
abbrev T_uint8 : TypeId := 5
abbrev T_string : TypeId := 9
abbrev T_api_Params : TypeId := 23
abbrev T_api_ID : TypeId := 25
abbrev T_flurrylaw19_Start : TypeId := 27
abbrev T_sl_flurrylaw19_Act : TypeId := 28
abbrev T_sl_uint8 : TypeId := 34
abbrev T_sl_flurrylaw19_For : TypeId := 35
abbrev T_flurrylaw19_Act : TypeId := 37
abbrev T_api_Block : TypeId := 39
abbrev T_p_topo_Topo : TypeId := 40
abbrev T_sl_api_ID : TypeId := 41
abbrev T_sl_int64 : TypeId := 42
abbrev T_flurrylaw19_names : TypeId := 44
abbrev T_flurrylaw19_world : TypeId := 46
abbrev T_sl_api_Vote : TypeId := 58
abbrev T_p_tree_Tree : TypeId := 60
abbrev T_sl_api_Choice : TypeId := 63
abbrev T_api_Snow : TypeId := 65
abbrev T_api_Vote : TypeId := 96
abbrev T_map_api_ID_api_Snow : TypeId := 100
abbrev T_topo_Topo : TypeId := 102
abbrev T_map_api_ID_int : TypeId := 107
abbrev T_flurrylaw19_For : TypeId := 110
abbrev T_map_api_ID_api_Block : TypeId := 113
abbrev T_tree_Tree : TypeId := 115
abbrev T_iter_Seq_api_ID : TypeId := 120
abbrev T_map_api_ID_bool : TypeId := 152
abbrev T_func_api_ID_int : TypeId := 157
abbrev T_api_Choice : TypeId := 167
abbrev T_pack_Packer : TypeId := 192
abbrev T_uint32 : TypeId := 196
abbrev T_a8_uint32 : TypeId := 197
abbrev T_sha_State : TypeId := 200
abbrev T_sl_sl_uint8 : TypeId := 201
abbrev T_a64_uint32 : TypeId := 211
/-- flurry/flurrylaw19.TopoStays -/
def A_law19_TopoStays : An := (An.s (An.r []) (An.s (An.s (An.r [[28]]) (An.s (An.s (An.r []) An.o) An.o)) (An.s (An.r []) (An.s (An.s (An.r []) (An.s (An.s (An.r []) An.o) An.o)) (An.s (An.r []) (An.s (An.s (An.r []) (An.b (An.l [42] (An.s (An.r []) (An.s (An.s An.o An.o) (An.s (An.b (An.s (An.r []) (An.r []))) (An.r []))))))) (An.s (An.dc [0, 1, 2, 3, 4, 5, 6, 7, 8, 9, 10, 11, 12, 13, 14, 15, 16, 17] [17] []) (An.s (An.s (An.dc [0, 1, 2, 3, 4, 5, 6] [5] []) (An.s (An.s (An.r []) An.o) An.o)) (An.s (An.s (An.r []) (An.b (An.l [77] (An.s (An.r []) (An.s (An.s An.o An.o) (An.s (An.b (An.s (An.r []) (An.s (An.r []) (An.s (An.s (An.r []) (An.s (An.s (An.r []) An.o) An.o)) (An.s (An.j [] (An.s (An.r [[93]]) (An.s (An.s (An.dc [0, 1, 2, 3, 4, 5] [4] []) (An.s (An.r []) (An.s (An.dt (Pl.step 0 (Pl.step 2 (Pl.step 3 (Pl.step 7 (Pl.br (Pl.alt 1 (Pl.step 4 (Pl.step 5 (Pl.step 6 Pl.nil))) (Pl.alt 4 (Pl.step 1 (Pl.step 5 (Pl.step 6 Pl.nil))) Pl.non))))))) [5] [110, 111, 112]) (An.b (An.l [112] (An.s (An.r []) (An.s (An.s An.o An.o) (An.s (An.b (An.s (An.r []) (An.s (An.r []) (An.b (An.l [120] (An.s (An.r []) (An.s (An.s An.o An.o) (An.s (An.b (An.s (An.r []) (An.s (An.d [0, 1, 2, 3, 4, 5, 6, 7, 8, 9, 10, 11, 12, 13, 14, 15, 16, 18, 19, 20, 17, 21, 22] [[132], [145]]) (An.s (An.s (An.r []) An.o) An.o)))) (An.r []))))))))) (An.r []))))))))) An.o))) (An.s (An.r []) (An.s (An.dc [0, 1, 2, 3, 4, 5, 6, 7, 8, 9, 10, 11, 12, 13, 14, 15, 16, 17, 18, 19, 20, 21] [5] [[166], [172]]) (An.s (An.s (An.r []) An.o) An.o)))))))) (An.r []))))))) (An.s (An.r []) An.o))))))))))
def c_law19_TopoStays (t0 t1 t2 : Value) (w : World) (R : KR) : Prop :=
 bx T_flurrylaw19_Start t0 w fun t3 w =>
 cal P f_law19_live [] w fun t22 w =>
 notB t22 fun t23 =>
 jn1 (fun k0 =>
 gif t23 false
 (ldN 38 t3 w.heap fun t25 =>
 cal P f_law19_few [t25, t1] w fun t27 w =>
 notB t27 fun t28 =>
 k0 t28 w)
 (k0 undef w)) fun _ t28_1 w =>
 pik t23 (.bool true) t28_1 fun t29 =>
 cnd t29
 (cal P f_law19_live [] w fun t30 w =>
 R t30 w)
 (ldN 38 t3 w.heap fun t31 =>
 cal P f_law19_fresh [t31] w fun t32 w =>
 nilP false t32 fun t34 =>
 cnd t34
 (R (.bool true) w)
 (lenS t1 fun t36 =>
 bi .quo t36 (.int .i64 2) fun t37 =>
 slc 4 t1 none (some t37) fun t40 =>
 lenS t40 fun t41 =>
 lp1 (.int .i64 0) w fun _ t42 w again1 =>
 bi .lss t42 t41 fun t43 =>
 cnd t43
 (ixs 4 t40 t42 fun t44 =>
 ldN 4 t44 w.heap fun t45 =>
 efP P (Instr.alloc T_flurrylaw19_Act true (.tuple #[])) w fun t10 w =>
 stN 4 t10 t45 w fun w =>
 ldN 4 t10 w.heap fun t47 =>
 cal P f_law19_world_does [t32, t47] w fun t48 w =>
 bi .add t42 (.int .i64 1) fun t49 =>
 again1 t49 w)
 (drH w fun S w =>
 nilc t32 fun t51 =>
 fad 1 t51 fun t52 =>
 fad 0 t52 fun t53 =>
 rdS S (fun w => ld1 t53 w.heap) fun t54 =>
 cvi .i64 t2 fun t56 =>
 nilc t32 fun t58 =>
 fad 1 t58 fun t59 =>
 fad 0 t59 fun t60 =>
 rdS S (fun w => ld1 t60 w.heap) fun t61 =>
 lenS t61 fun t62 =>
 bi .rem t56 t62 fun t63 =>
 ixs 32 t54 t63 fun t64 =>
 rdS S (fun w => ldN 32 t64 w.heap) fun t65 =>
 efS S (efP P (Instr.alloc T_api_ID true (.tuple #[]))) w fun t11 w =>
 efC (fun w K => stN 32 t11 t65 w (K undef)) w fun S _ w =>
 drH w fun S w =>
 nilc t32 fun t67 =>
 fad 0 t67 fun t68 =>
 rdS S (fun w => ld1 t68 w.heap) fun t69 =>
 rdS S (fun w => ldN 32 t11 w.heap) fun t70 =>
 efC (cal P f_topo_Topo_Preferred [t69, t70]) w fun S t71 w =>
 notB t71 fun t72 =>
 cnd t72
 (R (.bool true) w)
 (slc 4 t1 (some t37) none fun t75 =>
 lenS t75 fun t76 =>
 lp1 (.int .i64 0) w fun _ t77 w again2 =>
 bi .lss t77 t76 fun t78 =>
 cnd t78
 (ixs 4 t75 t77 fun t79 =>
 ldN 4 t79 w.heap fun t80 =>
 efP P (Instr.alloc T_flurrylaw19_Act true (.tuple #[])) w fun t13 w =>
 stN 4 t13 t80 w fun w =>
 nilc t32 fun t82 =>
 fad 0 t82 fun t83 =>
 ld1 t83 w.heap fun t84 =>
 cal P f_topo_Topo_Tree [t84] w fun t85 w =>
 nilP false t85 fun t87 =>
 cnd t87
 (R (.bool false) w)
 (jn0 (fun k3 =>
 fad 0 t13 fun t88 =>
 ld1 t88 w.heap fun t89 =>
 jn1 (fun k4 =>
 gif t89 true
 (ldN 32 t11 w.heap fun t92 =>
 cal P f_tree_Tree_Has [t85, t92] w fun t93 w =>
 k4 t93 w)
 (k4 undef w)) fun _ t93_1 w =>
 pik t89 t93_1 (.bool false) fun t94 =>
 cnd t94
 (drH w fun S w =>
 nilc t32 fun t96 =>
 fad 1 t96 fun t97 =>
 rdS S (fun w => ldN 4 t13 w.heap) fun t98 =>
 efC (cal P f_law19_names_votes [t97, t98]) w fun S t99 w =>
 cal P f_tree_Tree_Root [t85] w fun t102 w =>
 ext 0 t102 fun t103 =>
 ext 1 t102 fun t104 =>
 efP P (Instr.alloc T_api_ID true (.tuple #[])) w fun t16 w =>
 stN 32 t16 t103 w fun w =>
 drH w fun S w =>
 jn3 (fun k5 =>
 rdS S (fun w => ldN 32 t16 w.heap) fun t105 =>
 rdS S (fun w => ldN 32 t11 w.heap) fun t108 =>
 (efS S (efP P (Instr.buildSlice T_sl_api_ID 1 #[(0, t105)])) w fun t106_1 w =>
 efS S (cal P f_tree_Tree_Path [t85, t108]) w fun t109_1 w =>
 efC (efP P (Builtin.append_ #[T_sl_api_ID, T_sl_api_ID] T_sl_api_ID #[t106_1, t109_1])) w fun S t110_1 w =>
 lenS t110_1 fun t111_1 =>
 k5 t110_1 t111_1 (.int .i64 0) w) ∧
 ((efS S (cal P f_tree_Tree_Path [t85, t108]) w fun t109 w =>
 efS S (efP P (Instr.buildSlice T_sl_api_ID 1 #[(0, t105)])) w fun t106 w =>
 efC (efP P (Builtin.append_ #[T_sl_api_ID, T_sl_api_ID] T_sl_api_ID #[t106, t109])) w fun S t110 w =>
 lenS t110 fun t111 =>
 k5 t110 t111 (.int .i64 0) w) ∧
 (True))) fun _ t110_2 t111_2 t112 w =>
 lp1 t112 w fun _ t112_1 w again6 =>
 bi .lss t112_1 t111_2 fun t113 =>
 cnd t113
 (ixs 32 t110_2 t112_1 fun t114 =>
 ldN 32 t114 w.heap fun t115 =>
 efP P (Instr.alloc T_api_ID true (.tuple #[])) w fun t19 w =>
 stN 32 t19 t115 w fun w =>
 ldN 32 t19 w.heap fun t117 =>
 cal P f_law19_kids [t85, t117] w fun t118 w =>
 lenS t118 fun t119 =>
 lp1 (.int .i64 0) w fun _ t120 w again7 =>
 bi .lss t120 t119 fun t121 =>
 cnd t121
 (ixs 32 t118 t120 fun t122 =>
 ldN 32 t122 w.heap fun t123 =>
 efP P (Instr.alloc T_api_ID true (.tuple #[])) w fun t21 w =>
 stN 32 t21 t123 w fun w =>
 drH w fun S w =>
 rdS S (fun w => ldN 32 t19 w.heap) fun t124 =>
 rdS S (fun w => ldN 32 t11 w.heap) fun t125 =>
 rdS S (rdP P (eqS .neq T_api_ID (Operand.tmp 124) (Operand.tmp 125) t124 t125)) fun t126 =>
 jn1 (fun k8 =>
 gif t126 true
 (rdS S (fun w => ldN 32 t11 w.heap) fun t129 =>
 rdS S (fun w => ldN 32 t21 w.heap) fun t130 =>
 efS S (cal P f_tree_Tree_Within [t85, t129, t130]) w fun t131 w =>
 notB t131 fun t132 =>
 k8 t132 w)
 (k8 undef w)) fun _ t132_1 w =>
 pik t126 t132_1 (.bool false) fun t133 =>
 jn1 (fun k9 =>
 gif t133 true
 (nilc t32 fun t136 =>
 fad 0 t136 fun t137 =>
 rdS S (fun w => ld1 t137 w.heap) fun t138 =>
 rdS S (fun w => ldN 32 t21 w.heap) fun t140 =>
 fad 0 t3 fun t142 =>
 fad 1 t142 fun t143 =>
 rdS S (fun w => ld1 t143 w.heap) fun t144 =>
 efS S (cal P f_topo_Topo_Count [t138, t99, t140]) w fun t141 w =>
 bi .geq t141 t144 fun t145 =>
 k9 t145 w)
 (k9 undef w)) fun _ t145_1 w =>
 pik t133 t145_1 (.bool false) fun t146 =>
 cnd t146
 (R (.bool true) w)
 (bi .add t120 (.int .i64 1) fun t147 =>
 again7 t147 w))
 (bi .add t112_1 (.int .i64 1) fun t148 =>
 again6 t148 w))
 (k3 w))
 (k3 w)) fun _ w =>
 ldN 4 t13 w.heap fun t150 =>
 cal P f_law19_world_does [t32, t150] w fun t151 w =>
 drH w fun S w =>
 nilc t32 fun t153 =>
 fad 0 t153 fun t154 =>
 rdS S (fun w => ld1 t154 w.heap) fun t155 =>
 rdS S (fun w => ldN 32 t11 w.heap) fun t156 =>
 efC (cal P f_topo_Topo_Preferred [t155, t156]) w fun S t157 w =>
 notB t157 fun t158 =>
 jn1 (fun k10 =>
 gif t158 true
 (nilc t32 fun t161 =>
 fad 3 t161 fun t162 =>
 rdS S (fun w => ld1 t162 w.heap) fun t163 =>
 rdS S (fun w => ldN 32 t11 w.heap) fun t164 =>
 efS S (cal P f_slices_Contains_api_ID_api_ID [t163, t164]) w fun t165 w =>
 notB t165 fun t166 =>
 k10 t166 w)
 (k10 undef w)) fun _ t166_1 w =>
 pik t158 t166_1 (.bool false) fun t167 =>
 jn1 (fun k11 =>
 gif t167 true
 (rdS S (fun w => ldN 32 t11 w.heap) fun t169 =>
 fad 4 t3 fun t170 =>
 rdS S (fun w => ldN 32 t170 w.heap) fun t171 =>
 rdS S (rdP P (eqS .neq T_api_ID (Operand.tmp 169) (Operand.tmp 171) t169 t171)) fun t172 =>
 k11 t172 w)
 (k11 undef w)) fun _ t172_1 w =>
 pik t167 t172_1 (.bool false) fun t173 =>
 cnd t173
 (R (.bool false) w)
 (bi .add t77 (.int .i64 1) fun t174 =>
 again2 t174 w)))
 (R (.bool true) w)))))
theorem k_law19_TopoStays : kO Tryz.f5 A_law19_TopoStays = true := by kernel_rfl
theorem s_law19_TopoStays (h : SQ Q (c_law19_TopoStays t0 t1 t2 w)) : cal P f_law19_TopoStays [t0, t1, t2] w Q := sO Tryz.func5 rfl (by kernel_rfl) k_law19_TopoStays (by kernel_rfl) h

/-- flurry/flurrylaw19.live -/
def A_law19_live : An := (An.s (An.r []) (An.s (An.r []) (An.s (An.r []) (An.s (An.dc [1, 0, 2, 3, 4, 5, 6, 7] [2] []) (An.s (An.s (An.r [[34], [38], [42]]) (An.s (An.s (An.r []) An.o) An.o)) (An.s (An.r []) (An.s (An.r []) (An.s (An.r []) (An.s (An.r []) (An.s (An.s (An.d [0, 1, 2, 3, 4, 5, 6, 7, 8, 9, 10, 11, 12, 13, 14, 15, 17, 16, 18, 19] [[74], [78], [82], [88]]) (An.s (An.s (An.r []) An.o) An.o)) (An.s (An.r []) (An.s (An.d [0, 1, 2, 3, 4, 5, 6, 7, 8, 9, 10, 11, 12, 13, 14, 15, 17, 16, 18, 19, 20, 21, 22, 23, 24, 25] [[106], [111], [117], [122]]) An.o))))))))))))
def c_law19_live (w : World) (R : KR) : Prop :=
 cal P f_block_First [(.slice none 0 0)] w fun t16 w =>
 ext 0 t16 fun t17 =>
 ext 1 t16 fun t18 =>
 efP P (Instr.alloc T_api_Block true (.tuple #[])) w fun t1 w =>
 stN 34 t1 t17 w fun w =>
 ldN 34 t1 w.heap fun t20 =>
 cal P f_block_ID [t20] w fun t21 w =>
 ext 0 t21 fun t22 =>
 ext 1 t21 fun t23 =>
 efP P (Instr.alloc T_api_ID true (.tuple #[])) w fun t3 w =>
 stN 32 t3 t22 w fun w =>
 drH w fun S w =>
 rdS S (fun w => ldN 32 t3 w.heap) fun t26 =>
 efS S (cal P f_law19_one []) w fun t25 w =>
 efC (cal P f_topo_New [t25, t26, (.int .i64 0), (.int .i64 9)]) w fun S t27 w =>
 ext 0 t27 fun t28 =>
 ext 1 t27 fun t29 =>
 bi .neq t18 (.int .i64 0) fun t31 =>
 jn1 (fun k0 =>
 gif t31 false
 (bi .neq t23 (.int .i64 0) fun t34 =>
 k0 t34 w)
 (k0 undef w)) fun _ t34_1 w =>
 pik t31 (.bool true) t34_1 fun t35 =>
 jn1 (fun k1 =>
 gif t35 false
 (bi .neq t29 (.int .i64 0) fun t38 =>
 k1 t38 w)
 (k1 undef w)) fun _ t38_1 w =>
 pik t35 (.bool true) t38_1 fun t39 =>
 jn1 (fun k2 =>
 gif t39 false
 (nilP false t28 fun t42 =>
 k2 t42 w)
 (k2 undef w)) fun _ t42_1 w =>
 pik t39 (.bool true) t42_1 fun t43 =>
 cnd t43
 (R (.bool false) w)
 (ldN 34 t1 w.heap fun t45 =>
 efP P (Instr.buildSlice T_sl_uint8 1 #[(0, (.int .u8 97))]) w fun t46 w =>
 efP P (convert T_sl_uint8 T_sl_uint8 t46) w fun t47 w =>
 cal P f_block_Child [t45, t47] w fun t48 w =>
 ext 0 t48 fun t49 =>
 ext 1 t48 fun t50 =>
 efP P (Instr.alloc T_api_Block true (.tuple #[])) w fun t7 w =>
 stN 34 t7 t49 w fun w =>
 ldN 34 t7 w.heap fun t52 =>
 efP P (Instr.buildSlice T_sl_uint8 1 #[(0, (.int .u8 98))]) w fun t53 w =>
 efP P (convert T_sl_uint8 T_sl_uint8 t53) w fun t54 w =>
 cal P f_block_Child [t52, t54] w fun t55 w =>
 ext 0 t55 fun t56 =>
 ext 1 t55 fun t57 =>
 efP P (Instr.alloc T_api_Block true (.tuple #[])) w fun t8 w =>
 stN 34 t8 t56 w fun w =>
 ldN 34 t7 w.heap fun t60 =>
 cal P f_topo_Topo_Add [t28, t60] w fun t61 w =>
 ext 0 t61 fun t62 =>
 ext 1 t61 fun t63 =>
 efP P (Instr.alloc T_api_ID true (.tuple #[])) w fun t9 w =>
 stN 32 t9 t62 w fun w =>
 ldN 34 t8 w.heap fun t66 =>
 cal P f_topo_Topo_Add [t28, t66] w fun t67 w =>
 ext 0 t67 fun t68 =>
 ext 1 t67 fun t69 =>
 efP P (Instr.alloc T_api_ID true (.tuple #[])) w fun t11 w =>
 stN 32 t11 t68 w fun w =>
 drH w fun S w =>
 bi .neq t50 (.int .i64 0) fun t71 =>
 jn1 (fun k3 =>
 gif t71 false
 (bi .neq t57 (.int .i64 0) fun t74 =>
 k3 t74 w)
 (k3 undef w)) fun _ t74_1 w =>
 pik t71 (.bool true) t74_1 fun t75 =>
 jn1 (fun k4 =>
 gif t75 false
 (bi .neq t63 (.int .i64 0) fun t78 =>
 k4 t78 w)
 (k4 undef w)) fun _ t78_1 w =>
 pik t75 (.bool true) t78_1 fun t79 =>
 jn1 (fun k5 =>
 gif t79 false
 (bi .neq t69 (.int .i64 0) fun t82 =>
 k5 t82 w)
 (k5 undef w)) fun _ t82_1 w =>
 pik t79 (.bool true) t82_1 fun t83 =>
 jn1 (fun k6 =>
 gif t83 false
 (rdS S (fun w => ldN 32 t11 w.heap) fun t87 =>
 efS S (cal P f_topo_Topo_Preference [t28]) w fun t86 w =>
 rdS S (rdP P (eqS .neq T_api_ID (Operand.tmp 86) (Operand.tmp 87) t86 t87)) fun t88 =>
 k6 t88 w)
 (k6 undef w)) fun _ t88_1 w =>
 pik t83 (.bool true) t88_1 fun t89 =>
 cnd t89
 (R (.bool false) w)
 (ldN 32 t11 w.heap fun t92 =>
 rdP P (Instr.build T_api_Vote #[(0, t92), (1, (.int .i64 1))]) w fun t93 =>
 efP P (Instr.buildSlice T_sl_api_Vote 1 #[(0, t93)]) w fun t94 w =>
 cal P f_topo_Topo_Poll [t28, t94] w fun t95 w =>
 ext 0 t95 fun t96 =>
 ext 1 t95 fun t97 =>
 ext 2 t95 fun t98 =>
 drH w fun S w =>
 bi .eql t98 (.int .i64 0) fun t100 =>
 jn1 (fun k7 =>
 gif t100 true
 (rdS S (fun w => ldN 32 t9 w.heap) fun t103 =>
 rdS S (fun w => ldN 32 t11 w.heap) fun t104 =>
 efS S (efP P (Instr.buildSlice T_sl_api_ID 2 #[(0, t103), (1, t104)])) w fun t105 w =>
 efS S (cal P f_slices_Equal_api_ID_api_ID [t96, t105]) w fun t106 w =>
 k7 t106 w)
 (k7 undef w)) fun _ t106_1 w =>
 pik t100 t106_1 (.bool false) fun t107 =>
 jn1 (fun k8 =>
 gif t107 true
 (lenS t97 fun t110 =>
 bi .eql t110 (.int .i64 0) fun t111 =>
 k8 t111 w)
 (k8 undef w)) fun _ t111_1 w =>
 pik t107 t111_1 (.bool false) fun t112 =>
 jn1 (fun k9 =>
 gif t112 true
 (rdS S (fun w => ldN 32 t11 w.heap) fun t116 =>
 efS S (cal P f_topo_Topo_Preference [t28]) w fun t115 w =>
 rdS S (rdP P (eqS .eql T_api_ID (Operand.tmp 115) (Operand.tmp 116) t115 t116)) fun t117 =>
 k9 t117 w)
 (k9 undef w)) fun _ t117_1 w =>
 pik t112 t117_1 (.bool false) fun t118 =>
 jn1 (fun k10 =>
 gif t118 true
 (efS S (cal P f_topo_Topo_Len [t28]) w fun t121 w =>
 bi .eql t121 (.int .i64 0) fun t122 =>
 k10 t122 w)
 (k10 undef w)) fun _ t122_1 w =>
 pik t118 t122_1 (.bool false) fun t123 =>
 R t123 w))
theorem k_law19_live : kO Tryz.f8 A_law19_live = true := by kernel_rfl
theorem s_law19_live (h : SQ Q (c_law19_live w)) : cal P f_law19_live [] w Q := sO Tryz.func8 rfl (by kernel_rfl) k_law19_live (by kernel_rfl) h

/-- flurry/flurrylaw19.few -/
def A_law19_few : An := (An.s (An.r []) (An.s (An.s (An.r []) (An.b (An.l [13] (An.s (An.r []) (An.s (An.s An.o An.o) (An.s (An.b (An.s (An.r []) (An.s (An.r [[25]]) (An.s (An.s (An.r []) An.o) An.o)))) (An.r []))))))) (An.s (An.r [[34]]) An.o)))
def c_law19_few (t0 t1 : Value) (w : World) (R : KR) : Prop :=
 bx T_flurrylaw19_Start t0 w fun t2 w =>
 lenS t1 fun t9 =>
 rdP P (Builtin.min_ #[T_int, T_int] T_int #[t9, (.int .i64 80)]) w fun t10 =>
 slc 4 t1 none (some t10) fun t11 =>
 lenS t11 fun t12 =>
 lp1 (.int .i64 0) w fun _ t13 w again0 =>
 bi .lss t13 t12 fun t14 =>
 cnd t14
 (ixs 4 t11 t13 fun t15 =>
 ldN 4 t15 w.heap fun t16 =>
 efP P (Instr.alloc T_flurrylaw19_Act true (.tuple #[])) w fun t6 w =>
 stN 4 t6 t16 w fun w =>
 fad 2 t6 fun t17 =>
 ld1 t17 w.heap fun t18 =>
 lenS t18 fun t19 =>
 bi .gtr t19 (.int .i64 1000) fun t20 =>
 jn1 (fun k1 =>
 gif t20 false
 (fad 3 t6 fun t22 =>
 ld1 t22 w.heap fun t23 =>
 lenS t23 fun t24 =>
 bi .gtr t24 (.int .i64 20) fun t25 =>
 k1 t25 w)
 (k1 undef w)) fun _ t25_1 w =>
 pik t20 (.bool true) t25_1 fun t26 =>
 cnd t26
 (R (.bool false) w)
 (bi .add t13 (.int .i64 1) fun t27 =>
 again0 t27 w))
 (lenS t1 fun t29 =>
 bi .leq t29 (.int .i64 50) fun t30 =>
 jn1 (fun k2 =>
 gif t30 true
 (fad 37 t2 fun t32 =>
 ld1 t32 w.heap fun t33 =>
 bi .leq t33 (.int .i64 60) fun t34 =>
 k2 t34 w)
 (k2 undef w)) fun _ t34_1 w =>
 pik t30 t34_1 (.bool false) fun t35 =>
 R t35 w)
theorem k_law19_few : kO Tryz.f9 A_law19_few = true := by kernel_rfl
theorem s_law19_few (h : SQ Q (c_law19_few t0 t1 w)) : cal P f_law19_few [t0, t1] w Q := sO Tryz.func9 rfl (by kernel_rfl) k_law19_few (by kernel_rfl) h

/-- flurry/flurrylaw19.fresh -/
def A_law19_fresh : An := (An.s (An.r []) (An.s (An.r []) (An.s (An.s (An.r [[21]]) (An.s (An.s (An.r []) An.o) An.o)) (An.s (An.r []) An.o))))
def c_law19_fresh (t0 : Value) (w : World) (R : KR) : Prop :=
 bx T_flurrylaw19_Start t0 w fun t1 w =>
 fad 0 t1 fun t6 =>
 ldN 4 t6 w.heap fun t7 =>
 fad 4 t1 fun t8 =>
 ldN 32 t8 w.heap fun t9 =>
 fad 36 t1 fun t10 =>
 ld1 t10 w.heap fun t11 =>
 fad 37 t1 fun t12 =>
 ld1 t12 w.heap fun t13 =>
 cal P f_topo_New [t7, t9, t11, t13] w fun t14 w =>
 ext 0 t14 fun t15 =>
 ext 1 t14 fun t16 =>
 bi .neq t16 (.int .i64 0) fun t18 =>
 jn1 (fun k0 =>
 gif t18 false
 (nilP false t15 fun t21 =>
 k0 t21 w)
 (k0 undef w)) fun _ t21_1 w =>
 pik t18 (.bool true) t21_1 fun t22 =>
 cnd t22
 (R (.pointer none) w)
 (fad 4 t1 fun t24 =>
 ldN 32 t24 w.heap fun t25 =>
 efP P (Instr.buildSlice T_sl_api_ID 1 #[(0, t25)]) w fun t26 w =>
 fad 36 t1 fun t27 =>
 ld1 t27 w.heap fun t28 =>
 efP P (Instr.buildSlice T_sl_int64 1 #[(0, t28)]) w fun t29 w =>
 rdP P (Instr.build T_flurrylaw19_names #[(0, t26), (1, t29)]) w fun t30 =>
 rdP P (Instr.build T_flurrylaw19_world #[(0, t15), (1, t30)]) w fun t31 =>
 bx T_flurrylaw19_world t31 w fun t32 w =>
 R t32 w)
theorem k_law19_fresh : kO Tryz.f10 A_law19_fresh = true := by kernel_rfl
theorem s_law19_fresh (h : SQ Q (c_law19_fresh t0 w)) : cal P f_law19_fresh [t0] w Q := sO Tryz.func10 rfl (by kernel_rfl) k_law19_fresh (by kernel_rfl) h

/-- (*flurry/flurrylaw19.names).block -/
def A_law19_names_block : An := (An.s (An.r []) (An.s (An.r []) (An.s (An.dc [0, 1, 2, 3, 4, 5, 6, 7, 8, 9, 10, 11, 12, 13, 14, 15, 16, 17, 18, 19] [19] []) An.o)))
def c_law19_names_block (t0 t1 : Value) (w : World) (R : KR) : Prop :=
 bx T_flurrylaw19_Act t1 w fun t3 w =>
 efP P (Instr.alloc T_api_Block true (.tuple #[])) w fun t4 w =>
 drw w fun w =>
 fad 1 t3 fun t6 =>
 ld1 t6 w.heap fun t7 =>
 cvi .i64 t7 fun t8 =>
 nilc t0 fun t10 =>
 fad 0 t10 fun t11 =>
 ld1 t11 w.heap fun t12 =>
 lenS t12 fun t13 =>
 bi .rem t8 t13 fun t14 =>
 drH w fun S w =>
 nilc t0 fun t16 =>
 fad 0 t16 fun t17 =>
 rdS S (fun w => ld1 t17 w.heap) fun t18 =>
 ixs 32 t18 t14 fun t20 =>
 rdS S (fun w => ldN 32 t20 w.heap) fun t21 =>
 nilc t0 fun t23 =>
 fad 1 t23 fun t24 =>
 rdS S (fun w => ld1 t24 w.heap) fun t25 =>
 ixs 1 t25 t14 fun t27 =>
 rdS S (fun w => ld1 t27 w.heap) fun t28 =>
 rdS S (rdP P (Builtin.min_ #[T_int64, T_int64] T_int64 #[t28, (.int .i64 4611686018427387904)])) fun t29 =>
 bi .add t29 (.int .i64 1) fun t30 =>
 fad 2 t3 fun t31 =>
 rdS S (fun w => ld1 t31 w.heap) fun t32 =>
 rdS S (rdP P (Instr.build T_api_Block #[(0, t21), (1, t30), (2, t32)])) fun t33 =>
 efC (fun w K => stN 34 t4 t33 w (K undef)) w fun S _ w =>
 ldN 34 t4 w.heap fun r0 =>
 R r0 w
theorem k_law19_names_block : kO Tryz.f11 A_law19_names_block = true := by kernel_rfl
theorem s_law19_names_block (h : SQ Q (c_law19_names_block t0 t1 w)) : cal P f_law19_names_block [t0, t1] w Q := sO Tryz.func11 rfl (by kernel_rfl) k_law19_names_block (by kernel_rfl) h

/-- (*flurry/flurrylaw19.world).does -/
def A_law19_world_does : An := (An.s (An.r []) (An.s (An.s (An.r []) (An.s (An.s (An.dt (Pl.step 0 (Pl.step 1 (Pl.step 2 (Pl.step 3 (Pl.br (Pl.alt 4 (Pl.step 5 (Pl.step 6 Pl.nil)) (Pl.alt 5 (Pl.step 4 (Pl.step 6 Pl.nil)) Pl.non))))))) [4, 6] [5]) (An.s (An.s (An.dt (Pl.step 0 (Pl.step 1 (Pl.step 2 (Pl.step 3 (Pl.step 4 (Pl.br (Pl.alt 5 (Pl.step 6 (Pl.step 7 (Pl.step 8 (Pl.step 9 (Pl.step 10 (Pl.step 11 Pl.nil)))))) (Pl.alt 9 (Pl.step 5 (Pl.step 6 (Pl.step 7 (Pl.step 8 (Pl.step 10 (Pl.step 11 Pl.nil)))))) Pl.non)))))))) [5, 10] [6, 7]) (An.s (An.r []) (An.s (An.dc [0, 1, 2, 3, 4, 5] [5] []) An.o))) (An.s (An.r []) An.o))) An.o)) (An.s (An.dc [0, 1, 2, 3, 4, 5, 6, 7, 8, 9, 10, 11, 12, 13, 14, 15, 16] [9] []) (An.s (An.dc [0, 1, 2, 3, 4, 5, 6, 8, 9, 10, 11, 12, 7, 13, 14, 15, 16, 17, 18, 19] [13, 16, 19] []) (An.s (An.r []) An.o)))))
def c_law19_world_does (t0 t1 : Value) (w : World) (R : KR) : Prop :=
 bx T_flurrylaw19_Act t1 w fun t3 w =>
 fad 0 t3 fun t11 =>
 ld1 t11 w.heap fun t12 =>
 notB t12 fun t13 =>
 cnd t13
 (drH w fun S w =>
 jn1 (fun k0 =>
 nilc t0 fun t15 =>
 fad 1 t15 fun t16 =>
 rdS S (fun w => ldN 4 t3 w.heap) fun t17 =>
 (efC (cal P f_law19_names_block [t16, t17]) w fun S t18_1 w =>
 efS S (efP P (Instr.alloc T_api_Block true (.tuple #[]))) w fun t5_1 w =>
 efC (fun w K => stN 34 t5_1 t18_1 w (K undef)) w fun S _ w =>
 k0 t5_1 w) ∧
 ((efS S (efP P (Instr.alloc T_api_Block true (.tuple #[]))) w fun t5 w =>
 efC (cal P f_law19_names_block [t16, t17]) w fun S t18 w =>
 efC (fun w K => stN 34 t5 t18 w (K undef)) w fun S _ w =>
 k0 t5 w) ∧
 (True))) fun _ t5_2 w =>
 drH w fun S w =>
 jn2 (fun k1 =>
 nilc t0 fun t21 =>
 fad 0 t21 fun t22 =>
 rdS S (fun w => ld1 t22 w.heap) fun t23 =>
 rdS S (fun w => ldN 34 t5_2 w.heap) fun t24 =>
 (efC (cal P f_topo_Topo_Add [t23, t24]) w fun S t25_1 w =>
 ext 0 t25_1 fun t26_1 =>
 ext 1 t25_1 fun t27_1 =>
 efS S (efP P (Instr.alloc T_api_ID true (.tuple #[]))) w fun t6_1 w =>
 efC (fun w K => stN 32 t6_1 t26_1 w (K undef)) w fun S _ w =>
 k1 t6_1 t27_1 w) ∧
 ((efS S (efP P (Instr.alloc T_api_ID true (.tuple #[]))) w fun t6 w =>
 efC (cal P f_topo_Topo_Add [t23, t24]) w fun S t25 w =>
 ext 0 t25 fun t26 =>
 ext 1 t25 fun t27 =>
 efC (fun w K => stN 32 t6 t26 w (K undef)) w fun S _ w =>
 k1 t6 t27 w) ∧
 (True))) fun _ t6_2 t7 w =>
 bi .eql t7 (.int .i64 0) fun t29 =>
 cnd t29
 (drH w fun S w =>
 nilc t0 fun t31 =>
 fad 1 t31 fun t32 =>
 rdS S (fun w => ldN 32 t6_2 w.heap) fun t33 =>
 rdS S (fun w => ldN 34 t5_2 w.heap) fun t34 =>
 efC (cal P f_law19_names_told [t32, t33, t34]) w fun S t35 w =>
 R (.bool false) w)
 (R (.bool false) w))
 (drH w fun S w =>
 nilc t0 fun t38 =>
 fad 0 t38 fun t39 =>
 rdS S (fun w => ld1 t39 w.heap) fun t40 =>
 nilc t0 fun t42 =>
 fad 1 t42 fun t43 =>
 rdS S (fun w => ldN 4 t3 w.heap) fun t44 =>
 efS S (cal P f_law19_names_votes [t43, t44]) w fun t45 w =>
 efC (cal P f_topo_Topo_Poll [t40, t45]) w fun S t46 w =>
 ext 0 t46 fun t47 =>
 ext 1 t46 fun t48 =>
 ext 2 t46 fun t49 =>
 drH w fun S w =>
 nilc t0 fun t53 =>
 fad 3 t53 fun t54 =>
 rdS S (fun w => ld1 t54 w.heap) fun t55 =>
 nilc t0 fun t59 =>
 fad 4 t59 fun t60 =>
 rdS S (fun w => ld1 t60 w.heap) fun t61 =>
 efS S (efP P (Builtin.append_ #[T_sl_api_ID, T_sl_api_ID] T_sl_api_ID #[t55, t47])) w fun t57 w =>
 efC (efP P (Builtin.append_ #[T_sl_api_ID, T_sl_api_ID] T_sl_api_ID #[t61, t48])) w fun S t63 w =>
 nilc t0 fun t64 =>
 fad 3 t64 fun t65 =>
 efC (fun w K => st1 t65 t57 w (K undef)) w fun S _ w =>
 nilc t0 fun t66 =>
 fad 4 t66 fun t67 =>
 efC (fun w K => st1 t67 t63 w (K undef)) w fun S _ w =>
 bi .eql t49 (.int .i64 0) fun t69 =>
 R t69 w)
theorem k_law19_world_does : kO Tryz.f12 A_law19_world_does = true := by kernel_rfl
theorem s_law19_world_does (h : SQ Q (c_law19_world_does t0 t1 w)) : cal P f_law19_world_does [t0, t1] w Q := sO Tryz.func12 rfl (by kernel_rfl) k_law19_world_does (by kernel_rfl) h

/-- slices.Contains[[]flurry/api.ID,flurry/api.ID] -/
def A_slices_Contains_api_ID_api_ID : An := (An.s (An.r []) (An.s (An.r []) An.o))
def c_slices_Contains_api_ID_api_ID (t0 t1 : Value) (w : World) (R : KR) : Prop :=
 bx T_api_ID t1 w fun t3 w =>
 ldN 32 t3 w.heap fun t6 =>
 cal P f_slices_Index_api_ID_api_ID [t0, t6] w fun t7 w =>
 bi .geq t7 (.int .i64 0) fun t8 =>
 R t8 w
theorem k_slices_Contains_api_ID_api_ID : kO Tryz.f15 A_slices_Contains_api_ID_api_ID = true := by kernel_rfl
theorem s_slices_Contains_api_ID_api_ID (h : SQ Q (c_slices_Contains_api_ID_api_ID t0 t1 w)) : cal P f_slices_Contains_api_ID_api_ID [t0, t1] w Q := sO Tryz.func15 rfl (by kernel_rfl) k_slices_Contains_api_ID_api_ID (by kernel_rfl) h

/-- (*flurry/topo.Topo).Preference -/
def A_topo_Topo_Preference : An := (An.s (An.r []) (An.s (An.s (An.r []) (An.s (An.s (An.r []) An.o) An.o)) (An.s (An.r []) (An.b (An.l [] (An.b (An.s (An.dc [0, 1, 2, 3, 4, 5, 6, 7, 8, 9, 10, 11] [10] []) (An.s (An.s (An.r []) (An.s (An.s (An.r []) An.o) An.o)) (An.r [])))))))))
def c_topo_Topo_Preference (t0 : Value) (w : World) (R : KR) : Prop :=
 efP P (Instr.alloc T_api_ID true (.tuple #[])) w fun t2 w =>
 cal P f_topo_Topo_none [t0] w fun t8 w =>
 cnd t8
 (rdP P (Instr.build T_api_ID #[]) w fun t9 =>
 stN 32 t2 t9 w fun w =>
 ldN 32 t2 w.heap fun r0 =>
 R r0 w)
 (nilc t0 fun t12 =>
 fad 0 t12 fun t13 =>
 ld1 t13 w.heap fun t14 =>
 cal P f_tree_Tree_Root [t14] w fun t15 w =>
 ext 0 t15 fun t16 =>
 ext 1 t15 fun t17 =>
 efP P (Instr.alloc T_api_ID true (.tuple #[])) w fun t3 w =>
 stN 32 t3 t16 w fun w =>
 lp0 w fun _ w again1 =>
 drH w fun S w =>
 nilc t0 fun t20 =>
 fad 5 t20 fun t21 =>
 rdS S (fun w => ld1 t21 w.heap) fun t22 =>
 rdS S (fun w => ldN 32 t3 w.heap) fun t23 =>
 rdS S (rdP P (Instr.lookup T_map_api_ID_api_Snow t22 t23 true)) fun t24 =>
 ext 0 t24 fun t25 =>
 ext 1 t24 fun t26 =>
 efS S (efP P (Instr.alloc T_api_Snow true (.tuple #[]))) w fun t5 w =>
 efC (fun w K => stN 67 t5 t25 w (K undef)) w fun S _ w =>
 notB t26 fun t28 =>
 cnd t28
 (ldN 32 t3 w.heap fun t29 =>
 stN 32 t2 t29 w fun w =>
 ldN 32 t2 w.heap fun r2 =>
 R r2 w)
 (ldN 67 t5 w.heap fun t30 =>
 cal P f_snow_Prefers [t30] w fun t31 w =>
 stN 32 t3 t31 w fun w =>
 again1 w))
theorem k_topo_Topo_Preference : kO Tryz.f16 A_topo_Topo_Preference = true := by kernel_rfl
theorem s_topo_Topo_Preference (h : SQ Q (c_topo_Topo_Preference t0 w)) : cal P f_topo_Topo_Preference [t0] w Q := sO Tryz.func16 rfl (by kernel_rfl) k_topo_Topo_Preference (by kernel_rfl) h

/-- (*flurry/topo.Topo).Len -/
def A_topo_Topo_Len : An := (An.s (An.r []) (An.s (An.s (An.r []) (An.s (An.s (An.r []) An.o) An.o)) (An.s (An.r []) An.o)))
def c_topo_Topo_Len (t0 : Value) (w : World) (R : KR) : Prop :=
 cal P f_topo_Topo_none [t0] w fun t4 w =>
 cnd t4
 (R (.int .i64 0) w)
 (nilc t0 fun t6 =>
 fad 0 t6 fun t7 =>
 ld1 t7 w.heap fun t8 =>
 cal P f_tree_Tree_Len [t8] w fun t9 w =>
 R t9 w)
theorem k_topo_Topo_Len : kO Tryz.f17 A_topo_Topo_Len = true := by kernel_rfl
theorem s_topo_Topo_Len (h : SQ Q (c_topo_Topo_Len t0 w)) : cal P f_topo_Topo_Len [t0] w Q := sO Tryz.func17 rfl (by kernel_rfl) k_topo_Topo_Len (by kernel_rfl) h

/-- (*flurry/topo.Topo).Count -/
def A_topo_Topo_Count : An := (An.s (An.r []) (An.s (An.s (An.r [[12]]) (An.s (An.s (An.r []) An.o) An.o)) (An.s (An.dt (Pl.step 0 (Pl.step 1 (Pl.br (Pl.alt 2 (Pl.step 3 (Pl.step 4 (Pl.step 5 Pl.nil))) (Pl.alt 3 (Pl.step 2 (Pl.step 4 (Pl.step 5 Pl.nil))) Pl.non))))) [2] [6]) An.o)))
def c_topo_Topo_Count (t0 t1 t2 : Value) (w : World) (R : KR) : Prop :=
 bx T_api_ID t2 w fun t5 w =>
 cal P f_topo_Topo_none [t0] w fun t8 w =>
 jn1 (fun k0 =>
 gif t8 false
 (cal P f_bag_Check [t1] w fun t11 w =>
 bi .neq t11 (.int .i64 0) fun t12 =>
 k0 t12 w)
 (k0 undef w)) fun _ t12_1 w =>
 pik t8 (.bool true) t12_1 fun t13 =>
 cnd t13
 (R (.int .i64 0) w)
 (drH w fun S w =>
 jn1 (fun k1 =>
 (efC (cal P f_topo_Topo_counts [t0, t1]) w fun S t16_1 w =>
 rdS S (fun w => ldN 32 t5 w.heap) fun t17_1 =>
 rdS S (rdP P (Instr.lookup T_map_api_ID_int t16_1 t17_1 false)) fun t18_1 =>
 k1 t18_1 w) ∧
 ((rdS S (fun w => ldN 32 t5 w.heap) fun t17 =>
 efC (cal P f_topo_Topo_counts [t0, t1]) w fun S t16 w =>
 rdS S (rdP P (Instr.lookup T_map_api_ID_int t16 t17 false)) fun t18 =>
 k1 t18 w) ∧
 (True))) fun _ t6 w =>
 R t6 w)
theorem k_topo_Topo_Count : kO Tryz.f18 A_topo_Topo_Count = true := by kernel_rfl
theorem s_topo_Topo_Count (h : SQ Q (c_topo_Topo_Count t0 t1 t2 w)) : cal P f_topo_Topo_Count [t0, t1, t2] w Q := sO Tryz.func18 rfl (by kernel_rfl) k_topo_Topo_Count (by kernel_rfl) h

/-- (*flurry/flurrylaw19.names).votes -/
def A_law19_names_votes : An := (An.s (An.r []) (An.s (An.r []) (An.s (An.s (An.r []) (An.b (An.l [5, 14] (An.s (An.r []) (An.s (An.s An.o An.o) (An.s (An.b (An.s (An.r []) (An.s (An.dc [0, 1, 2, 3, 4, 5, 6, 7, 8, 9, 10, 11, 12, 13, 14, 15, 16] [16] []) (An.s (An.j [] (An.s (An.r []) (An.s (An.r []) An.o))) (An.s (An.r []) (An.s (An.s (An.r [[52]]) (An.s (An.s (An.r []) An.o) An.o)) (An.r []))))))) (An.r []))))))) (An.s (An.r []) An.o))))
def c_law19_names_votes (t0 t1 : Value) (w : World) (R : KR) : Prop :=
 bx T_flurrylaw19_Act t1 w fun t3 w =>
 fad 3 t3 fun t11 =>
 ld1 t11 w.heap fun t12 =>
 lenS t12 fun t13 =>
 lp2 (.slice none 0 0) (.int .i64 0) w fun _ t5 t14 w again0 =>
 bi .lss t14 t13 fun t15 =>
 cnd t15
 (ixs 2 t12 t14 fun t16 =>
 ldN 2 t16 w.heap fun t17 =>
 efP P (Instr.alloc T_flurrylaw19_For true (.tuple #[])) w fun t7 w =>
 stN 2 t7 t17 w fun w =>
 drH w fun S w =>
 nilc t0 fun t19 =>
 fad 0 t19 fun t20 =>
 rdS S (fun w => ld1 t20 w.heap) fun t21 =>
 fad 0 t7 fun t22 =>
 rdS S (fun w => ld1 t22 w.heap) fun t23 =>
 cvi .i64 t23 fun t24 =>
 nilc t0 fun t26 =>
 fad 0 t26 fun t27 =>
 rdS S (fun w => ld1 t27 w.heap) fun t28 =>
 lenS t28 fun t29 =>
 bi .rem t24 t29 fun t30 =>
 ixs 32 t21 t30 fun t31 =>
 rdS S (fun w => ldN 32 t31 w.heap) fun t32 =>
 efS S (efP P (Instr.alloc T_api_ID true (.tuple #[]))) w fun t8 w =>
 efC (fun w K => stN 32 t8 t32 w (K undef)) w fun S _ w =>
 jn0 (fun k1 =>
 fad 0 t7 fun t33 =>
 ld1 t33 w.heap fun t34 =>
 bi .gtr t34 (.int .u8 200) fun t35 =>
 cnd t35
 (fad 0 t7 fun t36 =>
 ld1 t36 w.heap fun t37 =>
 rdP P (Instr.build T_api_ID #[(0, t37)]) w fun t38 =>
 stN 32 t8 t38 w fun w =>
 k1 w)
 (k1 w)) fun _ w =>
 ldN 32 t8 w.heap fun t41 =>
 fad 1 t7 fun t42 =>
 ld1 t42 w.heap fun t43 =>
 cal P f_ref07_Add [t5, t41, t43] w fun t44 w =>
 ext 0 t44 fun t45 =>
 ext 1 t44 fun t46 =>
 bi .neq t46 (.int .i64 0) fun t48 =>
 jn1 (fun k2 =>
 gif t48 false
 (fad 1 t7 fun t50 =>
 ld1 t50 w.heap fun t51 =>
 bi .gtr t51 (.int .i64 1000) fun t52 =>
 k2 t52 w)
 (k2 undef w)) fun _ t52_1 w =>
 pik t48 (.bool true) t52_1 fun t53 =>
 cnd t53
 (ldN 32 t8 w.heap fun t54 =>
 fad 1 t7 fun t55 =>
 ld1 t55 w.heap fun t56 =>
 rdP P (Instr.build T_api_Vote #[(0, t54), (1, t56)]) w fun t57 =>
 ldN 32 t8 w.heap fun t58 =>
 rdP P (Instr.build T_api_Vote #[(0, t58), (1, (.int .i64 1))]) w fun t59 =>
 efP P (Instr.buildSlice T_sl_api_Vote 2 #[(0, t57), (1, t59)]) w fun t60 w =>
 R t60 w)
 (bi .add t14 (.int .i64 1) fun t62 =>
 again0 t45 t62 w))
 (R t5 w)
theorem k_law19_names_votes : kO Tryz.f19 A_law19_names_votes = true := by kernel_rfl
theorem s_law19_names_votes (h : SQ Q (c_law19_names_votes t0 t1 w)) : cal P f_law19_names_votes [t0, t1] w Q := sO Tryz.func19 rfl (by kernel_rfl) k_law19_names_votes (by kernel_rfl) h

/-- (*flurry/topo.Topo).Tree -/
def A_topo_Topo_Tree : An := (An.s (An.r []) (An.s (An.s (An.r []) (An.s (An.s (An.r []) An.o) An.o)) (An.s (An.r []) An.o)))
def c_topo_Topo_Tree (t0 : Value) (w : World) (R : KR) : Prop :=
 cal P f_topo_Topo_none [t0] w fun t4 w =>
 cnd t4
 (R (.pointer none) w)
 (nilc t0 fun t6 =>
 fad 0 t6 fun t7 =>
 ld1 t7 w.heap fun t8 =>
 cal P f_tree_Tree_Clone [t8] w fun t9 w =>
 R t9 w)
theorem k_topo_Topo_Tree : kO Tryz.f20 A_topo_Topo_Tree = true := by kernel_rfl
theorem s_topo_Topo_Tree (h : SQ Q (c_topo_Topo_Tree t0 w)) : cal P f_topo_Topo_Tree [t0] w Q := sO Tryz.func20 rfl (by kernel_rfl) k_topo_Topo_Tree (by kernel_rfl) h

/-- (*flurry/topo.Topo).Preferred -/
def A_topo_Topo_Preferred : An := (An.s (An.r []) (An.s (An.dc [0, 1, 2, 3, 4, 5, 6, 7, 8, 10, 9, 11, 12, 13] [1] [[16]]) An.o))
def c_topo_Topo_Preferred (t0 t1 : Value) (w : World) (R : KR) : Prop :=
 bx T_api_ID t1 w fun t3 w =>
 drH w fun S w =>
 efC (cal P f_topo_Topo_none [t0]) w fun S t6 w =>
 notB t6 fun t7 =>
 jn1 (fun k0 =>
 gif t7 true
 (nilc t0 fun t10 =>
 fad 0 t10 fun t11 =>
 rdS S (fun w => ld1 t11 w.heap) fun t12 =>
 rdS S (fun w => ldN 32 t3 w.heap) fun t15 =>
 efS S (cal P f_topo_Topo_Preference [t0]) w fun t14 w =>
 efS S (cal P f_tree_Tree_Within [t12, t14, t15]) w fun t16 w =>
 k0 t16 w)
 (k0 undef w)) fun _ t16_1 w =>
 pik t7 t16_1 (.bool false) fun t17 =>
 R t17 w
theorem k_topo_Topo_Preferred : kO Tryz.f22 A_topo_Topo_Preferred = true := by kernel_rfl
theorem s_topo_Topo_Preferred (h : SQ Q (c_topo_Topo_Preferred t0 t1 w)) : cal P f_topo_Topo_Preferred [t0, t1] w Q := sO Tryz.func22 rfl (by kernel_rfl) k_topo_Topo_Preferred (by kernel_rfl) h

/-- (*flurry/tree.Tree).Within -/
def A_tree_Tree_Within : An := (An.s (An.r []) (An.s (An.s (An.r [[15]]) (An.s (An.s (An.r []) An.o) An.o)) (An.s (An.b (An.l [] (An.s (An.s (An.r [[26]]) (An.s An.o An.o)) (An.b (An.dc [0, 1, 2, 3, 4, 5, 6, 7] [7] []))))) (An.s (An.r []) An.o))))
def c_tree_Tree_Within (t0 t1 t2 : Value) (w : World) (R : KR) : Prop :=
 bx T_api_ID t1 w fun t4 w =>
 bx T_api_ID t2 w fun t5 w =>
 ldN 32 t4 w.heap fun t8 =>
 cal P f_tree_Tree_Has [t0, t8] w fun t9 w =>
 notB t9 fun t10 =>
 jn1 (fun k0 =>
 gif t10 false
 (ldN 32 t5 w.heap fun t13 =>
 cal P f_tree_Tree_Has [t0, t13] w fun t14 w =>
 notB t14 fun t15 =>
 k0 t15 w)
 (k0 undef w)) fun _ t15_1 w =>
 pik t10 (.bool true) t15_1 fun t16 =>
 cnd t16
 (R (.bool false) w)
 (lp0 w fun _ w again1 =>
 drw w fun w =>
 ldN 32 t4 w.heap fun t17 =>
 ldN 32 t5 w.heap fun t18 =>
 rdP P (eqS .neq T_api_ID (Operand.tmp 17) (Operand.tmp 18) t17 t18) w fun t19 =>
 jn1 (fun k2 =>
 gif t19 true
 (ldN 32 t4 w.heap fun t21 =>
 nilc t0 fun t23 =>
 fad 1 t23 fun t24 =>
 ldN 32 t24 w.heap fun t25 =>
 rdP P (eqS .neq T_api_ID (Operand.tmp 21) (Operand.tmp 25) t21 t25) w fun t26 =>
 k2 t26 w)
 (k2 undef w)) fun _ t26_1 w =>
 pik t19 t26_1 (.bool false) fun t27 =>
 cnd t27
 (drH w fun S w =>
 nilc t0 fun t29 =>
 fad 35 t29 fun t30 =>
 rdS S (fun w => ld1 t30 w.heap) fun t31 =>
 rdS S (fun w => ldN 32 t4 w.heap) fun t32 =>
 rdS S (rdP P (Instr.lookup T_map_api_ID_api_Block t31 t32 false)) fun t33 =>
 fldv 0 32 true t33 fun t34 =>
 efC (fun w K => stN 32 t4 t34 w (K undef)) w fun S _ w =>
 again1 w)
 (ldN 32 t4 w.heap fun t35 =>
 ldN 32 t5 w.heap fun t36 =>
 rdP P (eqS .eql T_api_ID (Operand.tmp 35) (Operand.tmp 36) t35 t36) w fun t37 =>
 R t37 w))
theorem k_tree_Tree_Within : kO Tryz.f24 A_tree_Tree_Within = true := by kernel_rfl
theorem s_tree_Tree_Within (h : SQ Q (c_tree_Tree_Within t0 t1 t2 w)) : cal P f_tree_Tree_Within [t0, t1, t2] w Q := sO Tryz.func24 rfl (by kernel_rfl) k_tree_Tree_Within (by kernel_rfl) h

/-- (*flurry/tree.Tree).Has -/
def A_tree_Tree_Has : An := (An.s (An.r []) (An.s (An.r []) (An.s (An.r []) An.o)))
def c_tree_Tree_Has (t0 t1 : Value) (w : World) (R : KR) : Prop :=
 bx T_api_ID t1 w fun t3 w =>
 ldN 32 t3 w.heap fun t9 =>
 cal P f_tree_Tree_level [t0, t9] w fun t10 w =>
 ext 0 t10 fun t11 =>
 ext 1 t10 fun t12 =>
 R t12 w
theorem k_tree_Tree_Has : kO Tryz.f25 A_tree_Tree_Has = true := by kernel_rfl
theorem s_tree_Tree_Has (h : SQ Q (c_tree_Tree_Has t0 t1 w)) : cal P f_tree_Tree_Has [t0, t1] w Q := sO Tryz.func25 rfl (by kernel_rfl) k_tree_Tree_Has (by kernel_rfl) h

/-- (*flurry/tree.Tree).Root -/
def A_tree_Tree_Root : An := (An.s (An.r []) (An.s (An.s (An.r []) (An.s (An.s (An.r []) An.o) An.o)) (An.s (An.d [0, 1, 2, 3, 4, 5, 6, 7, 8, 9] []) An.o)))
def c_tree_Tree_Root (t0 : Value) (w : World) (R : KR) : Prop :=
 efP P (Instr.alloc T_api_ID true (.tuple #[])) w fun t2 w =>
 cal P f_tree_Tree_none [t0] w fun t5 w =>
 cnd t5
 (rdP P (Instr.build T_api_ID #[]) w fun t6 =>
 stN 32 t2 t6 w fun w =>
 ldN 32 t2 w.heap fun r0 =>
 R (.tuple #[r0, (.int .i64 0)]) w)
 (drH w fun S w =>
 nilc t0 fun t8 =>
 fad 1 t8 fun t9 =>
 rdS S (fun w => ldN 32 t9 w.heap) fun t10 =>
 nilc t0 fun t12 =>
 fad 33 t12 fun t13 =>
 rdS S (fun w => ld1 t13 w.heap) fun t14 =>
 efS S (fun w K => stN 32 t2 t10 w (K undef)) w fun _ w =>
 ldN 32 t2 w.heap fun r1 =>
 R (.tuple #[r1, t14]) w)
theorem k_tree_Tree_Root : kO Tryz.f26 A_tree_Tree_Root = true := by kernel_rfl
theorem s_tree_Tree_Root (h : SQ Q (c_tree_Tree_Root t0 w)) : cal P f_tree_Tree_Root [t0] w Q := sO Tryz.func26 rfl (by kernel_rfl) k_tree_Tree_Root (by kernel_rfl) h

/-- (*flurry/tree.Tree).Path -/
def A_tree_Tree_Path : An := (An.s (An.r []) (An.s (An.s (An.r []) (An.s (An.s (An.r []) An.o) An.o)) (An.s (An.r []) (An.s (An.b (An.l [5] (An.s (An.s (An.r []) (An.s An.o An.o)) (An.b (An.s (An.r []) (An.dc [0, 1, 2, 3, 4, 5, 6, 7] [7] [])))))) (An.s (An.r []) (An.s (An.r []) An.o))))))
def c_tree_Tree_Path (t0 t1 : Value) (w : World) (R : KR) : Prop :=
 bx T_api_ID t1 w fun t3 w =>
 ldN 32 t3 w.heap fun t7 =>
 cal P f_tree_Tree_Has [t0, t7] w fun t8 w =>
 notB t8 fun t9 =>
 cnd t9
 (R (.slice none 0 0) w)
 (lp1 (.slice none 0 0) w fun _ t5 w again0 =>
 drw w fun w =>
 ldN 32 t3 w.heap fun t10 =>
 nilc t0 fun t12 =>
 fad 1 t12 fun t13 =>
 ldN 32 t13 w.heap fun t14 =>
 rdP P (eqS .neq T_api_ID (Operand.tmp 10) (Operand.tmp 14) t10 t14) w fun t15 =>
 cnd t15
 (ldN 32 t3 w.heap fun t17 =>
 efP P (Instr.buildSlice T_sl_api_ID 1 #[(0, t17)]) w fun t18 w =>
 efP P (Builtin.append_ #[T_sl_api_ID, T_sl_api_ID] T_sl_api_ID #[t5, t18]) w fun t19 w =>
 drH w fun S w =>
 nilc t0 fun t21 =>
 fad 35 t21 fun t22 =>
 rdS S (fun w => ld1 t22 w.heap) fun t23 =>
 rdS S (fun w => ldN 32 t3 w.heap) fun t24 =>
 rdS S (rdP P (Instr.lookup T_map_api_ID_api_Block t23 t24 false)) fun t25 =>
 fldv 0 32 true t25 fun t26 =>
 efC (fun w K => stN 32 t3 t26 w (K undef)) w fun S _ w =>
 again0 t19 w)
 (cal P f_slices_Reverse_api_ID_api_ID [t5] w fun t28 w =>
 R t5 w))
theorem k_tree_Tree_Path : kO Tryz.f27 A_tree_Tree_Path = true := by kernel_rfl
theorem s_tree_Tree_Path (h : SQ Q (c_tree_Tree_Path t0 t1 w)) : cal P f_tree_Tree_Path [t0, t1] w Q := sO Tryz.func27 rfl (by kernel_rfl) k_tree_Tree_Path (by kernel_rfl) h

/-- flurry/flurrylaw19.kids -/
def A_law19_kids : AnY := (AnY.s (AnY.c (An.r [])) (AnY.s (AnY.c (An.r [])) (AnY.s (AnY.c (An.r [])) (AnY.s (AnY.s (AnY.c (An.r [])) (AnY.s (AnY.s (AnY.c (An.r [])) AnY.o) AnY.o)) (AnY.s (AnY.s (AnY.c (An.r [])) (AnY.b (AnY.f (AnY.c (An.r [])) (AnY.b (AnY.c (An.r [])))))) (AnY.s (AnY.c (An.r [])) AnY.o))))))
def c_law19_kids (t0 t1 : Value) (w : World) (R : KR) : Prop :=
 bx T_api_ID t1 w fun t3 w =>
 efP P (Instr.alloc T_sl_api_ID true (.tuple #[])) w fun t5 w =>
 ldN 32 t3 w.heap fun t9 =>
 cal P f_tree_Tree_Kids [t0, t9] w fun t10 w =>
 rdP P (eqS .eql T_iter_Seq_api_ID (Operand.tmp 11) (Operand.const Value.nilFunc) t10 Value.nilFunc) w fun t12 =>
 cnd t12
 (R (.slice none 0 0) w)
 (rng P t10 1 w (fun args0 w beg0 fin0 =>
 efP P (Instr.alloc T_api_ID true (.tuple #[])) w fun t7 w =>
 stN 32 t7 (args0.getD 0 undef) w fun w =>
 beg0 w fun w =>
 ld1 t5 w.heap fun t15 =>
 ldN 32 t7 w.heap fun t16 =>
 efP P (Instr.buildSlice T_sl_api_ID 1 #[(0, t16)]) w fun t17 w =>
 efP P (Builtin.append_ #[T_sl_api_ID, T_sl_api_ID] T_sl_api_ID #[t15, t17]) w fun t18 w =>
 st1 t5 t18 w fun w =>
 fin0 none w) fun D0 => [(none, fun w =>
 ld1 t5 w.heap fun t19 =>
 takeD [D0] w fun w =>
 R t19 w)])
theorem k_law19_kids : kOY Tryz.f28 A_law19_kids = true := by kernel_rfl
theorem s_law19_kids (h : SQ Q (c_law19_kids t0 t1 w)) : cal P f_law19_kids [t0, t1] w Q := sOY Tryz.func28 rfl (by kernel_rfl) k_law19_kids (by kernel_rfl) h

end Go.Fx
