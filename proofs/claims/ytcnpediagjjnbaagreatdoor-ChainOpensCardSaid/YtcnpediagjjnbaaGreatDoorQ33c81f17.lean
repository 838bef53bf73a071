/-
  The types of this seat: what each is, how arguments of it are read, how a variable of it is made; printed by program.
-/
import Derived.Test.YtcnpediagjjnbaaGreatDoorProg
import Derived.KernelRfl
import Derived.Test.YtcnpediagjjnbaaGreatDoorQb1b07220
import Derived.Test.YtcnpediagjjnbaaGreatDoorQeb7d6745
set_option linter.unusedVariables false
set_option maxRecDepth 100000
namespace Go.Fx
noncomputable abbrev P : Program := Go.Proofs.Tryz.prog
open Go.Proofs
def bodyOf (f : Func) : Code := match f.body with | some c => c | none => .skip
theorem mixed : P.follows .mixedOrders = true := by kernel_rfl
abbrev f_law10_ChainOpens : FuncId := 4
abbrev f_law10_begun : FuncId := 7
abbrev f_tape_Of : FuncId := 8
abbrev f_chain_Open : FuncId := 9
abbrev f_law10_first : FuncId := 10
abbrev f_tape_Tape_Bytes : FuncId := 12
abbrev f_law10_told : FuncId := 13
abbrev f_ref03_Same : FuncId := 14
abbrev f_ref03_Linked : FuncId := 15
abbrev f_ref09_Size : FuncId := 17
abbrev f_bytes_Equal : FuncId := 18
abbrev f_chain_Chain_Last : FuncId := 19
abbrev f_ref08_Of : FuncId := 20
abbrev f_tape_Tape_Crash : FuncId := 21
abbrev f_ref08_Tape_Crash : FuncId := 22
abbrev f_law10_world_opens : FuncId := 23
abbrev f_law10_alike : FuncId := 24
abbrev f_chain_Chain_Accept : FuncId := 27
abbrev f_chain_Chain_Has : FuncId := 28
abbrev f_chain_Chain_Tape : FuncId := 29
abbrev f_chain_Chain_Block : FuncId := 30
abbrev f_tape_Tape_On : FuncId := 33
abbrev f_tape_New : FuncId := 34
abbrev f_law10_child : FuncId := 35
abbrev f_tape_Tape_Arm : FuncId := 36
abbrev f_tape_Tape_Restart : FuncId := 37
abbrev f_tape_Tape_Len : FuncId := 38
abbrev f_tape_told : FuncId := 39
abbrev f_tape_Tape_Clone : FuncId := 40
abbrev f_block_Check : FuncId := 41
abbrev f_chain_Chain_add : FuncId := 42
abbrev f_rec_Scan : FuncId := 43
abbrev f_block_Linked : FuncId := 44
abbrev f_chain_Chain_last : FuncId := 45
abbrev f_rec_Size : FuncId := 46
abbrev f_tape_Tape_Truncate : FuncId := 47
abbrev f_tape_Tape_may : FuncId := 48
abbrev f_chain_Chain_All : FuncId := 49
abbrev f_ref03_ID : FuncId := 50
abbrev f_ref03_Check : FuncId := 51
abbrev f_chain_Chain_may : FuncId := 52
abbrev f_block_Clone : FuncId := 53
abbrev f_ref09_Bytes : FuncId := 54
abbrev f_chain_Chain_none : FuncId := 55
abbrev f_tape_Tape_goes : FuncId := 56
abbrev f_ref10_Open : FuncId := 57
abbrev f_ref10_Chain_Last : FuncId := 58
abbrev f_rec_Bytes : FuncId := 59
abbrev f_tape_Tape_Append : FuncId := 60
abbrev f_ref03_Clone : FuncId := 61
abbrev f_ref03_Child : FuncId := 67
abbrev f_block_ID : FuncId := 68
abbrev f_rec_scan : FuncId := 69
abbrev f_slices_Clone_api_Block_api_Block : FuncId := 70
abbrev f_slices_Clone_api_ID_api_ID : FuncId := 71
abbrev f_chain_Chain_All_1 : FuncId := 72
abbrev f_slices_All_api_Block_api_Block : FuncId := 73
abbrev f_ref03_Bytes : FuncId := 74
abbrev f_ref02_Sum : FuncId := 75
abbrev f_bytes_Clone : FuncId := 76
abbrev f_ref01_Num : FuncId := 77
abbrev f_ref09_Scan : FuncId := 78
abbrev f_ref08_Tape_Truncate : FuncId := 79
abbrev f_block_Bytes : FuncId := 80
abbrev f_pack_New : FuncId := 81
abbrev f_pack_Packer_Int : FuncId := 82
abbrev f_pack_Packer_Long : FuncId := 83
abbrev f_pack_Packer_Fixed : FuncId := 84
abbrev f_pack_Packer_Out : FuncId := 85
abbrev f_sha_Sum : FuncId := 86
abbrev f_rec_Take : FuncId := 92
abbrev f_slices_All_api_Block_api_Block_1 : FuncId := 93
abbrev f_ref02_padded : FuncId := 94
abbrev f_ref02_goes : FuncId := 95
abbrev f_ref09_Take : FuncId := 96
abbrev f_pack_Packer_Short : FuncId := 97
abbrev f_pack_Packer_Bytes : FuncId := 98
abbrev f_pack_Packer_put : FuncId := 99
abbrev f_pack_number : FuncId := 100
abbrev f_pack_Packer_Err : FuncId := 101
abbrev f_sha_New : FuncId := 102
abbrev f_sha_State_Write : FuncId := 103
abbrev f_sha_State_Sum : FuncId := 104
abbrev f_pack_Read : FuncId := 106
abbrev f_pack_Unpacker_Int : FuncId := 107
abbrev f_block_Parse : FuncId := 108
abbrev f_pack_Unpacker_Long : FuncId := 109
abbrev f_ref02_words : FuncId := 110
abbrev f_ref02_constants : FuncId := 111
abbrev f_ref02_turned : FuncId := 112
abbrev f_ref01_Val : FuncId := 113
abbrev f_ref03_Parse : FuncId := 114
abbrev f_pack_Packer_works : FuncId := 115
abbrev f_pack_kept_fails : FuncId := 116
abbrev f_sha_first : FuncId := 117
abbrev f_sha_State_none : FuncId := 118
abbrev f_slices_Concat_byte_byte : FuncId := 119
abbrev f_sha_mixed : FuncId := 120
abbrev f_pack_value : FuncId := 121
abbrev f_pack_Unpacker_take : FuncId := 122
abbrev f_pack_Unpacker_Short : FuncId := 123
abbrev f_pack_Unpacker_Fixed : FuncId := 124
abbrev f_pack_Unpacker_Bytes : FuncId := 125
abbrev f_pack_Unpacker_End : FuncId := 126
abbrev f_block_made : FuncId := 127
abbrev f_slices_Grow_byte_byte : FuncId := 128
abbrev f_sha_schedule : FuncId := 129
abbrev f_math_bits_RotateLeft32 : FuncId := 130
abbrev f_pack_Unpacker_works : FuncId := 131
abbrev f_pack_Unpacker_counted : FuncId := 132
abbrev f_pack_Unpacker_Err : FuncId := 133
abbrev T_int64 : TypeId := 2
abbrev T_int : TypeId := 3
abbrev T_bool : TypeId := 4
abbrev T_uint8 : TypeId := 5
abbrev T_string : TypeId := 9
abbrev T_sl_uint8 : TypeId := 22
abbrev T_p_tape_Tape : TypeId := 24
abbrev T_api_ID : TypeId := 32
abbrev T_api_Block : TypeId := 34
abbrev T_sl_flurrylaw10_named : TypeId := 38
abbrev T_flurrylaw10_named : TypeId := 42
abbrev T_flurrylaw10_world : TypeId := 56
abbrev T_flurryref08_Tape : TypeId := 60
abbrev T_sl_api_Block : TypeId := 64
abbrev T_sl_api_ID : TypeId := 65
abbrev T_map_api_ID_int : TypeId := 66
abbrev T_chain_Chain : TypeId := 68
abbrev T_tape_Tape : TypeId := 89
abbrev T_chain_held : TypeId := 91
abbrev T_iter_Seq2_api_ID_api_Block : TypeId := 96
abbrev T_flurryref10_Chain : TypeId := 106
abbrev T_sl_sl_uint8 : TypeId := 110
abbrev T_sl_int : TypeId := 113
abbrev T_func_api_ID_api_Block_bool : TypeId := 118
abbrev T_uint32 : TypeId := 128
abbrev T_a8_uint32 : TypeId := 137
abbrev T_pack_Packer : TypeId := 146
abbrev T_a64_uint32 : TypeId := 156
abbrev T_sha_State : TypeId := 164
abbrev T_pack_Unpacker : TypeId := 167
/-- flurry/flurrylaw10.ChainOpens -/
def A_law10_ChainOpens : An := (An.s (An.r []) (An.s (An.s (An.r [[18], [24]]) (An.s (An.s (An.r []) An.o) An.o)) (An.s (An.r []) (An.s (An.r []) (An.s (An.r []) (An.s (An.s (An.r [[45], [49], [53], [57], [60], [61], [62]]) (An.s (An.s (An.r []) An.o) An.o)) (An.s (An.s (An.dc [0, 1, 2, 3, 4, 5, 7, 8, 9, 10, 6, 11, 12, 13] [2] [[76]]) (An.s (An.s (An.r []) An.o) An.o)) (An.s (An.r []) (An.s (An.d [0, 1, 2, 3, 4, 5, 6, 7, 8, 9, 10, 11, 12, 13, 14, 15, 16, 17, 18, 19, 20, 21, 22, 23, 24] [[87], [95], [104], [105]]) An.o)))))))))
def c_law10_ChainOpens (t0 t1 t2 : Value) (w : World) (R : Value → World → Prop) : Prop :=
  bx T_api_Block t1 w fun t4 w =>
  cal P f_law10_begun [] w fun t13 w =>
  notB t13 fun t14 =>
  jn1 (fun k0 =>
  gif t14 false
  (lenS t0 fun t17 =>
  bi BinOp.gtr t17 (Value.int IntKind.i64 5000) fun t18 =>
  k0 t18 w)
  (k0 undef w)) fun _ t18_1 w =>
  pik t14 (Value.bool true) t18_1 fun t19 =>
  jn1 (fun k1 =>
  gif t19 false
  (fad 33 t4 fun t21 =>
  ld1 t21 w.heap fun t22 =>
  lenS t22 fun t23 =>
  bi BinOp.gtr t23 (Value.int IntKind.i64 1000) fun t24 =>
  k1 t24 w)
  (k1 undef w)) fun _ t24_1 w =>
  pik t19 (Value.bool true) t24_1 fun t25 =>
  cnd t25
  (cal P f_law10_begun [] w fun t26 w =>
  R t26 w)
  (cal P f_tape_Of [t0] w fun t29 w =>
  ext 0 t29 fun t30 =>
  ext 1 t29 fun t31 =>
  cal P f_ref08_Of [t0] w fun t34 w =>
  ext 0 t34 fun t35 =>
  ext 1 t34 fun t36 =>
  rdP P (Instr.build T_flurrylaw10_world #[(0, t30), (2, t35)]) w fun t39 =>
  bx T_flurrylaw10_world t39 w fun t40 w =>
  bi BinOp.neq t31 (Value.int IntKind.i64 0) fun t42 =>
  jn1 (fun k2 =>
  gif t42 false
  (bi BinOp.neq t36 (Value.int IntKind.i64 0) fun t45 =>
  k2 t45 w)
  (k2 undef w)) fun _ t45_1 w =>
  pik t42 (Value.bool true) t45_1 fun t46 =>
  jn1 (fun k3 =>
  gif t46 false
  (nilP false t30 fun t49 =>
  k3 t49 w)
  (k3 undef w)) fun _ t49_1 w =>
  pik t46 (Value.bool true) t49_1 fun t50 =>
  jn1 (fun k4 =>
  gif t50 false
  (k4 t2 w)
  (k4 undef w)) fun _ t53 w =>
  jn1 (fun k5 =>
  gif t53 true
  (cal P f_tape_Tape_Crash [t30] w fun t55 w =>
  bi BinOp.neq t55 (Value.int IntKind.i64 0) fun t56 =>
  k5 t56 w)
  (k5 undef w)) fun _ t57 w =>
  jn1 (fun k6 =>
  gif t57 false
  (cal P f_ref08_Tape_Crash [t35] w fun t59 w =>
  bi BinOp.neq t59 (Value.int IntKind.i64 0) fun t60 =>
  k6 t60 w)
  (k6 undef w)) fun _ t60_1 w =>
  jn1 (fun k7 =>
  gif t53 true
  (pik t57 (Value.bool true) t60_1 fun t61 =>
  k7 t61 w)
  (k7 undef w)) fun _ t61_1 w =>
  jn1 (fun k8 =>
  gif t50 false
  (pik t53 t61_1 (Value.bool false) fun t62 =>
  k8 t62 w)
  (k8 undef w)) fun _ t62_1 w =>
  pik t50 (Value.bool true) t62_1 fun t63 =>
  cnd t63
  (R (Value.bool false) w)
  (drH w fun S w =>
  rdS S (fun w => ldN 34 t4 w.heap) fun t65 =>
  efC (cal P f_law10_world_opens [t40, t65]) w fun S t66 w =>
  notB t66 fun t67 =>
  jn1 (fun k9 =>
  gif t67 false
  (nilc t35 fun t72 =>
  fad 0 t72 fun t73 =>
  rdS S (fun w => ld1 t73 w.heap) fun t74 =>
  efS S (cal P f_tape_Tape_Bytes [t30]) w fun t70 w =>
  efS S (cal P f_bytes_Equal [t70, t74]) w fun t75 w =>
  notB t75 fun t76 =>
  k9 t76 w)
  (k9 undef w)) fun _ t76_1 w =>
  pik t67 (Value.bool true) t76_1 fun t77 =>
  cnd t77
  (R (Value.bool false) w)
  (ldN 34 t4 w.heap fun t79 =>
  cal P f_chain_Open [(Value.pointer none), t79] w fun t80 w =>
  ext 0 t80 fun t81 =>
  ext 1 t80 fun t82 =>
  drH w fun S w =>
  nilP false t81 fun t84 =>
  jn1 (fun k10 =>
  gif t84 true
  (bi BinOp.eql t82 (Value.int IntKind.i64 2) fun t87 =>
  k10 t87 w)
  (k10 undef w)) fun _ t87_1 w =>
  pik t84 t87_1 (Value.bool false) fun t88 =>
  jn1 (fun k11 =>
  gif t88 true
  (nilc t40 fun t91 =>
  fad 1 t91 fun t92 =>
  rdS S (fun w => ld1 t92 w.heap) fun t93 =>
  nilP false t93 fun t94 =>
  k11 t94 w)
  (k11 undef w)) fun _ t95 w =>
  jn1 (fun k12 =>
  gif t95 false
  (nilc t40 fun t97 =>
  fad 1 t97 fun t98 =>
  rdS S (fun w => ld1 t98 w.heap) fun t99 =>
  nilc t40 fun t101 =>
  fad 3 t101 fun t102 =>
  rdS S (fun w => ld1 t102 w.heap) fun t103 =>
  efS S (cal P f_law10_alike [t99, t103]) w fun t104 w =>
  k12 t104 w)
  (k12 undef w)) fun _ t104_1 w =>
  jn1 (fun k13 =>
  gif t88 true
  (pik t95 (Value.bool true) t104_1 fun t105 =>
  k13 t105 w)
  (k13 undef w)) fun _ t105_1 w =>
  pik t88 t105_1 (Value.bool false) fun t106 =>
  R t106 w)))
theorem e_law10_ChainOpens (t0 t1 t2 : Value) (w : World) (R : Value → World → Prop) : intp P A_law10_ChainOpens (bodyOf Tryz.f4) (ini [t0, t1, t2]) w (retK P Tryz.f4.results.toList R) (fun _ _ _ => False) (retK P Tryz.f4.results.toList R) = c_law10_ChainOpens t0 t1 t2 w R := by kernel_rfl
theorem k_law10_ChainOpens : chk P Tryz.f4.ntmps A_law10_ChainOpens (bodyOf Tryz.f4) = true := by kernel_rfl
theorem l_law10_ChainOpens {t0 t1 t2 : Value} {w : World} {R : Value → World → Prop} (h : c_law10_ChainOpens t0 t1 t2 w R) : cal P f_law10_ChainOpens [t0, t1, t2] w R :=
  calls_of mixed Tryz.func4 rfl (by kernel_rfl) k_law10_ChainOpens (Eq.mpr (e_law10_ChainOpens t0 t1 t2 w R) h)
theorem s_law10_ChainOpens {t0 t1 t2 : Value} {w : World} {Q : Value → World → Prop} (h : ∀ R : Value → World → Prop, (∀ v w', Q v w' → R v w') → c_law10_ChainOpens t0 t1 t2 w R) : cal P f_law10_ChainOpens [t0, t1, t2] w Q := l_law10_ChainOpens (h Q fun _ _ h => h)

/-- flurry/flurrylaw10.begun -/
def A_law10_begun : An := (An.s (An.r []) (An.s (An.r []) (An.s (An.r []) (An.s (An.s (An.r [[19], [23]]) (An.s (An.s (An.r []) An.o) An.o)) (An.s (An.r []) (An.s (An.s (An.r [[36], [43], [48]]) (An.s (An.s (An.r []) An.o) An.o)) (An.s (An.r []) (An.s (An.s (An.r [[60]]) (An.s (An.s (An.r []) An.o) An.o)) (An.s (An.r []) (An.s (An.d [0, 1, 2, 3, 5, 4, 6, 7, 8, 9] [[74]]) An.o))))))))))
def c_law10_begun (w : World) (R : Value → World → Prop) : Prop :=
  cal P f_tape_New [] w fun t8 w =>
  cal P f_law10_first [] w fun t11 w =>
  cal P f_chain_Open [t8, t11] w fun t12 w =>
  ext 0 t12 fun t13 =>
  ext 1 t12 fun t14 =>
  bi BinOp.neq t14 (Value.int IntKind.i64 0) fun t16 =>
  jn1 (fun k0 =>
  gif t16 false
  (nilP false t13 fun t19 =>
  k0 t19 w)
  (k0 undef w)) fun _ t19_1 w =>
  pik t16 (Value.bool true) t19_1 fun t20 =>
  jn1 (fun k1 =>
  gif t20 false
  (nilP false t8 fun t23 =>
  k1 t23 w)
  (k1 undef w)) fun _ t23_1 w =>
  pik t20 (Value.bool true) t23_1 fun t24 =>
  cnd t24
  (R (Value.bool false) w)
  (cal P f_law10_first [] w fun t25 w =>
  efP P (Instr.buildSlice T_sl_uint8 1 #[(0, (Value.int IntKind.u8 97))]) w fun t26 w =>
  efP P (convert T_sl_uint8 T_sl_uint8 t26) w fun t27 w =>
  cal P f_law10_child [t25, t27] w fun t28 w =>
  efP P (Instr.alloc T_api_Block true (.tuple #[])) w fun t4 w =>
  stN 34 t4 t28 w fun w =>
  ldN 34 t4 w.heap fun t30 =>
  cal P f_chain_Chain_Accept [t13, t30] w fun t31 w =>
  bi BinOp.neq t31 (Value.int IntKind.i64 0) fun t32 =>
  jn1 (fun k2 =>
  gif t32 false
  (cal P f_tape_Tape_Arm [t8, (Value.int IntKind.i64 10)] w fun t35 w =>
  bi BinOp.neq t35 (Value.int IntKind.i64 0) fun t36 =>
  k2 t36 w)
  (k2 undef w)) fun _ t36_1 w =>
  pik t32 (Value.bool true) t36_1 fun t37 =>
  jn1 (fun k3 =>
  gif t37 false
  (ldN 34 t4 w.heap fun t40 =>
  cal P f_law10_child [t40, (Value.slice none 0 0)] w fun t41 w =>
  cal P f_chain_Chain_Accept [t13, t41] w fun t42 w =>
  bi BinOp.neq t42 (Value.int IntKind.i64 5) fun t43 =>
  k3 t43 w)
  (k3 undef w)) fun _ t43_1 w =>
  pik t37 (Value.bool true) t43_1 fun t44 =>
  jn1 (fun k4 =>
  gif t44 false
  (cal P f_tape_Tape_Restart [t8] w fun t47 w =>
  bi BinOp.neq t47 (Value.int IntKind.i64 0) fun t48 =>
  k4 t48 w)
  (k4 undef w)) fun _ t48_1 w =>
  pik t44 (Value.bool true) t48_1 fun t49 =>
  cnd t49
  (R (Value.bool false) w)
  (cal P f_law10_first [] w fun t52 w =>
  cal P f_chain_Open [t8, t52] w fun t53 w =>
  ext 0 t53 fun t54 =>
  ext 1 t53 fun t55 =>
  bi BinOp.neq t55 (Value.int IntKind.i64 0) fun t57 =>
  jn1 (fun k5 =>
  gif t57 false
  (nilP false t54 fun t60 =>
  k5 t60 w)
  (k5 undef w)) fun _ t60_1 w =>
  pik t57 (Value.bool true) t60_1 fun t61 =>
  cnd t61
  (R (Value.bool false) w)
  (cal P f_chain_Chain_Last [t54] w fun t64 w =>
  ext 0 t64 fun t65 =>
  ext 1 t64 fun t66 =>
  efP P (Instr.alloc T_api_ID true (.tuple #[])) w fun t6 w =>
  stN 32 t6 t65 w fun w =>
  drH w fun S w =>
  bi BinOp.eql t66 (Value.int IntKind.i64 1) fun t68 =>
  jn1 (fun k6 =>
  gif t68 true
  (rdS S (fun w => ldN 34 t4 w.heap) fun t72 =>
  efS S (cal P f_tape_Tape_Len [t8]) w fun t71 w =>
  efS S (cal P f_ref09_Size [t72]) w fun t73 w =>
  bi BinOp.eql t71 t73 fun t74 =>
  k6 t74 w)
  (k6 undef w)) fun _ t74_1 w =>
  pik t68 t74_1 (Value.bool false) fun t75 =>
  R t75 w)))
theorem e_law10_begun (w : World) (R : Value → World → Prop) : intp P A_law10_begun (bodyOf Tryz.f7) (ini []) w (retK P Tryz.f7.results.toList R) (fun _ _ _ => False) (retK P Tryz.f7.results.toList R) = c_law10_begun  w R := by kernel_rfl
theorem k_law10_begun : chk P Tryz.f7.ntmps A_law10_begun (bodyOf Tryz.f7) = true := by kernel_rfl
theorem l_law10_begun {w : World} {R : Value → World → Prop} (h : c_law10_begun w R) : cal P f_law10_begun [] w R :=
  calls_of mixed Tryz.func7 rfl (by kernel_rfl) k_law10_begun (Eq.mpr (e_law10_begun w R) h)
theorem s_law10_begun {w : World} {Q : Value → World → Prop} (h : ∀ R : Value → World → Prop, (∀ v w', Q v w' → R v w') → c_law10_begun w R) : cal P f_law10_begun [] w Q := l_law10_begun (h Q fun _ _ h => h)

/-- flurry/tape.Of -/
def A_tape_Of : An := (An.s (An.r []) (An.s (An.s (An.r []) (An.s (An.s (An.r []) An.o) An.o)) (An.s (An.r []) (An.s (An.r []) (An.s (An.r []) An.o)))))
def c_tape_Of (t0 : Value) (w : World) (R : Value → World → Prop) : Prop :=
  lenS t0 fun t6 =>
  bi BinOp.gtr t6 (Value.int IntKind.i64 262144) fun t7 =>
  cnd t7
  (R (Value.tuple #[(Value.pointer none), (Value.int IntKind.i64 3)]) w)
  (cal P f_tape_New [] w fun t8 w =>
  cal P f_tape_told [t0] w fun t11 w =>
  nilc t8 fun t12 =>
  fad 0 t12 fun t13 =>
  st1 t13 t11 w fun w =>
  R (Value.tuple #[t8, (Value.int IntKind.i64 0)]) w)
theorem e_tape_Of (t0 : Value) (w : World) (R : Value → World → Prop) : intp P A_tape_Of (bodyOf Tryz.f8) (ini [t0]) w (retK P Tryz.f8.results.toList R) (fun _ _ _ => False) (retK P Tryz.f8.results.toList R) = c_tape_Of t0 w R := by kernel_rfl
theorem k_tape_Of : chk P Tryz.f8.ntmps A_tape_Of (bodyOf Tryz.f8) = true := by kernel_rfl
theorem l_tape_Of {t0 : Value} {w : World} {R : Value → World → Prop} (h : c_tape_Of t0 w R) : cal P f_tape_Of [t0] w R :=
  calls_of mixed Tryz.func8 rfl (by kernel_rfl) k_tape_Of (Eq.mpr (e_tape_Of t0 w R) h)
theorem s_tape_Of {t0 : Value} {w : World} {Q : Value → World → Prop} (h : ∀ R : Value → World → Prop, (∀ v w', Q v w' → R v w') → c_tape_Of t0 w R) : cal P f_tape_Of [t0] w Q := l_tape_Of (h Q fun _ _ h => h)

/-- flurry/chain.Open -/
def A_chain_Open : An := (An.s (An.r []) (An.s (An.s (An.r []) (An.s (An.s (An.r []) An.o) An.o)) (An.s (An.s (An.r []) (An.s (An.s (An.r []) An.o) An.o)) (An.s (An.s (An.r [[25]]) (An.s (An.s (An.r []) An.o) An.o)) (An.s (An.r []) (An.s (An.r []) (An.s (An.r []) (An.s (An.r []) (An.s (An.j [9] (An.s (An.r []) (An.b (An.l [9, 44] (An.s (An.r []) (An.s (An.s An.o An.o) (An.s (An.b (An.s (An.r []) (An.s (An.s (An.dc [0, 1, 2, 3, 4] [3] []) (An.s An.o An.o)) (An.s (An.r []) (An.r []))))) (An.r [])))))))) (An.s (An.s (An.r []) (An.s (An.s (An.r []) (An.s (An.r []) (An.s (An.s (An.r []) An.o) An.o))) An.o)) (An.s (An.r []) An.o)))))))))))
def c_chain_Open (t0 t1 : Value) (w : World) (R : Value → World → Prop) : Prop :=
  bx T_api_Block t1 w fun t3 w =>
  cal P f_tape_Tape_Clone [t0] w fun t14 w =>
  nilP false t14 fun t15 =>
  cnd t15
  (R (Value.tuple #[(Value.pointer none), (Value.int IntKind.i64 2)]) w)
  (cal P f_tape_Tape_On [t0] w fun t17 w =>
  notB t17 fun t18 =>
  cnd t18
  (R (Value.tuple #[(Value.pointer none), (Value.int IntKind.i64 5)]) w)
  (ldN 34 t3 w.heap fun t19 =>
  cal P f_block_Check [t19] w fun t20 w =>
  bi BinOp.neq t20 (Value.int IntKind.i64 0) fun t21 =>
  jn1 (fun k0 =>
  gif t21 false
  (fad 32 t3 fun t23 =>
  ld1 t23 w.heap fun t24 =>
  bi BinOp.neq t24 (Value.int IntKind.i64 0) fun t25 =>
  k0 t25 w)
  (k0 undef w)) fun _ t25_1 w =>
  pik t21 (Value.bool true) t25_1 fun t26 =>
  cnd t26
  (R (Value.tuple #[(Value.pointer none), (Value.int IntKind.i64 30)]) w)
  (rdP P (Instr.build T_chain_held #[(0, t0)]) w fun t28 =>
  bx T_chain_held t28 w fun t29 w =>
  efP P (Instr.makeMap T_map_api_ID_int none) w fun t30 w =>
  rdP P (Instr.build T_chain_Chain #[(0, t29), (3, t30)]) w fun t31 =>
  bx T_chain_Chain t31 w fun t32 w =>
  ldN 34 t3 w.heap fun t34 =>
  cal P f_chain_Chain_add [t32, t34] w fun t35 w =>
  cal P f_tape_Tape_Bytes [t0] w fun t38 w =>
  cal P f_rec_Scan [t38] w fun t39 w =>
  ext 0 t39 fun t40 =>
  ext 1 t39 fun t41 =>
  jn1 (fun k1 =>
  lenS t40 fun t43 =>
  lp2 (Value.int IntKind.i64 0) (Value.int IntKind.i64 0) w fun _ t9 t44 w again2 =>
  bi BinOp.lss t44 t43 fun t45 =>
  cnd t45
  (ixs 34 t40 t44 fun t46 =>
  ldN 34 t46 w.heap fun t47 =>
  efP P (Instr.alloc T_api_Block true (.tuple #[])) w fun t11 w =>
  stN 34 t11 t47 w fun w =>
  drH w fun S w =>
  rdS S (fun w => ldN 34 t11 w.heap) fun t48 =>
  efS S (cal P f_chain_Chain_last [t32]) w fun t50 w =>
  efC (cal P f_block_Linked [t48, t50]) w fun S t51 w =>
  bi BinOp.neq t51 (Value.int IntKind.i64 0) fun t52 =>
  cnd t52
  (k1 t9 w)
  (ldN 34 t11 w.heap fun t54 =>
  cal P f_rec_Size [t54] w fun t55 w =>
  bi BinOp.add t9 t55 fun t56 =>
  ldN 34 t11 w.heap fun t58 =>
  cal P f_chain_Chain_add [t32, t58] w fun t59 w =>
  bi BinOp.add t44 (Value.int IntKind.i64 1) fun t60 =>
  again2 t56 t60 w))
  (k1 t9 w)) fun _ t9_1 w =>
  cal P f_tape_Tape_Len [t0] w fun t63 w =>
  bi BinOp.lss t9_1 t63 fun t64 =>
  cnd t64
  (cal P f_tape_Tape_Truncate [t0, t9_1] w fun t67 w =>
  bi BinOp.neq t67 (Value.int IntKind.i64 0) fun t69 =>
  cnd t69
  (R (Value.tuple #[(Value.pointer none), t67]) w)
  (R (Value.tuple #[t32, (Value.int IntKind.i64 0)]) w))
  (R (Value.tuple #[t32, (Value.int IntKind.i64 0)]) w))))
theorem e_chain_Open (t0 t1 : Value) (w : World) (R : Value → World → Prop) : intp P A_chain_Open (bodyOf Tryz.f9) (ini [t0, t1]) w (retK P Tryz.f9.results.toList R) (fun _ _ _ => False) (retK P Tryz.f9.results.toList R) = c_chain_Open t0 t1 w R := by kernel_rfl
theorem k_chain_Open : chk P Tryz.f9.ntmps A_chain_Open (bodyOf Tryz.f9) = true := by kernel_rfl
theorem l_chain_Open {t0 t1 : Value} {w : World} {R : Value → World → Prop} (h : c_chain_Open t0 t1 w R) : cal P f_chain_Open [t0, t1] w R :=
  calls_of mixed Tryz.func9 rfl (by kernel_rfl) k_chain_Open (Eq.mpr (e_chain_Open t0 t1 w R) h)
theorem s_chain_Open {t0 t1 : Value} {w : World} {Q : Value → World → Prop} (h : ∀ R : Value → World → Prop, (∀ v w', Q v w' → R v w') → c_chain_Open t0 t1 w R) : cal P f_chain_Open [t0, t1] w Q := l_chain_Open (h Q fun _ _ h => h)

/-- flurry/flurrylaw10.first -/
def A_law10_first : An := (An.s (An.r []) (An.s (An.r []) An.o))
def c_law10_first (w : World) (R : Value → World → Prop) : Prop :=
  efP P (Instr.alloc T_api_Block true (.tuple #[])) w fun t0 w =>
  efP P (Instr.buildSlice T_sl_uint8 1 #[(0, (Value.int IntKind.u8 103))]) w fun t1 w =>
  efP P (convert T_sl_uint8 T_sl_uint8 t1) w fun t2 w =>
  rdP P (Instr.build T_api_Block #[(2, t2)]) w fun t3 =>
  stN 34 t0 t3 w fun w =>
  ldN 34 t0 w.heap fun r0 =>
  R r0 w
theorem e_law10_first (w : World) (R : Value → World → Prop) : intp P A_law10_first (bodyOf Tryz.f10) (ini []) w (retK P Tryz.f10.results.toList R) (fun _ _ _ => False) (retK P Tryz.f10.results.toList R) = c_law10_first  w R := by kernel_rfl
theorem k_law10_first : chk P Tryz.f10.ntmps A_law10_first (bodyOf Tryz.f10) = true := by kernel_rfl
theorem l_law10_first {w : World} {R : Value → World → Prop} (h : c_law10_first w R) : cal P f_law10_first [] w R :=
  calls_of mixed Tryz.func10 rfl (by kernel_rfl) k_law10_first (Eq.mpr (e_law10_first w R) h)
theorem s_law10_first {w : World} {Q : Value → World → Prop} (h : ∀ R : Value → World → Prop, (∀ v w', Q v w' → R v w') → c_law10_first w R) : cal P f_law10_first [] w Q := l_law10_first (h Q fun _ _ h => h)

/-- (*flurry/tape.Tape).Bytes -/
def A_tape_Tape_Bytes : An := (An.s (An.r []) (An.s (An.s (An.r []) (An.s (An.s (An.r []) An.o) An.o)) (An.s (An.r []) An.o)))
def c_tape_Tape_Bytes (t0 : Value) (w : World) (R : Value → World → Prop) : Prop :=
  cal P f_tape_Tape_may [t0] w fun t4 w =>
  bi BinOp.eql t4 (Value.int IntKind.i64 2) fun t5 =>
  cnd t5
  (R (Value.slice none 0 0) w)
  (nilc t0 fun t7 =>
  fad 0 t7 fun t8 =>
  ld1 t8 w.heap fun t9 =>
  cal P f_tape_told [t9] w fun t10 w =>
  R t10 w)
theorem e_tape_Tape_Bytes (t0 : Value) (w : World) (R : Value → World → Prop) : intp P A_tape_Tape_Bytes (bodyOf Tryz.f12) (ini [t0]) w (retK P Tryz.f12.results.toList R) (fun _ _ _ => False) (retK P Tryz.f12.results.toList R) = c_tape_Tape_Bytes t0 w R := by kernel_rfl
theorem k_tape_Tape_Bytes : chk P Tryz.f12.ntmps A_tape_Tape_Bytes (bodyOf Tryz.f12) = true := by kernel_rfl
theorem l_tape_Tape_Bytes {t0 : Value} {w : World} {R : Value → World → Prop} (h : c_tape_Tape_Bytes t0 w R) : cal P f_tape_Tape_Bytes [t0] w R :=
  calls_of mixed Tryz.func12 rfl (by kernel_rfl) k_tape_Tape_Bytes (Eq.mpr (e_tape_Tape_Bytes t0 w R) h)
theorem s_tape_Tape_Bytes {t0 : Value} {w : World} {Q : Value → World → Prop} (h : ∀ R : Value → World → Prop, (∀ v w', Q v w' → R v w') → c_tape_Tape_Bytes t0 w R) : cal P f_tape_Tape_Bytes [t0] w Q := l_tape_Tape_Bytes (h Q fun _ _ h => h)

/-- flurry/flurrylaw10.told -/
def A_law10_told : AnY := (AnY.s (AnY.c (An.r [])) (AnY.s (AnY.c (An.r [])) (AnY.s (AnY.c (An.r [])) (AnY.s (AnY.s (AnY.c (An.r [])) (AnY.s (AnY.s (AnY.c (An.r [])) AnY.o) AnY.o)) (AnY.s (AnY.s (AnY.c (An.r [])) (AnY.b (AnY.f (AnY.s (AnY.c (An.r [])) (AnY.c (An.r []))) (AnY.b (AnY.s (AnY.s (AnY.c (An.r [])) (AnY.s AnY.o AnY.o)) (AnY.c (An.r []))))))) (AnY.s (AnY.c (An.r [])) AnY.o))))))
def c_law10_told (t0 t1 : Value) (w : World) (R : Value → World → Prop) : Prop :=
  bx T_int t1 w fun t3 w =>
  efP P (Instr.alloc T_sl_flurrylaw10_named true (.tuple #[])) w fun t5 w =>
  cal P f_chain_Chain_All [t0] w fun t10 w =>
  rdP P (eqS BinOp.eql T_iter_Seq2_api_ID_api_Block (Operand.tmp 11) (Operand.const Value.nilFunc) t10 Value.nilFunc) w fun t12 =>
  cnd t12
  (R (Value.slice none 0 0) w)
  (rng P t10 2 w (fun args0 w beg0 fin0 =>
  efP P (Instr.alloc T_api_ID true (.tuple #[])) w fun t7 w =>
  stN 32 t7 (args0.getD 0 undef) w fun w =>
  efP P (Instr.alloc T_api_Block true (.tuple #[])) w fun t8 w =>
  stN 34 t8 (args0.getD 1 undef) w fun w =>
  beg0 w fun w =>
  ld1 t5 w.heap fun t16 =>
  lenS t16 fun t17 =>
  ld1 t3 w.heap fun t18 =>
  bi BinOp.geq t17 t18 fun t19 =>
  cnd t19
  (fin0 (some (.exit 0)) w)
  (ld1 t5 w.heap fun t20 =>
  ldN 32 t7 w.heap fun t21 =>
  ldN 34 t8 w.heap fun t22 =>
  rdP P (Instr.build T_flurrylaw10_named #[(0, t21), (1, t22)]) w fun t23 =>
  efP P (Instr.buildSlice T_sl_flurrylaw10_named 1 #[(0, t23)]) w fun t24 w =>
  efP P (Builtin.append_ #[T_sl_flurrylaw10_named, T_sl_flurrylaw10_named] T_sl_flurrylaw10_named #[t20, t24]) w fun t25 w =>
  st1 t5 t25 w fun w =>
  fin0 none w)) fun D0 => [(none, fun w =>
  ld1 t5 w.heap fun t26 =>
  takeD [D0] w fun w =>
  R t26 w), (some (.exit 0), fun w =>
  ld1 t5 w.heap fun t26_1 =>
  takeD [D0] w fun w =>
  R t26_1 w)])
theorem e_law10_told (t0 t1 : Value) (w : World) (R : Value → World → Prop) : intpY P A_law10_told (bodyOf Tryz.f13) (ini [t0, t1]) [] w (retY P Tryz.f13.results.toList R) (fun _ _ _ _ => False) (retY P Tryz.f13.results.toList R) = c_law10_told t0 t1 w R := by kernel_rfl
theorem k_law10_told : chkY P Tryz.f13.ntmps A_law10_told (bodyOf Tryz.f13) = true := by kernel_rfl
theorem l_law10_told {t0 t1 : Value} {w : World} {R : Value → World → Prop} (h : c_law10_told t0 t1 w R) : cal P f_law10_told [t0, t1] w R :=
  calls_ofY mixed Tryz.func13 rfl (by kernel_rfl) k_law10_told (Eq.mpr (e_law10_told t0 t1 w R) h)
theorem s_law10_told {t0 t1 : Value} {w : World} {Q : Value → World → Prop} (h : ∀ R : Value → World → Prop, (∀ v w', Q v w' → R v w') → c_law10_told t0 t1 w R) : cal P f_law10_told [t0, t1] w Q := l_law10_told (h Q fun _ _ h => h)

/-- flurry/flurryref03.Same -/
def A_ref03_Same : An := (An.s (An.r []) (An.s (An.r [[15], [24]]) An.o))
def c_ref03_Same (t0 t1 : Value) (w : World) (R : Value → World → Prop) : Prop :=
  bx T_api_Block t0 w fun t2 w =>
  bx T_api_Block t1 w fun t3 w =>
  fad 0 t2 fun t5 =>
  ldN 32 t5 w.heap fun t6 =>
  fad 0 t3 fun t7 =>
  ldN 32 t7 w.heap fun t8 =>
  rdP P (eqS BinOp.eql T_api_ID (Operand.tmp 6) (Operand.tmp 8) t6 t8) w fun t9 =>
  jn1 (fun k0 =>
  gif t9 true
  (fad 32 t2 fun t11 =>
  ld1 t11 w.heap fun t12 =>
  fad 32 t3 fun t13 =>
  ld1 t13 w.heap fun t14 =>
  bi BinOp.eql t12 t14 fun t15 =>
  k0 t15 w)
  (k0 undef w)) fun _ t15_1 w =>
  pik t9 t15_1 (Value.bool false) fun t16 =>
  jn1 (fun k1 =>
  gif t16 true
  (fad 33 t2 fun t18 =>
  ld1 t18 w.heap fun t19 =>
  rdP P (convert T_sl_uint8 T_string t19) w fun t20 =>
  fad 33 t3 fun t21 =>
  ld1 t21 w.heap fun t22 =>
  rdP P (convert T_sl_uint8 T_string t22) w fun t23 =>
  rdP P (eqS BinOp.eql T_string (Operand.tmp 20) (Operand.tmp 23) t20 t23) w fun t24 =>
  k1 t24 w)
  (k1 undef w)) fun _ t24_1 w =>
  pik t16 t24_1 (Value.bool false) fun t25 =>
  R t25 w
theorem e_ref03_Same (t0 t1 : Value) (w : World) (R : Value → World → Prop) : intp P A_ref03_Same (bodyOf Tryz.f14) (ini [t0, t1]) w (retK P Tryz.f14.results.toList R) (fun _ _ _ => False) (retK P Tryz.f14.results.toList R) = c_ref03_Same t0 t1 w R := by kernel_rfl
theorem k_ref03_Same : chk P Tryz.f14.ntmps A_ref03_Same (bodyOf Tryz.f14) = true := by kernel_rfl
theorem l_ref03_Same {t0 t1 : Value} {w : World} {R : Value → World → Prop} (h : c_ref03_Same t0 t1 w R) : cal P f_ref03_Same [t0, t1] w R :=
  calls_of mixed Tryz.func14 rfl (by kernel_rfl) k_ref03_Same (Eq.mpr (e_ref03_Same t0 t1 w R) h)
theorem s_ref03_Same {t0 t1 : Value} {w : World} {Q : Value → World → Prop} (h : ∀ R : Value → World → Prop, (∀ v w', Q v w' → R v w') → c_ref03_Same t0 t1 w R) : cal P f_ref03_Same [t0, t1] w Q := l_ref03_Same (h Q fun _ _ h => h)

/-- flurry/flurryref03.Linked -/
def A_ref03_Linked : An := (An.s (An.r []) (An.s (An.r []) (An.s (An.s (An.r [[17]]) (An.s (An.s (An.r []) An.o) An.o)) (An.s (An.s (An.r [[26], [34]]) (An.s (An.s (An.r []) An.o) An.o)) (An.s (An.r []) An.o)))))
def c_ref03_Linked (t0 t1 : Value) (w : World) (R : Value → World → Prop) : Prop :=
  bx T_api_Block t0 w fun t2 w =>
  bx T_api_Block t1 w fun t3 w =>
  ldN 34 t3 w.heap fun t8 =>
  cal P f_ref03_ID [t8] w fun t9 w =>
  ext 0 t9 fun t10 =>
  ext 1 t9 fun t11 =>
  efP P (Instr.alloc T_api_ID true (.tuple #[])) w fun t5 w =>
  stN 32 t5 t10 w fun w =>
  bi BinOp.neq t11 (Value.int IntKind.i64 0) fun t13 =>
  jn1 (fun k0 =>
  gif t13 false
  (ldN 34 t2 w.heap fun t15 =>
  cal P f_ref03_Check [t15] w fun t16 w =>
  bi BinOp.neq t16 (Value.int IntKind.i64 0) fun t17 =>
  k0 t17 w)
  (k0 undef w)) fun _ t17_1 w =>
  pik t13 (Value.bool true) t17_1 fun t18 =>
  cnd t18
  (R (Value.int IntKind.i64 30) w)
  (fad 32 t2 fun t19 =>
  ld1 t19 w.heap fun t20 =>
  bi BinOp.lss t20 (Value.int IntKind.i64 1) fun t21 =>
  jn1 (fun k1 =>
  gif t21 false
  (fad 0 t2 fun t23 =>
  ldN 32 t23 w.heap fun t24 =>
  ldN 32 t5 w.heap fun t25 =>
  rdP P (eqS BinOp.neq T_api_ID (Operand.tmp 24) (Operand.tmp 25) t24 t25) w fun t26 =>
  k1 t26 w)
  (k1 undef w)) fun _ t26_1 w =>
  pik t21 (Value.bool true) t26_1 fun t27 =>
  jn1 (fun k2 =>
  gif t27 false
  (fad 32 t2 fun t29 =>
  ld1 t29 w.heap fun t30 =>
  bi BinOp.sub t30 (Value.int IntKind.i64 1) fun t31 =>
  fad 32 t3 fun t32 =>
  ld1 t32 w.heap fun t33 =>
  bi BinOp.neq t31 t33 fun t34 =>
  k2 t34 w)
  (k2 undef w)) fun _ t34_1 w =>
  pik t27 (Value.bool true) t34_1 fun t35 =>
  cnd t35
  (R (Value.int IntKind.i64 31) w)
  (R (Value.int IntKind.i64 0) w))
theorem e_ref03_Linked (t0 t1 : Value) (w : World) (R : Value → World → Prop) : intp P A_ref03_Linked (bodyOf Tryz.f15) (ini [t0, t1]) w (retK P Tryz.f15.results.toList R) (fun _ _ _ => False) (retK P Tryz.f15.results.toList R) = c_ref03_Linked t0 t1 w R := by kernel_rfl
theorem k_ref03_Linked : chk P Tryz.f15.ntmps A_ref03_Linked (bodyOf Tryz.f15) = true := by kernel_rfl
theorem l_ref03_Linked {t0 t1 : Value} {w : World} {R : Value → World → Prop} (h : c_ref03_Linked t0 t1 w R) : cal P f_ref03_Linked [t0, t1] w R :=
  calls_of mixed Tryz.func15 rfl (by kernel_rfl) k_ref03_Linked (Eq.mpr (e_ref03_Linked t0 t1 w R) h)
theorem s_ref03_Linked {t0 t1 : Value} {w : World} {Q : Value → World → Prop} (h : ∀ R : Value → World → Prop, (∀ v w', Q v w' → R v w') → c_ref03_Linked t0 t1 w R) : cal P f_ref03_Linked [t0, t1] w Q := l_ref03_Linked (h Q fun _ _ h => h)

/-- flurry/flurryref09.Size -/
def A_ref09_Size : An := (An.s (An.r []) (An.s (An.r []) (An.s (An.r []) An.o)))
def c_ref09_Size (t0 : Value) (w : World) (R : Value → World → Prop) : Prop :=
  bx T_api_Block t0 w fun t1 w =>
  ldN 34 t1 w.heap fun t6 =>
  cal P f_ref09_Bytes [t6] w fun t7 w =>
  ext 0 t7 fun t8 =>
  ext 1 t7 fun t9 =>
  lenS t8 fun t11 =>
  R t11 w
theorem e_ref09_Size (t0 : Value) (w : World) (R : Value → World → Prop) : intp P A_ref09_Size (bodyOf Tryz.f17) (ini [t0]) w (retK P Tryz.f17.results.toList R) (fun _ _ _ => False) (retK P Tryz.f17.results.toList R) = c_ref09_Size t0 w R := by kernel_rfl
theorem k_ref09_Size : chk P Tryz.f17.ntmps A_ref09_Size (bodyOf Tryz.f17) = true := by kernel_rfl
theorem l_ref09_Size {t0 : Value} {w : World} {R : Value → World → Prop} (h : c_ref09_Size t0 w R) : cal P f_ref09_Size [t0] w R :=
  calls_of mixed Tryz.func17 rfl (by kernel_rfl) k_ref09_Size (Eq.mpr (e_ref09_Size t0 w R) h)
theorem s_ref09_Size {t0 : Value} {w : World} {Q : Value → World → Prop} (h : ∀ R : Value → World → Prop, (∀ v w', Q v w' → R v w') → c_ref09_Size t0 w R) : cal P f_ref09_Size [t0] w Q := l_ref09_Size (h Q fun _ _ h => h)

/-- bytes.Equal -/
def A_bytes_Equal : An := (An.s (An.r []) (An.s (An.r []) An.o))
def c_bytes_Equal (t0 t1 : Value) (w : World) (R : Value → World → Prop) : Prop :=
  rdP P (convert T_sl_uint8 T_string t0) w fun t6 =>
  rdP P (convert T_sl_uint8 T_string t1) w fun t8 =>
  rdP P (eqS BinOp.eql T_string (Operand.tmp 6) (Operand.tmp 8) t6 t8) w fun t9 =>
  R t9 w
theorem e_bytes_Equal (t0 t1 : Value) (w : World) (R : Value → World → Prop) : intp P A_bytes_Equal (bodyOf Tryz.f18) (ini [t0, t1]) w (retK P Tryz.f18.results.toList R) (fun _ _ _ => False) (retK P Tryz.f18.results.toList R) = c_bytes_Equal t0 t1 w R := by kernel_rfl
theorem k_bytes_Equal : chk P Tryz.f18.ntmps A_bytes_Equal (bodyOf Tryz.f18) = true := by kernel_rfl
theorem l_bytes_Equal {t0 t1 : Value} {w : World} {R : Value → World → Prop} (h : c_bytes_Equal t0 t1 w R) : cal P f_bytes_Equal [t0, t1] w R :=
  calls_of mixed Tryz.func18 rfl (by kernel_rfl) k_bytes_Equal (Eq.mpr (e_bytes_Equal t0 t1 w R) h)
theorem s_bytes_Equal {t0 t1 : Value} {w : World} {Q : Value → World → Prop} (h : ∀ R : Value → World → Prop, (∀ v w', Q v w' → R v w') → c_bytes_Equal t0 t1 w R) : cal P f_bytes_Equal [t0, t1] w Q := l_bytes_Equal (h Q fun _ _ h => h)

/-- (*flurry/chain.Chain).Last -/
def A_chain_Chain_Last : An := (An.s (An.r []) (An.s (An.s (An.r []) (An.s (An.s (An.r []) An.o) An.o)) (An.s (An.dc [0, 1, 2, 3, 4, 5, 6, 7, 8, 9, 10, 11, 12, 13, 14, 15, 16] [15] []) An.o)))
def c_chain_Chain_Last (t0 : Value) (w : World) (R : Value → World → Prop) : Prop :=
  efP P (Instr.alloc T_api_ID true (.tuple #[])) w fun t2 w =>
  cal P f_chain_Chain_none [t0] w fun t5 w =>
  cnd t5
  (rdP P (Instr.build T_api_ID #[]) w fun t6 =>
  stN 32 t2 t6 w fun w =>
  ldN 32 t2 w.heap fun r0 =>
  R (Value.tuple #[r0, (Value.int IntKind.i64 0)]) w)
  (drH w fun S w =>
  nilc t0 fun t8 =>
  fad 2 t8 fun t9 =>
  rdS S (fun w => ld1 t9 w.heap) fun t10 =>
  nilc t0 fun t12 =>
  fad 2 t12 fun t13 =>
  rdS S (fun w => ld1 t13 w.heap) fun t14 =>
  lenS t14 fun t15 =>
  bi BinOp.sub t15 (Value.int IntKind.i64 1) fun t16 =>
  ixs 32 t10 t16 fun t17 =>
  rdS S (fun w => ldN 32 t17 w.heap) fun t18 =>
  efS S (cal P f_chain_Chain_last [t0]) w fun t20 w =>
  fldv 32 1 false t20 fun t21 =>
  efC (fun w K => stN 32 t2 t18 w (K undef)) w fun S _ w =>
  ldN 32 t2 w.heap fun r1 =>
  R (Value.tuple #[r1, t21]) w)
theorem e_chain_Chain_Last (t0 : Value) (w : World) (R : Value → World → Prop) : intp P A_chain_Chain_Last (bodyOf Tryz.f19) (ini [t0]) w (retK P Tryz.f19.results.toList R) (fun _ _ _ => False) (retK P Tryz.f19.results.toList R) = c_chain_Chain_Last t0 w R := by kernel_rfl
theorem k_chain_Chain_Last : chk P Tryz.f19.ntmps A_chain_Chain_Last (bodyOf Tryz.f19) = true := by kernel_rfl
theorem l_chain_Chain_Last {t0 : Value} {w : World} {R : Value → World → Prop} (h : c_chain_Chain_Last t0 w R) : cal P f_chain_Chain_Last [t0] w R :=
  calls_of mixed Tryz.func19 rfl (by kernel_rfl) k_chain_Chain_Last (Eq.mpr (e_chain_Chain_Last t0 w R) h)
theorem s_chain_Chain_Last {t0 : Value} {w : World} {Q : Value → World → Prop} (h : ∀ R : Value → World → Prop, (∀ v w', Q v w' → R v w') → c_chain_Chain_Last t0 w R) : cal P f_chain_Chain_Last [t0] w Q := l_chain_Chain_Last (h Q fun _ _ h => h)

/-- flurry/flurryref08.Of -/
def A_ref08_Of : An := (An.s (An.r []) (An.s (An.s (An.r []) (An.s (An.s (An.r []) An.o) An.o)) (An.s (An.r []) An.o)))
def c_ref08_Of (t0 : Value) (w : World) (R : Value → World → Prop) : Prop :=
  lenS t0 fun t5 =>
  bi BinOp.gtr t5 (Value.int IntKind.i64 262144) fun t6 =>
  cnd t6
  (R (Value.tuple #[(Value.pointer none), (Value.int IntKind.i64 3)]) w)
  (efP P (Builtin.append_ #[T_sl_uint8, T_sl_uint8] T_sl_uint8 #[(Value.slice none 0 0), t0]) w fun t8 w =>
  rdP P (Instr.build T_flurryref08_Tape #[(0, t8), (2, (Value.int IntKind.i64 (-1)))]) w fun t9 =>
  bx T_flurryref08_Tape t9 w fun t10 w =>
  R (Value.tuple #[t10, (Value.int IntKind.i64 0)]) w)
theorem e_ref08_Of (t0 : Value) (w : World) (R : Value → World → Prop) : intp P A_ref08_Of (bodyOf Tryz.f20) (ini [t0]) w (retK P Tryz.f20.results.toList R) (fun _ _ _ => False) (retK P Tryz.f20.results.toList R) = c_ref08_Of t0 w R := by kernel_rfl
theorem k_ref08_Of : chk P Tryz.f20.ntmps A_ref08_Of (bodyOf Tryz.f20) = true := by kernel_rfl
theorem l_ref08_Of {t0 : Value} {w : World} {R : Value → World → Prop} (h : c_ref08_Of t0 w R) : cal P f_ref08_Of [t0] w R :=
  calls_of mixed Tryz.func20 rfl (by kernel_rfl) k_ref08_Of (Eq.mpr (e_ref08_Of t0 w R) h)
theorem s_ref08_Of {t0 : Value} {w : World} {Q : Value → World → Prop} (h : ∀ R : Value → World → Prop, (∀ v w', Q v w' → R v w') → c_ref08_Of t0 w R) : cal P f_ref08_Of [t0] w Q := l_ref08_Of (h Q fun _ _ h => h)

/-- (*flurry/tape.Tape).Crash -/
def A_tape_Tape_Crash : An := (An.s (An.r []) (An.s (An.r []) (An.s (An.s (An.r []) (An.s (An.r []) An.o)) (An.s (An.r []) An.o))))
def c_tape_Tape_Crash (t0 : Value) (w : World) (R : Value → World → Prop) : Prop :=
  cal P f_tape_Tape_may [t0] w fun t5 w =>
  bi BinOp.eql t5 (Value.int IntKind.i64 0) fun t7 =>
  cnd t7
  (cal P f_tape_Tape_goes [t0] w fun t9 w =>
  R t5 w)
  (R t5 w)
theorem e_tape_Tape_Crash (t0 : Value) (w : World) (R : Value → World → Prop) : intp P A_tape_Tape_Crash (bodyOf Tryz.f21) (ini [t0]) w (retK P Tryz.f21.results.toList R) (fun _ _ _ => False) (retK P Tryz.f21.results.toList R) = c_tape_Tape_Crash t0 w R := by kernel_rfl
theorem k_tape_Tape_Crash : chk P Tryz.f21.ntmps A_tape_Tape_Crash (bodyOf Tryz.f21) = true := by kernel_rfl
theorem l_tape_Tape_Crash {t0 : Value} {w : World} {R : Value → World → Prop} (h : c_tape_Tape_Crash t0 w R) : cal P f_tape_Tape_Crash [t0] w R :=
  calls_of mixed Tryz.func21 rfl (by kernel_rfl) k_tape_Tape_Crash (Eq.mpr (e_tape_Tape_Crash t0 w R) h)
theorem s_tape_Tape_Crash {t0 : Value} {w : World} {Q : Value → World → Prop} (h : ∀ R : Value → World → Prop, (∀ v w', Q v w' → R v w') → c_tape_Tape_Crash t0 w R) : cal P f_tape_Tape_Crash [t0] w Q := l_tape_Tape_Crash (h Q fun _ _ h => h)

/-- (*flurry/flurryref08.Tape).Crash -/
def A_ref08_Tape_Crash : An := (An.s (An.r []) (An.s (An.s (An.r []) (An.s (An.s (An.r []) An.o) An.o)) (An.s (An.r []) (An.s (An.r []) (An.s (An.r []) An.o)))))
def c_ref08_Tape_Crash (t0 : Value) (w : World) (R : Value → World → Prop) : Prop :=
  nilc t0 fun t4 =>
  fad 1 t4 fun t5 =>
  ld1 t5 w.heap fun t6 =>
  cnd t6
  (R (Value.int IntKind.i64 5) w)
  (nilc t0 fun t8 =>
  fad 1 t8 fun t9 =>
  st1 t9 (Value.bool true) w fun w =>
  nilc t0 fun t11 =>
  fad 2 t11 fun t12 =>
  st1 t12 (Value.int IntKind.i64 (-1)) w fun w =>
  R (Value.int IntKind.i64 0) w)
theorem e_ref08_Tape_Crash (t0 : Value) (w : World) (R : Value → World → Prop) : intp P A_ref08_Tape_Crash (bodyOf Tryz.f22) (ini [t0]) w (retK P Tryz.f22.results.toList R) (fun _ _ _ => False) (retK P Tryz.f22.results.toList R) = c_ref08_Tape_Crash t0 w R := by kernel_rfl
theorem k_ref08_Tape_Crash : chk P Tryz.f22.ntmps A_ref08_Tape_Crash (bodyOf Tryz.f22) = true := by kernel_rfl
theorem l_ref08_Tape_Crash {t0 : Value} {w : World} {R : Value → World → Prop} (h : c_ref08_Tape_Crash t0 w R) : cal P f_ref08_Tape_Crash [t0] w R :=
  calls_of mixed Tryz.func22 rfl (by kernel_rfl) k_ref08_Tape_Crash (Eq.mpr (e_ref08_Tape_Crash t0 w R) h)
theorem s_ref08_Tape_Crash {t0 : Value} {w : World} {Q : Value → World → Prop} (h : ∀ R : Value → World → Prop, (∀ v w', Q v w' → R v w') → c_ref08_Tape_Crash t0 w R) : cal P f_ref08_Tape_Crash [t0] w Q := l_ref08_Tape_Crash (h Q fun _ _ h => h)

/-- (*flurry/flurrylaw10.world).opens -/
def A_law10_world_opens : An := (An.s (An.r []) (An.s (An.dc [0, 1, 2, 3, 4, 5, 6, 7, 8, 9, 10] [5] []) (An.s (An.dc [0, 1, 2, 3, 4, 5, 6, 7, 8, 9, 10] [5] []) (An.s (An.s (An.r [[35], [42]]) (An.s (An.s (An.r []) An.o) An.o)) (An.s (An.j [] (An.s (An.r []) (An.s (An.r []) An.o))) (An.s (An.d [0, 1, 2, 3, 5, 6, 7, 8, 4, 9, 10, 11] [[63]]) An.o))))))
def c_law10_world_opens (t0 t1 : Value) (w : World) (R : Value → World → Prop) : Prop :=
  bx T_api_Block t1 w fun t3 w =>
  drH w fun S w =>
  nilc t0 fun t11 =>
  fad 0 t11 fun t12 =>
  rdS S (fun w => ld1 t12 w.heap) fun t13 =>
  rdS S (fun w => ldN 34 t3 w.heap) fun t14 =>
  efC (cal P f_chain_Open [t13, t14]) w fun S t15 w =>
  ext 0 t15 fun t16 =>
  ext 1 t15 fun t17 =>
  drH w fun S w =>
  nilc t0 fun t20 =>
  fad 2 t20 fun t21 =>
  rdS S (fun w => ld1 t21 w.heap) fun t22 =>
  rdS S (fun w => ldN 34 t3 w.heap) fun t23 =>
  efC (cal P f_ref10_Open [t22, t23]) w fun S t24 w =>
  ext 0 t24 fun t25 =>
  ext 1 t24 fun t26 =>
  bi BinOp.neq t17 t26 fun t29 =>
  jn1 (fun k0 =>
  gif t29 false
  (nilP false t16 fun t32 =>
  nilP false t25 fun t34 =>
  rdP P (eqS BinOp.neq T_bool (Operand.tmp 32) (Operand.tmp 34) t32 t34) w fun t35 =>
  k0 t35 w)
  (k0 undef w)) fun _ t35_1 w =>
  pik t29 (Value.bool true) t35_1 fun t36 =>
  jn1 (fun k1 =>
  gif t36 false
  (nilP false t16 fun t39 =>
  bi BinOp.neq t17 (Value.int IntKind.i64 0) fun t41 =>
  rdP P (eqS BinOp.neq T_bool (Operand.tmp 39) (Operand.tmp 41) t39 t41) w fun t42 =>
  k1 t42 w)
  (k1 undef w)) fun _ t42_1 w =>
  pik t36 (Value.bool true) t42_1 fun t43 =>
  cnd t43
  (R (Value.bool false) w)
  (jn0 (fun k2 =>
  nilP true t16 fun t45 =>
  cnd t45
  (nilc t0 fun t50 =>
  fad 1 t50 fun t51 =>
  st1 t51 t16 w fun w =>
  nilc t0 fun t52 =>
  fad 3 t52 fun t53 =>
  st1 t53 t25 w fun w =>
  k2 w)
  (k2 w)) fun _ w =>
  drH w fun S w =>
  nilP false t16 fun t55 =>
  jn1 (fun k3 =>
  gif t55 false
  (nilc t0 fun t60 =>
  fad 0 t60 fun t61 =>
  rdS S (fun w => ld1 t61 w.heap) fun t62 =>
  efS S (cal P f_chain_Chain_Tape [t16]) w fun t58 w =>
  rdS S (rdP P (eqS BinOp.eql T_p_tape_Tape (Operand.tmp 58) (Operand.tmp 62) t58 t62)) fun t63 =>
  k3 t63 w)
  (k3 undef w)) fun _ t63_1 w =>
  pik t55 (Value.bool true) t63_1 fun t64 =>
  R t64 w)
theorem e_law10_world_opens (t0 t1 : Value) (w : World) (R : Value → World → Prop) : intp P A_law10_world_opens (bodyOf Tryz.f23) (ini [t0, t1]) w (retK P Tryz.f23.results.toList R) (fun _ _ _ => False) (retK P Tryz.f23.results.toList R) = c_law10_world_opens t0 t1 w R := by kernel_rfl
theorem k_law10_world_opens : chk P Tryz.f23.ntmps A_law10_world_opens (bodyOf Tryz.f23) = true := by kernel_rfl
theorem l_law10_world_opens {t0 t1 : Value} {w : World} {R : Value → World → Prop} (h : c_law10_world_opens t0 t1 w R) : cal P f_law10_world_opens [t0, t1] w R :=
  calls_of mixed Tryz.func23 rfl (by kernel_rfl) k_law10_world_opens (Eq.mpr (e_law10_world_opens t0 t1 w R) h)
theorem s_law10_world_opens {t0 t1 : Value} {w : World} {Q : Value → World → Prop} (h : ∀ R : Value → World → Prop, (∀ v w', Q v w' → R v w') → c_law10_world_opens t0 t1 w R) : cal P f_law10_world_opens [t0, t1] w Q := l_law10_world_opens (h Q fun _ _ h => h)

/-- flurry/flurrylaw10.alike -/
def A_law10_alike : An := (An.s (An.r []) (An.s (An.r []) (An.s (An.r []) (An.s (An.r []) (An.s (An.s (An.d [0, 1, 2, 3, 4, 5, 6, 7, 8, 9, 10, 11, 12, 13, 14, 15, 16, 17, 18, 19, 22, 23, 24, 25, 26, 27, 20, 21, 28, 29, 30, 31, 33, 34, 35, 36, 37, 38, 39, 40, 41, 42, 43, 44, 32, 45, 46, 47] [[32], [42], [54], [72]]) (An.s (An.s (An.r []) An.o) An.o)) (An.s (An.s (An.r []) (An.b (An.l [79] (An.s (An.r []) (An.s (An.s An.o An.o) (An.s (An.b (An.s (An.r []) (An.s (An.r []) (An.s (An.d [0, 1, 2, 3, 4, 5, 6, 7, 8, 9, 10, 11, 12, 13, 14, 15, 16, 17, 18, 19, 20, 21, 22] [[104], [110]]) (An.s (An.s (An.r []) An.o) An.o))))) (An.r []))))))) (An.s (An.r []) An.o)))))))
def c_law10_alike (t0 t1 : Value) (w : World) (R : Value → World → Prop) : Prop :=
  cal P f_chain_Chain_Last [t0] w fun t16 w =>
  ext 0 t16 fun t17 =>
  ext 1 t16 fun t18 =>
  efP P (Instr.alloc T_api_ID true (.tuple #[])) w fun t5 w =>
  stN 32 t5 t17 w fun w =>
  cal P f_ref10_Chain_Last [t1] w fun t21 w =>
  ext 0 t21 fun t22 =>
  ext 1 t21 fun t23 =>
  efP P (Instr.alloc T_api_ID true (.tuple #[])) w fun t7 w =>
  stN 32 t7 t22 w fun w =>
  cal P f_law10_told [t0, (Value.int IntKind.i64 1048576)] w fun t25 w =>
  drH w fun S w =>
  rdS S (fun w => ldN 32 t5 w.heap) fun t26 =>
  rdS S (fun w => ldN 32 t7 w.heap) fun t27 =>
  rdS S (rdP P (eqS BinOp.neq T_api_ID (Operand.tmp 26) (Operand.tmp 27) t26 t27)) fun t28 =>
  jn1 (fun k0 =>
  gif t28 false
  (bi BinOp.neq t18 t23 fun t32 =>
  k0 t32 w)
  (k0 undef w)) fun _ t32_1 w =>
  pik t28 (Value.bool true) t32_1 fun t33 =>
  jn1 (fun k1 =>
  gif t33 false
  (lenS t25 fun t36 =>
  nilc t1 fun t38 =>
  fad 1 t38 fun t39 =>
  rdS S (fun w => ld1 t39 w.heap) fun t40 =>
  lenS t40 fun t41 =>
  bi BinOp.neq t36 t41 fun t42 =>
  k1 t42 w)
  (k1 undef w)) fun _ t42_1 w =>
  pik t33 (Value.bool true) t42_1 fun t43 =>
  jn1 (fun k2 =>
  gif t43 false
  (nilc t1 fun t49 =>
  fad 1 t49 fun t50 =>
  rdS S (fun w => ld1 t50 w.heap) fun t51 =>
  lenS t51 fun t52 =>
  rdS S (rdP P (Builtin.min_ #[T_int, T_int] T_int #[(Value.int IntKind.i64 1), t52])) fun t53 =>
  efS S (cal P f_law10_told [t0, (Value.int IntKind.i64 1)]) w fun t46 w =>
  lenS t46 fun t47 =>
  bi BinOp.neq t47 t53 fun t54 =>
  k2 t54 w)
  (k2 undef w)) fun _ t54_1 w =>
  pik t43 (Value.bool true) t54_1 fun t55 =>
  jn1 (fun k3 =>
  gif t55 false
  (nilc t1 fun t60 =>
  fad 1 t60 fun t61 =>
  rdS S (fun w => ld1 t61 w.heap) fun t62 =>
  nilc t1 fun t64 =>
  fad 1 t64 fun t65 =>
  rdS S (fun w => ld1 t65 w.heap) fun t66 =>
  lenS t66 fun t67 =>
  bi BinOp.sub t67 (Value.int IntKind.i64 1) fun t68 =>
  ixs 34 t62 t68 fun t69 =>
  rdS S (fun w => ldN 34 t69 w.heap) fun t70 =>
  efS S (cal P f_chain_Chain_Block [t0]) w fun t58 w =>
  efS S (cal P f_ref03_Same [t58, t70]) w fun t71 w =>
  notB t71 fun t72 =>
  k3 t72 w)
  (k3 undef w)) fun _ t72_1 w =>
  pik t55 (Value.bool true) t72_1 fun t73 =>
  cnd t73
  (R (Value.bool false) w)
  (nilc t1 fun t75 =>
  fad 1 t75 fun t76 =>
  ld1 t76 w.heap fun t77 =>
  lenS t77 fun t78 =>
  lp1 (Value.int IntKind.i64 0) w fun _ t79 w again4 =>
  bi BinOp.lss t79 t78 fun t80 =>
  cnd t80
  (ixs 34 t77 t79 fun t82 =>
  ldN 34 t82 w.heap fun t83 =>
  efP P (Instr.alloc T_api_Block true (.tuple #[])) w fun t11 w =>
  stN 34 t11 t83 w fun w =>
  ldN 34 t11 w.heap fun t85 =>
  cal P f_ref03_ID [t85] w fun t86 w =>
  ext 0 t86 fun t87 =>
  ext 1 t86 fun t88 =>
  efP P (Instr.alloc T_api_ID true (.tuple #[])) w fun t12 w =>
  stN 32 t12 t87 w fun w =>
  drH w fun S w =>
  ixs 66 t25 t79 fun t91 =>
  fad 0 t91 fun t92 =>
  rdS S (fun w => ldN 32 t92 w.heap) fun t93 =>
  rdS S (fun w => ldN 32 t12 w.heap) fun t94 =>
  rdS S (rdP P (eqS BinOp.neq T_api_ID (Operand.tmp 93) (Operand.tmp 94) t93 t94)) fun t95 =>
  jn1 (fun k5 =>
  gif t95 false
  (ixs 66 t25 t79 fun t99 =>
  fad 32 t99 fun t100 =>
  rdS S (fun w => ldN 34 t100 w.heap) fun t101 =>
  rdS S (fun w => ldN 34 t11 w.heap) fun t102 =>
  efS S (cal P f_ref03_Same [t101, t102]) w fun t103 w =>
  notB t103 fun t104 =>
  k5 t104 w)
  (k5 undef w)) fun _ t104_1 w =>
  pik t95 (Value.bool true) t104_1 fun t105 =>
  jn1 (fun k6 =>
  gif t105 false
  (rdS S (fun w => ldN 32 t12 w.heap) fun t108 =>
  efS S (cal P f_chain_Chain_Has [t0, t108]) w fun t109 w =>
  notB t109 fun t110 =>
  k6 t110 w)
  (k6 undef w)) fun _ t110_1 w =>
  pik t105 (Value.bool true) t110_1 fun t111 =>
  cnd t111
  (R (Value.bool false) w)
  (bi BinOp.add t79 (Value.int IntKind.i64 1) fun t112 =>
  again4 t112 w))
  (R (Value.bool true) w))
theorem e_law10_alike (t0 t1 : Value) (w : World) (R : Value → World → Prop) : intp P A_law10_alike (bodyOf Tryz.f24) (ini [t0, t1]) w (retK P Tryz.f24.results.toList R) (fun _ _ _ => False) (retK P Tryz.f24.results.toList R) = c_law10_alike t0 t1 w R := by kernel_rfl
theorem k_law10_alike : chk P Tryz.f24.ntmps A_law10_alike (bodyOf Tryz.f24) = true := by kernel_rfl
theorem l_law10_alike {t0 t1 : Value} {w : World} {R : Value → World → Prop} (h : c_law10_alike t0 t1 w R) : cal P f_law10_alike [t0, t1] w R :=
  calls_of mixed Tryz.func24 rfl (by kernel_rfl) k_law10_alike (Eq.mpr (e_law10_alike t0 t1 w R) h)
theorem s_law10_alike {t0 t1 : Value} {w : World} {Q : Value → World → Prop} (h : ∀ R : Value → World → Prop, (∀ v w', Q v w' → R v w') → c_law10_alike t0 t1 w R) : cal P f_law10_alike [t0, t1] w Q := l_law10_alike (h Q fun _ _ h => h)

/-- (*flurry/chain.Chain).Accept -/
def A_chain_Chain_Accept : An := (An.s (An.r []) (An.s (An.s (An.r []) (An.s (An.r []) (An.s (An.s (An.r []) An.o) An.o))) (An.s (An.s (An.r []) (An.s (An.s (An.r []) An.o) An.o)) (An.s (An.s (An.dc [0, 1, 2, 3, 4] [3] []) (An.s (An.r []) (An.s (An.s (An.r []) An.o) An.o))) (An.s (An.r []) (An.s (An.s (An.r []) (An.s (An.s (An.r []) An.o) An.o)) (An.s (An.r []) (An.s (An.s (An.r []) (An.b (An.s (An.r []) (An.s (An.r []) (An.s (An.r []) (An.s (An.r []) An.o)))))) (An.s (An.r []) An.o)))))))))
def c_chain_Chain_Accept (t0 t1 : Value) (w : World) (R : Value → World → Prop) : Prop :=
  bx T_api_Block t1 w fun t3 w =>
  cal P f_chain_Chain_may [t0] w fun t10 w =>
  bi BinOp.neq t10 (Value.int IntKind.i64 0) fun t12 =>
  cnd t12
  (R t10 w)
  (nilc t0 fun t15 =>
  fad 0 t15 fun t16 =>
  ld1 t16 w.heap fun t17 =>
  nilc t17 fun t18 =>
  fad 0 t18 fun t19 =>
  ld1 t19 w.heap fun t20 =>
  cal P f_tape_Tape_On [t20] w fun t21 w =>
  notB t21 fun t22 =>
  cnd t22
  (R (Value.int IntKind.i64 5) w)
  (drH w fun S w =>
  rdS S (fun w => ldN 34 t3 w.heap) fun t23 =>
  efS S (cal P f_chain_Chain_last [t0]) w fun t25 w =>
  efC (cal P f_block_Linked [t23, t25]) w fun S t26 w =>
  bi BinOp.neq t26 (Value.int IntKind.i64 0) fun t28 =>
  cnd t28
  (R t26 w)
  (ldN 34 t3 w.heap fun t31 =>
  cal P f_rec_Bytes [t31] w fun t32 w =>
  ext 0 t32 fun t33 =>
  ext 1 t32 fun t34 =>
  bi BinOp.neq t34 (Value.int IntKind.i64 0) fun t36 =>
  cnd t36
  (R t34 w)
  (nilc t0 fun t39 =>
  fad 0 t39 fun t40 =>
  ld1 t40 w.heap fun t41 =>
  nilc t41 fun t42 =>
  fad 0 t42 fun t43 =>
  ld1 t43 w.heap fun t44 =>
  efP P (Instr.buildSlice T_sl_sl_uint8 1 #[(0, t33)]) w fun t46 w =>
  cal P f_tape_Tape_Append [t44, t46] w fun t47 w =>
  bi BinOp.eql t47 (Value.int IntKind.i64 0) fun t50 =>
  cnd t50
  (ldN 34 t3 w.heap fun t52 =>
  cal P f_chain_Chain_add [t0, t52] w fun t53 w =>
  R t47 w)
  (bi BinOp.eql t47 (Value.int IntKind.i64 5) fun t55 =>
  cnd t55
  (nilc t0 fun t57 =>
  fad 4 t57 fun t58 =>
  st1 t58 (Value.bool true) w fun w =>
  R t47 w)
  (R t47 w))))))
theorem e_chain_Chain_Accept (t0 t1 : Value) (w : World) (R : Value → World → Prop) : intp P A_chain_Chain_Accept (bodyOf Tryz.f27) (ini [t0, t1]) w (retK P Tryz.f27.results.toList R) (fun _ _ _ => False) (retK P Tryz.f27.results.toList R) = c_chain_Chain_Accept t0 t1 w R := by kernel_rfl
theorem k_chain_Chain_Accept : chk P Tryz.f27.ntmps A_chain_Chain_Accept (bodyOf Tryz.f27) = true := by kernel_rfl
theorem l_chain_Chain_Accept {t0 t1 : Value} {w : World} {R : Value → World → Prop} (h : c_chain_Chain_Accept t0 t1 w R) : cal P f_chain_Chain_Accept [t0, t1] w R :=
  calls_of mixed Tryz.func27 rfl (by kernel_rfl) k_chain_Chain_Accept (Eq.mpr (e_chain_Chain_Accept t0 t1 w R) h)
theorem s_chain_Chain_Accept {t0 t1 : Value} {w : World} {Q : Value → World → Prop} (h : ∀ R : Value → World → Prop, (∀ v w', Q v w' → R v w') → c_chain_Chain_Accept t0 t1 w R) : cal P f_chain_Chain_Accept [t0, t1] w Q := l_chain_Chain_Accept (h Q fun _ _ h => h)

/-- (*flurry/chain.Chain).Has -/
def A_chain_Chain_Has : An := (An.s (An.r []) (An.s (An.s (An.r []) (An.s (An.s (An.r []) An.o) An.o)) (An.s (An.r []) (An.s (An.r []) An.o))))
def c_chain_Chain_Has (t0 t1 : Value) (w : World) (R : Value → World → Prop) : Prop :=
  bx T_api_ID t1 w fun t3 w =>
  cal P f_chain_Chain_none [t0] w fun t8 w =>
  cnd t8
  (R (Value.bool false) w)
  (drw w fun w =>
  nilc t0 fun t11 =>
  fad 3 t11 fun t12 =>
  ld1 t12 w.heap fun t13 =>
  ldN 32 t3 w.heap fun t14 =>
  rdP P (Instr.lookup T_map_api_ID_int t13 t14 true) w fun t15 =>
  ext 0 t15 fun t16 =>
  ext 1 t15 fun t17 =>
  R t17 w)
theorem e_chain_Chain_Has (t0 t1 : Value) (w : World) (R : Value → World → Prop) : intp P A_chain_Chain_Has (bodyOf Tryz.f28) (ini [t0, t1]) w (retK P Tryz.f28.results.toList R) (fun _ _ _ => False) (retK P Tryz.f28.results.toList R) = c_chain_Chain_Has t0 t1 w R := by kernel_rfl
theorem k_chain_Chain_Has : chk P Tryz.f28.ntmps A_chain_Chain_Has (bodyOf Tryz.f28) = true := by kernel_rfl
theorem l_chain_Chain_Has {t0 t1 : Value} {w : World} {R : Value → World → Prop} (h : c_chain_Chain_Has t0 t1 w R) : cal P f_chain_Chain_Has [t0, t1] w R :=
  calls_of mixed Tryz.func28 rfl (by kernel_rfl) k_chain_Chain_Has (Eq.mpr (e_chain_Chain_Has t0 t1 w R) h)
theorem s_chain_Chain_Has {t0 t1 : Value} {w : World} {Q : Value → World → Prop} (h : ∀ R : Value → World → Prop, (∀ v w', Q v w' → R v w') → c_chain_Chain_Has t0 t1 w R) : cal P f_chain_Chain_Has [t0, t1] w Q := l_chain_Chain_Has (h Q fun _ _ h => h)

/-- (*flurry/chain.Chain).Tape -/
def A_chain_Chain_Tape : An := (An.s (An.r []) (An.s (An.s (An.r []) (An.s (An.s (An.r []) An.o) An.o)) (An.s (An.r []) An.o)))
def c_chain_Chain_Tape (t0 : Value) (w : World) (R : Value → World → Prop) : Prop :=
  cal P f_chain_Chain_none [t0] w fun t4 w =>
  cnd t4
  (R (Value.pointer none) w)
  (nilc t0 fun t6 =>
  fad 0 t6 fun t7 =>
  ld1 t7 w.heap fun t8 =>
  nilc t8 fun t9 =>
  fad 0 t9 fun t10 =>
  ld1 t10 w.heap fun t11 =>
  R t11 w)
theorem e_chain_Chain_Tape (t0 : Value) (w : World) (R : Value → World → Prop) : intp P A_chain_Chain_Tape (bodyOf Tryz.f29) (ini [t0]) w (retK P Tryz.f29.results.toList R) (fun _ _ _ => False) (retK P Tryz.f29.results.toList R) = c_chain_Chain_Tape t0 w R := by kernel_rfl
theorem k_chain_Chain_Tape : chk P Tryz.f29.ntmps A_chain_Chain_Tape (bodyOf Tryz.f29) = true := by kernel_rfl
theorem l_chain_Chain_Tape {t0 : Value} {w : World} {R : Value → World → Prop} (h : c_chain_Chain_Tape t0 w R) : cal P f_chain_Chain_Tape [t0] w R :=
  calls_of mixed Tryz.func29 rfl (by kernel_rfl) k_chain_Chain_Tape (Eq.mpr (e_chain_Chain_Tape t0 w R) h)
theorem s_chain_Chain_Tape {t0 : Value} {w : World} {Q : Value → World → Prop} (h : ∀ R : Value → World → Prop, (∀ v w', Q v w' → R v w') → c_chain_Chain_Tape t0 w R) : cal P f_chain_Chain_Tape [t0] w Q := l_chain_Chain_Tape (h Q fun _ _ h => h)

/-- (*flurry/chain.Chain).Block -/
def A_chain_Chain_Block : An := (An.s (An.r []) (An.s (An.s (An.r []) (An.s (An.s (An.r []) An.o) An.o)) (An.s (An.r []) An.o)))
def c_chain_Chain_Block (t0 : Value) (w : World) (R : Value → World → Prop) : Prop :=
  efP P (Instr.alloc T_api_Block true (.tuple #[])) w fun t2 w =>
  cal P f_chain_Chain_none [t0] w fun t4 w =>
  cnd t4
  (rdP P (Instr.build T_api_Block #[]) w fun t5 =>
  stN 34 t2 t5 w fun w =>
  ldN 34 t2 w.heap fun r0 =>
  R r0 w)
  (cal P f_chain_Chain_last [t0] w fun t7 w =>
  cal P f_block_Clone [t7] w fun t8 w =>
  stN 34 t2 t8 w fun w =>
  ldN 34 t2 w.heap fun r1 =>
  R r1 w)
theorem e_chain_Chain_Block (t0 : Value) (w : World) (R : Value → World → Prop) : intp P A_chain_Chain_Block (bodyOf Tryz.f30) (ini [t0]) w (retK P Tryz.f30.results.toList R) (fun _ _ _ => False) (retK P Tryz.f30.results.toList R) = c_chain_Chain_Block t0 w R := by kernel_rfl
theorem k_chain_Chain_Block : chk P Tryz.f30.ntmps A_chain_Chain_Block (bodyOf Tryz.f30) = true := by kernel_rfl
theorem l_chain_Chain_Block {t0 : Value} {w : World} {R : Value → World → Prop} (h : c_chain_Chain_Block t0 w R) : cal P f_chain_Chain_Block [t0] w R :=
  calls_of mixed Tryz.func30 rfl (by kernel_rfl) k_chain_Chain_Block (Eq.mpr (e_chain_Chain_Block t0 w R) h)
theorem s_chain_Chain_Block {t0 : Value} {w : World} {Q : Value → World → Prop} (h : ∀ R : Value → World → Prop, (∀ v w', Q v w' → R v w') → c_chain_Chain_Block t0 w R) : cal P f_chain_Chain_Block [t0] w Q := l_chain_Chain_Block (h Q fun _ _ h => h)

/-- (*flurry/tape.Tape).On -/
def A_tape_Tape_On : An := (An.s (An.r []) (An.s (An.r []) An.o))
def c_tape_Tape_On (t0 : Value) (w : World) (R : Value → World → Prop) : Prop :=
  cal P f_tape_Tape_may [t0] w fun t4 w =>
  bi BinOp.eql t4 (Value.int IntKind.i64 0) fun t5 =>
  R t5 w
theorem e_tape_Tape_On (t0 : Value) (w : World) (R : Value → World → Prop) : intp P A_tape_Tape_On (bodyOf Tryz.f33) (ini [t0]) w (retK P Tryz.f33.results.toList R) (fun _ _ _ => False) (retK P Tryz.f33.results.toList R) = c_tape_Tape_On t0 w R := by kernel_rfl
theorem k_tape_Tape_On : chk P Tryz.f33.ntmps A_tape_Tape_On (bodyOf Tryz.f33) = true := by kernel_rfl
theorem l_tape_Tape_On {t0 : Value} {w : World} {R : Value → World → Prop} (h : c_tape_Tape_On t0 w R) : cal P f_tape_Tape_On [t0] w R :=
  calls_of mixed Tryz.func33 rfl (by kernel_rfl) k_tape_Tape_On (Eq.mpr (e_tape_Tape_On t0 w R) h)
theorem s_tape_Tape_On {t0 : Value} {w : World} {Q : Value → World → Prop} (h : ∀ R : Value → World → Prop, (∀ v w', Q v w' → R v w') → c_tape_Tape_On t0 w R) : cal P f_tape_Tape_On [t0] w Q := l_tape_Tape_On (h Q fun _ _ h => h)

/-- flurry/tape.New -/
def A_tape_New : An := (An.s (An.r []) (An.s (An.r []) An.o))
def c_tape_New (w : World) (R : Value → World → Prop) : Prop :=
  rdP P (Instr.build T_tape_Tape #[(1, (Value.int IntKind.i64 (-1))), (3, (Value.bool true))]) w fun t1 =>
  bx T_tape_Tape t1 w fun t2 w =>
  R t2 w
theorem e_tape_New (w : World) (R : Value → World → Prop) : intp P A_tape_New (bodyOf Tryz.f34) (ini []) w (retK P Tryz.f34.results.toList R) (fun _ _ _ => False) (retK P Tryz.f34.results.toList R) = c_tape_New  w R := by kernel_rfl
theorem k_tape_New : chk P Tryz.f34.ntmps A_tape_New (bodyOf Tryz.f34) = true := by kernel_rfl
theorem l_tape_New {w : World} {R : Value → World → Prop} (h : c_tape_New w R) : cal P f_tape_New [] w R :=
  calls_of mixed Tryz.func34 rfl (by kernel_rfl) k_tape_New (Eq.mpr (e_tape_New w R) h)
theorem s_tape_New {w : World} {Q : Value → World → Prop} (h : ∀ R : Value → World → Prop, (∀ v w', Q v w' → R v w') → c_tape_New w R) : cal P f_tape_New [] w Q := l_tape_New (h Q fun _ _ h => h)

/-- flurry/flurrylaw10.child -/
def A_law10_child : An := (An.s (An.r []) (An.s (An.dt (Pl.step 0 (Pl.step 1 (Pl.step 2 (Pl.step 3 (Pl.step 4 (Pl.step 5 (Pl.br (Pl.alt 6 (Pl.step 7 (Pl.step 8 (Pl.step 9 (Pl.step 10 (Pl.step 11 (Pl.step 12 Pl.nil)))))) (Pl.alt 10 (Pl.step 6 (Pl.step 7 (Pl.step 8 (Pl.step 9 (Pl.step 11 (Pl.step 12 Pl.nil)))))) Pl.non))))))))) [6, 11] [5]) (An.s (An.r []) An.o)))
def c_law10_child (t0 t1 : Value) (w : World) (R : Value → World → Prop) : Prop :=
  bx T_api_Block t0 w fun t2 w =>
  efP P (Instr.alloc T_api_Block true (.tuple #[])) w fun t4 w =>
  drH w fun S w =>
  jn1 (fun k0 =>
  rdS S (fun w => ldN 34 t2 w.heap) fun t8 =>
  lenS t1 fun t11 =>
  rdS S (rdP P (Builtin.min_ #[T_int, T_int] T_int #[t11, (Value.int IntKind.i64 200)])) fun t12 =>
  slc 1 t1 none (some t12) fun t13 =>
  (efC (cal P f_ref03_Child [t8, t13]) w fun S t14_1 w =>
  ext 0 t14_1 fun t15_1 =>
  ext 1 t14_1 fun t16_1 =>
  efS S (efP P (Instr.alloc T_api_Block true (.tuple #[]))) w fun t5_1 w =>
  efC (fun w K => stN 34 t5_1 t15_1 w (K undef)) w fun S _ w =>
  k0 t5_1 w) ∧
  ((efS S (efP P (Instr.alloc T_api_Block true (.tuple #[]))) w fun t5 w =>
  efC (cal P f_ref03_Child [t8, t13]) w fun S t14 w =>
  ext 0 t14 fun t15 =>
  ext 1 t14 fun t16 =>
  efC (fun w K => stN 34 t5 t15 w (K undef)) w fun S _ w =>
  k0 t5 w) ∧
  (True))) fun _ t5_2 w =>
  ldN 34 t5_2 w.heap fun t17 =>
  stN 34 t4 t17 w fun w =>
  ldN 34 t4 w.heap fun r1 =>
  R r1 w
theorem e_law10_child (t0 t1 : Value) (w : World) (R : Value → World → Prop) : intp P A_law10_child (bodyOf Tryz.f35) (ini [t0, t1]) w (retK P Tryz.f35.results.toList R) (fun _ _ _ => False) (retK P Tryz.f35.results.toList R) = c_law10_child t0 t1 w R := by kernel_rfl
theorem k_law10_child : chk P Tryz.f35.ntmps A_law10_child (bodyOf Tryz.f35) = true := by kernel_rfl
theorem l_law10_child {t0 t1 : Value} {w : World} {R : Value → World → Prop} (h : c_law10_child t0 t1 w R) : cal P f_law10_child [t0, t1] w R :=
  calls_of mixed Tryz.func35 rfl (by kernel_rfl) k_law10_child (Eq.mpr (e_law10_child t0 t1 w R) h)
theorem s_law10_child {t0 t1 : Value} {w : World} {Q : Value → World → Prop} (h : ∀ R : Value → World → Prop, (∀ v w', Q v w' → R v w') → c_law10_child t0 t1 w R) : cal P f_law10_child [t0, t1] w Q := l_law10_child (h Q fun _ _ h => h)

/-- (*flurry/tape.Tape).Arm -/
def A_tape_Tape_Arm : An := (An.s (An.r []) (An.s (An.s (An.r []) (An.s (An.r []) (An.s (An.s (An.r []) An.o) An.o))) (An.s (An.s (An.r []) (An.s (An.s (An.r []) An.o) An.o)) (An.s (An.r []) (An.s (An.r []) An.o)))))
def c_tape_Tape_Arm (t0 t1 : Value) (w : World) (R : Value → World → Prop) : Prop :=
  cal P f_tape_Tape_may [t0] w fun t7 w =>
  bi BinOp.neq t7 (Value.int IntKind.i64 0) fun t9 =>
  cnd t9
  (R t7 w)
  (bi BinOp.lss t1 (Value.int IntKind.i64 0) fun t12 =>
  cnd t12
  (R (Value.int IntKind.i64 1) w)
  (nilc t0 fun t15 =>
  fad 1 t15 fun t16 =>
  st1 t16 t1 w fun w =>
  R (Value.int IntKind.i64 0) w))
theorem e_tape_Tape_Arm (t0 t1 : Value) (w : World) (R : Value → World → Prop) : intp P A_tape_Tape_Arm (bodyOf Tryz.f36) (ini [t0, t1]) w (retK P Tryz.f36.results.toList R) (fun _ _ _ => False) (retK P Tryz.f36.results.toList R) = c_tape_Tape_Arm t0 t1 w R := by kernel_rfl
theorem k_tape_Tape_Arm : chk P Tryz.f36.ntmps A_tape_Tape_Arm (bodyOf Tryz.f36) = true := by kernel_rfl
theorem l_tape_Tape_Arm {t0 t1 : Value} {w : World} {R : Value → World → Prop} (h : c_tape_Tape_Arm t0 t1 w R) : cal P f_tape_Tape_Arm [t0, t1] w R :=
  calls_of mixed Tryz.func36 rfl (by kernel_rfl) k_tape_Tape_Arm (Eq.mpr (e_tape_Tape_Arm t0 t1 w R) h)
theorem s_tape_Tape_Arm {t0 t1 : Value} {w : World} {Q : Value → World → Prop} (h : ∀ R : Value → World → Prop, (∀ v w', Q v w' → R v w') → c_tape_Tape_Arm t0 t1 w R) : cal P f_tape_Tape_Arm [t0, t1] w Q := l_tape_Tape_Arm (h Q fun _ _ h => h)

/-- (*flurry/tape.Tape).Restart -/
def A_tape_Tape_Restart : An := (An.s (An.r []) (An.s (An.s (An.r []) (An.b (An.s (An.r []) (An.s (An.s (An.r []) An.o) (An.s (An.r []) (An.s (An.s (An.r []) (An.s (An.r []) An.o)) An.o)))))) (An.s (An.r []) An.o)))
def c_tape_Tape_Restart (t0 : Value) (w : World) (R : Value → World → Prop) : Prop :=
  cal P f_tape_Tape_may [t0] w fun t4 w =>
  bi BinOp.eql t4 (Value.int IntKind.i64 0) fun t6 =>
  cnd t6
  (R (Value.int IntKind.i64 7) w)
  (bi BinOp.eql t4 (Value.int IntKind.i64 5) fun t8 =>
  cnd t8
  (nilc t0 fun t10 =>
  fad 2 t10 fun t11 =>
  st1 t11 (Value.bool false) w fun w =>
  R (Value.int IntKind.i64 0) w)
  (R (Value.int IntKind.i64 2) w))
theorem e_tape_Tape_Restart (t0 : Value) (w : World) (R : Value → World → Prop) : intp P A_tape_Tape_Restart (bodyOf Tryz.f37) (ini [t0]) w (retK P Tryz.f37.results.toList R) (fun _ _ _ => False) (retK P Tryz.f37.results.toList R) = c_tape_Tape_Restart t0 w R := by kernel_rfl
theorem k_tape_Tape_Restart : chk P Tryz.f37.ntmps A_tape_Tape_Restart (bodyOf Tryz.f37) = true := by kernel_rfl
theorem l_tape_Tape_Restart {t0 : Value} {w : World} {R : Value → World → Prop} (h : c_tape_Tape_Restart t0 w R) : cal P f_tape_Tape_Restart [t0] w R :=
  calls_of mixed Tryz.func37 rfl (by kernel_rfl) k_tape_Tape_Restart (Eq.mpr (e_tape_Tape_Restart t0 w R) h)
theorem s_tape_Tape_Restart {t0 : Value} {w : World} {Q : Value → World → Prop} (h : ∀ R : Value → World → Prop, (∀ v w', Q v w' → R v w') → c_tape_Tape_Restart t0 w R) : cal P f_tape_Tape_Restart [t0] w Q := l_tape_Tape_Restart (h Q fun _ _ h => h)

/-- (*flurry/tape.Tape).Len -/
def A_tape_Tape_Len : An := (An.s (An.r []) (An.s (An.s (An.r []) (An.s (An.s (An.r []) An.o) An.o)) (An.s (An.r []) An.o)))
def c_tape_Tape_Len (t0 : Value) (w : World) (R : Value → World → Prop) : Prop :=
  cal P f_tape_Tape_may [t0] w fun t4 w =>
  bi BinOp.eql t4 (Value.int IntKind.i64 2) fun t5 =>
  cnd t5
  (R (Value.int IntKind.i64 0) w)
  (nilc t0 fun t7 =>
  fad 0 t7 fun t8 =>
  ld1 t8 w.heap fun t9 =>
  lenS t9 fun t10 =>
  R t10 w)
theorem e_tape_Tape_Len (t0 : Value) (w : World) (R : Value → World → Prop) : intp P A_tape_Tape_Len (bodyOf Tryz.f38) (ini [t0]) w (retK P Tryz.f38.results.toList R) (fun _ _ _ => False) (retK P Tryz.f38.results.toList R) = c_tape_Tape_Len t0 w R := by kernel_rfl
theorem k_tape_Tape_Len : chk P Tryz.f38.ntmps A_tape_Tape_Len (bodyOf Tryz.f38) = true := by kernel_rfl
theorem l_tape_Tape_Len {t0 : Value} {w : World} {R : Value → World → Prop} (h : c_tape_Tape_Len t0 w R) : cal P f_tape_Tape_Len [t0] w R :=
  calls_of mixed Tryz.func38 rfl (by kernel_rfl) k_tape_Tape_Len (Eq.mpr (e_tape_Tape_Len t0 w R) h)
theorem s_tape_Tape_Len {t0 : Value} {w : World} {Q : Value → World → Prop} (h : ∀ R : Value → World → Prop, (∀ v w', Q v w' → R v w') → c_tape_Tape_Len t0 w R) : cal P f_tape_Tape_Len [t0] w Q := l_tape_Tape_Len (h Q fun _ _ h => h)

/-- flurry/tape.told -/
def A_tape_told : An := (An.s (An.r []) (An.s (An.r []) (An.s (An.r []) (An.s (An.r []) An.o))))
def c_tape_told (t0 : Value) (w : World) (R : Value → World → Prop) : Prop :=
  lenS t0 fun t6 =>
  efP P (Instr.makeSlice T_sl_uint8 t6 t6) w fun t7 w =>
  efP P (Builtin.copy_ #[T_sl_uint8, T_sl_uint8] T_int #[t7, t0]) w fun t10 w =>
  rdP P (Instr.sliceAt T_sl_uint8 t7 none (some t10) (some t10)) w fun t14 =>
  R t14 w
theorem e_tape_told (t0 : Value) (w : World) (R : Value → World → Prop) : intp P A_tape_told (bodyOf Tryz.f39) (ini [t0]) w (retK P Tryz.f39.results.toList R) (fun _ _ _ => False) (retK P Tryz.f39.results.toList R) = c_tape_told t0 w R := by kernel_rfl
theorem k_tape_told : chk P Tryz.f39.ntmps A_tape_told (bodyOf Tryz.f39) = true := by kernel_rfl
theorem l_tape_told {t0 : Value} {w : World} {R : Value → World → Prop} (h : c_tape_told t0 w R) : cal P f_tape_told [t0] w R :=
  calls_of mixed Tryz.func39 rfl (by kernel_rfl) k_tape_told (Eq.mpr (e_tape_told t0 w R) h)
theorem s_tape_told {t0 : Value} {w : World} {Q : Value → World → Prop} (h : ∀ R : Value → World → Prop, (∀ v w', Q v w' → R v w') → c_tape_told t0 w R) : cal P f_tape_told [t0] w Q := l_tape_told (h Q fun _ _ h => h)

/-- (*flurry/tape.Tape).Clone -/
def A_tape_Tape_Clone : An := (An.s (An.r []) (An.s (An.s (An.r []) (An.s (An.s (An.r []) An.o) An.o)) (An.s (An.r []) (An.s (An.r []) (An.s (An.r []) An.o)))))
def c_tape_Tape_Clone (t0 : Value) (w : World) (R : Value → World → Prop) : Prop :=
  cal P f_tape_Tape_may [t0] w fun t5 w =>
  bi BinOp.eql t5 (Value.int IntKind.i64 2) fun t6 =>
  cnd t6
  (R (Value.pointer none) w)
  (nilc t0 fun t8 =>
  ldN 4 t8 w.heap fun t9 =>
  efP P (Instr.alloc T_tape_Tape true (.tuple #[])) w fun t3 w =>
  stN 4 t3 t9 w fun w =>
  nilc t0 fun t11 =>
  fad 0 t11 fun t12 =>
  ld1 t12 w.heap fun t13 =>
  cal P f_tape_told [t13] w fun t14 w =>
  fad 0 t3 fun t15 =>
  st1 t15 t14 w fun w =>
  R t3 w)
theorem e_tape_Tape_Clone (t0 : Value) (w : World) (R : Value → World → Prop) : intp P A_tape_Tape_Clone (bodyOf Tryz.f40) (ini [t0]) w (retK P Tryz.f40.results.toList R) (fun _ _ _ => False) (retK P Tryz.f40.results.toList R) = c_tape_Tape_Clone t0 w R := by kernel_rfl
theorem k_tape_Tape_Clone : chk P Tryz.f40.ntmps A_tape_Tape_Clone (bodyOf Tryz.f40) = true := by kernel_rfl
theorem l_tape_Tape_Clone {t0 : Value} {w : World} {R : Value → World → Prop} (h : c_tape_Tape_Clone t0 w R) : cal P f_tape_Tape_Clone [t0] w R :=
  calls_of mixed Tryz.func40 rfl (by kernel_rfl) k_tape_Tape_Clone (Eq.mpr (e_tape_Tape_Clone t0 w R) h)
theorem s_tape_Tape_Clone {t0 : Value} {w : World} {Q : Value → World → Prop} (h : ∀ R : Value → World → Prop, (∀ v w', Q v w' → R v w') → c_tape_Tape_Clone t0 w R) : cal P f_tape_Tape_Clone [t0] w Q := l_tape_Tape_Clone (h Q fun _ _ h => h)

/-- flurry/block.Check -/
def A_block_Check : An := (An.s (An.r []) (An.s (An.b (An.s (An.j [3] (An.s (An.r []) (An.s An.o (An.r [])))) (An.s (An.s (An.r []) An.o) (An.s (An.r [[19]]) (An.s (An.s (An.r []) An.o) An.o))))) (An.s (An.r []) An.o)))
def c_block_Check (t0 : Value) (w : World) (R : Value → World → Prop) : Prop :=
  bx T_api_Block t0 w fun t1 w =>
  jn1 (fun k0 =>
  fad 32 t1 fun t4 =>
  ld1 t4 w.heap fun t5 =>
  bi BinOp.lss t5 (Value.int IntKind.i64 0) fun t6 =>
  cnd t6
  (k0 t6 w)
  (fad 33 t1 fun t7 =>
  ld1 t7 w.heap fun t8 =>
  lenS t8 fun t9 =>
  bi BinOp.gtr t9 (Value.int IntKind.i64 200) fun t10 =>
  k0 t10 w)) fun _ t3 w =>
  cnd t3
  (R (Value.int IntKind.i64 30) w)
  (fad 32 t1 fun t12 =>
  ld1 t12 w.heap fun t13 =>
  bi BinOp.eql t13 (Value.int IntKind.i64 0) fun t14 =>
  jn1 (fun k1 =>
  gif t14 true
  (fad 0 t1 fun t16 =>
  ldN 32 t16 w.heap fun t17 =>
  rdP P (Instr.build T_api_ID #[]) w fun t18 =>
  rdP P (eqS BinOp.neq T_api_ID (Operand.tmp 17) (Operand.tmp 18) t17 t18) w fun t19 =>
  k1 t19 w)
  (k1 undef w)) fun _ t19_1 w =>
  pik t14 t19_1 (Value.bool false) fun t20 =>
  cnd t20
  (R (Value.int IntKind.i64 30) w)
  (R (Value.int IntKind.i64 0) w))
theorem e_block_Check (t0 : Value) (w : World) (R : Value → World → Prop) : intp P A_block_Check (bodyOf Tryz.f41) (ini [t0]) w (retK P Tryz.f41.results.toList R) (fun _ _ _ => False) (retK P Tryz.f41.results.toList R) = c_block_Check t0 w R := by kernel_rfl
theorem k_block_Check : chk P Tryz.f41.ntmps A_block_Check (bodyOf Tryz.f41) = true := by kernel_rfl
theorem l_block_Check {t0 : Value} {w : World} {R : Value → World → Prop} (h : c_block_Check t0 w R) : cal P f_block_Check [t0] w R :=
  calls_of mixed Tryz.func41 rfl (by kernel_rfl) k_block_Check (Eq.mpr (e_block_Check t0 w R) h)
theorem s_block_Check {t0 : Value} {w : World} {Q : Value → World → Prop} (h : ∀ R : Value → World → Prop, (∀ v w', Q v w' → R v w') → c_block_Check t0 w R) : cal P f_block_Check [t0] w Q := l_block_Check (h Q fun _ _ h => h)

/-- (*flurry/chain.Chain).add -/
def A_chain_Chain_add : An := (An.s (An.r []) (An.s (An.r []) (An.s (An.dc [0, 1, 2, 3, 4, 5, 6, 7, 8, 9, 10] [10] []) (An.dt (Pl.step 0 (Pl.step 1 (Pl.step 2 (Pl.step 3 (Pl.step 4 (Pl.step 5 (Pl.step 6 (Pl.step 10 (Pl.step 11 (Pl.step 12 (Pl.step 13 (Pl.step 14 (Pl.br (Pl.alt 7 (Pl.br (Pl.alt 8 (Pl.br (Pl.alt 9 (Pl.step 15 (Pl.step 16 (Pl.step 17 (Pl.step 18 (Pl.step 19 (Pl.step 20 (Pl.step 21 (Pl.step 22 Pl.nil)))))))) (Pl.alt 15 (Pl.step 9 (Pl.step 16 (Pl.step 17 (Pl.step 18 (Pl.step 19 (Pl.step 20 (Pl.step 21 (Pl.step 22 Pl.nil)))))))) Pl.non))) (Pl.alt 15 (Pl.step 8 (Pl.step 9 (Pl.step 16 (Pl.step 17 (Pl.step 18 (Pl.step 19 (Pl.step 20 (Pl.step 21 (Pl.step 22 Pl.nil))))))))) Pl.non))) (Pl.alt 15 (Pl.step 7 (Pl.step 8 (Pl.step 9 (Pl.step 16 (Pl.step 17 (Pl.step 18 (Pl.step 19 (Pl.step 20 (Pl.step 21 (Pl.step 22 Pl.nil)))))))))) Pl.non))))))))))))))) [16, 19, 22] []))))
def c_chain_Chain_add (t0 t1 : Value) (w : World) (R : Value → World → Prop) : Prop :=
  bx T_api_Block t1 w fun t3 w =>
  ldN 34 t3 w.heap fun t7 =>
  cal P f_block_ID [t7] w fun t8 w =>
  ext 0 t8 fun t9 =>
  ext 1 t8 fun t10 =>
  efP P (Instr.alloc T_api_ID true (.tuple #[])) w fun t4 w =>
  stN 32 t4 t9 w fun w =>
  drH w fun S w =>
  nilc t0 fun t12 =>
  fad 3 t12 fun t13 =>
  rdS S (fun w => ld1 t13 w.heap) fun t14 =>
  rdS S (fun w => ldN 32 t4 w.heap) fun t15 =>
  nilc t0 fun t17 =>
  fad 1 t17 fun t18 =>
  rdS S (fun w => ld1 t18 w.heap) fun t19 =>
  lenS t19 fun t20 =>
  efC (fun w K => efU P (Instr.mapUpdate T_map_api_ID_int t14 t15 t20) w (K undef)) w fun S _ w =>
  drH w fun S w =>
  jn0 (fun k0 =>
  nilc t0 fun t24 =>
  fad 1 t24 fun t25 =>
  rdS S (fun w => ld1 t25 w.heap) fun t26 =>
  rdS S (fun w => ldN 34 t3 w.heap) fun t27 =>
  nilc t0 fun t32 =>
  fad 2 t32 fun t33 =>
  rdS S (fun w => ld1 t33 w.heap) fun t34 =>
  rdS S (fun w => ldN 32 t4 w.heap) fun t35 =>
  (efS S (cal P f_block_Clone [t27]) w fun t28_1 w =>
  (efS S (efP P (Instr.buildSlice T_sl_api_Block 1 #[(0, t28_1)])) w fun t29_2 w =>
  (efS S (efP P (Builtin.append_ #[T_sl_api_Block, T_sl_api_Block] T_sl_api_Block #[t26, t29_2])) w fun t30_3 w =>
  efS S (efP P (Instr.buildSlice T_sl_api_ID 1 #[(0, t35)])) w fun t36_3 w =>
  efC (efP P (Builtin.append_ #[T_sl_api_ID, T_sl_api_ID] T_sl_api_ID #[t34, t36_3])) w fun S t37_3 w =>
  nilc t0 fun t38_3 =>
  fad 1 t38_3 fun t39_3 =>
  efC (fun w K => st1 t39_3 t30_3 w (K undef)) w fun S _ w =>
  nilc t0 fun t40_3 =>
  fad 2 t40_3 fun t41_3 =>
  efC (fun w K => st1 t41_3 t37_3 w (K undef)) w fun S _ w =>
  k0 w) ∧
  ((efS S (efP P (Instr.buildSlice T_sl_api_ID 1 #[(0, t35)])) w fun t36_2 w =>
  efS S (efP P (Builtin.append_ #[T_sl_api_Block, T_sl_api_Block] T_sl_api_Block #[t26, t29_2])) w fun t30_2 w =>
  efC (efP P (Builtin.append_ #[T_sl_api_ID, T_sl_api_ID] T_sl_api_ID #[t34, t36_2])) w fun S t37_2 w =>
  nilc t0 fun t38_2 =>
  fad 1 t38_2 fun t39_2 =>
  efC (fun w K => st1 t39_2 t30_2 w (K undef)) w fun S _ w =>
  nilc t0 fun t40_2 =>
  fad 2 t40_2 fun t41_2 =>
  efC (fun w K => st1 t41_2 t37_2 w (K undef)) w fun S _ w =>
  k0 w) ∧
  (True))) ∧
  ((efS S (efP P (Instr.buildSlice T_sl_api_ID 1 #[(0, t35)])) w fun t36_1 w =>
  efS S (efP P (Instr.buildSlice T_sl_api_Block 1 #[(0, t28_1)])) w fun t29_1 w =>
  efS S (efP P (Builtin.append_ #[T_sl_api_Block, T_sl_api_Block] T_sl_api_Block #[t26, t29_1])) w fun t30_1 w =>
  efC (efP P (Builtin.append_ #[T_sl_api_ID, T_sl_api_ID] T_sl_api_ID #[t34, t36_1])) w fun S t37_1 w =>
  nilc t0 fun t38_1 =>
  fad 1 t38_1 fun t39_1 =>
  efC (fun w K => st1 t39_1 t30_1 w (K undef)) w fun S _ w =>
  nilc t0 fun t40_1 =>
  fad 2 t40_1 fun t41_1 =>
  efC (fun w K => st1 t41_1 t37_1 w (K undef)) w fun S _ w =>
  k0 w) ∧
  (True))) ∧
  ((efS S (efP P (Instr.buildSlice T_sl_api_ID 1 #[(0, t35)])) w fun t36 w =>
  efS S (cal P f_block_Clone [t27]) w fun t28 w =>
  efS S (efP P (Instr.buildSlice T_sl_api_Block 1 #[(0, t28)])) w fun t29 w =>
  efS S (efP P (Builtin.append_ #[T_sl_api_Block, T_sl_api_Block] T_sl_api_Block #[t26, t29])) w fun t30 w =>
  efC (efP P (Builtin.append_ #[T_sl_api_ID, T_sl_api_ID] T_sl_api_ID #[t34, t36])) w fun S t37 w =>
  nilc t0 fun t38 =>
  fad 1 t38 fun t39 =>
  efC (fun w K => st1 t39 t30 w (K undef)) w fun S _ w =>
  nilc t0 fun t40 =>
  fad 2 t40 fun t41 =>
  efC (fun w K => st1 t41 t37 w (K undef)) w fun S _ w =>
  k0 w) ∧
  (True))) fun _ w =>
  R (Value.tuple #[]) w
theorem e_chain_Chain_add (t0 t1 : Value) (w : World) (R : Value → World → Prop) : intp P A_chain_Chain_add (bodyOf Tryz.f42) (ini [t0, t1]) w (retK P Tryz.f42.results.toList R) (fun _ _ _ => False) (retK P Tryz.f42.results.toList R) = c_chain_Chain_add t0 t1 w R := by kernel_rfl
theorem k_chain_Chain_add : chk P Tryz.f42.ntmps A_chain_Chain_add (bodyOf Tryz.f42) = true := by kernel_rfl
theorem l_chain_Chain_add {t0 t1 : Value} {w : World} {R : Value → World → Prop} (h : c_chain_Chain_add t0 t1 w R) : cal P f_chain_Chain_add [t0, t1] w R :=
  calls_of mixed Tryz.func42 rfl (by kernel_rfl) k_chain_Chain_add (Eq.mpr (e_chain_Chain_add t0 t1 w R) h)
theorem s_chain_Chain_add {t0 t1 : Value} {w : World} {Q : Value → World → Prop} (h : ∀ R : Value → World → Prop, (∀ v w', Q v w' → R v w') → c_chain_Chain_add t0 t1 w R) : cal P f_chain_Chain_add [t0, t1] w Q := l_chain_Chain_add (h Q fun _ _ h => h)

/-- flurry/rec.Scan -/
def A_rec_Scan : An := (An.s (An.r []) (An.s (An.r []) (An.s (An.s (An.r []) (An.s (An.s (An.r []) An.o) An.o)) (An.s (An.r []) An.o))))
def c_rec_Scan (t0 : Value) (w : World) (R : Value → World → Prop) : Prop :=
  cal P f_rec_scan [t0] w fun t8 w =>
  ext 0 t8 fun t9 =>
  ext 1 t8 fun t10 =>
  lenS t10 fun t12 =>
  bi BinOp.eql t12 (Value.int IntKind.i64 0) fun t13 =>
  cnd t13
  (R (Value.tuple #[(Value.slice none 0 0), (Value.int IntKind.i64 0)]) w)
  (drw w fun w =>
  lenS t10 fun t17 =>
  bi BinOp.sub t17 (Value.int IntKind.i64 1) fun t18 =>
  ixs 1 t10 t18 fun t19 =>
  ld1 t19 w.heap fun t20 =>
  R (Value.tuple #[t9, t20]) w)
theorem e_rec_Scan (t0 : Value) (w : World) (R : Value → World → Prop) : intp P A_rec_Scan (bodyOf Tryz.f43) (ini [t0]) w (retK P Tryz.f43.results.toList R) (fun _ _ _ => False) (retK P Tryz.f43.results.toList R) = c_rec_Scan t0 w R := by kernel_rfl
theorem k_rec_Scan : chk P Tryz.f43.ntmps A_rec_Scan (bodyOf Tryz.f43) = true := by kernel_rfl
theorem l_rec_Scan {t0 : Value} {w : World} {R : Value → World → Prop} (h : c_rec_Scan t0 w R) : cal P f_rec_Scan [t0] w R :=
  calls_of mixed Tryz.func43 rfl (by kernel_rfl) k_rec_Scan (Eq.mpr (e_rec_Scan t0 w R) h)
theorem s_rec_Scan {t0 : Value} {w : World} {Q : Value → World → Prop} (h : ∀ R : Value → World → Prop, (∀ v w', Q v w' → R v w') → c_rec_Scan t0 w R) : cal P f_rec_Scan [t0] w Q := l_rec_Scan (h Q fun _ _ h => h)

/-- flurry/block.Linked -/
def A_block_Linked : An := (An.s (An.r []) (An.s (An.r []) (An.s (An.b (An.s (An.r [[18]]) (An.s (An.s (An.r []) An.o) (An.s (An.r [[28], [36]]) (An.s (An.s (An.r []) An.o) An.o))))) (An.s (An.r []) An.o))))
def c_block_Linked (t0 t1 : Value) (w : World) (R : Value → World → Prop) : Prop :=
  bx T_api_Block t0 w fun t2 w =>
  bx T_api_Block t1 w fun t3 w =>
  ldN 34 t3 w.heap fun t8 =>
  cal P f_block_ID [t8] w fun t9 w =>
  ext 0 t9 fun t10 =>
  ext 1 t9 fun t11 =>
  efP P (Instr.alloc T_api_ID true (.tuple #[])) w fun t5 w =>
  stN 32 t5 t10 w fun w =>
  bi BinOp.neq t11 (Value.int IntKind.i64 0) fun t14 =>
  jn1 (fun k0 =>
  gif t14 false
  (ldN 34 t2 w.heap fun t16 =>
  cal P f_block_Check [t16] w fun t17 w =>
  bi BinOp.neq t17 (Value.int IntKind.i64 0) fun t18 =>
  k0 t18 w)
  (k0 undef w)) fun _ t18_1 w =>
  pik t14 (Value.bool true) t18_1 fun t19 =>
  cnd t19
  (R (Value.int IntKind.i64 30) w)
  (fad 0 t2 fun t21 =>
  ldN 32 t21 w.heap fun t22 =>
  ldN 32 t5 w.heap fun t23 =>
  rdP P (eqS BinOp.neq T_api_ID (Operand.tmp 22) (Operand.tmp 23) t22 t23) w fun t24 =>
  jn1 (fun k1 =>
  gif t24 false
  (fad 32 t3 fun t26 =>
  ld1 t26 w.heap fun t27 =>
  bi BinOp.eql t27 (Value.int IntKind.i64 9223372036854775807) fun t28 =>
  k1 t28 w)
  (k1 undef w)) fun _ t28_1 w =>
  pik t24 (Value.bool true) t28_1 fun t29 =>
  jn1 (fun k2 =>
  gif t29 false
  (fad 32 t2 fun t31 =>
  ld1 t31 w.heap fun t32 =>
  fad 32 t3 fun t33 =>
  ld1 t33 w.heap fun t34 =>
  bi BinOp.add t34 (Value.int IntKind.i64 1) fun t35 =>
  bi BinOp.neq t32 t35 fun t36 =>
  k2 t36 w)
  (k2 undef w)) fun _ t36_1 w =>
  pik t29 (Value.bool true) t36_1 fun t37 =>
  cnd t37
  (R (Value.int IntKind.i64 31) w)
  (R (Value.int IntKind.i64 0) w))
theorem e_block_Linked (t0 t1 : Value) (w : World) (R : Value → World → Prop) : intp P A_block_Linked (bodyOf Tryz.f44) (ini [t0, t1]) w (retK P Tryz.f44.results.toList R) (fun _ _ _ => False) (retK P Tryz.f44.results.toList R) = c_block_Linked t0 t1 w R := by kernel_rfl
theorem k_block_Linked : chk P Tryz.f44.ntmps A_block_Linked (bodyOf Tryz.f44) = true := by kernel_rfl
theorem l_block_Linked {t0 t1 : Value} {w : World} {R : Value → World → Prop} (h : c_block_Linked t0 t1 w R) : cal P f_block_Linked [t0, t1] w R :=
  calls_of mixed Tryz.func44 rfl (by kernel_rfl) k_block_Linked (Eq.mpr (e_block_Linked t0 t1 w R) h)
theorem s_block_Linked {t0 t1 : Value} {w : World} {Q : Value → World → Prop} (h : ∀ R : Value → World → Prop, (∀ v w', Q v w' → R v w') → c_block_Linked t0 t1 w R) : cal P f_block_Linked [t0, t1] w Q := l_block_Linked (h Q fun _ _ h => h)

/-- (*flurry/chain.Chain).last -/
def A_chain_Chain_last : An := (An.s (An.r []) (An.s (An.dc [0, 1, 2, 3, 4, 5, 6, 7, 8, 9, 10, 11, 12] [12] []) An.o))
def c_chain_Chain_last (t0 : Value) (w : World) (R : Value → World → Prop) : Prop :=
  efP P (Instr.alloc T_api_Block true (.tuple #[])) w fun t2 w =>
  drH w fun S w =>
  nilc t0 fun t4 =>
  fad 1 t4 fun t5 =>
  rdS S (fun w => ld1 t5 w.heap) fun t6 =>
  nilc t0 fun t8 =>
  fad 1 t8 fun t9 =>
  rdS S (fun w => ld1 t9 w.heap) fun t10 =>
  lenS t10 fun t11 =>
  bi BinOp.sub t11 (Value.int IntKind.i64 1) fun t12 =>
  ixs 34 t6 t12 fun t13 =>
  rdS S (fun w => ldN 34 t13 w.heap) fun t14 =>
  efC (fun w K => stN 34 t2 t14 w (K undef)) w fun S _ w =>
  ldN 34 t2 w.heap fun r0 =>
  R r0 w
theorem e_chain_Chain_last (t0 : Value) (w : World) (R : Value → World → Prop) : intp P A_chain_Chain_last (bodyOf Tryz.f45) (ini [t0]) w (retK P Tryz.f45.results.toList R) (fun _ _ _ => False) (retK P Tryz.f45.results.toList R) = c_chain_Chain_last t0 w R := by kernel_rfl
theorem k_chain_Chain_last : chk P Tryz.f45.ntmps A_chain_Chain_last (bodyOf Tryz.f45) = true := by kernel_rfl
theorem l_chain_Chain_last {t0 : Value} {w : World} {R : Value → World → Prop} (h : c_chain_Chain_last t0 w R) : cal P f_chain_Chain_last [t0] w R :=
  calls_of mixed Tryz.func45 rfl (by kernel_rfl) k_chain_Chain_last (Eq.mpr (e_chain_Chain_last t0 w R) h)
theorem s_chain_Chain_last {t0 : Value} {w : World} {Q : Value → World → Prop} (h : ∀ R : Value → World → Prop, (∀ v w', Q v w' → R v w') → c_chain_Chain_last t0 w R) : cal P f_chain_Chain_last [t0] w Q := l_chain_Chain_last (h Q fun _ _ h => h)

/-- flurry/rec.Size -/
def A_rec_Size : An := (An.s (An.r []) (An.s (An.s (An.r []) (An.s (An.s (An.r []) An.o) An.o)) (An.s (An.r []) An.o)))
def c_rec_Size (t0 : Value) (w : World) (R : Value → World → Prop) : Prop :=
  bx T_api_Block t0 w fun t1 w =>
  ldN 34 t1 w.heap fun t3 =>
  cal P f_block_Check [t3] w fun t4 w =>
  bi BinOp.neq t4 (Value.int IntKind.i64 0) fun t5 =>
  cnd t5
  (R (Value.int IntKind.i64 0) w)
  (fad 33 t1 fun t6 =>
  ld1 t6 w.heap fun t7 =>
  lenS t7 fun t8 =>
  bi BinOp.add (Value.int IntKind.i64 58) t8 fun t9 =>
  bi BinOp.add t9 (Value.int IntKind.i64 8) fun t10 =>
  R t10 w)
theorem e_rec_Size (t0 : Value) (w : World) (R : Value → World → Prop) : intp P A_rec_Size (bodyOf Tryz.f46) (ini [t0]) w (retK P Tryz.f46.results.toList R) (fun _ _ _ => False) (retK P Tryz.f46.results.toList R) = c_rec_Size t0 w R := by kernel_rfl
theorem k_rec_Size : chk P Tryz.f46.ntmps A_rec_Size (bodyOf Tryz.f46) = true := by kernel_rfl
theorem l_rec_Size {t0 : Value} {w : World} {R : Value → World → Prop} (h : c_rec_Size t0 w R) : cal P f_rec_Size [t0] w R :=
  calls_of mixed Tryz.func46 rfl (by kernel_rfl) k_rec_Size (Eq.mpr (e_rec_Size t0 w R) h)
theorem s_rec_Size {t0 : Value} {w : World} {Q : Value → World → Prop} (h : ∀ R : Value → World → Prop, (∀ v w', Q v w' → R v w') → c_rec_Size t0 w R) : cal P f_rec_Size [t0] w Q := l_rec_Size (h Q fun _ _ h => h)

/-- (*flurry/tape.Tape).Truncate -/
def A_tape_Tape_Truncate : An := (An.s (An.r []) (An.s (An.s (An.r []) (An.s (An.r []) (An.s (An.s (An.r []) An.o) An.o))) (An.s (An.s (An.r [[20]]) (An.s (An.s (An.r []) An.o) An.o)) (An.s (An.r []) (An.s (An.r []) An.o)))))
def c_tape_Tape_Truncate (t0 t1 : Value) (w : World) (R : Value → World → Prop) : Prop :=
  cal P f_tape_Tape_may [t0] w fun t7 w =>
  bi BinOp.neq t7 (Value.int IntKind.i64 0) fun t9 =>
  cnd t9
  (R t7 w)
  (bi BinOp.lss t1 (Value.int IntKind.i64 0) fun t12 =>
  jn1 (fun k0 =>
  gif t12 false
  (nilc t0 fun t16 =>
  fad 0 t16 fun t17 =>
  ld1 t17 w.heap fun t18 =>
  lenS t18 fun t19 =>
  bi BinOp.gtr t1 t19 fun t20 =>
  k0 t20 w)
  (k0 undef w)) fun _ t20_1 w =>
  pik t12 (Value.bool true) t20_1 fun t21 =>
  cnd t21
  (R (Value.int IntKind.i64 1) w)
  (nilc t0 fun t24 =>
  fad 0 t24 fun t25 =>
  ld1 t25 w.heap fun t26 =>
  slc 1 t26 none (some t1) fun t28 =>
  cal P f_tape_told [t28] w fun t29 w =>
  nilc t0 fun t30 =>
  fad 0 t30 fun t31 =>
  st1 t31 t29 w fun w =>
  R (Value.int IntKind.i64 0) w))
theorem e_tape_Tape_Truncate (t0 t1 : Value) (w : World) (R : Value → World → Prop) : intp P A_tape_Tape_Truncate (bodyOf Tryz.f47) (ini [t0, t1]) w (retK P Tryz.f47.results.toList R) (fun _ _ _ => False) (retK P Tryz.f47.results.toList R) = c_tape_Tape_Truncate t0 t1 w R := by kernel_rfl
theorem k_tape_Tape_Truncate : chk P Tryz.f47.ntmps A_tape_Tape_Truncate (bodyOf Tryz.f47) = true := by kernel_rfl
theorem l_tape_Tape_Truncate {t0 t1 : Value} {w : World} {R : Value → World → Prop} (h : c_tape_Tape_Truncate t0 t1 w R) : cal P f_tape_Tape_Truncate [t0, t1] w R :=
  calls_of mixed Tryz.func47 rfl (by kernel_rfl) k_tape_Tape_Truncate (Eq.mpr (e_tape_Tape_Truncate t0 t1 w R) h)
theorem s_tape_Tape_Truncate {t0 t1 : Value} {w : World} {Q : Value → World → Prop} (h : ∀ R : Value → World → Prop, (∀ v w', Q v w' → R v w') → c_tape_Tape_Truncate t0 t1 w R) : cal P f_tape_Tape_Truncate [t0, t1] w Q := l_tape_Tape_Truncate (h Q fun _ _ h => h)

/-- (*flurry/tape.Tape).may -/
def A_tape_Tape_may : An := (An.s (An.r []) (An.s (An.b (An.s (An.r [[11]]) (An.s (An.s (An.r []) An.o) (An.s (An.r []) (An.s (An.s (An.r []) An.o) An.o))))) (An.s (An.r []) An.o)))
def c_tape_Tape_may (t0 : Value) (w : World) (R : Value → World → Prop) : Prop :=
  nilP false t0 fun t5 =>
  jn1 (fun k0 =>
  gif t5 false
  (nilc t0 fun t8 =>
  fad 3 t8 fun t9 =>
  ld1 t9 w.heap fun t10 =>
  notB t10 fun t11 =>
  k0 t11 w)
  (k0 undef w)) fun _ t11_1 w =>
  pik t5 (Value.bool true) t11_1 fun t12 =>
  cnd t12
  (R (Value.int IntKind.i64 2) w)
  (nilc t0 fun t15 =>
  fad 2 t15 fun t16 =>
  ld1 t16 w.heap fun t17 =>
  cnd t17
  (R (Value.int IntKind.i64 5) w)
  (R (Value.int IntKind.i64 0) w))
theorem e_tape_Tape_may (t0 : Value) (w : World) (R : Value → World → Prop) : intp P A_tape_Tape_may (bodyOf Tryz.f48) (ini [t0]) w (retK P Tryz.f48.results.toList R) (fun _ _ _ => False) (retK P Tryz.f48.results.toList R) = c_tape_Tape_may t0 w R := by kernel_rfl
theorem k_tape_Tape_may : chk P Tryz.f48.ntmps A_tape_Tape_may (bodyOf Tryz.f48) = true := by kernel_rfl
theorem l_tape_Tape_may {t0 : Value} {w : World} {R : Value → World → Prop} (h : c_tape_Tape_may t0 w R) : cal P f_tape_Tape_may [t0] w R :=
  calls_of mixed Tryz.func48 rfl (by kernel_rfl) k_tape_Tape_may (Eq.mpr (e_tape_Tape_may t0 w R) h)
theorem s_tape_Tape_may {t0 : Value} {w : World} {Q : Value → World → Prop} (h : ∀ R : Value → World → Prop, (∀ v w', Q v w' → R v w') → c_tape_Tape_may t0 w R) : cal P f_tape_Tape_may [t0] w Q := l_tape_Tape_may (h Q fun _ _ h => h)

/-- (*flurry/chain.Chain).All -/
def A_chain_Chain_All : An := (An.s (An.r []) (An.s (An.r []) (An.s (An.r []) (An.s (An.j [] (An.s (An.r []) (An.s (An.dc [0, 1, 2, 3, 5, 6, 7, 8, 4, 9, 10, 11] [9, 10, 11] []) An.o))) (An.s (An.r []) An.o)))))
def c_chain_Chain_All (t0 : Value) (w : World) (R : Value → World → Prop) : Prop :=
  efP P (Instr.alloc T_sl_api_Block true (.tuple #[])) w fun t3 w =>
  efP P (Instr.alloc T_sl_api_ID true (.tuple #[])) w fun t4 w =>
  jn0 (fun k0 =>
  cal P f_chain_Chain_none [t0] w fun t6 w =>
  notB t6 fun t7 =>
  cnd t7
  (drH w fun S w =>
  nilc t0 fun t9 =>
  fad 1 t9 fun t10 =>
  rdS S (fun w => ld1 t10 w.heap) fun t11 =>
  nilc t0 fun t14 =>
  fad 2 t14 fun t15 =>
  rdS S (fun w => ld1 t15 w.heap) fun t16 =>
  efS S (cal P f_slices_Clone_api_Block_api_Block [t11]) w fun t12 w =>
  efC (cal P f_slices_Clone_api_ID_api_ID [t16]) w fun S t17 w =>
  efC (fun w K => st1 t3 t12 w (K undef)) w fun S _ w =>
  efC (fun w K => st1 t4 t17 w (K undef)) w fun S _ w =>
  k0 w)
  (k0 w)) fun _ w =>
  R (Value.func (Fn.func f_chain_Chain_All_1) #[] #[t3, t4]) w
theorem e_chain_Chain_All (t0 : Value) (w : World) (R : Value → World → Prop) : intp P A_chain_Chain_All (bodyOf Tryz.f49) (ini [t0]) w (retK P Tryz.f49.results.toList R) (fun _ _ _ => False) (retK P Tryz.f49.results.toList R) = c_chain_Chain_All t0 w R := by kernel_rfl
theorem k_chain_Chain_All : chk P Tryz.f49.ntmps A_chain_Chain_All (bodyOf Tryz.f49) = true := by kernel_rfl
theorem l_chain_Chain_All {t0 : Value} {w : World} {R : Value → World → Prop} (h : c_chain_Chain_All t0 w R) : cal P f_chain_Chain_All [t0] w R :=
  calls_of mixed Tryz.func49 rfl (by kernel_rfl) k_chain_Chain_All (Eq.mpr (e_chain_Chain_All t0 w R) h)
theorem s_chain_Chain_All {t0 : Value} {w : World} {Q : Value → World → Prop} (h : ∀ R : Value → World → Prop, (∀ v w', Q v w' → R v w') → c_chain_Chain_All t0 w R) : cal P f_chain_Chain_All [t0] w Q := l_chain_Chain_All (h Q fun _ _ h => h)

/-- flurry/flurryref03.ID -/
def A_ref03_ID : An := (An.s (An.r []) (An.s (An.r []) (An.s (An.s (An.r []) (An.s (An.s (An.r []) An.o) An.o)) (An.s (An.r []) An.o))))
def c_ref03_ID (t0 : Value) (w : World) (R : Value → World → Prop) : Prop :=
  bx T_api_Block t0 w fun t1 w =>
  efP P (Instr.alloc T_api_ID true (.tuple #[])) w fun t2 w =>
  ldN 34 t1 w.heap fun t7 =>
  cal P f_ref03_Bytes [t7] w fun t8 w =>
  ext 0 t8 fun t9 =>
  ext 1 t8 fun t10 =>
  bi BinOp.neq t10 (Value.int IntKind.i64 0) fun t12 =>
  cnd t12
  (rdP P (Instr.build T_api_ID #[]) w fun t13 =>
  stN 32 t2 t13 w fun w =>
  ldN 32 t2 w.heap fun r0 =>
  R (Value.tuple #[r0, t10]) w)
  (cal P f_ref02_Sum [t9] w fun t16 w =>
  stN 32 t2 t16 w fun w =>
  ldN 32 t2 w.heap fun r1 =>
  R (Value.tuple #[r1, (Value.int IntKind.i64 0)]) w)
theorem e_ref03_ID (t0 : Value) (w : World) (R : Value → World → Prop) : intp P A_ref03_ID (bodyOf Tryz.f50) (ini [t0]) w (retK P Tryz.f50.results.toList R) (fun _ _ _ => False) (retK P Tryz.f50.results.toList R) = c_ref03_ID t0 w R := by kernel_rfl
theorem k_ref03_ID : chk P Tryz.f50.ntmps A_ref03_ID (bodyOf Tryz.f50) = true := by kernel_rfl
theorem l_ref03_ID {t0 : Value} {w : World} {R : Value → World → Prop} (h : c_ref03_ID t0 w R) : cal P f_ref03_ID [t0] w R :=
  calls_of mixed Tryz.func50 rfl (by kernel_rfl) k_ref03_ID (Eq.mpr (e_ref03_ID t0 w R) h)
theorem s_ref03_ID {t0 : Value} {w : World} {Q : Value → World → Prop} (h : ∀ R : Value → World → Prop, (∀ v w', Q v w' → R v w') → c_ref03_ID t0 w R) : cal P f_ref03_ID [t0] w Q := l_ref03_ID (h Q fun _ _ h => h)

/-- flurry/flurryref03.Check -/
def A_ref03_Check : An := (An.s (An.r []) (An.s (An.s (An.r [[10], [16], [20], [21]]) (An.s (An.s (An.r []) An.o) An.o)) (An.s (An.r []) An.o)))
def c_ref03_Check (t0 : Value) (w : World) (R : Value → World → Prop) : Prop :=
  bx T_api_Block t0 w fun t1 w =>
  fad 32 t1 fun t3 =>
  ld1 t3 w.heap fun t4 =>
  bi BinOp.lss t4 (Value.int IntKind.i64 0) fun t5 =>
  jn1 (fun k0 =>
  gif t5 false
  (fad 33 t1 fun t7 =>
  ld1 t7 w.heap fun t8 =>
  lenS t8 fun t9 =>
  bi BinOp.gtr t9 (Value.int IntKind.i64 200) fun t10 =>
  k0 t10 w)
  (k0 undef w)) fun _ t10_1 w =>
  pik t5 (Value.bool true) t10_1 fun t11 =>
  jn1 (fun k1 =>
  gif t11 false
  (fad 32 t1 fun t13 =>
  ld1 t13 w.heap fun t14 =>
  bi BinOp.eql t14 (Value.int IntKind.i64 0) fun t15 =>
  k1 t15 w)
  (k1 undef w)) fun _ t16 w =>
  jn1 (fun k2 =>
  gif t16 true
  (fad 0 t1 fun t17 =>
  ldN 32 t17 w.heap fun t18 =>
  rdP P (Instr.build T_api_ID #[]) w fun t19 =>
  rdP P (eqS BinOp.neq T_api_ID (Operand.tmp 18) (Operand.tmp 19) t18 t19) w fun t20 =>
  k2 t20 w)
  (k2 undef w)) fun _ t20_1 w =>
  jn1 (fun k3 =>
  gif t11 false
  (pik t16 t20_1 (Value.bool false) fun t21 =>
  k3 t21 w)
  (k3 undef w)) fun _ t21_1 w =>
  pik t11 (Value.bool true) t21_1 fun t22 =>
  cnd t22
  (R (Value.int IntKind.i64 30) w)
  (R (Value.int IntKind.i64 0) w)
theorem e_ref03_Check (t0 : Value) (w : World) (R : Value → World → Prop) : intp P A_ref03_Check (bodyOf Tryz.f51) (ini [t0]) w (retK P Tryz.f51.results.toList R) (fun _ _ _ => False) (retK P Tryz.f51.results.toList R) = c_ref03_Check t0 w R := by kernel_rfl
theorem k_ref03_Check : chk P Tryz.f51.ntmps A_ref03_Check (bodyOf Tryz.f51) = true := by kernel_rfl
theorem l_ref03_Check {t0 : Value} {w : World} {R : Value → World → Prop} (h : c_ref03_Check t0 w R) : cal P f_ref03_Check [t0] w R :=
  calls_of mixed Tryz.func51 rfl (by kernel_rfl) k_ref03_Check (Eq.mpr (e_ref03_Check t0 w R) h)
theorem s_ref03_Check {t0 : Value} {w : World} {Q : Value → World → Prop} (h : ∀ R : Value → World → Prop, (∀ v w', Q v w' → R v w') → c_ref03_Check t0 w R) : cal P f_ref03_Check [t0] w Q := l_ref03_Check (h Q fun _ _ h => h)

/-- (*flurry/chain.Chain).may -/
def A_chain_Chain_may : An := (An.s (An.r []) (An.s (An.b (An.s (An.r []) (An.s (An.s (An.r []) An.o) (An.s (An.r []) (An.s (An.s (An.r []) An.o) An.o))))) (An.s (An.r []) An.o)))
def c_chain_Chain_may (t0 : Value) (w : World) (R : Value → World → Prop) : Prop :=
  cal P f_chain_Chain_none [t0] w fun t5 w =>
  cnd t5
  (R (Value.int IntKind.i64 2) w)
  (nilc t0 fun t8 =>
  fad 4 t8 fun t9 =>
  ld1 t9 w.heap fun t10 =>
  cnd t10
  (R (Value.int IntKind.i64 5) w)
  (R (Value.int IntKind.i64 0) w))
theorem e_chain_Chain_may (t0 : Value) (w : World) (R : Value → World → Prop) : intp P A_chain_Chain_may (bodyOf Tryz.f52) (ini [t0]) w (retK P Tryz.f52.results.toList R) (fun _ _ _ => False) (retK P Tryz.f52.results.toList R) = c_chain_Chain_may t0 w R := by kernel_rfl
theorem k_chain_Chain_may : chk P Tryz.f52.ntmps A_chain_Chain_may (bodyOf Tryz.f52) = true := by kernel_rfl
theorem l_chain_Chain_may {t0 : Value} {w : World} {R : Value → World → Prop} (h : c_chain_Chain_may t0 w R) : cal P f_chain_Chain_may [t0] w R :=
  calls_of mixed Tryz.func52 rfl (by kernel_rfl) k_chain_Chain_may (Eq.mpr (e_chain_Chain_may t0 w R) h)
theorem s_chain_Chain_may {t0 : Value} {w : World} {Q : Value → World → Prop} (h : ∀ R : Value → World → Prop, (∀ v w', Q v w' → R v w') → c_chain_Chain_may t0 w R) : cal P f_chain_Chain_may [t0] w Q := l_chain_Chain_may (h Q fun _ _ h => h)

/-- flurry/block.Clone -/
def A_block_Clone : An := (An.s (An.r []) (An.s (An.r []) (An.s (An.r []) An.o)))
def c_block_Clone (t0 : Value) (w : World) (R : Value → World → Prop) : Prop :=
  bx T_api_Block t0 w fun t1 w =>
  efP P (Instr.alloc T_api_Block true (.tuple #[])) w fun t2 w =>
  fad 33 t1 fun t3 =>
  ld1 t3 w.heap fun t4 =>
  cal P f_bytes_Clone [t4] w fun t5 w =>
  fad 33 t1 fun t6 =>
  st1 t6 t5 w fun w =>
  ldN 34 t1 w.heap fun t7 =>
  stN 34 t2 t7 w fun w =>
  ldN 34 t2 w.heap fun r0 =>
  R r0 w
theorem e_block_Clone (t0 : Value) (w : World) (R : Value → World → Prop) : intp P A_block_Clone (bodyOf Tryz.f53) (ini [t0]) w (retK P Tryz.f53.results.toList R) (fun _ _ _ => False) (retK P Tryz.f53.results.toList R) = c_block_Clone t0 w R := by kernel_rfl
theorem k_block_Clone : chk P Tryz.f53.ntmps A_block_Clone (bodyOf Tryz.f53) = true := by kernel_rfl
theorem l_block_Clone {t0 : Value} {w : World} {R : Value → World → Prop} (h : c_block_Clone t0 w R) : cal P f_block_Clone [t0] w R :=
  calls_of mixed Tryz.func53 rfl (by kernel_rfl) k_block_Clone (Eq.mpr (e_block_Clone t0 w R) h)
theorem s_block_Clone {t0 : Value} {w : World} {Q : Value → World → Prop} (h : ∀ R : Value → World → Prop, (∀ v w', Q v w' → R v w') → c_block_Clone t0 w R) : cal P f_block_Clone [t0] w Q := l_block_Clone (h Q fun _ _ h => h)

/-- flurry/flurryref09.Bytes -/
def A_ref09_Bytes : An := (An.s (An.r []) (An.s (An.r []) (An.s (An.s (An.r []) (An.s (An.s (An.r []) An.o) An.o)) (An.s (An.dc [0, 1, 2, 4, 5, 6, 3, 7, 8, 9] [7, 8] []) (An.s (An.r []) (An.s (An.r []) (An.s (An.s (An.r []) (An.b (An.l [6, 8] (An.s (An.s (An.r []) (An.s An.o An.o)) (An.s (An.b (An.r [])) (An.r [])))))) (An.s (An.r []) An.o))))))))
def c_ref09_Bytes (t0 : Value) (w : World) (R : Value → World → Prop) : Prop :=
  bx T_api_Block t0 w fun t1 w =>
  ldN 34 t1 w.heap fun t10 =>
  cal P f_ref03_Bytes [t10] w fun t11 w =>
  ext 0 t11 fun t12 =>
  ext 1 t11 fun t13 =>
  bi BinOp.neq t13 (Value.int IntKind.i64 0) fun t15 =>
  cnd t15
  (R (Value.tuple #[(Value.slice none 0 0), t13]) w)
  (drH w fun S w =>
  lenS t12 fun t18 =>
  cvi IntKind.u64 t18 fun t19 =>
  fad 32 t1 fun t21 =>
  rdS S (fun w => ld1 t21 w.heap) fun t22 =>
  cvi IntKind.u64 t22 fun t23 =>
  efS S (cal P f_ref01_Num [(Value.int IntKind.i64 4), t19]) w fun t20 w =>
  efC (cal P f_ref01_Num [(Value.int IntKind.i64 8), t23]) w fun S t24 w =>
  efC (efP P (Builtin.append_ #[T_sl_uint8, T_sl_uint8] T_sl_uint8 #[t20, t24])) w fun S t25 w =>
  efP P (Builtin.append_ #[T_sl_uint8, T_sl_uint8] T_sl_uint8 #[t25, t12]) w fun t28 w =>
  cal P f_ref02_Sum [t28] w fun t30 w =>
  efP P (Instr.alloc T_api_ID true (.tuple #[])) w fun t7 w =>
  stN 32 t7 t30 w fun w =>
  lp2 t28 (Value.int IntKind.i64 0) w fun _ t6 t8 w again0 =>
  bi BinOp.lss t8 (Value.int IntKind.i64 8) fun t32 =>
  cnd t32
  (ixa 32 1 t7 t8 fun t37 =>
  ld1 t37 w.heap fun t38 =>
  efP P (Instr.buildSlice T_sl_uint8 1 #[(0, t38)]) w fun t39 w =>
  efP P (Builtin.append_ #[T_sl_uint8, T_sl_uint8] T_sl_uint8 #[t6, t39]) w fun t40 w =>
  bi BinOp.add t8 (Value.int IntKind.i64 1) fun t34 =>
  again0 t40 t34 w)
  (R (Value.tuple #[t6, (Value.int IntKind.i64 0)]) w))
theorem e_ref09_Bytes (t0 : Value) (w : World) (R : Value → World → Prop) : intp P A_ref09_Bytes (bodyOf Tryz.f54) (ini [t0]) w (retK P Tryz.f54.results.toList R) (fun _ _ _ => False) (retK P Tryz.f54.results.toList R) = c_ref09_Bytes t0 w R := by kernel_rfl
theorem k_ref09_Bytes : chk P Tryz.f54.ntmps A_ref09_Bytes (bodyOf Tryz.f54) = true := by kernel_rfl
theorem l_ref09_Bytes {t0 : Value} {w : World} {R : Value → World → Prop} (h : c_ref09_Bytes t0 w R) : cal P f_ref09_Bytes [t0] w R :=
  calls_of mixed Tryz.func54 rfl (by kernel_rfl) k_ref09_Bytes (Eq.mpr (e_ref09_Bytes t0 w R) h)
theorem s_ref09_Bytes {t0 : Value} {w : World} {Q : Value → World → Prop} (h : ∀ R : Value → World → Prop, (∀ v w', Q v w' → R v w') → c_ref09_Bytes t0 w R) : cal P f_ref09_Bytes [t0] w Q := l_ref09_Bytes (h Q fun _ _ h => h)

/-- (*flurry/chain.Chain).none -/
def A_chain_Chain_none : An := (An.s (An.r []) (An.s (An.r [[10]]) An.o))
def c_chain_Chain_none (t0 : Value) (w : World) (R : Value → World → Prop) : Prop :=
  nilP false t0 fun t4 =>
  jn1 (fun k0 =>
  gif t4 false
  (nilc t0 fun t7 =>
  fad 0 t7 fun t8 =>
  ld1 t8 w.heap fun t9 =>
  nilP false t9 fun t10 =>
  k0 t10 w)
  (k0 undef w)) fun _ t10_1 w =>
  pik t4 (Value.bool true) t10_1 fun t11 =>
  R t11 w
theorem e_chain_Chain_none (t0 : Value) (w : World) (R : Value → World → Prop) : intp P A_chain_Chain_none (bodyOf Tryz.f55) (ini [t0]) w (retK P Tryz.f55.results.toList R) (fun _ _ _ => False) (retK P Tryz.f55.results.toList R) = c_chain_Chain_none t0 w R := by kernel_rfl
theorem k_chain_Chain_none : chk P Tryz.f55.ntmps A_chain_Chain_none (bodyOf Tryz.f55) = true := by kernel_rfl
theorem l_chain_Chain_none {t0 : Value} {w : World} {R : Value → World → Prop} (h : c_chain_Chain_none t0 w R) : cal P f_chain_Chain_none [t0] w R :=
  calls_of mixed Tryz.func55 rfl (by kernel_rfl) k_chain_Chain_none (Eq.mpr (e_chain_Chain_none t0 w R) h)
theorem s_chain_Chain_none {t0 : Value} {w : World} {Q : Value → World → Prop} (h : ∀ R : Value → World → Prop, (∀ v w', Q v w' → R v w') → c_chain_Chain_none t0 w R) : cal P f_chain_Chain_none [t0] w Q := l_chain_Chain_none (h Q fun _ _ h => h)

/-- (*flurry/tape.Tape).goes -/
def A_tape_Tape_goes : An := (An.r [])
def c_tape_Tape_goes (t0 : Value) (w : World) (R : Value → World → Prop) : Prop :=
  nilc t0 fun t4 =>
  fad 2 t4 fun t5 =>
  st1 t5 (Value.bool true) w fun w =>
  nilc t0 fun t6 =>
  fad 1 t6 fun t7 =>
  st1 t7 (Value.int IntKind.i64 (-1)) w fun w =>
  R (Value.tuple #[]) w
theorem e_tape_Tape_goes (t0 : Value) (w : World) (R : Value → World → Prop) : intp P A_tape_Tape_goes (bodyOf Tryz.f56) (ini [t0]) w (retK P Tryz.f56.results.toList R) (fun _ _ _ => False) (retK P Tryz.f56.results.toList R) = c_tape_Tape_goes t0 w R := by kernel_rfl
theorem k_tape_Tape_goes : chk P Tryz.f56.ntmps A_tape_Tape_goes (bodyOf Tryz.f56) = true := by kernel_rfl
theorem l_tape_Tape_goes {t0 : Value} {w : World} {R : Value → World → Prop} (h : c_tape_Tape_goes t0 w R) : cal P f_tape_Tape_goes [t0] w R :=
  calls_of mixed Tryz.func56 rfl (by kernel_rfl) k_tape_Tape_goes (Eq.mpr (e_tape_Tape_goes t0 w R) h)
theorem s_tape_Tape_goes {t0 : Value} {w : World} {Q : Value → World → Prop} (h : ∀ R : Value → World → Prop, (∀ v w', Q v w' → R v w') → c_tape_Tape_goes t0 w R) : cal P f_tape_Tape_goes [t0] w Q := l_tape_Tape_goes (h Q fun _ _ h => h)

/-- flurry/flurryref10.Open -/
def A_ref10_Open : An := (An.s (An.r []) (An.s (An.s (An.r []) (An.s (An.s (An.r []) An.o) An.o)) (An.s (An.s (An.r [[21]]) (An.s (An.s (An.r []) An.o) An.o)) (An.s (An.r []) (An.s (An.r []) (An.s (An.r []) (An.s (An.j [9] (An.s (An.r []) (An.b (An.l [9, 10] (An.s (An.s (An.r []) (An.s An.o An.o)) (An.s (An.b (An.s (An.s (An.dc [0, 1, 2, 3, 4, 5, 6, 7, 8, 9, 10, 11, 12, 13, 14, 15, 16, 17] [16] []) (An.s An.o An.o)) (An.s (An.dc [0, 1, 2, 3, 4, 5, 6, 7, 8, 9, 10, 11, 12, 13] [10, 13] []) (An.r [])))) (An.r []))))))) (An.s (An.s (An.r []) (An.s (An.r []) An.o)) (An.s (An.r []) An.o)))))))))
def c_ref10_Open (t0 t1 : Value) (w : World) (R : Value → World → Prop) : Prop :=
  bx T_api_Block t1 w fun t3 w =>
  nilc t0 fun t12 =>
  fad 1 t12 fun t13 =>
  ld1 t13 w.heap fun t14 =>
  cnd t14
  (R (Value.tuple #[(Value.pointer none), (Value.int IntKind.i64 5)]) w)
  (ldN 34 t3 w.heap fun t15 =>
  cal P f_ref03_Check [t15] w fun t16 w =>
  bi BinOp.neq t16 (Value.int IntKind.i64 0) fun t17 =>
  jn1 (fun k0 =>
  gif t17 false
  (fad 32 t3 fun t19 =>
  ld1 t19 w.heap fun t20 =>
  bi BinOp.neq t20 (Value.int IntKind.i64 0) fun t21 =>
  k0 t21 w)
  (k0 undef w)) fun _ t21_1 w =>
  pik t17 (Value.bool true) t21_1 fun t22 =>
  cnd t22
  (R (Value.tuple #[(Value.pointer none), (Value.int IntKind.i64 30)]) w)
  (ldN 34 t3 w.heap fun t24 =>
  cal P f_ref03_Clone [t24] w fun t25 w =>
  efP P (Instr.buildSlice T_sl_api_Block 1 #[(0, t25)]) w fun t26 w =>
  rdP P (Instr.build T_flurryref10_Chain #[(0, t0), (1, t26)]) w fun t27 =>
  bx T_flurryref10_Chain t27 w fun t28 w =>
  nilc t0 fun t31 =>
  fad 0 t31 fun t32 =>
  ld1 t32 w.heap fun t33 =>
  cal P f_ref09_Scan [t33] w fun t34 w =>
  ext 0 t34 fun t35 =>
  ext 1 t34 fun t36 =>
  jn1 (fun k1 =>
  lp2 (Value.int IntKind.i64 0) (Value.int IntKind.i64 0) w fun _ t9 t10 w again2 =>
  lenS t35 fun t39 =>
  bi BinOp.lss t10 t39 fun t40 =>
  cnd t40
  (drH w fun S w =>
  ixs 34 t35 t10 fun t45 =>
  rdS S (fun w => ldN 34 t45 w.heap) fun t46 =>
  nilc t28 fun t48 =>
  fad 1 t48 fun t49 =>
  rdS S (fun w => ld1 t49 w.heap) fun t50 =>
  nilc t28 fun t52 =>
  fad 1 t52 fun t53 =>
  rdS S (fun w => ld1 t53 w.heap) fun t54 =>
  lenS t54 fun t55 =>
  bi BinOp.sub t55 (Value.int IntKind.i64 1) fun t56 =>
  ixs 34 t50 t56 fun t57 =>
  rdS S (fun w => ldN 34 t57 w.heap) fun t58 =>
  efC (cal P f_ref03_Linked [t46, t58]) w fun S t59 w =>
  bi BinOp.neq t59 (Value.int IntKind.i64 0) fun t60 =>
  cnd t60
  (k1 t9 w)
  (drH w fun S w =>
  nilc t28 fun t63 =>
  fad 1 t63 fun t64 =>
  rdS S (fun w => ld1 t64 w.heap) fun t65 =>
  ixs 34 t35 t10 fun t68 =>
  rdS S (fun w => ldN 34 t68 w.heap) fun t69 =>
  efS S (efP P (Instr.buildSlice T_sl_api_Block 1 #[(0, t69)])) w fun t70 w =>
  efC (efP P (Builtin.append_ #[T_sl_api_Block, T_sl_api_Block] T_sl_api_Block #[t65, t70])) w fun S t71 w =>
  nilc t28 fun t72 =>
  fad 1 t72 fun t73 =>
  efC (fun w K => st1 t73 t71 w (K undef)) w fun S _ w =>
  ixs 34 t35 t10 fun t77 =>
  ldN 34 t77 w.heap fun t78 =>
  cal P f_ref09_Size [t78] w fun t79 w =>
  bi BinOp.add t9 t79 fun t80 =>
  bi BinOp.add t10 (Value.int IntKind.i64 1) fun t42 =>
  again2 t80 t42 w))
  (k1 t9 w)) fun _ t9_1 w =>
  nilc t0 fun t83 =>
  fad 0 t83 fun t84 =>
  ld1 t84 w.heap fun t85 =>
  lenS t85 fun t86 =>
  bi BinOp.lss t9_1 t86 fun t87 =>
  cnd t87
  (cal P f_ref08_Tape_Truncate [t0, t9_1] w fun t90 w =>
  R (Value.tuple #[t28, (Value.int IntKind.i64 0)]) w)
  (R (Value.tuple #[t28, (Value.int IntKind.i64 0)]) w)))
theorem e_ref10_Open (t0 t1 : Value) (w : World) (R : Value → World → Prop) : intp P A_ref10_Open (bodyOf Tryz.f57) (ini [t0, t1]) w (retK P Tryz.f57.results.toList R) (fun _ _ _ => False) (retK P Tryz.f57.results.toList R) = c_ref10_Open t0 t1 w R := by kernel_rfl
theorem k_ref10_Open : chk P Tryz.f57.ntmps A_ref10_Open (bodyOf Tryz.f57) = true := by kernel_rfl
theorem l_ref10_Open {t0 t1 : Value} {w : World} {R : Value → World → Prop} (h : c_ref10_Open t0 t1 w R) : cal P f_ref10_Open [t0, t1] w R :=
  calls_of mixed Tryz.func57 rfl (by kernel_rfl) k_ref10_Open (Eq.mpr (e_ref10_Open t0 t1 w R) h)
theorem s_ref10_Open {t0 t1 : Value} {w : World} {Q : Value → World → Prop} (h : ∀ R : Value → World → Prop, (∀ v w', Q v w' → R v w') → c_ref10_Open t0 t1 w R) : cal P f_ref10_Open [t0, t1] w Q := l_ref10_Open (h Q fun _ _ h => h)

/-- (*flurry/flurryref10.Chain).Last -/
def A_ref10_Chain_Last : An := (An.s (An.r []) (An.s (An.dc [0, 1, 2, 3, 4, 5, 6, 7, 8, 9, 10, 11, 12, 13] [13] []) (An.s (An.r []) (An.s (An.d [0, 1, 2, 3, 4] []) An.o))))
def c_ref10_Chain_Last (t0 : Value) (w : World) (R : Value → World → Prop) : Prop :=
  efP P (Instr.alloc T_api_ID true (.tuple #[])) w fun t2 w =>
  drH w fun S w =>
  nilc t0 fun t8 =>
  fad 1 t8 fun t9 =>
  rdS S (fun w => ld1 t9 w.heap) fun t10 =>
  nilc t0 fun t12 =>
  fad 1 t12 fun t13 =>
  rdS S (fun w => ld1 t13 w.heap) fun t14 =>
  lenS t14 fun t15 =>
  bi BinOp.sub t15 (Value.int IntKind.i64 1) fun t16 =>
  ixs 34 t10 t16 fun t17 =>
  rdS S (fun w => ldN 34 t17 w.heap) fun t18 =>
  efS S (efP P (Instr.alloc T_api_Block true (.tuple #[]))) w fun t4 w =>
  efC (fun w K => stN 34 t4 t18 w (K undef)) w fun S _ w =>
  ldN 34 t4 w.heap fun t20 =>
  cal P f_ref03_ID [t20] w fun t21 w =>
  ext 0 t21 fun t22 =>
  ext 1 t21 fun t23 =>
  efP P (Instr.alloc T_api_ID true (.tuple #[])) w fun t5 w =>
  stN 32 t5 t22 w fun w =>
  drH w fun S w =>
  rdS S (fun w => ldN 32 t5 w.heap) fun t24 =>
  fad 32 t4 fun t25 =>
  rdS S (fun w => ld1 t25 w.heap) fun t26 =>
  efS S (fun w K => stN 32 t2 t24 w (K undef)) w fun _ w =>
  ldN 32 t2 w.heap fun r0 =>
  R (Value.tuple #[r0, t26]) w
theorem e_ref10_Chain_Last (t0 : Value) (w : World) (R : Value → World → Prop) : intp P A_ref10_Chain_Last (bodyOf Tryz.f58) (ini [t0]) w (retK P Tryz.f58.results.toList R) (fun _ _ _ => False) (retK P Tryz.f58.results.toList R) = c_ref10_Chain_Last t0 w R := by kernel_rfl
theorem k_ref10_Chain_Last : chk P Tryz.f58.ntmps A_ref10_Chain_Last (bodyOf Tryz.f58) = true := by kernel_rfl
theorem l_ref10_Chain_Last {t0 : Value} {w : World} {R : Value → World → Prop} (h : c_ref10_Chain_Last t0 w R) : cal P f_ref10_Chain_Last [t0] w R :=
  calls_of mixed Tryz.func58 rfl (by kernel_rfl) k_ref10_Chain_Last (Eq.mpr (e_ref10_Chain_Last t0 w R) h)
theorem s_ref10_Chain_Last {t0 : Value} {w : World} {Q : Value → World → Prop} (h : ∀ R : Value → World → Prop, (∀ v w', Q v w' → R v w') → c_ref10_Chain_Last t0 w R) : cal P f_ref10_Chain_Last [t0] w Q := l_ref10_Chain_Last (h Q fun _ _ h => h)

/-- flurry/rec.Bytes -/
def A_rec_Bytes : An := (An.s (An.r []) (An.s (An.r []) (An.s (An.s (An.r []) (An.s (An.s (An.r []) An.o) An.o)) (An.s (An.r []) (An.s (An.r []) (An.s (An.r []) (An.s (An.r []) (An.s (An.r []) (An.s (An.s (An.r []) (An.s (An.s (An.r []) An.o) An.o)) (An.s (An.r []) (An.s (An.r []) An.o)))))))))))
def c_rec_Bytes (t0 : Value) (w : World) (R : Value → World → Prop) : Prop :=
  bx T_api_Block t0 w fun t1 w =>
  ldN 34 t1 w.heap fun t10 =>
  cal P f_block_Bytes [t10] w fun t11 w =>
  ext 0 t11 fun t12 =>
  ext 1 t11 fun t13 =>
  bi BinOp.neq t13 (Value.int IntKind.i64 0) fun t15 =>
  cnd t15
  (R (Value.tuple #[(Value.slice none 0 0), t13]) w)
  (cal P f_pack_New [(Value.int IntKind.i64 258)] w fun t17 w =>
  lenS t12 fun t20 =>
  cvi IntKind.u32 t20 fun t21 =>
  cal P f_pack_Packer_Int [t17, t21] w fun t22 w =>
  fad 32 t1 fun t24 =>
  ld1 t24 w.heap fun t25 =>
  cvi IntKind.u64 t25 fun t26 =>
  cal P f_pack_Packer_Long [t17, t26] w fun t27 w =>
  cal P f_pack_Packer_Fixed [t17, t12] w fun t30 w =>
  cal P f_pack_Packer_Out [t17] w fun t33 w =>
  ext 0 t33 fun t34 =>
  ext 1 t33 fun t35 =>
  bi BinOp.neq t35 (Value.int IntKind.i64 0) fun t37 =>
  cnd t37
  (R (Value.tuple #[(Value.slice none 0 0), t35]) w)
  (cal P f_sha_Sum [t34] w fun t40 w =>
  efP P (Instr.alloc T_api_ID true (.tuple #[])) w fun t8 w =>
  stN 32 t8 t40 w fun w =>
  sla 32 1 t8 none (some (Value.int IntKind.i64 8)) fun t42 =>
  efP P (Builtin.append_ #[T_sl_uint8, T_sl_uint8] T_sl_uint8 #[t34, t42]) w fun t43 w =>
  R (Value.tuple #[t43, (Value.int IntKind.i64 0)]) w))
theorem e_rec_Bytes (t0 : Value) (w : World) (R : Value → World → Prop) : intp P A_rec_Bytes (bodyOf Tryz.f59) (ini [t0]) w (retK P Tryz.f59.results.toList R) (fun _ _ _ => False) (retK P Tryz.f59.results.toList R) = c_rec_Bytes t0 w R := by kernel_rfl
theorem k_rec_Bytes : chk P Tryz.f59.ntmps A_rec_Bytes (bodyOf Tryz.f59) = true := by kernel_rfl
theorem l_rec_Bytes {t0 : Value} {w : World} {R : Value → World → Prop} (h : c_rec_Bytes t0 w R) : cal P f_rec_Bytes [t0] w R :=
  calls_of mixed Tryz.func59 rfl (by kernel_rfl) k_rec_Bytes (Eq.mpr (e_rec_Bytes t0 w R) h)
theorem s_rec_Bytes {t0 : Value} {w : World} {Q : Value → World → Prop} (h : ∀ R : Value → World → Prop, (∀ v w', Q v w' → R v w') → c_rec_Bytes t0 w R) : cal P f_rec_Bytes [t0] w Q := l_rec_Bytes (h Q fun _ _ h => h)

/-- (*flurry/tape.Tape).Append -/
def A_tape_Tape_Append : An := (An.s (An.r []) (An.s (An.s (An.r []) (An.s (An.r []) (An.s (An.s (An.r []) An.o) An.o))) (An.s (An.r []) (An.s (An.s (An.r []) (An.b (An.l [6, 25] (An.s (An.r []) (An.s (An.s An.o An.o) (An.s (An.b (An.s (An.r []) (An.s (An.s (An.r []) (An.s (An.s (An.r []) An.o) An.o)) (An.r [])))) (An.r []))))))) (An.s (An.s (An.r []) (An.b (An.l [40] (An.s (An.r []) (An.s (An.s An.o An.o) (An.s (An.b (An.s (An.r []) (An.s (An.r []) (An.s (An.j [11] (An.s (An.r []) (An.s (An.s (An.r []) (An.r [])) An.o))) (An.s (An.dc [0, 1, 2, 3, 4, 5, 6, 7, 8, 9, 10, 11] [8, 11] []) (An.s (An.r []) (An.s (An.s (An.r []) (An.s (An.r []) An.o)) An.o))))))) (An.r []))))))) (An.s (An.r []) An.o))))))
def c_tape_Tape_Append (t0 t1 : Value) (w : World) (R : Value → World → Prop) : Prop :=
  cal P f_tape_Tape_may [t0] w fun t13 w =>
  bi BinOp.neq t13 (Value.int IntKind.i64 0) fun t15 =>
  cnd t15
  (R t13 w)
  (nilc t0 fun t18 =>
  fad 0 t18 fun t19 =>
  ld1 t19 w.heap fun t20 =>
  lenS t20 fun t21 =>
  bi BinOp.sub (Value.int IntKind.i64 262144) t21 fun t22 =>
  lenS t1 fun t24 =>
  lp2 t22 (Value.int IntKind.i64 0) w fun _ t6 t25 w again0 =>
  bi BinOp.lss t25 t24 fun t26 =>
  cnd t26
  (ixs 1 t1 t25 fun t27 =>
  ld1 t27 w.heap fun t28 =>
  lenS t28 fun t30 =>
  bi BinOp.gtr t30 t6 fun t32 =>
  cnd t32
  (R (Value.int IntKind.i64 6) w)
  (lenS t28 fun t35 =>
  bi BinOp.sub t6 t35 fun t36 =>
  bi BinOp.add t25 (Value.int IntKind.i64 1) fun t37 =>
  again0 t36 t37 w))
  (lenS t1 fun t39 =>
  lp1 (Value.int IntKind.i64 0) w fun _ t40 w again1 =>
  bi BinOp.lss t40 t39 fun t41 =>
  cnd t41
  (ixs 1 t1 t40 fun t42 =>
  ld1 t42 w.heap fun t43 =>
  lenS t43 fun t45 =>
  jn1 (fun k2 =>
  nilc t0 fun t47 =>
  fad 1 t47 fun t48 =>
  ld1 t48 w.heap fun t49 =>
  bi BinOp.neq t49 (Value.int IntKind.i64 (-1)) fun t50 =>
  cnd t50
  (nilc t0 fun t53 =>
  fad 1 t53 fun t54 =>
  ld1 t54 w.heap fun t55 =>
  rdP P (Builtin.min_ #[T_int, T_int] T_int #[t45, t55]) w fun t56 =>
  nilc t0 fun t58 =>
  fad 1 t58 fun t59 =>
  ld1 t59 w.heap fun t60 =>
  bi BinOp.sub t60 t56 fun t62 =>
  nilc t0 fun t63 =>
  fad 1 t63 fun t64 =>
  st1 t64 t62 w fun w =>
  k2 t56 w)
  (k2 t45 w)) fun _ t11 w =>
  drH w fun S w =>
  nilc t0 fun t67 =>
  fad 0 t67 fun t68 =>
  rdS S (fun w => ld1 t68 w.heap) fun t69 =>
  slc 1 t43 none (some t11) fun t72 =>
  efC (efP P (Builtin.append_ #[T_sl_uint8, T_sl_uint8] T_sl_uint8 #[t69, t72])) w fun S t73 w =>
  nilc t0 fun t74 =>
  fad 0 t74 fun t75 =>
  efC (fun w K => st1 t75 t73 w (K undef)) w fun S _ w =>
  lenS t43 fun t78 =>
  bi BinOp.lss t11 t78 fun t79 =>
  cnd t79
  (cal P f_tape_Tape_goes [t0] w fun t81 w =>
  R (Value.int IntKind.i64 5) w)
  (bi BinOp.add t40 (Value.int IntKind.i64 1) fun t82 =>
  again1 t82 w))
  (R (Value.int IntKind.i64 0) w)))
theorem e_tape_Tape_Append (t0 t1 : Value) (w : World) (R : Value → World → Prop) : intp P A_tape_Tape_Append (bodyOf Tryz.f60) (ini [t0, t1]) w (retK P Tryz.f60.results.toList R) (fun _ _ _ => False) (retK P Tryz.f60.results.toList R) = c_tape_Tape_Append t0 t1 w R := by kernel_rfl
theorem k_tape_Tape_Append : chk P Tryz.f60.ntmps A_tape_Tape_Append (bodyOf Tryz.f60) = true := by kernel_rfl
theorem l_tape_Tape_Append {t0 t1 : Value} {w : World} {R : Value → World → Prop} (h : c_tape_Tape_Append t0 t1 w R) : cal P f_tape_Tape_Append [t0, t1] w R :=
  calls_of mixed Tryz.func60 rfl (by kernel_rfl) k_tape_Tape_Append (Eq.mpr (e_tape_Tape_Append t0 t1 w R) h)
theorem s_tape_Tape_Append {t0 t1 : Value} {w : World} {Q : Value → World → Prop} (h : ∀ R : Value → World → Prop, (∀ v w', Q v w' → R v w') → c_tape_Tape_Append t0 t1 w R) : cal P f_tape_Tape_Append [t0, t1] w Q := l_tape_Tape_Append (h Q fun _ _ h => h)

/-- flurry/flurryref03.Clone -/
def A_ref03_Clone : An := (An.s (An.r []) (An.s (An.r []) (An.s (An.r []) (An.s (An.r []) An.o))))
def c_ref03_Clone (t0 : Value) (w : World) (R : Value → World → Prop) : Prop :=
  bx T_api_Block t0 w fun t1 w =>
  efP P (Instr.alloc T_api_Block true (.tuple #[])) w fun t2 w =>
  fad 33 t1 fun t5 =>
  ld1 t5 w.heap fun t6 =>
  efP P (Builtin.append_ #[T_sl_uint8, T_sl_uint8] T_sl_uint8 #[(Value.slice none 0 0), t6]) w fun t7 w =>
  fad 33 t1 fun t8 =>
  st1 t8 t7 w fun w =>
  ldN 34 t1 w.heap fun t9 =>
  stN 34 t2 t9 w fun w =>
  ldN 34 t2 w.heap fun r0 =>
  R r0 w
theorem e_ref03_Clone (t0 : Value) (w : World) (R : Value → World → Prop) : intp P A_ref03_Clone (bodyOf Tryz.f61) (ini [t0]) w (retK P Tryz.f61.results.toList R) (fun _ _ _ => False) (retK P Tryz.f61.results.toList R) = c_ref03_Clone t0 w R := by kernel_rfl
theorem k_ref03_Clone : chk P Tryz.f61.ntmps A_ref03_Clone (bodyOf Tryz.f61) = true := by kernel_rfl
theorem l_ref03_Clone {t0 : Value} {w : World} {R : Value → World → Prop} (h : c_ref03_Clone t0 w R) : cal P f_ref03_Clone [t0] w R :=
  calls_of mixed Tryz.func61 rfl (by kernel_rfl) k_ref03_Clone (Eq.mpr (e_ref03_Clone t0 w R) h)
theorem s_ref03_Clone {t0 : Value} {w : World} {Q : Value → World → Prop} (h : ∀ R : Value → World → Prop, (∀ v w', Q v w' → R v w') → c_ref03_Clone t0 w R) : cal P f_ref03_Clone [t0] w Q := l_ref03_Clone (h Q fun _ _ h => h)

/-- flurry/flurryref03.Child -/
def A_ref03_Child : An := (An.s (An.r []) (An.s (An.r []) (An.s (An.s (An.r [[18], [23]]) (An.s (An.s (An.r []) An.o) An.o)) (An.s (An.r []) An.o))))
def c_ref03_Child (t0 t1 : Value) (w : World) (R : Value → World → Prop) : Prop :=
  bx T_api_Block t0 w fun t2 w =>
  efP P (Instr.alloc T_api_Block true (.tuple #[])) w fun t4 w =>
  ldN 34 t2 w.heap fun t9 =>
  cal P f_ref03_ID [t9] w fun t10 w =>
  ext 0 t10 fun t11 =>
  ext 1 t10 fun t12 =>
  efP P (Instr.alloc T_api_ID true (.tuple #[])) w fun t6 w =>
  stN 32 t6 t11 w fun w =>
  bi BinOp.neq t12 (Value.int IntKind.i64 0) fun t14 =>
  jn1 (fun k0 =>
  gif t14 false
  (fad 32 t2 fun t16 =>
  ld1 t16 w.heap fun t17 =>
  bi BinOp.eql t17 (Value.int IntKind.i64 9223372036854775807) fun t18 =>
  k0 t18 w)
  (k0 undef w)) fun _ t18_1 w =>
  pik t14 (Value.bool true) t18_1 fun t19 =>
  jn1 (fun k1 =>
  gif t19 false
  (lenS t1 fun t22 =>
  bi BinOp.gtr t22 (Value.int IntKind.i64 200) fun t23 =>
  k1 t23 w)
  (k1 undef w)) fun _ t23_1 w =>
  pik t19 (Value.bool true) t23_1 fun t24 =>
  cnd t24
  (rdP P (Instr.build T_api_Block #[]) w fun t25 =>
  stN 34 t4 t25 w fun w =>
  ldN 34 t4 w.heap fun r2 =>
  R (Value.tuple #[r2, (Value.int IntKind.i64 30)]) w)
  (ldN 32 t6 w.heap fun t26 =>
  fad 32 t2 fun t27 =>
  ld1 t27 w.heap fun t28 =>
  bi BinOp.add t28 (Value.int IntKind.i64 1) fun t29 =>
  rdP P (Instr.build T_api_Block #[(0, t26), (1, t29), (2, t1)]) w fun t31 =>
  cal P f_ref03_Clone [t31] w fun t32 w =>
  stN 34 t4 t32 w fun w =>
  ldN 34 t4 w.heap fun r3 =>
  R (Value.tuple #[r3, (Value.int IntKind.i64 0)]) w)
theorem e_ref03_Child (t0 t1 : Value) (w : World) (R : Value → World → Prop) : intp P A_ref03_Child (bodyOf Tryz.f67) (ini [t0, t1]) w (retK P Tryz.f67.results.toList R) (fun _ _ _ => False) (retK P Tryz.f67.results.toList R) = c_ref03_Child t0 t1 w R := by kernel_rfl
theorem k_ref03_Child : chk P Tryz.f67.ntmps A_ref03_Child (bodyOf Tryz.f67) = true := by kernel_rfl
theorem l_ref03_Child {t0 t1 : Value} {w : World} {R : Value → World → Prop} (h : c_ref03_Child t0 t1 w R) : cal P f_ref03_Child [t0, t1] w R :=
  calls_of mixed Tryz.func67 rfl (by kernel_rfl) k_ref03_Child (Eq.mpr (e_ref03_Child t0 t1 w R) h)
theorem s_ref03_Child {t0 t1 : Value} {w : World} {Q : Value → World → Prop} (h : ∀ R : Value → World → Prop, (∀ v w', Q v w' → R v w') → c_ref03_Child t0 t1 w R) : cal P f_ref03_Child [t0, t1] w Q := l_ref03_Child (h Q fun _ _ h => h)

/-- flurry/block.ID -/
def A_block_ID : An := (An.s (An.r []) (An.s (An.r []) (An.s (An.s (An.r []) (An.s (An.s (An.r []) An.o) An.o)) (An.s (An.r []) An.o))))
def c_block_ID (t0 : Value) (w : World) (R : Value → World → Prop) : Prop :=
  bx T_api_Block t0 w fun t1 w =>
  efP P (Instr.alloc T_api_ID true (.tuple #[])) w fun t2 w =>
  ldN 34 t1 w.heap fun t7 =>
  cal P f_block_Bytes [t7] w fun t8 w =>
  ext 0 t8 fun t9 =>
  ext 1 t8 fun t10 =>
  bi BinOp.neq t10 (Value.int IntKind.i64 0) fun t12 =>
  cnd t12
  (rdP P (Instr.build T_api_ID #[]) w fun t13 =>
  stN 32 t2 t13 w fun w =>
  ldN 32 t2 w.heap fun r0 =>
  R (Value.tuple #[r0, t10]) w)
  (cal P f_sha_Sum [t9] w fun t16 w =>
  stN 32 t2 t16 w fun w =>
  ldN 32 t2 w.heap fun r1 =>
  R (Value.tuple #[r1, (Value.int IntKind.i64 0)]) w)
theorem e_block_ID (t0 : Value) (w : World) (R : Value → World → Prop) : intp P A_block_ID (bodyOf Tryz.f68) (ini [t0]) w (retK P Tryz.f68.results.toList R) (fun _ _ _ => False) (retK P Tryz.f68.results.toList R) = c_block_ID t0 w R := by kernel_rfl
theorem k_block_ID : chk P Tryz.f68.ntmps A_block_ID (bodyOf Tryz.f68) = true := by kernel_rfl
theorem l_block_ID {t0 : Value} {w : World} {R : Value → World → Prop} (h : c_block_ID t0 w R) : cal P f_block_ID [t0] w R :=
  calls_of mixed Tryz.func68 rfl (by kernel_rfl) k_block_ID (Eq.mpr (e_block_ID t0 w R) h)
theorem s_block_ID {t0 : Value} {w : World} {Q : Value → World → Prop} (h : ∀ R : Value → World → Prop, (∀ v w', Q v w' → R v w') → c_block_ID t0 w R) : cal P f_block_ID [t0] w Q := l_block_ID (h Q fun _ _ h => h)

/-- flurry/rec.scan -/
def A_rec_scan : An := (An.s (An.r []) (An.g 0 [4, 5, 6] (An.s (An.r []) (An.s (An.r []) (An.s (An.r []) An.o))) (An.s (An.r []) (An.s (An.s (An.r []) (An.s (An.s (An.r []) An.o) An.o)) (An.s (An.r []) (An.s (An.r []) (An.s (An.r []) An.o)))))))
def c_rec_scan (t0 : Value) (w : World) (R : Value → World → Prop) : Prop :=
  lp3 (Value.slice none 0 0) (Value.slice none 0 0) (Value.int IntKind.i64 0) w fun _ t4 t5 t6 w again0 =>
  cal P f_rec_Take [t0, t6] w fun t13 w =>
  ext 0 t13 fun t14 =>
  ext 1 t13 fun t15 =>
  ext 2 t13 fun t16 =>
  efP P (Instr.alloc T_api_Block true (.tuple #[])) w fun t7 w =>
  stN 34 t7 t14 w fun w =>
  bi BinOp.neq t16 (Value.int IntKind.i64 0) fun t18 =>
  cnd t18
  (R (Value.tuple #[t4, t5]) w)
  (ldN 34 t7 w.heap fun t22 =>
  efP P (Instr.buildSlice T_sl_api_Block 1 #[(0, t22)]) w fun t23 w =>
  efP P (Builtin.append_ #[T_sl_api_Block, T_sl_api_Block] T_sl_api_Block #[t4, t23]) w fun t24 w =>
  efP P (Instr.buildSlice T_sl_int 1 #[(0, t15)]) w fun t27 w =>
  efP P (Builtin.append_ #[T_sl_int, T_sl_int] T_sl_int #[t5, t27]) w fun t28 w =>
  again0 t24 t28 t15 w)
theorem e_rec_scan (t0 : Value) (w : World) (R : Value → World → Prop) : intp P A_rec_scan (bodyOf Tryz.f69) (ini [t0]) w (retK P Tryz.f69.results.toList R) (fun _ _ _ => False) (retK P Tryz.f69.results.toList R) = c_rec_scan t0 w R := by kernel_rfl
theorem k_rec_scan : chk P Tryz.f69.ntmps A_rec_scan (bodyOf Tryz.f69) = true := by kernel_rfl
theorem l_rec_scan {t0 : Value} {w : World} {R : Value → World → Prop} (h : c_rec_scan t0 w R) : cal P f_rec_scan [t0] w R :=
  calls_of mixed Tryz.func69 rfl (by kernel_rfl) k_rec_scan (Eq.mpr (e_rec_scan t0 w R) h)
theorem s_rec_scan {t0 : Value} {w : World} {Q : Value → World → Prop} (h : ∀ R : Value → World → Prop, (∀ v w', Q v w' → R v w') → c_rec_scan t0 w R) : cal P f_rec_scan [t0] w Q := l_rec_scan (h Q fun _ _ h => h)

/-- slices.Clone[[]flurry/api.Block,flurry/api.Block] -/
def A_slices_Clone_api_Block_api_Block : An := (An.s (An.r []) (An.s (An.s (An.r []) (An.s (An.s (An.r []) An.o) An.o)) (An.s (An.r []) An.o)))
def c_slices_Clone_api_Block_api_Block (t0 : Value) (w : World) (R : Value → World → Prop) : Prop :=
  nilS false t0 fun t4 =>
  cnd t4
  (R (Value.slice none 0 0) w)
  (efP P (Instr.buildSlice T_sl_api_Block 0 #[]) w fun t5 w =>
  efP P (Builtin.append_ #[T_sl_api_Block, T_sl_api_Block] T_sl_api_Block #[t5, t0]) w fun t7 w =>
  R t7 w)
theorem e_slices_Clone_api_Block_api_Block (t0 : Value) (w : World) (R : Value → World → Prop) : intp P A_slices_Clone_api_Block_api_Block (bodyOf Tryz.f70) (ini [t0]) w (retK P Tryz.f70.results.toList R) (fun _ _ _ => False) (retK P Tryz.f70.results.toList R) = c_slices_Clone_api_Block_api_Block t0 w R := by kernel_rfl
theorem k_slices_Clone_api_Block_api_Block : chk P Tryz.f70.ntmps A_slices_Clone_api_Block_api_Block (bodyOf Tryz.f70) = true := by kernel_rfl
theorem l_slices_Clone_api_Block_api_Block {t0 : Value} {w : World} {R : Value → World → Prop} (h : c_slices_Clone_api_Block_api_Block t0 w R) : cal P f_slices_Clone_api_Block_api_Block [t0] w R :=
  calls_of mixed Tryz.func70 rfl (by kernel_rfl) k_slices_Clone_api_Block_api_Block (Eq.mpr (e_slices_Clone_api_Block_api_Block t0 w R) h)
theorem s_slices_Clone_api_Block_api_Block {t0 : Value} {w : World} {Q : Value → World → Prop} (h : ∀ R : Value → World → Prop, (∀ v w', Q v w' → R v w') → c_slices_Clone_api_Block_api_Block t0 w R) : cal P f_slices_Clone_api_Block_api_Block [t0] w Q := l_slices_Clone_api_Block_api_Block (h Q fun _ _ h => h)

/-- slices.Clone[[]flurry/api.ID,flurry/api.ID] -/
def A_slices_Clone_api_ID_api_ID : An := (An.s (An.r []) (An.s (An.s (An.r []) (An.s (An.s (An.r []) An.o) An.o)) (An.s (An.r []) An.o)))
def c_slices_Clone_api_ID_api_ID (t0 : Value) (w : World) (R : Value → World → Prop) : Prop :=
  nilS false t0 fun t4 =>
  cnd t4
  (R (Value.slice none 0 0) w)
  (efP P (Instr.buildSlice T_sl_api_ID 0 #[]) w fun t5 w =>
  efP P (Builtin.append_ #[T_sl_api_ID, T_sl_api_ID] T_sl_api_ID #[t5, t0]) w fun t7 w =>
  R t7 w)
theorem e_slices_Clone_api_ID_api_ID (t0 : Value) (w : World) (R : Value → World → Prop) : intp P A_slices_Clone_api_ID_api_ID (bodyOf Tryz.f71) (ini [t0]) w (retK P Tryz.f71.results.toList R) (fun _ _ _ => False) (retK P Tryz.f71.results.toList R) = c_slices_Clone_api_ID_api_ID t0 w R := by kernel_rfl
theorem k_slices_Clone_api_ID_api_ID : chk P Tryz.f71.ntmps A_slices_Clone_api_ID_api_ID (bodyOf Tryz.f71) = true := by kernel_rfl
theorem l_slices_Clone_api_ID_api_ID {t0 : Value} {w : World} {R : Value → World → Prop} (h : c_slices_Clone_api_ID_api_ID t0 w R) : cal P f_slices_Clone_api_ID_api_ID [t0] w R :=
  calls_of mixed Tryz.func71 rfl (by kernel_rfl) k_slices_Clone_api_ID_api_ID (Eq.mpr (e_slices_Clone_api_ID_api_ID t0 w R) h)
theorem s_slices_Clone_api_ID_api_ID {t0 : Value} {w : World} {Q : Value → World → Prop} (h : ∀ R : Value → World → Prop, (∀ v w', Q v w' → R v w') → c_slices_Clone_api_ID_api_ID t0 w R) : cal P f_slices_Clone_api_ID_api_ID [t0] w Q := l_slices_Clone_api_ID_api_ID (h Q fun _ _ h => h)

/-- (*flurry/chain.Chain).All$1 -/
def A_chain_Chain_All_1 : AnY := (AnY.s (AnY.c (An.r [])) (AnY.s (AnY.c (An.r [])) (AnY.b (AnY.f (AnY.s (AnY.c (An.r [])) (AnY.c (An.r []))) (AnY.b (AnY.s (AnY.d (An.d [0, 1, 2, 3, 4, 5, 6] [])) (AnY.s AnY.o AnY.o)))))))
def c_chain_Chain_All_1 (t0 t1 t2 : Value) (w : World) (R : Value → World → Prop) : Prop :=
  bx T_func_api_ID_api_Block_bool t0 w fun t3 w =>
  ld1 t1 w.heap fun t6 =>
  cal P f_slices_All_api_Block_api_Block [t6] w fun t7 w =>
  rng P t7 2 w (fun args0 w beg0 fin0 =>
  efP P (Instr.alloc T_api_Block true (.tuple #[])) w fun t5 w =>
  stN 34 t5 (args0.getD 1 undef) w fun w =>
  beg0 w fun w =>
  drH w fun S w =>
  rdS S (fun w => ld1 t3 w.heap) fun t10 =>
  rdS S (fun w => ld1 t2 w.heap) fun t11 =>
  ixs 32 t11 (args0.getD 0 undef) fun t13 =>
  rdS S (fun w => ldN 32 t13 w.heap) fun t14 =>
  rdS S (fun w => ldN 34 t5 w.heap) fun t15 =>
  efS S (cal P f_block_Clone [t15]) w fun t16 w =>
  calY P t10 [t14, t16] w fun t17 w =>
  notB t17 fun t18 =>
  cnd t18
  (fin0 (some .ret) w)
  (fin0 none w)) fun D0 => [(none, fun w =>
  takeD [D0] w fun w =>
  R (Value.tuple #[]) w), (some (.ret), fun w =>
  takeD [D0] w fun w =>
  R (Value.tuple #[]) w)]
theorem e_chain_Chain_All_1 (t0 t1 t2 : Value) (w : World) (R : Value → World → Prop) : intpY P A_chain_Chain_All_1 (bodyOf Tryz.f72) (ini [t0, t1, t2]) [] w (retY P Tryz.f72.results.toList R) (fun _ _ _ _ => False) (retY P Tryz.f72.results.toList R) = c_chain_Chain_All_1 t0 t1 t2 w R := by kernel_rfl
theorem k_chain_Chain_All_1 : chkY P Tryz.f72.ntmps A_chain_Chain_All_1 (bodyOf Tryz.f72) = true := by kernel_rfl
theorem l_chain_Chain_All_1 {t0 t1 t2 : Value} {w : World} {R : Value → World → Prop} (h : c_chain_Chain_All_1 t0 t1 t2 w R) : cal P f_chain_Chain_All_1 [t0, t1, t2] w R :=
  calls_ofY mixed Tryz.func72 rfl (by kernel_rfl) k_chain_Chain_All_1 (Eq.mpr (e_chain_Chain_All_1 t0 t1 t2 w R) h)
theorem s_chain_Chain_All_1 {t0 t1 t2 : Value} {w : World} {Q : Value → World → Prop} (h : ∀ R : Value → World → Prop, (∀ v w', Q v w' → R v w') → c_chain_Chain_All_1 t0 t1 t2 w R) : cal P f_chain_Chain_All_1 [t0, t1, t2] w Q := l_chain_Chain_All_1 (h Q fun _ _ h => h)

/-- slices.All[[]flurry/api.Block,flurry/api.Block] -/
def A_slices_All_api_Block_api_Block : An := (An.s (An.r []) (An.s (An.r []) An.o))
def c_slices_All_api_Block_api_Block (t0 : Value) (w : World) (R : Value → World → Prop) : Prop :=
  bx T_sl_api_Block t0 w fun t1 w =>
  R (Value.func (Fn.func f_slices_All_api_Block_api_Block_1) #[] #[t1]) w
theorem e_slices_All_api_Block_api_Block (t0 : Value) (w : World) (R : Value → World → Prop) : intp P A_slices_All_api_Block_api_Block (bodyOf Tryz.f73) (ini [t0]) w (retK P Tryz.f73.results.toList R) (fun _ _ _ => False) (retK P Tryz.f73.results.toList R) = c_slices_All_api_Block_api_Block t0 w R := by kernel_rfl
theorem k_slices_All_api_Block_api_Block : chk P Tryz.f73.ntmps A_slices_All_api_Block_api_Block (bodyOf Tryz.f73) = true := by kernel_rfl
theorem l_slices_All_api_Block_api_Block {t0 : Value} {w : World} {R : Value → World → Prop} (h : c_slices_All_api_Block_api_Block t0 w R) : cal P f_slices_All_api_Block_api_Block [t0] w R :=
  calls_of mixed Tryz.func73 rfl (by kernel_rfl) k_slices_All_api_Block_api_Block (Eq.mpr (e_slices_All_api_Block_api_Block t0 w R) h)
theorem s_slices_All_api_Block_api_Block {t0 : Value} {w : World} {Q : Value → World → Prop} (h : ∀ R : Value → World → Prop, (∀ v w', Q v w' → R v w') → c_slices_All_api_Block_api_Block t0 w R) : cal P f_slices_All_api_Block_api_Block [t0] w Q := l_slices_All_api_Block_api_Block (h Q fun _ _ h => h)

/-- flurry/flurryref03.Bytes -/
def A_ref03_Bytes : An := (An.s (An.r []) (An.s (An.s (An.r []) (An.s (An.r []) (An.s (An.s (An.r []) An.o) An.o))) (An.s (An.r []) (An.s (An.s (An.r []) (An.b (An.l [5, 6] (An.s (An.s (An.r []) (An.s An.o An.o)) (An.s (An.b (An.r [])) (An.r [])))))) (An.s (An.r []) (An.s (An.r []) (An.s (An.r []) An.o)))))))
def c_ref03_Bytes (t0 : Value) (w : World) (R : Value → World → Prop) : Prop :=
  bx T_api_Block t0 w fun t1 w =>
  ldN 34 t1 w.heap fun t7 =>
  cal P f_ref03_Check [t7] w fun t8 w =>
  bi BinOp.neq t8 (Value.int IntKind.i64 0) fun t10 =>
  cnd t10
  (R (Value.tuple #[(Value.slice none 0 0), t8]) w)
  (efP P (Instr.buildSlice T_sl_uint8 2 #[(0, (Value.int IntKind.u8 0)), (1, (Value.int IntKind.u8 0))]) w fun t12 w =>
  lp2 t12 (Value.int IntKind.i64 0) w fun _ t5 t6 w again0 =>
  bi BinOp.lss t6 (Value.int IntKind.i64 32) fun t14 =>
  cnd t14
  (fad 0 t1 fun t19 =>
  ixa 32 1 t19 t6 fun t20 =>
  ld1 t20 w.heap fun t21 =>
  efP P (Instr.buildSlice T_sl_uint8 1 #[(0, t21)]) w fun t22 w =>
  efP P (Builtin.append_ #[T_sl_uint8, T_sl_uint8] T_sl_uint8 #[t5, t22]) w fun t23 w =>
  bi BinOp.add t6 (Value.int IntKind.i64 1) fun t16 =>
  again0 t23 t16 w)
  (fad 32 t1 fun t25 =>
  ld1 t25 w.heap fun t26 =>
  cvi IntKind.u64 t26 fun t27 =>
  cal P f_ref01_Num [(Value.int IntKind.i64 8), t27] w fun t28 w =>
  efP P (Builtin.append_ #[T_sl_uint8, T_sl_uint8] T_sl_uint8 #[t5, t28]) w fun t29 w =>
  fad 33 t1 fun t31 =>
  ld1 t31 w.heap fun t32 =>
  lenS t32 fun t33 =>
  cvi IntKind.u64 t33 fun t34 =>
  cal P f_ref01_Num [(Value.int IntKind.i64 4), t34] w fun t35 w =>
  efP P (Builtin.append_ #[T_sl_uint8, T_sl_uint8] T_sl_uint8 #[t29, t35]) w fun t36 w =>
  fad 33 t1 fun t38 =>
  ld1 t38 w.heap fun t39 =>
  efP P (Builtin.append_ #[T_sl_uint8, T_sl_uint8] T_sl_uint8 #[t36, t39]) w fun t40 w =>
  R (Value.tuple #[t40, (Value.int IntKind.i64 0)]) w))
theorem e_ref03_Bytes (t0 : Value) (w : World) (R : Value → World → Prop) : intp P A_ref03_Bytes (bodyOf Tryz.f74) (ini [t0]) w (retK P Tryz.f74.results.toList R) (fun _ _ _ => False) (retK P Tryz.f74.results.toList R) = c_ref03_Bytes t0 w R := by kernel_rfl
theorem k_ref03_Bytes : chk P Tryz.f74.ntmps A_ref03_Bytes (bodyOf Tryz.f74) = true := by kernel_rfl
theorem l_ref03_Bytes {t0 : Value} {w : World} {R : Value → World → Prop} (h : c_ref03_Bytes t0 w R) : cal P f_ref03_Bytes [t0] w R :=
  calls_of mixed Tryz.func74 rfl (by kernel_rfl) k_ref03_Bytes (Eq.mpr (e_ref03_Bytes t0 w R) h)
theorem s_ref03_Bytes {t0 : Value} {w : World} {Q : Value → World → Prop} (h : ∀ R : Value → World → Prop, (∀ v w', Q v w' → R v w') → c_ref03_Bytes t0 w R) : cal P f_ref03_Bytes [t0] w Q := l_ref03_Bytes (h Q fun _ _ h => h)

/-- flurry/flurryref02.Sum -/
def A_ref02_Sum : An := (An.s (An.r []) (An.s (An.r []) (An.s (An.r []) (An.s (An.s (An.r []) (An.b (An.l [5] (An.s (An.s (An.r []) (An.s An.o An.o)) (An.s (An.b (An.dc [0, 1, 2, 3, 4, 5, 6, 7] [6, 7] [])) (An.r [])))))) (An.s (An.r []) (An.s (An.s (An.r []) (An.b (An.l [7] (An.s (An.s (An.r []) (An.s An.o An.o)) (An.s (An.b (An.r [])) (An.r [])))))) (An.s (An.r []) An.o)))))))
def c_ref02_Sum (t0 : Value) (w : World) (R : Value → World → Prop) : Prop :=
  efP P (Instr.alloc T_api_ID true (.tuple #[])) w fun t2 w =>
  cal P f_ref02_padded [t0] w fun t9 w =>
  rdP P (Instr.build T_a8_uint32 #[(0, (Value.int IntKind.u32 1779033703)), (1, (Value.int IntKind.u32 3144134277)), (2, (Value.int IntKind.u32 1013904242)), (3, (Value.int IntKind.u32 2773480762)), (4, (Value.int IntKind.u32 1359893119)), (5, (Value.int IntKind.u32 2600822924)), (6, (Value.int IntKind.u32 528734635)), (7, (Value.int IntKind.u32 1541459225))]) w fun t10 =>
  efP P (Instr.alloc T_a8_uint32 true (.tuple #[])) w fun t4 w =>
  stN 8 t4 t10 w fun w =>
  lp1 (Value.int IntKind.i64 0) w fun _ t5 w again0 =>
  lenS t9 fun t13 =>
  bi BinOp.lss t5 t13 fun t14 =>
  cnd t14
  (drH w fun S w =>
  rdS S (fun w => ldN 8 t4 w.heap) fun t17 =>
  bi BinOp.add t5 (Value.int IntKind.i64 64) fun t21 =>
  slc 1 t9 (some t5) (some t21) fun t22 =>
  efC (cal P f_ref02_goes [t17, t22]) w fun S t23 w =>
  efC (fun w K => stN 8 t4 t23 w (K undef)) w fun S _ w =>
  bi BinOp.add t5 (Value.int IntKind.i64 64) fun t16 =>
  again0 t16 w)
  (efP P (Instr.alloc T_api_ID true (.tuple #[])) w fun t6 w =>
  lp1 (Value.int IntKind.i64 0) w fun _ t7 w again1 =>
  bi BinOp.lss t7 (Value.int IntKind.i64 32) fun t25 =>
  cnd t25
  (bi BinOp.quo t7 (Value.int IntKind.i64 4) fun t30 =>
  ixa 8 1 t4 t30 fun t31 =>
  ld1 t31 w.heap fun t32 =>
  bi BinOp.rem t7 (Value.int IntKind.i64 4) fun t34 =>
  bi BinOp.mul (Value.int IntKind.i64 8) t34 fun t35 =>
  bi BinOp.sub (Value.int IntKind.i64 24) t35 fun t36 =>
  cvi IntKind.u64 t36 fun t37 =>
  sh BinOp.shr t32 t37 fun t38 =>
  cvi IntKind.u8 t38 fun t39 =>
  ixa 32 1 t6 t7 fun t40 =>
  st1 t40 t39 w fun w =>
  bi BinOp.add t7 (Value.int IntKind.i64 1) fun t27 =>
  again1 t27 w)
  (ldN 32 t6 w.heap fun t41 =>
  stN 32 t2 t41 w fun w =>
  ldN 32 t2 w.heap fun r2 =>
  R r2 w))
theorem e_ref02_Sum (t0 : Value) (w : World) (R : Value → World → Prop) : intp P A_ref02_Sum (bodyOf Tryz.f75) (ini [t0]) w (retK P Tryz.f75.results.toList R) (fun _ _ _ => False) (retK P Tryz.f75.results.toList R) = c_ref02_Sum t0 w R := by kernel_rfl
theorem k_ref02_Sum : chk P Tryz.f75.ntmps A_ref02_Sum (bodyOf Tryz.f75) = true := by kernel_rfl
theorem l_ref02_Sum {t0 : Value} {w : World} {R : Value → World → Prop} (h : c_ref02_Sum t0 w R) : cal P f_ref02_Sum [t0] w R :=
  calls_of mixed Tryz.func75 rfl (by kernel_rfl) k_ref02_Sum (Eq.mpr (e_ref02_Sum t0 w R) h)
theorem s_ref02_Sum {t0 : Value} {w : World} {Q : Value → World → Prop} (h : ∀ R : Value → World → Prop, (∀ v w', Q v w' → R v w') → c_ref02_Sum t0 w R) : cal P f_ref02_Sum [t0] w Q := l_ref02_Sum (h Q fun _ _ h => h)

/-- bytes.Clone -/
def A_bytes_Clone : An := (An.s (An.r []) (An.s (An.s (An.r []) (An.s (An.s (An.r []) An.o) An.o)) (An.s (An.r []) An.o)))
def c_bytes_Clone (t0 : Value) (w : World) (R : Value → World → Prop) : Prop :=
  nilS false t0 fun t4 =>
  cnd t4
  (R (Value.slice none 0 0) w)
  (efP P (Instr.buildSlice T_sl_uint8 0 #[]) w fun t5 w =>
  efP P (Builtin.append_ #[T_sl_uint8, T_sl_uint8] T_sl_uint8 #[t5, t0]) w fun t7 w =>
  R t7 w)
theorem e_bytes_Clone (t0 : Value) (w : World) (R : Value → World → Prop) : intp P A_bytes_Clone (bodyOf Tryz.f76) (ini [t0]) w (retK P Tryz.f76.results.toList R) (fun _ _ _ => False) (retK P Tryz.f76.results.toList R) = c_bytes_Clone t0 w R := by kernel_rfl
theorem k_bytes_Clone : chk P Tryz.f76.ntmps A_bytes_Clone (bodyOf Tryz.f76) = true := by kernel_rfl
theorem l_bytes_Clone {t0 : Value} {w : World} {R : Value → World → Prop} (h : c_bytes_Clone t0 w R) : cal P f_bytes_Clone [t0] w R :=
  calls_of mixed Tryz.func76 rfl (by kernel_rfl) k_bytes_Clone (Eq.mpr (e_bytes_Clone t0 w R) h)
theorem s_bytes_Clone {t0 : Value} {w : World} {Q : Value → World → Prop} (h : ∀ R : Value → World → Prop, (∀ v w', Q v w' → R v w') → c_bytes_Clone t0 w R) : cal P f_bytes_Clone [t0] w Q := l_bytes_Clone (h Q fun _ _ h => h)

/-- flurry/flurryref01.Num -/
def A_ref01_Num : An := (An.s (An.r []) (An.s (An.r []) (An.s (An.s (An.r []) (An.b (An.l [1, 6] (An.s (An.s (An.r []) (An.s An.o An.o)) (An.s (An.b (An.s (An.r []) (An.r []))) (An.r [])))))) (An.s (An.r []) An.o))))
def c_ref01_Num (t0 t1 : Value) (w : World) (R : Value → World → Prop) : Prop :=
  efP P (Instr.makeSlice T_sl_uint8 t0 t0) w fun t8 w =>
  bi BinOp.sub t0 (Value.int IntKind.i64 1) fun t10 =>
  lp2 t1 t10 w fun _ t1_1 t6 w again0 =>
  bi BinOp.geq t6 (Value.int IntKind.i64 0) fun t12 =>
  cnd t12
  (bi BinOp.rem t1_1 (Value.int IntKind.u64 256) fun t18 =>
  cvi IntKind.u8 t18 fun t19 =>
  ixs 1 t8 t6 fun t20 =>
  st1 t20 t19 w fun w =>
  bi BinOp.quo t1_1 (Value.int IntKind.u64 256) fun t22 =>
  bi BinOp.sub t6 (Value.int IntKind.i64 1) fun t14 =>
  again0 t22 t14 w)
  (R t8 w)
theorem e_ref01_Num (t0 t1 : Value) (w : World) (R : Value → World → Prop) : intp P A_ref01_Num (bodyOf Tryz.f77) (ini [t0, t1]) w (retK P Tryz.f77.results.toList R) (fun _ _ _ => False) (retK P Tryz.f77.results.toList R) = c_ref01_Num t0 t1 w R := by kernel_rfl
theorem k_ref01_Num : chk P Tryz.f77.ntmps A_ref01_Num (bodyOf Tryz.f77) = true := by kernel_rfl
theorem l_ref01_Num {t0 t1 : Value} {w : World} {R : Value → World → Prop} (h : c_ref01_Num t0 t1 w R) : cal P f_ref01_Num [t0, t1] w R :=
  calls_of mixed Tryz.func77 rfl (by kernel_rfl) k_ref01_Num (Eq.mpr (e_ref01_Num t0 t1 w R) h)
theorem s_ref01_Num {t0 t1 : Value} {w : World} {Q : Value → World → Prop} (h : ∀ R : Value → World → Prop, (∀ v w', Q v w' → R v w') → c_ref01_Num t0 t1 w R) : cal P f_ref01_Num [t0, t1] w Q := l_ref01_Num (h Q fun _ _ h => h)

/-- flurry/flurryref09.Scan -/
def A_ref09_Scan : An := (An.s (An.r []) (An.s (An.r []) (An.s (An.r []) (An.b (An.l [4, 5] (An.b (An.s (An.r []) (An.s (An.s (An.r []) (An.s (An.s (An.r []) An.o) An.o)) (An.s (An.r []) (An.r []))))))))))
def c_ref09_Scan (t0 : Value) (w : World) (R : Value → World → Prop) : Prop :=
  lp2 (Value.slice none 0 0) (Value.int IntKind.i64 0) w fun _ t4 t5 w again0 =>
  cal P f_ref09_Take [t0, t5] w fun t12 w =>
  ext 0 t12 fun t13 =>
  ext 1 t12 fun t14 =>
  ext 2 t12 fun t15 =>
  efP P (Instr.alloc T_api_Block true (.tuple #[])) w fun t6 w =>
  stN 34 t6 t13 w fun w =>
  bi BinOp.neq t15 (Value.int IntKind.i64 0) fun t17 =>
  cnd t17
  (R (Value.tuple #[t4, t5]) w)
  (ldN 34 t6 w.heap fun t21 =>
  efP P (Instr.buildSlice T_sl_api_Block 1 #[(0, t21)]) w fun t22 w =>
  efP P (Builtin.append_ #[T_sl_api_Block, T_sl_api_Block] T_sl_api_Block #[t4, t22]) w fun t23 w =>
  again0 t23 t14 w)
theorem e_ref09_Scan (t0 : Value) (w : World) (R : Value → World → Prop) : intp P A_ref09_Scan (bodyOf Tryz.f78) (ini [t0]) w (retK P Tryz.f78.results.toList R) (fun _ _ _ => False) (retK P Tryz.f78.results.toList R) = c_ref09_Scan t0 w R := by kernel_rfl
theorem k_ref09_Scan : chk P Tryz.f78.ntmps A_ref09_Scan (bodyOf Tryz.f78) = true := by kernel_rfl
theorem l_ref09_Scan {t0 : Value} {w : World} {R : Value → World → Prop} (h : c_ref09_Scan t0 w R) : cal P f_ref09_Scan [t0] w R :=
  calls_of mixed Tryz.func78 rfl (by kernel_rfl) k_ref09_Scan (Eq.mpr (e_ref09_Scan t0 w R) h)
theorem s_ref09_Scan {t0 : Value} {w : World} {Q : Value → World → Prop} (h : ∀ R : Value → World → Prop, (∀ v w', Q v w' → R v w') → c_ref09_Scan t0 w R) : cal P f_ref09_Scan [t0] w Q := l_ref09_Scan (h Q fun _ _ h => h)

/-- (*flurry/flurryref08.Tape).Truncate -/
def A_ref08_Tape_Truncate : An := (An.s (An.r []) (An.s (An.s (An.r []) (An.s (An.s (An.r []) An.o) An.o)) (An.s (An.s (An.r [[18]]) (An.s (An.s (An.r []) An.o) An.o)) (An.s (An.r []) (An.s (An.r []) An.o)))))
def c_ref08_Tape_Truncate (t0 t1 : Value) (w : World) (R : Value → World → Prop) : Prop :=
  nilc t0 fun t6 =>
  fad 1 t6 fun t7 =>
  ld1 t7 w.heap fun t8 =>
  cnd t8
  (R (Value.int IntKind.i64 5) w)
  (bi BinOp.lss t1 (Value.int IntKind.i64 0) fun t10 =>
  jn1 (fun k0 =>
  gif t10 false
  (nilc t0 fun t14 =>
  fad 0 t14 fun t15 =>
  ld1 t15 w.heap fun t16 =>
  lenS t16 fun t17 =>
  bi BinOp.gtr t1 t17 fun t18 =>
  k0 t18 w)
  (k0 undef w)) fun _ t18_1 w =>
  pik t10 (Value.bool true) t18_1 fun t19 =>
  cnd t19
  (R (Value.int IntKind.i64 1) w)
  (nilc t0 fun t22 =>
  fad 0 t22 fun t23 =>
  ld1 t23 w.heap fun t24 =>
  slc 1 t24 none (some t1) fun t26 =>
  efP P (Builtin.append_ #[T_sl_uint8, T_sl_uint8] T_sl_uint8 #[(Value.slice none 0 0), t26]) w fun t27 w =>
  nilc t0 fun t28 =>
  fad 0 t28 fun t29 =>
  st1 t29 t27 w fun w =>
  R (Value.int IntKind.i64 0) w))
theorem e_ref08_Tape_Truncate (t0 t1 : Value) (w : World) (R : Value → World → Prop) : intp P A_ref08_Tape_Truncate (bodyOf Tryz.f79) (ini [t0, t1]) w (retK P Tryz.f79.results.toList R) (fun _ _ _ => False) (retK P Tryz.f79.results.toList R) = c_ref08_Tape_Truncate t0 t1 w R := by kernel_rfl
theorem k_ref08_Tape_Truncate : chk P Tryz.f79.ntmps A_ref08_Tape_Truncate (bodyOf Tryz.f79) = true := by kernel_rfl
theorem l_ref08_Tape_Truncate {t0 t1 : Value} {w : World} {R : Value → World → Prop} (h : c_ref08_Tape_Truncate t0 t1 w R) : cal P f_ref08_Tape_Truncate [t0, t1] w R :=
  calls_of mixed Tryz.func79 rfl (by kernel_rfl) k_ref08_Tape_Truncate (Eq.mpr (e_ref08_Tape_Truncate t0 t1 w R) h)
theorem s_ref08_Tape_Truncate {t0 t1 : Value} {w : World} {Q : Value → World → Prop} (h : ∀ R : Value → World → Prop, (∀ v w', Q v w' → R v w') → c_ref08_Tape_Truncate t0 t1 w R) : cal P f_ref08_Tape_Truncate [t0, t1] w Q := l_ref08_Tape_Truncate (h Q fun _ _ h => h)

/-- flurry/block.Bytes -/
def A_block_Bytes : An := (An.s (An.r []) (An.s (An.s (An.r []) (An.s (An.r []) (An.s (An.s (An.r []) An.o) An.o))) (An.s (An.r []) (An.s (An.r []) (An.s (An.r []) (An.s (An.r []) (An.s (An.r []) (An.s (An.r []) An.o))))))))
def c_block_Bytes (t0 : Value) (w : World) (R : Value → World → Prop) : Prop :=
  bx T_api_Block t0 w fun t1 w =>
  ldN 34 t1 w.heap fun t6 =>
  cal P f_block_Check [t6] w fun t7 w =>
  bi BinOp.neq t7 (Value.int IntKind.i64 0) fun t9 =>
  cnd t9
  (R (Value.tuple #[(Value.slice none 0 0), t7]) w)
  (cal P f_pack_New [(Value.int IntKind.i64 246)] w fun t11 w =>
  cal P f_pack_Packer_Short [t11, (Value.int IntKind.u16 0)] w fun t13 w =>
  fad 0 t1 fun t15 =>
  sla 32 1 t15 none none fun t16 =>
  cal P f_pack_Packer_Fixed [t11, t16] w fun t17 w =>
  fad 32 t1 fun t19 =>
  ld1 t19 w.heap fun t20 =>
  cvi IntKind.u64 t20 fun t21 =>
  cal P f_pack_Packer_Long [t11, t21] w fun t22 w =>
  fad 33 t1 fun t24 =>
  ld1 t24 w.heap fun t25 =>
  cal P f_pack_Packer_Bytes [t11, t25] w fun t26 w =>
  cal P f_pack_Packer_Out [t11] w fun t28 w =>
  ext 0 t28 fun t29 =>
  ext 1 t28 fun t30 =>
  R (Value.tuple #[t29, t30]) w)
theorem e_block_Bytes (t0 : Value) (w : World) (R : Value → World → Prop) : intp P A_block_Bytes (bodyOf Tryz.f80) (ini [t0]) w (retK P Tryz.f80.results.toList R) (fun _ _ _ => False) (retK P Tryz.f80.results.toList R) = c_block_Bytes t0 w R := by kernel_rfl
theorem k_block_Bytes : chk P Tryz.f80.ntmps A_block_Bytes (bodyOf Tryz.f80) = true := by kernel_rfl
theorem l_block_Bytes {t0 : Value} {w : World} {R : Value → World → Prop} (h : c_block_Bytes t0 w R) : cal P f_block_Bytes [t0] w R :=
  calls_of mixed Tryz.func80 rfl (by kernel_rfl) k_block_Bytes (Eq.mpr (e_block_Bytes t0 w R) h)
theorem s_block_Bytes {t0 : Value} {w : World} {Q : Value → World → Prop} (h : ∀ R : Value → World → Prop, (∀ v w', Q v w' → R v w') → c_block_Bytes t0 w R) : cal P f_block_Bytes [t0] w Q := l_block_Bytes (h Q fun _ _ h => h)

/-- flurry/pack.New -/
def A_pack_New : An := (An.s (An.r []) (An.s (An.r []) (An.s (An.r []) (An.s (An.s (An.r [[15]]) (An.s (An.r []) An.o)) (An.s (An.r []) An.o)))))
def c_pack_New (t0 : Value) (w : World) (R : Value → World → Prop) : Prop :=
  rdP P (Instr.build T_pack_Packer #[(1, t0)]) w fun t5 =>
  bx T_pack_Packer t5 w fun t6 w =>
  nilc t6 fun t8 =>
  fad 0 t8 fun t9 =>
  fad 0 t9 fun t10 =>
  st1 t10 (Value.bool true) w fun w =>
  bi BinOp.lss t0 (Value.int IntKind.i64 0) fun t12 =>
  jn1 (fun k0 =>
  gif t12 false
  (bi BinOp.gtr t0 (Value.int IntKind.i64 8192) fun t15 =>
  k0 t15 w)
  (k0 undef w)) fun _ t15_1 w =>
  pik t12 (Value.bool true) t15_1 fun t16 =>
  cnd t16
  (nilc t6 fun t18 =>
  fad 0 t18 fun t19 =>
  fad 2 t19 fun t20 =>
  st1 t20 (Value.int IntKind.i64 1) w fun w =>
  R t6 w)
  (R t6 w)
theorem e_pack_New (t0 : Value) (w : World) (R : Value → World → Prop) : intp P A_pack_New (bodyOf Tryz.f81) (ini [t0]) w (retK P Tryz.f81.results.toList R) (fun _ _ _ => False) (retK P Tryz.f81.results.toList R) = c_pack_New t0 w R := by kernel_rfl
theorem k_pack_New : chk P Tryz.f81.ntmps A_pack_New (bodyOf Tryz.f81) = true := by kernel_rfl
theorem l_pack_New {t0 : Value} {w : World} {R : Value → World → Prop} (h : c_pack_New t0 w R) : cal P f_pack_New [t0] w R :=
  calls_of mixed Tryz.func81 rfl (by kernel_rfl) k_pack_New (Eq.mpr (e_pack_New t0 w R) h)
theorem s_pack_New {t0 : Value} {w : World} {Q : Value → World → Prop} (h : ∀ R : Value → World → Prop, (∀ v w', Q v w' → R v w') → c_pack_New t0 w R) : cal P f_pack_New [t0] w Q := l_pack_New (h Q fun _ _ h => h)

/-- (*flurry/pack.Packer).Int -/
def A_pack_Packer_Int : An := (An.r [])
def c_pack_Packer_Int (t0 t1 : Value) (w : World) (R : Value → World → Prop) : Prop :=
  cvi IntKind.u64 t1 fun t6 =>
  cal P f_pack_number [(Value.int IntKind.i64 4), t6] w fun t7 w =>
  cal P f_pack_Packer_put [t0, t7, (Value.slice none 0 0)] w fun t8 w =>
  R (Value.tuple #[]) w
theorem e_pack_Packer_Int (t0 t1 : Value) (w : World) (R : Value → World → Prop) : intp P A_pack_Packer_Int (bodyOf Tryz.f82) (ini [t0, t1]) w (retK P Tryz.f82.results.toList R) (fun _ _ _ => False) (retK P Tryz.f82.results.toList R) = c_pack_Packer_Int t0 t1 w R := by kernel_rfl
theorem k_pack_Packer_Int : chk P Tryz.f82.ntmps A_pack_Packer_Int (bodyOf Tryz.f82) = true := by kernel_rfl
theorem l_pack_Packer_Int {t0 t1 : Value} {w : World} {R : Value → World → Prop} (h : c_pack_Packer_Int t0 t1 w R) : cal P f_pack_Packer_Int [t0, t1] w R :=
  calls_of mixed Tryz.func82 rfl (by kernel_rfl) k_pack_Packer_Int (Eq.mpr (e_pack_Packer_Int t0 t1 w R) h)
theorem s_pack_Packer_Int {t0 t1 : Value} {w : World} {Q : Value → World → Prop} (h : ∀ R : Value → World → Prop, (∀ v w', Q v w' → R v w') → c_pack_Packer_Int t0 t1 w R) : cal P f_pack_Packer_Int [t0, t1] w Q := l_pack_Packer_Int (h Q fun _ _ h => h)

/-- (*flurry/pack.Packer).Long -/
def A_pack_Packer_Long : An := (An.r [])
def c_pack_Packer_Long (t0 t1 : Value) (w : World) (R : Value → World → Prop) : Prop :=
  cal P f_pack_number [(Value.int IntKind.i64 8), t1] w fun t6 w =>
  cal P f_pack_Packer_put [t0, t6, (Value.slice none 0 0)] w fun t7 w =>
  R (Value.tuple #[]) w
theorem e_pack_Packer_Long (t0 t1 : Value) (w : World) (R : Value → World → Prop) : intp P A_pack_Packer_Long (bodyOf Tryz.f83) (ini [t0, t1]) w (retK P Tryz.f83.results.toList R) (fun _ _ _ => False) (retK P Tryz.f83.results.toList R) = c_pack_Packer_Long t0 t1 w R := by kernel_rfl
theorem k_pack_Packer_Long : chk P Tryz.f83.ntmps A_pack_Packer_Long (bodyOf Tryz.f83) = true := by kernel_rfl
theorem l_pack_Packer_Long {t0 t1 : Value} {w : World} {R : Value → World → Prop} (h : c_pack_Packer_Long t0 t1 w R) : cal P f_pack_Packer_Long [t0, t1] w R :=
  calls_of mixed Tryz.func83 rfl (by kernel_rfl) k_pack_Packer_Long (Eq.mpr (e_pack_Packer_Long t0 t1 w R) h)
theorem s_pack_Packer_Long {t0 t1 : Value} {w : World} {Q : Value → World → Prop} (h : ∀ R : Value → World → Prop, (∀ v w', Q v w' → R v w') → c_pack_Packer_Long t0 t1 w R) : cal P f_pack_Packer_Long [t0, t1] w Q := l_pack_Packer_Long (h Q fun _ _ h => h)

/-- (*flurry/pack.Packer).Fixed -/
def A_pack_Packer_Fixed : An := (An.r [])
def c_pack_Packer_Fixed (t0 t1 : Value) (w : World) (R : Value → World → Prop) : Prop :=
  cal P f_pack_Packer_put [t0, (Value.slice none 0 0), t1] w fun t6 w =>
  R (Value.tuple #[]) w
theorem e_pack_Packer_Fixed (t0 t1 : Value) (w : World) (R : Value → World → Prop) : intp P A_pack_Packer_Fixed (bodyOf Tryz.f84) (ini [t0, t1]) w (retK P Tryz.f84.results.toList R) (fun _ _ _ => False) (retK P Tryz.f84.results.toList R) = c_pack_Packer_Fixed t0 t1 w R := by kernel_rfl
theorem k_pack_Packer_Fixed : chk P Tryz.f84.ntmps A_pack_Packer_Fixed (bodyOf Tryz.f84) = true := by kernel_rfl
theorem l_pack_Packer_Fixed {t0 t1 : Value} {w : World} {R : Value → World → Prop} (h : c_pack_Packer_Fixed t0 t1 w R) : cal P f_pack_Packer_Fixed [t0, t1] w R :=
  calls_of mixed Tryz.func84 rfl (by kernel_rfl) k_pack_Packer_Fixed (Eq.mpr (e_pack_Packer_Fixed t0 t1 w R) h)
theorem s_pack_Packer_Fixed {t0 t1 : Value} {w : World} {Q : Value → World → Prop} (h : ∀ R : Value → World → Prop, (∀ v w', Q v w' → R v w') → c_pack_Packer_Fixed t0 t1 w R) : cal P f_pack_Packer_Fixed [t0, t1] w Q := l_pack_Packer_Fixed (h Q fun _ _ h => h)

/-- (*flurry/pack.Packer).Out -/
def A_pack_Packer_Out : An := (An.s (An.r []) (An.s (An.s (An.r []) (An.s (An.r []) (An.s (An.s (An.r []) An.o) An.o))) (An.s (An.r []) (An.s (An.r []) (An.s (An.r []) An.o)))))
def c_pack_Packer_Out (t0 : Value) (w : World) (R : Value → World → Prop) : Prop :=
  cal P f_pack_Packer_Err [t0] w fun t7 w =>
  bi BinOp.neq t7 (Value.int IntKind.i64 0) fun t9 =>
  cnd t9
  (R (Value.tuple #[(Value.slice none 0 0), t7]) w)
  (nilc t0 fun t12 =>
  fad 0 t12 fun t13 =>
  fad 1 t13 fun t14 =>
  ld1 t14 w.heap fun t15 =>
  lenS t15 fun t16 =>
  efP P (Instr.makeSlice T_sl_uint8 t16 t16) w fun t17 w =>
  nilc t0 fun t20 =>
  fad 0 t20 fun t21 =>
  fad 1 t21 fun t22 =>
  ld1 t22 w.heap fun t23 =>
  efP P (Builtin.copy_ #[T_sl_uint8, T_sl_uint8] T_int #[t17, t23]) w fun t24 w =>
  R (Value.tuple #[t17, (Value.int IntKind.i64 0)]) w)
theorem e_pack_Packer_Out (t0 : Value) (w : World) (R : Value → World → Prop) : intp P A_pack_Packer_Out (bodyOf Tryz.f85) (ini [t0]) w (retK P Tryz.f85.results.toList R) (fun _ _ _ => False) (retK P Tryz.f85.results.toList R) = c_pack_Packer_Out t0 w R := by kernel_rfl
theorem k_pack_Packer_Out : chk P Tryz.f85.ntmps A_pack_Packer_Out (bodyOf Tryz.f85) = true := by kernel_rfl
theorem l_pack_Packer_Out {t0 : Value} {w : World} {R : Value → World → Prop} (h : c_pack_Packer_Out t0 w R) : cal P f_pack_Packer_Out [t0] w R :=
  calls_of mixed Tryz.func85 rfl (by kernel_rfl) k_pack_Packer_Out (Eq.mpr (e_pack_Packer_Out t0 w R) h)
theorem s_pack_Packer_Out {t0 : Value} {w : World} {Q : Value → World → Prop} (h : ∀ R : Value → World → Prop, (∀ v w', Q v w' → R v w') → c_pack_Packer_Out t0 w R) : cal P f_pack_Packer_Out [t0] w Q := l_pack_Packer_Out (h Q fun _ _ h => h)

/-- flurry/sha.Sum -/
def A_sha_Sum : An := (An.s (An.r []) (An.s (An.r []) (An.s (An.r []) (An.s (An.r []) An.o))))
def c_sha_Sum (t0 : Value) (w : World) (R : Value → World → Prop) : Prop :=
  efP P (Instr.alloc T_api_ID true (.tuple #[])) w fun t2 w =>
  cal P f_sha_New [] w fun t4 w =>
  efP P (Instr.buildSlice T_sl_sl_uint8 1 #[(0, t0)]) w fun t7 w =>
  cal P f_sha_State_Write [t4, t7] w fun t8 w =>
  cal P f_sha_State_Sum [t4] w fun t10 w =>
  stN 32 t2 t10 w fun w =>
  ldN 32 t2 w.heap fun r0 =>
  R r0 w
theorem e_sha_Sum (t0 : Value) (w : World) (R : Value → World → Prop) : intp P A_sha_Sum (bodyOf Tryz.f86) (ini [t0]) w (retK P Tryz.f86.results.toList R) (fun _ _ _ => False) (retK P Tryz.f86.results.toList R) = c_sha_Sum t0 w R := by kernel_rfl
theorem k_sha_Sum : chk P Tryz.f86.ntmps A_sha_Sum (bodyOf Tryz.f86) = true := by kernel_rfl
theorem l_sha_Sum {t0 : Value} {w : World} {R : Value → World → Prop} (h : c_sha_Sum t0 w R) : cal P f_sha_Sum [t0] w R :=
  calls_of mixed Tryz.func86 rfl (by kernel_rfl) k_sha_Sum (Eq.mpr (e_sha_Sum t0 w R) h)
theorem s_sha_Sum {t0 : Value} {w : World} {Q : Value → World → Prop} (h : ∀ R : Value → World → Prop, (∀ v w', Q v w' → R v w') → c_sha_Sum t0 w R) : cal P f_sha_Sum [t0] w Q := l_sha_Sum (h Q fun _ _ h => h)

/-- flurry/rec.Take -/
def A_rec_Take : An := (An.s (An.r []) (An.s (An.s (An.r [[19]]) (An.s (An.s (An.r []) An.o) An.o)) (An.s (An.r []) (An.s (An.s (An.r []) (An.s (An.s (An.r []) An.o) An.o)) (An.s (An.r []) (An.s (An.s (An.r []) (An.s (An.s (An.r []) An.o) An.o)) (An.s (An.r []) (An.s (An.s (An.r []) (An.s (An.s (An.r []) An.o) An.o)) (An.s (An.r []) (An.s (An.r []) (An.s (An.s (An.d [0, 1, 2, 3, 4, 5, 6, 7, 8, 9, 10, 11, 12, 13, 14, 15, 16, 17, 18, 19, 20, 21] [[66], [76]]) (An.s (An.s (An.r []) An.o) An.o)) (An.s (An.r []) An.o))))))))))))
def c_rec_Take (t0 t1 : Value) (w : World) (R : Value → World → Prop) : Prop :=
  efP P (Instr.alloc T_api_Block true (.tuple #[])) w fun t4 w =>
  bi BinOp.lss t1 (Value.int IntKind.i64 0) fun t14 =>
  jn1 (fun k0 =>
  gif t14 false
  (lenS t0 fun t18 =>
  bi BinOp.gtr t1 t18 fun t19 =>
  k0 t19 w)
  (k0 undef w)) fun _ t19_1 w =>
  pik t14 (Value.bool true) t19_1 fun t20 =>
  cnd t20
  (rdP P (Instr.build T_api_Block #[]) w fun t21 =>
  stN 34 t4 t21 w fun w =>
  ldN 34 t4 w.heap fun r1 =>
  R (Value.tuple #[r1, (Value.int IntKind.i64 0), (Value.int IntKind.i64 1)]) w)
  (slc 1 t0 (some t1) none fun t24 =>
  lenS t24 fun t26 =>
  bi BinOp.lss t26 (Value.int IntKind.i64 12) fun t27 =>
  cnd t27
  (rdP P (Instr.build T_api_Block #[]) w fun t28 =>
  stN 34 t4 t28 w fun w =>
  ldN 34 t4 w.heap fun r2 =>
  R (Value.tuple #[r2, (Value.int IntKind.i64 0), (Value.int IntKind.i64 11)]) w)
  (slc 1 t24 none (some (Value.int IntKind.i64 4)) fun t30 =>
  cal P f_pack_Read [t30] w fun t31 w =>
  cal P f_pack_Unpacker_Int [t31] w fun t32 w =>
  bi BinOp.gtr t32 (Value.int IntKind.u32 246) fun t34 =>
  cnd t34
  (rdP P (Instr.build T_api_Block #[]) w fun t35 =>
  stN 34 t4 t35 w fun w =>
  ldN 34 t4 w.heap fun r3 =>
  R (Value.tuple #[r3, (Value.int IntKind.i64 0), (Value.int IntKind.i64 90)]) w)
  (cvi IntKind.i64 t32 fun t37 =>
  bi BinOp.add (Value.int IntKind.i64 12) t37 fun t38 =>
  lenS t24 fun t40 =>
  bi BinOp.add t38 (Value.int IntKind.i64 8) fun t42 =>
  bi BinOp.lss t40 t42 fun t43 =>
  cnd t43
  (rdP P (Instr.build T_api_Block #[]) w fun t44 =>
  stN 34 t4 t44 w fun w =>
  ldN 34 t4 w.heap fun r4 =>
  R (Value.tuple #[r4, (Value.int IntKind.i64 0), (Value.int IntKind.i64 11)]) w)
  (slc 1 t24 (some (Value.int IntKind.i64 12)) (some t38) fun t48 =>
  cal P f_block_Parse [t48] w fun t49 w =>
  ext 0 t49 fun t50 =>
  ext 1 t49 fun t51 =>
  efP P (Instr.alloc T_api_Block true (.tuple #[])) w fun t10 w =>
  stN 34 t10 t50 w fun w =>
  slc 1 t24 none (some t38) fun t54 =>
  cal P f_sha_Sum [t54] w fun t55 w =>
  efP P (Instr.alloc T_api_ID true (.tuple #[])) w fun t12 w =>
  stN 32 t12 t55 w fun w =>
  drH w fun S w =>
  bi BinOp.neq t51 (Value.int IntKind.i64 0) fun t57 =>
  jn1 (fun k5 =>
  gif t57 false
  (fad 32 t10 fun t59 =>
  rdS S (fun w => ld1 t59 w.heap) fun t60 =>
  cvi IntKind.u64 t60 fun t61 =>
  slc 1 t24 (some (Value.int IntKind.i64 4)) (some (Value.int IntKind.i64 12)) fun t63 =>
  efS S (cal P f_pack_Read [t63]) w fun t64 w =>
  efS S (cal P f_pack_Unpacker_Long [t64]) w fun t65 w =>
  bi BinOp.neq t61 t65 fun t66 =>
  k5 t66 w)
  (k5 undef w)) fun _ t66_1 w =>
  pik t57 (Value.bool true) t66_1 fun t67 =>
  jn1 (fun k6 =>
  gif t67 false
  (sla 32 1 t12 none (some (Value.int IntKind.i64 8)) fun t69 =>
  bi BinOp.add t38 (Value.int IntKind.i64 8) fun t73 =>
  slc 1 t24 (some t38) (some t73) fun t74 =>
  efS S (cal P f_bytes_Equal [t69, t74]) w fun t75 w =>
  notB t75 fun t76 =>
  k6 t76 w)
  (k6 undef w)) fun _ t76_1 w =>
  pik t67 (Value.bool true) t76_1 fun t77 =>
  cnd t77
  (rdP P (Instr.build T_api_Block #[]) w fun t78 =>
  stN 34 t4 t78 w fun w =>
  ldN 34 t4 w.heap fun r7 =>
  R (Value.tuple #[r7, (Value.int IntKind.i64 0), (Value.int IntKind.i64 90)]) w)
  (ldN 34 t10 w.heap fun t79 =>
  bi BinOp.add t1 t38 fun t82 =>
  bi BinOp.add t82 (Value.int IntKind.i64 8) fun t83 =>
  stN 34 t4 t79 w fun w =>
  ldN 34 t4 w.heap fun r8 =>
  R (Value.tuple #[r8, t83, (Value.int IntKind.i64 0)]) w)))))
theorem e_rec_Take (t0 t1 : Value) (w : World) (R : Value → World → Prop) : intp P A_rec_Take (bodyOf Tryz.f92) (ini [t0, t1]) w (retK P Tryz.f92.results.toList R) (fun _ _ _ => False) (retK P Tryz.f92.results.toList R) = c_rec_Take t0 t1 w R := by kernel_rfl
theorem k_rec_Take : chk P Tryz.f92.ntmps A_rec_Take (bodyOf Tryz.f92) = true := by kernel_rfl
theorem l_rec_Take {t0 t1 : Value} {w : World} {R : Value → World → Prop} (h : c_rec_Take t0 t1 w R) : cal P f_rec_Take [t0, t1] w R :=
  calls_of mixed Tryz.func92 rfl (by kernel_rfl) k_rec_Take (Eq.mpr (e_rec_Take t0 t1 w R) h)
theorem s_rec_Take {t0 t1 : Value} {w : World} {Q : Value → World → Prop} (h : ∀ R : Value → World → Prop, (∀ v w', Q v w' → R v w') → c_rec_Take t0 t1 w R) : cal P f_rec_Take [t0, t1] w Q := l_rec_Take (h Q fun _ _ h => h)

/-- slices.All[[]flurry/api.Block,flurry/api.Block]$1 -/
def A_slices_All_api_Block_api_Block_1 : AnY := (AnY.s (AnY.c (An.r [])) (AnY.b (AnY.l [7] (AnY.s (AnY.c (An.r [])) (AnY.s (AnY.s AnY.o AnY.o) (AnY.s (AnY.b (AnY.s (AnY.c (An.r [])) (AnY.s AnY.y (AnY.s AnY.o AnY.o)))) (AnY.c (An.r []))))))))
def c_slices_All_api_Block_api_Block_1 (t0 t1 : Value) (w : World) (R : Value → World → Prop) : Prop :=
  ld1 t1 w.heap fun t5 =>
  lenS t5 fun t6 =>
  lp1 (Value.int IntKind.i64 0) w fun _ t7 w again0 =>
  bi BinOp.lss t7 t6 fun t8 =>
  cnd t8
  (ixs 34 t5 t7 fun t10 =>
  ldN 34 t10 w.heap fun t11 =>
  efP P (Instr.alloc T_api_Block true (.tuple #[])) w fun t4 w =>
  stN 34 t4 t11 w fun w =>
  ldN 34 t4 w.heap fun t14 =>
  calY P t0 [t7, t14] w fun t15 w =>
  notB t15 fun t16 =>
  cnd t16
  (R (Value.tuple #[]) w)
  (bi BinOp.add t7 (Value.int IntKind.i64 1) fun t17 =>
  again0 t17 w))
  (R (Value.tuple #[]) w)
theorem e_slices_All_api_Block_api_Block_1 (t0 t1 : Value) (w : World) (R : Value → World → Prop) : intpY P A_slices_All_api_Block_api_Block_1 (bodyOf Tryz.f93) (ini [t0, t1]) [] w (retY P Tryz.f93.results.toList R) (fun _ _ _ _ => False) (retY P Tryz.f93.results.toList R) = c_slices_All_api_Block_api_Block_1 t0 t1 w R := by kernel_rfl
theorem k_slices_All_api_Block_api_Block_1 : chkY P Tryz.f93.ntmps A_slices_All_api_Block_api_Block_1 (bodyOf Tryz.f93) = true := by kernel_rfl
theorem l_slices_All_api_Block_api_Block_1 {t0 t1 : Value} {w : World} {R : Value → World → Prop} (h : c_slices_All_api_Block_api_Block_1 t0 t1 w R) : cal P f_slices_All_api_Block_api_Block_1 [t0, t1] w R :=
  calls_ofY mixed Tryz.func93 rfl (by kernel_rfl) k_slices_All_api_Block_api_Block_1 (Eq.mpr (e_slices_All_api_Block_api_Block_1 t0 t1 w R) h)
theorem s_slices_All_api_Block_api_Block_1 {t0 t1 : Value} {w : World} {Q : Value → World → Prop} (h : ∀ R : Value → World → Prop, (∀ v w', Q v w' → R v w') → c_slices_All_api_Block_api_Block_1 t0 t1 w R) : cal P f_slices_All_api_Block_api_Block_1 [t0, t1] w Q := l_slices_All_api_Block_api_Block_1 (h Q fun _ _ h => h)

/-- flurry/flurryref02.padded -/
def A_ref02_padded : An := (An.s (An.r []) (An.s (An.r []) (An.s (An.r []) (An.s (An.b (An.l [3] (An.s (An.s (An.r []) (An.s An.o An.o)) (An.b (An.r []))))) (An.s (An.r []) (An.s (An.s (An.r []) (An.b (An.l [3, 5] (An.s (An.s (An.r []) (An.s An.o An.o)) (An.s (An.b (An.r [])) (An.r [])))))) (An.s (An.r []) An.o)))))))
def c_ref02_padded (t0 : Value) (w : World) (R : Value → World → Prop) : Prop :=
  efP P (Builtin.append_ #[T_sl_uint8, T_sl_uint8] T_sl_uint8 #[(Value.slice none 0 0), t0]) w fun t7 w =>
  efP P (Instr.buildSlice T_sl_uint8 1 #[(0, (Value.int IntKind.u8 128))]) w fun t9 w =>
  efP P (Builtin.append_ #[T_sl_uint8, T_sl_uint8] T_sl_uint8 #[t7, t9]) w fun t10 w =>
  lp1 t10 w fun _ t3 w again0 =>
  lenS t3 fun t12 =>
  bi BinOp.rem t12 (Value.int IntKind.i64 64) fun t13 =>
  bi BinOp.neq t13 (Value.int IntKind.i64 56) fun t14 =>
  cnd t14
  (efP P (Instr.buildSlice T_sl_uint8 1 #[(0, (Value.int IntKind.u8 0))]) w fun t16 w =>
  efP P (Builtin.append_ #[T_sl_uint8, T_sl_uint8] T_sl_uint8 #[t3, t16]) w fun t17 w =>
  again0 t17 w)
  (lenS t0 fun t19 =>
  cvi IntKind.u64 t19 fun t20 =>
  bi BinOp.mul t20 (Value.int IntKind.u64 8) fun t21 =>
  lp2 t3 (Value.int IntKind.i64 0) w fun _ t3_1 t5 w again1 =>
  bi BinOp.lss t5 (Value.int IntKind.i64 8) fun t23 =>
  cnd t23
  (bi BinOp.mul (Value.int IntKind.i64 8) t5 fun t29 =>
  bi BinOp.sub (Value.int IntKind.i64 56) t29 fun t30 =>
  cvi IntKind.u64 t30 fun t31 =>
  sh BinOp.shr t21 t31 fun t32 =>
  cvi IntKind.u8 t32 fun t33 =>
  efP P (Instr.buildSlice T_sl_uint8 1 #[(0, t33)]) w fun t34 w =>
  efP P (Builtin.append_ #[T_sl_uint8, T_sl_uint8] T_sl_uint8 #[t3_1, t34]) w fun t35 w =>
  bi BinOp.add t5 (Value.int IntKind.i64 1) fun t25 =>
  again1 t35 t25 w)
  (R t3_1 w))
theorem e_ref02_padded (t0 : Value) (w : World) (R : Value → World → Prop) : intp P A_ref02_padded (bodyOf Tryz.f94) (ini [t0]) w (retK P Tryz.f94.results.toList R) (fun _ _ _ => False) (retK P Tryz.f94.results.toList R) = c_ref02_padded t0 w R := by kernel_rfl
theorem k_ref02_padded : chk P Tryz.f94.ntmps A_ref02_padded (bodyOf Tryz.f94) = true := by kernel_rfl
theorem l_ref02_padded {t0 : Value} {w : World} {R : Value → World → Prop} (h : c_ref02_padded t0 w R) : cal P f_ref02_padded [t0] w R :=
  calls_of mixed Tryz.func94 rfl (by kernel_rfl) k_ref02_padded (Eq.mpr (e_ref02_padded t0 w R) h)
theorem s_ref02_padded {t0 : Value} {w : World} {Q : Value → World → Prop} (h : ∀ R : Value → World → Prop, (∀ v w', Q v w' → R v w') → c_ref02_padded t0 w R) : cal P f_ref02_padded [t0] w Q := l_ref02_padded (h Q fun _ _ h => h)

/-- flurry/flurryref02.goes -/
def A_ref02_goes : An := (An.s (An.r []) (An.s (An.r []) (An.s (An.r []) (An.s (An.r []) (An.s (An.s (An.r []) (An.b (An.l [8] (An.s (An.s (An.r []) (An.s An.o An.o)) (An.s (An.b (An.s (An.r []) (An.s (An.r []) (An.s (An.d [0, 1, 2, 4, 7, 11, 12, 13, 14, 15, 16, 17, 18, 19, 20, 22, 23, 24, 26, 27, 28, 3, 5, 6, 8, 9, 10, 21, 25, 29, 30] []) (An.s (An.d [0, 2, 5, 8, 9, 10, 11, 12, 13, 14, 15, 16, 17, 18, 19, 20, 21, 22, 1, 3, 4, 6, 7, 23, 24] []) (An.r [])))))) (An.r [])))))) (An.s (An.s (An.r []) (An.b (An.l [13] (An.s (An.s (An.r []) (An.s An.o An.o)) (An.s (An.b (An.dc [0, 1, 2, 3, 4, 5, 6, 7, 8] [8] [])) (An.r [])))))) (An.s (An.r []) An.o)))))))
def c_ref02_goes (t0 t1 : Value) (w : World) (R : Value → World → Prop) : Prop :=
  bx T_a8_uint32 t0 w fun t2 w =>
  efP P (Instr.alloc T_a8_uint32 true (.tuple #[])) w fun t4 w =>
  cal P f_ref02_words [t1] w fun t15 w =>
  efP P (Instr.alloc T_a64_uint32 true (.tuple #[])) w fun t5 w =>
  stN 64 t5 t15 w fun w =>
  cal P f_ref02_constants [] w fun t16 w =>
  efP P (Instr.alloc T_a64_uint32 true (.tuple #[])) w fun t6 w =>
  stN 64 t6 t16 w fun w =>
  ldN 8 t2 w.heap fun t17 =>
  efP P (Instr.alloc T_a8_uint32 true (.tuple #[])) w fun t7 w =>
  stN 8 t7 t17 w fun w =>
  lp1 (Value.int IntKind.i64 0) w fun _ t8 w again0 =>
  bi BinOp.lss t8 (Value.int IntKind.i64 64) fun t19 =>
  cnd t19
  (ixa 8 1 t7 (Value.int IntKind.i64 4) fun t22 =>
  ld1 t22 w.heap fun t23 =>
  ixa 8 1 t7 (Value.int IntKind.i64 0) fun t24 =>
  ld1 t24 w.heap fun t25 =>
  drH w fun S w =>
  ixa 8 1 t7 (Value.int IntKind.i64 7) fun t26 =>
  rdS S (fun w => ld1 t26 w.heap) fun t27 =>
  ixa 8 1 t7 (Value.int IntKind.i64 5) fun t38 =>
  rdS S (fun w => ld1 t38 w.heap) fun t39 =>
  bi BinOp.and t23 t39 fun t40 =>
  rdS S (rdP P (Op.unary UnOp.xor t23)) fun t42 =>
  ixa 8 1 t7 (Value.int IntKind.i64 6) fun t43 =>
  rdS S (fun w => ld1 t43 w.heap) fun t44 =>
  bi BinOp.and t42 t44 fun t45 =>
  bi BinOp.xor t40 t45 fun t46 =>
  ixa 64 1 t6 t8 fun t49 =>
  rdS S (fun w => ld1 t49 w.heap) fun t50 =>
  ixa 64 1 t5 t8 fun t53 =>
  rdS S (fun w => ld1 t53 w.heap) fun t54 =>
  efS S (cal P f_ref02_turned [t23, (Value.int IntKind.u64 6)]) w fun t29 w =>
  efS S (cal P f_ref02_turned [t23, (Value.int IntKind.u64 11)]) w fun t31 w =>
  bi BinOp.xor t29 t31 fun t32 =>
  efS S (cal P f_ref02_turned [t23, (Value.int IntKind.u64 25)]) w fun t34 w =>
  bi BinOp.xor t32 t34 fun t35 =>
  bi BinOp.add t27 t35 fun t36 =>
  bi BinOp.add t36 t46 fun t47 =>
  bi BinOp.add t47 t50 fun t51 =>
  bi BinOp.add t51 t54 fun t55 =>
  drH w fun S w =>
  ixa 8 1 t7 (Value.int IntKind.i64 1) fun t65 =>
  rdS S (fun w => ld1 t65 w.heap) fun t66 =>
  bi BinOp.and t25 t66 fun t67 =>
  ixa 8 1 t7 (Value.int IntKind.i64 2) fun t69 =>
  rdS S (fun w => ld1 t69 w.heap) fun t70 =>
  bi BinOp.and t25 t70 fun t71 =>
  bi BinOp.xor t67 t71 fun t72 =>
  ixa 8 1 t7 (Value.int IntKind.i64 1) fun t73 =>
  rdS S (fun w => ld1 t73 w.heap) fun t74 =>
  ixa 8 1 t7 (Value.int IntKind.i64 2) fun t75 =>
  rdS S (fun w => ld1 t75 w.heap) fun t76 =>
  bi BinOp.and t74 t76 fun t77 =>
  bi BinOp.xor t72 t77 fun t78 =>
  efS S (cal P f_ref02_turned [t25, (Value.int IntKind.u64 2)]) w fun t57 w =>
  efS S (cal P f_ref02_turned [t25, (Value.int IntKind.u64 13)]) w fun t59 w =>
  bi BinOp.xor t57 t59 fun t60 =>
  efS S (cal P f_ref02_turned [t25, (Value.int IntKind.u64 22)]) w fun t62 w =>
  bi BinOp.xor t60 t62 fun t63 =>
  bi BinOp.add t63 t78 fun t79 =>
  bi BinOp.add t55 t79 fun t82 =>
  ixa 8 1 t7 (Value.int IntKind.i64 0) fun t83 =>
  ld1 t83 w.heap fun t84 =>
  ixa 8 1 t7 (Value.int IntKind.i64 1) fun t85 =>
  ld1 t85 w.heap fun t86 =>
  ixa 8 1 t7 (Value.int IntKind.i64 2) fun t87 =>
  ld1 t87 w.heap fun t88 =>
  ixa 8 1 t7 (Value.int IntKind.i64 3) fun t89 =>
  ld1 t89 w.heap fun t90 =>
  bi BinOp.add t90 t55 fun t92 =>
  ixa 8 1 t7 (Value.int IntKind.i64 4) fun t93 =>
  ld1 t93 w.heap fun t94 =>
  ixa 8 1 t7 (Value.int IntKind.i64 5) fun t95 =>
  ld1 t95 w.heap fun t96 =>
  ixa 8 1 t7 (Value.int IntKind.i64 6) fun t97 =>
  ld1 t97 w.heap fun t98 =>
  rdP P (Instr.build T_a8_uint32 #[(0, t82), (1, t84), (2, t86), (3, t88), (4, t92), (5, t94), (6, t96), (7, t98)]) w fun t99 =>
  stN 8 t7 t99 w fun w =>
  bi BinOp.add t8 (Value.int IntKind.i64 1) fun t21 =>
  again0 t21 w)
  (lp1 (Value.int IntKind.i64 0) w fun _ t13 w again1 =>
  bi BinOp.lss t13 (Value.int IntKind.i64 8) fun t101 =>
  cnd t101
  (drH w fun S w =>
  ixa 8 1 t2 t13 fun t105 =>
  rdS S (fun w => ld1 t105 w.heap) fun t106 =>
  ixa 8 1 t7 t13 fun t108 =>
  rdS S (fun w => ld1 t108 w.heap) fun t109 =>
  bi BinOp.add t106 t109 fun t110 =>
  ixa 8 1 t2 t13 fun t111 =>
  efC (fun w K => st1 t111 t110 w (K undef)) w fun S _ w =>
  bi BinOp.add t13 (Value.int IntKind.i64 1) fun t103 =>
  again1 t103 w)
  (ldN 8 t2 w.heap fun t112 =>
  stN 8 t4 t112 w fun w =>
  ldN 8 t4 w.heap fun r2 =>
  R r2 w))
theorem e_ref02_goes (t0 t1 : Value) (w : World) (R : Value → World → Prop) : intp P A_ref02_goes (bodyOf Tryz.f95) (ini [t0, t1]) w (retK P Tryz.f95.results.toList R) (fun _ _ _ => False) (retK P Tryz.f95.results.toList R) = c_ref02_goes t0 t1 w R := by kernel_rfl
theorem k_ref02_goes : chk P Tryz.f95.ntmps A_ref02_goes (bodyOf Tryz.f95) = true := by kernel_rfl
theorem l_ref02_goes {t0 t1 : Value} {w : World} {R : Value → World → Prop} (h : c_ref02_goes t0 t1 w R) : cal P f_ref02_goes [t0, t1] w R :=
  calls_of mixed Tryz.func95 rfl (by kernel_rfl) k_ref02_goes (Eq.mpr (e_ref02_goes t0 t1 w R) h)
theorem s_ref02_goes {t0 t1 : Value} {w : World} {Q : Value → World → Prop} (h : ∀ R : Value → World → Prop, (∀ v w', Q v w' → R v w') → c_ref02_goes t0 t1 w R) : cal P f_ref02_goes [t0, t1] w Q := l_ref02_goes (h Q fun _ _ h => h)

/-- flurry/flurryref09.Take -/
def A_ref09_Take : An := (An.s (An.r []) (An.s (An.s (An.r [[20]]) (An.s (An.s (An.r []) An.o) An.o)) (An.s (An.r []) (An.s (An.s (An.r []) (An.s (An.s (An.r []) An.o) An.o)) (An.s (An.r []) (An.s (An.s (An.r []) (An.s (An.s (An.r []) An.o) An.o)) (An.s (An.r []) (An.s (An.s (An.r []) (An.s (An.s (An.r []) An.o) An.o)) (An.s (An.r []) (An.s (An.s (An.r []) (An.s (An.s (An.r []) An.o) An.o)) (An.s (An.r []) (An.s (An.s (An.r []) (An.s (An.s (An.r []) An.o) An.o)) (An.s (An.r []) An.o)))))))))))))
def c_ref09_Take (t0 t1 : Value) (w : World) (R : Value → World → Prop) : Prop :=
  efP P (Instr.alloc T_api_Block true (.tuple #[])) w fun t4 w =>
  bi BinOp.lss t1 (Value.int IntKind.i64 0) fun t15 =>
  jn1 (fun k0 =>
  gif t15 false
  (lenS t0 fun t19 =>
  bi BinOp.gtr t1 t19 fun t20 =>
  k0 t20 w)
  (k0 undef w)) fun _ t20_1 w =>
  pik t15 (Value.bool true) t20_1 fun t21 =>
  cnd t21
  (rdP P (Instr.build T_api_Block #[]) w fun t22 =>
  stN 34 t4 t22 w fun w =>
  ldN 34 t4 w.heap fun r1 =>
  R (Value.tuple #[r1, (Value.int IntKind.i64 0), (Value.int IntKind.i64 1)]) w)
  (slc 1 t0 (some t1) none fun t25 =>
  lenS t25 fun t27 =>
  bi BinOp.lss t27 (Value.int IntKind.i64 12) fun t28 =>
  cnd t28
  (rdP P (Instr.build T_api_Block #[]) w fun t29 =>
  stN 34 t4 t29 w fun w =>
  ldN 34 t4 w.heap fun r2 =>
  R (Value.tuple #[r2, (Value.int IntKind.i64 0), (Value.int IntKind.i64 11)]) w)
  (slc 1 t25 none (some (Value.int IntKind.i64 4)) fun t31 =>
  cal P f_ref01_Val [t31] w fun t32 w =>
  bi BinOp.gtr t32 (Value.int IntKind.u64 246) fun t34 =>
  cnd t34
  (rdP P (Instr.build T_api_Block #[]) w fun t35 =>
  stN 34 t4 t35 w fun w =>
  ldN 34 t4 w.heap fun r3 =>
  R (Value.tuple #[r3, (Value.int IntKind.i64 0), (Value.int IntKind.i64 90)]) w)
  (cvi IntKind.i64 t32 fun t37 =>
  bi BinOp.add (Value.int IntKind.i64 12) t37 fun t38 =>
  bi BinOp.add t38 (Value.int IntKind.i64 8) fun t39 =>
  lenS t25 fun t41 =>
  bi BinOp.lss t41 t39 fun t43 =>
  cnd t43
  (rdP P (Instr.build T_api_Block #[]) w fun t44 =>
  stN 34 t4 t44 w fun w =>
  ldN 34 t4 w.heap fun r4 =>
  R (Value.tuple #[r4, (Value.int IntKind.i64 0), (Value.int IntKind.i64 11)]) w)
  (cvi IntKind.i64 t32 fun t48 =>
  bi BinOp.add (Value.int IntKind.i64 12) t48 fun t49 =>
  slc 1 t25 (some (Value.int IntKind.i64 12)) (some t49) fun t50 =>
  cal P f_ref03_Parse [t50] w fun t51 w =>
  ext 0 t51 fun t52 =>
  ext 1 t51 fun t53 =>
  efP P (Instr.alloc T_api_Block true (.tuple #[])) w fun t10 w =>
  stN 34 t10 t52 w fun w =>
  bi BinOp.neq t53 (Value.int IntKind.i64 0) fun t55 =>
  cnd t55
  (rdP P (Instr.build T_api_Block #[]) w fun t56 =>
  stN 34 t4 t56 w fun w =>
  ldN 34 t4 w.heap fun r5 =>
  R (Value.tuple #[r5, (Value.int IntKind.i64 0), (Value.int IntKind.i64 90)]) w)
  (ldN 34 t10 w.heap fun t58 =>
  cal P f_ref09_Bytes [t58] w fun t59 w =>
  ext 0 t59 fun t60 =>
  ext 1 t59 fun t61 =>
  drw w fun w =>
  rdP P (convert T_sl_uint8 T_string t60) w fun t63 =>
  slc 1 t25 none (some t39) fun t66 =>
  rdP P (convert T_sl_uint8 T_string t66) w fun t67 =>
  rdP P (eqS BinOp.neq T_string (Operand.tmp 63) (Operand.tmp 67) t63 t67) w fun t68 =>
  cnd t68
  (rdP P (Instr.build T_api_Block #[]) w fun t69 =>
  stN 34 t4 t69 w fun w =>
  ldN 34 t4 w.heap fun r6 =>
  R (Value.tuple #[r6, (Value.int IntKind.i64 0), (Value.int IntKind.i64 90)]) w)
  (ldN 34 t10 w.heap fun t70 =>
  bi BinOp.add t1 t39 fun t73 =>
  stN 34 t4 t70 w fun w =>
  ldN 34 t4 w.heap fun r7 =>
  R (Value.tuple #[r7, t73, (Value.int IntKind.i64 0)]) w))))))
theorem e_ref09_Take (t0 t1 : Value) (w : World) (R : Value → World → Prop) : intp P A_ref09_Take (bodyOf Tryz.f96) (ini [t0, t1]) w (retK P Tryz.f96.results.toList R) (fun _ _ _ => False) (retK P Tryz.f96.results.toList R) = c_ref09_Take t0 t1 w R := by kernel_rfl
theorem k_ref09_Take : chk P Tryz.f96.ntmps A_ref09_Take (bodyOf Tryz.f96) = true := by kernel_rfl
theorem l_ref09_Take {t0 t1 : Value} {w : World} {R : Value → World → Prop} (h : c_ref09_Take t0 t1 w R) : cal P f_ref09_Take [t0, t1] w R :=
  calls_of mixed Tryz.func96 rfl (by kernel_rfl) k_ref09_Take (Eq.mpr (e_ref09_Take t0 t1 w R) h)
theorem s_ref09_Take {t0 t1 : Value} {w : World} {Q : Value → World → Prop} (h : ∀ R : Value → World → Prop, (∀ v w', Q v w' → R v w') → c_ref09_Take t0 t1 w R) : cal P f_ref09_Take [t0, t1] w Q := l_ref09_Take (h Q fun _ _ h => h)

/-- (*flurry/pack.Packer).Short -/
def A_pack_Packer_Short : An := (An.r [])
def c_pack_Packer_Short (t0 t1 : Value) (w : World) (R : Value → World → Prop) : Prop :=
  cvi IntKind.u64 t1 fun t6 =>
  cal P f_pack_number [(Value.int IntKind.i64 2), t6] w fun t7 w =>
  cal P f_pack_Packer_put [t0, t7, (Value.slice none 0 0)] w fun t8 w =>
  R (Value.tuple #[]) w
theorem e_pack_Packer_Short (t0 t1 : Value) (w : World) (R : Value → World → Prop) : intp P A_pack_Packer_Short (bodyOf Tryz.f97) (ini [t0, t1]) w (retK P Tryz.f97.results.toList R) (fun _ _ _ => False) (retK P Tryz.f97.results.toList R) = c_pack_Packer_Short t0 t1 w R := by kernel_rfl
theorem k_pack_Packer_Short : chk P Tryz.f97.ntmps A_pack_Packer_Short (bodyOf Tryz.f97) = true := by kernel_rfl
theorem l_pack_Packer_Short {t0 t1 : Value} {w : World} {R : Value → World → Prop} (h : c_pack_Packer_Short t0 t1 w R) : cal P f_pack_Packer_Short [t0, t1] w R :=
  calls_of mixed Tryz.func97 rfl (by kernel_rfl) k_pack_Packer_Short (Eq.mpr (e_pack_Packer_Short t0 t1 w R) h)
theorem s_pack_Packer_Short {t0 t1 : Value} {w : World} {Q : Value → World → Prop} (h : ∀ R : Value → World → Prop, (∀ v w', Q v w' → R v w') → c_pack_Packer_Short t0 t1 w R) : cal P f_pack_Packer_Short [t0, t1] w Q := l_pack_Packer_Short (h Q fun _ _ h => h)

/-- (*flurry/pack.Packer).Bytes -/
def A_pack_Packer_Bytes : An := (An.r [])
def c_pack_Packer_Bytes (t0 t1 : Value) (w : World) (R : Value → World → Prop) : Prop :=
  lenS t1 fun t6 =>
  cvi IntKind.u64 t6 fun t7 =>
  cal P f_pack_number [(Value.int IntKind.i64 4), t7] w fun t8 w =>
  cal P f_pack_Packer_put [t0, t8, t1] w fun t10 w =>
  R (Value.tuple #[]) w
theorem e_pack_Packer_Bytes (t0 t1 : Value) (w : World) (R : Value → World → Prop) : intp P A_pack_Packer_Bytes (bodyOf Tryz.f98) (ini [t0, t1]) w (retK P Tryz.f98.results.toList R) (fun _ _ _ => False) (retK P Tryz.f98.results.toList R) = c_pack_Packer_Bytes t0 t1 w R := by kernel_rfl
theorem k_pack_Packer_Bytes : chk P Tryz.f98.ntmps A_pack_Packer_Bytes (bodyOf Tryz.f98) = true := by kernel_rfl
theorem l_pack_Packer_Bytes {t0 t1 : Value} {w : World} {R : Value → World → Prop} (h : c_pack_Packer_Bytes t0 t1 w R) : cal P f_pack_Packer_Bytes [t0, t1] w R :=
  calls_of mixed Tryz.func98 rfl (by kernel_rfl) k_pack_Packer_Bytes (Eq.mpr (e_pack_Packer_Bytes t0 t1 w R) h)
theorem s_pack_Packer_Bytes {t0 t1 : Value} {w : World} {Q : Value → World → Prop} (h : ∀ R : Value → World → Prop, (∀ v w', Q v w' → R v w') → c_pack_Packer_Bytes t0 t1 w R) : cal P f_pack_Packer_Bytes [t0, t1] w Q := l_pack_Packer_Bytes (h Q fun _ _ h => h)

/-- (*flurry/pack.Packer).put -/
def A_pack_Packer_put : An := (An.s (An.s (An.r []) (An.s An.o An.o)) (An.s (An.r []) (An.s (An.s (An.r [[32]]) (An.s (An.s (An.r []) An.o) An.o)) (An.r []))))
def c_pack_Packer_put (t0 t1 t2 : Value) (w : World) (R : Value → World → Prop) : Prop :=
  cal P f_pack_Packer_works [t0] w fun t8 w =>
  notB t8 fun t9 =>
  cnd t9
  (R (Value.tuple #[]) w)
  (drw w fun w =>
  nilc t0 fun t11 =>
  fad 3 t11 fun t12 =>
  ld1 t12 w.heap fun t13 =>
  nilc t0 fun t15 =>
  fad 0 t15 fun t16 =>
  fad 1 t16 fun t17 =>
  ld1 t17 w.heap fun t18 =>
  lenS t18 fun t19 =>
  bi BinOp.sub t13 t19 fun t20 =>
  lenS t1 fun t22 =>
  bi BinOp.gtr t22 t20 fun t24 =>
  jn1 (fun k0 =>
  gif t24 false
  (lenS t2 fun t27 =>
  lenS t1 fun t30 =>
  bi BinOp.sub t20 t30 fun t31 =>
  bi BinOp.gtr t27 t31 fun t32 =>
  k0 t32 w)
  (k0 undef w)) fun _ t32_1 w =>
  pik t24 (Value.bool true) t32_1 fun t33 =>
  cnd t33
  (nilc t0 fun t35 =>
  fad 0 t35 fun t36 =>
  cal P f_pack_kept_fails [t36, (Value.int IntKind.i64 10)] w fun t37 w =>
  R (Value.tuple #[]) w)
  (nilc t0 fun t40 =>
  fad 0 t40 fun t41 =>
  fad 1 t41 fun t42 =>
  ld1 t42 w.heap fun t43 =>
  efP P (Builtin.append_ #[T_sl_uint8, T_sl_uint8] T_sl_uint8 #[t43, t1]) w fun t45 w =>
  efP P (Builtin.append_ #[T_sl_uint8, T_sl_uint8] T_sl_uint8 #[t45, t2]) w fun t47 w =>
  nilc t0 fun t48 =>
  fad 0 t48 fun t49 =>
  fad 1 t49 fun t50 =>
  st1 t50 t47 w fun w =>
  R (Value.tuple #[]) w))
theorem e_pack_Packer_put (t0 t1 t2 : Value) (w : World) (R : Value → World → Prop) : intp P A_pack_Packer_put (bodyOf Tryz.f99) (ini [t0, t1, t2]) w (retK P Tryz.f99.results.toList R) (fun _ _ _ => False) (retK P Tryz.f99.results.toList R) = c_pack_Packer_put t0 t1 t2 w R := by kernel_rfl
theorem k_pack_Packer_put : chk P Tryz.f99.ntmps A_pack_Packer_put (bodyOf Tryz.f99) = true := by kernel_rfl
theorem l_pack_Packer_put {t0 t1 t2 : Value} {w : World} {R : Value → World → Prop} (h : c_pack_Packer_put t0 t1 t2 w R) : cal P f_pack_Packer_put [t0, t1, t2] w R :=
  calls_of mixed Tryz.func99 rfl (by kernel_rfl) k_pack_Packer_put (Eq.mpr (e_pack_Packer_put t0 t1 t2 w R) h)
theorem s_pack_Packer_put {t0 t1 t2 : Value} {w : World} {Q : Value → World → Prop} (h : ∀ R : Value → World → Prop, (∀ v w', Q v w' → R v w') → c_pack_Packer_put t0 t1 t2 w R) : cal P f_pack_Packer_put [t0, t1, t2] w Q := l_pack_Packer_put (h Q fun _ _ h => h)

/-- flurry/pack.number -/
def A_pack_number : An := (An.s (An.r []) (An.s (An.r []) (An.s (An.s (An.r []) (An.b (An.l [11] (An.s (An.r []) (An.s (An.s An.o An.o) (An.s (An.b (An.s (An.r []) (An.r []))) (An.r []))))))) (An.s (An.r []) An.o))))
def c_pack_number (t0 t1 : Value) (w : World) (R : Value → World → Prop) : Prop :=
  efP P (Instr.makeSlice T_sl_uint8 t0 t0) w fun t8 w =>
  lenS t8 fun t10 =>
  lp1 (Value.int IntKind.i64 0) w fun _ t11 w again0 =>
  bi BinOp.lss t11 t10 fun t12 =>
  cnd t12
  (bi BinOp.sub t0 (Value.int IntKind.i64 1) fun t16 =>
  bi BinOp.sub t16 t11 fun t18 =>
  bi BinOp.mul (Value.int IntKind.i64 8) t11 fun t21 =>
  sh BinOp.shr t1 t21 fun t22 =>
  cvi IntKind.u8 t22 fun t23 =>
  ixs 1 t8 t18 fun t24 =>
  st1 t24 t23 w fun w =>
  bi BinOp.add t11 (Value.int IntKind.i64 1) fun t25 =>
  again0 t25 w)
  (R t8 w)
theorem e_pack_number (t0 t1 : Value) (w : World) (R : Value → World → Prop) : intp P A_pack_number (bodyOf Tryz.f100) (ini [t0, t1]) w (retK P Tryz.f100.results.toList R) (fun _ _ _ => False) (retK P Tryz.f100.results.toList R) = c_pack_number t0 t1 w R := by kernel_rfl
theorem k_pack_number : chk P Tryz.f100.ntmps A_pack_number (bodyOf Tryz.f100) = true := by kernel_rfl
theorem l_pack_number {t0 t1 : Value} {w : World} {R : Value → World → Prop} (h : c_pack_number t0 t1 w R) : cal P f_pack_number [t0, t1] w R :=
  calls_of mixed Tryz.func100 rfl (by kernel_rfl) k_pack_number (Eq.mpr (e_pack_number t0 t1 w R) h)
theorem s_pack_number {t0 t1 : Value} {w : World} {Q : Value → World → Prop} (h : ∀ R : Value → World → Prop, (∀ v w', Q v w' → R v w') → c_pack_number t0 t1 w R) : cal P f_pack_number [t0, t1] w Q := l_pack_number (h Q fun _ _ h => h)

/-- (*flurry/pack.Packer).Err -/
def A_pack_Packer_Err : An := (An.s (An.r []) (An.s (An.s (An.r [[11]]) (An.s (An.s (An.r []) An.o) An.o)) (An.s (An.r []) An.o)))
def c_pack_Packer_Err (t0 : Value) (w : World) (R : Value → World → Prop) : Prop :=
  nilP false t0 fun t4 =>
  jn1 (fun k0 =>
  gif t4 false
  (nilc t0 fun t7 =>
  fad 0 t7 fun t8 =>
  fad 0 t8 fun t9 =>
  ld1 t9 w.heap fun t10 =>
  notB t10 fun t11 =>
  k0 t11 w)
  (k0 undef w)) fun _ t11_1 w =>
  pik t4 (Value.bool true) t11_1 fun t12 =>
  cnd t12
  (R (Value.int IntKind.i64 2) w)
  (nilc t0 fun t14 =>
  fad 0 t14 fun t15 =>
  fad 2 t15 fun t16 =>
  ld1 t16 w.heap fun t17 =>
  R t17 w)
theorem e_pack_Packer_Err (t0 : Value) (w : World) (R : Value → World → Prop) : intp P A_pack_Packer_Err (bodyOf Tryz.f101) (ini [t0]) w (retK P Tryz.f101.results.toList R) (fun _ _ _ => False) (retK P Tryz.f101.results.toList R) = c_pack_Packer_Err t0 w R := by kernel_rfl
theorem k_pack_Packer_Err : chk P Tryz.f101.ntmps A_pack_Packer_Err (bodyOf Tryz.f101) = true := by kernel_rfl
theorem l_pack_Packer_Err {t0 : Value} {w : World} {R : Value → World → Prop} (h : c_pack_Packer_Err t0 w R) : cal P f_pack_Packer_Err [t0] w R :=
  calls_of mixed Tryz.func101 rfl (by kernel_rfl) k_pack_Packer_Err (Eq.mpr (e_pack_Packer_Err t0 w R) h)
theorem s_pack_Packer_Err {t0 : Value} {w : World} {Q : Value → World → Prop} (h : ∀ R : Value → World → Prop, (∀ v w', Q v w' → R v w') → c_pack_Packer_Err t0 w R) : cal P f_pack_Packer_Err [t0] w Q := l_pack_Packer_Err (h Q fun _ _ h => h)

/-- flurry/sha.New -/
def A_sha_New : An := (An.s (An.r []) (An.s (An.r []) An.o))
def c_sha_New (w : World) (R : Value → World → Prop) : Prop :=
  cal P f_sha_first [] w fun t1 w =>
  rdP P (Instr.build T_sha_State #[(0, t1), (3, (Value.bool true))]) w fun t2 =>
  bx T_sha_State t2 w fun t3 w =>
  R t3 w
theorem e_sha_New (w : World) (R : Value → World → Prop) : intp P A_sha_New (bodyOf Tryz.f102) (ini []) w (retK P Tryz.f102.results.toList R) (fun _ _ _ => False) (retK P Tryz.f102.results.toList R) = c_sha_New  w R := by kernel_rfl
theorem k_sha_New : chk P Tryz.f102.ntmps A_sha_New (bodyOf Tryz.f102) = true := by kernel_rfl
theorem l_sha_New {w : World} {R : Value → World → Prop} (h : c_sha_New w R) : cal P f_sha_New [] w R :=
  calls_of mixed Tryz.func102 rfl (by kernel_rfl) k_sha_New (Eq.mpr (e_sha_New w R) h)
theorem s_sha_New {w : World} {Q : Value → World → Prop} (h : ∀ R : Value → World → Prop, (∀ v w', Q v w' → R v w') → c_sha_New w R) : cal P f_sha_New [] w Q := l_sha_New (h Q fun _ _ h => h)

/-- (*flurry/sha.State).Write -/
def A_sha_State_Write : An := (An.s (An.r []) (An.s (An.s (An.r []) (An.s (An.s (An.r []) An.o) An.o)) (An.s (An.s (An.r []) (An.b (An.l [12] (An.s (An.r []) (An.s (An.s An.o An.o) (An.s (An.b (An.s (An.r []) (An.s (An.r []) (An.s (An.r []) (An.s (An.b (An.l [7] (An.s (An.s (An.r []) (An.s An.o An.o)) (An.b (An.s (An.dc [0, 1, 2, 3, 4, 5, 6, 7, 8, 9, 10] [7, 10] []) (An.r [])))))) (An.r [])))))) (An.r []))))))) (An.s (An.r []) An.o))))
def c_sha_State_Write (t0 t1 : Value) (w : World) (R : Value → World → Prop) : Prop :=
  cal P f_sha_State_none [t0] w fun t9 w =>
  cnd t9
  (R (Value.int IntKind.i64 2) w)
  (lenS t1 fun t11 =>
  lp1 (Value.int IntKind.i64 0) w fun _ t12 w again0 =>
  bi BinOp.lss t12 t11 fun t13 =>
  cnd t13
  (ixs 1 t1 t12 fun t14 =>
  ld1 t14 w.heap fun t15 =>
  nilc t0 fun t17 =>
  fad 9 t17 fun t18 =>
  ld1 t18 w.heap fun t19 =>
  lenS t15 fun t21 =>
  bi BinOp.add t19 t21 fun t22 =>
  nilc t0 fun t23 =>
  fad 9 t23 fun t24 =>
  st1 t24 t22 w fun w =>
  nilc t0 fun t26 =>
  fad 8 t26 fun t27 =>
  ld1 t27 w.heap fun t28 =>
  efP P (Instr.buildSlice T_sl_sl_uint8 2 #[(0, t28), (1, t15)]) w fun t30 w =>
  cal P f_slices_Concat_byte_byte [t30] w fun t31 w =>
  lp1 t31 w fun _ t7 w again1 =>
  lenS t7 fun t33 =>
  bi BinOp.geq t33 (Value.int IntKind.i64 64) fun t34 =>
  cnd t34
  (drH w fun S w =>
  nilc t0 fun t37 =>
  fad 0 t37 fun t38 =>
  rdS S (fun w => ldN 8 t38 w.heap) fun t39 =>
  slc 1 t7 none (some (Value.int IntKind.i64 64)) fun t41 =>
  efC (cal P f_sha_mixed [t39, t41]) w fun S t42 w =>
  nilc t0 fun t43 =>
  fad 0 t43 fun t44 =>
  efC (fun w K => stN 8 t44 t42 w (K undef)) w fun S _ w =>
  slc 1 t7 (some (Value.int IntKind.i64 64)) none fun t46 =>
  again1 t46 w)
  (cal P f_bytes_Clone [t7] w fun t49 w =>
  nilc t0 fun t50 =>
  fad 8 t50 fun t51 =>
  st1 t51 t49 w fun w =>
  bi BinOp.add t12 (Value.int IntKind.i64 1) fun t52 =>
  again0 t52 w))
  (R (Value.int IntKind.i64 0) w))
theorem e_sha_State_Write (t0 t1 : Value) (w : World) (R : Value → World → Prop) : intp P A_sha_State_Write (bodyOf Tryz.f103) (ini [t0, t1]) w (retK P Tryz.f103.results.toList R) (fun _ _ _ => False) (retK P Tryz.f103.results.toList R) = c_sha_State_Write t0 t1 w R := by kernel_rfl
theorem k_sha_State_Write : chk P Tryz.f103.ntmps A_sha_State_Write (bodyOf Tryz.f103) = true := by kernel_rfl
theorem l_sha_State_Write {t0 t1 : Value} {w : World} {R : Value → World → Prop} (h : c_sha_State_Write t0 t1 w R) : cal P f_sha_State_Write [t0, t1] w R :=
  calls_of mixed Tryz.func103 rfl (by kernel_rfl) k_sha_State_Write (Eq.mpr (e_sha_State_Write t0 t1 w R) h)
theorem s_sha_State_Write {t0 t1 : Value} {w : World} {Q : Value → World → Prop} (h : ∀ R : Value → World → Prop, (∀ v w', Q v w' → R v w') → c_sha_State_Write t0 t1 w R) : cal P f_sha_State_Write [t0, t1] w Q := l_sha_State_Write (h Q fun _ _ h => h)

/-- (*flurry/sha.State).Sum -/
def A_sha_State_Sum : An := (An.s (An.r []) (An.s (An.r []) (An.s (An.s (An.r []) (An.s (An.s (An.r []) An.o) An.o)) (An.s (An.r []) (An.s (An.b (An.l [4] (An.s (An.s (An.r []) (An.s An.o An.o)) (An.b (An.r []))))) (An.s (An.r []) (An.s (An.s (An.r []) (An.b (An.l [4, 33] (An.s (An.r []) (An.s (An.s An.o An.o) (An.s (An.b (An.s (An.r []) (An.r []))) (An.r []))))))) (An.s (An.r []) (An.s (An.b (An.l [4] (An.s (An.s (An.r []) (An.s An.o An.o)) (An.s (An.b (An.dc [0, 1, 2, 3, 4] [3, 4] [])) (An.r []))))) (An.s (An.s (An.r []) (An.b (An.l [60] (An.s (An.r []) (An.s (An.s An.o An.o) (An.s (An.b (An.s (An.r []) (An.r []))) (An.r []))))))) (An.s (An.r []) An.o)))))))))))
def c_sha_State_Sum (t0 : Value) (w : World) (R : Value → World → Prop) : Prop :=
  efP P (Instr.alloc T_api_ID true (.tuple #[])) w fun t2 w =>
  efP P (Instr.alloc T_api_ID true (.tuple #[])) w fun t3 w =>
  cal P f_sha_State_none [t0] w fun t11 w =>
  cnd t11
  (ldN 32 t3 w.heap fun t12 =>
  stN 32 t2 t12 w fun w =>
  ldN 32 t2 w.heap fun r0 =>
  R r0 w)
  (nilc t0 fun t14 =>
  fad 8 t14 fun t15 =>
  ld1 t15 w.heap fun t16 =>
  cal P f_bytes_Clone [t16] w fun t17 w =>
  efP P (Instr.buildSlice T_sl_uint8 1 #[(0, (Value.int IntKind.u8 128))]) w fun t18 w =>
  efP P (Builtin.append_ #[T_sl_uint8, T_sl_uint8] T_sl_uint8 #[t17, t18]) w fun t19 w =>
  lp1 t19 w fun _ t4 w again1 =>
  lenS t4 fun t21 =>
  bi BinOp.rem t21 (Value.int IntKind.i64 64) fun t22 =>
  bi BinOp.neq t22 (Value.int IntKind.i64 56) fun t23 =>
  cnd t23
  (efP P (Instr.buildSlice T_sl_uint8 1 #[(0, (Value.int IntKind.u8 0))]) w fun t25 w =>
  efP P (Builtin.append_ #[T_sl_uint8, T_sl_uint8] T_sl_uint8 #[t4, t25]) w fun t26 w =>
  again1 t26 w)
  (nilc t0 fun t28 =>
  fad 9 t28 fun t29 =>
  ld1 t29 w.heap fun t30 =>
  cvi IntKind.u64 t30 fun t31 =>
  bi BinOp.mul t31 (Value.int IntKind.u64 8) fun t32 =>
  lp2 t4 (Value.int IntKind.i64 0) w fun _ t4_1 t33 w again2 =>
  bi BinOp.lss t33 (Value.int IntKind.i64 8) fun t34 =>
  cnd t34
  (bi BinOp.mul (Value.int IntKind.i64 8) t33 fun t39 =>
  bi BinOp.sub (Value.int IntKind.i64 56) t39 fun t40 =>
  sh BinOp.shr t32 t40 fun t41 =>
  cvi IntKind.u8 t41 fun t42 =>
  efP P (Instr.buildSlice T_sl_uint8 1 #[(0, t42)]) w fun t43 w =>
  efP P (Builtin.append_ #[T_sl_uint8, T_sl_uint8] T_sl_uint8 #[t4_1, t43]) w fun t44 w =>
  bi BinOp.add t33 (Value.int IntKind.i64 1) fun t45 =>
  again2 t44 t45 w)
  (nilc t0 fun t47 =>
  fad 0 t47 fun t48 =>
  ldN 8 t48 w.heap fun t49 =>
  efP P (Instr.alloc T_a8_uint32 true (.tuple #[])) w fun t7 w =>
  stN 8 t7 t49 w fun w =>
  lp1 t4_1 w fun _ t4_2 w again3 =>
  lenS t4_2 fun t51 =>
  bi BinOp.gtr t51 (Value.int IntKind.i64 0) fun t52 =>
  cnd t52
  (drH w fun S w =>
  rdS S (fun w => ldN 8 t7 w.heap) fun t55 =>
  slc 1 t4_2 none (some (Value.int IntKind.i64 64)) fun t57 =>
  efC (cal P f_sha_mixed [t55, t57]) w fun S t58 w =>
  efC (fun w K => stN 8 t7 t58 w (K undef)) w fun S _ w =>
  slc 1 t4_2 (some (Value.int IntKind.i64 64)) none fun t54 =>
  again3 t54 w)
  (ldN 8 t7 w.heap fun t59 =>
  lp1 (Value.int IntKind.i64 0) w fun _ t60 w again4 =>
  bi BinOp.lss t60 (Value.int IntKind.i64 8) fun t61 =>
  cnd t61
  (ixv 8 1 false t59 t60 fun t63 =>
  bi BinOp.mul (Value.int IntKind.i64 4) t60 fun t65 =>
  bi BinOp.mul (Value.int IntKind.i64 4) t60 fun t67 =>
  bi BinOp.add t67 (Value.int IntKind.i64 1) fun t68 =>
  bi BinOp.mul (Value.int IntKind.i64 4) t60 fun t70 =>
  bi BinOp.add t70 (Value.int IntKind.i64 2) fun t71 =>
  bi BinOp.mul (Value.int IntKind.i64 4) t60 fun t73 =>
  bi BinOp.add t73 (Value.int IntKind.i64 3) fun t74 =>
  sh BinOp.shr t63 (Value.int IntKind.u64 24) fun t76 =>
  cvi IntKind.u8 t76 fun t77 =>
  sh BinOp.shr t63 (Value.int IntKind.u64 16) fun t79 =>
  cvi IntKind.u8 t79 fun t80 =>
  sh BinOp.shr t63 (Value.int IntKind.u64 8) fun t82 =>
  cvi IntKind.u8 t82 fun t83 =>
  cvi IntKind.u8 t63 fun t85 =>
  ixa 32 1 t3 t65 fun t86 =>
  st1 t86 t77 w fun w =>
  ixa 32 1 t3 t68 fun t87 =>
  st1 t87 t80 w fun w =>
  ixa 32 1 t3 t71 fun t88 =>
  st1 t88 t83 w fun w =>
  ixa 32 1 t3 t74 fun t89 =>
  st1 t89 t85 w fun w =>
  bi BinOp.add t60 (Value.int IntKind.i64 1) fun t90 =>
  again4 t90 w)
  (ldN 32 t3 w.heap fun t91 =>
  stN 32 t2 t91 w fun w =>
  ldN 32 t2 w.heap fun r5 =>
  R r5 w)))))
theorem e_sha_State_Sum (t0 : Value) (w : World) (R : Value → World → Prop) : intp P A_sha_State_Sum (bodyOf Tryz.f104) (ini [t0]) w (retK P Tryz.f104.results.toList R) (fun _ _ _ => False) (retK P Tryz.f104.results.toList R) = c_sha_State_Sum t0 w R := by kernel_rfl
theorem k_sha_State_Sum : chk P Tryz.f104.ntmps A_sha_State_Sum (bodyOf Tryz.f104) = true := by kernel_rfl
theorem l_sha_State_Sum {t0 : Value} {w : World} {R : Value → World → Prop} (h : c_sha_State_Sum t0 w R) : cal P f_sha_State_Sum [t0] w R :=
  calls_of mixed Tryz.func104 rfl (by kernel_rfl) k_sha_State_Sum (Eq.mpr (e_sha_State_Sum t0 w R) h)
theorem s_sha_State_Sum {t0 : Value} {w : World} {Q : Value → World → Prop} (h : ∀ R : Value → World → Prop, (∀ v w', Q v w' → R v w') → c_sha_State_Sum t0 w R) : cal P f_sha_State_Sum [t0] w Q := l_sha_State_Sum (h Q fun _ _ h => h)

/-- flurry/pack.Read -/
def A_pack_Read : An := (An.s (An.r []) (An.s (An.r []) (An.s (An.r []) (An.s (An.r []) (An.s (An.r []) (An.s (An.r []) An.o))))))
def c_pack_Read (t0 : Value) (w : World) (R : Value → World → Prop) : Prop :=
  rdP P (Instr.build T_pack_Unpacker #[]) w fun t4 =>
  bx T_pack_Unpacker t4 w fun t5 w =>
  nilc t5 fun t7 =>
  fad 0 t7 fun t8 =>
  fad 0 t8 fun t9 =>
  st1 t9 (Value.bool true) w fun w =>
  lenS t0 fun t12 =>
  efP P (Instr.makeSlice T_sl_uint8 t12 t12) w fun t13 w =>
  nilc t5 fun t14 =>
  fad 0 t14 fun t15 =>
  fad 1 t15 fun t16 =>
  st1 t16 t13 w fun w =>
  nilc t5 fun t18 =>
  fad 0 t18 fun t19 =>
  fad 1 t19 fun t20 =>
  ld1 t20 w.heap fun t21 =>
  efP P (Builtin.copy_ #[T_sl_uint8, T_sl_uint8] T_int #[t21, t0]) w fun t23 w =>
  R t5 w
theorem e_pack_Read (t0 : Value) (w : World) (R : Value → World → Prop) : intp P A_pack_Read (bodyOf Tryz.f106) (ini [t0]) w (retK P Tryz.f106.results.toList R) (fun _ _ _ => False) (retK P Tryz.f106.results.toList R) = c_pack_Read t0 w R := by kernel_rfl
theorem k_pack_Read : chk P Tryz.f106.ntmps A_pack_Read (bodyOf Tryz.f106) = true := by kernel_rfl
theorem l_pack_Read {t0 : Value} {w : World} {R : Value → World → Prop} (h : c_pack_Read t0 w R) : cal P f_pack_Read [t0] w R :=
  calls_of mixed Tryz.func106 rfl (by kernel_rfl) k_pack_Read (Eq.mpr (e_pack_Read t0 w R) h)
theorem s_pack_Read {t0 : Value} {w : World} {Q : Value → World → Prop} (h : ∀ R : Value → World → Prop, (∀ v w', Q v w' → R v w') → c_pack_Read t0 w R) : cal P f_pack_Read [t0] w Q := l_pack_Read (h Q fun _ _ h => h)

/-- (*flurry/pack.Unpacker).Int -/
def A_pack_Unpacker_Int : An := (An.s (An.r []) (An.s (An.r []) An.o))
def c_pack_Unpacker_Int (t0 : Value) (w : World) (R : Value → World → Prop) : Prop :=
  cal P f_pack_Unpacker_take [t0, (Value.int IntKind.i64 4)] w fun t4 w =>
  cal P f_pack_value [t4] w fun t5 w =>
  cvi IntKind.u32 t5 fun t6 =>
  R t6 w
theorem e_pack_Unpacker_Int (t0 : Value) (w : World) (R : Value → World → Prop) : intp P A_pack_Unpacker_Int (bodyOf Tryz.f107) (ini [t0]) w (retK P Tryz.f107.results.toList R) (fun _ _ _ => False) (retK P Tryz.f107.results.toList R) = c_pack_Unpacker_Int t0 w R := by kernel_rfl
theorem k_pack_Unpacker_Int : chk P Tryz.f107.ntmps A_pack_Unpacker_Int (bodyOf Tryz.f107) = true := by kernel_rfl
theorem l_pack_Unpacker_Int {t0 : Value} {w : World} {R : Value → World → Prop} (h : c_pack_Unpacker_Int t0 w R) : cal P f_pack_Unpacker_Int [t0] w R :=
  calls_of mixed Tryz.func107 rfl (by kernel_rfl) k_pack_Unpacker_Int (Eq.mpr (e_pack_Unpacker_Int t0 w R) h)
theorem s_pack_Unpacker_Int {t0 : Value} {w : World} {Q : Value → World → Prop} (h : ∀ R : Value → World → Prop, (∀ v w', Q v w' → R v w') → c_pack_Unpacker_Int t0 w R) : cal P f_pack_Unpacker_Int [t0] w Q := l_pack_Unpacker_Int (h Q fun _ _ h => h)

/-- flurry/block.Parse -/
def A_block_Parse : An := (An.s (An.r []) (An.s (An.s (An.r []) (An.s (An.s (An.r []) An.o) An.o)) (An.s (An.r []) (An.s (An.r []) (An.s (An.r []) (An.s (An.r []) (An.s (An.r []) (An.s (An.s (An.r [[29], [33]]) (An.s (An.s (An.r []) An.o) An.o)) (An.s (An.r []) (An.s (An.r []) (An.s (An.r []) An.o)))))))))))
def c_block_Parse (t0 : Value) (w : World) (R : Value → World → Prop) : Prop :=
  efP P (Instr.alloc T_api_Block true (.tuple #[])) w fun t2 w =>
  lenS t0 fun t11 =>
  bi BinOp.gtr t11 (Value.int IntKind.i64 246) fun t12 =>
  cnd t12
  (rdP P (Instr.build T_api_Block #[]) w fun t13 =>
  stN 34 t2 t13 w fun w =>
  ldN 34 t2 w.heap fun r0 =>
  R (Value.tuple #[r0, (Value.int IntKind.i64 30)]) w)
  (cal P f_pack_Read [t0] w fun t15 w =>
  cal P f_pack_Unpacker_Short [t15] w fun t17 w =>
  cal P f_pack_Unpacker_Fixed [t15, (Value.int IntKind.i64 32)] w fun t19 w =>
  cal P f_pack_Unpacker_Long [t15] w fun t21 w =>
  cal P f_pack_Unpacker_Bytes [t15, (Value.int IntKind.i64 200)] w fun t23 w =>
  cal P f_pack_Unpacker_End [t15] w fun t25 w =>
  bi BinOp.neq t25 (Value.int IntKind.i64 0) fun t26 =>
  jn1 (fun k1 =>
  gif t26 false
  (bi BinOp.neq t17 (Value.int IntKind.u16 0) fun t29 =>
  k1 t29 w)
  (k1 undef w)) fun _ t29_1 w =>
  pik t26 (Value.bool true) t29_1 fun t30 =>
  jn1 (fun k2 =>
  gif t30 false
  (bi BinOp.gtr t21 (Value.int IntKind.u64 9223372036854775807) fun t33 =>
  k2 t33 w)
  (k2 undef w)) fun _ t33_1 w =>
  pik t30 (Value.bool true) t33_1 fun t34 =>
  cnd t34
  (rdP P (Instr.build T_api_Block #[]) w fun t35 =>
  stN 34 t2 t35 w fun w =>
  ldN 34 t2 w.heap fun r3 =>
  R (Value.tuple #[r3, (Value.int IntKind.i64 30)]) w)
  (cvi IntKind.i64 t21 fun t37 =>
  rdP P (Instr.build T_api_Block #[(1, t37), (2, t23)]) w fun t39 =>
  efP P (Instr.alloc T_api_Block true (.tuple #[])) w fun t9 w =>
  stN 34 t9 t39 w fun w =>
  fad 0 t9 fun t40 =>
  sla 32 1 t40 none none fun t41 =>
  efP P (Builtin.copy_ #[T_sl_uint8, T_sl_uint8] T_int #[t41, t19]) w fun t43 w =>
  ldN 34 t9 w.heap fun t44 =>
  cal P f_block_made [t44] w fun t45 w =>
  ext 0 t45 fun t46 =>
  ext 1 t45 fun t47 =>
  stN 34 t2 t46 w fun w =>
  ldN 34 t2 w.heap fun r4 =>
  R (Value.tuple #[r4, t47]) w))
theorem e_block_Parse (t0 : Value) (w : World) (R : Value → World → Prop) : intp P A_block_Parse (bodyOf Tryz.f108) (ini [t0]) w (retK P Tryz.f108.results.toList R) (fun _ _ _ => False) (retK P Tryz.f108.results.toList R) = c_block_Parse t0 w R := by kernel_rfl
theorem k_block_Parse : chk P Tryz.f108.ntmps A_block_Parse (bodyOf Tryz.f108) = true := by kernel_rfl
theorem l_block_Parse {t0 : Value} {w : World} {R : Value → World → Prop} (h : c_block_Parse t0 w R) : cal P f_block_Parse [t0] w R :=
  calls_of mixed Tryz.func108 rfl (by kernel_rfl) k_block_Parse (Eq.mpr (e_block_Parse t0 w R) h)
theorem s_block_Parse {t0 : Value} {w : World} {Q : Value → World → Prop} (h : ∀ R : Value → World → Prop, (∀ v w', Q v w' → R v w') → c_block_Parse t0 w R) : cal P f_block_Parse [t0] w Q := l_block_Parse (h Q fun _ _ h => h)

/-- (*flurry/pack.Unpacker).Long -/
def A_pack_Unpacker_Long : An := (An.s (An.r []) (An.s (An.r []) An.o))
def c_pack_Unpacker_Long (t0 : Value) (w : World) (R : Value → World → Prop) : Prop :=
  cal P f_pack_Unpacker_take [t0, (Value.int IntKind.i64 8)] w fun t4 w =>
  cal P f_pack_value [t4] w fun t5 w =>
  R t5 w
theorem e_pack_Unpacker_Long (t0 : Value) (w : World) (R : Value → World → Prop) : intp P A_pack_Unpacker_Long (bodyOf Tryz.f109) (ini [t0]) w (retK P Tryz.f109.results.toList R) (fun _ _ _ => False) (retK P Tryz.f109.results.toList R) = c_pack_Unpacker_Long t0 w R := by kernel_rfl
theorem k_pack_Unpacker_Long : chk P Tryz.f109.ntmps A_pack_Unpacker_Long (bodyOf Tryz.f109) = true := by kernel_rfl
theorem l_pack_Unpacker_Long {t0 : Value} {w : World} {R : Value → World → Prop} (h : c_pack_Unpacker_Long t0 w R) : cal P f_pack_Unpacker_Long [t0] w R :=
  calls_of mixed Tryz.func109 rfl (by kernel_rfl) k_pack_Unpacker_Long (Eq.mpr (e_pack_Unpacker_Long t0 w R) h)
theorem s_pack_Unpacker_Long {t0 : Value} {w : World} {Q : Value → World → Prop} (h : ∀ R : Value → World → Prop, (∀ v w', Q v w' → R v w') → c_pack_Unpacker_Long t0 w R) : cal P f_pack_Unpacker_Long [t0] w Q := l_pack_Unpacker_Long (h Q fun _ _ h => h)

/-- flurry/flurryref02.words -/
def A_ref02_words : An := (An.s (An.r []) (An.s (An.r []) (An.s (An.s (An.r []) (An.b (An.l [4] (An.s (An.s (An.r []) (An.s An.o An.o)) (An.s (An.b (An.s (An.r []) (An.b (An.l [5] (An.s (An.s (An.r []) (An.s An.o An.o)) (An.s (An.b (An.dc [0, 1, 2, 3, 4, 5, 6, 7, 8, 9, 10, 11, 12, 13, 14, 15] [15] [])) (An.r []))))))) (An.r [])))))) (An.s (An.s (An.r []) (An.b (An.l [6] (An.s (An.s (An.r []) (An.s An.o An.o)) (An.s (An.b (An.s (An.r []) (An.s (An.r []) (An.s (An.r []) (An.s (An.r []) (An.dc [0, 1, 2, 3, 4, 5, 6, 7, 8, 9, 10, 11, 12, 13, 14, 15] [15] [])))))) (An.r [])))))) (An.s (An.r []) An.o)))))
def c_ref02_words (t0 : Value) (w : World) (R : Value → World → Prop) : Prop :=
  efP P (Instr.alloc T_a64_uint32 true (.tuple #[])) w fun t2 w =>
  efP P (Instr.alloc T_a64_uint32 true (.tuple #[])) w fun t3 w =>
  lp1 (Value.int IntKind.i64 0) w fun _ t4 w again0 =>
  bi BinOp.lss t4 (Value.int IntKind.i64 16) fun t12 =>
  cnd t12
  (lp1 (Value.int IntKind.i64 0) w fun _ t5 w again1 =>
  bi BinOp.lss t5 (Value.int IntKind.i64 4) fun t16 =>
  cnd t16
  (drH w fun S w =>
  ixa 64 1 t3 t4 fun t21 =>
  rdS S (fun w => ld1 t21 w.heap) fun t22 =>
  bi BinOp.mul t22 (Value.int IntKind.u32 256) fun t23 =>
  bi BinOp.mul (Value.int IntKind.i64 4) t4 fun t26 =>
  bi BinOp.add t26 t5 fun t28 =>
  ixs 1 t0 t28 fun t29 =>
  rdS S (fun w => ld1 t29 w.heap) fun t30 =>
  cvi IntKind.u32 t30 fun t31 =>
  bi BinOp.add t23 t31 fun t32 =>
  ixa 64 1 t3 t4 fun t33 =>
  efC (fun w K => st1 t33 t32 w (K undef)) w fun S _ w =>
  bi BinOp.add t5 (Value.int IntKind.i64 1) fun t18 =>
  again1 t18 w)
  (bi BinOp.add t4 (Value.int IntKind.i64 1) fun t14 =>
  again0 t14 w))
  (lp1 (Value.int IntKind.i64 16) w fun _ t6 w again2 =>
  bi BinOp.lss t6 (Value.int IntKind.i64 64) fun t35 =>
  cnd t35
  (bi BinOp.sub t6 (Value.int IntKind.i64 15) fun t39 =>
  ixa 64 1 t3 t39 fun t40 =>
  ld1 t40 w.heap fun t41 =>
  bi BinOp.sub t6 (Value.int IntKind.i64 2) fun t43 =>
  ixa 64 1 t3 t43 fun t44 =>
  ld1 t44 w.heap fun t45 =>
  cal P f_ref02_turned [t41, (Value.int IntKind.u64 7)] w fun t47 w =>
  cal P f_ref02_turned [t41, (Value.int IntKind.u64 18)] w fun t49 w =>
  bi BinOp.xor t47 t49 fun t50 =>
  sh BinOp.shr t41 (Value.int IntKind.u64 3) fun t52 =>
  bi BinOp.xor t50 t52 fun t53 =>
  cal P f_ref02_turned [t45, (Value.int IntKind.u64 17)] w fun t55 w =>
  cal P f_ref02_turned [t45, (Value.int IntKind.u64 19)] w fun t57 w =>
  bi BinOp.xor t55 t57 fun t58 =>
  sh BinOp.shr t45 (Value.int IntKind.u64 10) fun t60 =>
  bi BinOp.xor t58 t60 fun t61 =>
  drH w fun S w =>
  bi BinOp.sub t6 (Value.int IntKind.i64 7) fun t65 =>
  ixa 64 1 t3 t65 fun t66 =>
  rdS S (fun w => ld1 t66 w.heap) fun t67 =>
  bi BinOp.add t61 t67 fun t68 =>
  bi BinOp.add t68 t53 fun t70 =>
  bi BinOp.sub t6 (Value.int IntKind.i64 16) fun t72 =>
  ixa 64 1 t3 t72 fun t73 =>
  rdS S (fun w => ld1 t73 w.heap) fun t74 =>
  bi BinOp.add t70 t74 fun t75 =>
  ixa 64 1 t3 t6 fun t76 =>
  efC (fun w K => st1 t76 t75 w (K undef)) w fun S _ w =>
  bi BinOp.add t6 (Value.int IntKind.i64 1) fun t37 =>
  again2 t37 w)
  (ldN 64 t3 w.heap fun t77 =>
  stN 64 t2 t77 w fun w =>
  ldN 64 t2 w.heap fun r3 =>
  R r3 w))
theorem e_ref02_words (t0 : Value) (w : World) (R : Value → World → Prop) : intp P A_ref02_words (bodyOf Tryz.f110) (ini [t0]) w (retK P Tryz.f110.results.toList R) (fun _ _ _ => False) (retK P Tryz.f110.results.toList R) = c_ref02_words t0 w R := by kernel_rfl
theorem k_ref02_words : chk P Tryz.f110.ntmps A_ref02_words (bodyOf Tryz.f110) = true := by kernel_rfl
theorem l_ref02_words {t0 : Value} {w : World} {R : Value → World → Prop} (h : c_ref02_words t0 w R) : cal P f_ref02_words [t0] w R :=
  calls_of mixed Tryz.func110 rfl (by kernel_rfl) k_ref02_words (Eq.mpr (e_ref02_words t0 w R) h)
theorem s_ref02_words {t0 : Value} {w : World} {Q : Value → World → Prop} (h : ∀ R : Value → World → Prop, (∀ v w', Q v w' → R v w') → c_ref02_words t0 w R) : cal P f_ref02_words [t0] w Q := l_ref02_words (h Q fun _ _ h => h)

/-- flurry/flurryref02.constants -/
def A_ref02_constants : An := (An.s (An.r []) (An.s (An.r []) An.o))
def c_ref02_constants (w : World) (R : Value → World → Prop) : Prop :=
  efP P (Instr.alloc T_a64_uint32 true (.tuple #[])) w fun t0 w =>
  rdP P (Instr.build T_a64_uint32 #[(0, (Value.int IntKind.u32 1116352408)), (1, (Value.int IntKind.u32 1899447441)), (2, (Value.int IntKind.u32 3049323471)), (3, (Value.int IntKind.u32 3921009573)), (4, (Value.int IntKind.u32 961987163)), (5, (Value.int IntKind.u32 1508970993)), (6, (Value.int IntKind.u32 2453635748)), (7, (Value.int IntKind.u32 2870763221)), (8, (Value.int IntKind.u32 3624381080)), (9, (Value.int IntKind.u32 310598401)), (10, (Value.int IntKind.u32 607225278)), (11, (Value.int IntKind.u32 1426881987)), (12, (Value.int IntKind.u32 1925078388)), (13, (Value.int IntKind.u32 2162078206)), (14, (Value.int IntKind.u32 2614888103)), (15, (Value.int IntKind.u32 3248222580)), (16, (Value.int IntKind.u32 3835390401)), (17, (Value.int IntKind.u32 4022224774)), (18, (Value.int IntKind.u32 264347078)), (19, (Value.int IntKind.u32 604807628)), (20, (Value.int IntKind.u32 770255983)), (21, (Value.int IntKind.u32 1249150122)), (22, (Value.int IntKind.u32 1555081692)), (23, (Value.int IntKind.u32 1996064986)), (24, (Value.int IntKind.u32 2554220882)), (25, (Value.int IntKind.u32 2821834349)), (26, (Value.int IntKind.u32 2952996808)), (27, (Value.int IntKind.u32 3210313671)), (28, (Value.int IntKind.u32 3336571891)), (29, (Value.int IntKind.u32 3584528711)), (30, (Value.int IntKind.u32 113926993)), (31, (Value.int IntKind.u32 338241895)), (32, (Value.int IntKind.u32 666307205)), (33, (Value.int IntKind.u32 773529912)), (34, (Value.int IntKind.u32 1294757372)), (35, (Value.int IntKind.u32 1396182291)), (36, (Value.int IntKind.u32 1695183700)), (37, (Value.int IntKind.u32 1986661051)), (38, (Value.int IntKind.u32 2177026350)), (39, (Value.int IntKind.u32 2456956037)), (40, (Value.int IntKind.u32 2730485921)), (41, (Value.int IntKind.u32 2820302411)), (42, (Value.int IntKind.u32 3259730800)), (43, (Value.int IntKind.u32 3345764771)), (44, (Value.int IntKind.u32 3516065817)), (45, (Value.int IntKind.u32 3600352804)), (46, (Value.int IntKind.u32 4094571909)), (47, (Value.int IntKind.u32 275423344)), (48, (Value.int IntKind.u32 430227734)), (49, (Value.int IntKind.u32 506948616)), (50, (Value.int IntKind.u32 659060556)), (51, (Value.int IntKind.u32 883997877)), (52, (Value.int IntKind.u32 958139571)), (53, (Value.int IntKind.u32 1322822218)), (54, (Value.int IntKind.u32 1537002063)), (55, (Value.int IntKind.u32 1747873779)), (56, (Value.int IntKind.u32 1955562222)), (57, (Value.int IntKind.u32 2024104815)), (58, (Value.int IntKind.u32 2227730452)), (59, (Value.int IntKind.u32 2361852424)), (60, (Value.int IntKind.u32 2428436474)), (61, (Value.int IntKind.u32 2756734187)), (62, (Value.int IntKind.u32 3204031479)), (63, (Value.int IntKind.u32 3329325298))]) w fun t1 =>
  stN 64 t0 t1 w fun w =>
  ldN 64 t0 w.heap fun r0 =>
  R r0 w
theorem e_ref02_constants (w : World) (R : Value → World → Prop) : intp P A_ref02_constants (bodyOf Tryz.f111) (ini []) w (retK P Tryz.f111.results.toList R) (fun _ _ _ => False) (retK P Tryz.f111.results.toList R) = c_ref02_constants  w R := by kernel_rfl
theorem k_ref02_constants : chk P Tryz.f111.ntmps A_ref02_constants (bodyOf Tryz.f111) = true := by kernel_rfl
theorem l_ref02_constants {w : World} {R : Value → World → Prop} (h : c_ref02_constants w R) : cal P f_ref02_constants [] w R :=
  calls_of mixed Tryz.func111 rfl (by kernel_rfl) k_ref02_constants (Eq.mpr (e_ref02_constants w R) h)
theorem s_ref02_constants {w : World} {Q : Value → World → Prop} (h : ∀ R : Value → World → Prop, (∀ v w', Q v w' → R v w') → c_ref02_constants w R) : cal P f_ref02_constants [] w Q := l_ref02_constants (h Q fun _ _ h => h)

/-- flurry/flurryref02.turned -/
def A_ref02_turned : An := (An.s (An.r []) (An.s (An.r []) An.o))
def c_ref02_turned (t0 t1 : Value) (w : World) (R : Value → World → Prop) : Prop :=
  sh BinOp.shr t0 t1 fun t7 =>
  bi BinOp.sub (Value.int IntKind.u64 32) t1 fun t10 =>
  sh BinOp.shl t0 t10 fun t11 =>
  bi BinOp.or t7 t11 fun t12 =>
  R t12 w
theorem e_ref02_turned (t0 t1 : Value) (w : World) (R : Value → World → Prop) : intp P A_ref02_turned (bodyOf Tryz.f112) (ini [t0, t1]) w (retK P Tryz.f112.results.toList R) (fun _ _ _ => False) (retK P Tryz.f112.results.toList R) = c_ref02_turned t0 t1 w R := by kernel_rfl
theorem k_ref02_turned : chk P Tryz.f112.ntmps A_ref02_turned (bodyOf Tryz.f112) = true := by kernel_rfl
theorem l_ref02_turned {t0 t1 : Value} {w : World} {R : Value → World → Prop} (h : c_ref02_turned t0 t1 w R) : cal P f_ref02_turned [t0, t1] w R :=
  calls_of mixed Tryz.func112 rfl (by kernel_rfl) k_ref02_turned (Eq.mpr (e_ref02_turned t0 t1 w R) h)
theorem s_ref02_turned {t0 t1 : Value} {w : World} {Q : Value → World → Prop} (h : ∀ R : Value → World → Prop, (∀ v w', Q v w' → R v w') → c_ref02_turned t0 t1 w R) : cal P f_ref02_turned [t0, t1] w Q := l_ref02_turned (h Q fun _ _ h => h)

/-- flurry/flurryref01.Val -/
def A_ref01_Val : An := (An.s (An.r []) (An.s (An.r []) (An.s (An.s (An.r []) (An.b (An.l [3, 4] (An.s (An.s (An.r []) (An.s An.o An.o)) (An.s (An.b (An.r [])) (An.r [])))))) (An.s (An.r []) An.o))))
def c_ref01_Val (t0 : Value) (w : World) (R : Value → World → Prop) : Prop :=
  lp2 (Value.int IntKind.u64 0) (Value.int IntKind.i64 0) w fun _ t3 t4 w again0 =>
  lenS t0 fun t7 =>
  bi BinOp.lss t4 t7 fun t8 =>
  cnd t8
  (bi BinOp.mul (Value.int IntKind.u64 256) t3 fun t12 =>
  ixs 1 t0 t4 fun t15 =>
  ld1 t15 w.heap fun t16 =>
  cvi IntKind.u64 t16 fun t17 =>
  bi BinOp.add t12 t17 fun t18 =>
  bi BinOp.add t4 (Value.int IntKind.i64 1) fun t10 =>
  again0 t18 t10 w)
  (R t3 w)
theorem e_ref01_Val (t0 : Value) (w : World) (R : Value → World → Prop) : intp P A_ref01_Val (bodyOf Tryz.f113) (ini [t0]) w (retK P Tryz.f113.results.toList R) (fun _ _ _ => False) (retK P Tryz.f113.results.toList R) = c_ref01_Val t0 w R := by kernel_rfl
theorem k_ref01_Val : chk P Tryz.f113.ntmps A_ref01_Val (bodyOf Tryz.f113) = true := by kernel_rfl
theorem l_ref01_Val {t0 : Value} {w : World} {R : Value → World → Prop} (h : c_ref01_Val t0 w R) : cal P f_ref01_Val [t0] w R :=
  calls_of mixed Tryz.func113 rfl (by kernel_rfl) k_ref01_Val (Eq.mpr (e_ref01_Val t0 w R) h)
theorem s_ref01_Val {t0 : Value} {w : World} {Q : Value → World → Prop} (h : ∀ R : Value → World → Prop, (∀ v w', Q v w' → R v w') → c_ref01_Val t0 w R) : cal P f_ref01_Val [t0] w Q := l_ref01_Val (h Q fun _ _ h => h)

/-- flurry/flurryref03.Parse -/
def A_ref03_Parse : An := (An.s (An.r []) (An.s (An.s (An.r []) (An.s (An.s (An.r []) An.o) An.o)) (An.s (An.dt (Pl.step 0 (Pl.step 1 (Pl.step 4 (Pl.step 5 (Pl.br (Pl.alt 2 (Pl.step 3 (Pl.step 6 (Pl.step 7 (Pl.step 8 Pl.nil)))) (Pl.alt 7 (Pl.step 2 (Pl.step 3 (Pl.step 6 (Pl.step 8 Pl.nil)))) Pl.non))))))) [2, 8] [4]) (An.s (An.s (An.r []) (An.b (An.l [5] (An.s (An.s (An.r []) (An.s An.o An.o)) (An.s (An.b (An.r [])) (An.r [])))))) (An.s (An.r []) (An.s (An.s (An.r [[43]]) (An.s (An.s (An.r []) An.o) An.o)) (An.s (An.r []) An.o)))))))
def c_ref03_Parse (t0 : Value) (w : World) (R : Value → World → Prop) : Prop :=
  efP P (Instr.alloc T_api_Block true (.tuple #[])) w fun t2 w =>
  lenS t0 fun t9 =>
  bi BinOp.lss t9 (Value.int IntKind.i64 46) fun t10 =>
  cnd t10
  (rdP P (Instr.build T_api_Block #[]) w fun t11 =>
  stN 34 t2 t11 w fun w =>
  ldN 34 t2 w.heap fun r0 =>
  R (Value.tuple #[r0, (Value.int IntKind.i64 30)]) w)
  (drH w fun S w =>
  jn1 (fun k1 =>
  slc 1 t0 (some (Value.int IntKind.i64 34)) (some (Value.int IntKind.i64 42)) fun t13 =>
  slc 1 t0 (some (Value.int IntKind.i64 46)) none fun t17 =>
  (efC (cal P f_ref01_Val [t13]) w fun S t14_1 w =>
  cvi IntKind.i64 t14_1 fun t15_1 =>
  rdS S (rdP P (Instr.build T_api_Block #[(1, t15_1), (2, t17)])) fun t18_1 =>
  efS S (efP P (Instr.alloc T_api_Block true (.tuple #[]))) w fun t4_1 w =>
  efC (fun w K => stN 34 t4_1 t18_1 w (K undef)) w fun S _ w =>
  k1 t4_1 w) ∧
  ((efS S (efP P (Instr.alloc T_api_Block true (.tuple #[]))) w fun t4 w =>
  efC (cal P f_ref01_Val [t13]) w fun S t14 w =>
  cvi IntKind.i64 t14 fun t15 =>
  rdS S (rdP P (Instr.build T_api_Block #[(1, t15), (2, t17)])) fun t18 =>
  efC (fun w K => stN 34 t4 t18 w (K undef)) w fun S _ w =>
  k1 t4 w) ∧
  (True))) fun _ t4_2 w =>
  lp1 (Value.int IntKind.i64 0) w fun _ t5 w again2 =>
  bi BinOp.lss t5 (Value.int IntKind.i64 32) fun t20 =>
  cnd t20
  (bi BinOp.add (Value.int IntKind.i64 2) t5 fun t26 =>
  ixs 1 t0 t26 fun t27 =>
  ld1 t27 w.heap fun t28 =>
  fad 0 t4_2 fun t29 =>
  ixa 32 1 t29 t5 fun t30 =>
  st1 t30 t28 w fun w =>
  bi BinOp.add t5 (Value.int IntKind.i64 1) fun t22 =>
  again2 t22 w)
  (ldN 34 t4_2 w.heap fun t32 =>
  cal P f_ref03_Bytes [t32] w fun t33 w =>
  ext 0 t33 fun t34 =>
  ext 1 t33 fun t35 =>
  bi BinOp.neq t35 (Value.int IntKind.i64 0) fun t37 =>
  jn1 (fun k3 =>
  gif t37 false
  (rdP P (convert T_sl_uint8 T_string t34) w fun t40 =>
  rdP P (convert T_sl_uint8 T_string t0) w fun t42 =>
  rdP P (eqS BinOp.neq T_string (Operand.tmp 40) (Operand.tmp 42) t40 t42) w fun t43 =>
  k3 t43 w)
  (k3 undef w)) fun _ t43_1 w =>
  pik t37 (Value.bool true) t43_1 fun t44 =>
  cnd t44
  (rdP P (Instr.build T_api_Block #[]) w fun t45 =>
  stN 34 t2 t45 w fun w =>
  ldN 34 t2 w.heap fun r4 =>
  R (Value.tuple #[r4, (Value.int IntKind.i64 30)]) w)
  (ldN 34 t4_2 w.heap fun t46 =>
  cal P f_ref03_Clone [t46] w fun t47 w =>
  stN 34 t2 t47 w fun w =>
  ldN 34 t2 w.heap fun r5 =>
  R (Value.tuple #[r5, (Value.int IntKind.i64 0)]) w)))
theorem e_ref03_Parse (t0 : Value) (w : World) (R : Value → World → Prop) : intp P A_ref03_Parse (bodyOf Tryz.f114) (ini [t0]) w (retK P Tryz.f114.results.toList R) (fun _ _ _ => False) (retK P Tryz.f114.results.toList R) = c_ref03_Parse t0 w R := by kernel_rfl
theorem k_ref03_Parse : chk P Tryz.f114.ntmps A_ref03_Parse (bodyOf Tryz.f114) = true := by kernel_rfl
theorem l_ref03_Parse {t0 : Value} {w : World} {R : Value → World → Prop} (h : c_ref03_Parse t0 w R) : cal P f_ref03_Parse [t0] w R :=
  calls_of mixed Tryz.func114 rfl (by kernel_rfl) k_ref03_Parse (Eq.mpr (e_ref03_Parse t0 w R) h)
theorem s_ref03_Parse {t0 : Value} {w : World} {Q : Value → World → Prop} (h : ∀ R : Value → World → Prop, (∀ v w', Q v w' → R v w') → c_ref03_Parse t0 w R) : cal P f_ref03_Parse [t0] w Q := l_ref03_Parse (h Q fun _ _ h => h)

/-- (*flurry/pack.Packer).works -/
def A_pack_Packer_works : An := (An.s (An.r []) (An.s (An.r [[10], [18]]) An.o))
def c_pack_Packer_works (t0 : Value) (w : World) (R : Value → World → Prop) : Prop :=
  nilP true t0 fun t4 =>
  jn1 (fun k0 =>
  gif t4 true
  (nilc t0 fun t7 =>
  fad 0 t7 fun t8 =>
  fad 0 t8 fun t9 =>
  ld1 t9 w.heap fun t10 =>
  k0 t10 w)
  (k0 undef w)) fun _ t10_1 w =>
  pik t4 t10_1 (Value.bool false) fun t11 =>
  jn1 (fun k1 =>
  gif t11 true
  (nilc t0 fun t14 =>
  fad 0 t14 fun t15 =>
  fad 2 t15 fun t16 =>
  ld1 t16 w.heap fun t17 =>
  bi BinOp.eql t17 (Value.int IntKind.i64 0) fun t18 =>
  k1 t18 w)
  (k1 undef w)) fun _ t18_1 w =>
  pik t11 t18_1 (Value.bool false) fun t19 =>
  R t19 w
theorem e_pack_Packer_works (t0 : Value) (w : World) (R : Value → World → Prop) : intp P A_pack_Packer_works (bodyOf Tryz.f115) (ini [t0]) w (retK P Tryz.f115.results.toList R) (fun _ _ _ => False) (retK P Tryz.f115.results.toList R) = c_pack_Packer_works t0 w R := by kernel_rfl
theorem k_pack_Packer_works : chk P Tryz.f115.ntmps A_pack_Packer_works (bodyOf Tryz.f115) = true := by kernel_rfl
theorem l_pack_Packer_works {t0 : Value} {w : World} {R : Value → World → Prop} (h : c_pack_Packer_works t0 w R) : cal P f_pack_Packer_works [t0] w R :=
  calls_of mixed Tryz.func115 rfl (by kernel_rfl) k_pack_Packer_works (Eq.mpr (e_pack_Packer_works t0 w R) h)
theorem s_pack_Packer_works {t0 : Value} {w : World} {Q : Value → World → Prop} (h : ∀ R : Value → World → Prop, (∀ v w', Q v w' → R v w') → c_pack_Packer_works t0 w R) : cal P f_pack_Packer_works [t0] w Q := l_pack_Packer_works (h Q fun _ _ h => h)

/-- (*flurry/pack.kept).fails -/
def A_pack_kept_fails : An := (An.s (An.r []) (An.s (An.r []) An.o))
def c_pack_kept_fails (t0 t1 : Value) (w : World) (R : Value → World → Prop) : Prop :=
  nilc t0 fun t5 =>
  fad 2 t5 fun t6 =>
  ld1 t6 w.heap fun t7 =>
  bi BinOp.eql t7 (Value.int IntKind.i64 0) fun t8 =>
  cnd t8
  (nilc t0 fun t11 =>
  fad 2 t11 fun t12 =>
  st1 t12 t1 w fun w =>
  R (Value.tuple #[]) w)
  (R (Value.tuple #[]) w)
theorem e_pack_kept_fails (t0 t1 : Value) (w : World) (R : Value → World → Prop) : intp P A_pack_kept_fails (bodyOf Tryz.f116) (ini [t0, t1]) w (retK P Tryz.f116.results.toList R) (fun _ _ _ => False) (retK P Tryz.f116.results.toList R) = c_pack_kept_fails t0 t1 w R := by kernel_rfl
theorem k_pack_kept_fails : chk P Tryz.f116.ntmps A_pack_kept_fails (bodyOf Tryz.f116) = true := by kernel_rfl
theorem l_pack_kept_fails {t0 t1 : Value} {w : World} {R : Value → World → Prop} (h : c_pack_kept_fails t0 t1 w R) : cal P f_pack_kept_fails [t0, t1] w R :=
  calls_of mixed Tryz.func116 rfl (by kernel_rfl) k_pack_kept_fails (Eq.mpr (e_pack_kept_fails t0 t1 w R) h)
theorem s_pack_kept_fails {t0 t1 : Value} {w : World} {Q : Value → World → Prop} (h : ∀ R : Value → World → Prop, (∀ v w', Q v w' → R v w') → c_pack_kept_fails t0 t1 w R) : cal P f_pack_kept_fails [t0, t1] w Q := l_pack_kept_fails (h Q fun _ _ h => h)

/-- flurry/sha.first -/
def A_sha_first : An := (An.s (An.r []) (An.s (An.r []) An.o))
def c_sha_first (w : World) (R : Value → World → Prop) : Prop :=
  efP P (Instr.alloc T_a8_uint32 true (.tuple #[])) w fun t0 w =>
  rdP P (Instr.build T_a8_uint32 #[(0, (Value.int IntKind.u32 1779033703)), (1, (Value.int IntKind.u32 3144134277)), (2, (Value.int IntKind.u32 1013904242)), (3, (Value.int IntKind.u32 2773480762)), (4, (Value.int IntKind.u32 1359893119)), (5, (Value.int IntKind.u32 2600822924)), (6, (Value.int IntKind.u32 528734635)), (7, (Value.int IntKind.u32 1541459225))]) w fun t1 =>
  stN 8 t0 t1 w fun w =>
  ldN 8 t0 w.heap fun r0 =>
  R r0 w
theorem e_sha_first (w : World) (R : Value → World → Prop) : intp P A_sha_first (bodyOf Tryz.f117) (ini []) w (retK P Tryz.f117.results.toList R) (fun _ _ _ => False) (retK P Tryz.f117.results.toList R) = c_sha_first  w R := by kernel_rfl
theorem k_sha_first : chk P Tryz.f117.ntmps A_sha_first (bodyOf Tryz.f117) = true := by kernel_rfl
theorem l_sha_first {w : World} {R : Value → World → Prop} (h : c_sha_first w R) : cal P f_sha_first [] w R :=
  calls_of mixed Tryz.func117 rfl (by kernel_rfl) k_sha_first (Eq.mpr (e_sha_first w R) h)
theorem s_sha_first {w : World} {Q : Value → World → Prop} (h : ∀ R : Value → World → Prop, (∀ v w', Q v w' → R v w') → c_sha_first w R) : cal P f_sha_first [] w Q := l_sha_first (h Q fun _ _ h => h)

/-- (*flurry/sha.State).none -/
def A_sha_State_none : An := (An.s (An.r []) (An.s (An.r [[10]]) An.o))
def c_sha_State_none (t0 : Value) (w : World) (R : Value → World → Prop) : Prop :=
  nilP false t0 fun t4 =>
  jn1 (fun k0 =>
  gif t4 false
  (nilc t0 fun t7 =>
  fad 10 t7 fun t8 =>
  ld1 t8 w.heap fun t9 =>
  notB t9 fun t10 =>
  k0 t10 w)
  (k0 undef w)) fun _ t10_1 w =>
  pik t4 (Value.bool true) t10_1 fun t11 =>
  R t11 w
theorem e_sha_State_none (t0 : Value) (w : World) (R : Value → World → Prop) : intp P A_sha_State_none (bodyOf Tryz.f118) (ini [t0]) w (retK P Tryz.f118.results.toList R) (fun _ _ _ => False) (retK P Tryz.f118.results.toList R) = c_sha_State_none t0 w R := by kernel_rfl
theorem k_sha_State_none : chk P Tryz.f118.ntmps A_sha_State_none (bodyOf Tryz.f118) = true := by kernel_rfl
theorem l_sha_State_none {t0 : Value} {w : World} {R : Value → World → Prop} (h : c_sha_State_none t0 w R) : cal P f_sha_State_none [t0] w R :=
  calls_of mixed Tryz.func118 rfl (by kernel_rfl) k_sha_State_none (Eq.mpr (e_sha_State_none t0 w R) h)
theorem s_sha_State_none {t0 : Value} {w : World} {Q : Value → World → Prop} (h : ∀ R : Value → World → Prop, (∀ v w', Q v w' → R v w') → c_sha_State_none t0 w R) : cal P f_sha_State_none [t0] w Q := l_sha_State_none (h Q fun _ _ h => h)

/-- slices.Concat[[]byte,byte] -/
def A_slices_Concat_byte_byte : An := (An.s (An.r []) (An.s (An.r []) (An.s (An.s (An.r []) (An.b (An.l [3, 11] (An.s (An.r []) (An.s (An.s An.o An.o) (An.s (An.j [3] (An.b (An.s (An.r []) (An.s (An.r []) (An.s (An.r []) (An.s (An.r []) An.o)))))) (An.r []))))))) (An.s (An.r []) (An.s (An.s (An.r []) (An.b (An.l [6, 27] (An.s (An.r []) (An.s (An.s An.o An.o) (An.s (An.b (An.s (An.r []) (An.r []))) (An.r []))))))) (An.s (An.r []) An.o))))))
def c_slices_Concat_byte_byte (t0 : Value) (w : World) (R : Value → World → Prop) : Prop :=
  lenS t0 fun t10 =>
  lp2 (Value.int IntKind.i64 0) (Value.int IntKind.i64 0) w fun _ t3 t11 w again0 =>
  bi BinOp.lss t11 t10 fun t12 =>
  cnd t12
  (jn1 (fun k1 =>
  ixs 1 t0 t11 fun t13 =>
  ld1 t13 w.heap fun t14 =>
  lenS t14 fun t17 =>
  bi BinOp.add t3 t17 fun t18 =>
  bi BinOp.lss t18 (Value.int IntKind.i64 0) fun t20 =>
  cnd t20
  (rdP P (Instr.makeInterface T_string (Value.string { data := #[108, 101, 110, 32, 111, 117, 116, 32, 111, 102, 32, 114, 97, 110, 103, 101] })) w fun t21 =>
  False)
  (k1 t18 w)) fun _ t3_1 w =>
  bi BinOp.add t11 (Value.int IntKind.i64 1) fun t22 =>
  again0 t3_1 t22 w)
  (cal P f_slices_Grow_byte_byte [(Value.slice none 0 0), t3] w fun t24 w =>
  lenS t0 fun t26 =>
  lp2 t24 (Value.int IntKind.i64 0) w fun _ t6 t27 w again2 =>
  bi BinOp.lss t27 t26 fun t28 =>
  cnd t28
  (ixs 1 t0 t27 fun t29 =>
  ld1 t29 w.heap fun t30 =>
  efP P (Builtin.append_ #[T_sl_uint8, T_sl_uint8] T_sl_uint8 #[t6, t30]) w fun t33 w =>
  bi BinOp.add t27 (Value.int IntKind.i64 1) fun t34 =>
  again2 t33 t34 w)
  (R t6 w))
theorem e_slices_Concat_byte_byte (t0 : Value) (w : World) (R : Value → World → Prop) : intp P A_slices_Concat_byte_byte (bodyOf Tryz.f119) (ini [t0]) w (retK P Tryz.f119.results.toList R) (fun _ _ _ => False) (retK P Tryz.f119.results.toList R) = c_slices_Concat_byte_byte t0 w R := by kernel_rfl
theorem k_slices_Concat_byte_byte : chk P Tryz.f119.ntmps A_slices_Concat_byte_byte (bodyOf Tryz.f119) = true := by kernel_rfl
theorem l_slices_Concat_byte_byte {t0 : Value} {w : World} {R : Value → World → Prop} (h : c_slices_Concat_byte_byte t0 w R) : cal P f_slices_Concat_byte_byte [t0] w R :=
  calls_of mixed Tryz.func119 rfl (by kernel_rfl) k_slices_Concat_byte_byte (Eq.mpr (e_slices_Concat_byte_byte t0 w R) h)
theorem s_slices_Concat_byte_byte {t0 : Value} {w : World} {Q : Value → World → Prop} (h : ∀ R : Value → World → Prop, (∀ v w', Q v w' → R v w') → c_slices_Concat_byte_byte t0 w R) : cal P f_slices_Concat_byte_byte [t0] w Q := l_slices_Concat_byte_byte (h Q fun _ _ h => h)

/-- flurry/sha.mixed -/
def A_sha_mixed : An := (An.s (An.r []) (An.s (An.r []) (An.s (An.s (An.r []) (An.b (An.l [18] (An.s (An.r []) (An.s (An.s An.o An.o) (An.s (An.b (An.s (An.r []) (An.s (An.r []) (An.s (An.r []) (An.s (An.r []) (An.s (An.r []) (An.s (An.r []) (An.r [])))))))) (An.r []))))))) (An.s (An.s (An.r []) (An.b (An.l [99] (An.s (An.r []) (An.s (An.s An.o An.o) (An.s (An.b (An.s (An.r []) (An.dc [0, 1, 2, 3, 4, 5, 6, 7, 8] [8] []))) (An.r []))))))) (An.s (An.r []) An.o)))))
def c_sha_mixed (t0 t1 : Value) (w : World) (R : Value → World → Prop) : Prop :=
  bx T_a8_uint32 t0 w fun t2 w =>
  efP P (Instr.alloc T_a8_uint32 true (.tuple #[])) w fun t4 w =>
  ldN 8 t2 w.heap fun t15 =>
  efP P (Instr.alloc T_a8_uint32 true (.tuple #[])) w fun t5 w =>
  stN 8 t5 t15 w fun w =>
  cal P f_sha_schedule [t1] w fun t17 w =>
  lp1 (Value.int IntKind.i64 0) w fun _ t18 w again0 =>
  bi BinOp.lss t18 (Value.int IntKind.i64 64) fun t19 =>
  cnd t19
  (ixv 64 1 false t17 t18 fun t21 =>
  drw w fun w =>
  ixa 8 1 t5 (Value.int IntKind.i64 0) fun t22 =>
  ld1 t22 w.heap fun t23 =>
  ixa 8 1 t5 (Value.int IntKind.i64 4) fun t24 =>
  ld1 t24 w.heap fun t25 =>
  cal P f_math_bits_RotateLeft32 [t25, (Value.int IntKind.i64 (-6))] w fun t27 w =>
  cal P f_math_bits_RotateLeft32 [t25, (Value.int IntKind.i64 (-11))] w fun t29 w =>
  bi BinOp.xor t27 t29 fun t30 =>
  cal P f_math_bits_RotateLeft32 [t25, (Value.int IntKind.i64 (-25))] w fun t32 w =>
  bi BinOp.xor t30 t32 fun t33 =>
  drw w fun w =>
  ixa 8 1 t5 (Value.int IntKind.i64 7) fun t34 =>
  ld1 t34 w.heap fun t35 =>
  bi BinOp.add t35 t33 fun t37 =>
  ixa 8 1 t5 (Value.int IntKind.i64 5) fun t39 =>
  ld1 t39 w.heap fun t40 =>
  bi BinOp.and t25 t40 fun t41 =>
  rdP P (Op.unary UnOp.xor t25) w fun t43 =>
  ixa 8 1 t5 (Value.int IntKind.i64 6) fun t44 =>
  ld1 t44 w.heap fun t45 =>
  bi BinOp.and t43 t45 fun t46 =>
  bi BinOp.xor t41 t46 fun t47 =>
  bi BinOp.add t37 t47 fun t48 =>
  ixa 64 1 (Value.pointer (some ⟨0, 0, none⟩)) t18 fun t50 =>
  ld1 t50 w.heap fun t51 =>
  bi BinOp.add t48 t51 fun t52 =>
  bi BinOp.add t52 t21 fun t54 =>
  cal P f_math_bits_RotateLeft32 [t23, (Value.int IntKind.i64 (-2))] w fun t56 w =>
  cal P f_math_bits_RotateLeft32 [t23, (Value.int IntKind.i64 (-13))] w fun t58 w =>
  bi BinOp.xor t56 t58 fun t59 =>
  cal P f_math_bits_RotateLeft32 [t23, (Value.int IntKind.i64 (-22))] w fun t61 w =>
  bi BinOp.xor t59 t61 fun t62 =>
  ixa 8 1 t5 (Value.int IntKind.i64 1) fun t65 =>
  ld1 t65 w.heap fun t66 =>
  bi BinOp.and t23 t66 fun t67 =>
  ixa 8 1 t5 (Value.int IntKind.i64 2) fun t69 =>
  ld1 t69 w.heap fun t70 =>
  bi BinOp.and t23 t70 fun t71 =>
  bi BinOp.xor t67 t71 fun t72 =>
  ixa 8 1 t5 (Value.int IntKind.i64 1) fun t73 =>
  ld1 t73 w.heap fun t74 =>
  ixa 8 1 t5 (Value.int IntKind.i64 2) fun t75 =>
  ld1 t75 w.heap fun t76 =>
  bi BinOp.and t74 t76 fun t77 =>
  bi BinOp.xor t72 t77 fun t78 =>
  bi BinOp.add t62 t78 fun t79 =>
  bi BinOp.add t54 t79 fun t82 =>
  ixa 8 1 t5 (Value.int IntKind.i64 1) fun t84 =>
  ld1 t84 w.heap fun t85 =>
  ixa 8 1 t5 (Value.int IntKind.i64 2) fun t86 =>
  ld1 t86 w.heap fun t87 =>
  ixa 8 1 t5 (Value.int IntKind.i64 3) fun t88 =>
  ld1 t88 w.heap fun t89 =>
  bi BinOp.add t89 t54 fun t91 =>
  ixa 8 1 t5 (Value.int IntKind.i64 5) fun t93 =>
  ld1 t93 w.heap fun t94 =>
  ixa 8 1 t5 (Value.int IntKind.i64 6) fun t95 =>
  ld1 t95 w.heap fun t96 =>
  rdP P (Instr.build T_a8_uint32 #[(0, t82), (1, t23), (2, t85), (3, t87), (4, t91), (5, t25), (6, t94), (7, t96)]) w fun t97 =>
  stN 8 t5 t97 w fun w =>
  bi BinOp.add t18 (Value.int IntKind.i64 1) fun t98 =>
  again0 t98 w)
  (lp1 (Value.int IntKind.i64 0) w fun _ t99 w again1 =>
  bi BinOp.lss t99 (Value.int IntKind.i64 8) fun t100 =>
  cnd t100
  (drH w fun S w =>
  ixa 8 1 t2 t99 fun t103 =>
  rdS S (fun w => ld1 t103 w.heap) fun t104 =>
  ixa 8 1 t5 t99 fun t106 =>
  rdS S (fun w => ld1 t106 w.heap) fun t107 =>
  bi BinOp.add t104 t107 fun t108 =>
  ixa 8 1 t2 t99 fun t109 =>
  efC (fun w K => st1 t109 t108 w (K undef)) w fun S _ w =>
  bi BinOp.add t99 (Value.int IntKind.i64 1) fun t110 =>
  again1 t110 w)
  (ldN 8 t2 w.heap fun t111 =>
  stN 8 t4 t111 w fun w =>
  ldN 8 t4 w.heap fun r2 =>
  R r2 w))
theorem e_sha_mixed (t0 t1 : Value) (w : World) (R : Value → World → Prop) : intp P A_sha_mixed (bodyOf Tryz.f120) (ini [t0, t1]) w (retK P Tryz.f120.results.toList R) (fun _ _ _ => False) (retK P Tryz.f120.results.toList R) = c_sha_mixed t0 t1 w R := by kernel_rfl
theorem k_sha_mixed : chk P Tryz.f120.ntmps A_sha_mixed (bodyOf Tryz.f120) = true := by kernel_rfl
theorem l_sha_mixed {t0 t1 : Value} {w : World} {R : Value → World → Prop} (h : c_sha_mixed t0 t1 w R) : cal P f_sha_mixed [t0, t1] w R :=
  calls_of mixed Tryz.func120 rfl (by kernel_rfl) k_sha_mixed (Eq.mpr (e_sha_mixed t0 t1 w R) h)
theorem s_sha_mixed {t0 t1 : Value} {w : World} {Q : Value → World → Prop} (h : ∀ R : Value → World → Prop, (∀ v w', Q v w' → R v w') → c_sha_mixed t0 t1 w R) : cal P f_sha_mixed [t0, t1] w Q := l_sha_mixed (h Q fun _ _ h => h)

/-- flurry/pack.value -/
def A_pack_value : An := (An.s (An.r []) (An.s (An.r []) (An.s (An.s (An.r []) (An.b (An.l [3, 8] (An.s (An.r []) (An.s (An.s An.o An.o) (An.s (An.b (An.s (An.r []) (An.r []))) (An.r []))))))) (An.s (An.r []) An.o))))
def c_pack_value (t0 : Value) (w : World) (R : Value → World → Prop) : Prop :=
  lenS t0 fun t7 =>
  lp2 (Value.int IntKind.u64 0) (Value.int IntKind.i64 0) w fun _ t3 t8 w again0 =>
  bi BinOp.lss t8 t7 fun t9 =>
  cnd t9
  (ixs 1 t0 t8 fun t10 =>
  ld1 t10 w.heap fun t11 =>
  sh BinOp.shl t3 (Value.int IntKind.u64 8) fun t13 =>
  cvi IntKind.u64 t11 fun t15 =>
  bi BinOp.or t13 t15 fun t16 =>
  bi BinOp.add t8 (Value.int IntKind.i64 1) fun t17 =>
  again0 t16 t17 w)
  (R t3 w)
theorem e_pack_value (t0 : Value) (w : World) (R : Value → World → Prop) : intp P A_pack_value (bodyOf Tryz.f121) (ini [t0]) w (retK P Tryz.f121.results.toList R) (fun _ _ _ => False) (retK P Tryz.f121.results.toList R) = c_pack_value t0 w R := by kernel_rfl
theorem k_pack_value : chk P Tryz.f121.ntmps A_pack_value (bodyOf Tryz.f121) = true := by kernel_rfl
theorem l_pack_value {t0 : Value} {w : World} {R : Value → World → Prop} (h : c_pack_value t0 w R) : cal P f_pack_value [t0] w R :=
  calls_of mixed Tryz.func121 rfl (by kernel_rfl) k_pack_value (Eq.mpr (e_pack_value t0 w R) h)
theorem s_pack_value {t0 : Value} {w : World} {Q : Value → World → Prop} (h : ∀ R : Value → World → Prop, (∀ v w', Q v w' → R v w') → c_pack_value t0 w R) : cal P f_pack_value [t0] w Q := l_pack_value (h Q fun _ _ h => h)

/-- (*flurry/pack.Unpacker).take -/
def A_pack_Unpacker_take : An := (An.s (An.r []) (An.s (An.b (An.s (An.r []) (An.s (An.s (An.r []) An.o) (An.s (An.r []) (An.s (An.s (An.r []) (An.s (An.r []) An.o)) (An.s (An.r []) (An.s (An.s (An.r []) (An.s (An.r []) An.o)) An.o))))))) (An.s (An.r []) (An.s (An.r []) (An.s (An.r []) (An.s (An.r []) An.o))))))
def c_pack_Unpacker_take (t0 t1 : Value) (w : World) (R : Value → World → Prop) : Prop :=
  cal P f_pack_Unpacker_works [t0] w fun t8 w =>
  notB t8 fun t9 =>
  cnd t9
  (R (Value.slice none 0 0) w)
  (bi BinOp.lss t1 (Value.int IntKind.i64 0) fun t12 =>
  cnd t12
  (nilc t0 fun t14 =>
  fad 0 t14 fun t15 =>
  cal P f_pack_kept_fails [t15, (Value.int IntKind.i64 1)] w fun t16 w =>
  R (Value.slice none 0 0) w)
  (nilc t0 fun t20 =>
  fad 0 t20 fun t21 =>
  fad 1 t21 fun t22 =>
  ld1 t22 w.heap fun t23 =>
  lenS t23 fun t24 =>
  bi BinOp.gtr t1 t24 fun t25 =>
  cnd t25
  (nilc t0 fun t27 =>
  fad 0 t27 fun t28 =>
  cal P f_pack_kept_fails [t28, (Value.int IntKind.i64 11)] w fun t29 w =>
  R (Value.slice none 0 0) w)
  (efP P (Instr.makeSlice T_sl_uint8 t1 t1) w fun t31 w =>
  nilc t0 fun t34 =>
  fad 0 t34 fun t35 =>
  fad 1 t35 fun t36 =>
  ld1 t36 w.heap fun t37 =>
  efP P (Builtin.copy_ #[T_sl_uint8, T_sl_uint8] T_int #[t31, t37]) w fun t38 w =>
  nilc t0 fun t41 =>
  fad 0 t41 fun t42 =>
  fad 1 t42 fun t43 =>
  ld1 t43 w.heap fun t44 =>
  slc 1 t44 (some t1) none fun t46 =>
  nilc t0 fun t47 =>
  fad 0 t47 fun t48 =>
  fad 1 t48 fun t49 =>
  st1 t49 t46 w fun w =>
  R t31 w)))
theorem e_pack_Unpacker_take (t0 t1 : Value) (w : World) (R : Value → World → Prop) : intp P A_pack_Unpacker_take (bodyOf Tryz.f122) (ini [t0, t1]) w (retK P Tryz.f122.results.toList R) (fun _ _ _ => False) (retK P Tryz.f122.results.toList R) = c_pack_Unpacker_take t0 t1 w R := by kernel_rfl
theorem k_pack_Unpacker_take : chk P Tryz.f122.ntmps A_pack_Unpacker_take (bodyOf Tryz.f122) = true := by kernel_rfl
theorem l_pack_Unpacker_take {t0 t1 : Value} {w : World} {R : Value → World → Prop} (h : c_pack_Unpacker_take t0 t1 w R) : cal P f_pack_Unpacker_take [t0, t1] w R :=
  calls_of mixed Tryz.func122 rfl (by kernel_rfl) k_pack_Unpacker_take (Eq.mpr (e_pack_Unpacker_take t0 t1 w R) h)
theorem s_pack_Unpacker_take {t0 t1 : Value} {w : World} {Q : Value → World → Prop} (h : ∀ R : Value → World → Prop, (∀ v w', Q v w' → R v w') → c_pack_Unpacker_take t0 t1 w R) : cal P f_pack_Unpacker_take [t0, t1] w Q := l_pack_Unpacker_take (h Q fun _ _ h => h)

/-- (*flurry/pack.Unpacker).Short -/
def A_pack_Unpacker_Short : An := (An.s (An.r []) (An.s (An.r []) An.o))
def c_pack_Unpacker_Short (t0 : Value) (w : World) (R : Value → World → Prop) : Prop :=
  cal P f_pack_Unpacker_take [t0, (Value.int IntKind.i64 2)] w fun t4 w =>
  cal P f_pack_value [t4] w fun t5 w =>
  cvi IntKind.u16 t5 fun t6 =>
  R t6 w
theorem e_pack_Unpacker_Short (t0 : Value) (w : World) (R : Value → World → Prop) : intp P A_pack_Unpacker_Short (bodyOf Tryz.f123) (ini [t0]) w (retK P Tryz.f123.results.toList R) (fun _ _ _ => False) (retK P Tryz.f123.results.toList R) = c_pack_Unpacker_Short t0 w R := by kernel_rfl
theorem k_pack_Unpacker_Short : chk P Tryz.f123.ntmps A_pack_Unpacker_Short (bodyOf Tryz.f123) = true := by kernel_rfl
theorem l_pack_Unpacker_Short {t0 : Value} {w : World} {R : Value → World → Prop} (h : c_pack_Unpacker_Short t0 w R) : cal P f_pack_Unpacker_Short [t0] w R :=
  calls_of mixed Tryz.func123 rfl (by kernel_rfl) k_pack_Unpacker_Short (Eq.mpr (e_pack_Unpacker_Short t0 w R) h)
theorem s_pack_Unpacker_Short {t0 : Value} {w : World} {Q : Value → World → Prop} (h : ∀ R : Value → World → Prop, (∀ v w', Q v w' → R v w') → c_pack_Unpacker_Short t0 w R) : cal P f_pack_Unpacker_Short [t0] w Q := l_pack_Unpacker_Short (h Q fun _ _ h => h)

/-- (*flurry/pack.Unpacker).Fixed -/
def A_pack_Unpacker_Fixed : An := (An.s (An.r []) (An.s (An.r []) An.o))
def c_pack_Unpacker_Fixed (t0 t1 : Value) (w : World) (R : Value → World → Prop) : Prop :=
  cal P f_pack_Unpacker_take [t0, t1] w fun t7 w =>
  R t7 w
theorem e_pack_Unpacker_Fixed (t0 t1 : Value) (w : World) (R : Value → World → Prop) : intp P A_pack_Unpacker_Fixed (bodyOf Tryz.f124) (ini [t0, t1]) w (retK P Tryz.f124.results.toList R) (fun _ _ _ => False) (retK P Tryz.f124.results.toList R) = c_pack_Unpacker_Fixed t0 t1 w R := by kernel_rfl
theorem k_pack_Unpacker_Fixed : chk P Tryz.f124.ntmps A_pack_Unpacker_Fixed (bodyOf Tryz.f124) = true := by kernel_rfl
theorem l_pack_Unpacker_Fixed {t0 t1 : Value} {w : World} {R : Value → World → Prop} (h : c_pack_Unpacker_Fixed t0 t1 w R) : cal P f_pack_Unpacker_Fixed [t0, t1] w R :=
  calls_of mixed Tryz.func124 rfl (by kernel_rfl) k_pack_Unpacker_Fixed (Eq.mpr (e_pack_Unpacker_Fixed t0 t1 w R) h)
theorem s_pack_Unpacker_Fixed {t0 t1 : Value} {w : World} {Q : Value → World → Prop} (h : ∀ R : Value → World → Prop, (∀ v w', Q v w' → R v w') → c_pack_Unpacker_Fixed t0 t1 w R) : cal P f_pack_Unpacker_Fixed [t0, t1] w Q := l_pack_Unpacker_Fixed (h Q fun _ _ h => h)

/-- (*flurry/pack.Unpacker).Bytes -/
def A_pack_Unpacker_Bytes : An := (An.s (An.r []) (An.s (An.r []) An.o))
def c_pack_Unpacker_Bytes (t0 t1 : Value) (w : World) (R : Value → World → Prop) : Prop :=
  cal P f_pack_Unpacker_counted [t0, (Value.int IntKind.i64 4), t1] w fun t7 w =>
  R t7 w
theorem e_pack_Unpacker_Bytes (t0 t1 : Value) (w : World) (R : Value → World → Prop) : intp P A_pack_Unpacker_Bytes (bodyOf Tryz.f125) (ini [t0, t1]) w (retK P Tryz.f125.results.toList R) (fun _ _ _ => False) (retK P Tryz.f125.results.toList R) = c_pack_Unpacker_Bytes t0 t1 w R := by kernel_rfl
theorem k_pack_Unpacker_Bytes : chk P Tryz.f125.ntmps A_pack_Unpacker_Bytes (bodyOf Tryz.f125) = true := by kernel_rfl
theorem l_pack_Unpacker_Bytes {t0 t1 : Value} {w : World} {R : Value → World → Prop} (h : c_pack_Unpacker_Bytes t0 t1 w R) : cal P f_pack_Unpacker_Bytes [t0, t1] w R :=
  calls_of mixed Tryz.func125 rfl (by kernel_rfl) k_pack_Unpacker_Bytes (Eq.mpr (e_pack_Unpacker_Bytes t0 t1 w R) h)
theorem s_pack_Unpacker_Bytes {t0 t1 : Value} {w : World} {Q : Value → World → Prop} (h : ∀ R : Value → World → Prop, (∀ v w', Q v w' → R v w') → c_pack_Unpacker_Bytes t0 t1 w R) : cal P f_pack_Unpacker_Bytes [t0, t1] w Q := l_pack_Unpacker_Bytes (h Q fun _ _ h => h)

/-- (*flurry/pack.Unpacker).End -/
def A_pack_Unpacker_End : An := (An.s (An.r []) (An.s (An.s (An.r []) (An.s (An.r [[15]]) (An.s (An.s (An.r []) An.o) An.o))) (An.s (An.r []) An.o)))
def c_pack_Unpacker_End (t0 : Value) (w : World) (R : Value → World → Prop) : Prop :=
  cal P f_pack_Unpacker_Err [t0] w fun t5 w =>
  bi BinOp.neq t5 (Value.int IntKind.i64 0) fun t7 =>
  jn1 (fun k0 =>
  gif t7 false
  (nilc t0 fun t10 =>
  fad 0 t10 fun t11 =>
  fad 1 t11 fun t12 =>
  ld1 t12 w.heap fun t13 =>
  lenS t13 fun t14 =>
  bi BinOp.eql t14 (Value.int IntKind.i64 0) fun t15 =>
  k0 t15 w)
  (k0 undef w)) fun _ t15_1 w =>
  pik t7 (Value.bool true) t15_1 fun t16 =>
  cnd t16
  (R t5 w)
  (R (Value.int IntKind.i64 12) w)
theorem e_pack_Unpacker_End (t0 : Value) (w : World) (R : Value → World → Prop) : intp P A_pack_Unpacker_End (bodyOf Tryz.f126) (ini [t0]) w (retK P Tryz.f126.results.toList R) (fun _ _ _ => False) (retK P Tryz.f126.results.toList R) = c_pack_Unpacker_End t0 w R := by kernel_rfl
theorem k_pack_Unpacker_End : chk P Tryz.f126.ntmps A_pack_Unpacker_End (bodyOf Tryz.f126) = true := by kernel_rfl
theorem l_pack_Unpacker_End {t0 : Value} {w : World} {R : Value → World → Prop} (h : c_pack_Unpacker_End t0 w R) : cal P f_pack_Unpacker_End [t0] w R :=
  calls_of mixed Tryz.func126 rfl (by kernel_rfl) k_pack_Unpacker_End (Eq.mpr (e_pack_Unpacker_End t0 w R) h)
theorem s_pack_Unpacker_End {t0 : Value} {w : World} {Q : Value → World → Prop} (h : ∀ R : Value → World → Prop, (∀ v w', Q v w' → R v w') → c_pack_Unpacker_End t0 w R) : cal P f_pack_Unpacker_End [t0] w Q := l_pack_Unpacker_End (h Q fun _ _ h => h)

/-- flurry/block.made -/
def A_block_made : An := (An.s (An.r []) (An.s (An.s (An.r []) (An.s (An.r []) (An.s (An.s (An.r []) An.o) An.o))) (An.s (An.r []) An.o)))
def c_block_made (t0 : Value) (w : World) (R : Value → World → Prop) : Prop :=
  bx T_api_Block t0 w fun t1 w =>
  efP P (Instr.alloc T_api_Block true (.tuple #[])) w fun t2 w =>
  ldN 34 t1 w.heap fun t5 =>
  cal P f_block_Check [t5] w fun t6 w =>
  bi BinOp.neq t6 (Value.int IntKind.i64 0) fun t8 =>
  cnd t8
  (rdP P (Instr.build T_api_Block #[]) w fun t9 =>
  stN 34 t2 t9 w fun w =>
  ldN 34 t2 w.heap fun r0 =>
  R (Value.tuple #[r0, t6]) w)
  (ldN 34 t1 w.heap fun t11 =>
  cal P f_block_Clone [t11] w fun t12 w =>
  stN 34 t2 t12 w fun w =>
  ldN 34 t2 w.heap fun r1 =>
  R (Value.tuple #[r1, (Value.int IntKind.i64 0)]) w)
theorem e_block_made (t0 : Value) (w : World) (R : Value → World → Prop) : intp P A_block_made (bodyOf Tryz.f127) (ini [t0]) w (retK P Tryz.f127.results.toList R) (fun _ _ _ => False) (retK P Tryz.f127.results.toList R) = c_block_made t0 w R := by kernel_rfl
theorem k_block_made : chk P Tryz.f127.ntmps A_block_made (bodyOf Tryz.f127) = true := by kernel_rfl
theorem l_block_made {t0 : Value} {w : World} {R : Value → World → Prop} (h : c_block_made t0 w R) : cal P f_block_made [t0] w R :=
  calls_of mixed Tryz.func127 rfl (by kernel_rfl) k_block_made (Eq.mpr (e_block_made t0 w R) h)
theorem s_block_made {t0 : Value} {w : World} {Q : Value → World → Prop} (h : ∀ R : Value → World → Prop, (∀ v w', Q v w' → R v w') → c_block_made t0 w R) : cal P f_block_made [t0] w Q := l_block_made (h Q fun _ _ h => h)

/-- slices.Grow[[]byte,byte] -/
def A_slices_Grow_byte_byte : An := (An.s (An.r []) (An.s (An.j [] (An.s (An.r []) (An.s (An.r []) An.o))) (An.s (An.s (An.r []) (An.s (An.r []) (An.s (An.r []) An.o))) (An.s (An.r []) An.o))))
def c_slices_Grow_byte_byte (t0 t1 : Value) (w : World) (R : Value → World → Prop) : Prop :=
  jn0 (fun k0 =>
  bi BinOp.lss t1 (Value.int IntKind.i64 0) fun t6 =>
  cnd t6
  (rdP P (Instr.makeInterface T_string (Value.string { data := #[99, 97, 110, 110, 111, 116, 32, 98, 101, 32, 110, 101, 103, 97, 116, 105, 118, 101] })) w fun t7 =>
  False)
  (k0 w)) fun _ w =>
  rdP P (Builtin.cap_ #[T_sl_uint8] T_int #[t0]) w fun t10 =>
  lenS t0 fun t12 =>
  bi BinOp.sub t10 t12 fun t13 =>
  bi BinOp.sub t1 t13 fun t14 =>
  bi BinOp.gtr t14 (Value.int IntKind.i64 0) fun t16 =>
  cnd t16
  (rdP P (Builtin.cap_ #[T_sl_uint8] T_int #[t0]) w fun t19 =>
  slc 1 t0 none (some t19) fun t20 =>
  efP P (Builtin.append_ #[T_sl_uint8, T_int] T_sl_uint8 #[t20, t14]) w fun t22 w =>
  lenS t0 fun t24 =>
  slc 1 t22 none (some t24) fun t25 =>
  R t25 w)
  (R t0 w)
theorem e_slices_Grow_byte_byte (t0 t1 : Value) (w : World) (R : Value → World → Prop) : intp P A_slices_Grow_byte_byte (bodyOf Tryz.f128) (ini [t0, t1]) w (retK P Tryz.f128.results.toList R) (fun _ _ _ => False) (retK P Tryz.f128.results.toList R) = c_slices_Grow_byte_byte t0 t1 w R := by kernel_rfl
theorem k_slices_Grow_byte_byte : chk P Tryz.f128.ntmps A_slices_Grow_byte_byte (bodyOf Tryz.f128) = true := by kernel_rfl
theorem l_slices_Grow_byte_byte {t0 t1 : Value} {w : World} {R : Value → World → Prop} (h : c_slices_Grow_byte_byte t0 t1 w R) : cal P f_slices_Grow_byte_byte [t0, t1] w R :=
  calls_of mixed Tryz.func128 rfl (by kernel_rfl) k_slices_Grow_byte_byte (Eq.mpr (e_slices_Grow_byte_byte t0 t1 w R) h)
theorem s_slices_Grow_byte_byte {t0 t1 : Value} {w : World} {Q : Value → World → Prop} (h : ∀ R : Value → World → Prop, (∀ v w', Q v w' → R v w') → c_slices_Grow_byte_byte t0 t1 w R) : cal P f_slices_Grow_byte_byte [t0, t1] w Q := l_slices_Grow_byte_byte (h Q fun _ _ h => h)

/-- flurry/sha.schedule -/
def A_sha_schedule : An := (An.s (An.r []) (An.s (An.r []) (An.s (An.s (An.r []) (An.b (An.l [9] (An.s (An.r []) (An.s (An.s An.o An.o) (An.s (An.j [] (An.b (An.s (An.r []) (An.s (An.s (An.r []) (An.s (An.s (An.dc [0, 1, 2, 3, 4, 5, 6, 7, 8, 9, 10, 11, 12, 13, 14, 15, 16, 17, 18, 19, 20, 21, 22, 23, 24, 25, 26, 27, 28, 29, 30, 31, 32, 33, 34, 35] [35] []) An.o) An.o)) (An.s (An.r []) (An.s (An.r []) (An.s (An.r []) (An.dc [0, 1, 2, 3, 4, 5, 6, 7, 8, 9, 10, 11, 12, 13, 14, 15] [15] [])))))))) (An.r []))))))) (An.s (An.r []) An.o))))
def c_sha_schedule (t0 : Value) (w : World) (R : Value → World → Prop) : Prop :=
  efP P (Instr.alloc T_a64_uint32 true (.tuple #[])) w fun t2 w =>
  efP P (Instr.alloc T_a64_uint32 true (.tuple #[])) w fun t3 w =>
  lp1 (Value.int IntKind.i64 0) w fun _ t9 w again0 =>
  bi BinOp.lss t9 (Value.int IntKind.i64 64) fun t10 =>
  cnd t10
  (jn0 (fun k1 =>
  bi BinOp.lss t9 (Value.int IntKind.i64 16) fun t13 =>
  cnd t13
  (drH w fun S w =>
  bi BinOp.mul (Value.int IntKind.i64 4) t9 fun t17 =>
  ixs 1 t0 t17 fun t18 =>
  rdS S (fun w => ld1 t18 w.heap) fun t19 =>
  cvi IntKind.u32 t19 fun t20 =>
  sh BinOp.shl t20 (Value.int IntKind.u64 24) fun t21 =>
  bi BinOp.mul (Value.int IntKind.i64 4) t9 fun t24 =>
  bi BinOp.add t24 (Value.int IntKind.i64 1) fun t25 =>
  ixs 1 t0 t25 fun t26 =>
  rdS S (fun w => ld1 t26 w.heap) fun t27 =>
  cvi IntKind.u32 t27 fun t28 =>
  sh BinOp.shl t28 (Value.int IntKind.u64 16) fun t29 =>
  bi BinOp.or t21 t29 fun t30 =>
  bi BinOp.mul (Value.int IntKind.i64 4) t9 fun t33 =>
  bi BinOp.add t33 (Value.int IntKind.i64 2) fun t34 =>
  ixs 1 t0 t34 fun t35 =>
  rdS S (fun w => ld1 t35 w.heap) fun t36 =>
  cvi IntKind.u32 t36 fun t37 =>
  sh BinOp.shl t37 (Value.int IntKind.u64 8) fun t38 =>
  bi BinOp.or t30 t38 fun t39 =>
  bi BinOp.mul (Value.int IntKind.i64 4) t9 fun t42 =>
  bi BinOp.add t42 (Value.int IntKind.i64 3) fun t43 =>
  ixs 1 t0 t43 fun t44 =>
  rdS S (fun w => ld1 t44 w.heap) fun t45 =>
  cvi IntKind.u32 t45 fun t46 =>
  bi BinOp.or t39 t46 fun t47 =>
  ixa 64 1 t3 t9 fun t48 =>
  efC (fun w K => st1 t48 t47 w (K undef)) w fun S _ w =>
  k1 w)
  (drw w fun w =>
  bi BinOp.sub t9 (Value.int IntKind.i64 15) fun t50 =>
  ixa 64 1 t3 t50 fun t51 =>
  ld1 t51 w.heap fun t52 =>
  bi BinOp.sub t9 (Value.int IntKind.i64 2) fun t54 =>
  ixa 64 1 t3 t54 fun t55 =>
  ld1 t55 w.heap fun t56 =>
  cal P f_math_bits_RotateLeft32 [t52, (Value.int IntKind.i64 (-7))] w fun t58 w =>
  cal P f_math_bits_RotateLeft32 [t52, (Value.int IntKind.i64 (-18))] w fun t60 w =>
  bi BinOp.xor t58 t60 fun t61 =>
  sh BinOp.shr t52 (Value.int IntKind.u64 3) fun t63 =>
  bi BinOp.xor t61 t63 fun t64 =>
  cal P f_math_bits_RotateLeft32 [t56, (Value.int IntKind.i64 (-17))] w fun t66 w =>
  cal P f_math_bits_RotateLeft32 [t56, (Value.int IntKind.i64 (-19))] w fun t68 w =>
  bi BinOp.xor t66 t68 fun t69 =>
  sh BinOp.shr t56 (Value.int IntKind.u64 10) fun t71 =>
  bi BinOp.xor t69 t71 fun t72 =>
  drH w fun S w =>
  bi BinOp.sub t9 (Value.int IntKind.i64 7) fun t76 =>
  ixa 64 1 t3 t76 fun t77 =>
  rdS S (fun w => ld1 t77 w.heap) fun t78 =>
  bi BinOp.add t72 t78 fun t79 =>
  bi BinOp.add t79 t64 fun t81 =>
  bi BinOp.sub t9 (Value.int IntKind.i64 16) fun t83 =>
  ixa 64 1 t3 t83 fun t84 =>
  rdS S (fun w => ld1 t84 w.heap) fun t85 =>
  bi BinOp.add t81 t85 fun t86 =>
  ixa 64 1 t3 t9 fun t87 =>
  efC (fun w K => st1 t87 t86 w (K undef)) w fun S _ w =>
  k1 w)) fun _ w =>
  bi BinOp.add t9 (Value.int IntKind.i64 1) fun t88 =>
  again0 t88 w)
  (ldN 64 t3 w.heap fun t89 =>
  stN 64 t2 t89 w fun w =>
  ldN 64 t2 w.heap fun r2 =>
  R r2 w)
theorem e_sha_schedule (t0 : Value) (w : World) (R : Value → World → Prop) : intp P A_sha_schedule (bodyOf Tryz.f129) (ini [t0]) w (retK P Tryz.f129.results.toList R) (fun _ _ _ => False) (retK P Tryz.f129.results.toList R) = c_sha_schedule t0 w R := by kernel_rfl
theorem k_sha_schedule : chk P Tryz.f129.ntmps A_sha_schedule (bodyOf Tryz.f129) = true := by kernel_rfl
theorem l_sha_schedule {t0 : Value} {w : World} {R : Value → World → Prop} (h : c_sha_schedule t0 w R) : cal P f_sha_schedule [t0] w R :=
  calls_of mixed Tryz.func129 rfl (by kernel_rfl) k_sha_schedule (Eq.mpr (e_sha_schedule t0 w R) h)
theorem s_sha_schedule {t0 : Value} {w : World} {Q : Value → World → Prop} (h : ∀ R : Value → World → Prop, (∀ v w', Q v w' → R v w') → c_sha_schedule t0 w R) : cal P f_sha_schedule [t0] w Q := l_sha_schedule (h Q fun _ _ h => h)

/-- math/bits.RotateLeft32 -/
def A_math_bits_RotateLeft32 : An := (An.s (An.r []) (An.s (An.r []) (An.s (An.r []) An.o)))
def c_math_bits_RotateLeft32 (t0 t1 : Value) (w : World) (R : Value → World → Prop) : Prop :=
  cvi IntKind.u64 t1 fun t7 =>
  bi BinOp.and t7 (Value.int IntKind.u64 31) fun t8 =>
  sh BinOp.shl t0 t8 fun t11 =>
  bi BinOp.sub (Value.int IntKind.u64 32) t8 fun t14 =>
  sh BinOp.shr t0 t14 fun t15 =>
  bi BinOp.or t11 t15 fun t16 =>
  R t16 w
theorem e_math_bits_RotateLeft32 (t0 t1 : Value) (w : World) (R : Value → World → Prop) : intp P A_math_bits_RotateLeft32 (bodyOf Tryz.f130) (ini [t0, t1]) w (retK P Tryz.f130.results.toList R) (fun _ _ _ => False) (retK P Tryz.f130.results.toList R) = c_math_bits_RotateLeft32 t0 t1 w R := by kernel_rfl
theorem k_math_bits_RotateLeft32 : chk P Tryz.f130.ntmps A_math_bits_RotateLeft32 (bodyOf Tryz.f130) = true := by kernel_rfl
theorem l_math_bits_RotateLeft32 {t0 t1 : Value} {w : World} {R : Value → World → Prop} (h : c_math_bits_RotateLeft32 t0 t1 w R) : cal P f_math_bits_RotateLeft32 [t0, t1] w R :=
  calls_of mixed Tryz.func130 rfl (by kernel_rfl) k_math_bits_RotateLeft32 (Eq.mpr (e_math_bits_RotateLeft32 t0 t1 w R) h)
theorem s_math_bits_RotateLeft32 {t0 t1 : Value} {w : World} {Q : Value → World → Prop} (h : ∀ R : Value → World → Prop, (∀ v w', Q v w' → R v w') → c_math_bits_RotateLeft32 t0 t1 w R) : cal P f_math_bits_RotateLeft32 [t0, t1] w Q := l_math_bits_RotateLeft32 (h Q fun _ _ h => h)

/-- (*flurry/pack.Unpacker).works -/
def A_pack_Unpacker_works : An := (An.s (An.r []) (An.s (An.r [[10], [18]]) An.o))
def c_pack_Unpacker_works (t0 : Value) (w : World) (R : Value → World → Prop) : Prop :=
  nilP true t0 fun t4 =>
  jn1 (fun k0 =>
  gif t4 true
  (nilc t0 fun t7 =>
  fad 0 t7 fun t8 =>
  fad 0 t8 fun t9 =>
  ld1 t9 w.heap fun t10 =>
  k0 t10 w)
  (k0 undef w)) fun _ t10_1 w =>
  pik t4 t10_1 (Value.bool false) fun t11 =>
  jn1 (fun k1 =>
  gif t11 true
  (nilc t0 fun t14 =>
  fad 0 t14 fun t15 =>
  fad 2 t15 fun t16 =>
  ld1 t16 w.heap fun t17 =>
  bi BinOp.eql t17 (Value.int IntKind.i64 0) fun t18 =>
  k1 t18 w)
  (k1 undef w)) fun _ t18_1 w =>
  pik t11 t18_1 (Value.bool false) fun t19 =>
  R t19 w
theorem e_pack_Unpacker_works (t0 : Value) (w : World) (R : Value → World → Prop) : intp P A_pack_Unpacker_works (bodyOf Tryz.f131) (ini [t0]) w (retK P Tryz.f131.results.toList R) (fun _ _ _ => False) (retK P Tryz.f131.results.toList R) = c_pack_Unpacker_works t0 w R := by kernel_rfl
theorem k_pack_Unpacker_works : chk P Tryz.f131.ntmps A_pack_Unpacker_works (bodyOf Tryz.f131) = true := by kernel_rfl
theorem l_pack_Unpacker_works {t0 : Value} {w : World} {R : Value → World → Prop} (h : c_pack_Unpacker_works t0 w R) : cal P f_pack_Unpacker_works [t0] w R :=
  calls_of mixed Tryz.func131 rfl (by kernel_rfl) k_pack_Unpacker_works (Eq.mpr (e_pack_Unpacker_works t0 w R) h)
theorem s_pack_Unpacker_works {t0 : Value} {w : World} {Q : Value → World → Prop} (h : ∀ R : Value → World → Prop, (∀ v w', Q v w' → R v w') → c_pack_Unpacker_works t0 w R) : cal P f_pack_Unpacker_works [t0] w Q := l_pack_Unpacker_works (h Q fun _ _ h => h)

/-- (*flurry/pack.Unpacker).counted -/
def A_pack_Unpacker_counted : An := (An.s (An.r []) (An.s (An.s (An.r []) (An.s (An.s (An.r []) An.o) An.o)) (An.s (An.s (An.r []) (An.s (An.s (An.r []) (An.s (An.r []) An.o)) An.o)) (An.s (An.s (An.r []) (An.s (An.s (An.r []) (An.s (An.r []) An.o)) An.o)) (An.s (An.r []) (An.s (An.b (An.s (An.r []) (An.s (An.s (An.r []) (An.s (An.r []) An.o)) (An.s (An.r []) (An.s (An.s (An.r []) (An.s (An.r []) An.o)) An.o))))) (An.s (An.r []) (An.s (An.r []) An.o))))))))
def c_pack_Unpacker_counted (t0 t1 t2 : Value) (w : World) (R : Value → World → Prop) : Prop :=
  cal P f_pack_Unpacker_works [t0] w fun t9 w =>
  notB t9 fun t10 =>
  cnd t10
  (R (Value.slice none 0 0) w)
  (bi BinOp.lss t2 (Value.int IntKind.i64 0) fun t12 =>
  cnd t12
  (nilc t0 fun t14 =>
  fad 0 t14 fun t15 =>
  cal P f_pack_kept_fails [t15, (Value.int IntKind.i64 1)] w fun t16 w =>
  R (Value.slice none 0 0) w)
  (nilc t0 fun t18 =>
  fad 0 t18 fun t19 =>
  fad 1 t19 fun t20 =>
  ld1 t20 w.heap fun t21 =>
  lenS t21 fun t22 =>
  bi BinOp.lss t22 t1 fun t24 =>
  cnd t24
  (nilc t0 fun t26 =>
  fad 0 t26 fun t27 =>
  cal P f_pack_kept_fails [t27, (Value.int IntKind.i64 11)] w fun t28 w =>
  R (Value.slice none 0 0) w)
  (nilc t0 fun t30 =>
  fad 0 t30 fun t31 =>
  fad 1 t31 fun t32 =>
  ld1 t32 w.heap fun t33 =>
  slc 1 t33 none (some t1) fun t35 =>
  cal P f_pack_value [t35] w fun t36 w =>
  cvi IntKind.u64 t2 fun t40 =>
  bi BinOp.gtr t36 t40 fun t41 =>
  cnd t41
  (nilc t0 fun t43 =>
  fad 0 t43 fun t44 =>
  cal P f_pack_kept_fails [t44, (Value.int IntKind.i64 3)] w fun t45 w =>
  R (Value.slice none 0 0) w)
  (nilc t0 fun t49 =>
  fad 0 t49 fun t50 =>
  fad 1 t50 fun t51 =>
  ld1 t51 w.heap fun t52 =>
  lenS t52 fun t53 =>
  bi BinOp.sub t53 t1 fun t55 =>
  cvi IntKind.u64 t55 fun t56 =>
  bi BinOp.gtr t36 t56 fun t57 =>
  cnd t57
  (nilc t0 fun t59 =>
  fad 0 t59 fun t60 =>
  cal P f_pack_kept_fails [t60, (Value.int IntKind.i64 11)] w fun t61 w =>
  R (Value.slice none 0 0) w)
  (nilc t0 fun t64 =>
  fad 0 t64 fun t65 =>
  fad 1 t65 fun t66 =>
  ld1 t66 w.heap fun t67 =>
  slc 1 t67 (some t1) none fun t69 =>
  nilc t0 fun t70 =>
  fad 0 t70 fun t71 =>
  fad 1 t71 fun t72 =>
  st1 t72 t69 w fun w =>
  cvi IntKind.i64 t36 fun t75 =>
  cal P f_pack_Unpacker_take [t0, t75] w fun t76 w =>
  R t76 w)))))
theorem e_pack_Unpacker_counted (t0 t1 t2 : Value) (w : World) (R : Value → World → Prop) : intp P A_pack_Unpacker_counted (bodyOf Tryz.f132) (ini [t0, t1, t2]) w (retK P Tryz.f132.results.toList R) (fun _ _ _ => False) (retK P Tryz.f132.results.toList R) = c_pack_Unpacker_counted t0 t1 t2 w R := by kernel_rfl
theorem k_pack_Unpacker_counted : chk P Tryz.f132.ntmps A_pack_Unpacker_counted (bodyOf Tryz.f132) = true := by kernel_rfl
theorem l_pack_Unpacker_counted {t0 t1 t2 : Value} {w : World} {R : Value → World → Prop} (h : c_pack_Unpacker_counted t0 t1 t2 w R) : cal P f_pack_Unpacker_counted [t0, t1, t2] w R :=
  calls_of mixed Tryz.func132 rfl (by kernel_rfl) k_pack_Unpacker_counted (Eq.mpr (e_pack_Unpacker_counted t0 t1 t2 w R) h)
theorem s_pack_Unpacker_counted {t0 t1 t2 : Value} {w : World} {Q : Value → World → Prop} (h : ∀ R : Value → World → Prop, (∀ v w', Q v w' → R v w') → c_pack_Unpacker_counted t0 t1 t2 w R) : cal P f_pack_Unpacker_counted [t0, t1, t2] w Q := l_pack_Unpacker_counted (h Q fun _ _ h => h)

/-- (*flurry/pack.Unpacker).Err -/
def A_pack_Unpacker_Err : An := (An.s (An.r []) (An.s (An.s (An.r [[11]]) (An.s (An.s (An.r []) An.o) An.o)) (An.s (An.r []) An.o)))
def c_pack_Unpacker_Err (t0 : Value) (w : World) (R : Value → World → Prop) : Prop :=
  nilP false t0 fun t4 =>
  jn1 (fun k0 =>
  gif t4 false
  (nilc t0 fun t7 =>
  fad 0 t7 fun t8 =>
  fad 0 t8 fun t9 =>
  ld1 t9 w.heap fun t10 =>
  notB t10 fun t11 =>
  k0 t11 w)
  (k0 undef w)) fun _ t11_1 w =>
  pik t4 (Value.bool true) t11_1 fun t12 =>
  cnd t12
  (R (Value.int IntKind.i64 2) w)
  (nilc t0 fun t14 =>
  fad 0 t14 fun t15 =>
  fad 2 t15 fun t16 =>
  ld1 t16 w.heap fun t17 =>
  R t17 w)
theorem e_pack_Unpacker_Err (t0 : Value) (w : World) (R : Value → World → Prop) : intp P A_pack_Unpacker_Err (bodyOf Tryz.f133) (ini [t0]) w (retK P Tryz.f133.results.toList R) (fun _ _ _ => False) (retK P Tryz.f133.results.toList R) = c_pack_Unpacker_Err t0 w R := by kernel_rfl
theorem k_pack_Unpacker_Err : chk P Tryz.f133.ntmps A_pack_Unpacker_Err (bodyOf Tryz.f133) = true := by kernel_rfl
theorem l_pack_Unpacker_Err {t0 : Value} {w : World} {R : Value → World → Prop} (h : c_pack_Unpacker_Err t0 w R) : cal P f_pack_Unpacker_Err [t0] w R :=
  calls_of mixed Tryz.func133 rfl (by kernel_rfl) k_pack_Unpacker_Err (Eq.mpr (e_pack_Unpacker_Err t0 w R) h)
theorem s_pack_Unpacker_Err {t0 : Value} {w : World} {Q : Value → World → Prop} (h : ∀ R : Value → World → Prop, (∀ v w', Q v w' → R v w') → c_pack_Unpacker_Err t0 w R) : cal P f_pack_Unpacker_Err [t0] w Q := l_pack_Unpacker_Err (h Q fun _ _ h => h)

end Go.Fx
set_option linter.unusedVariables false
set_option maxRecDepth 100000
namespace Go.Fx
theorem someNe {α : Type} {o : Option α} (h : o.isSome = true) : o ≠ none := by intro h2; rw [h2] at h; cases h
theorem U_int64 : P.underlying T_int64 = some (.int .i64) := by kernel_rfl
theorem U_int : P.underlying T_int = some (.int .i64) := by kernel_rfl
theorem U_uint8 : P.underlying T_uint8 = some (.int .u8) := by kernel_rfl
theorem U_sl_uint8 : P.underlying T_sl_uint8 = some (.slice T_uint8) := by kernel_rfl
theorem S_sl_uint8 : SlT P T_sl_uint8 T_uint8 1 1 := ⟨by kernel_rfl, by kernel_rfl, by kernel_rfl, someNe (by kernel_rfl), by kernel_rfl, by decide⟩
theorem U_api_ID : P.underlying T_api_ID = some (.array 32 T_uint8) := by kernel_rfl
theorem U_api_Block : P.underlying T_api_Block = some (.struct (fsOf P T_api_Block)) := by kernel_rfl
theorem U_sl_flurrylaw10_named : P.underlying T_sl_flurrylaw10_named = some (.slice T_flurrylaw10_named) := by kernel_rfl
theorem S_sl_flurrylaw10_named : SlT P T_sl_flurrylaw10_named T_flurrylaw10_named 66 96 := ⟨by kernel_rfl, by kernel_rfl, by kernel_rfl, someNe (by kernel_rfl), by kernel_rfl, by decide⟩
theorem U_flurrylaw10_named : P.underlying T_flurrylaw10_named = some (.struct (fsOf P T_flurrylaw10_named)) := by kernel_rfl
theorem U_flurrylaw10_world : P.underlying T_flurrylaw10_world = some (.struct (fsOf P T_flurrylaw10_world)) := by kernel_rfl
theorem U_sl_api_Block : P.underlying T_sl_api_Block = some (.slice T_api_Block) := by kernel_rfl
theorem S_sl_api_Block : SlT P T_sl_api_Block T_api_Block 34 64 := ⟨by kernel_rfl, by kernel_rfl, by kernel_rfl, someNe (by kernel_rfl), by kernel_rfl, by decide⟩
theorem U_sl_api_ID : P.underlying T_sl_api_ID = some (.slice T_api_ID) := by kernel_rfl
theorem S_sl_api_ID : SlT P T_sl_api_ID T_api_ID 32 32 := ⟨by kernel_rfl, by kernel_rfl, by kernel_rfl, someNe (by kernel_rfl), by kernel_rfl, by decide⟩
theorem U_map_api_ID_int : P.underlying T_map_api_ID_int = some (.map T_api_ID T_int) := by kernel_rfl
theorem U_chain_Chain : P.underlying T_chain_Chain = some (.struct (fsOf P T_chain_Chain)) := by kernel_rfl
theorem al_tape_Tape (w : World) : (Instr.alloc T_tape_Tape true (.tuple #[])).run P w = .ok (.pointer (some ⟨w.heap.size, 0, none⟩)) (w.alloc (.cells #[(Value.slice none 0 0), (Value.int IntKind.i64 0), (Value.bool false), (Value.bool false)] T_tape_Tape)) := by kernel_rfl
theorem U_chain_held : P.underlying T_chain_held = some (.struct (fsOf P T_chain_held)) := by kernel_rfl
theorem U_flurryref10_Chain : P.underlying T_flurryref10_Chain = some (.struct (fsOf P T_flurryref10_Chain)) := by kernel_rfl
theorem U_sl_int : P.underlying T_sl_int = some (.slice T_int) := by kernel_rfl
theorem S_sl_int : SlT P T_sl_int T_int 1 8 := ⟨by kernel_rfl, by kernel_rfl, by kernel_rfl, someNe (by kernel_rfl), by kernel_rfl, by decide⟩
theorem U_uint32 : P.underlying T_uint32 = some (.int .u32) := by kernel_rfl
theorem U_pack_Packer : P.underlying T_pack_Packer = some (.struct (fsOf P T_pack_Packer)) := by kernel_rfl
theorem U_a64_uint32 : P.underlying T_a64_uint32 = some (.array 64 T_uint32) := by kernel_rfl
abbrev Q_api_Block := (Rdr.pair (rVec 32) (Rdr.pair (rInt .i64) qv))
theorem L_api_Block {h : Heap} {g : Nat} {t : TypeId} {fr : Nat × Nat} {a} (hg : h[g]? = some (.cells (Rdr.cells Q_api_Block a).toArray t fr)) (K : Value → Prop) : ldN 34 (.pointer (some ⟨g, 0, none⟩)) h K = K (.agg (Rdr.cells Q_api_Block a).toArray) := Fld.ldN (r := Q_api_Block) (s := Q_api_Block) Fld.self hg K
theorem St_api_Block {w0 w : World} {As : List Asn} {g : Nat} {t : TypeId} {a} {b} {K : World → Prop} (hs : Sep w0 w (blk g (Rdr.cells Q_api_Block a).toArray t :: As)) (h1 : ∀ u ∈ Rdr.cells Q_api_Block b, u.oneCell' = true) (h : ∀ w', Sep w0 w' (blk g (Rdr.cells Q_api_Block b).toArray t :: As) → K w') : stN 34 (.pointer (some ⟨g, 0, none⟩)) (.agg (Rdr.cells Q_api_Block b).toArray) w K := Fld.stN (r := Q_api_Block) (s := Q_api_Block) Fld.self hs h1 h
theorem L_api_Block__Parent {h : Heap} {g : Nat} {t : TypeId} {fr : Nat × Nat} {a} (hg : h[g]? = some (.cells (Rdr.cells Q_api_Block a).toArray t fr)) (K : Value → Prop) : ldN 32 (.pointer (some ⟨g, 0, none⟩)) h K = K (.agg (Rdr.cells (rVec 32) a.1).toArray) := Fld.ldN (r := Q_api_Block) (s := (rVec 32)) (Fld.fst Fld.self) hg K
theorem L_api_Block__Height {h : Heap} {g : Nat} {t : TypeId} {fr : Nat × Nat} {a} (hg : h[g]? = some (.cells (Rdr.cells Q_api_Block a).toArray t fr)) (K : Value → Prop) : ld1 (.pointer (some ⟨g, 32, none⟩)) h K = K (.int .i64 a.2.1) := Fld.ldI (r := Q_api_Block) (Fld.snd (Fld.fst Fld.self)) hg K
theorem L_api_Block__Data {h : Heap} {g : Nat} {t : TypeId} {fr : Nat × Nat} {a} (hg : h[g]? = some (.cells (Rdr.cells Q_api_Block a).toArray t fr)) (K : Value → Prop) : ld1 (.pointer (some ⟨g, 33, none⟩)) h K = K (a.2.2) := Fld.ld1 (r := Q_api_Block) (Fld.snd (Fld.snd Fld.self)) hg K
theorem St_api_Block__Data {w0 w : World} {As : List Asn} {g : Nat} {t : TypeId} {a} {b} {K : World → Prop} (hs : Sep w0 w (blk g (Rdr.cells Q_api_Block a).toArray t :: As)) (h1 : b.oneCell' = true) (h : ∀ w', Sep w0 w' (blk g (Rdr.cells Q_api_Block (a.1, a.2.1, b)).toArray t :: As) → K w') : st1 (.pointer (some ⟨g, 33, none⟩)) (b) w K := Fld.stV (r := Q_api_Block) (s := qv) (Fld.snd (Fld.snd Fld.self)) rfl hs h1 h
theorem one_api_Block {a} (h0 : (a.2.2).oneCell' = true) : ∀ u ∈ Rdr.cells Q_api_Block a, u.oneCell' = true := (onePair oneVec (onePair oneI (oneV h0)))
theorem A_api_Block (w : World) : (Instr.alloc T_api_Block true (.tuple #[])).run P w = .ok (.pointer (some ⟨w.heap.size, 0, none⟩)) (w.alloc (.cells (Rdr.cells Q_api_Block ((vz 32), (0 : Int), ((Value.slice none 0 0)))).toArray T_api_Block)) := by kernel_rfl
theorem pl_api_Block : ((fsOf P T_api_Block).toList.mapM fun f : Field => (P.info? f.type).map fun i => (f.offset, i.size)) = some (#[(0, 32), (32, 1), (33, 1)] : Array (Nat × Nat)).toList := by kernel_rfl
theorem z_api_Block : ((P.info? T_api_Block).bind fun it => it.zero.map fun z => z.cells) = some (Rdr.cells Q_api_Block ((vz 32), (0 : Int), ((Value.slice none 0 0)))).toArray := by kernel_rfl
abbrev Q_flurrylaw10_named := (Rdr.pair (rVec 32) Q_api_Block)
theorem LA_flurrylaw10_named__id {h : Heap} {g o : Nat} {a} (hg : At h g o (Rdr.cells Q_flurrylaw10_named a)) (K : Value → Prop) : ldN 32 (.pointer (some ⟨g, o, none⟩)) h K = K (.agg (Rdr.cells (rVec 32) a.1).toArray) := Fld.ldNA (r := Q_flurrylaw10_named) (s := (rVec 32)) (Fld.fst Fld.self) hg K
theorem LA_flurrylaw10_named__b {h : Heap} {g o : Nat} {a} (hg : At h g o (Rdr.cells Q_flurrylaw10_named a)) (K : Value → Prop) : ldN 34 (.pointer (some ⟨g, o + 32, none⟩)) h K = K (.agg (Rdr.cells Q_api_Block a.2).toArray) := Fld.ldNA (r := Q_flurrylaw10_named) (s := Q_api_Block) (Fld.snd Fld.self) hg K
theorem one_flurrylaw10_named {a} (h0 : (a.2.2.2).oneCell' = true) : ∀ u ∈ Rdr.cells Q_flurrylaw10_named a, u.oneCell' = true := (onePair oneVec (onePair oneVec (onePair oneI (oneV h0))))
theorem pl_flurrylaw10_named : ((fsOf P T_flurrylaw10_named).toList.mapM fun f : Field => (P.info? f.type).map fun i => (f.offset, i.size)) = some (#[(0, 32), (32, 34)] : Array (Nat × Nat)).toList := by kernel_rfl
theorem z_flurrylaw10_named : ((P.info? T_flurrylaw10_named).bind fun it => it.zero.map fun z => z.cells) = some (Rdr.cells Q_flurrylaw10_named ((vz 32), ((vz 32), (0 : Int), ((Value.slice none 0 0))))).toArray := by kernel_rfl
abbrev Q_flurrylaw10_world := (Rdr.pair qv (Rdr.pair qv (Rdr.pair qv qv)))
theorem L_flurrylaw10_world__t {h : Heap} {g : Nat} {t : TypeId} {fr : Nat × Nat} {a} (hg : h[g]? = some (.cells (Rdr.cells Q_flurrylaw10_world a).toArray t fr)) (K : Value → Prop) : ld1 (.pointer (some ⟨g, 0, none⟩)) h K = K (a.1) := Fld.ld1 (r := Q_flurrylaw10_world) (Fld.fst Fld.self) hg K
theorem L_flurrylaw10_world__c {h : Heap} {g : Nat} {t : TypeId} {fr : Nat × Nat} {a} (hg : h[g]? = some (.cells (Rdr.cells Q_flurrylaw10_world a).toArray t fr)) (K : Value → Prop) : ld1 (.pointer (some ⟨g, 1, none⟩)) h K = K (a.2.1) := Fld.ld1 (r := Q_flurrylaw10_world) (Fld.snd (Fld.fst Fld.self)) hg K
theorem St_flurrylaw10_world__c {w0 w : World} {As : List Asn} {g : Nat} {t : TypeId} {a} {b} {K : World → Prop} (hs : Sep w0 w (blk g (Rdr.cells Q_flurrylaw10_world a).toArray t :: As)) (h1 : b.oneCell' = true) (h : ∀ w', Sep w0 w' (blk g (Rdr.cells Q_flurrylaw10_world (a.1, b, a.2.2.1, a.2.2.2)).toArray t :: As) → K w') : st1 (.pointer (some ⟨g, 1, none⟩)) (b) w K := Fld.stV (r := Q_flurrylaw10_world) (s := qv) (Fld.snd (Fld.fst Fld.self)) rfl hs h1 h
theorem L_flurrylaw10_world__u {h : Heap} {g : Nat} {t : TypeId} {fr : Nat × Nat} {a} (hg : h[g]? = some (.cells (Rdr.cells Q_flurrylaw10_world a).toArray t fr)) (K : Value → Prop) : ld1 (.pointer (some ⟨g, 2, none⟩)) h K = K (a.2.2.1) := Fld.ld1 (r := Q_flurrylaw10_world) (Fld.snd (Fld.snd (Fld.fst Fld.self))) hg K
theorem L_flurrylaw10_world__w {h : Heap} {g : Nat} {t : TypeId} {fr : Nat × Nat} {a} (hg : h[g]? = some (.cells (Rdr.cells Q_flurrylaw10_world a).toArray t fr)) (K : Value → Prop) : ld1 (.pointer (some ⟨g, 3, none⟩)) h K = K (a.2.2.2) := Fld.ld1 (r := Q_flurrylaw10_world) (Fld.snd (Fld.snd (Fld.snd Fld.self))) hg K
theorem St_flurrylaw10_world__w {w0 w : World} {As : List Asn} {g : Nat} {t : TypeId} {a} {b} {K : World → Prop} (hs : Sep w0 w (blk g (Rdr.cells Q_flurrylaw10_world a).toArray t :: As)) (h1 : b.oneCell' = true) (h : ∀ w', Sep w0 w' (blk g (Rdr.cells Q_flurrylaw10_world (a.1, a.2.1, a.2.2.1, b)).toArray t :: As) → K w') : st1 (.pointer (some ⟨g, 3, none⟩)) (b) w K := Fld.stV (r := Q_flurrylaw10_world) (s := qv) (Fld.snd (Fld.snd (Fld.snd Fld.self))) rfl hs h1 h
theorem pl_flurrylaw10_world : ((fsOf P T_flurrylaw10_world).toList.mapM fun f : Field => (P.info? f.type).map fun i => (f.offset, i.size)) = some (#[(0, 1), (1, 1), (2, 1), (3, 1)] : Array (Nat × Nat)).toList := by kernel_rfl
theorem z_flurrylaw10_world : ((P.info? T_flurrylaw10_world).bind fun it => it.zero.map fun z => z.cells) = some (Rdr.cells Q_flurrylaw10_world (((Value.pointer none)), ((Value.pointer none)), ((Value.pointer none)), ((Value.pointer none)))).toArray := by kernel_rfl
abbrev Q_chain_Chain := (Rdr.pair qv (Rdr.pair qv (Rdr.pair qv (Rdr.pair qv rBool))))
theorem L_chain_Chain {h : Heap} {g : Nat} {t : TypeId} {fr : Nat × Nat} {a} (hg : h[g]? = some (.cells (Rdr.cells Q_chain_Chain a).toArray t fr)) (K : Value → Prop) : ldN 5 (.pointer (some ⟨g, 0, none⟩)) h K = K (.agg (Rdr.cells Q_chain_Chain a).toArray) := Fld.ldN (r := Q_chain_Chain) (s := Q_chain_Chain) Fld.self hg K
theorem L_chain_Chain__in {h : Heap} {g : Nat} {t : TypeId} {fr : Nat × Nat} {a} (hg : h[g]? = some (.cells (Rdr.cells Q_chain_Chain a).toArray t fr)) (K : Value → Prop) : ld1 (.pointer (some ⟨g, 0, none⟩)) h K = K (a.1) := Fld.ld1 (r := Q_chain_Chain) (Fld.fst Fld.self) hg K
theorem L_chain_Chain__l {h : Heap} {g : Nat} {t : TypeId} {fr : Nat × Nat} {a} (hg : h[g]? = some (.cells (Rdr.cells Q_chain_Chain a).toArray t fr)) (K : Value → Prop) : ld1 (.pointer (some ⟨g, 1, none⟩)) h K = K (a.2.1) := Fld.ld1 (r := Q_chain_Chain) (Fld.snd (Fld.fst Fld.self)) hg K
theorem St_chain_Chain__l {w0 w : World} {As : List Asn} {g : Nat} {t : TypeId} {a} {b} {K : World → Prop} (hs : Sep w0 w (blk g (Rdr.cells Q_chain_Chain a).toArray t :: As)) (h1 : b.oneCell' = true) (h : ∀ w', Sep w0 w' (blk g (Rdr.cells Q_chain_Chain (a.1, b, a.2.2.1, a.2.2.2.1, a.2.2.2.2)).toArray t :: As) → K w') : st1 (.pointer (some ⟨g, 1, none⟩)) (b) w K := Fld.stV (r := Q_chain_Chain) (s := qv) (Fld.snd (Fld.fst Fld.self)) rfl hs h1 h
theorem L_chain_Chain__ids {h : Heap} {g : Nat} {t : TypeId} {fr : Nat × Nat} {a} (hg : h[g]? = some (.cells (Rdr.cells Q_chain_Chain a).toArray t fr)) (K : Value → Prop) : ld1 (.pointer (some ⟨g, 2, none⟩)) h K = K (a.2.2.1) := Fld.ld1 (r := Q_chain_Chain) (Fld.snd (Fld.snd (Fld.fst Fld.self))) hg K
theorem St_chain_Chain__ids {w0 w : World} {As : List Asn} {g : Nat} {t : TypeId} {a} {b} {K : World → Prop} (hs : Sep w0 w (blk g (Rdr.cells Q_chain_Chain a).toArray t :: As)) (h1 : b.oneCell' = true) (h : ∀ w', Sep w0 w' (blk g (Rdr.cells Q_chain_Chain (a.1, a.2.1, b, a.2.2.2.1, a.2.2.2.2)).toArray t :: As) → K w') : st1 (.pointer (some ⟨g, 2, none⟩)) (b) w K := Fld.stV (r := Q_chain_Chain) (s := qv) (Fld.snd (Fld.snd (Fld.fst Fld.self))) rfl hs h1 h
theorem L_chain_Chain__at {h : Heap} {g : Nat} {t : TypeId} {fr : Nat × Nat} {a} (hg : h[g]? = some (.cells (Rdr.cells Q_chain_Chain a).toArray t fr)) (K : Value → Prop) : ld1 (.pointer (some ⟨g, 3, none⟩)) h K = K (a.2.2.2.1) := Fld.ld1 (r := Q_chain_Chain) (Fld.snd (Fld.snd (Fld.snd (Fld.fst Fld.self)))) hg K
theorem L_chain_Chain__over {h : Heap} {g : Nat} {t : TypeId} {fr : Nat × Nat} {a} (hg : h[g]? = some (.cells (Rdr.cells Q_chain_Chain a).toArray t fr)) (K : Value → Prop) : ld1 (.pointer (some ⟨g, 4, none⟩)) h K = K (.bool a.2.2.2.2) := Fld.ldB (r := Q_chain_Chain) (Fld.snd (Fld.snd (Fld.snd (Fld.snd Fld.self)))) hg K
theorem St_chain_Chain__over {w0 w : World} {As : List Asn} {g : Nat} {t : TypeId} {a} {b} {K : World → Prop} (hs : Sep w0 w (blk g (Rdr.cells Q_chain_Chain a).toArray t :: As)) (h : ∀ w', Sep w0 w' (blk g (Rdr.cells Q_chain_Chain (a.1, a.2.1, a.2.2.1, a.2.2.2.1, b)).toArray t :: As) → K w') : st1 (.pointer (some ⟨g, 4, none⟩)) (.bool b) w K := Fld.stV (r := Q_chain_Chain) (s := rBool) (Fld.snd (Fld.snd (Fld.snd (Fld.snd Fld.self)))) rfl hs rfl h
theorem pl_chain_Chain : ((fsOf P T_chain_Chain).toList.mapM fun f : Field => (P.info? f.type).map fun i => (f.offset, i.size)) = some (#[(0, 1), (1, 1), (2, 1), (3, 1), (4, 1)] : Array (Nat × Nat)).toList := by kernel_rfl
theorem z_chain_Chain : ((P.info? T_chain_Chain).bind fun it => it.zero.map fun z => z.cells) = some (Rdr.cells Q_chain_Chain (((Value.pointer none)), ((Value.slice none 0 0)), ((Value.slice none 0 0)), ((Value.map none)), false)).toArray := by kernel_rfl
abbrev Q_flurrylaw10_Op := (Rdr.pair (rInt .i64) (Rdr.pair (rInt .i64) (Rdr.pair qv Q_api_Block)))
abbrev Q_chain_held := qv
theorem L_chain_held {h : Heap} {g : Nat} {t : TypeId} {fr : Nat × Nat} {a} (hg : h[g]? = some (.cells (Rdr.cells Q_chain_held a).toArray t fr)) (K : Value → Prop) : ldN 1 (.pointer (some ⟨g, 0, none⟩)) h K = K (.agg (Rdr.cells Q_chain_held a).toArray) := Fld.ldN (r := Q_chain_held) (s := Q_chain_held) Fld.self hg K
theorem L_chain_held__Tape {h : Heap} {g : Nat} {t : TypeId} {fr : Nat × Nat} {a} (hg : h[g]? = some (.cells (Rdr.cells Q_chain_held a).toArray t fr)) (K : Value → Prop) : ld1 (.pointer (some ⟨g, 0, none⟩)) h K = K (a) := Fld.ld1 (r := Q_chain_held) Fld.self hg K
theorem pl_chain_held : ((fsOf P T_chain_held).toList.mapM fun f : Field => (P.info? f.type).map fun i => (f.offset, i.size)) = some (#[(0, 1)] : Array (Nat × Nat)).toList := by kernel_rfl
theorem z_chain_held : ((P.info? T_chain_held).bind fun it => it.zero.map fun z => z.cells) = some (Rdr.cells Q_chain_held (((Value.pointer none)))).toArray := by kernel_rfl
abbrev Q_flurryref10_Chain := (Rdr.pair qv (Rdr.pair qv rBool))
theorem L_flurryref10_Chain {h : Heap} {g : Nat} {t : TypeId} {fr : Nat × Nat} {a} (hg : h[g]? = some (.cells (Rdr.cells Q_flurryref10_Chain a).toArray t fr)) (K : Value → Prop) : ldN 3 (.pointer (some ⟨g, 0, none⟩)) h K = K (.agg (Rdr.cells Q_flurryref10_Chain a).toArray) := Fld.ldN (r := Q_flurryref10_Chain) (s := Q_flurryref10_Chain) Fld.self hg K
theorem L_flurryref10_Chain__T {h : Heap} {g : Nat} {t : TypeId} {fr : Nat × Nat} {a} (hg : h[g]? = some (.cells (Rdr.cells Q_flurryref10_Chain a).toArray t fr)) (K : Value → Prop) : ld1 (.pointer (some ⟨g, 0, none⟩)) h K = K (a.1) := Fld.ld1 (r := Q_flurryref10_Chain) (Fld.fst Fld.self) hg K
theorem L_flurryref10_Chain__L {h : Heap} {g : Nat} {t : TypeId} {fr : Nat × Nat} {a} (hg : h[g]? = some (.cells (Rdr.cells Q_flurryref10_Chain a).toArray t fr)) (K : Value → Prop) : ld1 (.pointer (some ⟨g, 1, none⟩)) h K = K (a.2.1) := Fld.ld1 (r := Q_flurryref10_Chain) (Fld.snd (Fld.fst Fld.self)) hg K
theorem St_flurryref10_Chain__L {w0 w : World} {As : List Asn} {g : Nat} {t : TypeId} {a} {b} {K : World → Prop} (hs : Sep w0 w (blk g (Rdr.cells Q_flurryref10_Chain a).toArray t :: As)) (h1 : b.oneCell' = true) (h : ∀ w', Sep w0 w' (blk g (Rdr.cells Q_flurryref10_Chain (a.1, b, a.2.2)).toArray t :: As) → K w') : st1 (.pointer (some ⟨g, 1, none⟩)) (b) w K := Fld.stV (r := Q_flurryref10_Chain) (s := qv) (Fld.snd (Fld.fst Fld.self)) rfl hs h1 h
theorem L_flurryref10_Chain__Off {h : Heap} {g : Nat} {t : TypeId} {fr : Nat × Nat} {a} (hg : h[g]? = some (.cells (Rdr.cells Q_flurryref10_Chain a).toArray t fr)) (K : Value → Prop) : ld1 (.pointer (some ⟨g, 2, none⟩)) h K = K (.bool a.2.2) := Fld.ldB (r := Q_flurryref10_Chain) (Fld.snd (Fld.snd Fld.self)) hg K
theorem pl_flurryref10_Chain : ((fsOf P T_flurryref10_Chain).toList.mapM fun f : Field => (P.info? f.type).map fun i => (f.offset, i.size)) = some (#[(0, 1), (1, 1), (2, 1)] : Array (Nat × Nat)).toList := by kernel_rfl
theorem z_flurryref10_Chain : ((P.info? T_flurryref10_Chain).bind fun it => it.zero.map fun z => z.cells) = some (Rdr.cells Q_flurryref10_Chain (((Value.pointer none)), ((Value.slice none 0 0)), false)).toArray := by kernel_rfl
abbrev Q_pack_kept := (Rdr.pair rBool (Rdr.pair qv (rInt .i64)))
abbrev Q_pack_Packer := (Rdr.pair Q_pack_kept (rInt .i64))
theorem L_pack_Packer {h : Heap} {g : Nat} {t : TypeId} {fr : Nat × Nat} {a} (hg : h[g]? = some (.cells (Rdr.cells Q_pack_Packer a).toArray t fr)) (K : Value → Prop) : ldN 4 (.pointer (some ⟨g, 0, none⟩)) h K = K (.agg (Rdr.cells Q_pack_Packer a).toArray) := Fld.ldN (r := Q_pack_Packer) (s := Q_pack_Packer) Fld.self hg K
theorem L_pack_Packer__kept {h : Heap} {g : Nat} {t : TypeId} {fr : Nat × Nat} {a} (hg : h[g]? = some (.cells (Rdr.cells Q_pack_Packer a).toArray t fr)) (K : Value → Prop) : ldN 3 (.pointer (some ⟨g, 0, none⟩)) h K = K (.agg (Rdr.cells Q_pack_kept a.1).toArray) := Fld.ldN (r := Q_pack_Packer) (s := Q_pack_kept) (Fld.fst Fld.self) hg K
theorem L_pack_Packer__kept_made {h : Heap} {g : Nat} {t : TypeId} {fr : Nat × Nat} {a} (hg : h[g]? = some (.cells (Rdr.cells Q_pack_Packer a).toArray t fr)) (K : Value → Prop) : ld1 (.pointer (some ⟨g, 0, none⟩)) h K = K (.bool a.1.1) := Fld.ldB (r := Q_pack_Packer) (Fld.fst (Fld.fst Fld.self)) hg K
theorem St_pack_Packer__kept_made {w0 w : World} {As : List Asn} {g : Nat} {t : TypeId} {a} {b} {K : World → Prop} (hs : Sep w0 w (blk g (Rdr.cells Q_pack_Packer a).toArray t :: As)) (h : ∀ w', Sep w0 w' (blk g (Rdr.cells Q_pack_Packer ((b, a.1.2.1, a.1.2.2), a.2)).toArray t :: As) → K w') : st1 (.pointer (some ⟨g, 0, none⟩)) (.bool b) w K := Fld.stV (r := Q_pack_Packer) (s := rBool) (Fld.fst (Fld.fst Fld.self)) rfl hs rfl h
theorem L_pack_Packer__kept_b {h : Heap} {g : Nat} {t : TypeId} {fr : Nat × Nat} {a} (hg : h[g]? = some (.cells (Rdr.cells Q_pack_Packer a).toArray t fr)) (K : Value → Prop) : ld1 (.pointer (some ⟨g, 1, none⟩)) h K = K (a.1.2.1) := Fld.ld1 (r := Q_pack_Packer) (Fld.fst (Fld.snd (Fld.fst Fld.self))) hg K
theorem St_pack_Packer__kept_b {w0 w : World} {As : List Asn} {g : Nat} {t : TypeId} {a} {b} {K : World → Prop} (hs : Sep w0 w (blk g (Rdr.cells Q_pack_Packer a).toArray t :: As)) (h1 : b.oneCell' = true) (h : ∀ w', Sep w0 w' (blk g (Rdr.cells Q_pack_Packer ((a.1.1, b, a.1.2.2), a.2)).toArray t :: As) → K w') : st1 (.pointer (some ⟨g, 1, none⟩)) (b) w K := Fld.stV (r := Q_pack_Packer) (s := qv) (Fld.fst (Fld.snd (Fld.fst Fld.self))) rfl hs h1 h
theorem L_pack_Packer__kept_err {h : Heap} {g : Nat} {t : TypeId} {fr : Nat × Nat} {a} (hg : h[g]? = some (.cells (Rdr.cells Q_pack_Packer a).toArray t fr)) (K : Value → Prop) : ld1 (.pointer (some ⟨g, 2, none⟩)) h K = K (.int .i64 a.1.2.2) := Fld.ldI (r := Q_pack_Packer) (Fld.fst (Fld.snd (Fld.snd Fld.self))) hg K
theorem L_pack_Packer__limit {h : Heap} {g : Nat} {t : TypeId} {fr : Nat × Nat} {a} (hg : h[g]? = some (.cells (Rdr.cells Q_pack_Packer a).toArray t fr)) (K : Value → Prop) : ld1 (.pointer (some ⟨g, 3, none⟩)) h K = K (.int .i64 a.2) := Fld.ldI (r := Q_pack_Packer) (Fld.snd Fld.self) hg K
theorem pl_pack_Packer : ((fsOf P T_pack_Packer).toList.mapM fun f : Field => (P.info? f.type).map fun i => (f.offset, i.size)) = some (#[(0, 3), (3, 1)] : Array (Nat × Nat)).toList := by kernel_rfl
theorem z_pack_Packer : ((P.info? T_pack_Packer).bind fun it => it.zero.map fun z => z.cells) = some (Rdr.cells Q_pack_Packer ((false, ((Value.slice none 0 0)), (0 : Int)), (0 : Int))).toArray := by kernel_rfl
abbrev Q_pack_Unpacker := Q_pack_kept
theorem L_pack_Unpacker {h : Heap} {g : Nat} {t : TypeId} {fr : Nat × Nat} {a} (hg : h[g]? = some (.cells (Rdr.cells Q_pack_Unpacker a).toArray t fr)) (K : Value → Prop) : ldN 3 (.pointer (some ⟨g, 0, none⟩)) h K = K (.agg (Rdr.cells Q_pack_Unpacker a).toArray) := Fld.ldN (r := Q_pack_Unpacker) (s := Q_pack_Unpacker) Fld.self hg K
theorem L_pack_Unpacker__kept {h : Heap} {g : Nat} {t : TypeId} {fr : Nat × Nat} {a} (hg : h[g]? = some (.cells (Rdr.cells Q_pack_Unpacker a).toArray t fr)) (K : Value → Prop) : ldN 3 (.pointer (some ⟨g, 0, none⟩)) h K = K (.agg (Rdr.cells Q_pack_kept a).toArray) := Fld.ldN (r := Q_pack_Unpacker) (s := Q_pack_kept) Fld.self hg K
theorem L_pack_Unpacker__kept_made {h : Heap} {g : Nat} {t : TypeId} {fr : Nat × Nat} {a} (hg : h[g]? = some (.cells (Rdr.cells Q_pack_Unpacker a).toArray t fr)) (K : Value → Prop) : ld1 (.pointer (some ⟨g, 0, none⟩)) h K = K (.bool a.1) := Fld.ldB (r := Q_pack_Unpacker) (Fld.fst Fld.self) hg K
theorem St_pack_Unpacker__kept_made {w0 w : World} {As : List Asn} {g : Nat} {t : TypeId} {a} {b} {K : World → Prop} (hs : Sep w0 w (blk g (Rdr.cells Q_pack_Unpacker a).toArray t :: As)) (h : ∀ w', Sep w0 w' (blk g (Rdr.cells Q_pack_Unpacker ((b, a.2.1, a.2.2))).toArray t :: As) → K w') : st1 (.pointer (some ⟨g, 0, none⟩)) (.bool b) w K := Fld.stV (r := Q_pack_Unpacker) (s := rBool) (Fld.fst Fld.self) rfl hs rfl h
theorem L_pack_Unpacker__kept_b {h : Heap} {g : Nat} {t : TypeId} {fr : Nat × Nat} {a} (hg : h[g]? = some (.cells (Rdr.cells Q_pack_Unpacker a).toArray t fr)) (K : Value → Prop) : ld1 (.pointer (some ⟨g, 1, none⟩)) h K = K (a.2.1) := Fld.ld1 (r := Q_pack_Unpacker) (Fld.snd (Fld.fst Fld.self)) hg K
theorem St_pack_Unpacker__kept_b {w0 w : World} {As : List Asn} {g : Nat} {t : TypeId} {a} {b} {K : World → Prop} (hs : Sep w0 w (blk g (Rdr.cells Q_pack_Unpacker a).toArray t :: As)) (h1 : b.oneCell' = true) (h : ∀ w', Sep w0 w' (blk g (Rdr.cells Q_pack_Unpacker ((a.1, b, a.2.2))).toArray t :: As) → K w') : st1 (.pointer (some ⟨g, 1, none⟩)) (b) w K := Fld.stV (r := Q_pack_Unpacker) (s := qv) (Fld.snd (Fld.fst Fld.self)) rfl hs h1 h
theorem L_pack_Unpacker__kept_err {h : Heap} {g : Nat} {t : TypeId} {fr : Nat × Nat} {a} (hg : h[g]? = some (.cells (Rdr.cells Q_pack_Unpacker a).toArray t fr)) (K : Value → Prop) : ld1 (.pointer (some ⟨g, 2, none⟩)) h K = K (.int .i64 a.2.2) := Fld.ldI (r := Q_pack_Unpacker) (Fld.snd (Fld.snd Fld.self)) hg K
theorem St_pack_Unpacker__kept_err {w0 w : World} {As : List Asn} {g : Nat} {t : TypeId} {a} {b} {K : World → Prop} (hs : Sep w0 w (blk g (Rdr.cells Q_pack_Unpacker a).toArray t :: As)) (h : ∀ w', Sep w0 w' (blk g (Rdr.cells Q_pack_Unpacker ((a.1, a.2.1, b))).toArray t :: As) → K w') : st1 (.pointer (some ⟨g, 2, none⟩)) (.int .i64 b) w K := Fld.stV (r := Q_pack_Unpacker) (s := (rInt .i64)) (Fld.snd (Fld.snd Fld.self)) rfl hs rfl h
theorem A_api_ID (w : World) : (Instr.alloc T_api_ID true (.tuple #[])).run P w = .ok (.pointer (some ⟨w.heap.size, 0, none⟩)) (w.alloc (.cells (Rdr.cells (rVec 32) (vz 32)).toArray T_api_ID)) := by kernel_rfl
theorem L_api_ID {h : Heap} {g : Nat} {t : TypeId} {fr : Nat × Nat} {a} (hg : h[g]? = some (.cells (Rdr.cells (rVec 32) a).toArray t fr)) (K : Value → Prop) : ldN 32 (.pointer (some ⟨g, 0, none⟩)) h K = K (.agg (Rdr.cells (rVec 32) a).toArray) := Fld.ldN (r := rVec 32) (s := rVec 32) Fld.self hg K
theorem St_api_ID {w0 w : World} {As : List Asn} {g : Nat} {t : TypeId} {a} {b} {K : World → Prop} (hs : Sep w0 w (blk g (Rdr.cells (rVec 32) a).toArray t :: As)) (h : ∀ w', Sep w0 w' (blk g (Rdr.cells (rVec 32) b).toArray t :: As) → K w') : stN 32 (.pointer (some ⟨g, 0, none⟩)) (.agg (Rdr.cells (rVec 32) b).toArray) w K := Fld.stN (r := rVec 32) (s := rVec 32) Fld.self hs oneVec h
theorem EQ_api_ID : EqT P T_api_ID (rVec 32) true 2 := eqT_vec U_api_ID U_uint8 (by kernel_rfl) (by kernel_rfl)
theorem eq_api_ID {x y : Operand} {w : World} {a b : Vec 32} (K : Value → Prop) : rdP P (eqS .eql T_api_ID x y (.agg (Rdr.cells (rVec 32) a).toArray) (.agg (Rdr.cells (rVec 32) b).toArray)) w K = K (.bool (decide (a = b))) := eqS_agg EQ_api_ID (by decide) (by kernel_rfl) K
theorem ne_api_ID {x y : Operand} {w : World} {a b : Vec 32} (K : Value → Prop) : rdP P (eqS .neq T_api_ID x y (.agg (Rdr.cells (rVec 32) a).toArray) (.agg (Rdr.cells (rVec 32) b).toArray)) w K = K (.bool (!decide (a = b))) := neS_agg EQ_api_ID (by decide) (by kernel_rfl) K
theorem B_api_Block  {w : World}  (K : Value → Prop) : rdP P (Instr.build T_api_Block #[]) w K = K (.agg (Rdr.cells Q_api_Block ((vz 32), (0 : Int), ((Value.slice none 0 0)))).toArray) := by
  refine rd_build ?_ K
  refine (built_struct z_api_Block U_api_Block pl_api_Block).trans ?_
  rfl
theorem B_api_Block_0_1_2 {b0} {b1 : Int} {b2 : Value} {w : World} (h2 : b2.oneCell' = true) (K : Value → Prop) : rdP P (Instr.build T_api_Block #[(0, .agg (Rdr.cells (rVec 32) b0).toArray), (1, .int .i64 b1), (2, b2)]) w K = K (.agg (Rdr.cells Q_api_Block (b0, b1, b2)).toArray) := by
  refine rd_build ?_ K
  refine (built_struct z_api_Block U_api_Block pl_api_Block).trans ?_
  refine Eq.trans (fill_step (r := Q_api_Block) (s := (rVec 32)) (Fld.fst Fld.self) (a := ((vz 32), (0 : Int), ((Value.slice none 0 0)))) rfl rfl) ?_
  refine Eq.trans (fill_step (r := Q_api_Block) (s := (rInt .i64)) (Fld.snd (Fld.fst Fld.self)) (a := (b0, (0 : Int), ((Value.slice none 0 0)))) rfl rfl) ?_
  refine Eq.trans (fill_step (r := Q_api_Block) (s := qv) (Fld.snd (Fld.snd Fld.self)) (a := (b0, b1, ((Value.slice none 0 0)))) rfl (cells_one h2)) ?_
  rfl
theorem B_api_Block_1_2 {b1 : Int} {b2 : Value} {w : World} (h2 : b2.oneCell' = true) (K : Value → Prop) : rdP P (Instr.build T_api_Block #[(1, .int .i64 b1), (2, b2)]) w K = K (.agg (Rdr.cells Q_api_Block ((vz 32), b1, b2)).toArray) := by
  refine rd_build ?_ K
  refine (built_struct z_api_Block U_api_Block pl_api_Block).trans ?_
  refine Eq.trans (fill_step (r := Q_api_Block) (s := (rInt .i64)) (Fld.snd (Fld.fst Fld.self)) (a := ((vz 32), (0 : Int), ((Value.slice none 0 0)))) rfl rfl) ?_
  refine Eq.trans (fill_step (r := Q_api_Block) (s := qv) (Fld.snd (Fld.snd Fld.self)) (a := ((vz 32), b1, ((Value.slice none 0 0)))) rfl (cells_one h2)) ?_
  rfl
theorem B_api_Block_2 {b2 : Value} {w : World} (h2 : b2.oneCell' = true) (K : Value → Prop) : rdP P (Instr.build T_api_Block #[(2, b2)]) w K = K (.agg (Rdr.cells Q_api_Block ((vz 32), (0 : Int), b2)).toArray) := by
  refine rd_build ?_ K
  refine (built_struct z_api_Block U_api_Block pl_api_Block).trans ?_
  refine Eq.trans (fill_step (r := Q_api_Block) (s := qv) (Fld.snd (Fld.snd Fld.self)) (a := ((vz 32), (0 : Int), ((Value.slice none 0 0)))) rfl (cells_one h2)) ?_
  rfl
theorem B_flurrylaw10_named_0_1 {b0} {b1} {w : World}  (K : Value → Prop) : rdP P (Instr.build T_flurrylaw10_named #[(0, .agg (Rdr.cells (rVec 32) b0).toArray), (1, .agg (Rdr.cells Q_api_Block b1).toArray)]) w K = K (.agg (Rdr.cells Q_flurrylaw10_named (b0, b1)).toArray) := by
  refine rd_build ?_ K
  refine (built_struct z_flurrylaw10_named U_flurrylaw10_named pl_flurrylaw10_named).trans ?_
  refine Eq.trans (fill_step (r := Q_flurrylaw10_named) (s := (rVec 32)) (Fld.fst Fld.self) (a := ((vz 32), ((vz 32), (0 : Int), ((Value.slice none 0 0))))) rfl rfl) ?_
  refine Eq.trans (fill_step (r := Q_flurrylaw10_named) (s := Q_api_Block) (Fld.snd Fld.self) (a := (b0, ((vz 32), (0 : Int), ((Value.slice none 0 0))))) rfl rfl) ?_
  rfl
theorem B_flurrylaw10_world_0_2 {b0 : Value} {b2 : Value} {w : World} (h0 : b0.oneCell' = true) (h2 : b2.oneCell' = true) (K : Value → Prop) : rdP P (Instr.build T_flurrylaw10_world #[(0, b0), (2, b2)]) w K = K (.agg (Rdr.cells Q_flurrylaw10_world (b0, ((Value.pointer none)), b2, ((Value.pointer none)))).toArray) := by
  refine rd_build ?_ K
  refine (built_struct z_flurrylaw10_world U_flurrylaw10_world pl_flurrylaw10_world).trans ?_
  refine Eq.trans (fill_step (r := Q_flurrylaw10_world) (s := qv) (Fld.fst Fld.self) (a := (((Value.pointer none)), ((Value.pointer none)), ((Value.pointer none)), ((Value.pointer none)))) rfl (cells_one h0)) ?_
  refine Eq.trans (fill_step (r := Q_flurrylaw10_world) (s := qv) (Fld.snd (Fld.snd (Fld.fst Fld.self))) (a := (b0, ((Value.pointer none)), ((Value.pointer none)), ((Value.pointer none)))) rfl (cells_one h2)) ?_
  rfl
theorem B_chain_Chain_0_3 {b0 : Value} {b3 : Value} {w : World} (h0 : b0.oneCell' = true) (h3 : b3.oneCell' = true) (K : Value → Prop) : rdP P (Instr.build T_chain_Chain #[(0, b0), (3, b3)]) w K = K (.agg (Rdr.cells Q_chain_Chain (b0, ((Value.slice none 0 0)), ((Value.slice none 0 0)), b3, false)).toArray) := by
  refine rd_build ?_ K
  refine (built_struct z_chain_Chain U_chain_Chain pl_chain_Chain).trans ?_
  refine Eq.trans (fill_step (r := Q_chain_Chain) (s := qv) (Fld.fst Fld.self) (a := (((Value.pointer none)), ((Value.slice none 0 0)), ((Value.slice none 0 0)), ((Value.map none)), false)) rfl (cells_one h0)) ?_
  refine Eq.trans (fill_step (r := Q_chain_Chain) (s := qv) (Fld.snd (Fld.snd (Fld.snd (Fld.fst Fld.self)))) (a := (b0, ((Value.slice none 0 0)), ((Value.slice none 0 0)), ((Value.map none)), false)) rfl (cells_one h3)) ?_
  rfl
theorem B_chain_held_0 {b0 : Value} {w : World} (h0 : b0.oneCell' = true) (K : Value → Prop) : rdP P (Instr.build T_chain_held #[(0, b0)]) w K = K (.agg (Rdr.cells Q_chain_held (b0)).toArray) := by
  refine rd_build ?_ K
  refine (built_struct z_chain_held U_chain_held pl_chain_held).trans ?_
  refine Eq.trans (fill_step (r := Q_chain_held) (s := qv) Fld.self (a := (((Value.pointer none)))) rfl (cells_one h0)) ?_
  rfl
theorem B_flurryref10_Chain_0_1 {b0 : Value} {b1 : Value} {w : World} (h0 : b0.oneCell' = true) (h1 : b1.oneCell' = true) (K : Value → Prop) : rdP P (Instr.build T_flurryref10_Chain #[(0, b0), (1, b1)]) w K = K (.agg (Rdr.cells Q_flurryref10_Chain (b0, b1, false)).toArray) := by
  refine rd_build ?_ K
  refine (built_struct z_flurryref10_Chain U_flurryref10_Chain pl_flurryref10_Chain).trans ?_
  refine Eq.trans (fill_step (r := Q_flurryref10_Chain) (s := qv) (Fld.fst Fld.self) (a := (((Value.pointer none)), ((Value.slice none 0 0)), false)) rfl (cells_one h0)) ?_
  refine Eq.trans (fill_step (r := Q_flurryref10_Chain) (s := qv) (Fld.snd (Fld.fst Fld.self)) (a := (b0, ((Value.slice none 0 0)), false)) rfl (cells_one h1)) ?_
  rfl
theorem B_pack_Packer_1 {b1 : Int} {w : World}  (K : Value → Prop) : rdP P (Instr.build T_pack_Packer #[(1, .int .i64 b1)]) w K = K (.agg (Rdr.cells Q_pack_Packer ((false, ((Value.slice none 0 0)), (0 : Int)), b1)).toArray) := by
  refine rd_build ?_ K
  refine (built_struct z_pack_Packer U_pack_Packer pl_pack_Packer).trans ?_
  refine Eq.trans (fill_step (r := Q_pack_Packer) (s := (rInt .i64)) (Fld.snd Fld.self) (a := ((false, ((Value.slice none 0 0)), (0 : Int)), (0 : Int))) rfl rfl) ?_
  rfl
abbrev R_int64 := (rInt .i64)
theorem TR_int64 : Trods P T_int64 R_int64 := trods_int U_int64
abbrev R_sl_uint8 := rBytes
theorem TR_sl_uint8 : Trods P T_sl_uint8 R_sl_uint8 := trods_bytes U_sl_uint8 U_uint8 (by kernel_rfl)
theorem O_sl_uint8 {H : Type} {enc : TypeId × Value → H} {w : World} {sp : Nat → Bool} {held : Bool} {fuel : Nat} {v : Value} {x : DataW H × List MemPlace} (h : DataW.trod enc P w 0 sp held fuel T_sl_uint8 [v] = some x) : ∃ l, Rdr.ok R_sl_uint8 w.heap ⟨v, l⟩ := by
  obtain ⟨⟨v', l⟩, e, ok⟩ := TR_sl_uint8 H enc w sp held fuel _ x h
  have ev : v = v' := (List.cons.inj e).1
  subst ev
  exact ⟨l, ok⟩
abbrev R_api_ID := (rVec 32)
theorem TR_api_ID : Trods P T_api_ID R_api_ID := trods_vec U_api_ID U_uint8 (by kernel_rfl) (by kernel_rfl)
abbrev R_api_Block := (Rdr.pair R_api_ID (Rdr.pair R_int64 R_sl_uint8))
theorem TR_api_Block : Trods P T_api_Block R_api_Block := trods_struct U_api_Block (by kernel_rfl) (trodsF_cons (by kernel_rfl) (by kernel_rfl) TR_api_ID (trodsF_cons (by kernel_rfl) (by kernel_rfl) TR_int64 (trodsF_last (by kernel_rfl) (by kernel_rfl) TR_sl_uint8)))
theorem O_api_Block {H : Type} {enc : TypeId × Value → H} {w : World} {sp : Nat → Bool} {held : Bool} {fuel : Nat} {cs : Array Value} {x : DataW H × List MemPlace} (h : DataW.trod enc P w 0 sp held fuel T_api_Block cs.toList = some x) : ∃ a, cs = (Rdr.cells R_api_Block a).toArray ∧ Rdr.ok R_api_Block w.heap a := by
  obtain ⟨a, e, ok⟩ := TR_api_Block H enc w sp held fuel _ x h
  exact ⟨a, by apply Array.ext'; exact e, ok⟩
theorem UT_bytes : P.underlying T_sl_uint8 = some (.slice T_uint8) := U_sl_uint8
theorem ST_bytes : SlT P T_sl_uint8 T_uint8 1 1 := S_sl_uint8
theorem ZC_uint8 : zc P T_uint8 = #[.int .u8 0] := by kernel_rfl
theorem UT_uint8 : P.underlying T_uint8 = some (.int .u8) := U_uint8
theorem UT_string : P.underlying T_string = some .string := by kernel_rfl
end Go.Fx
