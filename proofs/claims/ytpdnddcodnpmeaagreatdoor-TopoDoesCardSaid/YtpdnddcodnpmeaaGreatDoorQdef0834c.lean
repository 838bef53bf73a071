/-
  The readings of the functions that are walked (c_..), printed by program; each is held against the loaded code by the kernel (e_..), and gives the call (l_..).
-/
import Derived.Test.YtpdnddcodnpmeaaGreatDoorProg
import Derived.KernelRfl
import Derived.Test.YtpdnddcodnpmeaaGreatDoorQb38b424b
import Derived.Test.YtpdnddcodnpmeaaGreatDoorQ50ca596d
set_option linter.unusedVariables false
set_option maxRecDepth 100000
namespace Go.Fx
noncomputable abbrev P : Program := Go.Proofs.Tryz.prog
open Go.Proofs
def My (f : Func) : Code := match f.body with | some c => c | none => .skip
theorem mixed : P.follows .mixedOrders = true := by kernel_rfl
abbrev KR := Value → World → Prop
abbrev SQ (Q : KR) (c : KR → Prop) : Prop := ∀ R : KR, (∀ v w', Q v w' → R v w') → c R
noncomputable def kO (fn : Func) (A : An) : Bool := chk P fn.ntmps A (My fn)
def iO (fn : Func) (A : An) (l : List Value) (w : World) (R : KR) : Prop := intp P A (My fn) (ini l) w (retK P fn.results.toList R) (fun _ _ _ => False) (retK P fn.results.toList R)
theorem sO {f : FuncId} {fn : Func} {A : An} {l : List Value} {w : World} {Q : KR} {c : KR → Prop} (hf : P.funcs[f]? = some fn) (hb : fn.body = some (My fn)) (hn : Nat.ble l.length fn.ntmps = true) (hk : kO fn A = true)
    (he : iO fn A l w Q = c Q) (h : SQ Q c) : cal P f l w Q := Aew mixed hf hb hn hk (Eq.mpr he (h Q fun _ _ h => h))
noncomputable def kOY (fn : Func) (A : AnY) : Bool := chkY P fn.ntmps A (My fn)
def iOY (fn : Func) (A : AnY) (l : List Value) (w : World) (R : KR) : Prop := intpY P A (My fn) (ini l) [] w (retY P fn.results.toList R) (fun _ _ _ _ => False) (retY P fn.results.toList R)
theorem sOY {f : FuncId} {fn : Func} {A : AnY} {l : List Value} {w : World} {Q : KR} {c : KR → Prop} (hf : P.funcs[f]? = some fn) (hb : fn.body = some (My fn)) (hn : Nat.ble l.length fn.ntmps = true) (hk : kOY fn A = true)
    (he : iOY fn A l w Q = c Q) (h : SQ Q c) : cal P f l w Q := AdB mixed hf hb hn hk (Eq.mpr he (h Q fun _ _ h => h))
variable {t0 t1 t2 t3 t4 t5 t6 t7 t8 t9 : Value} {w : World} {Q : KR}
abbrev KP : FuncId := 6
abbrev F9 : FuncId := 8
abbrev LN : FuncId := 9
abbrev Ee : FuncId := 11
abbrev Hg : FuncId := 13
abbrev FR : FuncId := 14
abbrev Cq : FuncId := 16
abbrev FP : FuncId := 17
abbrev GL : FuncId := 18
abbrev Eg : FuncId := 19
abbrev Hh : FuncId := 20
abbrev HJ : FuncId := 21
abbrev ET : FuncId := 22
abbrev E5 : FuncId := 23
abbrev DE : FuncId := 24
abbrev Ce : FuncId := 25
abbrev CW : FuncId := 26
abbrev Hb : FuncId := 27
abbrev Jg : FuncId := 29
abbrev DR : FuncId := 30
abbrev F8 : FuncId := 31
abbrev Cd : FuncId := 34
abbrev G8 : FuncId := 36
abbrev Jk : FuncId := 37
abbrev HF : FuncId := 38
abbrev JU : FuncId := 39
abbrev L2 : FuncId := 40
abbrev G3 : FuncId := 41
abbrev DM : FuncId := 42
abbrev Fi : FuncId := 43
abbrev BT : FuncId := 44
abbrev Gm : FuncId := 45
abbrev BI : FuncId := 46
abbrev HV : FuncId := 47
abbrev Gq : FuncId := 49
abbrev Hz : FuncId := 50
abbrev GU : FuncId := 51
abbrev DI : FuncId := 52
abbrev Mc : FuncId := 53
abbrev DU : FuncId := 54
abbrev EN : FuncId := 55
abbrev B3 : FuncId := 56
abbrev Da : FuncId := 57
abbrev E7 : FuncId := 58
abbrev LU : FuncId := 59
abbrev CY : FuncId := 60
abbrev GH : FuncId := 61
abbrev CX : FuncId := 62
abbrev Ea : FuncId := 63
abbrev Fm : FuncId := 64
abbrev Du : FuncId := 65
abbrev EL : FuncId := 66
abbrev Fa : FuncId := 67
abbrev K4 : FuncId := 68
abbrev KW : FuncId := 69
abbrev Cm : FuncId := 70
abbrev EH : FuncId := 71
abbrev Ez : FuncId := 72
abbrev EM : FuncId := 73
abbrev Ev : FuncId := 74
abbrev Er : FuncId := 75
abbrev DS : FuncId := 76
abbrev FZ : FuncId := 77
abbrev Gh : FuncId := 78
abbrev HA : FuncId := 79
abbrev I9 : FuncId := 80
abbrev Qa : FuncId := 81
abbrev Ft : FuncId := 82
abbrev M9 : FuncId := 83
abbrev CL : FuncId := 84
abbrev M8 : FuncId := 85
abbrev Nb : FuncId := 86
abbrev LA : FuncId := 87
abbrev G5 : FuncId := 88
abbrev IE : FuncId := 89
abbrev GC : FuncId := 90
abbrev Fp : FuncId := 91
abbrev JK : FuncId := 92
abbrev CD : FuncId := 93
abbrev L1 : FuncId := 94
abbrev Ek : FuncId := 95
abbrev GZ : FuncId := 96
abbrev LT : FuncId := 97
abbrev IG : FuncId := 98
abbrev FX : FuncId := 99
abbrev EQ : FuncId := 100
abbrev Me : FuncId := 101
abbrev Cx : FuncId := 102
abbrev FN : FuncId := 103
abbrev GN : FuncId := 104
abbrev GK : FuncId := 105
abbrev KB : FuncId := 106
abbrev Ng : FuncId := 107
abbrev HU : FuncId := 108
abbrev CZ : FuncId := 109
abbrev IB : FuncId := 110
abbrev L4 : FuncId := 111
abbrev Cg : FuncId := 112
abbrev Dz : FuncId := 113
abbrev G0 : FuncId := 114
abbrev Nf : FuncId := 115
abbrev FI : FuncId := 116
abbrev FL : FuncId := 117
abbrev Gd : FuncId := 118
abbrev FM : FuncId := 119
abbrev GJ : FuncId := 120
abbrev PK : FuncId := 121
abbrev GF : FuncId := 122
abbrev HS : FuncId := 123
abbrev Gc : FuncId := 124
abbrev MQ : FuncId := 125
abbrev HI : FuncId := 126
abbrev JM : FuncId := 127
abbrev DH : FuncId := 128
abbrev KF : FuncId := 129
abbrev IA : FuncId := 130
abbrev Fz : FuncId := 131
abbrev Jf : FuncId := 132
abbrev FV : FuncId := 133
abbrev Fq : FuncId := 134
abbrev GE : FuncId := 135
abbrev El : FuncId := 136
abbrev CV : FuncId := 137
abbrev M4 : FuncId := 138
abbrev FK : FuncId := 139
abbrev CK : FuncId := 140
abbrev Ep : FuncId := 141
abbrev GD : FuncId := 142
abbrev Mh : FuncId := 143
abbrev E6 : FuncId := 144
abbrev DX : FuncId := 145
abbrev ID : FuncId := 146
abbrev CA : FuncId := 147
abbrev Di : FuncId := 148
abbrev Ml : FuncId := 149
abbrev HK : FuncId := 150
abbrev Jh : FuncId := 151
abbrev LO : FuncId := 152
abbrev FJ : FuncId := 153
abbrev QV : FuncId := 154
abbrev Eh : FuncId := 155
abbrev Ip : FuncId := 156
abbrev Bg : FuncId := 157
abbrev CU : FuncId := 158
abbrev Jj : FuncId := 159
abbrev IF : FuncId := 160
abbrev Ij : FuncId := 161
abbrev Kr : FuncId := 162
abbrev Jn : FuncId := 163
abbrev GG : FuncId := 164
abbrev B1 : FuncId := 165
abbrev T_ : TypeId := 0
abbrev Ih : TypeId := 2
abbrev T_int : TypeId := 3
abbrev Fu : TypeId := 4
abbrev DK : TypeId := 5
abbrev Ig : TypeId := 9
abbrev AU : TypeId := 23
abbrev Aa : TypeId := 25
abbrev B5 : TypeId := 27
abbrev E8 : TypeId := 28
abbrev Ay : TypeId := 34
abbrev HT : TypeId := 35
abbrev Ba : TypeId := 37
abbrev Al : TypeId := 39
abbrev GY : TypeId := 40
abbrev Av : TypeId := 41
abbrev Be : TypeId := 42
abbrev CM : TypeId := 44
abbrev Ou : TypeId := 46
abbrev A7 : TypeId := 58
abbrev Dp : TypeId := 60
abbrev A5 : TypeId := 63
abbrev Aj : TypeId := 65
abbrev A1 : TypeId := 78
abbrev BA : TypeId := 96
abbrev Bf : TypeId := 100
abbrev Bo : TypeId := 102
abbrev Bp : TypeId := 107
abbrev Cr : TypeId := 110
abbrev AO : TypeId := 113
abbrev Bu : TypeId := 115
abbrev Bj : TypeId := 127
abbrev BK : TypeId := 129
abbrev BD : TypeId := 131
abbrev BL : TypeId := 133
abbrev BB : TypeId := 138
abbrev EO : TypeId := 152
abbrev DV : TypeId := 157
abbrev Ci : TypeId := 165
abbrev Bv : TypeId := 167
abbrev Do : TypeId := 192
abbrev SW : TypeId := 196
abbrev A4 : TypeId := 197
abbrev IH : TypeId := 200
abbrev G4 : TypeId := 201
abbrev Bc : TypeId := 211
def S9 : An := (An.s (An.r []) (An.s (An.s (An.r [[15]]) (An.s (An.s (An.r []) An.o) An.o)) (An.s (An.r []) (An.s (An.s (An.r [[27]]) (An.s (An.s (An.r []) An.o) An.o)) (An.s (An.s (An.r []) (An.b (An.l [32] (An.s (An.r []) (An.s (An.s An.o An.o) (An.s (An.b (An.s (An.r []) (An.s (An.dc [0, 1, 2, 3, 4, 5, 6, 7, 8, 9, 10, 11, 12, 13, 14, 15, 16, 17, 18, 19, 20, 21, 22, 23, 24, 25] [2] [[45], [50], [52], [60], [61]]) (An.s (An.s (An.r []) An.o) An.o)))) (An.r []))))))) (An.s (An.r []) An.o))))))
def Kl (t0 t1 : Value) (w : World) (R : KR) : Prop :=
 bx B5 t0 w fun t2 w =>
 cal P F9 [] w fun t9 w =>
 notB t9 fun t10 =>
 jn1 (fun k0 =>
 gif t10 false
 (ldN 38 t2 w.heap fun t12 =>
 cal P LN [t12, t1] w fun t14 w =>
 notB t14 fun t15 =>
 k0 t15 w)
 (k0 undef w)) fun _ t15_1 w =>
 pik t10 (.bool true) t15_1 fun t16 =>
 cnd t16
 (cal P F9 [] w fun t17 w =>
 R t17 w)
 (ldN 38 t2 w.heap fun t19 =>
 cal P Jg [t19] w fun t20 w =>
 ext 0 t20 fun t21 =>
 ext 1 t20 fun t22 =>
 notB t22 fun t24 =>
 jn1 (fun k1 =>
 gif t24 false
 (nilP false t21 fun t27 =>
 k1 t27 w)
 (k1 undef w)) fun _ t27_1 w =>
 pik t24 (.bool true) t27_1 fun t28 =>
 cnd t28
 (R t22 w)
 (lenS t1 fun t31 =>
 lp1 (.int .i64 0) w fun _ t32 w again2 =>
 bi .lss t32 t31 fun t33 =>
 cnd t33
 (ixs 4 t1 t32 fun t35 =>
 ldN 4 t35 w.heap fun t36 =>
 efP P (Instr.alloc Ba true (.tuple #[])) w fun t8 w =>
 stN 4 t8 t36 w fun w =>
 drH w fun S w =>
 rdS S (fun w => ldN 4 t8 w.heap) fun t38 =>
 efC (cal P DR [t21, t38]) w fun S t39 w =>
 notB t39 fun t40 =>
 jn1 (fun k3 =>
 gif t40 false
 (bi .rem t32 (.int .i64 4) fun t43 =>
 bi .eql t43 (.int .i64 3) fun t44 =>
 k3 t44 w)
 (k3 undef w)) fun _ t45 w =>
 jn1 (fun k4 =>
 gif t45 false
 (lenS t1 fun t48 =>
 bi .sub t48 (.int .i64 1) fun t49 =>
 bi .eql t32 t49 fun t50 =>
 k4 t50 w)
 (k4 undef w)) fun _ t50_1 w =>
 jn1 (fun k5 =>
 gif t40 false
 (pik t45 (.bool true) t50_1 fun t51 =>
 k5 t51 w)
 (k5 undef w)) fun _ t52 w =>
 jn1 (fun k6 =>
 gif t52 true
 (nilc t21 fun t55 =>
 fad 2 t55 fun t56 =>
 rdS S (fun w => ldN 4 t8 w.heap) fun t57 =>
 efS S (cal P Eg [t56, t57]) w fun t58 w =>
 efS S (cal P F8 [t21, t58]) w fun t59 w =>
 notB t59 fun t60 =>
 k6 t60 w)
 (k6 undef w)) fun _ t60_1 w =>
 jn1 (fun k7 =>
 gif t40 false
 (pik t52 t60_1 (.bool false) fun t61 =>
 k7 t61 w)
 (k7 undef w)) fun _ t61_1 w =>
 pik t40 (.bool true) t61_1 fun t62 =>
 cnd t62
 (R (.bool false) w)
 (bi .add t32 (.int .i64 1) fun t63 =>
 again2 t63 w))
 (R (.bool true) w)))
theorem Sr : kO Tryz.f6 S9 = true := by kernel_rfl
theorem Tg (h : SQ Q (Kl t0 t1 w)) : cal P KP [t0, t1] w Q := sO Tryz.func6 rfl (by kernel_rfl) Sr (by kernel_rfl) h

def Yc : An := (An.s (An.r []) (An.s (An.r []) (An.s (An.r []) (An.s (An.dc [1, 0, 2, 3, 4, 5, 6, 7] [2] []) (An.s (An.s (An.r [[34], [38], [42]]) (An.s (An.s (An.r []) An.o) An.o)) (An.s (An.r []) (An.s (An.r []) (An.s (An.r []) (An.s (An.r []) (An.s (An.s (An.d [0, 1, 2, 3, 4, 5, 6, 7, 8, 9, 10, 11, 12, 13, 14, 15, 17, 16, 18, 19] [[74], [78], [82], [88]]) (An.s (An.s (An.r []) An.o) An.o)) (An.s (An.r []) (An.s (An.d [0, 1, 2, 3, 4, 5, 6, 7, 8, 9, 10, 11, 12, 13, 14, 15, 17, 16, 18, 19, 20, 21, 22, 23, 24, 25] [[106], [111], [117], [122]]) An.o))))))))))))
def OE (w : World) (R : KR) : Prop :=
 cal P Jk [(.slice none 0 0)] w fun t16 w =>
 ext 0 t16 fun t17 =>
 ext 1 t16 fun t18 =>
 efP P (Instr.alloc Al true (.tuple #[])) w fun t1 w =>
 stN 34 t1 t17 w fun w =>
 ldN 34 t1 w.heap fun t20 =>
 cal P HF [t20] w fun t21 w =>
 ext 0 t21 fun t22 =>
 ext 1 t21 fun t23 =>
 efP P (Instr.alloc Aa true (.tuple #[])) w fun t3 w =>
 stN 32 t3 t22 w fun w =>
 drH w fun S w =>
 rdS S (fun w => ldN 32 t3 w.heap) fun t26 =>
 efS S (cal P L2 []) w fun t25 w =>
 efC (cal P JU [t25, t26, (.int .i64 0), (.int .i64 9)]) w fun S t27 w =>
 ext 0 t27 fun t28 =>
 ext 1 t27 fun t29 =>
 bi .neq t18 (.int .i64 0) fun t31 =>
 jn1 (fun k0 =>
 gif t31 false
 (bi .neq t23 (.int .i64 0) fun t34 =>
 k0 t34 w)
 (k0 undef w)) fun _ t34_1 w =>
 pik t31 (.bool true) t34_1 fun t35 =>
 jn1 (fun k1 =>
 gif t35 false
 (bi .neq t29 (.int .i64 0) fun t38 =>
 k1 t38 w)
 (k1 undef w)) fun _ t38_1 w =>
 pik t35 (.bool true) t38_1 fun t39 =>
 jn1 (fun k2 =>
 gif t39 false
 (nilP false t28 fun t42 =>
 k2 t42 w)
 (k2 undef w)) fun _ t42_1 w =>
 pik t39 (.bool true) t42_1 fun t43 =>
 cnd t43
 (R (.bool false) w)
 (ldN 34 t1 w.heap fun t45 =>
 efP P (Instr.buildSlice Ay 1 #[(0, (.int .u8 97))]) w fun t46 w =>
 efP P (convert Ay Ay t46) w fun t47 w =>
 cal P G3 [t45, t47] w fun t48 w =>
 ext 0 t48 fun t49 =>
 ext 1 t48 fun t50 =>
 efP P (Instr.alloc Al true (.tuple #[])) w fun t7 w =>
 stN 34 t7 t49 w fun w =>
 ldN 34 t7 w.heap fun t52 =>
 efP P (Instr.buildSlice Ay 1 #[(0, (.int .u8 98))]) w fun t53 w =>
 efP P (convert Ay Ay t53) w fun t54 w =>
 cal P G3 [t52, t54] w fun t55 w =>
 ext 0 t55 fun t56 =>
 ext 1 t55 fun t57 =>
 efP P (Instr.alloc Al true (.tuple #[])) w fun t8 w =>
 stN 34 t8 t56 w fun w =>
 ldN 34 t7 w.heap fun t60 =>
 cal P DM [t28, t60] w fun t61 w =>
 ext 0 t61 fun t62 =>
 ext 1 t61 fun t63 =>
 efP P (Instr.alloc Aa true (.tuple #[])) w fun t9 w =>
 stN 32 t9 t62 w fun w =>
 ldN 34 t8 w.heap fun t66 =>
 cal P DM [t28, t66] w fun t67 w =>
 ext 0 t67 fun t68 =>
 ext 1 t67 fun t69 =>
 efP P (Instr.alloc Aa true (.tuple #[])) w fun t11 w =>
 stN 32 t11 t68 w fun w =>
 drH w fun S w =>
 bi .neq t50 (.int .i64 0) fun t71 =>
 jn1 (fun k3 =>
 gif t71 false
 (bi .neq t57 (.int .i64 0) fun t74 =>
 k3 t74 w)
 (k3 undef w)) fun _ t74_1 w =>
 pik t71 (.bool true) t74_1 fun t75 =>
 jn1 (fun k4 =>
 gif t75 false
 (bi .neq t63 (.int .i64 0) fun t78 =>
 k4 t78 w)
 (k4 undef w)) fun _ t78_1 w =>
 pik t75 (.bool true) t78_1 fun t79 =>
 jn1 (fun k5 =>
 gif t79 false
 (bi .neq t69 (.int .i64 0) fun t82 =>
 k5 t82 w)
 (k5 undef w)) fun _ t82_1 w =>
 pik t79 (.bool true) t82_1 fun t83 =>
 jn1 (fun k6 =>
 gif t83 false
 (rdS S (fun w => ldN 32 t11 w.heap) fun t87 =>
 efS S (cal P Cq [t28]) w fun t86 w =>
 rdS S (rdP P (eqS .neq Aa (Operand.tmp 86) (Operand.tmp 87) t86 t87)) fun t88 =>
 k6 t88 w)
 (k6 undef w)) fun _ t88_1 w =>
 pik t83 (.bool true) t88_1 fun t89 =>
 cnd t89
 (R (.bool false) w)
 (ldN 32 t11 w.heap fun t92 =>
 rdP P (Instr.build BA #[(0, t92), (1, (.int .i64 1))]) w fun t93 =>
 efP P (Instr.buildSlice A7 1 #[(0, t93)]) w fun t94 w =>
 cal P Fi [t28, t94] w fun t95 w =>
 ext 0 t95 fun t96 =>
 ext 1 t95 fun t97 =>
 ext 2 t95 fun t98 =>
 drH w fun S w =>
 bi .eql t98 (.int .i64 0) fun t100 =>
 jn1 (fun k7 =>
 gif t100 true
 (rdS S (fun w => ldN 32 t9 w.heap) fun t103 =>
 rdS S (fun w => ldN 32 t11 w.heap) fun t104 =>
 efS S (efP P (Instr.buildSlice Av 2 #[(0, t103), (1, t104)])) w fun t105 w =>
 efS S (cal P BT [t96, t105]) w fun t106 w =>
 k7 t106 w)
 (k7 undef w)) fun _ t106_1 w =>
 pik t100 t106_1 (.bool false) fun t107 =>
 jn1 (fun k8 =>
 gif t107 true
 (lenS t97 fun t110 =>
 bi .eql t110 (.int .i64 0) fun t111 =>
 k8 t111 w)
 (k8 undef w)) fun _ t111_1 w =>
 pik t107 t111_1 (.bool false) fun t112 =>
 jn1 (fun k9 =>
 gif t112 true
 (rdS S (fun w => ldN 32 t11 w.heap) fun t116 =>
 efS S (cal P Cq [t28]) w fun t115 w =>
 rdS S (rdP P (eqS .eql Aa (Operand.tmp 115) (Operand.tmp 116) t115 t116)) fun t117 =>
 k9 t117 w)
 (k9 undef w)) fun _ t117_1 w =>
 pik t112 t117_1 (.bool false) fun t118 =>
 jn1 (fun k10 =>
 gif t118 true
 (efS S (cal P FP [t28]) w fun t121 w =>
 bi .eql t121 (.int .i64 0) fun t122 =>
 k10 t122 w)
 (k10 undef w)) fun _ t122_1 w =>
 pik t118 t122_1 (.bool false) fun t123 =>
 R t123 w))
theorem X3 : kO Tryz.f8 Yc = true := by kernel_rfl
theorem ZD (h : SQ Q (OE w)) : cal P F9 [] w Q := sO Tryz.func8 rfl (by kernel_rfl) X3 (by kernel_rfl) h

def Aaa : An := (An.s (An.r []) (An.s (An.s (An.r []) (An.b (An.l [13] (An.s (An.r []) (An.s (An.s An.o An.o) (An.s (An.b (An.s (An.r []) (An.s (An.r [[25]]) (An.s (An.s (An.r []) An.o) An.o)))) (An.r []))))))) (An.s (An.r [[34]]) An.o)))
def RF (t0 t1 : Value) (w : World) (R : KR) : Prop :=
 bx B5 t0 w fun t2 w =>
 lenS t1 fun t9 =>
 rdP P (Builtin.min_ #[T_int, T_int] T_int #[t9, (.int .i64 80)]) w fun t10 =>
 slc 4 t1 none (some t10) fun t11 =>
 lenS t11 fun t12 =>
 lp1 (.int .i64 0) w fun _ t13 w again0 =>
 bi .lss t13 t12 fun t14 =>
 cnd t14
 (ixs 4 t11 t13 fun t15 =>
 ldN 4 t15 w.heap fun t16 =>
 efP P (Instr.alloc Ba true (.tuple #[])) w fun t6 w =>
 stN 4 t6 t16 w fun w =>
 fad 2 t6 fun t17 =>
 ld1 t17 w.heap fun t18 =>
 lenS t18 fun t19 =>
 bi .gtr t19 (.int .i64 1000) fun t20 =>
 jn1 (fun k1 =>
 gif t20 false
 (fad 3 t6 fun t22 =>
 ld1 t22 w.heap fun t23 =>
 lenS t23 fun t24 =>
 bi .gtr t24 (.int .i64 20) fun t25 =>
 k1 t25 w)
 (k1 undef w)) fun _ t25_1 w =>
 pik t20 (.bool true) t25_1 fun t26 =>
 cnd t26
 (R (.bool false) w)
 (bi .add t13 (.int .i64 1) fun t27 =>
 again0 t27 w))
 (lenS t1 fun t29 =>
 bi .leq t29 (.int .i64 50) fun t30 =>
 jn1 (fun k2 =>
 gif t30 true
 (fad 37 t2 fun t32 =>
 ld1 t32 w.heap fun t33 =>
 bi .leq t33 (.int .i64 60) fun t34 =>
 k2 t34 w)
 (k2 undef w)) fun _ t34_1 w =>
 pik t30 t34_1 (.bool false) fun t35 =>
 R t35 w)
theorem AaP : kO Tryz.f9 Aaa = true := by kernel_rfl
theorem AaZ (h : SQ Q (RF t0 t1 w)) : cal P LN [t0, t1] w Q := sO Tryz.func9 rfl (by kernel_rfl) AaP (by kernel_rfl) h

def NW : An := (An.s (An.r []) (An.s (An.r []) (An.s (An.dc [0, 1, 2, 3, 4, 5, 6, 7, 8, 9, 10, 11, 12, 13, 14, 15, 16, 17, 18, 19] [19] []) An.o)))
def HY (t0 t1 : Value) (w : World) (R : KR) : Prop :=
 bx Ba t1 w fun t3 w =>
 efP P (Instr.alloc Al true (.tuple #[])) w fun t4 w =>
 drw w fun w =>
 fad 1 t3 fun t6 =>
 ld1 t6 w.heap fun t7 =>
 cvi .i64 t7 fun t8 =>
 nilc t0 fun t10 =>
 fad 0 t10 fun t11 =>
 ld1 t11 w.heap fun t12 =>
 lenS t12 fun t13 =>
 bi .rem t8 t13 fun t14 =>
 drH w fun S w =>
 nilc t0 fun t16 =>
 fad 0 t16 fun t17 =>
 rdS S (fun w => ld1 t17 w.heap) fun t18 =>
 ixs 32 t18 t14 fun t20 =>
 rdS S (fun w => ldN 32 t20 w.heap) fun t21 =>
 nilc t0 fun t23 =>
 fad 1 t23 fun t24 =>
 rdS S (fun w => ld1 t24 w.heap) fun t25 =>
 ixs 1 t25 t14 fun t27 =>
 rdS S (fun w => ld1 t27 w.heap) fun t28 =>
 rdS S (rdP P (Builtin.min_ #[Ih, Ih] Ih #[t28, (.int .i64 4611686018427387904)])) fun t29 =>
 bi .add t29 (.int .i64 1) fun t30 =>
 fad 2 t3 fun t31 =>
 rdS S (fun w => ld1 t31 w.heap) fun t32 =>
 rdS S (rdP P (Instr.build Al #[(0, t21), (1, t30), (2, t32)])) fun t33 =>
 efC (fun w K => stN 34 t4 t33 w (K undef)) w fun S _ w =>
 ldN 34 t4 w.heap fun r0 =>
 R r0 w
theorem N7 : kO Tryz.f11 NW = true := by kernel_rfl
theorem Oy (h : SQ Q (HY t0 t1 w)) : cal P Ee [t0, t1] w Q := sO Tryz.func11 rfl (by kernel_rfl) N7 (by kernel_rfl) h

def Tn : An := (An.s (An.r []) (An.s (An.s (An.r []) (An.s (An.s (An.r []) An.o) An.o)) (An.s (An.r []) An.o)))
def Kz (t0 : Value) (w : World) (R : KR) : Prop :=
 efP P (Instr.alloc Aa true (.tuple #[])) w fun t2 w =>
 cal P BI [t0] w fun t5 w =>
 cnd t5
 (rdP P (Instr.build Aa #[]) w fun t6 =>
 stN 32 t2 t6 w fun w =>
 ldN 32 t2 w.heap fun r0 =>
 R (.tuple #[r0, (.int .i64 0)]) w)
 (nilc t0 fun t8 =>
 fad 0 t8 fun t9 =>
 ld1 t9 w.heap fun t10 =>
 cal P CW [t10] w fun t11 w =>
 ext 0 t11 fun t12 =>
 ext 1 t11 fun t13 =>
 stN 32 t2 t12 w fun w =>
 ldN 32 t2 w.heap fun r1 =>
 R (.tuple #[r1, t13]) w)
theorem Sz : kO Tryz.f13 Tn = true := by kernel_rfl
theorem SE (h : SQ Q (Kz t0 w)) : cal P Hg [t0] w Q := sO Tryz.func13 rfl (by kernel_rfl) Sz (by kernel_rfl) h

def Tt : An := (An.s (An.r []) (An.s (An.s (An.r []) (An.s (An.s (An.r []) An.o) An.o)) (An.s (An.dc [0, 1, 2, 3, 4, 5, 6, 7, 8, 9] [5, 8] []) An.o)))
def Lh (t0 t1 : Value) (w : World) (R : KR) : Prop :=
 bx Aa t1 w fun t3 w =>
 efP P (Instr.alloc Al true (.tuple #[])) w fun t4 w =>
 cal P BI [t0] w fun t7 w =>
 cnd t7
 (rdP P (Instr.build Al #[]) w fun t8 =>
 stN 34 t4 t8 w fun w =>
 ldN 34 t4 w.heap fun r0 =>
 R (.tuple #[r0, (.int .i64 2)]) w)
 (drH w fun S w =>
 nilc t0 fun t10 =>
 fad 0 t10 fun t11 =>
 rdS S (fun w => ld1 t11 w.heap) fun t12 =>
 rdS S (fun w => ldN 32 t3 w.heap) fun t13 =>
 efC (cal P HV [t12, t13]) w fun S t14 w =>
 ext 0 t14 fun t15 =>
 ext 1 t14 fun t16 =>
 efC (fun w K => stN 34 t4 t15 w (K undef)) w fun S _ w =>
 ldN 34 t4 w.heap fun r1 =>
 R (.tuple #[r1, t16]) w)
theorem Un : kO Tryz.f14 Tt = true := by kernel_rfl
theorem UZ (h : SQ Q (Lh t0 t1 w)) : cal P FR [t0, t1] w Q := sO Tryz.func14 rfl (by kernel_rfl) Un (by kernel_rfl) h

def LZ : An := (An.s (An.r []) (An.s (An.s (An.r []) (An.s (An.s (An.r []) An.o) An.o)) (An.s (An.r []) (An.b (An.l [] (An.b (An.s (An.dc [0, 1, 2, 3, 4, 5, 6, 7, 8, 9, 10, 11] [10] []) (An.s (An.s (An.r []) (An.s (An.s (An.r []) An.o) An.o)) (An.r [])))))))))
def GW (t0 : Value) (w : World) (R : KR) : Prop :=
 efP P (Instr.alloc Aa true (.tuple #[])) w fun t2 w =>
 cal P BI [t0] w fun t8 w =>
 cnd t8
 (rdP P (Instr.build Aa #[]) w fun t9 =>
 stN 32 t2 t9 w fun w =>
 ldN 32 t2 w.heap fun r0 =>
 R r0 w)
 (nilc t0 fun t12 =>
 fad 0 t12 fun t13 =>
 ld1 t13 w.heap fun t14 =>
 cal P CW [t14] w fun t15 w =>
 ext 0 t15 fun t16 =>
 ext 1 t15 fun t17 =>
 efP P (Instr.alloc Aa true (.tuple #[])) w fun t3 w =>
 stN 32 t3 t16 w fun w =>
 lp0 w fun _ w again1 =>
 drH w fun S w =>
 nilc t0 fun t20 =>
 fad 5 t20 fun t21 =>
 rdS S (fun w => ld1 t21 w.heap) fun t22 =>
 rdS S (fun w => ldN 32 t3 w.heap) fun t23 =>
 rdS S (rdP P (Instr.lookup Bf t22 t23 true)) fun t24 =>
 ext 0 t24 fun t25 =>
 ext 1 t24 fun t26 =>
 efS S (efP P (Instr.alloc Aj true (.tuple #[]))) w fun t5 w =>
 efC (fun w K => stN 67 t5 t25 w (K undef)) w fun S _ w =>
 notB t26 fun t28 =>
 cnd t28
 (ldN 32 t3 w.heap fun t29 =>
 stN 32 t2 t29 w fun w =>
 ldN 32 t2 w.heap fun r2 =>
 R r2 w)
 (ldN 67 t5 w.heap fun t30 =>
 cal P Gq [t30] w fun t31 w =>
 stN 32 t3 t31 w fun w =>
 again1 w))
theorem L0 : kO Tryz.f16 LZ = true := by kernel_rfl
theorem L9 (h : SQ Q (GW t0 w)) : cal P Cq [t0] w Q := sO Tryz.func16 rfl (by kernel_rfl) L0 (by kernel_rfl) h

def TK : An := (An.s (An.r []) (An.s (An.s (An.r []) (An.s (An.s (An.r []) An.o) An.o)) (An.s (An.r []) An.o)))
def Ly (t0 : Value) (w : World) (R : KR) : Prop :=
 cal P BI [t0] w fun t4 w =>
 cnd t4
 (R (.int .i64 0) w)
 (nilc t0 fun t6 =>
 fad 0 t6 fun t7 =>
 ld1 t7 w.heap fun t8 =>
 cal P Hz [t8] w fun t9 w =>
 R t9 w)
theorem UQ : kO Tryz.f17 TK = true := by kernel_rfl
theorem U0 (h : SQ Q (Ly t0 w)) : cal P FP [t0] w Q := sO Tryz.func17 rfl (by kernel_rfl) UQ (by kernel_rfl) h

def QS : An := (An.s (An.r []) (An.s (An.s (An.r [[12]]) (An.s (An.s (An.r []) An.o) An.o)) (An.s (An.dt (Pl.step 0 (Pl.step 1 (Pl.br (Pl.alt 2 (Pl.step 3 (Pl.step 4 (Pl.step 5 Pl.nil))) (Pl.alt 3 (Pl.step 2 (Pl.step 4 (Pl.step 5 Pl.nil))) Pl.non))))) [2] [6]) An.o)))
def Jv (t0 t1 t2 : Value) (w : World) (R : KR) : Prop :=
 bx Aa t2 w fun t5 w =>
 cal P BI [t0] w fun t8 w =>
 jn1 (fun k0 =>
 gif t8 false
 (cal P GU [t1] w fun t11 w =>
 bi .neq t11 (.int .i64 0) fun t12 =>
 k0 t12 w)
 (k0 undef w)) fun _ t12_1 w =>
 pik t8 (.bool true) t12_1 fun t13 =>
 cnd t13
 (R (.int .i64 0) w)
 (drH w fun S w =>
 jn1 (fun k1 =>
 (efC (cal P DI [t0, t1]) w fun S t16_1 w =>
 rdS S (fun w => ldN 32 t5 w.heap) fun t17_1 =>
 rdS S (rdP P (Instr.lookup Bp t16_1 t17_1 false)) fun t18_1 =>
 k1 t18_1 w) ∧
 ((rdS S (fun w => ldN 32 t5 w.heap) fun t17 =>
 efC (cal P DI [t0, t1]) w fun S t16 w =>
 rdS S (rdP P (Instr.lookup Bp t16 t17 false)) fun t18 =>
 k1 t18 w) ∧
 (True))) fun _ t6 w =>
 R t6 w)
theorem QR : kO Tryz.f18 QS = true := by kernel_rfl
theorem Qz (h : SQ Q (Jv t0 t1 t2 w)) : cal P GL [t0, t1, t2] w Q := sO Tryz.func18 rfl (by kernel_rfl) QR (by kernel_rfl) h

def N8 : An := (An.s (An.r []) (An.s (An.r []) (An.s (An.s (An.r []) (An.b (An.l [5, 14] (An.s (An.r []) (An.s (An.s An.o An.o) (An.s (An.b (An.s (An.r []) (An.s (An.dc [0, 1, 2, 3, 4, 5, 6, 7, 8, 9, 10, 11, 12, 13, 14, 15, 16] [16] []) (An.s (An.j [] (An.s (An.r []) (An.s (An.r []) An.o))) (An.s (An.r []) (An.s (An.s (An.r [[52]]) (An.s (An.s (An.r []) An.o) An.o)) (An.r []))))))) (An.r []))))))) (An.s (An.r []) An.o))))
def HW (t0 t1 : Value) (w : World) (R : KR) : Prop :=
 bx Ba t1 w fun t3 w =>
 fad 3 t3 fun t11 =>
 ld1 t11 w.heap fun t12 =>
 lenS t12 fun t13 =>
 lp2 (.slice none 0 0) (.int .i64 0) w fun _ t5 t14 w again0 =>
 bi .lss t14 t13 fun t15 =>
 cnd t15
 (ixs 2 t12 t14 fun t16 =>
 ldN 2 t16 w.heap fun t17 =>
 efP P (Instr.alloc Cr true (.tuple #[])) w fun t7 w =>
 stN 2 t7 t17 w fun w =>
 drH w fun S w =>
 nilc t0 fun t19 =>
 fad 0 t19 fun t20 =>
 rdS S (fun w => ld1 t20 w.heap) fun t21 =>
 fad 0 t7 fun t22 =>
 rdS S (fun w => ld1 t22 w.heap) fun t23 =>
 cvi .i64 t23 fun t24 =>
 nilc t0 fun t26 =>
 fad 0 t26 fun t27 =>
 rdS S (fun w => ld1 t27 w.heap) fun t28 =>
 lenS t28 fun t29 =>
 bi .rem t24 t29 fun t30 =>
 ixs 32 t21 t30 fun t31 =>
 rdS S (fun w => ldN 32 t31 w.heap) fun t32 =>
 efS S (efP P (Instr.alloc Aa true (.tuple #[]))) w fun t8 w =>
 efC (fun w K => stN 32 t8 t32 w (K undef)) w fun S _ w =>
 jn0 (fun k1 =>
 fad 0 t7 fun t33 =>
 ld1 t33 w.heap fun t34 =>
 bi .gtr t34 (.int .u8 200) fun t35 =>
 cnd t35
 (fad 0 t7 fun t36 =>
 ld1 t36 w.heap fun t37 =>
 rdP P (Instr.build Aa #[(0, t37)]) w fun t38 =>
 stN 32 t8 t38 w fun w =>
 k1 w)
 (k1 w)) fun _ w =>
 ldN 32 t8 w.heap fun t41 =>
 fad 1 t7 fun t42 =>
 ld1 t42 w.heap fun t43 =>
 cal P Mc [t5, t41, t43] w fun t44 w =>
 ext 0 t44 fun t45 =>
 ext 1 t44 fun t46 =>
 bi .neq t46 (.int .i64 0) fun t48 =>
 jn1 (fun k2 =>
 gif t48 false
 (fad 1 t7 fun t50 =>
 ld1 t50 w.heap fun t51 =>
 bi .gtr t51 (.int .i64 1000) fun t52 =>
 k2 t52 w)
 (k2 undef w)) fun _ t52_1 w =>
 pik t48 (.bool true) t52_1 fun t53 =>
 cnd t53
 (ldN 32 t8 w.heap fun t54 =>
 fad 1 t7 fun t55 =>
 ld1 t55 w.heap fun t56 =>
 rdP P (Instr.build BA #[(0, t54), (1, t56)]) w fun t57 =>
 ldN 32 t8 w.heap fun t58 =>
 rdP P (Instr.build BA #[(0, t58), (1, (.int .i64 1))]) w fun t59 =>
 efP P (Instr.buildSlice A7 2 #[(0, t57), (1, t59)]) w fun t60 w =>
 R t60 w)
 (bi .add t14 (.int .i64 1) fun t62 =>
 again0 t45 t62 w))
 (R t5 w)
theorem Oe : kO Tryz.f19 N8 = true := by kernel_rfl
theorem N9 (h : SQ Q (HW t0 t1 w)) : cal P Eg [t0, t1] w Q := sO Tryz.func19 rfl (by kernel_rfl) Oe (by kernel_rfl) h

def Tj : An := (An.s (An.r []) (An.s (An.s (An.r []) (An.s (An.s (An.r []) An.o) An.o)) (An.s (An.r []) An.o)))
def KD (t0 : Value) (w : World) (R : KR) : Prop :=
 cal P BI [t0] w fun t4 w =>
 cnd t4
 (R (.pointer none) w)
 (nilc t0 fun t6 =>
 fad 0 t6 fun t7 =>
 ld1 t7 w.heap fun t8 =>
 cal P DU [t8] w fun t9 w =>
 R t9 w)
theorem SZ : kO Tryz.f20 Tj = true := by kernel_rfl
theorem S6 (h : SQ Q (KD t0 w)) : cal P Hh [t0] w Q := sO Tryz.func20 rfl (by kernel_rfl) SZ (by kernel_rfl) h

def TP : An := (An.s (An.r []) (An.s (An.dc [0, 1, 2, 3, 4, 5, 6, 7, 8, 9, 10, 11] [1] [[14]]) An.o))
def Lw (t0 t1 : Value) (w : World) (R : KR) : Prop :=
 bx Aa t1 w fun t3 w =>
 drH w fun S w =>
 efC (cal P BI [t0]) w fun S t6 w =>
 notB t6 fun t7 =>
 jn1 (fun k0 =>
 gif t7 true
 (nilc t0 fun t10 =>
 fad 0 t10 fun t11 =>
 rdS S (fun w => ld1 t11 w.heap) fun t12 =>
 rdS S (fun w => ldN 32 t3 w.heap) fun t13 =>
 efS S (cal P Ce [t12, t13]) w fun t14 w =>
 k0 t14 w)
 (k0 undef w)) fun _ t14_1 w =>
 pik t7 t14_1 (.bool false) fun t15 =>
 R t15 w
theorem Ty : kO Tryz.f21 TP = true := by kernel_rfl
theorem TB (h : SQ Q (Lw t0 t1 w)) : cal P HJ [t0, t1] w Q := sO Tryz.func21 rfl (by kernel_rfl) Ty (by kernel_rfl) h

def Mj : An := (An.s (An.r []) (An.s (An.dc [0, 1, 2, 3, 4, 5, 6, 7, 8, 10, 9, 11, 12, 13] [1] [[16]]) An.o))
def Hn (t0 t1 : Value) (w : World) (R : KR) : Prop :=
 bx Aa t1 w fun t3 w =>
 drH w fun S w =>
 efC (cal P BI [t0]) w fun S t6 w =>
 notB t6 fun t7 =>
 jn1 (fun k0 =>
 gif t7 true
 (nilc t0 fun t10 =>
 fad 0 t10 fun t11 =>
 rdS S (fun w => ld1 t11 w.heap) fun t12 =>
 rdS S (fun w => ldN 32 t3 w.heap) fun t15 =>
 efS S (cal P Cq [t0]) w fun t14 w =>
 efS S (cal P DE [t12, t14, t15]) w fun t16 w =>
 k0 t16 w)
 (k0 undef w)) fun _ t16_1 w =>
 pik t7 t16_1 (.bool false) fun t17 =>
 R t17 w
theorem MK : kO Tryz.f22 Mj = true := by kernel_rfl
theorem MA (h : SQ Q (Hn t0 t1 w)) : cal P ET [t0, t1] w Q := sO Tryz.func22 rfl (by kernel_rfl) MK (by kernel_rfl) h

def Sx : An := (An.s (An.r []) (An.s (An.s (An.r []) (An.s (An.s (An.r []) An.o) An.o)) (An.s (An.dc [0, 1, 2, 3, 4, 5, 6, 7, 8, 9, 10, 11] [10] []) (An.s (An.s (An.r []) (An.s (An.s (An.r []) An.o) An.o)) (An.s (An.r []) (An.s (An.r []) An.o))))))
def Kg (t0 t1 : Value) (w : World) (R : KR) : Prop :=
 bx Aa t1 w fun t3 w =>
 efP P (Instr.alloc Aj true (.tuple #[])) w fun t4 w =>
 cal P BI [t0] w fun t9 w =>
 cnd t9
 (rdP P (Instr.build Aj #[]) w fun t10 =>
 stN 67 t4 t10 w fun w =>
 ldN 67 t4 w.heap fun r0 =>
 R (.tuple #[r0, (.int .i64 2)]) w)
 (drH w fun S w =>
 nilc t0 fun t13 =>
 fad 5 t13 fun t14 =>
 rdS S (fun w => ld1 t14 w.heap) fun t15 =>
 rdS S (fun w => ldN 32 t3 w.heap) fun t16 =>
 rdS S (rdP P (Instr.lookup Bf t15 t16 true)) fun t17 =>
 ext 0 t17 fun t18 =>
 ext 1 t17 fun t19 =>
 efS S (efP P (Instr.alloc Aj true (.tuple #[]))) w fun t6 w =>
 efC (fun w K => stN 67 t6 t18 w (K undef)) w fun S _ w =>
 notB t19 fun t21 =>
 cnd t21
 (rdP P (Instr.build Aj #[]) w fun t22 =>
 stN 67 t4 t22 w fun w =>
 ldN 67 t4 w.heap fun r1 =>
 R (.tuple #[r1, (.int .i64 4)]) w)
 (fad 0 t6 fun t23 =>
 ld1 t23 w.heap fun t24 =>
 efP P (Builtin.append_ #[A5, A5] A5 #[(.slice none 0 0), t24]) w fun t25 w =>
 fad 0 t6 fun t26 =>
 st1 t26 t25 w fun w =>
 ldN 67 t6 w.heap fun t27 =>
 stN 67 t4 t27 w fun w =>
 ldN 67 t4 w.heap fun r2 =>
 R (.tuple #[r2, (.int .i64 0)]) w))
theorem Sw : kO Tryz.f23 Sx = true := by kernel_rfl
theorem S7 (h : SQ Q (Kg t0 t1 w)) : cal P E5 [t0, t1] w Q := sO Tryz.func23 rfl (by kernel_rfl) Sw (by kernel_rfl) h

def PZ : An := (An.s (An.r []) (An.s (An.s (An.r [[15]]) (An.s (An.s (An.r []) An.o) An.o)) (An.s (An.b (An.l [] (An.s (An.s (An.r [[26]]) (An.s An.o An.o)) (An.b (An.dc [0, 1, 2, 3, 4, 5, 6, 7] [7] []))))) (An.s (An.r []) An.o))))
def IZ (t0 t1 t2 : Value) (w : World) (R : KR) : Prop :=
 bx Aa t1 w fun t4 w =>
 bx Aa t2 w fun t5 w =>
 ldN 32 t4 w.heap fun t8 =>
 cal P Ce [t0, t8] w fun t9 w =>
 notB t9 fun t10 =>
 jn1 (fun k0 =>
 gif t10 false
 (ldN 32 t5 w.heap fun t13 =>
 cal P Ce [t0, t13] w fun t14 w =>
 notB t14 fun t15 =>
 k0 t15 w)
 (k0 undef w)) fun _ t15_1 w =>
 pik t10 (.bool true) t15_1 fun t16 =>
 cnd t16
 (R (.bool false) w)
 (lp0 w fun _ w again1 =>
 drw w fun w =>
 ldN 32 t4 w.heap fun t17 =>
 ldN 32 t5 w.heap fun t18 =>
 rdP P (eqS .neq Aa (Operand.tmp 17) (Operand.tmp 18) t17 t18) w fun t19 =>
 jn1 (fun k2 =>
 gif t19 true
 (ldN 32 t4 w.heap fun t21 =>
 nilc t0 fun t23 =>
 fad 1 t23 fun t24 =>
 ldN 32 t24 w.heap fun t25 =>
 rdP P (eqS .neq Aa (Operand.tmp 21) (Operand.tmp 25) t21 t25) w fun t26 =>
 k2 t26 w)
 (k2 undef w)) fun _ t26_1 w =>
 pik t19 t26_1 (.bool false) fun t27 =>
 cnd t27
 (drH w fun S w =>
 nilc t0 fun t29 =>
 fad 35 t29 fun t30 =>
 rdS S (fun w => ld1 t30 w.heap) fun t31 =>
 rdS S (fun w => ldN 32 t4 w.heap) fun t32 =>
 rdS S (rdP P (Instr.lookup AO t31 t32 false)) fun t33 =>
 fldv 0 32 true t33 fun t34 =>
 efC (fun w K => stN 32 t4 t34 w (K undef)) w fun S _ w =>
 again1 w)
 (ldN 32 t4 w.heap fun t35 =>
 ldN 32 t5 w.heap fun t36 =>
 rdP P (eqS .eql Aa (Operand.tmp 35) (Operand.tmp 36) t35 t36) w fun t37 =>
 R t37 w))
theorem OM : kO Tryz.f24 PZ = true := by kernel_rfl
theorem Pm (h : SQ Q (IZ t0 t1 t2 w)) : cal P DE [t0, t1, t2] w Q := sO Tryz.func24 rfl (by kernel_rfl) OM (by kernel_rfl) h

def Tv : An := (An.s (An.r []) (An.s (An.r []) (An.s (An.r []) An.o)))
def Lf (t0 t1 : Value) (w : World) (R : KR) : Prop :=
 bx Aa t1 w fun t3 w =>
 ldN 32 t3 w.heap fun t9 =>
 cal P EN [t0, t9] w fun t10 w =>
 ext 0 t10 fun t11 =>
 ext 1 t10 fun t12 =>
 R t12 w
theorem UH : kO Tryz.f25 Tv = true := by kernel_rfl
theorem UW (h : SQ Q (Lf t0 t1 w)) : cal P Ce [t0, t1] w Q := sO Tryz.func25 rfl (by kernel_rfl) UH (by kernel_rfl) h

def Th : An := (An.s (An.r []) (An.s (An.s (An.r []) (An.s (An.s (An.r []) An.o) An.o)) (An.s (An.d [0, 1, 2, 3, 4, 5, 6, 7, 8, 9] []) An.o)))
def J8 (t0 : Value) (w : World) (R : KR) : Prop :=
 efP P (Instr.alloc Aa true (.tuple #[])) w fun t2 w =>
 cal P B3 [t0] w fun t5 w =>
 cnd t5
 (rdP P (Instr.build Aa #[]) w fun t6 =>
 stN 32 t2 t6 w fun w =>
 ldN 32 t2 w.heap fun r0 =>
 R (.tuple #[r0, (.int .i64 0)]) w)
 (drH w fun S w =>
 nilc t0 fun t8 =>
 fad 1 t8 fun t9 =>
 rdS S (fun w => ldN 32 t9 w.heap) fun t10 =>
 nilc t0 fun t12 =>
 fad 33 t12 fun t13 =>
 rdS S (fun w => ld1 t13 w.heap) fun t14 =>
 efS S (fun w K => stN 32 t2 t10 w (K undef)) w fun _ w =>
 ldN 32 t2 w.heap fun r1 =>
 R (.tuple #[r1, t14]) w)
theorem Tc : kO Tryz.f26 Th = true := by kernel_rfl
theorem Tp (h : SQ Q (J8 t0 w)) : cal P CW [t0] w Q := sO Tryz.func26 rfl (by kernel_rfl) Tc (by kernel_rfl) h

def S4 : An := (An.s (An.r []) (An.s (An.s (An.r []) (An.s (An.s (An.r []) An.o) An.o)) (An.s (An.r []) (An.s (An.b (An.l [5] (An.s (An.s (An.r []) (An.s An.o An.o)) (An.b (An.s (An.r []) (An.dc [0, 1, 2, 3, 4, 5, 6, 7] [7] [])))))) (An.s (An.r []) (An.s (An.r []) An.o))))))
def Kn (t0 t1 : Value) (w : World) (R : KR) : Prop :=
 bx Aa t1 w fun t3 w =>
 ldN 32 t3 w.heap fun t7 =>
 cal P Ce [t0, t7] w fun t8 w =>
 notB t8 fun t9 =>
 cnd t9
 (R (.slice none 0 0) w)
 (lp1 (.slice none 0 0) w fun _ t5 w again0 =>
 drw w fun w =>
 ldN 32 t3 w.heap fun t10 =>
 nilc t0 fun t12 =>
 fad 1 t12 fun t13 =>
 ldN 32 t13 w.heap fun t14 =>
 rdP P (eqS .neq Aa (Operand.tmp 10) (Operand.tmp 14) t10 t14) w fun t15 =>
 cnd t15
 (ldN 32 t3 w.heap fun t17 =>
 efP P (Instr.buildSlice Av 1 #[(0, t17)]) w fun t18 w =>
 efP P (Builtin.append_ #[Av, Av] Av #[t5, t18]) w fun t19 w =>
 drH w fun S w =>
 nilc t0 fun t21 =>
 fad 35 t21 fun t22 =>
 rdS S (fun w => ld1 t22 w.heap) fun t23 =>
 rdS S (fun w => ldN 32 t3 w.heap) fun t24 =>
 rdS S (rdP P (Instr.lookup AO t23 t24 false)) fun t25 =>
 fldv 0 32 true t25 fun t26 =>
 efC (fun w K => stN 32 t3 t26 w (K undef)) w fun S _ w =>
 again0 t19 w)
 (cal P Da [t5] w fun t28 w =>
 R t5 w))
theorem Sd : kO Tryz.f27 S4 = true := by kernel_rfl
theorem SJ (h : SQ Q (Kn t0 t1 w)) : cal P Hb [t0, t1] w Q := sO Tryz.func27 rfl (by kernel_rfl) Sd (by kernel_rfl) h

def WW : An := (An.s (An.r []) (An.s (An.r []) (An.s (An.r []) (An.s (An.s (An.r [[40]]) (An.s (An.s (An.r []) An.o) An.o)) (An.s (An.s (An.r []) (An.s (An.s (An.r []) An.o) An.o)) (An.s (An.r []) An.o))))))
def NO (t0 : Value) (w : World) (R : KR) : Prop :=
 bx B5 t0 w fun t1 w =>
 fad 0 t1 fun t9 =>
 ldN 4 t9 w.heap fun t10 =>
 fad 4 t1 fun t11 =>
 ldN 32 t11 w.heap fun t12 =>
 fad 36 t1 fun t13 =>
 ld1 t13 w.heap fun t14 =>
 fad 37 t1 fun t15 =>
 ld1 t15 w.heap fun t16 =>
 cal P JU [t10, t12, t14, t16] w fun t17 w =>
 ext 0 t17 fun t18 =>
 ext 1 t17 fun t19 =>
 fad 0 t1 fun t21 =>
 ldN 4 t21 w.heap fun t22 =>
 fad 4 t1 fun t23 =>
 ldN 32 t23 w.heap fun t24 =>
 fad 36 t1 fun t25 =>
 ld1 t25 w.heap fun t26 =>
 fad 37 t1 fun t27 =>
 ld1 t27 w.heap fun t28 =>
 cal P LU [t22, t24, t26, t28] w fun t29 w =>
 ext 0 t29 fun t30 =>
 ext 1 t29 fun t31 =>
 bi .neq t19 t31 fun t34 =>
 jn1 (fun k0 =>
 gif t34 false
 (nilP false t18 fun t37 =>
 bi .neq t19 (.int .i64 0) fun t39 =>
 rdP P (eqS .neq Fu (Operand.tmp 37) (Operand.tmp 39) t37 t39) w fun t40 =>
 k0 t40 w)
 (k0 undef w)) fun _ t40_1 w =>
 pik t34 (.bool true) t40_1 fun t41 =>
 cnd t41
 (R (.tuple #[(.pointer none), (.bool false)]) w)
 (nilP false t18 fun t43 =>
 cnd t43
 (R (.tuple #[(.pointer none), (.bool true)]) w)
 (fad 4 t1 fun t46 =>
 ldN 32 t46 w.heap fun t47 =>
 efP P (Instr.buildSlice Av 1 #[(0, t47)]) w fun t48 w =>
 fad 36 t1 fun t49 =>
 ld1 t49 w.heap fun t50 =>
 efP P (Instr.buildSlice Be 1 #[(0, t50)]) w fun t51 w =>
 rdP P (Instr.build CM #[(0, t48), (1, t51)]) w fun t52 =>
 rdP P (Instr.build A1 #[(0, t18), (1, t30), (2, t52)]) w fun t53 =>
 bx A1 t53 w fun t54 w =>
 R (.tuple #[t54, (.bool true)]) w))
theorem Xl : kO Tryz.f29 WW = true := by kernel_rfl
theorem XE (h : SQ Q (NO t0 w)) : cal P Jg [t0] w Q := sO Tryz.func29 rfl (by kernel_rfl) Xl (by kernel_rfl) h


end Go.Fx
