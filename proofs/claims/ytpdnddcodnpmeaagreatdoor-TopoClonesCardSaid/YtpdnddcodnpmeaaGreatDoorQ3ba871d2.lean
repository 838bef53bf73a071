/-
  The readings of the functions that are walked (c_..), printed by program; each is held against the loaded code by the kernel (e_..), and gives the call (l_..).
-/
import Derived.Test.YtpdnddcodnpmeaaGreatDoorProg
import Derived.KernelRfl
import Derived.Test.YtpdnddcodnpmeaaGreatDoorQ52f385ea
import Derived.Test.YtpdnddcodnpmeaaGreatDoorQ7b5fe899
set_option linter.unusedVariables false
set_option maxRecDepth 100000
namespace Go.Fx
noncomputable abbrev P : Program := Go.Proofs.Tryz.prog
open Go.Proofs
def Nv (f : Func) : Code := match f.body with | some c => c | none => .skip
theorem mixed : P.follows .mixedOrders = true := by kernel_rfl
abbrev KR := Value → World → Prop
abbrev SQ (Q : KR) (c : KR → Prop) : Prop := ∀ R : KR, (∀ v w', Q v w' → R v w') → c R
noncomputable def kO (fn : Func) (A : An) : Bool := chk P fn.ntmps A (Nv fn)
def iO (fn : Func) (A : An) (l : List Value) (w : World) (R : KR) : Prop := intp P A (Nv fn) (ini l) w (retK P fn.results.toList R) (fun _ _ _ => False) (retK P fn.results.toList R)
theorem sO {f : FuncId} {fn : Func} {A : An} {l : List Value} {w : World} {Q : KR} {c : KR → Prop} (hf : P.funcs[f]? = some fn) (hb : fn.body = some (Nv fn)) (hn : Nat.ble l.length fn.ntmps = true) (hk : kO fn A = true)
    (he : iO fn A l w Q = c Q) (h : SQ Q c) : cal P f l w Q := AgH mixed hf hb hn hk (Eq.mpr he (h Q fun _ _ h => h))
noncomputable def kOY (fn : Func) (A : AnY) : Bool := chkY P fn.ntmps A (Nv fn)
def iOY (fn : Func) (A : AnY) (l : List Value) (w : World) (R : KR) : Prop := Cn P A (Nv fn) (ini l) [] w (retY P fn.results.toList R) (fun _ _ _ _ => False) (retY P fn.results.toList R)
theorem sOY {f : FuncId} {fn : Func} {A : AnY} {l : List Value} {w : World} {Q : KR} {c : KR → Prop} (hf : P.funcs[f]? = some fn) (hb : fn.body = some (Nv fn)) (hn : Nat.ble l.length fn.ntmps = true) (hk : kOY fn A = true)
    (he : iOY fn A l w Q = c Q) (h : SQ Q c) : cal P f l w Q := Afe mixed hf hb hn hk (Eq.mpr he (h Q fun _ _ h => h))
variable {t0 t1 t2 t3 t4 t5 t6 t7 t8 t9 : Value} {w : World} {Q : KR}
abbrev JJ : FuncId := 7
abbrev GH : FuncId := 8
abbrev JA : FuncId := 9
abbrev EM : FuncId := 11
abbrev Ir : FuncId := 13
abbrev GA : FuncId := 14
abbrev CN : FuncId := 16
abbrev GB : FuncId := 17
abbrev HC : FuncId := 18
abbrev Gy : FuncId := 19
abbrev FJ : FuncId := 20
abbrev IU : FuncId := 21
abbrev Fy : FuncId := 22
abbrev FM : FuncId := 23
abbrev Ef : FuncId := 24
abbrev Cz : FuncId := 25
abbrev Dn : FuncId := 26
abbrev In : FuncId := 27
abbrev Kl : FuncId := 29
abbrev DQ : FuncId := 30
abbrev EW : FuncId := 31
abbrev Hx : FuncId := 32
abbrev Ha : FuncId := 33
abbrev B7 : FuncId := 34
abbrev En : FuncId := 35
abbrev FN : FuncId := 36
abbrev Kf : FuncId := 37
abbrev I4 : FuncId := 38
abbrev La : FuncId := 39
abbrev MT : FuncId := 40
abbrev H3 : FuncId := 41
abbrev El : FuncId := 42
abbrev FY : FuncId := 43
abbrev B8 : FuncId := 44
abbrev GV : FuncId := 45
abbrev BO : FuncId := 46
abbrev IR : FuncId := 47
abbrev Hl : FuncId := 49
abbrev IY : FuncId := 50
abbrev HS : FuncId := 51
abbrev Ee : FuncId := 52
abbrev Nb : FuncId := 53
abbrev C8 : FuncId := 54
abbrev Fm : FuncId := 55
abbrev Cp : FuncId := 56
abbrev DD : FuncId := 57
abbrev FX : FuncId := 58
abbrev MJ : FuncId := 59
abbrev Dp : FuncId := 60
abbrev HL : FuncId := 61
abbrev Do : FuncId := 62
abbrev EF : FuncId := 63
abbrev F8 : FuncId := 64
abbrev DZ : FuncId := 65
abbrev Fl : FuncId := 66
abbrev FS : FuncId := 67
abbrev LK : FuncId := 68
abbrev Lw : FuncId := 69
abbrev CJ : FuncId := 70
abbrev Fc : FuncId := 71
abbrev E9 : FuncId := 72
abbrev Fj : FuncId := 73
abbrev Ed : FuncId := 74
abbrev Eo : FuncId := 75
abbrev Er : FuncId := 76
abbrev G6 : FuncId := 77
abbrev G4 : FuncId := 78
abbrev IP : FuncId := 79
abbrev Ka : FuncId := 80
abbrev P0 : FuncId := 81
abbrev Gi : FuncId := 82
abbrev Oa : FuncId := 83
abbrev Da : FuncId := 84
abbrev Ob : FuncId := 85
abbrev Od : FuncId := 86
abbrev MH : FuncId := 87
abbrev Io : FuncId := 88
abbrev JH : FuncId := 89
abbrev HA : FuncId := 90
abbrev Ge : FuncId := 91
abbrev K7 : FuncId := 92
abbrev C2 : FuncId := 93
abbrev MO : FuncId := 94
abbrev EU : FuncId := 95
abbrev HY : FuncId := 96
abbrev M5 : FuncId := 97
abbrev Jz : FuncId := 98
abbrev GQ : FuncId := 99
abbrev FE : FuncId := 100
abbrev MY : FuncId := 101
abbrev CZ : FuncId := 102
abbrev GG : FuncId := 103
abbrev HB : FuncId := 104
abbrev Hy : FuncId := 105
abbrev LI : FuncId := 106
abbrev NT : FuncId := 107
abbrev I1 : FuncId := 108
abbrev Dq : FuncId := 109
abbrev JD : FuncId := 110
abbrev MM : FuncId := 111
abbrev CA : FuncId := 112
abbrev D6 : FuncId := 113
abbrev H5 : FuncId := 114
abbrev NR : FuncId := 115
abbrev Gu : FuncId := 116
abbrev Gt : FuncId := 117
abbrev GM : FuncId := 118
abbrev Gw : FuncId := 119
abbrev HD : FuncId := 120
abbrev Rn : FuncId := 121
abbrev HI : FuncId := 122
abbrev IE : FuncId := 123
abbrev GO : FuncId := 124
abbrev OD : FuncId := 125
abbrev IZ : FuncId := 126
abbrev K0 : FuncId := 127
abbrev Eh : FuncId := 128
abbrev Lk : FuncId := 129
abbrev JC : FuncId := 130
abbrev Ga : FuncId := 131
abbrev Km : FuncId := 132
abbrev G8 : FuncId := 133
abbrev Gf : FuncId := 134
abbrev Hw : FuncId := 135
abbrev ER : FuncId := 136
abbrev Dl : FuncId := 137
abbrev NU : FuncId := 138
abbrev Gz : FuncId := 139
abbrev C9 : FuncId := 140
abbrev ES : FuncId := 141
abbrev HE : FuncId := 142
abbrev MR : FuncId := 143
abbrev FR : FuncId := 144
abbrev Ev : FuncId := 145
abbrev JG : FuncId := 146
abbrev CY : FuncId := 147
abbrev DF : FuncId := 148
abbrev Nk : FuncId := 149
abbrev IJ : FuncId := 150
abbrev Kq : FuncId := 151
abbrev MW : FuncId := 152
abbrev Gv : FuncId := 153
abbrev Sj : FuncId := 154
abbrev EN : FuncId := 155
abbrev Jv : FuncId := 156
abbrev Bt : FuncId := 157
abbrev Dk : FuncId := 158
abbrev Kc : FuncId := 159
abbrev Jx : FuncId := 160
abbrev Jl : FuncId := 161
abbrev LM : FuncId := 162
abbrev Ke : FuncId := 163
abbrev HH : FuncId := 164
abbrev Cm : FuncId := 165
abbrev T_ : TypeId := 0
abbrev Iu : TypeId := 2
abbrev CS : TypeId := 3
abbrev F9 : TypeId := 4
abbrev Ei : TypeId := 5
abbrev Jj : TypeId := 9
abbrev AZ : TypeId := 23
abbrev Aa : TypeId := 25
abbrev Cr : TypeId := 27
abbrev FP : TypeId := 28
abbrev Az : TypeId := 34
abbrev IW : TypeId := 35
abbrev Be : TypeId := 37
abbrev Ao : TypeId := 39
abbrev Ic : TypeId := 40
abbrev Ax : TypeId := 41
abbrev Bb : TypeId := 42
abbrev CP : TypeId := 44
abbrev Px : TypeId := 46
abbrev Bg : TypeId := 58
abbrev DU : TypeId := 60
abbrev Bd : TypeId := 63
abbrev Ak : TypeId := 65
abbrev AY : TypeId := 78
abbrev BQ : TypeId := 96
abbrev A4 : TypeId := 100
abbrev Bj : TypeId := 102
abbrev By : TypeId := 107
abbrev CO : TypeId := 110
abbrev AT : TypeId := 113
abbrev BE : TypeId := 115
abbrev Bv : TypeId := 127
abbrev BZ : TypeId := 129
abbrev Br : TypeId := 131
abbrev BI : TypeId := 133
abbrev BG : TypeId := 138
abbrev Fp : TypeId := 152
abbrev Es : TypeId := 157
abbrev CD : TypeId := 165
abbrev BH : TypeId := 167
abbrev DV : TypeId := 192
abbrev Ur : TypeId := 196
abbrev Bc : TypeId := 197
abbrev JB : TypeId := 200
abbrev HZ : TypeId := 201
abbrev Bn : TypeId := 211
def P9 : An := (An.s (An.r []) (An.s (An.s (An.r [[23], [29]]) (An.s (An.s (An.r []) An.o) An.o)) (An.s (An.r []) (An.s (An.s (An.r [[41]]) (An.s (An.s (An.r []) An.o) An.o)) (An.s (An.s (An.r []) (An.b (An.l [46] (An.s (An.r []) (An.s (An.s An.o An.o) (An.s (An.b (An.s (An.r []) (An.s (An.r []) (An.s (An.s (An.r []) An.o) An.o)))) (An.r []))))))) (An.s (An.dc [0, 1, 2, 3, 5, 6, 7, 8, 10, 11, 12, 13, 14, 16, 17, 18, 19, 20, 4, 9, 15, 21, 22, 23, 24, 25] [21, 24] []) (An.s (An.j [] (An.s (An.r []) (An.s (An.r []) (An.s (An.s (An.r []) (An.b (An.l [93] (An.s (An.r []) (An.s (An.s An.o An.o) (An.s (An.b (An.s (An.r []) (An.r []))) (An.r []))))))) An.o)))) (An.s (An.s (An.r []) (An.b (An.l [103] (An.s (An.r []) (An.s (An.s An.o An.o) (An.s (An.b (An.s (An.r []) (An.s (An.r []) (An.s (An.s (An.r []) An.o) An.o)))) (An.r []))))))) (An.s (An.r [[116]]) An.o)))))))))
def JK (t0 t1 t2 : Value) (w : World) (R : KR) : Prop :=
 bx Cr t0 w fun t3 w =>
 cal P GH [] w fun t17 w =>
 notB t17 fun t18 =>
 jn1 (fun k0 =>
 gif t18 false
 (ldN 38 t3 w.heap fun t20 =>
 cal P JA [t20, t1] w fun t22 w =>
 notB t22 fun t23 =>
 k0 t23 w)
 (k0 undef w)) fun _ t23_1 w =>
 pik t18 (.bool true) t23_1 fun t24 =>
 jn1 (fun k1 =>
 gif t24 false
 (ldN 38 t3 w.heap fun t26 =>
 cal P JA [t26, t2] w fun t28 w =>
 notB t28 fun t29 =>
 k1 t29 w)
 (k1 undef w)) fun _ t29_1 w =>
 pik t24 (.bool true) t29_1 fun t30 =>
 cnd t30
 (cal P GH [] w fun t31 w =>
 R t31 w)
 (ldN 38 t3 w.heap fun t33 =>
 cal P Kl [t33] w fun t34 w =>
 ext 0 t34 fun t35 =>
 ext 1 t34 fun t36 =>
 notB t36 fun t38 =>
 jn1 (fun k2 =>
 gif t38 false
 (nilP false t35 fun t41 =>
 k2 t41 w)
 (k2 undef w)) fun _ t41_1 w =>
 pik t38 (.bool true) t41_1 fun t42 =>
 cnd t42
 (R t36 w)
 (lenS t1 fun t45 =>
 lp1 (.int .i64 0) w fun _ t46 w again3 =>
 bi .lss t46 t45 fun t47 =>
 cnd t47
 (ixs 4 t1 t46 fun t48 =>
 ldN 4 t48 w.heap fun t49 =>
 efP P (Instr.alloc Be true (.tuple #[])) w fun t10 w =>
 stN 4 t10 t49 w fun w =>
 ldN 4 t10 w.heap fun t51 =>
 cal P DQ [t35, t51] w fun t52 w =>
 notB t52 fun t53 =>
 cnd t53
 (R (.bool false) w)
 (bi .add t46 (.int .i64 1) fun t54 =>
 again3 t54 w))
 (drH w fun S w =>
 nilc t35 fun t56 =>
 fad 0 t56 fun t57 =>
 rdS S (fun w => ld1 t57 w.heap) fun t58 =>
 nilc t35 fun t61 =>
 fad 1 t61 fun t62 =>
 rdS S (fun w => ld1 t62 w.heap) fun t63 =>
 nilc t35 fun t66 =>
 fad 2 t66 fun t67 =>
 fad 0 t67 fun t68 =>
 rdS S (fun w => ld1 t68 w.heap) fun t69 =>
 nilc t35 fun t72 =>
 fad 2 t72 fun t73 =>
 fad 1 t73 fun t74 =>
 rdS S (fun w => ld1 t74 w.heap) fun t75 =>
 efS S (cal P Hx [t58]) w fun t59 w =>
 efS S (cal P Ha [t63]) w fun t64 w =>
 efS S (cal P B7 [t69]) w fun t70 w =>
 efC (cal P En [t75]) w fun S t76 w =>
 rdS S (rdP P (Instr.build CP #[(0, t70), (1, t76)])) fun t77 =>
 rdS S (rdP P (Instr.build AY #[(0, t59), (1, t64), (2, t77)])) fun t78 =>
 efC (bx AY t78) w fun S t79 w =>
 jn0 (fun k4 =>
 nilc t35 fun t81 =>
 fad 0 t81 fun t82 =>
 ld1 t82 w.heap fun t83 =>
 cal P FJ [t83] w fun t84 w =>
 nilP true t84 fun t86 =>
 cnd t86
 (nilc t35 fun t88 =>
 fad 2 t88 fun t89 =>
 fad 0 t89 fun t90 =>
 ld1 t90 w.heap fun t91 =>
 lenS t91 fun t92 =>
 lp1 (.int .i64 0) w fun _ t93 w again5 =>
 bi .lss t93 t92 fun t94 =>
 cnd t94
 (ixs 32 t91 t93 fun t95 =>
 ldN 32 t95 w.heap fun t96 =>
 efP P (Instr.alloc Aa true (.tuple #[])) w fun t14 w =>
 stN 32 t14 t96 w fun w =>
 ldN 32 t14 w.heap fun t98 =>
 cal P FN [t84, t98] w fun t99 w =>
 bi .add t93 (.int .i64 1) fun t100 =>
 again5 t100 w)
 (k4 w))
 (k4 w)) fun _ w =>
 lenS t2 fun t102 =>
 lp1 (.int .i64 0) w fun _ t103 w again6 =>
 bi .lss t103 t102 fun t104 =>
 cnd t104
 (ixs 4 t2 t103 fun t105 =>
 ldN 4 t105 w.heap fun t106 =>
 efP P (Instr.alloc Be true (.tuple #[])) w fun t16 w =>
 stN 4 t16 t106 w fun w =>
 ldN 4 t16 w.heap fun t108 =>
 cal P DQ [t79, t108] w fun t109 w =>
 notB t109 fun t110 =>
 cnd t110
 (R (.bool false) w)
 (bi .add t103 (.int .i64 1) fun t111 =>
 again6 t111 w))
 (cal P EW [t35, (.slice none 0 0)] w fun t113 w =>
 jn1 (fun k7 =>
 gif t113 true
 (cal P EW [t79, (.slice none 0 0)] w fun t116 w =>
 k7 t116 w)
 (k7 undef w)) fun _ t116_1 w =>
 pik t113 t116_1 (.bool false) fun t117 =>
 R t117 w))))
theorem PQ : kO Tryz.f7 P9 = true := by kernel_rfl
theorem Qu (h : SQ Q (JK t0 t1 t2 w)) : cal P JJ [t0, t1, t2] w Q := sO Tryz.func7 rfl (by kernel_rfl) PQ (by kernel_rfl) h
def AaO : An := (An.s (An.r []) (An.s (An.r []) (An.s (An.r []) (An.s (An.dc [1, 0, 2, 3, 4, 5, 6, 7] [2] []) (An.s (An.s (An.r [[34], [38], [42]]) (An.s (An.s (An.r []) An.o) An.o)) (An.s (An.r []) (An.s (An.r []) (An.s (An.r []) (An.s (An.r []) (An.s (An.s (An.d [0, 1, 2, 3, 4, 5, 6, 7, 8, 9, 10, 11, 12, 13, 14, 15, 17, 16, 18, 19] [[74], [78], [82], [88]]) (An.s (An.s (An.r []) An.o) An.o)) (An.s (An.r []) (An.s (An.d [0, 1, 2, 3, 4, 5, 6, 7, 8, 9, 10, 11, 12, 13, 14, 15, 17, 16, 18, 19, 20, 21, 22, 23, 24, 25] [[106], [111], [117], [122]]) An.o))))))))))))
def Qr (w : World) (R : KR) : Prop :=
 cal P Kf [(.slice none 0 0)] w fun t16 w =>
 ext 0 t16 fun t17 =>
 ext 1 t16 fun t18 =>
 efP P (Instr.alloc Ao true (.tuple #[])) w fun t1 w =>
 stN 34 t1 t17 w fun w =>
 ldN 34 t1 w.heap fun t20 =>
 cal P I4 [t20] w fun t21 w =>
 ext 0 t21 fun t22 =>
 ext 1 t21 fun t23 =>
 efP P (Instr.alloc Aa true (.tuple #[])) w fun t3 w =>
 stN 32 t3 t22 w fun w =>
 drH w fun S w =>
 rdS S (fun w => ldN 32 t3 w.heap) fun t26 =>
 efS S (cal P MT []) w fun t25 w =>
 efC (cal P La [t25, t26, (.int .i64 0), (.int .i64 9)]) w fun S t27 w =>
 ext 0 t27 fun t28 =>
 ext 1 t27 fun t29 =>
 bi .neq t18 (.int .i64 0) fun t31 =>
 jn1 (fun k0 =>
 gif t31 false
 (bi .neq t23 (.int .i64 0) fun t34 =>
 k0 t34 w)
 (k0 undef w)) fun _ t34_1 w =>
 pik t31 (.bool true) t34_1 fun t35 =>
 jn1 (fun k1 =>
 gif t35 false
 (bi .neq t29 (.int .i64 0) fun t38 =>
 k1 t38 w)
 (k1 undef w)) fun _ t38_1 w =>
 pik t35 (.bool true) t38_1 fun t39 =>
 jn1 (fun k2 =>
 gif t39 false
 (nilP false t28 fun t42 =>
 k2 t42 w)
 (k2 undef w)) fun _ t42_1 w =>
 pik t39 (.bool true) t42_1 fun t43 =>
 cnd t43
 (R (.bool false) w)
 (ldN 34 t1 w.heap fun t45 =>
 efP P (Instr.buildSlice Az 1 #[(0, (.int .u8 97))]) w fun t46 w =>
 efP P (convert Az Az t46) w fun t47 w =>
 cal P H3 [t45, t47] w fun t48 w =>
 ext 0 t48 fun t49 =>
 ext 1 t48 fun t50 =>
 efP P (Instr.alloc Ao true (.tuple #[])) w fun t7 w =>
 stN 34 t7 t49 w fun w =>
 ldN 34 t7 w.heap fun t52 =>
 efP P (Instr.buildSlice Az 1 #[(0, (.int .u8 98))]) w fun t53 w =>
 efP P (convert Az Az t53) w fun t54 w =>
 cal P H3 [t52, t54] w fun t55 w =>
 ext 0 t55 fun t56 =>
 ext 1 t55 fun t57 =>
 efP P (Instr.alloc Ao true (.tuple #[])) w fun t8 w =>
 stN 34 t8 t56 w fun w =>
 ldN 34 t7 w.heap fun t60 =>
 cal P El [t28, t60] w fun t61 w =>
 ext 0 t61 fun t62 =>
 ext 1 t61 fun t63 =>
 efP P (Instr.alloc Aa true (.tuple #[])) w fun t9 w =>
 stN 32 t9 t62 w fun w =>
 ldN 34 t8 w.heap fun t66 =>
 cal P El [t28, t66] w fun t67 w =>
 ext 0 t67 fun t68 =>
 ext 1 t67 fun t69 =>
 efP P (Instr.alloc Aa true (.tuple #[])) w fun t11 w =>
 stN 32 t11 t68 w fun w =>
 drH w fun S w =>
 bi .neq t50 (.int .i64 0) fun t71 =>
 jn1 (fun k3 =>
 gif t71 false
 (bi .neq t57 (.int .i64 0) fun t74 =>
 k3 t74 w)
 (k3 undef w)) fun _ t74_1 w =>
 pik t71 (.bool true) t74_1 fun t75 =>
 jn1 (fun k4 =>
 gif t75 false
 (bi .neq t63 (.int .i64 0) fun t78 =>
 k4 t78 w)
 (k4 undef w)) fun _ t78_1 w =>
 pik t75 (.bool true) t78_1 fun t79 =>
 jn1 (fun k5 =>
 gif t79 false
 (bi .neq t69 (.int .i64 0) fun t82 =>
 k5 t82 w)
 (k5 undef w)) fun _ t82_1 w =>
 pik t79 (.bool true) t82_1 fun t83 =>
 jn1 (fun k6 =>
 gif t83 false
 (rdS S (fun w => ldN 32 t11 w.heap) fun t87 =>
 efS S (cal P CN [t28]) w fun t86 w =>
 rdS S (rdP P (eqS .neq Aa (Operand.tmp 86) (Operand.tmp 87) t86 t87)) fun t88 =>
 k6 t88 w)
 (k6 undef w)) fun _ t88_1 w =>
 pik t83 (.bool true) t88_1 fun t89 =>
 cnd t89
 (R (.bool false) w)
 (ldN 32 t11 w.heap fun t92 =>
 rdP P (Instr.build BQ #[(0, t92), (1, (.int .i64 1))]) w fun t93 =>
 efP P (Instr.buildSlice Bg 1 #[(0, t93)]) w fun t94 w =>
 cal P FY [t28, t94] w fun t95 w =>
 ext 0 t95 fun t96 =>
 ext 1 t95 fun t97 =>
 ext 2 t95 fun t98 =>
 drH w fun S w =>
 bi .eql t98 (.int .i64 0) fun t100 =>
 jn1 (fun k7 =>
 gif t100 true
 (rdS S (fun w => ldN 32 t9 w.heap) fun t103 =>
 rdS S (fun w => ldN 32 t11 w.heap) fun t104 =>
 efS S (efP P (Instr.buildSlice Ax 2 #[(0, t103), (1, t104)])) w fun t105 w =>
 efS S (cal P B8 [t96, t105]) w fun t106 w =>
 k7 t106 w)
 (k7 undef w)) fun _ t106_1 w =>
 pik t100 t106_1 (.bool false) fun t107 =>
 jn1 (fun k8 =>
 gif t107 true
 (lenS t97 fun t110 =>
 bi .eql t110 (.int .i64 0) fun t111 =>
 k8 t111 w)
 (k8 undef w)) fun _ t111_1 w =>
 pik t107 t111_1 (.bool false) fun t112 =>
 jn1 (fun k9 =>
 gif t112 true
 (rdS S (fun w => ldN 32 t11 w.heap) fun t116 =>
 efS S (cal P CN [t28]) w fun t115 w =>
 rdS S (rdP P (eqS .eql Aa (Operand.tmp 115) (Operand.tmp 116) t115 t116)) fun t117 =>
 k9 t117 w)
 (k9 undef w)) fun _ t117_1 w =>
 pik t112 t117_1 (.bool false) fun t118 =>
 jn1 (fun k10 =>
 gif t118 true
 (efS S (cal P GB [t28]) w fun t121 w =>
 bi .eql t121 (.int .i64 0) fun t122 =>
 k10 t122 w)
 (k10 undef w)) fun _ t122_1 w =>
 pik t118 t122_1 (.bool false) fun t123 =>
 R t123 w))
theorem ZT : kO Tryz.f8 AaO = true := by kernel_rfl
theorem Z6 (h : SQ Q (Qr w)) : cal P GH [] w Q := sO Tryz.func8 rfl (by kernel_rfl) ZT (by kernel_rfl) h
def AcR : An := (An.s (An.r []) (An.s (An.s (An.r []) (An.b (An.l [13] (An.s (An.r []) (An.s (An.s An.o An.o) (An.s (An.b (An.s (An.r []) (An.s (An.r [[25]]) (An.s (An.s (An.r []) An.o) An.o)))) (An.r []))))))) (An.s (An.r [[34]]) An.o)))
def S4 (t0 t1 : Value) (w : World) (R : KR) : Prop :=
 bx Cr t0 w fun t2 w =>
 lenS t1 fun t9 =>
 rdP P (Builtin.min_ #[CS, CS] CS #[t9, (.int .i64 80)]) w fun t10 =>
 slc 4 t1 none (some t10) fun t11 =>
 lenS t11 fun t12 =>
 lp1 (.int .i64 0) w fun _ t13 w again0 =>
 bi .lss t13 t12 fun t14 =>
 cnd t14
 (ixs 4 t11 t13 fun t15 =>
 ldN 4 t15 w.heap fun t16 =>
 efP P (Instr.alloc Be true (.tuple #[])) w fun t6 w =>
 stN 4 t6 t16 w fun w =>
 fad 2 t6 fun t17 =>
 ld1 t17 w.heap fun t18 =>
 lenS t18 fun t19 =>
 bi .gtr t19 (.int .i64 1000) fun t20 =>
 jn1 (fun k1 =>
 gif t20 false
 (fad 3 t6 fun t22 =>
 ld1 t22 w.heap fun t23 =>
 lenS t23 fun t24 =>
 bi .gtr t24 (.int .i64 20) fun t25 =>
 k1 t25 w)
 (k1 undef w)) fun _ t25_1 w =>
 pik t20 (.bool true) t25_1 fun t26 =>
 cnd t26
 (R (.bool false) w)
 (bi .add t13 (.int .i64 1) fun t27 =>
 again0 t27 w))
 (lenS t1 fun t29 =>
 bi .leq t29 (.int .i64 50) fun t30 =>
 jn1 (fun k2 =>
 gif t30 true
 (fad 37 t2 fun t32 =>
 ld1 t32 w.heap fun t33 =>
 bi .leq t33 (.int .i64 60) fun t34 =>
 k2 t34 w)
 (k2 undef w)) fun _ t34_1 w =>
 pik t30 t34_1 (.bool false) fun t35 =>
 R t35 w)
theorem Ab5 : kO Tryz.f9 AcR = true := by kernel_rfl
theorem AcE (h : SQ Q (S4 t0 t1 w)) : cal P JA [t0, t1] w Q := sO Tryz.func9 rfl (by kernel_rfl) Ab5 (by kernel_rfl) h
def PA : An := (An.s (An.r []) (An.s (An.r []) (An.s (An.dc [0, 1, 2, 3, 4, 5, 6, 7, 8, 9, 10, 11, 12, 13, 14, 15, 16, 17, 18, 19] [19] []) An.o)))
def I7 (t0 t1 : Value) (w : World) (R : KR) : Prop :=
 bx Be t1 w fun t3 w =>
 efP P (Instr.alloc Ao true (.tuple #[])) w fun t4 w =>
 drw w fun w =>
 fad 1 t3 fun t6 =>
 ld1 t6 w.heap fun t7 =>
 cvi .i64 t7 fun t8 =>
 nilc t0 fun t10 =>
 fad 0 t10 fun t11 =>
 ld1 t11 w.heap fun t12 =>
 lenS t12 fun t13 =>
 bi .rem t8 t13 fun t14 =>
 drH w fun S w =>
 nilc t0 fun t16 =>
 fad 0 t16 fun t17 =>
 rdS S (fun w => ld1 t17 w.heap) fun t18 =>
 ixs 32 t18 t14 fun t20 =>
 rdS S (fun w => ldN 32 t20 w.heap) fun t21 =>
 nilc t0 fun t23 =>
 fad 1 t23 fun t24 =>
 rdS S (fun w => ld1 t24 w.heap) fun t25 =>
 ixs 1 t25 t14 fun t27 =>
 rdS S (fun w => ld1 t27 w.heap) fun t28 =>
 rdS S (rdP P (Builtin.min_ #[Iu, Iu] Iu #[t28, (.int .i64 4611686018427387904)])) fun t29 =>
 bi .add t29 (.int .i64 1) fun t30 =>
 fad 2 t3 fun t31 =>
 rdS S (fun w => ld1 t31 w.heap) fun t32 =>
 rdS S (rdP P (Instr.build Ao #[(0, t21), (1, t30), (2, t32)])) fun t33 =>
 efC (fun w K => stN 34 t4 t33 w (K undef)) w fun S _ w =>
 ldN 34 t4 w.heap fun r0 =>
 R r0 w
theorem O2 : kO Tryz.f11 PA = true := by kernel_rfl
theorem Pp (h : SQ Q (I7 t0 t1 w)) : cal P EM [t0, t1] w Q := sO Tryz.func11 rfl (by kernel_rfl) O2 (by kernel_rfl) h
def UM : An := (An.s (An.r []) (An.s (An.s (An.r []) (An.s (An.s (An.r []) An.o) An.o)) (An.s (An.r []) An.o)))
def LF (t0 : Value) (w : World) (R : KR) : Prop :=
 efP P (Instr.alloc Aa true (.tuple #[])) w fun t2 w =>
 cal P BO [t0] w fun t5 w =>
 cnd t5
 (rdP P (Instr.build Aa #[]) w fun t6 =>
 stN 32 t2 t6 w fun w =>
 ldN 32 t2 w.heap fun r0 =>
 R (.tuple #[r0, (.int .i64 0)]) w)
 (nilc t0 fun t8 =>
 fad 0 t8 fun t9 =>
 ld1 t9 w.heap fun t10 =>
 cal P Dn [t10] w fun t11 w =>
 ext 0 t11 fun t12 =>
 ext 1 t11 fun t13 =>
 stN 32 t2 t12 w fun w =>
 ldN 32 t2 w.heap fun r1 =>
 R (.tuple #[r1, t13]) w)
theorem T4 : kO Tryz.f13 UM = true := by kernel_rfl
theorem Uj (h : SQ Q (LF t0 w)) : cal P Ir [t0] w Q := sO Tryz.func13 rfl (by kernel_rfl) T4 (by kernel_rfl) h
def VV : An := (An.s (An.r []) (An.s (An.s (An.r []) (An.s (An.s (An.r []) An.o) An.o)) (An.s (An.dc [0, 1, 2, 3, 4, 5, 6, 7, 8, 9] [5, 8] []) An.o)))
def Mu (t0 t1 : Value) (w : World) (R : KR) : Prop :=
 bx Aa t1 w fun t3 w =>
 efP P (Instr.alloc Ao true (.tuple #[])) w fun t4 w =>
 cal P BO [t0] w fun t7 w =>
 cnd t7
 (rdP P (Instr.build Ao #[]) w fun t8 =>
 stN 34 t4 t8 w fun w =>
 ldN 34 t4 w.heap fun r0 =>
 R (.tuple #[r0, (.int .i64 2)]) w)
 (drH w fun S w =>
 nilc t0 fun t10 =>
 fad 0 t10 fun t11 =>
 rdS S (fun w => ld1 t11 w.heap) fun t12 =>
 rdS S (fun w => ldN 32 t3 w.heap) fun t13 =>
 efC (cal P IR [t12, t13]) w fun S t14 w =>
 ext 0 t14 fun t15 =>
 ext 1 t14 fun t16 =>
 efC (fun w K => stN 34 t4 t15 w (K undef)) w fun S _ w =>
 ldN 34 t4 w.heap fun r1 =>
 R (.tuple #[r1, t16]) w)
theorem Wx : kO Tryz.f14 VV = true := by kernel_rfl
theorem VG (h : SQ Q (Mu t0 t1 w)) : cal P GA [t0, t1] w Q := sO Tryz.func14 rfl (by kernel_rfl) Wx (by kernel_rfl) h
def MN : An := (An.s (An.r []) (An.s (An.s (An.r []) (An.s (An.s (An.r []) An.o) An.o)) (An.s (An.r []) (An.b (An.l [] (An.b (An.s (An.dc [0, 1, 2, 3, 4, 5, 6, 7, 8, 9, 10, 11] [10] []) (An.s (An.s (An.r []) (An.s (An.s (An.r []) An.o) An.o)) (An.r [])))))))))
def HP (t0 : Value) (w : World) (R : KR) : Prop :=
 efP P (Instr.alloc Aa true (.tuple #[])) w fun t2 w =>
 cal P BO [t0] w fun t8 w =>
 cnd t8
 (rdP P (Instr.build Aa #[]) w fun t9 =>
 stN 32 t2 t9 w fun w =>
 ldN 32 t2 w.heap fun r0 =>
 R r0 w)
 (nilc t0 fun t12 =>
 fad 0 t12 fun t13 =>
 ld1 t13 w.heap fun t14 =>
 cal P Dn [t14] w fun t15 w =>
 ext 0 t15 fun t16 =>
 ext 1 t15 fun t17 =>
 efP P (Instr.alloc Aa true (.tuple #[])) w fun t3 w =>
 stN 32 t3 t16 w fun w =>
 lp0 w fun _ w again1 =>
 drH w fun S w =>
 nilc t0 fun t20 =>
 fad 5 t20 fun t21 =>
 rdS S (fun w => ld1 t21 w.heap) fun t22 =>
 rdS S (fun w => ldN 32 t3 w.heap) fun t23 =>
 rdS S (rdP P (Instr.lookup A4 t22 t23 true)) fun t24 =>
 ext 0 t24 fun t25 =>
 ext 1 t24 fun t26 =>
 efS S (efP P (Instr.alloc Ak true (.tuple #[]))) w fun t5 w =>
 efC (fun w K => stN 67 t5 t25 w (K undef)) w fun S _ w =>
 notB t26 fun t28 =>
 cnd t28
 (ldN 32 t3 w.heap fun t29 =>
 stN 32 t2 t29 w fun w =>
 ldN 32 t2 w.heap fun r2 =>
 R r2 w)
 (ldN 67 t5 w.heap fun t30 =>
 cal P Hl [t30] w fun t31 w =>
 stN 32 t3 t31 w fun w =>
 again1 w))
theorem MZ : kO Tryz.f16 MN = true := by kernel_rfl
theorem M6 (h : SQ Q (HP t0 w)) : cal P CN [t0] w Q := sO Tryz.func16 rfl (by kernel_rfl) MZ (by kernel_rfl) h
def UQ : An := (An.s (An.r []) (An.s (An.s (An.r []) (An.s (An.s (An.r []) An.o) An.o)) (An.s (An.r []) An.o)))
def MC (t0 : Value) (w : World) (R : KR) : Prop :=
 cal P BO [t0] w fun t4 w =>
 cnd t4
 (R (.int .i64 0) w)
 (nilc t0 fun t6 =>
 fad 0 t6 fun t7 =>
 ld1 t7 w.heap fun t8 =>
 cal P IY [t8] w fun t9 w =>
 R t9 w)
theorem VO : kO Tryz.f17 UQ = true := by kernel_rfl
theorem Wv (h : SQ Q (MC t0 w)) : cal P GB [t0] w Q := sO Tryz.func17 rfl (by kernel_rfl) VO (by kernel_rfl) h
def R7 : An := (An.s (An.r []) (An.s (An.s (An.r [[12]]) (An.s (An.s (An.r []) An.o) An.o)) (An.s (An.dt (Pl.step 0 (Pl.step 1 (Pl.br (Pl.alt 2 (Pl.step 3 (Pl.step 4 (Pl.step 5 Pl.nil))) (Pl.alt 3 (Pl.step 2 (Pl.step 4 (Pl.step 5 Pl.nil))) Pl.non))))) [2] [6]) An.o)))
def Kx (t0 t1 t2 : Value) (w : World) (R : KR) : Prop :=
 bx Aa t2 w fun t5 w =>
 cal P BO [t0] w fun t8 w =>
 jn1 (fun k0 =>
 gif t8 false
 (cal P HS [t1] w fun t11 w =>
 bi .neq t11 (.int .i64 0) fun t12 =>
 k0 t12 w)
 (k0 undef w)) fun _ t12_1 w =>
 pik t8 (.bool true) t12_1 fun t13 =>
 cnd t13
 (R (.int .i64 0) w)
 (drH w fun S w =>
 jn1 (fun k1 =>
 (efC (cal P Ee [t0, t1]) w fun S t16_1 w =>
 rdS S (fun w => ldN 32 t5 w.heap) fun t17_1 =>
 rdS S (rdP P (Instr.lookup By t16_1 t17_1 false)) fun t18_1 =>
 k1 t18_1 w) ∧
 ((rdS S (fun w => ldN 32 t5 w.heap) fun t17 =>
 efC (cal P Ee [t0, t1]) w fun S t16 w =>
 rdS S (rdP P (Instr.lookup By t16 t17 false)) fun t18 =>
 k1 t18 w) ∧
 (True))) fun _ t6 w =>
 R t6 w)
theorem SR : kO Tryz.f18 R7 = true := by kernel_rfl
theorem Su (h : SQ Q (Kx t0 t1 t2 w)) : cal P HC [t0, t1, t2] w Q := sO Tryz.func18 rfl (by kernel_rfl) SR (by kernel_rfl) h
def PD : An := (An.s (An.r []) (An.s (An.r []) (An.s (An.s (An.r []) (An.b (An.l [5, 14] (An.s (An.r []) (An.s (An.s An.o An.o) (An.s (An.b (An.s (An.r []) (An.s (An.dc [0, 1, 2, 3, 4, 5, 6, 7, 8, 9, 10, 11, 12, 13, 14, 15, 16] [16] []) (An.s (An.j [] (An.s (An.r []) (An.s (An.r []) An.o))) (An.s (An.r []) (An.s (An.s (An.r [[52]]) (An.s (An.s (An.r []) An.o) An.o)) (An.r []))))))) (An.r []))))))) (An.s (An.r []) An.o))))
def I9 (t0 t1 : Value) (w : World) (R : KR) : Prop :=
 bx Be t1 w fun t3 w =>
 fad 3 t3 fun t11 =>
 ld1 t11 w.heap fun t12 =>
 lenS t12 fun t13 =>
 lp2 (.slice none 0 0) (.int .i64 0) w fun _ t5 t14 w again0 =>
 bi .lss t14 t13 fun t15 =>
 cnd t15
 (ixs 2 t12 t14 fun t16 =>
 ldN 2 t16 w.heap fun t17 =>
 efP P (Instr.alloc CO true (.tuple #[])) w fun t7 w =>
 stN 2 t7 t17 w fun w =>
 drH w fun S w =>
 nilc t0 fun t19 =>
 fad 0 t19 fun t20 =>
 rdS S (fun w => ld1 t20 w.heap) fun t21 =>
 fad 0 t7 fun t22 =>
 rdS S (fun w => ld1 t22 w.heap) fun t23 =>
 cvi .i64 t23 fun t24 =>
 nilc t0 fun t26 =>
 fad 0 t26 fun t27 =>
 rdS S (fun w => ld1 t27 w.heap) fun t28 =>
 lenS t28 fun t29 =>
 bi .rem t24 t29 fun t30 =>
 ixs 32 t21 t30 fun t31 =>
 rdS S (fun w => ldN 32 t31 w.heap) fun t32 =>
 efS S (efP P (Instr.alloc Aa true (.tuple #[]))) w fun t8 w =>
 efC (fun w K => stN 32 t8 t32 w (K undef)) w fun S _ w =>
 jn0 (fun k1 =>
 fad 0 t7 fun t33 =>
 ld1 t33 w.heap fun t34 =>
 bi .gtr t34 (.int .u8 200) fun t35 =>
 cnd t35
 (fad 0 t7 fun t36 =>
 ld1 t36 w.heap fun t37 =>
 rdP P (Instr.build Aa #[(0, t37)]) w fun t38 =>
 stN 32 t8 t38 w fun w =>
 k1 w)
 (k1 w)) fun _ w =>
 ldN 32 t8 w.heap fun t41 =>
 fad 1 t7 fun t42 =>
 ld1 t42 w.heap fun t43 =>
 cal P Nb [t5, t41, t43] w fun t44 w =>
 ext 0 t44 fun t45 =>
 ext 1 t44 fun t46 =>
 bi .neq t46 (.int .i64 0) fun t48 =>
 jn1 (fun k2 =>
 gif t48 false
 (fad 1 t7 fun t50 =>
 ld1 t50 w.heap fun t51 =>
 bi .gtr t51 (.int .i64 1000) fun t52 =>
 k2 t52 w)
 (k2 undef w)) fun _ t52_1 w =>
 pik t48 (.bool true) t52_1 fun t53 =>
 cnd t53
 (ldN 32 t8 w.heap fun t54 =>
 fad 1 t7 fun t55 =>
 ld1 t55 w.heap fun t56 =>
 rdP P (Instr.build BQ #[(0, t54), (1, t56)]) w fun t57 =>
 ldN 32 t8 w.heap fun t58 =>
 rdP P (Instr.build BQ #[(0, t58), (1, (.int .i64 1))]) w fun t59 =>
 efP P (Instr.buildSlice Bg 2 #[(0, t57), (1, t59)]) w fun t60 w =>
 R t60 w)
 (bi .add t14 (.int .i64 1) fun t62 =>
 again0 t45 t62 w))
 (R t5 w)
theorem O5 : kO Tryz.f19 PD = true := by kernel_rfl
theorem O7 (h : SQ Q (I9 t0 t1 w)) : cal P Gy [t0, t1] w Q := sO Tryz.func19 rfl (by kernel_rfl) O5 (by kernel_rfl) h
def TE : An := (An.s (An.r []) (An.s (An.s (An.r []) (An.s (An.s (An.r []) An.o) An.o)) (An.s (An.r []) An.o)))
def Lp (t0 : Value) (w : World) (R : KR) : Prop :=
 cal P BO [t0] w fun t4 w =>
 cnd t4
 (R (.pointer none) w)
 (nilc t0 fun t6 =>
 fad 0 t6 fun t7 =>
 ld1 t7 w.heap fun t8 =>
 cal P C8 [t8] w fun t9 w =>
 R t9 w)
theorem Us : kO Tryz.f20 TE = true := by kernel_rfl
theorem Up (h : SQ Q (Lp t0 w)) : cal P FJ [t0] w Q := sO Tryz.func20 rfl (by kernel_rfl) Us (by kernel_rfl) h
def Wd : An := (An.s (An.r []) (An.s (An.dc [0, 1, 2, 3, 4, 5, 6, 7, 8, 9, 10, 11] [1] [[14]]) An.o))
def Mv (t0 t1 : Value) (w : World) (R : KR) : Prop :=
 bx Aa t1 w fun t3 w =>
 drH w fun S w =>
 efC (cal P BO [t0]) w fun S t6 w =>
 notB t6 fun t7 =>
 jn1 (fun k0 =>
 gif t7 true
 (nilc t0 fun t10 =>
 fad 0 t10 fun t11 =>
 rdS S (fun w => ld1 t11 w.heap) fun t12 =>
 rdS S (fun w => ldN 32 t3 w.heap) fun t13 =>
 efS S (cal P Cz [t12, t13]) w fun t14 w =>
 k0 t14 w)
 (k0 undef w)) fun _ t14_1 w =>
 pik t7 t14_1 (.bool false) fun t15 =>
 R t15 w
theorem UZ : kO Tryz.f21 Wd = true := by kernel_rfl
theorem VF (h : SQ Q (Mv t0 t1 w)) : cal P IU [t0, t1] w Q := sO Tryz.func21 rfl (by kernel_rfl) UZ (by kernel_rfl) h
def Nr : An := (An.s (An.r []) (An.s (An.dc [0, 1, 2, 3, 4, 5, 6, 7, 8, 10, 9, 11, 12, 13] [1] [[16]]) An.o))
def IA (t0 t1 : Value) (w : World) (R : KR) : Prop :=
 bx Aa t1 w fun t3 w =>
 drH w fun S w =>
 efC (cal P BO [t0]) w fun S t6 w =>
 notB t6 fun t7 =>
 jn1 (fun k0 =>
 gif t7 true
 (nilc t0 fun t10 =>
 fad 0 t10 fun t11 =>
 rdS S (fun w => ld1 t11 w.heap) fun t12 =>
 rdS S (fun w => ldN 32 t3 w.heap) fun t15 =>
 efS S (cal P CN [t0]) w fun t14 w =>
 efS S (cal P Ef [t12, t14, t15]) w fun t16 w =>
 k0 t16 w)
 (k0 undef w)) fun _ t16_1 w =>
 pik t7 t16_1 (.bool false) fun t17 =>
 R t17 w
theorem Nu : kO Tryz.f22 Nr = true := by kernel_rfl
theorem NG (h : SQ Q (IA t0 t1 w)) : cal P Fy [t0, t1] w Q := sO Tryz.func22 rfl (by kernel_rfl) Nu (by kernel_rfl) h
def Uc : An := (An.s (An.r []) (An.s (An.s (An.r []) (An.s (An.s (An.r []) An.o) An.o)) (An.s (An.dc [0, 1, 2, 3, 4, 5, 6, 7, 8, 9, 10, 11] [10] []) (An.s (An.s (An.r []) (An.s (An.s (An.r []) An.o) An.o)) (An.s (An.r []) (An.s (An.r []) An.o))))))
def LC (t0 t1 : Value) (w : World) (R : KR) : Prop :=
 bx Aa t1 w fun t3 w =>
 efP P (Instr.alloc Ak true (.tuple #[])) w fun t4 w =>
 cal P BO [t0] w fun t9 w =>
 cnd t9
 (rdP P (Instr.build Ak #[]) w fun t10 =>
 stN 67 t4 t10 w fun w =>
 ldN 67 t4 w.heap fun r0 =>
 R (.tuple #[r0, (.int .i64 2)]) w)
 (drH w fun S w =>
 nilc t0 fun t13 =>
 fad 5 t13 fun t14 =>
 rdS S (fun w => ld1 t14 w.heap) fun t15 =>
 rdS S (fun w => ldN 32 t3 w.heap) fun t16 =>
 rdS S (rdP P (Instr.lookup A4 t15 t16 true)) fun t17 =>
 ext 0 t17 fun t18 =>
 ext 1 t17 fun t19 =>
 efS S (efP P (Instr.alloc Ak true (.tuple #[]))) w fun t6 w =>
 efC (fun w K => stN 67 t6 t18 w (K undef)) w fun S _ w =>
 notB t19 fun t21 =>
 cnd t21
 (rdP P (Instr.build Ak #[]) w fun t22 =>
 stN 67 t4 t22 w fun w =>
 ldN 67 t4 w.heap fun r1 =>
 R (.tuple #[r1, (.int .i64 4)]) w)
 (fad 0 t6 fun t23 =>
 ld1 t23 w.heap fun t24 =>
 efP P (Builtin.append_ #[Bd, Bd] Bd #[(.slice none 0 0), t24]) w fun t25 w =>
 fad 0 t6 fun t26 =>
 st1 t26 t25 w fun w =>
 ldN 67 t6 w.heap fun t27 =>
 stN 67 t4 t27 w fun w =>
 ldN 67 t4 w.heap fun r2 =>
 R (.tuple #[r2, (.int .i64 0)]) w))
theorem UN : kO Tryz.f23 Uc = true := by kernel_rfl
theorem Ug (h : SQ Q (LC t0 t1 w)) : cal P FM [t0, t1] w Q := sO Tryz.func23 rfl (by kernel_rfl) UN (by kernel_rfl) h
def PJ : An := (An.s (An.r []) (An.s (An.s (An.r [[15]]) (An.s (An.s (An.r []) An.o) An.o)) (An.s (An.b (An.l [] (An.s (An.s (An.r [[26]]) (An.s An.o An.o)) (An.b (An.dc [0, 1, 2, 3, 4, 5, 6, 7] [7] []))))) (An.s (An.r []) An.o))))
def JW (t0 t1 t2 : Value) (w : World) (R : KR) : Prop :=
 bx Aa t1 w fun t4 w =>
 bx Aa t2 w fun t5 w =>
 ldN 32 t4 w.heap fun t8 =>
 cal P Cz [t0, t8] w fun t9 w =>
 notB t9 fun t10 =>
 jn1 (fun k0 =>
 gif t10 false
 (ldN 32 t5 w.heap fun t13 =>
 cal P Cz [t0, t13] w fun t14 w =>
 notB t14 fun t15 =>
 k0 t15 w)
 (k0 undef w)) fun _ t15_1 w =>
 pik t10 (.bool true) t15_1 fun t16 =>
 cnd t16
 (R (.bool false) w)
 (lp0 w fun _ w again1 =>
 drw w fun w =>
 ldN 32 t4 w.heap fun t17 =>
 ldN 32 t5 w.heap fun t18 =>
 rdP P (eqS .neq Aa (Operand.tmp 17) (Operand.tmp 18) t17 t18) w fun t19 =>
 jn1 (fun k2 =>
 gif t19 true
 (ldN 32 t4 w.heap fun t21 =>
 nilc t0 fun t23 =>
 fad 1 t23 fun t24 =>
 ldN 32 t24 w.heap fun t25 =>
 rdP P (eqS .neq Aa (Operand.tmp 21) (Operand.tmp 25) t21 t25) w fun t26 =>
 k2 t26 w)
 (k2 undef w)) fun _ t26_1 w =>
 pik t19 t26_1 (.bool false) fun t27 =>
 cnd t27
 (drH w fun S w =>
 nilc t0 fun t29 =>
 fad 35 t29 fun t30 =>
 rdS S (fun w => ld1 t30 w.heap) fun t31 =>
 rdS S (fun w => ldN 32 t4 w.heap) fun t32 =>
 rdS S (rdP P (Instr.lookup AT t31 t32 false)) fun t33 =>
 fldv 0 32 true t33 fun t34 =>
 efC (fun w K => stN 32 t4 t34 w (K undef)) w fun S _ w =>
 again1 w)
 (ldN 32 t4 w.heap fun t35 =>
 ldN 32 t5 w.heap fun t36 =>
 rdP P (eqS .eql Aa (Operand.tmp 35) (Operand.tmp 36) t35 t36) w fun t37 =>
 R t37 w))
theorem Qk : kO Tryz.f24 PJ = true := by kernel_rfl
theorem Qc (h : SQ Q (JW t0 t1 t2 w)) : cal P Ef [t0, t1, t2] w Q := sO Tryz.func24 rfl (by kernel_rfl) Qk (by kernel_rfl) h
def Wh : An := (An.s (An.r []) (An.s (An.r []) (An.s (An.r []) An.o)))
def ME (t0 t1 : Value) (w : World) (R : KR) : Prop :=
 bx Aa t1 w fun t3 w =>
 ldN 32 t3 w.heap fun t9 =>
 cal P Fm [t0, t9] w fun t10 w =>
 ext 0 t10 fun t11 =>
 ext 1 t10 fun t12 =>
 R t12 w
theorem Va : kO Tryz.f25 Wh = true := by kernel_rfl
theorem Vf (h : SQ Q (ME t0 t1 w)) : cal P Cz [t0, t1] w Q := sO Tryz.func25 rfl (by kernel_rfl) Va (by kernel_rfl) h
def T2 : An := (An.s (An.r []) (An.s (An.s (An.r []) (An.s (An.s (An.r []) An.o) An.o)) (An.s (An.d [0, 1, 2, 3, 4, 5, 6, 7, 8, 9] []) An.o)))
def LN (t0 : Value) (w : World) (R : KR) : Prop :=
 efP P (Instr.alloc Aa true (.tuple #[])) w fun t2 w =>
 cal P Cp [t0] w fun t5 w =>
 cnd t5
 (rdP P (Instr.build Aa #[]) w fun t6 =>
 stN 32 t2 t6 w fun w =>
 ldN 32 t2 w.heap fun r0 =>
 R (.tuple #[r0, (.int .i64 0)]) w)
 (drH w fun S w =>
 nilc t0 fun t8 =>
 fad 1 t8 fun t9 =>
 rdS S (fun w => ldN 32 t9 w.heap) fun t10 =>
 nilc t0 fun t12 =>
 fad 33 t12 fun t13 =>
 rdS S (fun w => ld1 t13 w.heap) fun t14 =>
 efS S (fun w K => stN 32 t2 t10 w (K undef)) w fun _ w =>
 ldN 32 t2 w.heap fun r1 =>
 R (.tuple #[r1, t14]) w)
theorem Ux : kO Tryz.f26 T2 = true := by kernel_rfl
theorem Ub (h : SQ Q (LN t0 w)) : cal P Dn [t0] w Q := sO Tryz.func26 rfl (by kernel_rfl) Ux (by kernel_rfl) h
def Uo : An := (An.s (An.r []) (An.s (An.s (An.r []) (An.s (An.s (An.r []) An.o) An.o)) (An.s (An.r []) (An.s (An.b (An.l [5] (An.s (An.s (An.r []) (An.s An.o An.o)) (An.b (An.s (An.r []) (An.dc [0, 1, 2, 3, 4, 5, 6, 7] [7] [])))))) (An.s (An.r []) (An.s (An.r []) An.o))))))
def LS (t0 t1 : Value) (w : World) (R : KR) : Prop :=
 bx Aa t1 w fun t3 w =>
 ldN 32 t3 w.heap fun t7 =>
 cal P Cz [t0, t7] w fun t8 w =>
 notB t8 fun t9 =>
 cnd t9
 (R (.slice none 0 0) w)
 (lp1 (.slice none 0 0) w fun _ t5 w again0 =>
 drw w fun w =>
 ldN 32 t3 w.heap fun t10 =>
 nilc t0 fun t12 =>
 fad 1 t12 fun t13 =>
 ldN 32 t13 w.heap fun t14 =>
 rdP P (eqS .neq Aa (Operand.tmp 10) (Operand.tmp 14) t10 t14) w fun t15 =>
 cnd t15
 (ldN 32 t3 w.heap fun t17 =>
 efP P (Instr.buildSlice Ax 1 #[(0, t17)]) w fun t18 w =>
 efP P (Builtin.append_ #[Ax, Ax] Ax #[t5, t18]) w fun t19 w =>
 drH w fun S w =>
 nilc t0 fun t21 =>
 fad 35 t21 fun t22 =>
 rdS S (fun w => ld1 t22 w.heap) fun t23 =>
 rdS S (fun w => ldN 32 t3 w.heap) fun t24 =>
 rdS S (rdP P (Instr.lookup AT t23 t24 false)) fun t25 =>
 fldv 0 32 true t25 fun t26 =>
 efC (fun w K => stN 32 t3 t26 w (K undef)) w fun S _ w =>
 again0 t19 w)
 (cal P DD [t5] w fun t28 w =>
 R t5 w))
theorem UF : kO Tryz.f27 Uo = true := by kernel_rfl
theorem TT (h : SQ Q (LS t0 t1 w)) : cal P In [t0, t1] w Q := sO Tryz.func27 rfl (by kernel_rfl) UF (by kernel_rfl) h
def Zb : An := (An.s (An.r []) (An.s (An.r []) (An.s (An.r []) (An.s (An.s (An.r [[40]]) (An.s (An.s (An.r []) An.o) An.o)) (An.s (An.s (An.r []) (An.s (An.s (An.r []) An.o) An.o)) (An.s (An.r []) An.o))))))
def OK (t0 : Value) (w : World) (R : KR) : Prop :=
 bx Cr t0 w fun t1 w =>
 fad 0 t1 fun t9 =>
 ldN 4 t9 w.heap fun t10 =>
 fad 4 t1 fun t11 =>
 ldN 32 t11 w.heap fun t12 =>
 fad 36 t1 fun t13 =>
 ld1 t13 w.heap fun t14 =>
 fad 37 t1 fun t15 =>
 ld1 t15 w.heap fun t16 =>
 cal P La [t10, t12, t14, t16] w fun t17 w =>
 ext 0 t17 fun t18 =>
 ext 1 t17 fun t19 =>
 fad 0 t1 fun t21 =>
 ldN 4 t21 w.heap fun t22 =>
 fad 4 t1 fun t23 =>
 ldN 32 t23 w.heap fun t24 =>
 fad 36 t1 fun t25 =>
 ld1 t25 w.heap fun t26 =>
 fad 37 t1 fun t27 =>
 ld1 t27 w.heap fun t28 =>
 cal P MJ [t22, t24, t26, t28] w fun t29 w =>
 ext 0 t29 fun t30 =>
 ext 1 t29 fun t31 =>
 bi .neq t19 t31 fun t34 =>
 jn1 (fun k0 =>
 gif t34 false
 (nilP false t18 fun t37 =>
 bi .neq t19 (.int .i64 0) fun t39 =>
 rdP P (eqS .neq F9 (Operand.tmp 37) (Operand.tmp 39) t37 t39) w fun t40 =>
 k0 t40 w)
 (k0 undef w)) fun _ t40_1 w =>
 pik t34 (.bool true) t40_1 fun t41 =>
 cnd t41
 (R (.tuple #[(.pointer none), (.bool false)]) w)
 (nilP false t18 fun t43 =>
 cnd t43
 (R (.tuple #[(.pointer none), (.bool true)]) w)
 (fad 4 t1 fun t46 =>
 ldN 32 t46 w.heap fun t47 =>
 efP P (Instr.buildSlice Ax 1 #[(0, t47)]) w fun t48 w =>
 fad 36 t1 fun t49 =>
 ld1 t49 w.heap fun t50 =>
 efP P (Instr.buildSlice Bb 1 #[(0, t50)]) w fun t51 w =>
 rdP P (Instr.build CP #[(0, t48), (1, t51)]) w fun t52 =>
 rdP P (Instr.build AY #[(0, t18), (1, t30), (2, t52)]) w fun t53 =>
 bx AY t53 w fun t54 w =>
 R (.tuple #[t54, (.bool true)]) w))
theorem Zn : kO Tryz.f29 Zb = true := by kernel_rfl
theorem YT (h : SQ Q (OK t0 w)) : cal P Kl [t0] w Q := sO Tryz.func29 rfl (by kernel_rfl) Zn (by kernel_rfl) h
end Go.Fx
