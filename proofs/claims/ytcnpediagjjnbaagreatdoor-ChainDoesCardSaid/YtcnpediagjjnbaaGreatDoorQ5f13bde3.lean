/-
  What is proved: for all arguments the law ChainDoes returns true, and its arguments read as they did. Conditions: none.
-/
import Derived.Test.YtcnpediagjjnbaaGreatDoorRows
import Derived.WalkKit
import Derived.ProofKit
import Derived.OpenShut
import Derived.ChangeOld
import Derived.Below
import Derived.Carry
import Derived.Test.YtcnpediagjjnbaaGreatDoorCards
import Derived.Test.YtcnpediagjjnbaaGreatDoorTie
import Derived.LaidMore
import Derived.Stop.Joined
import Derived.Test.YtcnpediagjjnbaaGreatDoorQd6ded75f
import Derived.Test.YtcnpediagjjnbaaGreatDoorQ3cb80874
import Derived.Test.YtcnpediagjjnbaaGreatDoorQ5c92ddea
import Derived.Test.YtcnpediagjjnbaaGreatDoorQ301ba823
import Derived.Test.YtcnpediagjjnbaaGreatDoorQ3611c588
import Derived.Test.YtcnpediagjjnbaaGreatDoorQ469e9b02
import Derived.Test.YtcnpediagjjnbaaGreatDoorQ6269320c
set_option linter.unusedVariables false
set_option linter.unusedSimpArgs false
namespace Go.Fx
theorem Tp.append_len (x : Tp) (a : List UInt8) : (x.append a).1.b.length ≤ x.b.length + a.length := by
  unfold Tp.append
  repeat' split
  all_goals (simp only [List.length_append, List.length_take]; omega)
theorem Tp.restart_off {x : Tp} (hm : x.made = true) : x.restart.1.off = false ∧ x.restart.1.b = x.b := by
  obtain ⟨b, armed, off, made⟩ := x
  obtain rfl : made = true := hm
  cases off <;> exact ⟨rfl, rfl⟩
/-- Bounds, and what the blocks are. -/
def WOk (k : Nat) (x : Tp) (W : List Blk) : Prop := x.Ok ∧ linked genB W ∧ goodB W ∧ W.length ≤ k ∧ x.b.length ≤ k
theorem WOk.same {k : Nat} {x x' : Tp} {W : List Blk} (h : WOk k x W) (hx : x'.Ok) (hb : x'.b = x.b) : WOk (k + 300) x' W := ⟨hx, h.2.1, h.2.2.1, by have := h.2.2.2.1; omega, by rw [hb]; have := h.2.2.2.2; omega⟩
theorem WOk.acc {k : Nat} {over : Bool} {x : Tp} {W : List Blk} {b : Blk} (h : WOk k x W) (hk : k ≤ 20000) (hh : b.h ≤ maxI) : ∃ W', (acc over x (genB :: W) (lastB genB W) b).2.2.2 = genB :: W' ∧ WOk (k + 300) (acc over x (genB :: W) (lastB genB W) b).2.1 W' := by
  obtain ⟨h1, h2, h3, h4, h5⟩ := h
  unfold Go.Fx.acc
  by_cases c1 : over = true ∨ x.off = true
  · rw [if_pos c1]
    exact ⟨W, rfl, h1, h2, h3, by omega, by simp only; omega⟩
  rw [if_neg c1]
  by_cases c2 : b.link (lastB genB W) ≠ 0
  · rw [if_pos c2]
    exact ⟨W, rfl, h1, h2, h3, by omega, by simp only; omega⟩
  rw [if_neg c2]
  have c2 : b.link (lastB genB W) = 0 := Decidable.not_not.1 c2
  have hck := (link_chk c2).1
  have hrl : b.rcd.length ≤ 266 := by
    have := Blk.recO_le b
    rw [show b.recO = b.rcd from if_pos hck] at this
    exact this
  have hal := Tp.append_len x b.rcd
  by_cases c3 : (x.append b.rcd).2 = 0
  · rw [if_pos c3]
    refine ⟨W ++ [b], rfl, Tp.append_ok h1 _, linked_snoc h2 c2, fun q hq => ?_, by simp; omega, by simp only; omega⟩
    rcases List.mem_append.1 hq with hq | hq
    · exact h3 q hq
    · rw [List.mem_singleton.1 hq]; exact ⟨hck, hh⟩
  · rw [if_neg c3]
    exact ⟨W, rfl, Tp.append_ok h1 _, h2, h3, by omega, by simp only; omega⟩
theorem WOk.opn {k : Nat} {x : Tp} {S : List Blk} (hx : x.Ok) (hb : x.b.length ≤ k) (hS : IsScan x.b S) : WOk k { x with b := layL (linkT genB S) } (linkT genB S) := by
  obtain ⟨t, ht⟩ := linkT_lay (S := S)
  have h1 := hS.len
  have h2 := layL_ge (linkT genB S)
  have h3 := congrArg List.length ht
  rw [List.length_append] at h3
  obtain ⟨x1, x2, x3⟩ := hx
  exact ⟨⟨by simp only; omega, x2, x3⟩, linkT_linked _ _, linkT_good hS.1, by omega, by simp only; omega⟩
section
variable {w0 w w' : World} {As : List Asn} {g gi gm gw : Nat} {lv iv m pt ut cp rp : Value} {over off : Bool} {B : List BV} {x : Tp}
/-- The world of the law in memory. -/
def WSt (w0 : World) (pt ut : Value) (gw : Nat) (x : Tp) (over : Bool) (L : List Blk) (As : List Asn) (z : World) : Prop := ∃ (g gi gm : Nat) (lv iv : Value) (B : List BV) (g2 : Nat) (lv2 : Value) (B2 : List BV) (E : List Asn),
  blks B = L ∧ blks B2 = L ∧ DatB B E ∧ DatB B2 E ∧ Sep w0 z (chH g gi gm lv iv pt over B ++ (tp pt x :: rcA g2 lv2 ut over :: rows Q_api_Block lv2 (B2.map BV.t) :: rt ut x :: wA gw pt (.pointer (some ⟨g, 0, none⟩)) ut (.pointer (some ⟨g2, 0, none⟩)) :: (As ++ E)))
theorem bldS2 {s : Value} {a : Option Addr} {n c : Nat} {Bs : List Asn} {K : Value → World → Prop} (hs : Sep w0 w Bs) (hf : s = .slice a n c)
    (hk : ∀ a z, Sep w0 z (own a 1 1 [s] :: Bs) → K a z) : efP P (Instr.buildSlice T_sl_sl_uint8 1 #[(0, s)]) w K := by
  have hb : (Instr.buildSlice T_sl_sl_uint8 1 #[(0, s)]).run P w = .ok (.slice (some ⟨w.heap.size, 0, none⟩) 1 1) (w.alloc (.cells ([s] : List Value).toArray T_sl_uint8)) := by
    rw [hf]
    kernel_rfl
  exact build_s (cs := [s]) (size := 1) hs rfl hb fun g5 w5 hs5 => hk _ _ hs5
theorem app2_spec {s a : Value} {l : List UInt8} {Bs : List Asn} (hs : Sep w0 w (tp pt x :: own a 1 1 [s] :: Bs)) (hx : x.Ok) (hr : RdB w0.heap s l) (hcap : capOk s) (hl : l.length ≤ 1000000) :
    cal P f_tape_Tape_Append [pt, a] w fun v w' => v = .int .i64 (x.append l).2 ∧ Sep w0 w' (tp pt (x.append l).1 :: own a 1 1 [s] :: Bs) := by
  refine cal_i (tpAppend_spec (s := ⟨a, [⟨s, l⟩]⟩) hs hx fun w' h => ?_) ?_
  · refine ok_of_own h.cel h.capN (by simp) fun b hb => ?_
    simp at hb
    rw [hb]
    exact ⟨h.rdB hr, by simp only; omega, hcap⟩
  have hj : joined [⟨s, l⟩] = l := by simp [joined]
  simp only [hj]
  rintro _ w1 ⟨rfl, hs1⟩
  exact ⟨rfl, hs1⟩
theorem app2r_spec {s a : Value} {l : List UInt8} {Bs : List Asn} (hs : Sep w0 w (rt ut x :: own a 1 1 [s] :: Bs)) (hx : x.Ok) (hr : RdB w0.heap s l) (hcap : capOk s) (hl : l.length ≤ 1000000) :
    cal P f_ref08_Tape_Append [ut, a] w fun v w' => v = .int .i64 (x.append l).2 ∧ Sep w0 w' (rt ut (x.append l).1 :: own a 1 1 [s] :: Bs) := by
  refine cal_i (rAppend_spec (s := ⟨a, [⟨s, l⟩]⟩) hs hx fun w' h => ?_) ?_
  · refine ok_of_own h.cel h.capN (by simp) fun b hb => ?_
    simp at hb
    rw [hb]
    exact ⟨h.rdB hr, by simp only; omega, hcap⟩
  have hj : joined [⟨s, l⟩] = l := by simp [joined]
  simp only [hj]
  rintro _ w1 ⟨rfl, hs1⟩
  exact ⟨rfl, hs1⟩
theorem not_Bad {x : Tp} (h : x.off = false) : ¬ Bad x genB := by
  rintro (h1 | h1 | h1)
  · rw [h] at h1; cases h1
  · exact h1 genB_chk
  · exact h1 genB_h
theorem reopen {u : World} {v1 : Value} {x2 : Tp} {g2 : Nat} {lv2 : Value} {B2 : List BV} {T : Asn} {E : List Asn} {k : Nat} (hC : Cub w0) (hu : Sep w0 u (rdA v1 [103] :: rt ut x2 :: tp pt x2 :: (chH g gi gm lv iv pt over B ++ (rcA g2 lv2 ut over :: rows Q_api_Block lv2 (B2.map BV.t) :: wA gw pt (.pointer (some ⟨g, 0, none⟩)) ut (.pointer (some ⟨g2, 0, none⟩)) :: T :: (As ++ E))))) (hx2 : x2.Ok) (hoff2 : x2.off = false) (hb2 : x2.b.length ≤ k + 300) :
    cal P f_law10_world_opens [.pointer (some ⟨gw, 0, none⟩), bq genB v1] u fun r w' => r = .bool true ∧ (∃ c1 c2 A, Sep w0 w' (wA gw pt c1 ut c2 :: A)) ∧ ∃ x' over' W', WSt w0 pt ut gw x' over' (genB :: W') As w' ∧ WOk (k + 300) x' W' := by
  refine cal_i (opens_spec (b := genB) (v := v1) (As := T :: rdA v1 [103] :: (chH g gi gm lv iv pt over B ++ (rcA g2 lv2 ut over :: rows Q_api_Block lv2 (B2.map BV.t) :: (As ++ E)))) (Sep.pick hu [2, 1, 10, 11, 0, 3, 4, 5, 6, 7, 8, 9] 12) hx2 hC (fun z hz => Sep.rda hz.tail) (by decide)) ?_
  rintro r w3 ⟨rfl, ⟨hbad, _⟩ | ⟨_, g', gi', gm', lv', iv', B', g2', lv2', B2', S, E', hS, hB', hB2', hD', hD2', hs3⟩⟩
  · exact absurd hbad (not_Bad hoff2)
  refine ⟨rfl, ⟨_, _, _, Sep.pick hs3 [9] 10⟩, { x2 with b := layL (linkT genB S) }, false, linkT genB S, ⟨g', gi', gm', lv', iv', B', g2', lv2', B2', E ++ E', hB', hB2', hD'.sub fun A hA => List.mem_append_right _ hA, hD2'.sub fun A hA => List.mem_append_right _ hA, ?_⟩, WOk.opn hx2 hb2 hS⟩
  have h1 := Sep.pick hs3 [0, 1, 2, 3, 4, 5, 6, 7, 8, 9] 19
  rw [← List.append_assoc]
  exact h1
theorem spoil_tail {x7 : Tp} {g2 : Nat} {lv2 : Value} {B2 : List BV} {T : Asn} {E : List Asn} {k : Nat} {e : Int} {K : Value → World → Prop} (hC : Cub w0) (hx7 : x7.Ok) (hm7 : x7.made = true) (hb7 : x7.b.length ≤ k + 300)
    (hs7 : Sep w0 w (rt ut x7 :: tp pt x7 :: (chH g gi gm lv iv pt over B ++ (rcA g2 lv2 ut over :: rows Q_api_Block lv2 (B2.map BV.t) :: wA gw pt (.pointer (some ⟨g, 0, none⟩)) ut (.pointer (some ⟨g2, 0, none⟩)) :: T :: (As ++ E)))))
    (hK : ∀ w', (∃ x' over' W', WSt w0 pt ut gw x' over' (genB :: W') As w' ∧ WOk (k + 300) x' W') → K (.bool true) w') :
    ∃ S : World → Prop, S w ∧
  (bi BinOp.eql (.int .i64 e) (.int .i64 e) fun t147 =>
  jn1 (fun k4 =>
  gif t147 true
  (k4 (.pointer (some ⟨gw, 0, none⟩)) w)
  (k4 undef w)) fun _ t149 w =>
  jn1 (fun k5 =>
  gif t147 true
  (nilc t149 fun x =>
  k5 x w)
  (k5 undef w)) fun _ t150 w =>
  jn1 (fun k6 =>
  gif t147 true
  (fad 0 t150 fun x =>
  k6 x w)
  (k6 undef w)) fun _ t151 w =>
  jn1 (fun k7 =>
  gif t147 true
  (rdS S (fun w => ld1 t151 w.heap) fun x =>
  k7 x w)
  (k7 undef w)) fun _ t152 w =>
  jn1 (fun k8 =>
  gif t147 true
  (k8 (.pointer (some ⟨gw, 0, none⟩)) w)
  (k8 undef w)) fun _ t154 w =>
  jn1 (fun k9 =>
  gif t147 true
  (nilc t154 fun x =>
  k9 x w)
  (k9 undef w)) fun _ t155 w =>
  jn1 (fun k10 =>
  gif t147 true
  (fad 2 t155 fun x =>
  k10 x w)
  (k10 undef w)) fun _ t156 w =>
  jn1 (fun k11 =>
  gif t147 true
  (rdS S (fun w => ld1 t156 w.heap) fun x =>
  k11 x w)
  (k11 undef w)) fun _ t157 w =>
  jn1 (fun k12 =>
  gif t147 true
  (efS S (cal P f_tape_Tape_Restart [t152]) w fun x w =>
  k12 x w)
  (k12 undef w)) fun _ t153 w =>
  jn1 (fun k13 =>
  gif t147 true
  (efS S (cal P f_ref08_Tape_Restart [t157]) w fun x w =>
  k13 x w)
  (k13 undef w)) fun _ t158 w =>
  jn1 (fun k14 =>
  gif t147 true
  (bi BinOp.eql t153 t158 fun x =>
  k14 x w)
  (k14 undef w)) fun _ t159 w =>
  pik t147 t159 (Value.bool false) fun t160 =>
  jn1 (fun k15 =>
  gif t160 true
  (k15 (.pointer (some ⟨gw, 0, none⟩)) w)
  (k15 undef w)) fun _ t162 w =>
  jn1 (fun k16 =>
  gif t160 true
  (efS S (cal P f_law10_first []) w fun x w =>
  k16 x w)
  (k16 undef w)) fun _ t163 w =>
  jn1 (fun k17 =>
  gif t160 true
  (efS S (cal P f_law10_world_opens [t162, t163]) w fun x w =>
  k17 x w)
  (k17 undef w)) fun _ t164 w =>
  pik t160 t164 (Value.bool false) fun t165 =>
  K t165 w) := by
  obtain ⟨r1, r2⟩ := Tp.restart_off hm7
  refine ⟨fun u => ∃ c1 c2 A, Sep w0 u (wA gw pt c1 ut c2 :: A), ⟨_, _, _, Sep.pick hs7 [9] 10⟩, ?_⟩
  simp only [fx, Nat.reduceAdd, forall_const, beq_self_eq_true]
  refine jn1_dup ?_
  refine rdS_ld (v := pt) (fun u ⟨c1, c2, A, hu⟩ K hk => (L_flurrylaw10_world__t (Sep.blk hu) K).mpr hk) ?_
  simp only [fx, Nat.reduceAdd, forall_const]
  refine jn1_dup ?_
  refine rdS_ld (v := ut) (fun u ⟨c1, c2, A, hu⟩ K hk => (L_flurrylaw10_world__u (Sep.blk hu) K).mpr hk) ?_
  simp only [fx, Nat.reduceAdd, forall_const]
  refine jn1_dup ?_
  refine efS_i (cal_i (tpRestart_spec (Sep.pick hs7 [1, 0, 2, 3, 4, 5, 6, 7, 8, 9, 10] 11)) ?_)
  rintro _ w8 ⟨rfl, hs8⟩
  -- tp 0 · rt 1
  refine ⟨⟨_, _, _, Sep.pick hs8 [9] 10⟩, ?_⟩
  intro _
  refine jn1_dup ?_
  refine efS_i (cal_i (rRestart_spec (Sep.pick hs8 [1, 0, 2, 3, 4, 5, 6, 7, 8, 9, 10] 11)) ?_)
  rintro _ w9 ⟨rfl, hs9⟩
  refine ⟨⟨_, _, _, Sep.pick hs9 [9] 10⟩, ?_⟩
  simp only [fx, Nat.reduceAdd, forall_const, beq_self_eq_true]
  refine jn1_dup ?_
  refine efS_i (cal_i cFirst_spec ?_)
  rintro _ w10 ⟨v1, rfl, hs10⟩
  replace hs10 := hs9.join hs10
  refine ⟨⟨_, _, _, Sep.pick hs10 [10] 11⟩, ?_⟩
  intro _
  refine jn1_dup ?_
  refine efS_i (cal_i (reopen (k := k) (v1 := v1) (x2 := x7.restart.1) hC hs10 (Tp.restart_ok hx7) r1 (by rw [r2]; omega)) ?_)
  rintro _ w11 ⟨rfl, hs11, hres⟩
  refine ⟨hs11, ?_⟩
  simp only [fx, Nat.reduceAdd, forall_const]
  exact hK _ hres
theorem does_child {o : OA} {W : List Blk} {k : Nat} (hact : o.act = 0) (h : WSt w0 pt ut gw x over (genB :: W) As w) (hw : WOk k x W) (hk : k ≤ 20000) (hC : Cub w0) (hod : RdB w0.heap o.dv o.d) (hob : RdB w0.heap o.bv o.b.d) (hcap : capOk o.dv) (hoh : o.b.h ≤ maxI)
    (hn1 : -maxI - 1 ≤ o.n) (hn2 : o.n ≤ maxI) (hdl : o.d.length ≤ 300) (hbl : o.b.d.length ≤ 300) :
    cal P f_law10_world_does [.pointer (some ⟨gw, 0, none⟩), .agg (Rdr.cells Q_flurrylaw10_Op o.t).toArray] w fun r w' => r = .bool true ∧ ∃ x' over' W', WSt w0 pt ut gw x' over' (genB :: W') As w' ∧ WOk (k + 300) x' W' := by
  refine s_law10_world_does fun R hR => ?_
  unfold c_law10_world_does
  obtain ⟨g, gi, gm, lv, iv, B, g2, lv2, B2, E, hB, hB2, hD, hD2, hs⟩ := h
  obtain ⟨hx, hl, hg, hW, hxb⟩ := id hw
  have hm : x.made = true := rt_made (Sep.pick hs [8] 9)
  have hBl := blksLen hB
  have hBl2 := blksLen hB2
  obtain ⟨yb, hyb, hyb1⟩ := lastOf hB
  obtain ⟨yr, hyr, hyr1⟩ := lastOf hB2
  obtain ⟨q, hq⟩ : ∃ q, q = lastB genB W := ⟨_, rfl⟩
  rw [← hq] at hyb1 hyr1
  have hqh : q.h = W.length := by
    have h1 := linked_h hl (lastB_get genB W)
    rw [← hq] at h1
    rw [h1, genB_h]
    omega
  have hqm : q.h ≤ maxI := by rw [hqh]; unfold maxI; omega
  have hqc : q.chk = 0 := by
    have h1 := List.mem_of_getElem? (lastB_get genB W)
    rw [← hq] at h1
    rcases List.mem_cons.1 h1 with h1 | h1
    · rw [h1]; exact genB_chk
    · exact (hg q h1).1
  refine bxQ hs fun g3 w1 hs1 => ?_
  obtain ⟨T, hT⟩ : ∃ T, T = blk g3 (Rdr.cells Q_flurrylaw10_Op o.t).toArray T_flurrylaw10_Op := ⟨_, rfl⟩
  have hTr : ∀ {u : World} {Cs : List Asn}, Sep w0 u (T :: Cs) → ∃ fr, u.heap[g3]? = some (.cells (Rdr.cells Q_flurrylaw10_Op o.t).toArray T_flurrylaw10_Op fr) := fun {u Cs} hu => by
    rw [hT] at hu
    exact ⟨_, hu.blk⟩
  rw [← hT] at hs1
  -- T 0 · chH 1-5 · tp 6 · rcA 7 · rows 8 · rt 9 · wA 10
  clear hs
  obtain ⟨frT, hcT⟩ := hTr hs1
  have ldDo : ∀ K, Go.Fx.ld1 (.pointer (some ⟨g3, 0, none⟩)) w1.heap K = K (.int .i64 o.act) := L_flurrylaw10_Op__Do hcT
  simp only [fx, Nat.reduceAdd, forall_const, ldDo]
  clear ldDo
  rw [cnd_bool]
  refine ⟨fun hdo => ?_, fun hdo => absurd hdo (by rw [hact]; decide)⟩
  clear hdo
  obtain ⟨_, k2, k3, k4, k5⟩ := Blk.kid_of (b := q) (d := o.d.take 200) hqc (by omega) (by simp; omega)
  obtain ⟨kid, hkid⟩ : ∃ kid, kid = q.child (o.d.take 200) := ⟨_, rfl⟩
  rw [← hkid] at k2 k3 k4 k5
  have hkm : kid.h ≤ maxI := by rw [k3, hqh]; unfold maxI; omega
  have hkl := chk0_lenC k4
  obtain ⟨F, hF⟩ : ∃ F, F = T :: (chH g gi gm lv iv pt over B ++ (tp pt x :: rcA g2 lv2 ut over :: rows Q_api_Block lv2 (B2.map BV.t) :: rt ut x :: wA gw pt (.pointer (some ⟨g, 0, none⟩)) ut (.pointer (some ⟨g2, 0, none⟩)) :: (As ++ E))) := ⟨_, rfl⟩
  replace hs1 : Sep w0 w1 F := by rw [hF]; exact hs1
  have rdF : ∀ {u : World} {Bs : List Asn}, Sep w0 u (Bs ++ F) → u.heap[gw]? = some (.cells (Rdr.cells Q_flurrylaw10_world (pt, .pointer (some ⟨g, 0, none⟩), ut, .pointer (some ⟨g2, 0, none⟩))).toArray T_flurrylaw10_world (0, 0)) ∧ RcR u.heap g2 lv2 ut over B2 ∧ ∃ fr, u.heap[g3]? = some (.cells (Rdr.cells Q_flurrylaw10_Op o.t).toArray T_flurrylaw10_Op fr) := fun {u Bs} hu => by
    have h1 := hu.dropL
    rw [hF] at h1
    exact ⟨Sep.blk (Sep.pick h1 [10] 11), rcA_rd (Sep.pick h1 [7, 8] 9) (hD2.sub fun A hA => List.mem_cons_of_mem _ (List.mem_cons_of_mem _ (List.mem_append_right _ hA))), hTr h1⟩
  refine drH_S hs1 fun w2 hs2 _ => ?_
  refine ⟨fun y z => ∃ g11 v', y = .pointer (some ⟨g11, 0, none⟩) ∧ Sep w0 z (blk g11 (Rdr.cells Q_api_Block (kid.p, kid.h, v')).toArray T_api_Block :: ownB v' kid.d :: F), ?_, ?_⟩
  · have ldL : ∀ {u : World}, Sep w0 u F → ∀ K : Value → Prop, K lv2 → Go.Fx.ld1 (.pointer (some ⟨g2, 1, none⟩)) u.heap K := fun {u} hu K hk => by
      obtain ⟨T, fr, hc⟩ := (rdF (Bs := []) hu).2.1.cell
      exact (L_flurryref10_Chain__L hc K).mpr hk
    simp only [fx, Nat.reduceAdd, forall_const]
    refine rdS_ld (v := .pointer (some ⟨g2, 0, none⟩)) (fun u hu K hk => (L_flurrylaw10_world__w (rdF (Bs := []) hu).1 K).mpr hk) ?_
    simp only [fx, Nat.reduceAdd, forall_const]
    refine rdS_ld (v := lv2) (fun u hu K hk => ldL hu K hk) ?_
    refine rdS_ld (v := .pointer (some ⟨g2, 0, none⟩)) (fun u hu K hk => (L_flurrylaw10_world__w (rdF (Bs := []) hu).1 K).mpr hk) ?_
    simp only [fx, Nat.reduceAdd, forall_const]
    refine rdS_ld (v := lv2) (fun u hu K hk => ldL hu K hk) ?_
    rw [(rdF (Bs := []) hs2).2.1.bw.len]
    simp only [fx, Nat.reduceAdd, forall_const]
    rw [wi64 (by omega) (by omega)]
    have e1 : (B2.length : Int) - 1 = ((B2.length - 1 : Nat) : Int) := by omega
    rw [e1]
    change ixs 34 _ _ _
    have hyr' : (B2.map BV.t)[B2.length - 1]? = some yr.t := by rw [List.getElem?_map, hyr]; rfl
    refine rdS_rowC (q := Q_api_Block) (by decide) hs2 (fun u hu => (rdF (Bs := []) hu).2.1.bw.1) hyr' .i64 ?_
    refine rdS_ld (v := o.dv) (fun u hu K hk => by
      obtain ⟨fr, hc⟩ := (rdF (Bs := []) hu).2.2
      exact (L_flurrylaw10_Op__Data hc K).mpr hk) ?_
    have cch : ∀ {u : World} {Bs : List Asn}, Sep w0 u (Bs ++ F) → cal P f_law10_child [bq yr.1 yr.2, o.dv] u fun r w' => ∃ v', r = bq kid v' ∧ Sep w0 w' (ownB v' kid.d :: (Bs ++ F)) := fun {u Bs} hu => by
      have hqd : RdB u.heap yr.2 q.d := by
        rw [← hyr1]
        exact (rdF hu).2.1.bw.2 yr (List.mem_of_getElem? hyr)
      rw [hyr1]
      refine cal_i (cChild_spec (b := q) (v := yr.2) (u := o.dv) (d := o.d) hqd (hu.rdB hod) hcap hqm (by omega)) ?_
      rintro _ w12 ⟨v', rfl, hs12⟩
      rw [← hkid] at *
      exact ⟨v', rfl, hu.join hs12⟩
    refine ⟨?_, ?_, trivial⟩
    · refine efC_cut (cal_i (cch (Bs := []) hs2) ?_)
      rintro _ w12 ⟨v', rfl, hs12⟩
      refine ⟨fun u => Sep w0 u (ownB v' kid.d :: F), hs12, ?_⟩
      refine efS_i (alloc_s hs12 (A_api_Block w12) fun g11 w13 hs13 => ⟨hs13.tail, ?_⟩)
      refine efC_stN (St_api_Block (b := (kid.p, kid.h, v')) hs13 (one_api_Block (Sep.one hs13.p1)) fun w14 hs14 => ?_)
      exact ⟨g11, v', rfl, hs14⟩
    · refine efS_i (alloc_s hs2 (A_api_Block w2) fun g11 w12 hs12 => ⟨hs12.tail, ?_⟩)
      refine efC_cal (cal_i (cch (Bs := [_]) hs12) ?_)
      rintro _ w13 ⟨v', rfl, hs13⟩
      refine efC_stN (St_api_Block (b := (kid.p, kid.h, v')) hs13.p1 (one_api_Block (Sep.one hs13)) fun w14 hs14 => ?_)
      exact ⟨g11, v', rfl, hs14⟩
  · rintro _ w3 ⟨g11, v', rfl, hs3⟩ _
    simp only [L_api_Block hs3.blk, L_api_Block__Parent hs3.blk, L_api_Block__Height hs3.blk, L_api_Block__Data hs3.blk]
    refine cal_i (rbClone_spec (b := kid) (v := v') (Sep.rd hs3.p1) (by omega)) ?_
    rintro _ w4 ⟨vd, rfl, hs4⟩
    replace hs4 := hs3.join hs4
    refine alloc_s hs4 (A_api_Block w4) fun g6 w5 hs5 => ?_
    refine St_api_Block (b := (kid.p, kid.h, vd)) hs5 (one_api_Block (Sep.one hs5.p1)) fun w6 hs6 => ?_
    replace hs6 : Sep w0 w6 (blk g6 (Rdr.cells Q_api_Block (kid.p, kid.h, vd)).toArray T_api_Block :: ownB vd kid.d :: blk g11 (Rdr.cells Q_api_Block (kid.p, kid.h, v')).toArray T_api_Block :: ownB v' kid.d :: F) := hs6
    refine drH_S hs6 fun w7 hs7 _ => ?_
    simp only [fx, Nat.reduceAdd, forall_const]
    refine rdS_ld (v := .pointer (some ⟨g, 0, none⟩)) (fun u hu K hk => (L_flurrylaw10_world__c (rdF (Bs := [_, _, _, _]) hu).1 K).mpr hk) ?_
    refine ⟨bq kid vd, fun u hu => (L_api_Block (Sep.blk hu) _).mpr rfl, ?_⟩
    rw [hF] at hs7
    -- g6 0 · vd 1 · g11 2 · v' 3 · T 4 · chH 5-9 · tp 10 · rcA 11 · rows 12 · rt 13 · wA 14
    refine efC_cal (cal_i (cAcc (b := kid) (v := vd) (y := yb) (x := x) (As := blk g6 (Rdr.cells Q_api_Block (kid.p, kid.h, vd)).toArray T_api_Block :: ownB vd kid.d :: blk g11 (Rdr.cells Q_api_Block (kid.p, kid.h, v')).toArray T_api_Block :: ownB v' kid.d :: rcA g2 lv2 ut over :: rows Q_api_Block lv2 (B2.map BV.t) :: rt ut x :: wA gw pt (.pointer (some ⟨g, 0, none⟩)) ut (.pointer (some ⟨g2, 0, none⟩)) :: (As ++ E))
      (Sep.pick hs7 [5, 6, 7, 8, 9, 10, 0, 1, 2, 3, 11, 12, 13, 14] 15) hx hm hC (fun z hz => Sep.rd hz.tail) (hD.sub fun A hA => List.mem_cons_of_mem _ (List.mem_cons_of_mem _ (List.mem_cons_of_mem _ (List.mem_cons_of_mem _ (List.mem_cons_of_mem _ (List.mem_cons_of_mem _ (List.mem_cons_of_mem _ (List.mem_cons_of_mem _ (List.mem_append_right _ hA))))))))) hkm hyb (by rw [hyb1]; exact hqm) (by omega)) ?_)
    rw [hyb1, hB, hq]
    rintro _ w8 ⟨rfl, lv', iv', B', E1, hB', hDB', hs8⟩
    rw [← hq] at hs8 hB' ⊢
    obtain ⟨X, hX⟩ : ∃ X, X = acc over x (genB :: W) q kid := ⟨_, rfl⟩
    rw [← hX] at hs8 hB' ⊢
    replace hs8 : Sep w0 w8 (chH g gi gm lv' iv' pt X.2.2.1 B' ++ (tp pt X.2.1 :: blk g6 (Rdr.cells Q_api_Block (kid.p, kid.h, vd)).toArray T_api_Block :: ownB vd kid.d :: blk g11 (Rdr.cells Q_api_Block (kid.p, kid.h, v')).toArray T_api_Block :: ownB v' kid.d :: rcA g2 lv2 ut over :: rows Q_api_Block lv2 (B2.map BV.t) :: rt ut x :: wA gw pt (.pointer (some ⟨g, 0, none⟩)) ut (.pointer (some ⟨g2, 0, none⟩)) :: ((As ++ E) ++ E1))) := hs8
    -- chH 0-4 · tp 5 · g6 6 · vd 7 · g11 8 · v' 9 · rcA 10 · rows 11 · rt 12 · wA 13
    have hc8 := Sep.blk (Sep.pick hs8 [6] 7)
    simp only [fx, Nat.reduceAdd, forall_const, L_api_Block hc8, L_api_Block__Parent hc8, L_api_Block__Height hc8, L_api_Block__Data hc8]
    change lenS vd _
    rw [(Sep.rd (Sep.pick hs8 [7] 8)).len]
    refine flip_loopC (d := vd) (l := kid.d) (Sep.pick hs8 [7, 6, 0, 1, 2, 3, 4, 5, 8, 9, 10, 11, 12, 13] 14) (fun z l' hz K hK => (L_api_Block__Data (Sep.blk hz.tail) K).mpr hK) (by omega) fun w9 hs9 => ?_
    -- vd 0 · g6 1 · chH 2-6 · tp 7 · g11 8 · v' 9 · rcA 10 · rows 11 · rt 12 · wA 13
    refine drH_S hs9 fun w10 hs10 _ => ?_
    refine rdS_ld (v := .pointer (some ⟨g2, 0, none⟩)) (fun u hu K hk => (L_flurrylaw10_world__w (Sep.blk (Sep.pick hu [13] 14)) K).mpr hk) ?_
    refine ⟨bq kid v', fun u hu => (L_api_Block (Sep.blk (Sep.pick hu [8] 9)) _).mpr rfl, ?_⟩
    refine efC_cal (cal_i (rcAcc (b := kid) (v := v') (y := yr) (x := x) (As := ownB v' kid.d :: tp pt X.2.1 :: (chH g gi gm lv' iv' pt X.2.2.1 B' ++ (wA gw pt (.pointer (some ⟨g, 0, none⟩)) ut (.pointer (some ⟨g2, 0, none⟩)) :: ((As ++ E) ++ E1))))
      (Sep.pick hs10 [10, 11, 12, 9, 7, 2, 3, 4, 5, 6, 13] 14) hx (fun z hz => Sep.rd hz) (hD2.sub fun A hA => List.mem_cons_of_mem _ (List.mem_cons_of_mem _ (List.mem_append_right _ (List.mem_cons_of_mem _ (List.mem_append_left _ (List.mem_append_right _ hA)))))) hkm hyr (by rw [hyr1]; exact hqm) (by omega)) ?_)
    rw [hyr1, hB2, ← hX]
    rintro _ w11 ⟨rfl, lv2', B2', E2, hB2', hDB2', hs11⟩
    simp only [fx, Nat.reduceAdd, forall_const, beq_self_eq_true]
    obtain ⟨W', hW', hwo⟩ := hw.acc (over := over) (b := kid) hk hkm
    rw [← hq, ← hX] at hW' hwo
    replace hs11 : Sep w0 w11 (rcA g2 lv2' ut X.2.2.1 :: rows Q_api_Block lv2' (B2'.map BV.t) :: rt ut X.2.1 :: ownB v' kid.d :: tp pt X.2.1 :: (chH g gi gm lv' iv' pt X.2.2.1 B' ++ (wA gw pt (.pointer (some ⟨g, 0, none⟩)) ut (.pointer (some ⟨g2, 0, none⟩)) :: (((As ++ E) ++ E1) ++ E2)))) := by
      simp only [List.cons_append, List.append_assoc, List.nil_append] at hs11 ⊢
      exact hs11
    refine hR _ _ ⟨rfl, X.2.1, X.2.2.1, W', ⟨g, gi, gm, lv', iv', B', g2, lv2', B2', (E ++ E1) ++ E2, by rw [hB', hW'], by rw [hB2', hW'], (hDB' E hD).sub fun A hA => List.mem_append_left _ hA, (hDB2' E hD2).sub fun A hA => by
      rcases List.mem_append.1 hA with hA | hA
      · exact List.mem_append_left _ (List.mem_append_left _ hA)
      · exact List.mem_append_right _ hA, ?_⟩, hwo⟩
    have h1 := Sep.pick hs11 [5, 6, 7, 8, 9, 4, 0, 1, 2, 10] 11
    have e : As ++ ((E ++ E1) ++ E2) = ((As ++ E) ++ E1) ++ E2 := by simp only [List.append_assoc]
    rw [e]
    exact h1
theorem does_other {o : OA} {W : List Blk} {k : Nat} (hact : o.act = 1) (h : WSt w0 pt ut gw x over (genB :: W) As w) (hw : WOk k x W) (hk : k ≤ 20000) (hC : Cub w0) (hod : RdB w0.heap o.dv o.d) (hob : RdB w0.heap o.bv o.b.d) (hcap : capOk o.dv) (hoh : o.b.h ≤ maxI)
    (hn1 : -maxI - 1 ≤ o.n) (hn2 : o.n ≤ maxI) (hdl : o.d.length ≤ 300) (hbl : o.b.d.length ≤ 300) :
    cal P f_law10_world_does [.pointer (some ⟨gw, 0, none⟩), .agg (Rdr.cells Q_flurrylaw10_Op o.t).toArray] w fun r w' => r = .bool true ∧ ∃ x' over' W', WSt w0 pt ut gw x' over' (genB :: W') As w' ∧ WOk (k + 300) x' W' := by
  refine s_law10_world_does fun R hR => ?_
  unfold c_law10_world_does
  obtain ⟨g, gi, gm, lv, iv, B, g2, lv2, B2, E, hB, hB2, hD, hD2, hs⟩ := h
  obtain ⟨hx, hl, hg, hW, hxb⟩ := id hw
  have hm : x.made = true := rt_made (Sep.pick hs [8] 9)
  have hBl := blksLen hB
  have hBl2 := blksLen hB2
  obtain ⟨yb, hyb, hyb1⟩ := lastOf hB
  obtain ⟨yr, hyr, hyr1⟩ := lastOf hB2
  obtain ⟨q, hq⟩ : ∃ q, q = lastB genB W := ⟨_, rfl⟩
  rw [← hq] at hyb1 hyr1
  have hqh : q.h = W.length := by
    have h1 := linked_h hl (lastB_get genB W)
    rw [← hq] at h1
    rw [h1, genB_h]
    omega
  have hqm : q.h ≤ maxI := by rw [hqh]; unfold maxI; omega
  have hqc : q.chk = 0 := by
    have h1 := List.mem_of_getElem? (lastB_get genB W)
    rw [← hq] at h1
    rcases List.mem_cons.1 h1 with h1 | h1
    · rw [h1]; exact genB_chk
    · exact (hg q h1).1
  refine bxQ hs fun g3 w1 hs1 => ?_
  obtain ⟨T, hT⟩ : ∃ T, T = blk g3 (Rdr.cells Q_flurrylaw10_Op o.t).toArray T_flurrylaw10_Op := ⟨_, rfl⟩
  have hTr : ∀ {u : World} {Cs : List Asn}, Sep w0 u (T :: Cs) → ∃ fr, u.heap[g3]? = some (.cells (Rdr.cells Q_flurrylaw10_Op o.t).toArray T_flurrylaw10_Op fr) := fun {u Cs} hu => by
    rw [hT] at hu
    exact ⟨_, hu.blk⟩
  rw [← hT] at hs1
  -- T 0 · chH 1-5 · tp 6 · rcA 7 · rows 8 · rt 9 · wA 10
  clear hs
  obtain ⟨frT, hcT⟩ := hTr hs1
  have ldDo : ∀ K, Go.Fx.ld1 (.pointer (some ⟨g3, 0, none⟩)) w1.heap K = K (.int .i64 o.act) := L_flurrylaw10_Op__Do hcT
  simp only [fx, Nat.reduceAdd, forall_const, ldDo]
  clear ldDo
  rw [cnd_bool]
  refine ⟨fun hdo => absurd hdo (by rw [hact]; decide), fun hdo => ?_⟩
  rw [cnd_bool]
  refine ⟨fun hdo => ?_, fun hdo => absurd hdo (by rw [hact]; decide)⟩
  clear hdo
  refine drH_PH' (S := fun u => ∃ A, Sep w0 u (wA gw pt (.pointer (some ⟨g, 0, none⟩)) ut (.pointer (some ⟨g2, 0, none⟩)) :: T :: A)) hs1 (fun u hu => ⟨_, Sep.pick hu [10, 0] 11⟩) fun w2 hs2 _ => ?_
  refine rdS_ld (v := .pointer (some ⟨g, 0, none⟩)) (fun u ⟨A, hu⟩ K hk => (L_flurrylaw10_world__c (Sep.blk hu) K).mpr hk) ?_
  refine ⟨bq o.b o.bv, fun u ⟨A, hu⟩ => by
    obtain ⟨fr, hc⟩ := hTr hu.tail
    exact (L_flurrylaw10_Op__B hc _).mpr rfl, ?_⟩
  simp only [fx, Nat.reduceAdd, forall_const]
  refine rdS_ld (v := .pointer (some ⟨g2, 0, none⟩)) (fun u ⟨A, hu⟩ K hk => (L_flurrylaw10_world__w (Sep.blk hu) K).mpr hk) ?_
  refine ⟨bq o.b o.bv, fun u ⟨A, hu⟩ => by
    obtain ⟨fr, hc⟩ := hTr hu.tail
    exact (L_flurrylaw10_Op__B hc _).mpr rfl, ?_⟩
  refine efS_i (cal_i (cAcc (b := o.b) (v := o.bv) (y := yb) (x := x) (As := T :: rcA g2 lv2 ut over :: rows Q_api_Block lv2 (B2.map BV.t) :: rt ut x :: wA gw pt (.pointer (some ⟨g, 0, none⟩)) ut (.pointer (some ⟨g2, 0, none⟩)) :: (As ++ E))
    (Sep.pick hs2 [1, 2, 3, 4, 5, 6, 0, 7, 8, 9, 10] 11) hx hm hC (fun z hz => hz.rdB hob) (hD.sub fun A hA => List.mem_cons_of_mem _ (List.mem_cons_of_mem _ (List.mem_cons_of_mem _ (List.mem_cons_of_mem _ (List.mem_cons_of_mem _ (List.mem_append_right _ hA)))))) hoh hyb (by rw [hyb1]; exact hqm) (by omega)) ?_)
  rw [hyb1, hB, hq]
  rintro _ w8 ⟨rfl, lv', iv', B', E1, hB', hDB', hs8⟩
  rw [← hq] at hs8 hB' ⊢
  obtain ⟨X, hX⟩ : ∃ X, X = acc over x (genB :: W) q o.b := ⟨_, rfl⟩
  rw [← hX] at hs8 hB' ⊢
  replace hs8 : Sep w0 w8 (chH g gi gm lv' iv' pt X.2.2.1 B' ++ (tp pt X.2.1 :: T :: rcA g2 lv2 ut over :: rows Q_api_Block lv2 (B2.map BV.t) :: rt ut x :: wA gw pt (.pointer (some ⟨g, 0, none⟩)) ut (.pointer (some ⟨g2, 0, none⟩)) :: ((As ++ E) ++ E1))) := hs8
  -- chH 0-4 · tp 5 · T 6 · rcA 7 · rows 8 · rt 9 · wA 10
  refine ⟨⟨_, Sep.pick hs8 [10, 6] 11⟩, ?_⟩
  refine efC_cal (cal_i (rcAcc (b := o.b) (v := o.bv) (y := yr) (x := x) (As := tp pt X.2.1 :: (chH g gi gm lv' iv' pt X.2.2.1 B' ++ (wA gw pt (.pointer (some ⟨g, 0, none⟩)) ut (.pointer (some ⟨g2, 0, none⟩)) :: ((As ++ E) ++ E1))))
    (Sep.pick hs8 [7, 8, 9, 5, 0, 1, 2, 3, 4, 10] 11) hx (fun z hz => hz.rdB hob) (hD2.sub fun A hA => List.mem_cons_of_mem _ (List.mem_append_right _ (List.mem_cons_of_mem _ (List.mem_append_left _ (List.mem_append_right _ hA))))) hoh hyr (by rw [hyr1]; exact hqm) (by omega)) ?_)
  rw [hyr1, hB2, ← hX]
  rintro _ w11 ⟨rfl, lv2', B2', E2, hB2', hDB2', hs11⟩
  simp only [fx, Nat.reduceAdd, forall_const, beq_self_eq_true]
  obtain ⟨W', hW', hwo⟩ := hw.acc (over := over) (b := o.b) hk hoh
  rw [← hq, ← hX] at hW' hwo
  replace hs11 : Sep w0 w11 (rcA g2 lv2' ut X.2.2.1 :: rows Q_api_Block lv2' (B2'.map BV.t) :: rt ut X.2.1 :: tp pt X.2.1 :: (chH g gi gm lv' iv' pt X.2.2.1 B' ++ (wA gw pt (.pointer (some ⟨g, 0, none⟩)) ut (.pointer (some ⟨g2, 0, none⟩)) :: (((As ++ E) ++ E1) ++ E2)))) := by
    simp only [List.cons_append, List.append_assoc, List.nil_append] at hs11 ⊢
    exact hs11
  refine hR _ _ ⟨rfl, X.2.1, X.2.2.1, W', ⟨g, gi, gm, lv', iv', B', g2, lv2', B2', (E ++ E1) ++ E2, by rw [hB', hW'], by rw [hB2', hW'], (hDB' E hD).sub fun A hA => List.mem_append_left _ hA, (hDB2' E hD2).sub fun A hA => by
    rcases List.mem_append.1 hA with hA | hA
    · exact List.mem_append_left _ (List.mem_append_left _ hA)
    · exact List.mem_append_right _ hA, ?_⟩, hwo⟩
  have h1 := Sep.pick hs11 [4, 5, 6, 7, 8, 3, 0, 1, 2, 9] 10
  have e : As ++ ((E ++ E1) ++ E2) = ((As ++ E) ++ E1) ++ E2 := by simp only [List.append_assoc]
  rw [e]
  exact h1
theorem does_arm {o : OA} {W : List Blk} {k : Nat} (hact : o.act = 2) (h : WSt w0 pt ut gw x over (genB :: W) As w) (hw : WOk k x W) (hk : k ≤ 20000) (hC : Cub w0) (hod : RdB w0.heap o.dv o.d) (hob : RdB w0.heap o.bv o.b.d) (hcap : capOk o.dv) (hoh : o.b.h ≤ maxI)
    (hn1 : -maxI - 1 ≤ o.n) (hn2 : o.n ≤ maxI) (hdl : o.d.length ≤ 300) (hbl : o.b.d.length ≤ 300) :
    cal P f_law10_world_does [.pointer (some ⟨gw, 0, none⟩), .agg (Rdr.cells Q_flurrylaw10_Op o.t).toArray] w fun r w' => r = .bool true ∧ ∃ x' over' W', WSt w0 pt ut gw x' over' (genB :: W') As w' ∧ WOk (k + 300) x' W' := by
  refine s_law10_world_does fun R hR => ?_
  unfold c_law10_world_does
  obtain ⟨g, gi, gm, lv, iv, B, g2, lv2, B2, E, hB, hB2, hD, hD2, hs⟩ := h
  obtain ⟨hx, hl, hg, hW, hxb⟩ := id hw
  have hm : x.made = true := rt_made (Sep.pick hs [8] 9)
  have hBl := blksLen hB
  have hBl2 := blksLen hB2
  obtain ⟨yb, hyb, hyb1⟩ := lastOf hB
  obtain ⟨yr, hyr, hyr1⟩ := lastOf hB2
  obtain ⟨q, hq⟩ : ∃ q, q = lastB genB W := ⟨_, rfl⟩
  rw [← hq] at hyb1 hyr1
  have hqh : q.h = W.length := by
    have h1 := linked_h hl (lastB_get genB W)
    rw [← hq] at h1
    rw [h1, genB_h]
    omega
  have hqm : q.h ≤ maxI := by rw [hqh]; unfold maxI; omega
  have hqc : q.chk = 0 := by
    have h1 := List.mem_of_getElem? (lastB_get genB W)
    rw [← hq] at h1
    rcases List.mem_cons.1 h1 with h1 | h1
    · rw [h1]; exact genB_chk
    · exact (hg q h1).1
  refine bxQ hs fun g3 w1 hs1 => ?_
  obtain ⟨T, hT⟩ : ∃ T, T = blk g3 (Rdr.cells Q_flurrylaw10_Op o.t).toArray T_flurrylaw10_Op := ⟨_, rfl⟩
  have hTr : ∀ {u : World} {Cs : List Asn}, Sep w0 u (T :: Cs) → ∃ fr, u.heap[g3]? = some (.cells (Rdr.cells Q_flurrylaw10_Op o.t).toArray T_flurrylaw10_Op fr) := fun {u Cs} hu => by
    rw [hT] at hu
    exact ⟨_, hu.blk⟩
  rw [← hT] at hs1
  -- T 0 · chH 1-5 · tp 6 · rcA 7 · rows 8 · rt 9 · wA 10
  clear hs
  obtain ⟨frT, hcT⟩ := hTr hs1
  have ldDo : ∀ K, Go.Fx.ld1 (.pointer (some ⟨g3, 0, none⟩)) w1.heap K = K (.int .i64 o.act) := L_flurrylaw10_Op__Do hcT
  simp only [fx, Nat.reduceAdd, forall_const, ldDo]
  clear ldDo
  rw [cnd_bool]
  refine ⟨fun hdo => absurd hdo (by rw [hact]; decide), fun hdo => ?_⟩
  rw [cnd_bool]
  refine ⟨fun hdo => absurd hdo (by rw [hact]; decide), fun hdo => ?_⟩
  rw [cnd_bool]
  refine ⟨fun hdo => ?_, fun hdo => absurd hdo (by rw [hact]; decide)⟩
  clear hdo
  refine drH_PH' (S := fun u => ∃ A, Sep w0 u (wA gw pt (.pointer (some ⟨g, 0, none⟩)) ut (.pointer (some ⟨g2, 0, none⟩)) :: T :: A)) hs1 (fun u hu => ⟨_, Sep.pick hu [10, 0] 11⟩) fun w2 hs2 _ => ?_
  refine rdS_ld (v := pt) (fun u ⟨A, hu⟩ K hk => (L_flurrylaw10_world__t (Sep.blk hu) K).mpr hk) ?_
  refine rdS_ld (v := .int .i64 o.n) (fun u ⟨A, hu⟩ K hk => by
    obtain ⟨fr, hc⟩ := hTr hu.tail
    exact (L_flurrylaw10_Op__N hc K).mpr hk) ?_
  refine rdS_ld (v := ut) (fun u ⟨A, hu⟩ K hk => (L_flurrylaw10_world__u (Sep.blk hu) K).mpr hk) ?_
  refine rdS_ld (v := .int .i64 o.n) (fun u ⟨A, hu⟩ K hk => by
    obtain ⟨fr, hc⟩ := hTr hu.tail
    exact (L_flurrylaw10_Op__N hc K).mpr hk) ?_
  refine efS_i (cal_i (tpArm_spec (n := o.n) (Sep.pick hs2 [6, 0, 1, 2, 3, 4, 5, 7, 8, 9, 10] 11)) ?_)
  rintro _ w3 ⟨rfl, hs3⟩
  -- tp 0 · T 1 · chH 2-6 · rcA 7 · rows 8 · rt 9 · wA 10
  refine ⟨⟨_, Sep.pick hs3 [10, 1] 11⟩, ?_⟩
  refine efC_cal (cal_i (rArm_spec (n := o.n) (Sep.pick hs3 [9, 0, 1, 2, 3, 4, 5, 6, 7, 8, 10] 11)) ?_)
  rintro _ w4 ⟨rfl, hs4⟩
  -- rt 0 · tp 1 · T 2 · chH 3-7 · rcA 8 · rows 9 · wA 10
  simp only [fx, Nat.reduceAdd, forall_const, beq_self_eq_true]
  refine hR _ _ ⟨rfl, (x.arm o.n).1, over, W, ⟨g, gi, gm, lv, iv, B, g2, lv2, B2, E, hB, hB2, hD, hD2, Sep.pick hs4 [3, 4, 5, 6, 7, 1, 8, 9, 0, 10] 11⟩, hw.same (Tp.arm_ok hx (by unfold maxI at hn2; omega)) ?_⟩
  unfold Tp.arm
  repeat' split
  all_goals rfl
theorem does_crash {o : OA} {W : List Blk} {k : Nat} (hact : o.act = 3) (h : WSt w0 pt ut gw x over (genB :: W) As w) (hw : WOk k x W) (hk : k ≤ 20000) (hC : Cub w0) (hod : RdB w0.heap o.dv o.d) (hob : RdB w0.heap o.bv o.b.d) (hcap : capOk o.dv) (hoh : o.b.h ≤ maxI)
    (hn1 : -maxI - 1 ≤ o.n) (hn2 : o.n ≤ maxI) (hdl : o.d.length ≤ 300) (hbl : o.b.d.length ≤ 300) :
    cal P f_law10_world_does [.pointer (some ⟨gw, 0, none⟩), .agg (Rdr.cells Q_flurrylaw10_Op o.t).toArray] w fun r w' => r = .bool true ∧ ∃ x' over' W', WSt w0 pt ut gw x' over' (genB :: W') As w' ∧ WOk (k + 300) x' W' := by
  refine s_law10_world_does fun R hR => ?_
  unfold c_law10_world_does
  obtain ⟨g, gi, gm, lv, iv, B, g2, lv2, B2, E, hB, hB2, hD, hD2, hs⟩ := h
  obtain ⟨hx, hl, hg, hW, hxb⟩ := id hw
  have hm : x.made = true := rt_made (Sep.pick hs [8] 9)
  have hBl := blksLen hB
  have hBl2 := blksLen hB2
  obtain ⟨yb, hyb, hyb1⟩ := lastOf hB
  obtain ⟨yr, hyr, hyr1⟩ := lastOf hB2
  obtain ⟨q, hq⟩ : ∃ q, q = lastB genB W := ⟨_, rfl⟩
  rw [← hq] at hyb1 hyr1
  have hqh : q.h = W.length := by
    have h1 := linked_h hl (lastB_get genB W)
    rw [← hq] at h1
    rw [h1, genB_h]
    omega
  have hqm : q.h ≤ maxI := by rw [hqh]; unfold maxI; omega
  have hqc : q.chk = 0 := by
    have h1 := List.mem_of_getElem? (lastB_get genB W)
    rw [← hq] at h1
    rcases List.mem_cons.1 h1 with h1 | h1
    · rw [h1]; exact genB_chk
    · exact (hg q h1).1
  refine bxQ hs fun g3 w1 hs1 => ?_
  obtain ⟨T, hT⟩ : ∃ T, T = blk g3 (Rdr.cells Q_flurrylaw10_Op o.t).toArray T_flurrylaw10_Op := ⟨_, rfl⟩
  have hTr : ∀ {u : World} {Cs : List Asn}, Sep w0 u (T :: Cs) → ∃ fr, u.heap[g3]? = some (.cells (Rdr.cells Q_flurrylaw10_Op o.t).toArray T_flurrylaw10_Op fr) := fun {u Cs} hu => by
    rw [hT] at hu
    exact ⟨_, hu.blk⟩
  rw [← hT] at hs1
  -- T 0 · chH 1-5 · tp 6 · rcA 7 · rows 8 · rt 9 · wA 10
  clear hs
  obtain ⟨frT, hcT⟩ := hTr hs1
  have ldDo : ∀ K, Go.Fx.ld1 (.pointer (some ⟨g3, 0, none⟩)) w1.heap K = K (.int .i64 o.act) := L_flurrylaw10_Op__Do hcT
  simp only [fx, Nat.reduceAdd, forall_const, ldDo]
  clear ldDo
  rw [cnd_bool]
  refine ⟨fun hdo => absurd hdo (by rw [hact]; decide), fun hdo => ?_⟩
  rw [cnd_bool]
  refine ⟨fun hdo => absurd hdo (by rw [hact]; decide), fun hdo => ?_⟩
  rw [cnd_bool]
  refine ⟨fun hdo => absurd hdo (by rw [hact]; decide), fun hdo => ?_⟩
  rw [cnd_bool]
  refine ⟨fun hdo => ?_, fun hdo => absurd hdo (by rw [hact]; decide)⟩
  clear hdo
  refine drH_PH' (S := fun u => ∃ A, Sep w0 u (wA gw pt (.pointer (some ⟨g, 0, none⟩)) ut (.pointer (some ⟨g2, 0, none⟩)) :: T :: A)) hs1 (fun u hu => ⟨_, Sep.pick hu [10, 0] 11⟩) fun w2 hs2 _ => ?_
  refine rdS_ld (v := pt) (fun u ⟨A, hu⟩ K hk => (L_flurrylaw10_world__t (Sep.blk hu) K).mpr hk) ?_
  refine rdS_ld (v := ut) (fun u ⟨A, hu⟩ K hk => (L_flurrylaw10_world__u (Sep.blk hu) K).mpr hk) ?_
  refine efS_i (cal_i (tpCrash_spec (Sep.pick hs2 [6, 0, 1, 2, 3, 4, 5, 7, 8, 9, 10] 11)) ?_)
  rintro _ w3 ⟨rfl, hs3⟩
  refine ⟨⟨_, Sep.pick hs3 [10, 1] 11⟩, ?_⟩
  refine efC_cal (cal_i (rCrash_spec (Sep.pick hs3 [9, 0, 1, 2, 3, 4, 5, 6, 7, 8, 10] 11)) ?_)
  rintro _ w4 ⟨rfl, hs4⟩
  simp only [fx, Nat.reduceAdd, forall_const, beq_self_eq_true]
  refine hR _ _ ⟨rfl, x.crash.1, over, W, ⟨g, gi, gm, lv, iv, B, g2, lv2, B2, E, hB, hB2, hD, hD2, Sep.pick hs4 [3, 4, 5, 6, 7, 1, 8, 9, 0, 10] 11⟩, hw.same (Tp.crash_ok hx) ?_⟩
  unfold Tp.crash
  split <;> rfl
theorem does_open {o : OA} {W : List Blk} {k : Nat} (hact : o.act = 4) (h : WSt w0 pt ut gw x over (genB :: W) As w) (hw : WOk k x W) (hk : k ≤ 20000) (hC : Cub w0) (hod : RdB w0.heap o.dv o.d) (hob : RdB w0.heap o.bv o.b.d) (hcap : capOk o.dv) (hoh : o.b.h ≤ maxI)
    (hn1 : -maxI - 1 ≤ o.n) (hn2 : o.n ≤ maxI) (hdl : o.d.length ≤ 300) (hbl : o.b.d.length ≤ 300) :
    cal P f_law10_world_does [.pointer (some ⟨gw, 0, none⟩), .agg (Rdr.cells Q_flurrylaw10_Op o.t).toArray] w fun r w' => r = .bool true ∧ ∃ x' over' W', WSt w0 pt ut gw x' over' (genB :: W') As w' ∧ WOk (k + 300) x' W' := by
  refine s_law10_world_does fun R hR => ?_
  unfold c_law10_world_does
  obtain ⟨g, gi, gm, lv, iv, B, g2, lv2, B2, E, hB, hB2, hD, hD2, hs⟩ := h
  obtain ⟨hx, hl, hg, hW, hxb⟩ := id hw
  have hm : x.made = true := rt_made (Sep.pick hs [8] 9)
  have hBl := blksLen hB
  have hBl2 := blksLen hB2
  obtain ⟨yb, hyb, hyb1⟩ := lastOf hB
  obtain ⟨yr, hyr, hyr1⟩ := lastOf hB2
  obtain ⟨q, hq⟩ : ∃ q, q = lastB genB W := ⟨_, rfl⟩
  rw [← hq] at hyb1 hyr1
  have hqh : q.h = W.length := by
    have h1 := linked_h hl (lastB_get genB W)
    rw [← hq] at h1
    rw [h1, genB_h]
    omega
  have hqm : q.h ≤ maxI := by rw [hqh]; unfold maxI; omega
  have hqc : q.chk = 0 := by
    have h1 := List.mem_of_getElem? (lastB_get genB W)
    rw [← hq] at h1
    rcases List.mem_cons.1 h1 with h1 | h1
    · rw [h1]; exact genB_chk
    · exact (hg q h1).1
  refine bxQ hs fun g3 w1 hs1 => ?_
  obtain ⟨T, hT⟩ : ∃ T, T = blk g3 (Rdr.cells Q_flurrylaw10_Op o.t).toArray T_flurrylaw10_Op := ⟨_, rfl⟩
  have hTr : ∀ {u : World} {Cs : List Asn}, Sep w0 u (T :: Cs) → ∃ fr, u.heap[g3]? = some (.cells (Rdr.cells Q_flurrylaw10_Op o.t).toArray T_flurrylaw10_Op fr) := fun {u Cs} hu => by
    rw [hT] at hu
    exact ⟨_, hu.blk⟩
  rw [← hT] at hs1
  -- T 0 · chH 1-5 · tp 6 · rcA 7 · rows 8 · rt 9 · wA 10
  clear hs
  obtain ⟨frT, hcT⟩ := hTr hs1
  have ldDo : ∀ K, Go.Fx.ld1 (.pointer (some ⟨g3, 0, none⟩)) w1.heap K = K (.int .i64 o.act) := L_flurrylaw10_Op__Do hcT
  simp only [fx, Nat.reduceAdd, forall_const, ldDo]
  clear ldDo
  rw [cnd_bool]
  refine ⟨fun hdo => absurd hdo (by rw [hact]; decide), fun hdo => ?_⟩
  rw [cnd_bool]
  refine ⟨fun hdo => absurd hdo (by rw [hact]; decide), fun hdo => ?_⟩
  rw [cnd_bool]
  refine ⟨fun hdo => absurd hdo (by rw [hact]; decide), fun hdo => ?_⟩
  rw [cnd_bool]
  refine ⟨fun hdo => absurd hdo (by rw [hact]; decide), fun hdo => ?_⟩
  rw [cnd_bool]
  refine ⟨fun hdo => ?_, fun hdo => absurd hdo (by rw [hact]; decide)⟩
  clear hdo
  refine drH_PH' (S := fun u => ∃ A, Sep w0 u (wA gw pt (.pointer (some ⟨g, 0, none⟩)) ut (.pointer (some ⟨g2, 0, none⟩)) :: T :: A)) hs1 (fun u hu => ⟨_, Sep.pick hu [10, 0] 11⟩) fun w2 hs2 _ => ?_
  refine rdS_ld (v := pt) (fun u ⟨A, hu⟩ K hk => (L_flurrylaw10_world__t (Sep.blk hu) K).mpr hk) ?_
  refine rdS_ld (v := ut) (fun u ⟨A, hu⟩ K hk => (L_flurrylaw10_world__u (Sep.blk hu) K).mpr hk) ?_
  refine efS_i (cal_i (tpRestart_spec (Sep.pick hs2 [6, 0, 1, 2, 3, 4, 5, 7, 8, 9, 10] 11)) ?_)
  rintro _ w3 ⟨rfl, hs3⟩
  refine ⟨⟨_, Sep.pick hs3 [10, 1] 11⟩, ?_⟩
  refine efC_calT (cal_i (rRestart_spec (Sep.pick hs3 [9, 0, 1, 2, 3, 4, 5, 6, 7, 8, 10] 11)) ?_)
  rintro _ w4 ⟨rfl, hs4⟩
  -- rt 0 · tp 1 · T 2 · chH 3-7 · rcA 8 · rows 9 · wA 10
  simp only [fx, Nat.reduceAdd, forall_const, beq_self_eq_true]
  refine jn1_dup ?_
  refine efS_i (cal_i cFirst_spec ?_)
  rintro _ w5 ⟨v1, rfl, hs5⟩
  replace hs5 := hs4.join hs5
  refine ⟨trivial, ?_⟩
  obtain ⟨r1, r2⟩ := Tp.restart_off hm
  refine efS_i (cal_i (reopen (k := k) (v1 := v1) (x2 := x.restart.1) hC (Sep.pick hs5 [0, 1, 2, 4, 5, 6, 7, 8, 9, 10, 11, 3] 12) (Tp.restart_ok hx) r1 (by rw [r2]; omega)) ?_)
  rintro _ w6 ⟨rfl, _, hres⟩
  refine ⟨trivial, ?_⟩
  simp only [fx, Nat.reduceAdd, forall_const]
  exact hR _ _ ⟨rfl, hres⟩
theorem does_spoil {o : OA} {W : List Blk} {k : Nat} (hact : o.act = 6) (h : WSt w0 pt ut gw x over (genB :: W) As w) (hw : WOk k x W) (hk : k ≤ 20000) (hC : Cub w0) (hod : RdB w0.heap o.dv o.d) (hob : RdB w0.heap o.bv o.b.d) (hcap : capOk o.dv) (hoh : o.b.h ≤ maxI)
    (hn1 : -maxI - 1 ≤ o.n) (hn2 : o.n ≤ maxI) (hdl : o.d.length ≤ 300) (hbl : o.b.d.length ≤ 300) :
    cal P f_law10_world_does [.pointer (some ⟨gw, 0, none⟩), .agg (Rdr.cells Q_flurrylaw10_Op o.t).toArray] w fun r w' => r = .bool true ∧ ∃ x' over' W', WSt w0 pt ut gw x' over' (genB :: W') As w' ∧ WOk (k + 300) x' W' := by
  refine s_law10_world_does fun R hR => ?_
  unfold c_law10_world_does
  obtain ⟨g, gi, gm, lv, iv, B, g2, lv2, B2, E, hB, hB2, hD, hD2, hs⟩ := h
  obtain ⟨hx, hl, hg, hW, hxb⟩ := id hw
  have hm : x.made = true := rt_made (Sep.pick hs [8] 9)
  have hBl := blksLen hB
  have hBl2 := blksLen hB2
  obtain ⟨yb, hyb, hyb1⟩ := lastOf hB
  obtain ⟨yr, hyr, hyr1⟩ := lastOf hB2
  obtain ⟨q, hq⟩ : ∃ q, q = lastB genB W := ⟨_, rfl⟩
  rw [← hq] at hyb1 hyr1
  have hqh : q.h = W.length := by
    have h1 := linked_h hl (lastB_get genB W)
    rw [← hq] at h1
    rw [h1, genB_h]
    omega
  have hqm : q.h ≤ maxI := by rw [hqh]; unfold maxI; omega
  have hqc : q.chk = 0 := by
    have h1 := List.mem_of_getElem? (lastB_get genB W)
    rw [← hq] at h1
    rcases List.mem_cons.1 h1 with h1 | h1
    · rw [h1]; exact genB_chk
    · exact (hg q h1).1
  refine bxQ hs fun g3 w1 hs1 => ?_
  obtain ⟨T, hT⟩ : ∃ T, T = blk g3 (Rdr.cells Q_flurrylaw10_Op o.t).toArray T_flurrylaw10_Op := ⟨_, rfl⟩
  have hTr : ∀ {u : World} {Cs : List Asn}, Sep w0 u (T :: Cs) → ∃ fr, u.heap[g3]? = some (.cells (Rdr.cells Q_flurrylaw10_Op o.t).toArray T_flurrylaw10_Op fr) := fun {u Cs} hu => by
    rw [hT] at hu
    exact ⟨_, hu.blk⟩
  rw [← hT] at hs1
  -- T 0 · chH 1-5 · tp 6 · rcA 7 · rows 8 · rt 9 · wA 10
  clear hs
  obtain ⟨frT, hcT⟩ := hTr hs1
  have ldDo : ∀ K, Go.Fx.ld1 (.pointer (some ⟨g3, 0, none⟩)) w1.heap K = K (.int .i64 o.act) := L_flurrylaw10_Op__Do hcT
  simp only [fx, Nat.reduceAdd, forall_const, ldDo]
  clear ldDo
  rw [cnd_bool]
  refine ⟨fun hdo => absurd hdo (by rw [hact]; decide), fun hdo => ?_⟩
  rw [cnd_bool]
  refine ⟨fun hdo => absurd hdo (by rw [hact]; decide), fun hdo => ?_⟩
  rw [cnd_bool]
  refine ⟨fun hdo => absurd hdo (by rw [hact]; decide), fun hdo => ?_⟩
  rw [cnd_bool]
  refine ⟨fun hdo => absurd hdo (by rw [hact]; decide), fun hdo => ?_⟩
  rw [cnd_bool]
  refine ⟨fun hdo => absurd hdo (by rw [hact]; decide), fun hdo => ?_⟩
  rw [cnd_bool]
  refine ⟨fun hdo => ?_, fun hdo => absurd hdo (by rw [hact]; decide)⟩
  clear hdo
  obtain ⟨da, dc, hdv⟩ := hod.form
  have hxa := Tp.append_ok hx o.d
  have hal := Tp.append_len x o.d
  have hma : (x.append o.d).1.made = true := by
    unfold Tp.append
    repeat' split
    all_goals exact hm
  refine drH_PH' (S := fun u => ∃ A, Sep w0 u (wA gw pt (.pointer (some ⟨g, 0, none⟩)) ut (.pointer (some ⟨g2, 0, none⟩)) :: T :: A)) hs1 (fun u hu => ⟨_, Sep.pick hu [10, 0] 11⟩) fun w2 hs2 _ => ?_
  refine jn1_dup ?_
  simp only [fx, Nat.reduceAdd, forall_const]
  refine rdS_ld (v := pt) (fun u ⟨A, hu⟩ K hk => (L_flurrylaw10_world__t (Sep.blk hu) K).mpr hk) ?_
  refine rdS_ld (v := o.dv) (fun u ⟨A, hu⟩ K hk => by
    obtain ⟨fr, hc⟩ := hTr hu.tail
    exact (L_flurrylaw10_Op__Data hc K).mpr hk) ?_
  refine rdS_ld (v := ut) (fun u ⟨A, hu⟩ K hk => (L_flurrylaw10_world__u (Sep.blk hu) K).mpr hk) ?_
  refine rdS_ld (v := o.dv) (fun u ⟨A, hu⟩ K hk => by
    obtain ⟨fr, hc⟩ := hTr hu.tail
    exact (L_flurrylaw10_Op__Data hc K).mpr hk) ?_
  refine ⟨?_, ?_, trivial⟩
  · refine efS_i (bldS2 hs2 hdv fun a w3 hs3 => ⟨⟨_, Sep.pick hs3 [11, 1] 12⟩, ?_, ?_, trivial⟩)
    · -- a 0 · T 1 · chH 2-6 · tp 7 · rcA 8 · rows 9 · rt 10 · wA 11
      refine efS_i (cal_i (app2_spec (Sep.pick hs3 [7, 0, 1, 2, 3, 4, 5, 6, 8, 9, 10, 11] 12) hx hod hcap (by omega)) ?_)
      rintro _ w4 ⟨rfl, hs4⟩
      -- tp 0 · a 1 · T 2 · chH 3-7 · rcA 8 · rows 9 · rt 10 · wA 11
      refine ⟨⟨_, Sep.pick hs4 [11, 2] 12⟩, ?_⟩
      refine efS_i (bldS2 hs4 hdv fun a2 w5 hs5 => ⟨⟨_, Sep.pick hs5 [12, 3] 13⟩, ?_⟩)
      -- a2 0 · tp 1 · a 2 · T 3 · chH 4-8 · rcA 9 · rows 10 · rt 11 · wA 12
      refine efC_cut (cal_i (app2r_spec (Sep.pick hs5 [11, 0, 1, 3, 4, 5, 6, 7, 8, 9, 10, 12] 13) hx hod hcap (by omega)) ?_)
      rintro _ w6 ⟨rfl, hs6⟩
      -- rt 0 · a2 1 · tp 2 · T 3 · chH 4-8 · rcA 9 · rows 10 · wA 11
      have hs7 := Sep.pick hs6 [0, 2, 4, 5, 6, 7, 8, 9, 10, 11, 3] 12
      clear hs6 hs5
      -- rt 0 · tp 1 · chH 2-6 · rcA 7 · rows 8 · wA 9 · T 10
      exact spoil_tail hC hxa hma (by omega) hs7 fun w' hres => hR _ _ ⟨rfl, hres⟩
    · refine efS_i (bldS2 hs3 hdv fun a2 w4 hs4 => ⟨⟨_, Sep.pick hs4 [12, 2] 13⟩, ?_⟩)
      -- a2 0 · a 1 · T 2 · chH 3-7 · tp 8 · rcA 9 · rows 10 · rt 11 · wA 12
      refine efS_i (cal_i (app2_spec (Sep.pick hs4 [8, 1, 0, 2, 3, 4, 5, 6, 7, 9, 10, 11, 12] 13) hx hod hcap (by omega)) ?_)
      rintro _ w5 ⟨rfl, hs5⟩
      -- tp 0 · a 1 · a2 2 · T 3 · chH 4-8 · rcA 9 · rows 10 · rt 11 · wA 12
      refine ⟨⟨_, Sep.pick hs5 [12, 3] 13⟩, ?_⟩
      refine efC_cut (cal_i (app2r_spec (Sep.pick hs5 [11, 2, 0, 3, 4, 5, 6, 7, 8, 9, 10, 12] 13) hx hod hcap (by omega)) ?_)
      rintro _ w6 ⟨rfl, hs6⟩
      -- rt 0 · a2 1 · tp 2 · T 3 · chH 4-8 · rcA 9 · rows 10 · wA 11
      have hs7 := Sep.pick hs6 [0, 2, 4, 5, 6, 7, 8, 9, 10, 11, 3] 12
      clear hs6 hs5
      -- rt 0 · tp 1 · chH 2-6 · rcA 7 · rows 8 · wA 9 · T 10
      exact spoil_tail hC hxa hma (by omega) hs7 fun w' hres => hR _ _ ⟨rfl, hres⟩
  · refine efS_i (bldS2 hs2 hdv fun a2 w3 hs3 => ⟨⟨_, Sep.pick hs3 [11, 1] 12⟩, ?_⟩)
    refine efS_i (bldS2 hs3 hdv fun a w4 hs4 => ⟨⟨_, Sep.pick hs4 [12, 2] 13⟩, ?_⟩)
    -- a 0 · a2 1 · T 2 · chH 3-7 · tp 8 · rcA 9 · rows 10 · rt 11 · wA 12
    refine efS_i (cal_i (app2_spec (Sep.pick hs4 [8, 0, 1, 2, 3, 4, 5, 6, 7, 9, 10, 11, 12] 13) hx hod hcap (by omega)) ?_)
    rintro _ w5 ⟨rfl, hs5⟩
    -- tp 0 · a 1 · a2 2 · T 3 · chH 4-8 · rcA 9 · rows 10 · rt 11 · wA 12
    refine ⟨⟨_, Sep.pick hs5 [12, 3] 13⟩, ?_⟩
    refine efC_cut (cal_i (app2r_spec (Sep.pick hs5 [11, 2, 0, 3, 4, 5, 6, 7, 8, 9, 10, 12] 13) hx hod hcap (by omega)) ?_)
    rintro _ w6 ⟨rfl, hs6⟩
    -- rt 0 · a2 1 · tp 2 · T 3 · chH 4-8 · rcA 9 · rows 10 · wA 11
    have hs7 := Sep.pick hs6 [0, 2, 4, 5, 6, 7, 8, 9, 10, 11, 3] 12
    clear hs6 hs5
    -- rt 0 · tp 1 · chH 2-6 · rcA 7 · rows 8 · wA 9 · T 10
    exact spoil_tail hC hxa hma (by omega) hs7 fun w' hres => hR _ _ ⟨rfl, hres⟩
theorem does_ask {o : OA} {W : List Blk} {k : Nat} (hact : o.act ≠ 0 ∧ o.act ≠ 1 ∧ o.act ≠ 2 ∧ o.act ≠ 3 ∧ o.act ≠ 4 ∧ o.act ≠ 6) (h : WSt w0 pt ut gw x over (genB :: W) As w) (hw : WOk k x W) (hk : k ≤ 20000) (hC : Cub w0) (hod : RdB w0.heap o.dv o.d) (hob : RdB w0.heap o.bv o.b.d) (hcap : capOk o.dv) (hoh : o.b.h ≤ maxI)
    (hn1 : -maxI - 1 ≤ o.n) (hn2 : o.n ≤ maxI) (hdl : o.d.length ≤ 300) (hbl : o.b.d.length ≤ 300) :
    cal P f_law10_world_does [.pointer (some ⟨gw, 0, none⟩), .agg (Rdr.cells Q_flurrylaw10_Op o.t).toArray] w fun r w' => r = .bool true ∧ ∃ x' over' W', WSt w0 pt ut gw x' over' (genB :: W') As w' ∧ WOk (k + 300) x' W' := by
  refine s_law10_world_does fun R hR => ?_
  unfold c_law10_world_does
  obtain ⟨g, gi, gm, lv, iv, B, g2, lv2, B2, E, hB, hB2, hD, hD2, hs⟩ := h
  obtain ⟨hx, hl, hg, hW, hxb⟩ := id hw
  have hm : x.made = true := rt_made (Sep.pick hs [8] 9)
  have hBl := blksLen hB
  have hBl2 := blksLen hB2
  obtain ⟨yb, hyb, hyb1⟩ := lastOf hB
  obtain ⟨yr, hyr, hyr1⟩ := lastOf hB2
  obtain ⟨q, hq⟩ : ∃ q, q = lastB genB W := ⟨_, rfl⟩
  rw [← hq] at hyb1 hyr1
  have hqh : q.h = W.length := by
    have h1 := linked_h hl (lastB_get genB W)
    rw [← hq] at h1
    rw [h1, genB_h]
    omega
  have hqm : q.h ≤ maxI := by rw [hqh]; unfold maxI; omega
  have hqc : q.chk = 0 := by
    have h1 := List.mem_of_getElem? (lastB_get genB W)
    rw [← hq] at h1
    rcases List.mem_cons.1 h1 with h1 | h1
    · rw [h1]; exact genB_chk
    · exact (hg q h1).1
  refine bxQ hs fun g3 w1 hs1 => ?_
  obtain ⟨T, hT⟩ : ∃ T, T = blk g3 (Rdr.cells Q_flurrylaw10_Op o.t).toArray T_flurrylaw10_Op := ⟨_, rfl⟩
  have hTr : ∀ {u : World} {Cs : List Asn}, Sep w0 u (T :: Cs) → ∃ fr, u.heap[g3]? = some (.cells (Rdr.cells Q_flurrylaw10_Op o.t).toArray T_flurrylaw10_Op fr) := fun {u Cs} hu => by
    rw [hT] at hu
    exact ⟨_, hu.blk⟩
  rw [← hT] at hs1
  -- T 0 · chH 1-5 · tp 6 · rcA 7 · rows 8 · rt 9 · wA 10
  clear hs
  obtain ⟨frT, hcT⟩ := hTr hs1
  have ldDo : ∀ K, Go.Fx.ld1 (.pointer (some ⟨g3, 0, none⟩)) w1.heap K = K (.int .i64 o.act) := L_flurrylaw10_Op__Do hcT
  simp only [fx, Nat.reduceAdd, forall_const, ldDo]
  clear ldDo
  rw [cnd_bool]
  refine ⟨fun hdo => absurd hdo (by simp only [beq_iff_eq]; omega), fun hdo => ?_⟩
  rw [cnd_bool]
  refine ⟨fun hdo => absurd hdo (by simp only [beq_iff_eq]; omega), fun hdo => ?_⟩
  rw [cnd_bool]
  refine ⟨fun hdo => absurd hdo (by simp only [beq_iff_eq]; omega), fun hdo => ?_⟩
  rw [cnd_bool]
  refine ⟨fun hdo => absurd hdo (by simp only [beq_iff_eq]; omega), fun hdo => ?_⟩
  rw [cnd_bool]
  refine ⟨fun hdo => absurd hdo (by simp only [beq_iff_eq]; omega), fun hdo => ?_⟩
  rw [cnd_bool]
  refine ⟨fun hdo => absurd hdo (by simp only [beq_iff_eq]; omega), fun hdo => ?_⟩
  clear hdo
  obtain ⟨F, hF⟩ : ∃ F, F = T :: (chH g gi gm lv iv pt over B ++ (tp pt x :: rcA g2 lv2 ut over :: rows Q_api_Block lv2 (B2.map BV.t) :: rt ut x :: wA gw pt (.pointer (some ⟨g, 0, none⟩)) ut (.pointer (some ⟨g2, 0, none⟩)) :: (As ++ E))) := ⟨_, rfl⟩
  replace hs1 : Sep w0 w1 F := by rw [hF]; exact hs1
  have rdF : ∀ {u : World} {Bs : List Asn}, Sep w0 u (Bs ++ F) → u.heap[gw]? = some (.cells (Rdr.cells Q_flurrylaw10_world (pt, .pointer (some ⟨g, 0, none⟩), ut, .pointer (some ⟨g2, 0, none⟩))).toArray T_flurrylaw10_world (0, 0)) ∧ RcR u.heap g2 lv2 ut over B2 ∧ (∃ fr, u.heap[g3]? = some (.cells (Rdr.cells Q_flurrylaw10_Op o.t).toArray T_flurrylaw10_Op fr)) ∧ ChR u.heap g gi lv iv (.map (some gm)) pt over B ∧ MpR u.heap gm (atF (blks B)) := fun {u Bs} hu => by
    have h1 := hu.dropL
    rw [hF] at h1
    exact ⟨Sep.blk (Sep.pick h1 [10] 11), rcA_rd (Sep.pick h1 [7, 8] 9) (hD2.sub fun A hA => List.mem_cons_of_mem _ (List.mem_cons_of_mem _ (List.mem_append_right _ hA))), hTr h1,
      chH_rd h1.tail (hD.sub fun A hA => List.mem_cons_of_mem _ (List.mem_cons_of_mem _ (List.mem_cons_of_mem _ (List.mem_cons_of_mem _ (List.mem_cons_of_mem _ (List.mem_append_right _ hA)))))), chH_mp h1.tail⟩
  refine drH_S hs1 fun w2 hs2 _ => ?_
  refine rdS_ld (v := .pointer (some ⟨g, 0, none⟩)) (fun u hu K hk => (L_flurrylaw10_world__c (rdF (Bs := []) hu).1 K).mpr hk) ?_
  refine rdS_ld (v := .pointer (some ⟨g2, 0, none⟩)) (fun u hu K hk => (L_flurrylaw10_world__w (rdF (Bs := []) hu).1 K).mpr hk) ?_
  refine ⟨.agg (Rdr.cells Q_flurrylaw10_Op o.t).toArray, fun u hu => by
    obtain ⟨fr, hc⟩ := (rdF (Bs := []) hu).2.2.1
    exact (L_flurrylaw10_Op hc _).mpr rfl, ?_⟩
  obtain ⟨_, hq2, _, hr2, hm2⟩ := rdF (Bs := []) hs2
  have hgB : goodB (blks B) := by
    rw [hB]
    intro c hc
    rcases List.mem_cons.1 hc with rfl | hc
    · exact ⟨genB_chk, by decide⟩
    · exact hg c hc
  refine efC_cal (cal_i (asks10_spec (o := o) hr2 hm2 hq2 (by rw [hB, hB2]) hgB (by omega) (by omega) (hs2.rdB hod) (hs2.rdB hob) hoh) ?_)
  rintro _ w3 ⟨rfl, hf3⟩
  have hs3 := hs2.old hf3
  rw [hF] at hs3
  exact hR _ _ ⟨rfl, x, over, W, ⟨g, gi, gm, lv, iv, B, g2, lv2, B2, E, hB, hB2, hD, hD2, hs3.tail⟩, hw.same hx rfl⟩
theorem does_spec {o : OA} {W : List Blk} {k : Nat} (h : WSt w0 pt ut gw x over (genB :: W) As w) (hw : WOk k x W) (hk : k ≤ 20000) (hC : Cub w0) (hod : RdB w0.heap o.dv o.d) (hob : RdB w0.heap o.bv o.b.d) (hcap : capOk o.dv) (hoh : o.b.h ≤ maxI)
    (hn1 : -maxI - 1 ≤ o.n) (hn2 : o.n ≤ maxI) (hdl : o.d.length ≤ 300) (hbl : o.b.d.length ≤ 300) :
    cal P f_law10_world_does [.pointer (some ⟨gw, 0, none⟩), .agg (Rdr.cells Q_flurrylaw10_Op o.t).toArray] w fun r w' => r = .bool true ∧ ∃ x' over' W', WSt w0 pt ut gw x' over' (genB :: W') As w' ∧ WOk (k + 300) x' W' := by
  by_cases h0 : o.act = 0
  · exact does_child h0 h hw hk hC hod hob hcap hoh hn1 hn2 hdl hbl
  by_cases h1 : o.act = 1
  · exact does_other h1 h hw hk hC hod hob hcap hoh hn1 hn2 hdl hbl
  by_cases h2 : o.act = 2
  · exact does_arm h2 h hw hk hC hod hob hcap hoh hn1 hn2 hdl hbl
  by_cases h3 : o.act = 3
  · exact does_crash h3 h hw hk hC hod hob hcap hoh hn1 hn2 hdl hbl
  by_cases h4 : o.act = 4
  · exact does_open h4 h hw hk hC hod hob hcap hoh hn1 hn2 hdl hbl
  by_cases h6 : o.act = 6
  · exact does_spoil h6 h hw hk hC hod hob hcap hoh hn1 hn2 hdl hbl
  exact does_ask ⟨h0, h1, h2, h3, h4, h6⟩ h hw hk hC hod hob hcap hoh hn1 hn2 hdl hbl
end
end Go.Fx
set_option linter.unusedVariables false
set_option linter.unusedSimpArgs false
namespace Go.Fx
abbrev WL (gu : Nat) (s : Value) (x : Tp) (g gi gm : Nat) (lv iv pt : Value) (over : Bool) (B : List BV) (g2 : Nat) (lv2 ut : Value) (B2 : List BV) (gw : Nat) (Q : List Asn) : List Asn :=
  blk gu #[s, .bool x.off, .int .i64 x.armed] T_flurryref08_Tape :: ownB s x.b :: (chH g gi gm lv iv pt over B ++ (tp pt x :: rcA g2 lv2 ut over :: rows Q_api_Block lv2 (B2.map BV.t) :: wA gw pt (.pointer (some ⟨g, 0, none⟩)) ut (.pointer (some ⟨g2, 0, none⟩)) :: Q))
section
variable {w0 w : World} {Q : List Asn} {g gi gm gw g2 gu : Nat} {lv iv pt lv2 s : Value} {over : Bool} {B B2 : List BV} {x : Tp}
theorem wl_open (hs : Sep w0 w (chH g gi gm lv iv pt over B ++ (tp pt x :: rcA g2 lv2 (.pointer (some ⟨gu, 0, none⟩)) over :: rows Q_api_Block lv2 (B2.map BV.t) :: rt (.pointer (some ⟨gu, 0, none⟩)) x :: wA gw pt (.pointer (some ⟨g, 0, none⟩)) (.pointer (some ⟨gu, 0, none⟩)) (.pointer (some ⟨g2, 0, none⟩)) :: Q))) :
    ∃ s, x.made = true ∧ Sep w0 w (WL gu s x g gi gm lv iv pt over B g2 lv2 (.pointer (some ⟨gu, 0, none⟩)) B2 gw Q) := by
  have h1 := Sep.pick hs [8, 0, 1, 2, 3, 4, 5, 6, 7, 9] 10
  have h2 := rt_open.mp h1
  obtain ⟨gu', s, ⟨he, hm⟩, h2⟩ := h2
  cases he
  exact ⟨s, hm, h2⟩
theorem wl_close (hm : x.made = true) (hs : Sep w0 w (WL gu s x g gi gm lv iv pt over B g2 lv2 (.pointer (some ⟨gu, 0, none⟩)) B2 gw Q)) :
    Sep w0 w (chH g gi gm lv iv pt over B ++ (tp pt x :: rcA g2 lv2 (.pointer (some ⟨gu, 0, none⟩)) over :: rows Q_api_Block lv2 (B2.map BV.t) :: rt (.pointer (some ⟨gu, 0, none⟩)) x :: wA gw pt (.pointer (some ⟨g, 0, none⟩)) (.pointer (some ⟨gu, 0, none⟩)) (.pointer (some ⟨g2, 0, none⟩)) :: Q)) :=
  Sep.pick (rt_i hm hs) [1, 2, 3, 4, 5, 6, 7, 8, 0, 9] 10
structure WlR (h : Heap) (gu : Nat) (s : Value) (x : Tp) (g gi gm : Nat) (lv iv pt : Value) (over : Bool) (B : List BV) (g2 : Nat) (lv2 ut : Value) (B2 : List BV) (gw : Nat) : Prop where
  tape : h[gu]? = some (.cells #[s, .bool x.off, .int .i64 x.armed] T_flurryref08_Tape (0, 0))
  rs : RdB h s x.b
  ch : ChR h g gi lv iv (.map (some gm)) pt over B
  mp : MpR h gm (atF (blks B))
  rc : RcR h g2 lv2 ut over B2
  wd : h[gw]? = some (.cells (Rdr.cells Q_flurrylaw10_world (pt, .pointer (some ⟨g, 0, none⟩), ut, .pointer (some ⟨g2, 0, none⟩))).toArray T_flurrylaw10_world (0, 0))
theorem wl_rd {ut : Value} (hs : Sep w0 w (WL gu s x g gi gm lv iv pt over B g2 lv2 ut B2 gw Q)) (hD : DatB B Q) (hD2 : DatB B2 Q) : WlR w.heap gu s x g gi gm lv iv pt over B g2 lv2 ut B2 gw :=
  ⟨Sep.blk hs, Sep.rd hs.tail, chH_rd hs.tail.tail (hD.sub fun A hA => List.mem_cons_of_mem _ (List.mem_cons_of_mem _ (List.mem_cons_of_mem _ (List.mem_cons_of_mem _ hA)))), chH_mp hs.tail.tail,
    rcA_rd (Sep.pick hs [8, 9] 10) (hD2.sub fun A hA => List.mem_cons_of_mem _ hA), Sep.blk (Sep.pick hs [10] 11)⟩
end
end Go.Fx
set_option linter.unusedVariables false
set_option linter.unusedSimpArgs false
namespace Go.Fx
section
variable {w : World}
theorem wChainDoes {v v2 : Value} {l : List UInt8} {ops : List OA} (hb : RdB w.heap v l) (hr : ORows w.heap v2 ops) (hcap : capOk v2) (h63 : ops.length ≤ 9223372036854775807) (hok : OOk ops) (hC : Cub w) :
    cal P f_law10_ChainDoes [v, v2] w fun r w' => r = .bool true ∧ Fr [] w w' := by
  refine s_law10_ChainDoes fun R hR => ?_
  unfold c_law10_ChainDoes
  refine cal_i (few10_spec hr hcap h63 hok) ?_
  rintro _ w1 ⟨hf1, y, t, rfl, hfew⟩
  simp only [fx, Nat.reduceAdd, forall_const]
  refine cal_i (begun10_spec (hC.fr hf1)) ?_
  rintro _ w2 ⟨rfl, hf2⟩
  have hs2 := ((Sep.start w).old hf1).old hf2
  simp only [fx, Nat.reduceAdd, forall_const, hb.len]
  rw [cnd_bool]
  refine ⟨fun h => ?_, fun h => ?_⟩
  · refine cal_i (begun10_spec (hC.fr hs2.fr0)) ?_
    rintro _ w3 ⟨rfl, hf3⟩
    exact hR _ _ ⟨rfl, (hs2.old hf3).fr0⟩
  obtain ⟨rfl, hl5⟩ : t = true ∧ l.length ≤ 5000 := by
    simp only [Bool.or_eq_false_iff, Bool.not_eq_false', decide_eq_false_iff_not] at h
    exact ⟨h.1, by omega⟩
  obtain ⟨hrt, hsm⟩ := hfew rfl
  clear hfew h
  obtain ⟨l', hl'⟩ : ∃ l', l' = ops.take 30 := ⟨_, rfl⟩
  rw [← hl'] at hrt hsm
  have hok' : OOk l' := fun x hx => hok x (by rw [hl'] at hx; exact List.mem_of_mem_take hx)
  have hn30 : l'.length ≤ 30 := by rw [hl', List.length_take]; omega
  have hx0 : (⟨l, -1, false, true⟩ : Tp).Ok := ⟨by simp only; omega, by simp, by simp⟩
  refine cal_i (tpOf_spec (hs2.rdB hb)) ?_
  rintro _ w3 (⟨h6, _⟩ | ⟨_, pt, rfl, hs3⟩)
  · omega
  replace hs3 := hs2.join hs3
  simp only [fx, Nat.reduceAdd, forall_const]
  refine cal_i (rOf_spec (hs3.rdB hb)) ?_
  rintro _ w4 (⟨h6, _⟩ | ⟨_, ut, rfl, hs4⟩)
  · omega
  replace hs4 := hs3.join hs4
  obtain ⟨gt, rfl⟩ := tp_form hs4.p1
  obtain ⟨gu, rfl⟩ := rt_form hs4
  simp only [fx, Nat.reduceAdd, forall_const]
  rw [B_flurrylaw10_world_0_2 rfl rfl]
  refine bxQ hs4 fun gw w5 hs5 => ?_
  simp only [fx, Nat.reduceAdd, forall_const, show ((0 : Int) != 0) = false from rfl, Option.isNone_some]
  refine jn1_dup ?_
  refine cal_i cFirst_spec ?_
  rintro _ w6 ⟨v1, rfl, hs6⟩
  replace hs6 := hs5.join hs6
  refine cal_i (opens_spec (b := genB) (v := v1) (As := [rdA v1 [103]]) (Sep.pick hs6 [3, 2, 1, 0] 4) hx0 hC (fun z hz => Sep.rda hz) (by decide)) ?_
  rintro _ w7 ⟨rfl, ⟨hbad, _⟩ | ⟨_, g, gi, gm, lv, iv, B, g2, lv2, B2, S, E, hS, hB, hB2, hD, hD2, hs7⟩⟩
  · exact absurd hbad (not_Bad rfl)
  simp only [fx, Nat.reduceAdd, forall_const]
  refine jn1_dup ?_
  have hcw := Sep.blk (Sep.pick hs7 [9] 10)
  simp only [fx, Nat.reduceAdd, forall_const, L_flurrylaw10_world hcw, L_flurrylaw10_world__t hcw, L_flurrylaw10_world__c hcw, L_flurrylaw10_world__u hcw, L_flurrylaw10_world__w hcw, Option.isNone_some]
  rw [hrt.len]
  obtain ⟨A0, hA0⟩ : ∃ A0 : List Asn, A0 = [rdA v1 [103]] := ⟨_, rfl⟩
  rw [← hA0] at hs7
  refine ⟨fun a z => ∃ i : Nat, a = .int .i64 i ∧ i ≤ l'.length ∧ ∃ x over W, WSt w (.pointer (some ⟨gt, 0, none⟩)) (.pointer (some ⟨gu, 0, none⟩)) gw x over (genB :: W) A0 z ∧ WOk (5000 + 300 * i) x W, fun a _ => (l'.length - RowKit.intOf a).toNat,
    ⟨0, rfl, by omega, _, false, linkT genB S, ⟨g, gi, gm, lv, iv, B, g2, lv2, B2, E, hB, hB2, hD, hD2, hs7⟩, WOk.opn hx0 hl5 hS⟩, ?_⟩
  clear hs7 hcw hs6 hs5 hs4 hs3 hD hD2 hB hB2 hS
  rintro _ z ⟨i, rfl, hi, x, over, W, ⟨g, gi, gm, lv, iv, B, g2, lv2, B2, E, hB, hB2, hD, hD2, hz⟩, hwo⟩ -
  simp only [fx, Nat.reduceAdd, forall_const]
  rw [cnd_bool]
  refine ⟨fun h => ?_, fun h => hR _ _ ⟨rfl, hz.fr0⟩⟩
  have hlt : i < l'.length := by simp at h; omega
  obtain ⟨o, ho⟩ : ∃ o, l'[i]? = some o := ⟨_, List.getElem?_eq_getElem hlt⟩
  have hom := List.mem_of_getElem? ho
  have ho' : (l'.map OA.t)[i]? = some o.t := by rw [List.getElem?_map, ho]; rfl
  obtain ⟨oh1, oh2, oh3, oh4, oh5, oh6⟩ := hok' o hom
  obtain ⟨os1, os2⟩ := hsm o hom
  obtain ⟨od1, od2⟩ := hrt.d o hom
  change ixs 37 _ _ _
  refine Rows'.ldN (q := Q_flurrylaw10_Op) (by decide) (hrt.rw.fr hz.fr0) ho' .i64 ?_
  refine alloc_s hz (A_flurrylaw10_Op z) fun g13 z1 hz1 => ?_
  have hd1 := (hrt.fr hz1.fr0).d o hom
  refine St_flurrylaw10_Op (b := o.t) hz1 (one_flurrylaw10_Op hd1.1.one hd1.2.one) fun z2 hz2 => ?_
  refine drH_S hz2 fun z3 hz3 _ => ?_
  refine ⟨.agg (Rdr.cells Q_flurrylaw10_Op o.t).toArray, fun u hu => (L_flurrylaw10_Op (Sep.blk hu) _).mpr rfl, ?_⟩
  refine efC_cut (cal_i (does_spec (k := 5000 + 300 * i) ⟨g, gi, gm, lv, iv, B, g2, lv2, B2, E, hB, hB2, hD, hD2, hz3.tail⟩ hwo (by omega) hC od1 od2 oh6 oh1 oh2 oh3 os1 os2) ?_)
  clear hz hz1 hz2 hz3 hD hD2 hB hB2 hwo
  rintro _ z4 ⟨rfl, x, over, W, ⟨g, gi, gm, lv, iv, B, g2, lv2, B2, E, hB, hB2, hD, hD2, hz4⟩, hwo⟩
  obtain ⟨s, hm, hz5⟩ := wl_open hz4
  obtain ⟨LL, hLL⟩ : ∃ LL, LL = WL gu s x g gi gm lv iv (.pointer (some ⟨gt, 0, none⟩)) over B g2 lv2 (.pointer (some ⟨gu, 0, none⟩)) B2 gw (A0 ++ E) := ⟨_, rfl⟩
  rw [← hLL] at hz5
  have rd : ∀ {u : World} {Bs : List Asn}, Sep w u (Bs ++ LL) → WlR u.heap gu s x g gi gm lv iv (.pointer (some ⟨gt, 0, none⟩)) over B g2 lv2 (.pointer (some ⟨gu, 0, none⟩)) B2 gw := fun {u Bs} hu => by
    have h1 := hu.dropL
    rw [hLL] at h1
    exact wl_rd h1 (hD.sub fun A hA => List.mem_append_right _ hA) (hD2.sub fun A hA => List.mem_append_right _ hA)
  have tpz : ∀ {u : World}, Sep w u LL → ∃ Cs, Sep w u (tp (.pointer (some ⟨gt, 0, none⟩)) x :: Cs) := fun {u} hu => by
    rw [hLL] at hu
    exact ⟨_, Sep.pick hu [7] 8⟩
  obtain ⟨hx, hl, hg, hW, hxb⟩ := id hwo
  have hBl := blksLen hB
  have hgB : goodB (blks B) := by
    rw [hB]
    intro c hc
    rcases List.mem_cons.1 hc with rfl | hc
    · exact ⟨genB_chk, by decide⟩
    · exact hg c hc
  refine ⟨fun u => Sep w u LL, hz5, ?_⟩
  simp only [fx, Nat.reduceAdd, forall_const]
  refine jn1_dup ?_
  refine rdS_ld (v := .pointer (some ⟨g, 0, none⟩)) (fun u hu K hk => (L_flurrylaw10_world__c (rd (Bs := []) hu).wd K).mpr hk) ?_
  simp only [fx, Nat.reduceAdd, forall_const]
  refine rdS_ld (v := .pointer (some ⟨g2, 0, none⟩)) (fun u hu K hk => (L_flurrylaw10_world__w (rd (Bs := []) hu).wd K).mpr hk) ?_
  have r5 := rd (Bs := []) hz5
  refine efS_i (cal_i (alike10_spec r5.ch r5.mp r5.rc (by rw [hB, hB2]) hgB (by omega) (by omega)) ?_)
  rintro _ z6 ⟨rfl, hf6⟩
  have hz6 := hz5.old hf6
  refine ⟨hz6, ?_⟩
  simp only [fx, Nat.reduceAdd, forall_const]
  refine jn1_dup ?_
  refine rdS_ld (v := .pointer (some ⟨gt, 0, none⟩)) (fun u hu K hk => (L_flurrylaw10_world__t (rd (Bs := []) hu).wd K).mpr hk) ?_
  simp only [fx, Nat.reduceAdd, forall_const]
  refine rdS_ld (v := .pointer (some ⟨gu, 0, none⟩)) (fun u hu K hk => (L_flurrylaw10_world__u (rd (Bs := []) hu).wd K).mpr hk) ?_
  simp only [fx, Nat.reduceAdd, forall_const]
  refine rdS_ld (v := s) (fun u hu K hk => by rw [ld1_eq (rd (Bs := []) hu).tape]; simpa using hk) ?_
  obtain ⟨C6, hC6⟩ := tpz hz6
  refine efS_i (cal_i (tpBytes_spec hC6 hx hm) ?_)
  rintro bs z7 hz7
  replace hz7 := hz6.join hz7
  refine ⟨hz7.tail, ?_⟩
  refine efS_i (cal_i (tpEqual_spec (Sep.rd hz7) (rd (Bs := [_]) hz7).rs) ?_)
  rintro _ _ ⟨rfl, rfl⟩
  refine ⟨hz7.tail, ?_⟩
  simp only [fx, Nat.reduceAdd, forall_const, beq_self_eq_true]
  refine jn1_dup ?_
  refine rdS_ld (v := .pointer (some ⟨gt, 0, none⟩)) (fun u hu K hk => (L_flurrylaw10_world__t (rd (Bs := []) hu).wd K).mpr hk) ?_
  simp only [fx, Nat.reduceAdd, forall_const]
  refine rdS_ld (v := .pointer (some ⟨gu, 0, none⟩)) (fun u hu K hk => (L_flurrylaw10_world__u (rd (Bs := []) hu).wd K).mpr hk) ?_
  simp only [fx, Nat.reduceAdd, forall_const]
  refine rdS_ld (v := .bool x.off) (fun u hu K hk => by rw [ld1_eq (rd (Bs := []) hu).tape]; simpa using hk) ?_
  obtain ⟨C7, hC7⟩ := tpz hz7.tail
  refine efS_i (cal_i (tpOn_spec hC7) ?_)
  rintro _ _ ⟨rfl, rfl⟩
  refine ⟨hz7.tail, ?_⟩
  have eo : ((x.made && !x.off) == x.off) = false := by
    rw [hm]
    cases x.off <;> rfl
  refine ⟨.bool false, fun u _ => by rw [eqB, eo], ?_⟩
  simp only [fx, Nat.reduceAdd, forall_const]
  rw [wi64 (by omega) (by omega)]
  have hz8 := hz7.tail
  rw [hLL] at hz8
  refine ⟨⟨i + 1, by simp, by omega, x, over, W, ⟨g, gi, gm, lv, iv, B, g2, lv2, B2, E, hB, hB2, hD, hD2, wl_close hm hz8⟩, ?_⟩, by simp [RowKit.intOf] <;> omega⟩
  rw [show 5000 + 300 * (i + 1) = 5000 + 300 * i + 300 by omega]
  exact hwo
theorem lChainDoes {s1 : Sl UInt8} {s2 : Sl (Int × Int × Sl UInt8 × (Vec 32 × Int × Sl UInt8))} (hc : Cub w) (hs1 : rBytes.ok w.heap s1) (hs2 : (rSl R_flurrylaw10_Op).ok w.heap s2) : cal P f_law10_ChainDoes [s1.v, s2.v] w fun r w' => r = .bool true ∧ Fr [] w w' := by
  obtain ⟨l, hr, hcap, h63, hok⟩ := ops_arg hs2
  exact wChainDoes hs1.1 hr hcap h63 hok hc
end
end Go.Fx
namespace Go.Fx
end Go.Fx
namespace Go.Proofs.YtcnpediagjjnbaaGreatDoor
open Go.ChangeShapes Go.WideShapes Go.ChangeAt Go.RowKit
theorem own : ownKnob Tryz.prog.godebug = none := by kernel_rfl
theorem laidOut : laidOutB Tryz.prog = true := by kernel_rfl
end Go.Proofs.YtcnpediagjjnbaaGreatDoor
namespace Go.Proofs.YtcnpediagjjnbaaGreatDoor
open Go.ChangeShapes Go.WideShapes Go.ChangeAt Go.RowKit
abbrev laidL : List (String × DataW Unit) := [("flurry/sha.cubes", Rows.laid_flurry_sha_cubes)]
theorem gCubes : Tryz.prog.globalNamed "flurry/sha.cubes" = some 0 := by kernel_rfl
theorem tCubes : (Tryz.prog.globals[0]?).map (·.type) = some Go.Fx.T_a64_uint32 := by kernel_rfl
theorem door_met (os : Os) (args : Array Value) : laidMetH Tryz.prog laidL ((World.doorLaid Tryz.prog 400 os).forCall (fun _ _ => 0) ⟨#[], args, []⟩).memory :=
  laidMetH_of_parts3 (fuel := 8) (laidMet_of_run' 8 (by kernel_rfl) (by kernel_rfl)) (by kernel_rfl) (by kernel_rfl)
theorem cub_of_laid {W : World} (h : laidMetH Tryz.prog laidL W) : Go.Fx.Cub W := by
  rw [MakeChecks.laidMetH_plain _ _ _ (by kernel_rfl)] at h
  obtain ⟨ps, ⟨g0, t0, cs0, f0, p0, q0, hg0, ht0, hv0, hd0, _, _⟩, _, _⟩ := h
  obtain rfl := Option.some.inj (gCubes.symm.trans hg0)
  obtain rfl := Option.some.inj (tCubes.symm.trans ht0)
  have hcs : cs0.toList = Go.Fx.wvs Go.Fx.cubesL := by
    obtain ⟨xs, m1, _, hx1, hlen, hn3, hel⟩ := DataW.trod_array Go.Fx.U_a64_uint32 hd0
    have c1 : Tryz.prog.cellsOf Go.Fx.T_uint32 = 1 := by kernel_rfl
    have c64 : Tryz.prog.cellsOf Go.Fx.T_a64_uint32 = 64 := by kernel_rfl
    rw [c64] at hlen
    rw [c1] at hel
    have hd : (Rows.laid_flurry_sha_cubes : DataW Unit) = .agg (Go.Fx.cubesL.map fun x => .lit (.int .u32 x.toNat)) := by kernel_rfl
    rw [hd] at hx1
    simp only [Prod.mk.injEq, DataW.agg.injEq] at hx1
    apply List.ext_getElem?
    intro i
    by_cases hi : i < 64
    · have h1 := hel i hi
      have hx : xs[i]? = some (xs[i]'(by omega)) := List.getElem?_eq_getElem _
      rw [hx] at h1
      generalize xs[i]'(by omega) = y at *
      obtain ⟨k, e1, e2, _⟩ := DataW.trod_int Go.Fx.U_uint32 h1
      have h2 := congrArg (·[i]?) hx1.1
      simp only [List.getElem?_map, hx, e2, Option.map_some] at h2
      have h3 : cs0.toList[i]? = some (.int .u32 k) := by
        have : ((cs0.toList.drop (i * 1)).take 1)[0]? = some (.int .u32 k) := by rw [e1]; rfl
        rw [List.getElem?_take_of_lt (by omega), List.getElem?_drop, Nat.mul_one, Nat.add_zero] at this
        exact this
      rw [h3, Go.Fx.wvs, List.getElem?_map]
      cases hc : Go.Fx.cubesL[i]? with
      | none => rw [hc] at h2; cases h2
      | some z =>
        rw [hc] at h2
        simp only [Option.map_some, Option.some.injEq, DataW.lit.injEq, Lit.int.injEq, true_and] at h2
        rw [Option.map_some, ← h2]
        rfl
    · rw [List.getElem?_eq_none (by omega), List.getElem?_eq_none (by rw [Go.Fx.wvs, List.length_map]; show 64 ≤ i; omega)]
  have hv1 := hv0
  unfold World.var? at hv1
  rw [hg0] at hv1
  simp only [Option.bind_some] at hv1
  cases hh : W.heap[0]? with
  | none => rw [hh] at hv1; cases hv1
  | some o =>
    rw [hh] at hv1
    cases o with
    | cells cs t fr =>
      simp only [Option.some.injEq] at hv1
      subst hv1
      refine ⟨t, fr, ?_⟩
      rw [hh]
      have : cs = (Go.Fx.wvs Go.Fx.cubesL).toArray := by apply Array.ext'; simpa using hcs
      rw [this]
    | _ => cases hv1
end Go.Proofs.YtcnpediagjjnbaaGreatDoor
set_option linter.unusedVariables false
set_option linter.unusedSimpArgs false
namespace Go.Proofs.YtcnpediagjjnbaaGreatDoor
open Go.ChangeShapes Go.WideShapes Go.ChangeAt Go.RowKit
set_option maxRecDepth 100000 in
theorem liftedChainDoes (os : Os) (started : os.Started) (H : Type) (enc : TypeId × Value → H) :
    ReturnsInHanded {} Tryz.checked os 6 .any (fun w args => (Rows.chainDoesSpec.pre enc Tryz.prog Tryz.f6 [] false w args ∧ laidMetH Tryz.prog laidL w) ∧ sizedMet enc Tryz.prog Tryz.f6 (OpenSpec.ofChange Rows.chainDoesSpec) false w args) (Rows.chainDoesSpec.post enc Tryz.prog Tryz.f6 false true false false) := by
  refine returnsInHanded_of_change_and (C := Tryz.checked) (X := fun w _ => laidMetH Tryz.prog laidL w) (fun _ _ _ hh h => h.of_heap hh) own started (by kernel_rfl) Tryz.func6
    (ChangeSpec.witness_shaped (enc := enc) (C := Tryz.checked) (os := os) (X := fun w _ => laidMetH Tryz.prog laidL w) false (World.doorLaid Tryz.prog 400 os) #[.slice none 0 0, .slice none 0 0] 8 rfl (World.shaped_of_RefB (by kernel_rfl) (by kernel_rfl)) (by kernel_rfl) (by kernel_rfl) (by kernel_rfl) (door_met os _)) ?_
  intro W base args ds gs before hval0 hW _ _ hL _
  have hcub : Go.Fx.Cub W := cub_of_laid hL
  have hval : ∀ (j : Nat) t v, Tryz.f6.params[j]? = some t → args[j]? = some v → Value.okWide Tryz.prog W .any base t v := hval0
  have hW' := hW
  obtain ⟨p, q, hA0, hV, rfl, hfz, hnd⟩ := hW
  have hA : DataW.TrodAll enc Tryz.prog W 0 (fun _ => true) true Tryz.f6.params.toList args.toList ds p := hA0
  rw [Tryz.params6] at hA hval
  obtain ⟨v0, vs0, d0, ds0, p0, q0, hargs, rfl, rfl, h0, r0⟩ := trodAll_cons hA
  obtain ⟨v1, vs1, d1, ds1, p1, q1, rfl, rfl, rfl, h1, r1⟩ := trodAll_cons r0
  obtain ⟨rfl, rfl, rfl⟩ := trodAll_nil r1
  obtain rfl : args = #[v0, v1] := by cases args; simp_all
  obtain ⟨rfl, rfl⟩ := trodVars_none hV
  obtain ⟨a0, len0, cap0, rfl⟩ := okWide_slice Tryz.underlying22 (hval 0 22 v0 rfl rfl)
  have k0 := h0
  have lt0 : ∀ x ∈ p0, x.block < W.heap.size := by obtain ⟨m, hm⟩ := k0; exact DataW.trod_lt m _ _ _ hm
  obtain ⟨f0, hf0⟩ := h0
  have hx0 := Go.Fx.O_sl_uint8 hf0
  obtain ⟨l0, rd0⟩ := hx0
  obtain ⟨a1, len1, cap1, rfl⟩ := okWide_slice Tryz.underlying77 (hval 1 77 v1 rfl rfl)
  have k1 := h1
  have lt1 : ∀ x ∈ p1, x.block < W.heap.size := by obtain ⟨m, hm⟩ := k1; exact DataW.trod_lt m _ _ _ hm
  obtain ⟨f1, hf1⟩ := h1
  have hx1 := Go.Fx.O_sl_flurrylaw10_Op hf1
  obtain ⟨l1, rd1⟩ := hx1
  clear hA0 hval0
  have hcal := Go.Fx.lChainDoes hcub rd0 rd1
  refine Calls.mono hcal fun e W' ⟨v, he, hv, hf⟩ => ?_
  subst hv
  subst he
  have bel : Below W.heap.size W W' := hf.below (by simp)
  exact ⟨_, rfl, _, _, _, [], _, [], hW', trodAll_mk1 (shut_bool Tryz.underlying4 _), (trodAll_cons_mk (Below.trod laidOut (by kernel_rfl) (of_decide_eq_true (by kernel_rfl)) k0 bel lt0) (trodAll_cons_mk (Below.trod laidOut (by kernel_rfl) (of_decide_eq_true (by kernel_rfl)) k1 bel lt1) trodAll_mk0)), rfl, bel.frame _, fun h => by cases h⟩
theorem chainDoes : Rows.ChainDoesSaid :=
  OpenClaim.holds_of_wide 6 Tryz.f6 rfl rfl rfl rfl rfl rfl rfl ⟨rfl, rfl, rfl, rfl, rfl⟩ rfl rfl rfl rfl rfl (by kernel_rfl) Tryz.func6 (by kernel_rfl)
    (of_decide_eq_true (by kernel_rfl)) (by unfold Func.isWrapper; first | (rw [if_pos (by decide +kernel)]; kernel_rfl) | (rw [if_neg (by decide +kernel)]; exact ⟨rfl, rfl⟩))
    (fun os started H enc _ => liftedChainDoes os started H enc)
theorem chainDoesCard : Rows.ChainDoesCardSaid :=
  Claim7.holds_tied_plain_at .later [] [.data] true (true, "968bb6806a38c5bec8b2e1b5c5b5ba17cc1d9afb0edfa42e79377c2591f7979e") false
    chainDoes (fun _ h => by cases h) (by kernel_rfl) (fun _ h => by cases h) chainDoes_row_tie rfl ⟨rfl, rfl⟩ (by kernel_rfl) rfl
    (fun f fn hf hfn => by
      obtain rfl : f = 6 := Option.some.inj ((show Tryz.prog.funcNamed "flurry/flurrylaw10.ChainDoes" = some 6 by kernel_rfl).symm.trans hf) |>.symm
      obtain rfl : fn = Tryz.f6 := (Option.some.inj (Tryz.func6.symm.trans hfn)).symm
      exact ⟨by kernel_rfl, fun j t ht => by
        rw [Tryz.params6] at ht
        have hm : t ∈ [22, 77] := by simpa using Array.mem_of_getElem? ht
        have hall : ([22, 77].all fun u => !Tryz.prog.wantsStandIn u) = true := by kernel_rfl
        exact (show Tryz.prog.wantsStandIn t = false by simpa using List.all_eq_true.1 hall t hm)⟩)
    (by kernel_rfl)
#print axioms chainDoesCard
end Go.Proofs.YtcnpediagjjnbaaGreatDoor
