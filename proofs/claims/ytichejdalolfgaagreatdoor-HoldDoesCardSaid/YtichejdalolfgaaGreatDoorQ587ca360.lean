/-
  What is proved: for all arguments the law HoldDoes returns true, and its arguments read as they did. Conditions: none.
-/
import Derived.Test.YtichejdalolfgaaGreatDoorRows
import Derived.WalkKit
import Derived.ProofKit
import Derived.OpenShut
import Derived.ChangeOld
import Derived.Below
import Derived.Carry
import Derived.Test.YtichejdalolfgaaGreatDoorCards
import Derived.Test.YtichejdalolfgaaGreatDoorTie
import Derived.LaidMore
import Derived.Stop.Joined
import Derived.Test.YtichejdalolfgaaGreatDoorQc75eb90d
import Derived.Test.YtichejdalolfgaaGreatDoorQd768562e
import Derived.Test.YtichejdalolfgaaGreatDoorQ4b51fd60
import Derived.Test.YtichejdalolfgaaGreatDoorQf187741a
import Derived.Test.YtichejdalolfgaaGreatDoorQb57e8ea3
import Derived.Test.YtichejdalolfgaaGreatDoorQ31d9d544
set_option linter.unusedVariables false
set_option linter.unusedSimpArgs false
namespace Go.Fx
section
variable {w0 w z z' : World} {gx g gr : Nat} {rb rv : Int} {n : Nat} {Xs : List Asn}
theorem BSt.old (h : BSt w0 z gx g gr rb rv n Xs) (hf : Fr [] z z') : BSt w0 z' gx g gr rb rv n Xs := by
  obtain ⟨bv, vv, rbv, rvv, xv, yv, ws, ms, vs, ids, hts, E, hI, hkb, hD, hM, hwl, hvl, hil, hs⟩ := h
  exact ⟨bv, vv, rbv, rvv, xv, yv, ws, ms, vs, ids, hts, E, hI, hkb, hD, hM, hwl, hvl, hil, hs.old hf⟩
theorem BSt.fr0 (h : BSt w0 z gx g gr rb rv n Xs) : Fr [] w0 z := by
  obtain ⟨bv, vv, rbv, rvv, xv, yv, ws, ms, vs, ids, hts, E, hI, hkb, hD, hM, hwl, hvl, hil, hs⟩ := h
  exact hs.fr0
theorem BSt.h (h : BSt w0 z gx g gr rb rv n Xs) (K : Value → Prop) (hK : K (.pointer (some ⟨g, 0, none⟩))) : Go.Fx.ld1 (.pointer (some ⟨gx, 0, none⟩)) z.heap K := by
  obtain ⟨bv, vv, rbv, rvv, xv, yv, ws, ms, vs, ids, hts, E, hI, hkb, hD, hM, hwl, hvl, hil, hs⟩ := h
  exact (BR.of hD hM hs).fh K hK
theorem BSt.xs (h : BSt w0 z gx g gr rb rv n Xs) : Sep w0 z Xs := by
  obtain ⟨bv, vv, rbv, rvv, xv, yv, ws, ms, vs, ids, hts, E, hI, hkb, hD, hM, hwl, hvl, hil, hs⟩ := h
  exact hs.tail.tail.tail.tail.tail.tail.tail.tail.tail.dropL
theorem alikeB (h : BSt w0 z gx g gr rb rv n Xs) (hn : n ≤ 1000) : cal P f_law23_both_alike [.pointer (some ⟨gx, 0, none⟩)] z fun r w' => r = .bool true ∧ Fr [] z w' := by
  obtain ⟨bv, vv, rbv, rvv, xv, yv, ws, ms, vs, ids, hts, E, hI, hkb, hD, hM, hwl, hvl, hil, hs⟩ := h
  exact alike23_spec (BR.of hD hM hs) ⟨_, _, Sep.blk (Sep.pick hs [6] 7)⟩ hkb (by omega) (by omega) (by omega) hI.sm
theorem wHoldDoes {a b : Int} {s : Sl (Int × Nat × Sl UInt8 × Int × Int × Bool × (Vec 32 × Int × Sl UInt8))} {cut : Nat} (hc : Cub w) (hs0 : (rSl R_flurrylaw23_Act).ok w.heap s) (hcut : cut < 256) :
    cal P f_law23_HoldDoes [.int .i64 a, .int .i64 b, s.v, .int .u8 cut] w fun r w' => r = .bool true ∧ Fr [] w w' := by
  obtain ⟨l, hr, hcap, hl63, hok⟩ := acts_arg hs0
  generalize s.v = v at *
  clear hs0
  refine s_law23_HoldDoes fun R hR => ?_
  unfold c_law23_HoldDoes
  refine cal_i (hNew_spec a b) ?_
  rintro _ w1 (⟨hno, rfl, hf1⟩ | ⟨hab, g, rfl, hs1⟩)
  · simp only [nilc_some, fad_mk, pik_true, pik_false, cnd_true, cnd_false, gif_same, gif_tf, gif_ft, gif_undef, bi_add, bi_sub, bi_mul, bi_eql, bi_neq, bi_lss, bi_leq, bi_gtr, bi_geq, notB_bool, cvi_int, lenS_mk, lenT_mk, ext0, ext1, ext2, nilP_mk, nilS_mk, fldv_agg, jn0_k, jn1_k, jn2_k, jn1_and, jn1_or, ex_some, Option.isNone_some, Option.isNone_none, Bool.false_bne, Bool.bne_true, Bool.bne_false, Bool.true_bne, Bool.not_true, Bool.not_false, Bool.and_true, Bool.true_and, Bool.and_false, Bool.false_and, Bool.or_true, Bool.true_or, Bool.or_false, Bool.false_or, cond_true, cond_false, List.getElem?_toArray, List.getElem?_cons_zero, List.getElem?_cons_succ, Nat.zero_add, Nat.add_zero, Nat.reduceAdd, forall_const]
    refine cal_i (rhNew_spec a b) ?_
    rintro _ w2 (⟨_, rfl, hf2⟩ | ⟨hab, _⟩)
    · simp only [nilc_some, fad_mk, pik_true, pik_false, cnd_true, cnd_false, gif_same, gif_tf, gif_ft, gif_undef, bi_add, bi_sub, bi_mul, bi_eql, bi_neq, bi_lss, bi_leq, bi_gtr, bi_geq, notB_bool, cvi_int, lenS_mk, lenT_mk, ext0, ext1, ext2, nilP_mk, nilS_mk, fldv_agg, jn0_k, jn1_k, jn2_k, jn1_and, jn1_or, ex_some, Option.isNone_some, Option.isNone_none, Bool.false_bne, Bool.bne_true, Bool.bne_false, Bool.true_bne, Bool.not_true, Bool.not_false, Bool.and_true, Bool.true_and, Bool.and_false, Bool.false_and, Bool.or_true, Bool.true_or, Bool.or_false, Bool.false_or, cond_true, cond_false, List.getElem?_toArray, List.getElem?_cons_zero, List.getElem?_cons_succ, Nat.zero_add, Nat.add_zero, Nat.reduceAdd, forall_const]
      have hf12 : Fr [] w w2 := hf1.trans hf2 (by simp) (by simp)
      refine cal_i (live23_spec (hc.fr hf12)) ?_
      rintro _ w3 ⟨rfl, hf3⟩
      simp only [nilc_some, fad_mk, pik_true, pik_false, cnd_true, cnd_false, gif_same, gif_tf, gif_ft, gif_undef, bi_add, bi_sub, bi_mul, bi_eql, bi_neq, bi_lss, bi_leq, bi_gtr, bi_geq, notB_bool, cvi_int, lenS_mk, lenT_mk, ext0, ext1, ext2, nilP_mk, nilS_mk, fldv_agg, jn0_k, jn1_k, jn2_k, jn1_and, jn1_or, ex_some, Option.isNone_some, Option.isNone_none, Bool.false_bne, Bool.bne_true, Bool.bne_false, Bool.true_bne, Bool.not_true, Bool.not_false, Bool.and_true, Bool.true_and, Bool.and_false, Bool.false_and, Bool.or_true, Bool.true_or, Bool.or_false, Bool.false_or, cond_true, cond_false, List.getElem?_toArray, List.getElem?_cons_zero, List.getElem?_cons_succ, Nat.zero_add, Nat.add_zero, Nat.reduceAdd, forall_const, show ((1 : Int) != 1) = false from rfl, show ((1 : Int) != 0) = true from rfl, Option.isNone_none, neS_bool _ _ UT_bool, bne_self_eq_false]
      exact hR _ _ ⟨rfl, hf12.trans hf3 (by simp) (by simp)⟩
    · exact absurd hab hno
  simp only [nilc_some, fad_mk, pik_true, pik_false, cnd_true, cnd_false, gif_same, gif_tf, gif_ft, gif_undef, bi_add, bi_sub, bi_mul, bi_eql, bi_neq, bi_lss, bi_leq, bi_gtr, bi_geq, notB_bool, cvi_int, lenS_mk, lenT_mk, ext0, ext1, ext2, nilP_mk, nilS_mk, fldv_agg, jn0_k, jn1_k, jn2_k, jn1_and, jn1_or, ex_some, Option.isNone_some, Option.isNone_none, Bool.false_bne, Bool.bne_true, Bool.bne_false, Bool.true_bne, Bool.not_true, Bool.not_false, Bool.and_true, Bool.true_and, Bool.and_false, Bool.false_and, Bool.or_true, Bool.true_or, Bool.or_false, Bool.false_or, cond_true, cond_false, List.getElem?_toArray, List.getElem?_cons_zero, List.getElem?_cons_succ, Nat.zero_add, Nat.add_zero, Nat.reduceAdd, forall_const]
  refine cal_i (rhNew_spec a b) ?_
  rintro _ w2 (⟨hno, _⟩ | ⟨_, gr, rfl, hs2⟩)
  · exact absurd hab hno
  replace hs2 := hs1.join hs2
  simp only [nilc_some, fad_mk, pik_true, pik_false, cnd_true, cnd_false, gif_same, gif_tf, gif_ft, gif_undef, bi_add, bi_sub, bi_mul, bi_eql, bi_neq, bi_lss, bi_leq, bi_gtr, bi_geq, notB_bool, cvi_int, lenS_mk, lenT_mk, ext0, ext1, ext2, nilP_mk, nilS_mk, fldv_agg, jn0_k, jn1_k, jn2_k, jn1_and, jn1_or, ex_some, Option.isNone_some, Option.isNone_none, Bool.false_bne, Bool.bne_true, Bool.bne_false, Bool.true_bne, Bool.not_true, Bool.not_false, Bool.and_true, Bool.true_and, Bool.and_false, Bool.false_and, Bool.or_true, Bool.true_or, Bool.or_false, Bool.false_or, cond_true, cond_false, List.getElem?_toArray, List.getElem?_cons_zero, List.getElem?_cons_succ, Nat.zero_add, Nat.add_zero, Nat.reduceAdd, forall_const]
  refine cal_i (live23_spec (hc.fr hs2.fr0)) ?_
  rintro _ w3 ⟨rfl, hf3⟩
  have hs3 := hs2.old hf3
  simp only [nilc_some, fad_mk, pik_true, pik_false, cnd_true, cnd_false, gif_same, gif_tf, gif_ft, gif_undef, bi_add, bi_sub, bi_mul, bi_eql, bi_neq, bi_lss, bi_leq, bi_gtr, bi_geq, notB_bool, cvi_int, lenS_mk, lenT_mk, ext0, ext1, ext2, nilP_mk, nilS_mk, fldv_agg, jn0_k, jn1_k, jn2_k, jn1_and, jn1_or, ex_some, Option.isNone_some, Option.isNone_none, Bool.false_bne, Bool.bne_true, Bool.bne_false, Bool.true_bne, Bool.not_true, Bool.not_false, Bool.and_true, Bool.true_and, Bool.and_false, Bool.false_and, Bool.or_true, Bool.true_or, Bool.or_false, Bool.false_or, cond_true, cond_false, List.getElem?_toArray, List.getElem?_cons_zero, List.getElem?_cons_succ, Nat.zero_add, Nat.add_zero, Nat.reduceAdd, forall_const, show ((0 : Int) != 0) = false from rfl, Option.isNone_some, neS_bool _ _ UT_bool, bne_self_eq_false]
  refine jn1_dup ?_
  refine cal_i (fewA_spec (hr.fr hs3.fr0) hcap hl63 hok) ?_
  rintro _ w4 ⟨hf4, t, rfl, ht⟩
  have hs4 := hs3.old hf4
  cases t with
  | false =>
    simp only [nilc_some, fad_mk, pik_true, pik_false, cnd_true, cnd_false, gif_same, gif_tf, gif_ft, gif_undef, bi_add, bi_sub, bi_mul, bi_eql, bi_neq, bi_lss, bi_leq, bi_gtr, bi_geq, notB_bool, cvi_int, lenS_mk, lenT_mk, ext0, ext1, ext2, nilP_mk, nilS_mk, fldv_agg, jn0_k, jn1_k, jn2_k, jn1_and, jn1_or, ex_some, Option.isNone_some, Option.isNone_none, Bool.false_bne, Bool.bne_true, Bool.bne_false, Bool.true_bne, Bool.not_true, Bool.not_false, Bool.and_true, Bool.true_and, Bool.and_false, Bool.false_and, Bool.or_true, Bool.true_or, Bool.or_false, Bool.false_or, cond_true, cond_false, List.getElem?_toArray, List.getElem?_cons_zero, List.getElem?_cons_succ, Nat.zero_add, Nat.add_zero, Nat.reduceAdd, forall_const]
    exact hR _ _ ⟨rfl, hs4.fr0⟩
  | true =>
  obtain ⟨hl, hsm⟩ := ht rfl
  simp only [nilc_some, fad_mk, pik_true, pik_false, cnd_true, cnd_false, gif_same, gif_tf, gif_ft, gif_undef, bi_add, bi_sub, bi_mul, bi_eql, bi_neq, bi_lss, bi_leq, bi_gtr, bi_geq, notB_bool, cvi_int, lenS_mk, lenT_mk, ext0, ext1, ext2, nilP_mk, nilS_mk, fldv_agg, jn0_k, jn1_k, jn2_k, jn1_and, jn1_or, ex_some, Option.isNone_some, Option.isNone_none, Bool.false_bne, Bool.bne_true, Bool.bne_false, Bool.true_bne, Bool.not_true, Bool.not_false, Bool.and_true, Bool.true_and, Bool.and_false, Bool.false_and, Bool.or_true, Bool.true_or, Bool.or_false, Bool.false_or, cond_true, cond_false, List.getElem?_toArray, List.getElem?_cons_zero, List.getElem?_cons_succ, Nat.zero_add, Nat.add_zero, Nat.reduceAdd, forall_const]
  refine cal_i (start23_spec) ?_
  rintro _ w5 ⟨xv, yv, rfl, hx1, hy1, hs5⟩
  replace hs5 := hs4.join hs5
  rw [B_flurrylaw23_both_0_1_2 rfl rfl]
  refine bxQ hs5 fun gx w6 hs6 => ?_
  have hB0 : BSt w w6 gx g gr a b 0 [] := ⟨.slice none 0 0, .slice none 0 0, .slice none 0 0, .slice none 0 0, xv, yv, [], [], [], [m77], [3], [], HI.start, rfl, DatW.nil _, DatW.nil _, by simp, by simp, by simp, Sep.pick hs6 [6, 7, 8, 3, 4, 5, 0, 1, 2] 9⟩
  clear hs6 hs5 hs4 hs3 hs2 hs1 hf3 hf4
  have hq : ∃ q c, v = .slice q l.length c ∧ l.length ≤ c := by
    obtain ⟨q, c, hv, _⟩ := hr.rw
    rw [List.length_map] at hv
    exact ⟨q, c, hv, hcap _ _ _ hv⟩
  obtain ⟨q, c, hv, hcl⟩ := hq
  simp only [hr.len, nilc_some, fad_mk, pik_true, pik_false, cnd_true, cnd_false, gif_same, gif_tf, gif_ft, gif_undef, bi_add, bi_sub, bi_mul, bi_eql, bi_neq, bi_lss, bi_leq, bi_gtr, bi_geq, notB_bool, cvi_int, lenS_mk, lenT_mk, ext0, ext1, ext2, nilP_mk, nilS_mk, fldv_agg, jn0_k, jn1_k, jn2_k, jn1_and, jn1_or, ex_some, Option.isNone_some, Option.isNone_none, Bool.false_bne, Bool.bne_true, Bool.bne_false, Bool.true_bne, Bool.not_true, Bool.not_false, Bool.and_true, Bool.true_and, Bool.and_false, Bool.false_and, Bool.or_true, Bool.true_or, Bool.or_false, Bool.false_or, cond_true, cond_false, List.getElem?_toArray, List.getElem?_cons_zero, List.getElem?_cons_succ, Nat.zero_add, Nat.add_zero, Nat.reduceAdd, forall_const]
  rw [wi64 (by omega) (by omega), wi64 (by omega) (by omega), bi_rem _ _ _ _ (by omega)]
  have e1 : ((cut : Int)).tmod ((l.length : Int) + 1) = ((cut % (l.length + 1) : Nat) : Int) := by
    rw [show ((l.length : Int) + 1) = ((l.length + 1 : Nat) : Int) by omega, tmodn]
  rw [e1]
  obtain ⟨k, hk⟩ : ∃ k, k = cut % (l.length + 1) := ⟨_, rfl⟩
  have hkl : k ≤ l.length := by
    have := Nat.mod_lt cut (show 0 < l.length + 1 by omega)
    omega
  rw [← hk]
  have hrt : ARows w.heap (.slice q k c) (l.take k) := by
    refine ⟨?_, fun x hx => hr.d x (List.mem_of_mem_take hx)⟩
    have := hr.rw
    rw [hv] at this
    have h2 := Rows'.take this (k := k) (by simpa using hkl) c
    rwa [← List.map_take] at h2
  have hrd : ARows w.heap (.slice (if c = k then q else q.map (·.add (k * 40))) (l.length - k) (c - k)) (l.drop k) := by
    refine ⟨?_, fun x hx => hr.d x (List.mem_of_mem_drop hx)⟩
    have := hr.rw
    rw [hv] at this
    have h2 := Rows'.drop this (k := k) (by simpa using hkl) (by simpa using hcl) (c - k)
    rwa [← List.map_drop] at h2
  rw [hv, slc_to (by omega)]
  have hlt : (l.take k).length = k := by rw [List.length_take]; omega
  have hld : (l.drop k).length = l.length - k := by rw [List.length_drop]
  have h5 := hrt.len
  rw [hlt] at h5
  simp only [h5]
  refine ⟨fun y z => ∃ i : Nat, y = .int .i64 i ∧ i ≤ k ∧ BSt w z gx g gr a b i [], fun y _ => (k - RowKit.intOf y).toNat, ⟨0, rfl, by omega, hB0⟩, ?_⟩
  clear hB0
  rintro _ w7 ⟨i, rfl, hi, hB7⟩ -
  simp only [nilc_some, fad_mk, pik_true, pik_false, cnd_true, cnd_false, gif_same, gif_tf, gif_ft, gif_undef, bi_add, bi_sub, bi_mul, bi_eql, bi_neq, bi_lss, bi_leq, bi_gtr, bi_geq, notB_bool, cvi_int, lenS_mk, lenT_mk, ext0, ext1, ext2, nilP_mk, nilS_mk, fldv_agg, jn0_k, jn1_k, jn2_k, jn1_and, jn1_or, ex_some, Option.isNone_some, Option.isNone_none, Bool.false_bne, Bool.bne_true, Bool.bne_false, Bool.true_bne, Bool.not_true, Bool.not_false, Bool.and_true, Bool.true_and, Bool.and_false, Bool.false_and, Bool.or_true, Bool.true_or, Bool.or_false, Bool.false_or, cond_true, cond_false, List.getElem?_toArray, List.getElem?_cons_zero, List.getElem?_cons_succ, Nat.zero_add, Nat.add_zero, Nat.reduceAdd, forall_const]
  rw [cnd_bool]
  refine ⟨fun h => ?_, fun h => ?_⟩
  · have hilt : i < k := by simp at h; omega
    obtain ⟨e, he⟩ : ∃ e, (l.take k)[i]? = some e := ⟨_, List.getElem?_eq_getElem (by omega)⟩
    have hem := List.mem_of_mem_take (List.mem_of_getElem? he)
    have he' : ((l.take k).map AA.t)[i]? = some e.t := by rw [List.getElem?_map, he]; rfl
    have hd := hr.d e hem
    have hak := hok e hem
    change ixs 40 _ _ _
    refine Rows'.ldN (q := Q_flurrylaw23_Act) (by decide) (hrt.rw.fr hB7.fr0) he' .i64 ?_
    refine alloc_s (Sep.start w7) (A_flurrylaw23_Act w7) fun g16 w8 hs8 => ?_
    refine St_flurrylaw23_Act (b := e.t) hs8 (one_flurrylaw23_Act hd.1.one hd.2.one) fun w9 hs9 => ?_
    simp only [L_flurrylaw23_Act hs9.blk, L_flurrylaw23_Act__Do hs9.blk, L_flurrylaw23_Act__K hs9.blk, L_flurrylaw23_Act__Data hs9.blk, L_flurrylaw23_Act__Poll hs9.blk, L_flurrylaw23_Act__Node hs9.blk, L_flurrylaw23_Act__Raw hs9.blk, L_flurrylaw23_Act__B hs9.blk, L_flurrylaw23_Act__B_Parent hs9.blk, L_flurrylaw23_Act__B_Height hs9.blk, L_flurrylaw23_Act__B_Data hs9.blk]
    refine cal_i (does_spec (a := e) hc hd ⟨hak.1, hak.2.1⟩ (hsm e hem) (by omega) (hB7.old hs9.fr0)) ?_
    rintro _ w10 ⟨rfl, hB10⟩
    simp only [nilc_some, fad_mk, pik_true, pik_false, cnd_true, cnd_false, gif_same, gif_tf, gif_ft, gif_undef, bi_add, bi_sub, bi_mul, bi_eql, bi_neq, bi_lss, bi_leq, bi_gtr, bi_geq, notB_bool, cvi_int, lenS_mk, lenT_mk, ext0, ext1, ext2, nilP_mk, nilS_mk, fldv_agg, jn0_k, jn1_k, jn2_k, jn1_and, jn1_or, ex_some, Option.isNone_some, Option.isNone_none, Bool.false_bne, Bool.bne_true, Bool.bne_false, Bool.true_bne, Bool.not_true, Bool.not_false, Bool.and_true, Bool.true_and, Bool.and_false, Bool.false_and, Bool.or_true, Bool.true_or, Bool.or_false, Bool.false_or, cond_true, cond_false, List.getElem?_toArray, List.getElem?_cons_zero, List.getElem?_cons_succ, Nat.zero_add, Nat.add_zero, Nat.reduceAdd, forall_const]
    refine jn1_dup ?_
    refine cal_i (alikeB hB10 (by omega)) ?_
    rintro _ w11 ⟨rfl, hf11⟩
    simp only [nilc_some, fad_mk, pik_true, pik_false, cnd_true, cnd_false, gif_same, gif_tf, gif_ft, gif_undef, bi_add, bi_sub, bi_mul, bi_eql, bi_neq, bi_lss, bi_leq, bi_gtr, bi_geq, notB_bool, cvi_int, lenS_mk, lenT_mk, ext0, ext1, ext2, nilP_mk, nilS_mk, fldv_agg, jn0_k, jn1_k, jn2_k, jn1_and, jn1_or, ex_some, Option.isNone_some, Option.isNone_none, Bool.false_bne, Bool.bne_true, Bool.bne_false, Bool.true_bne, Bool.not_true, Bool.not_false, Bool.and_true, Bool.true_and, Bool.and_false, Bool.false_and, Bool.or_true, Bool.true_or, Bool.or_false, Bool.false_or, cond_true, cond_false, List.getElem?_toArray, List.getElem?_cons_zero, List.getElem?_cons_succ, Nat.zero_add, Nat.add_zero, Nat.reduceAdd, forall_const]
    rw [wi64 (by omega) (by omega)]
    exact ⟨⟨i + 1, by simp, by omega, hB10.old hf11⟩, by simp [RowKit.intOf]; omega⟩
  have hge : i = k := by simp at h; omega
  rw [hge] at hB7
  clear h hge hi
  obtain ⟨bv, vv, rbv, rvv, xv, yv, ws, ms, vs, ids, hts, E, hI, hkb, hD, hM, hwl, hvl, hil, hs7⟩ := hB7
  have hml := kb_len hkb
  obtain ⟨Xs, hXs⟩ : ∃ Xs, Xs = bothL gx g gr a b bv vv ws vs rbv rvv ms xv yv ids hts (E ++ []) := ⟨_, rfl⟩
  replace hs7 : Sep w w7 Xs := by rw [hXs]; exact hs7
  have F : ∀ {z : World} {Bs : List Asn}, Sep w z (Bs ++ Xs) → BR z.heap gx g gr a b ws ms vs ids bv vv rbv rvv xv yv := fun {z Bs} hz => by
    have h1 := hz.dropL
    rw [hXs] at h1
    exact BR.of hD hM h1
  have fnm : ∀ {z : World} {Bs : List Asn}, Sep w z (Bs ++ Xs) → (∃ T fr, z.heap[gx]? = some (.cells (Rdr.cells Q_flurrylaw23_both (.pointer (some ⟨g, 0, none⟩), .pointer (some ⟨gr, 0, none⟩), xv, yv)).toArray T fr)) ∧ Rows' (rInt .i64) z.heap yv hts := fun {z Bs} hz => by
    have h1 := hz.dropL
    rw [hXs] at h1
    exact ⟨⟨_, _, Sep.blk (Sep.pick h1 [6] 7)⟩, Sep.rows (Sep.pick h1 [8] 9)⟩
  refine drH_S hs7 fun w8 hs8 _ => ?_
  refine rdS_ld (v := xv) (fun u hu K hk => (F (Bs := []) hu).fi K hk) ?_
  refine rdS_ld (v := yv) (fun u hu K hk => by obtain ⟨⟨T, fr, hb⟩, _⟩ := fnm (Bs := []) hu; exact (L_flurrylaw23_both__n_heights hb K).mpr hk) ?_
  refine efS_i (cal_i (hClone_spec (F (Bs := []) hs8).hd (by omega) (by omega)) ?_)
  rintro _ w9 ⟨g', bv', vv', rfl, hs9⟩
  replace hs9 := hs8.join hs9
  refine ⟨Sep.pick hs9 [] 3, ?_⟩
  refine efS_i (cal_i (rhClone_spec (F (Bs := hdH g' bv' vv' a b ws vs) hs9).rd (by omega) (by omega)) ?_)
  rintro _ w10 ⟨gr', rbv', rvv', rfl, hs10⟩
  replace hs10 := hs9.join hs10
  refine ⟨Sep.pick hs10 [] 6, ?_⟩
  refine efS_i (cal_i (cloneI (F (Bs := []) (Sep.pick hs10 [] 6)).id (by omega)) ?_)
  rintro iv w11 hs11
  replace hs11 := hs10.join hs11
  refine ⟨Sep.pick hs11 [] 7, ?_⟩
  have hhl : hts.length ≤ 1000000 := by have := hI.hl; omega
  refine efC_cut (cal_i (cloneH (fnm (Bs := []) (Sep.pick hs11 [] 7)).2 hhl) ?_)
  rintro hv' w12 hs12
  replace hs12 := hs11.join hs12
  refine ⟨fun u => Sep w u Xs, Sep.pick hs12 [] 8, ?_⟩
  refine ⟨.agg (Rdr.cells Q_flurrylaw23_names (iv, hv')).toArray, fun u hu => by rw [B_flurrylaw23_names_0_1 (Sep.oneR hs12.p1) (Sep.oneR hs12)], ?_⟩
  refine ⟨.agg (Rdr.cells Q_flurrylaw23_both (.pointer (some ⟨g', 0, none⟩), .pointer (some ⟨gr', 0, none⟩), iv, hv')).toArray, fun u hu => by rw [B_flurrylaw23_both_0_1_2 rfl rfl], ?_⟩
  refine efC_bx (bxQ hs12 fun gy w13 hs13 => ?_)
  have hDX : DatW ws ([] ++ Xs) := hD.sub fun A hA => by
    rw [hXs]
    simp only [List.append_nil] at hA ⊢
    simp [hA]
  have hMX : DatW ms ([] ++ Xs) := hM.sub fun A hA => by
    rw [hXs]
    simp only [List.append_nil] at hA ⊢
    simp [hA]
  have hB13 : BSt w w13 gy g' gr' a b k Xs := ⟨bv', vv', rbv', rvv', iv, hv', ws, ms, vs, ids, hts, [], hI, hkb, hDX, hMX, hwl, hvl, hil, Sep.pick hs13 [6, 7, 8, 3, 4, 5, 0, 2, 1] 9⟩
  have hX : ∀ {z : World}, Sep w z Xs → BR z.heap gx g gr a b ws ms vs ids bv vv rbv rvv xv yv := fun hz => F (Bs := []) hz
  clear hs13 hs12 hs11 hs10 hs9 hs8 hs7
  rw [slc_from (by omega)]
  have h6 := hrd.len
  rw [hld] at h6
  simp only [h6, nilc_some, fad_mk, pik_true, pik_false, cnd_true, cnd_false, gif_same, gif_tf, gif_ft, gif_undef, bi_add, bi_sub, bi_mul, bi_eql, bi_neq, bi_lss, bi_leq, bi_gtr, bi_geq, notB_bool, cvi_int, lenS_mk, lenT_mk, ext0, ext1, ext2, nilP_mk, nilS_mk, fldv_agg, jn0_k, jn1_k, jn2_k, jn1_and, jn1_or, ex_some, Option.isNone_some, Option.isNone_none, Bool.false_bne, Bool.bne_true, Bool.bne_false, Bool.true_bne, Bool.not_true, Bool.not_false, Bool.and_true, Bool.true_and, Bool.and_false, Bool.false_and, Bool.or_true, Bool.true_or, Bool.or_false, Bool.false_or, cond_true, cond_false, List.getElem?_toArray, List.getElem?_cons_zero, List.getElem?_cons_succ, Nat.zero_add, Nat.add_zero, Nat.reduceAdd, forall_const]
  refine ⟨fun y z => ∃ i : Nat, y = .int .i64 i ∧ i ≤ l.length - k ∧ BSt w z gy g' gr' a b (k + i) Xs, fun y _ => ((l.length - k : Nat) - RowKit.intOf y).toNat, ⟨0, rfl, by omega, hB13⟩, ?_⟩
  clear hB13
  rintro _ w14 ⟨i, rfl, hi, hB14⟩ -
  simp only [nilc_some, fad_mk, pik_true, pik_false, cnd_true, cnd_false, gif_same, gif_tf, gif_ft, gif_undef, bi_add, bi_sub, bi_mul, bi_eql, bi_neq, bi_lss, bi_leq, bi_gtr, bi_geq, notB_bool, cvi_int, lenS_mk, lenT_mk, ext0, ext1, ext2, nilP_mk, nilS_mk, fldv_agg, jn0_k, jn1_k, jn2_k, jn1_and, jn1_or, ex_some, Option.isNone_some, Option.isNone_none, Bool.false_bne, Bool.bne_true, Bool.bne_false, Bool.true_bne, Bool.not_true, Bool.not_false, Bool.and_true, Bool.true_and, Bool.and_false, Bool.false_and, Bool.or_true, Bool.true_or, Bool.or_false, Bool.false_or, cond_true, cond_false, List.getElem?_toArray, List.getElem?_cons_zero, List.getElem?_cons_succ, Nat.zero_add, Nat.add_zero, Nat.reduceAdd, forall_const]
  rw [cnd_bool]
  refine ⟨fun h => ?_, fun h => ?_⟩
  · have hilt : i < l.length - k := by simp at h; omega
    obtain ⟨e, he⟩ : ∃ e, (l.drop k)[i]? = some e := ⟨_, List.getElem?_eq_getElem (by omega)⟩
    have hem := List.mem_of_mem_drop (List.mem_of_getElem? he)
    have he' : ((l.drop k).map AA.t)[i]? = some e.t := by rw [List.getElem?_map, he]; rfl
    have hd := hr.d e hem
    have hak := hok e hem
    change ixs 40 _ _ _
    refine Rows'.ldN (q := Q_flurrylaw23_Act) (by decide) (hrd.rw.fr hB14.fr0) he' .i64 ?_
    refine alloc_s (Sep.start w14) (A_flurrylaw23_Act w14) fun g16 w15 hs15 => ?_
    refine St_flurrylaw23_Act (b := e.t) hs15 (one_flurrylaw23_Act hd.1.one hd.2.one) fun w16 hs16 => ?_
    have hB16 := hB14.old hs16.fr0
    refine hB16.h _ ?_
    simp only [nilc_some, fad_mk, pik_true, pik_false, cnd_true, cnd_false, gif_same, gif_tf, gif_ft, gif_undef, bi_add, bi_sub, bi_mul, bi_eql, bi_neq, bi_lss, bi_leq, bi_gtr, bi_geq, notB_bool, cvi_int, lenS_mk, lenT_mk, ext0, ext1, ext2, nilP_mk, nilS_mk, fldv_agg, jn0_k, jn1_k, jn2_k, jn1_and, jn1_or, ex_some, Option.isNone_some, Option.isNone_none, Bool.false_bne, Bool.bne_true, Bool.bne_false, Bool.true_bne, Bool.not_true, Bool.not_false, Bool.and_true, Bool.true_and, Bool.and_false, Bool.false_and, Bool.or_true, Bool.true_or, Bool.or_false, Bool.false_or, cond_true, cond_false, List.getElem?_toArray, List.getElem?_cons_zero, List.getElem?_cons_succ, Nat.zero_add, Nat.add_zero, Nat.reduceAdd, forall_const, Option.isNone_some, L_flurrylaw23_Act hs16.blk, L_flurrylaw23_Act__Do hs16.blk, L_flurrylaw23_Act__K hs16.blk, L_flurrylaw23_Act__Data hs16.blk, L_flurrylaw23_Act__Poll hs16.blk, L_flurrylaw23_Act__Node hs16.blk, L_flurrylaw23_Act__Raw hs16.blk, L_flurrylaw23_Act__B hs16.blk, L_flurrylaw23_Act__B_Parent hs16.blk, L_flurrylaw23_Act__B_Height hs16.blk, L_flurrylaw23_Act__B_Data hs16.blk]
    refine jn1_dup ?_
    refine cal_i (does_spec (a := e) hc hd ⟨hak.1, hak.2.1⟩ (hsm e hem) (by omega) hB16) ?_
    rintro _ w17 ⟨rfl, hB17⟩
    simp only [nilc_some, fad_mk, pik_true, pik_false, cnd_true, cnd_false, gif_same, gif_tf, gif_ft, gif_undef, bi_add, bi_sub, bi_mul, bi_eql, bi_neq, bi_lss, bi_leq, bi_gtr, bi_geq, notB_bool, cvi_int, lenS_mk, lenT_mk, ext0, ext1, ext2, nilP_mk, nilS_mk, fldv_agg, jn0_k, jn1_k, jn2_k, jn1_and, jn1_or, ex_some, Option.isNone_some, Option.isNone_none, Bool.false_bne, Bool.bne_true, Bool.bne_false, Bool.true_bne, Bool.not_true, Bool.not_false, Bool.and_true, Bool.true_and, Bool.and_false, Bool.false_and, Bool.or_true, Bool.true_or, Bool.or_false, Bool.false_or, cond_true, cond_false, List.getElem?_toArray, List.getElem?_cons_zero, List.getElem?_cons_succ, Nat.zero_add, Nat.add_zero, Nat.reduceAdd, forall_const]
    refine jn1_dup ?_
    refine cal_i (alikeB hB17 (by omega)) ?_
    rintro _ w18 ⟨rfl, hf18⟩
    simp only [nilc_some, fad_mk, pik_true, pik_false, cnd_true, cnd_false, gif_same, gif_tf, gif_ft, gif_undef, bi_add, bi_sub, bi_mul, bi_eql, bi_neq, bi_lss, bi_leq, bi_gtr, bi_geq, notB_bool, cvi_int, lenS_mk, lenT_mk, ext0, ext1, ext2, nilP_mk, nilS_mk, fldv_agg, jn0_k, jn1_k, jn2_k, jn1_and, jn1_or, ex_some, Option.isNone_some, Option.isNone_none, Bool.false_bne, Bool.bne_true, Bool.bne_false, Bool.true_bne, Bool.not_true, Bool.not_false, Bool.and_true, Bool.true_and, Bool.and_false, Bool.false_and, Bool.or_true, Bool.true_or, Bool.or_false, Bool.false_or, cond_true, cond_false, List.getElem?_toArray, List.getElem?_cons_zero, List.getElem?_cons_succ, Nat.zero_add, Nat.add_zero, Nat.reduceAdd, forall_const]
    rw [wi64 (by omega) (by omega)]
    exact ⟨⟨i + 1, by simp, by omega, hB17.old hf18⟩, by simp [RowKit.intOf]; omega⟩
  have hsX := hB14.xs
  refine cal_i (alike23_spec (hX hsX) (fnm (Bs := []) hsX).1 hkb (by omega) (by omega) (by omega) hI.sm) ?_
  rintro _ w15 ⟨rfl, hf15⟩
  exact hR _ _ ⟨rfl, (hsX.old hf15).fr0⟩
end
end Go.Fx
namespace Go.Fx
theorem okWide_arr {P : Program} {w : World} {r : Reach} {base n : Nat} {t e : TypeId} {v : Value} (ht : P.underlying t = some (.array n e)) (h : Value.okWide P w r base t v) : ∃ cs, v = .agg cs ∧ cs.size = P.cellsOf t := by
  simp only [Value.okWide, ht] at h
  obtain ⟨cs, h1, h2, _⟩ := h
  exact ⟨cs, h1, h2⟩
end Go.Fx
namespace Go.Proofs.YtichejdalolfgaaGreatDoor
open Go.ChangeShapes Go.WideShapes Go.ChangeAt Go.RowKit
theorem own : ownKnob Tryz.prog.godebug = none := by kernel_rfl
theorem laidOut : laidOutB Tryz.prog = true := by kernel_rfl
end Go.Proofs.YtichejdalolfgaaGreatDoor
namespace Go.Proofs.YtichejdalolfgaaGreatDoor
open Go.ChangeShapes Go.WideShapes Go.ChangeAt Go.RowKit
abbrev laidL : List (String × DataW Unit) := [("flurry/sha.cubes", Rows.laid_flurry_sha_cubes)]
theorem gCubes : Tryz.prog.globalNamed "flurry/sha.cubes" = some 0 := by kernel_rfl
theorem tCubes : (Tryz.prog.globals[0]?).map (·.type) = some Go.Fx.T_a64_uint32 := by kernel_rfl
theorem door_met (os : Os) (args : Array Value) : laidMetH Tryz.prog laidL ((World.doorLaid Tryz.prog 400 os).forCall (fun _ _ => 0) ⟨#[], args, []⟩).memory :=
  laidMetH_of_parts3 (fuel := 8) (laidMet_of_run' 8 (by kernel_rfl) (by kernel_rfl)) (by kernel_rfl) (by kernel_rfl)
theorem cub_of_laid {W : World} (h : laidMetH Tryz.prog laidL W) : Go.Fx.Cub W := by
  rw [MakeChecks.laidMetH_plain _ _ _ (by kernel_rfl)] at h
  obtain ⟨ps, ⟨g0, t0, cs0, f0, p0, q0, hg0, ht0, hv0, hd0, _, _⟩, _, _⟩ := h
  obtain rfl := Option.some.inj (gCubes.symm.trans hg0)
  obtain rfl := Option.some.inj (tCubes.symm.trans ht0)
  have hcs : cs0.toList = Go.Fx.wvs Go.Fx.cubesL := by
    obtain ⟨xs, m1, _, hx1, hlen, hn3, hel⟩ := DataW.trod_array Go.Fx.U_a64_uint32 hd0
    have c1 : Tryz.prog.cellsOf Go.Fx.T_uint32 = 1 := by kernel_rfl
    have c64 : Tryz.prog.cellsOf Go.Fx.T_a64_uint32 = 64 := by kernel_rfl
    rw [c64] at hlen
    rw [c1] at hel
    have hd : (Rows.laid_flurry_sha_cubes : DataW Unit) = .agg (Go.Fx.cubesL.map fun x => .lit (.int .u32 x.toNat)) := by kernel_rfl
    rw [hd] at hx1
    simp only [Prod.mk.injEq, DataW.agg.injEq] at hx1
    apply List.ext_getElem?
    intro i
    by_cases hi : i < 64
    · have h1 := hel i hi
      have hx : xs[i]? = some (xs[i]'(by omega)) := List.getElem?_eq_getElem _
      rw [hx] at h1
      generalize xs[i]'(by omega) = y at *
      obtain ⟨k, e1, e2, _⟩ := DataW.trod_int Go.Fx.U_uint32 h1
      have h2 := congrArg (·[i]?) hx1.1
      simp only [List.getElem?_map, hx, e2, Option.map_some] at h2
      have h3 : cs0.toList[i]? = some (.int .u32 k) := by
        have : ((cs0.toList.drop (i * 1)).take 1)[0]? = some (.int .u32 k) := by rw [e1]; rfl
        rw [List.getElem?_take_of_lt (by omega), List.getElem?_drop, Nat.mul_one, Nat.add_zero] at this
        exact this
      rw [h3, Go.Fx.wvs, List.getElem?_map]
      cases hc : Go.Fx.cubesL[i]? with
      | none => rw [hc] at h2; cases h2
      | some z =>
        rw [hc] at h2
        simp only [Option.map_some, Option.some.injEq, DataW.lit.injEq, Lit.int.injEq, true_and] at h2
        rw [Option.map_some, ← h2]
        rfl
    · rw [List.getElem?_eq_none (by omega), List.getElem?_eq_none (by rw [Go.Fx.wvs, List.length_map]; show 64 ≤ i; omega)]
  have hv1 := hv0
  unfold World.var? at hv1
  rw [hg0] at hv1
  simp only [Option.bind_some] at hv1
  cases hh : W.heap[0]? with
  | none => rw [hh] at hv1; cases hv1
  | some o =>
    rw [hh] at hv1
    cases o with
    | cells cs t fr =>
      simp only [Option.some.injEq] at hv1
      subst hv1
      refine ⟨t, fr, ?_⟩
      rw [hh]
      have : cs = (Go.Fx.wvs Go.Fx.cubesL).toArray := by apply Array.ext'; simpa using hcs
      rw [this]
    | _ => cases hv1
end Go.Proofs.YtichejdalolfgaaGreatDoor
set_option linter.unusedVariables false
set_option linter.unusedSimpArgs false
namespace Go.Proofs.YtichejdalolfgaaGreatDoor
open Go.ChangeShapes Go.WideShapes Go.ChangeAt Go.RowKit
set_option maxRecDepth 100000 in
theorem liftedHoldDoes (os : Os) (started : os.Started) (H : Type) (enc : TypeId × Value → H) :
    ReturnsInHanded {} Tryz.checked os 3 .any (fun w args => (Rows.holdDoesSpec.pre enc Tryz.prog Tryz.f3 [] false w args ∧ laidMetH Tryz.prog laidL w) ∧ sizedMet enc Tryz.prog Tryz.f3 (OpenSpec.ofChange Rows.holdDoesSpec) false w args) (Rows.holdDoesSpec.post enc Tryz.prog Tryz.f3 false true false false) := by
  refine returnsInHanded_of_change_and (C := Tryz.checked) (X := fun w _ => laidMetH Tryz.prog laidL w) (fun _ _ _ hh h => h.of_heap hh) own started (by kernel_rfl) Tryz.func3
    (ChangeSpec.witness_shaped (enc := enc) (C := Tryz.checked) (os := os) (X := fun w _ => laidMetH Tryz.prog laidL w) false (World.doorLaid Tryz.prog 400 os) #[.int .i64 0, .int .i64 0, .slice none 0 0, .int .u8 0] 8 rfl (World.shaped_of_RefB (by kernel_rfl) (by kernel_rfl)) (by kernel_rfl) (by kernel_rfl) (by kernel_rfl) (door_met os _)) ?_
  intro W base args ds gs before hval0 hW _ _ hL _
  have hcub : Go.Fx.Cub W := cub_of_laid hL
  have hval : ∀ (j : Nat) t v, Tryz.f3.params[j]? = some t → args[j]? = some v → Value.okWide Tryz.prog W .any base t v := hval0
  have hW' := hW
  obtain ⟨p, q, hA0, hV, rfl, hfz, hnd⟩ := hW
  have hA : DataW.TrodAll enc Tryz.prog W 0 (fun _ => true) true Tryz.f3.params.toList args.toList ds p := hA0
  rw [Tryz.params3] at hA hval
  obtain ⟨v0, vs0, d0, ds0, p0, q0, hargs, rfl, rfl, h0, r0⟩ := trodAll_cons hA
  obtain ⟨v1, vs1, d1, ds1, p1, q1, rfl, rfl, rfl, h1, r1⟩ := trodAll_cons r0
  obtain ⟨v2, vs2, d2, ds2, p2, q2, rfl, rfl, rfl, h2, r2⟩ := trodAll_cons r1
  obtain ⟨v3, vs3, d3, ds3, p3, q3, rfl, rfl, rfl, h3, r3⟩ := trodAll_cons r2
  obtain ⟨rfl, rfl, rfl⟩ := trodAll_nil r3
  obtain rfl : args = #[v0, v1, v2, v3] := by cases args; simp_all
  obtain ⟨rfl, rfl⟩ := trodVars_none hV
  obtain ⟨a0, rfl, rfl, rfl, w0⟩ := open_int Tryz.underlying3 (hval 0 3 v0 rfl rfl) h0
  have b0 := bounds_i64 w0
  obtain ⟨a1, rfl, rfl, rfl, w1⟩ := open_int Tryz.underlying3 (hval 1 3 v1 rfl rfl) h1
  have b1 := bounds_i64 w1
  obtain ⟨a2, len2, cap2, rfl⟩ := okWide_slice Tryz.underlying22 (hval 2 22 v2 rfl rfl)
  have k2 := h2
  have lt2 : ∀ x ∈ p2, x.block < W.heap.size := by obtain ⟨m, hm⟩ := k2; exact DataW.trod_lt m _ _ _ hm
  obtain ⟨f2, hf2⟩ := h2
  have hx2 := Go.Fx.O_sl_flurrylaw23_Act hf2
  obtain ⟨l2, rd2⟩ := hx2
  obtain ⟨a3, rfl, rfl, rfl, w3⟩ := open_int Tryz.underlying5 (hval 3 5 v3 rfl rfl) h3
  have b3 := bounds_u8 w3
  obtain ⟨n3, rfl⟩ := Int.eq_ofNat_of_zero_le b3.1
  have b3 : n3 < 256 := by omega
  clear hA0 hval0
  have hcal := Go.Fx.wHoldDoes (a := a0) (b := a1) hcub rd2 b3
  refine Calls.mono hcal fun e W' ⟨v, he, hv, hf⟩ => ?_
  subst hv
  subst he
  have bel : Below W.heap.size W W' := hf.below (by simp)
  exact ⟨_, rfl, _, _, _, [], _, [], hW', trodAll_mk1 (shut_bool Tryz.underlying4 _), (trodAll_cons_mk (shut_int Tryz.underlying3 w0) (trodAll_cons_mk (shut_int Tryz.underlying3 w1) (trodAll_cons_mk (Below.trod laidOut (by kernel_rfl) (of_decide_eq_true (by kernel_rfl)) k2 bel lt2) (trodAll_cons_mk (shut_int Tryz.underlying5 w3) trodAll_mk0)))), rfl, bel.frame _, fun h => by cases h⟩
theorem holdDoes : Rows.HoldDoesSaid :=
  OpenClaim.holds_of_wide 3 Tryz.f3 rfl rfl rfl rfl rfl rfl rfl ⟨rfl, rfl, rfl, rfl, rfl⟩ rfl rfl rfl rfl rfl (by kernel_rfl) Tryz.func3 (by kernel_rfl)
    (of_decide_eq_true (by kernel_rfl)) (by unfold Func.isWrapper; first | (rw [if_pos (by decide +kernel)]; kernel_rfl) | (rw [if_neg (by decide +kernel)]; exact ⟨rfl, rfl⟩))
    (fun os started H enc _ => liftedHoldDoes os started H enc)
theorem holdDoesCard : Rows.HoldDoesCardSaid :=
  Claim7.holds_tied_plain_at .later [] [.data] true (true, "ffe63eeb9786bc3c91272c7662cfbcd70b6c89acb157f81dcae332e3b4071ec4") false
    holdDoes (fun _ h => by cases h) (by kernel_rfl) (fun _ h => by cases h) holdDoes_row_tie rfl ⟨rfl, rfl⟩ (by kernel_rfl) rfl
    (fun f fn hf hfn => by
      obtain rfl : f = 3 := Option.some.inj ((show Tryz.prog.funcNamed "flurry/flurrylaw23.HoldDoes" = some 3 by kernel_rfl).symm.trans hf) |>.symm
      obtain rfl : fn = Tryz.f3 := (Option.some.inj (Tryz.func3.symm.trans hfn)).symm
      exact ⟨by kernel_rfl, fun j t ht => by
        rw [Tryz.params3] at ht
        have hm : t ∈ [3, 3, 22, 5] := by simpa using Array.mem_of_getElem? ht
        have hall : ([3, 3, 22, 5].all fun u => !Tryz.prog.wantsStandIn u) = true := by kernel_rfl
        exact (show Tryz.prog.wantsStandIn t = false by simpa using List.all_eq_true.1 hall t hm)⟩)
    (by kernel_rfl)
#print axioms holdDoesCard
end Go.Proofs.YtichejdalolfgaaGreatDoor
