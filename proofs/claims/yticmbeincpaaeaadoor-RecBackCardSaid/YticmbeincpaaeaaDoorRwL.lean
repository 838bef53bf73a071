/-
  RecLays, walked.
-/
import Derived.Test.YticmbeincpaaeaaDoorRcD
set_option linter.unusedVariables false
set_option linter.unusedSimpArgs false
namespace Go.Fx
/-- Blocks that are handed in. -/
theorem rows_arg {h : Heap} {s : Sl (Vec 32 × Int × Sl UInt8)} (hs : (rSl R_api_Block).ok h s) : ∃ l : List BV, BRows h s.v l ∧ capOk s.v ∧ l.length ≤ 9223372036854775807 ∧ (∀ x ∈ l, x.1.h ≤ maxI) ∧ ∀ x ∈ l, x.1.d.length ≤ 9223372036854775807 := by
  obtain ⟨h1, h2, h3, h4⟩ := hs
  refine ⟨s.l.map fun x => (ab x, x.2.2.v), ⟨?_, fun x hx => ?_⟩, h3, by simpa using h2, fun x hx => ?_, fun x hx => ?_⟩
  · have e : s.l.flatMap R_api_Block.cells = ((s.l.map fun x => (ab x, x.2.2.v)).map BV.t).flatMap Q_api_Block.cells := by
      generalize s.l = l
      induction l with
      | nil => rfl
      | cons a l ih => rw [List.flatMap_cons, ih]; rfl
    unfold Rows'
    rw [e] at h1
    simp only [List.length_map] at h1 ⊢
    exact h1
  · obtain ⟨y, hy, rfl⟩ := List.mem_map.1 hx
    exact ab_rd (h4 y hy)
  · obtain ⟨y, hy, rfl⟩ := List.mem_map.1 hx
    exact ab_h (h4 y hy)
  · obtain ⟨y, hy, rfl⟩ := List.mem_map.1 hx
    exact ab_len (h4 y hy)
theorem wLays9 {w : World} {s : Sl (Vec 32 × Int × Sl UInt8)} (hc : Cub w) (hs0 : (rSl R_api_Block).ok w.heap s) : cal P f_law09_RecLays [s.v] w fun r w' => r = .bool true ∧ Fr [] w w' := by
  obtain ⟨l, hr, hcap, hl63, hh, _⟩ := rows_arg hs0
  generalize s.v = v at *
  clear hs0
  refine s_law09_RecLays fun R hR => ?_
  unfold c_law09_RecLays
  have lv : ∀ {z : World}, Fr [] w z → cal P f_law09_live [] z R := fun {z} hf => cal_i (live9_spec (hc.fr hf)) fun r w' hr => hR _ _ ⟨hr.1, hf.trans hr.2 (by simp) (by simp)⟩
  refine cal_i (live9_spec hc) ?_
  rintro _ w1 ⟨rfl, hf1⟩
  have hs1 := (Sep.start w).old hf1
  simp only [nilc_some, fad_mk, pik_true, pik_false, cnd_true, cnd_false, gif_same, gif_tf, gif_ft, gif_undef, bi_add, bi_sub, bi_mul, bi_eql, bi_neq, bi_lss, bi_leq, bi_gtr, bi_geq, notB_bool, cvi_int, lenS_mk, lenT_mk, ext0, ext1, ext2, nilP_mk, nilS_mk, fldv_agg, jn0_k, jn1_k, jn2_k, jn1_and, jn1_or, ex_some, Option.isNone_some, Option.isNone_none, Bool.false_bne, Bool.bne_true, Bool.bne_false, Bool.true_bne, Bool.not_true, Bool.not_false, Bool.and_true, Bool.true_and, Bool.and_false, Bool.false_and, Bool.or_true, Bool.true_or, Bool.or_false, Bool.false_or, cond_true, cond_false, List.getElem?_toArray, List.getElem?_cons_zero, List.getElem?_cons_succ, Nat.zero_add, Nat.add_zero, Nat.reduceAdd, forall_const]
  refine jn1_dup ?_
  refine cal_i (few9_spec (hr.fr hf1) hcap hl63) ?_
  rintro _ w2 ⟨hf2, t, rfl, ht⟩
  have hs2 := hs1.old hf2
  cases t with
  | false =>
    simp only [nilc_some, fad_mk, pik_true, pik_false, cnd_true, cnd_false, gif_same, gif_tf, gif_ft, gif_undef, bi_add, bi_sub, bi_mul, bi_eql, bi_neq, bi_lss, bi_leq, bi_gtr, bi_geq, notB_bool, cvi_int, lenS_mk, lenT_mk, ext0, ext1, ext2, nilP_mk, nilS_mk, fldv_agg, jn0_k, jn1_k, jn2_k, jn1_and, jn1_or, ex_some, Option.isNone_some, Option.isNone_none, Bool.false_bne, Bool.bne_true, Bool.bne_false, Bool.true_bne, Bool.not_true, Bool.not_false, Bool.and_true, Bool.true_and, Bool.and_false, Bool.false_and, Bool.or_true, Bool.true_or, Bool.or_false, Bool.false_or, cond_true, cond_false, List.getElem?_toArray, List.getElem?_cons_zero, List.getElem?_cons_succ, Nat.zero_add, Nat.add_zero, Nat.reduceAdd, forall_const]
    exact lv hs2.fr0
  | true =>
    obtain ⟨h30, hlen⟩ := ht rfl
    simp only [nilc_some, fad_mk, pik_true, pik_false, cnd_true, cnd_false, gif_same, gif_tf, gif_ft, gif_undef, bi_add, bi_sub, bi_mul, bi_eql, bi_neq, bi_lss, bi_leq, bi_gtr, bi_geq, notB_bool, cvi_int, lenS_mk, lenT_mk, ext0, ext1, ext2, nilP_mk, nilS_mk, fldv_agg, jn0_k, jn1_k, jn2_k, jn1_and, jn1_or, ex_some, Option.isNone_some, Option.isNone_none, Bool.false_bne, Bool.bne_true, Bool.bne_false, Bool.true_bne, Bool.not_true, Bool.not_false, Bool.and_true, Bool.true_and, Bool.and_false, Bool.false_and, Bool.or_true, Bool.true_or, Bool.or_false, Bool.false_or, cond_true, cond_false, List.getElem?_toArray, List.getElem?_cons_zero, List.getElem?_cons_succ, Nat.zero_add, Nat.add_zero, Nat.reduceAdd, forall_const, hr.len]
    refine ⟨fun y w' => ∃ i : Nat, y = .int .i64 i ∧ i ≤ l.length ∧ Sep w w' [], fun y _ => (l.length - RowKit.intOf y).toNat, ⟨0, rfl, by omega, hs2⟩, ?_⟩
    rintro _ w3 ⟨i, rfl, hi, hs3⟩ -
    simp only [nilc_some, fad_mk, pik_true, pik_false, cnd_true, cnd_false, gif_same, gif_tf, gif_ft, gif_undef, bi_add, bi_sub, bi_mul, bi_eql, bi_neq, bi_lss, bi_leq, bi_gtr, bi_geq, notB_bool, cvi_int, lenS_mk, lenT_mk, ext0, ext1, ext2, nilP_mk, nilS_mk, fldv_agg, jn0_k, jn1_k, jn2_k, jn1_and, jn1_or, ex_some, Option.isNone_some, Option.isNone_none, Bool.false_bne, Bool.bne_true, Bool.bne_false, Bool.true_bne, Bool.not_true, Bool.not_false, Bool.and_true, Bool.true_and, Bool.and_false, Bool.false_and, Bool.or_true, Bool.true_or, Bool.or_false, Bool.false_or, cond_true, cond_false, List.getElem?_toArray, List.getElem?_cons_zero, List.getElem?_cons_succ, Nat.zero_add, Nat.add_zero, Nat.reduceAdd, forall_const]
    rw [cnd_bool]
    refine ⟨fun h => ?_, fun h => ?_⟩
    · have hlt : i < l.length := by simp at h; omega
      have hx := List.getElem?_eq_getElem hlt
      generalize l[i] = x at hx
      have hm := List.mem_of_getElem? hx
      refine (hr.fr hs3.fr0).ld hx .i64 ?_
      refine alloc_s hs3 (A_api_Block w3) fun g w4 hs4 => ?_
      refine St_api_Block hs4 (one_api_Block (hr.get hx).one) fun w5 hs5 => ?_
      simp only [L_api_Block hs5.blk, L_api_Block__Parent hs5.blk, L_api_Block__Height hs5.blk, L_api_Block__Data hs5.blk]
      refine cal_i (recBytes_spec (b := x.1) (hc.fr hs5.fr0) (hs5.rdB (hr.get hx)) (hh x hm)) ?_
      rintro _ w6 ⟨s6, rfl, hs6⟩
      replace hs6 := hs5.join hs6
      simp only [nilc_some, fad_mk, pik_true, pik_false, cnd_true, cnd_false, gif_same, gif_tf, gif_ft, gif_undef, bi_add, bi_sub, bi_mul, bi_eql, bi_neq, bi_lss, bi_leq, bi_gtr, bi_geq, notB_bool, cvi_int, lenS_mk, lenT_mk, ext0, ext1, ext2, nilP_mk, nilS_mk, fldv_agg, jn0_k, jn1_k, jn2_k, jn1_and, jn1_or, ex_some, Option.isNone_some, Option.isNone_none, Bool.false_bne, Bool.bne_true, Bool.bne_false, Bool.true_bne, Bool.not_true, Bool.not_false, Bool.and_true, Bool.true_and, Bool.and_false, Bool.false_and, Bool.or_true, Bool.true_or, Bool.or_false, Bool.false_or, cond_true, cond_false, List.getElem?_toArray, List.getElem?_cons_zero, List.getElem?_cons_succ, Nat.zero_add, Nat.add_zero, Nat.reduceAdd, forall_const, L_api_Block (Sep.p1 hs6).blk, L_api_Block__Parent (Sep.p1 hs6).blk, L_api_Block__Height (Sep.p1 hs6).blk, L_api_Block__Data (Sep.p1 hs6).blk]
      refine cal_i (rRecBytes_spec (b := x.1) (hs6.rdB (hr.get hx)) (hh x hm)) ?_
      rintro _ w7 ⟨s7, rfl, hs7⟩
      replace hs7 := hs6.join hs7
      simp only [nilc_some, fad_mk, pik_true, pik_false, cnd_true, cnd_false, gif_same, gif_tf, gif_ft, gif_undef, bi_add, bi_sub, bi_mul, bi_eql, bi_neq, bi_lss, bi_leq, bi_gtr, bi_geq, notB_bool, cvi_int, lenS_mk, lenT_mk, ext0, ext1, ext2, nilP_mk, nilS_mk, fldv_agg, jn0_k, jn1_k, jn2_k, jn1_and, jn1_or, ex_some, Option.isNone_some, Option.isNone_none, Bool.false_bne, Bool.bne_true, Bool.bne_false, Bool.true_bne, Bool.not_true, Bool.not_false, Bool.and_true, Bool.true_and, Bool.and_false, Bool.false_and, Bool.or_true, Bool.true_or, Bool.or_false, Bool.false_or, cond_true, cond_false, List.getElem?_toArray, List.getElem?_cons_zero, List.getElem?_cons_succ, Nat.zero_add, Nat.add_zero, Nat.reduceAdd, forall_const]
      refine cal_i (bEqual_spec (Sep.rd (Sep.p1 hs7)) (Sep.rd hs7)) ?_
      rintro _ _ ⟨rfl, rfl⟩
      simp only [nilc_some, fad_mk, pik_true, pik_false, cnd_true, cnd_false, gif_same, gif_tf, gif_ft, gif_undef, bi_add, bi_sub, bi_mul, bi_eql, bi_neq, bi_lss, bi_leq, bi_gtr, bi_geq, notB_bool, cvi_int, lenS_mk, lenT_mk, ext0, ext1, ext2, nilP_mk, nilS_mk, fldv_agg, jn0_k, jn1_k, jn2_k, jn1_and, jn1_or, ex_some, Option.isNone_some, Option.isNone_none, Bool.false_bne, Bool.bne_true, Bool.bne_false, Bool.true_bne, Bool.not_true, Bool.not_false, Bool.and_true, Bool.true_and, Bool.and_false, Bool.false_and, Bool.or_true, Bool.true_or, Bool.or_false, Bool.false_or, cond_true, cond_false, List.getElem?_toArray, List.getElem?_cons_zero, List.getElem?_cons_succ, Nat.zero_add, Nat.add_zero, Nat.reduceAdd, forall_const, beq_self_eq_true, bne_self_eq_false, L_api_Block (Sep.p2 hs7).blk, L_api_Block__Parent (Sep.p2 hs7).blk, L_api_Block__Height (Sep.p2 hs7).blk, L_api_Block__Data (Sep.p2 hs7).blk]
      refine jn1_dup ?_
      refine cal_i (recSize_spec (b := x.1) (hs7.rdB (hr.get hx))) ?_
      rintro _ w8 ⟨rfl, hf8⟩
      have hs8 := hs7.old hf8
      simp only [nilc_some, fad_mk, pik_true, pik_false, cnd_true, cnd_false, gif_same, gif_tf, gif_ft, gif_undef, bi_add, bi_sub, bi_mul, bi_eql, bi_neq, bi_lss, bi_leq, bi_gtr, bi_geq, notB_bool, cvi_int, lenS_mk, lenT_mk, ext0, ext1, ext2, nilP_mk, nilS_mk, fldv_agg, jn0_k, jn1_k, jn2_k, jn1_and, jn1_or, ex_some, Option.isNone_some, Option.isNone_none, Bool.false_bne, Bool.bne_true, Bool.bne_false, Bool.true_bne, Bool.not_true, Bool.not_false, Bool.and_true, Bool.true_and, Bool.and_false, Bool.false_and, Bool.or_true, Bool.true_or, Bool.or_false, Bool.false_or, cond_true, cond_false, List.getElem?_toArray, List.getElem?_cons_zero, List.getElem?_cons_succ, Nat.zero_add, Nat.add_zero, Nat.reduceAdd, forall_const, (Sep.rd hs8).len, bne_self_eq_false]
      rw [wi64 (by omega) (by omega)]
      exact ⟨⟨i + 1, by simp, by omega, (Sep.start w).old hs8.fr0⟩, by simp [RowKit.intOf]; omega⟩
    · refine cal_i (recLay_spec (hc.fr hs3.fr0) (hr.fr hs3.fr0) (by omega) hh) ?_
      rintro _ w4 ⟨s4, rfl, hs4⟩
      replace hs4 := hs3.join hs4
      simp only [nilc_some, fad_mk, pik_true, pik_false, cnd_true, cnd_false, gif_same, gif_tf, gif_ft, gif_undef, bi_add, bi_sub, bi_mul, bi_eql, bi_neq, bi_lss, bi_leq, bi_gtr, bi_geq, notB_bool, cvi_int, lenS_mk, lenT_mk, ext0, ext1, ext2, nilP_mk, nilS_mk, fldv_agg, jn0_k, jn1_k, jn2_k, jn1_and, jn1_or, ex_some, Option.isNone_some, Option.isNone_none, Bool.false_bne, Bool.bne_true, Bool.bne_false, Bool.true_bne, Bool.not_true, Bool.not_false, Bool.and_true, Bool.true_and, Bool.and_false, Bool.false_and, Bool.or_true, Bool.true_or, Bool.or_false, Bool.false_or, cond_true, cond_false, List.getElem?_toArray, List.getElem?_cons_zero, List.getElem?_cons_succ, Nat.zero_add, Nat.add_zero, Nat.reduceAdd, forall_const]
      refine cal_i (rRecLay_spec (hr.fr hs4.fr0) (by omega) hh) ?_
      rintro _ w5 ⟨s5, rfl, hs5⟩
      replace hs5 := hs4.join hs5
      simp only [nilc_some, fad_mk, pik_true, pik_false, cnd_true, cnd_false, gif_same, gif_tf, gif_ft, gif_undef, bi_add, bi_sub, bi_mul, bi_eql, bi_neq, bi_lss, bi_leq, bi_gtr, bi_geq, notB_bool, cvi_int, lenS_mk, lenT_mk, ext0, ext1, ext2, nilP_mk, nilS_mk, fldv_agg, jn0_k, jn1_k, jn2_k, jn1_and, jn1_or, ex_some, Option.isNone_some, Option.isNone_none, Bool.false_bne, Bool.bne_true, Bool.bne_false, Bool.true_bne, Bool.not_true, Bool.not_false, Bool.and_true, Bool.true_and, Bool.and_false, Bool.false_and, Bool.or_true, Bool.true_or, Bool.or_false, Bool.false_or, cond_true, cond_false, List.getElem?_toArray, List.getElem?_cons_zero, List.getElem?_cons_succ, Nat.zero_add, Nat.add_zero, Nat.reduceAdd, forall_const]
      refine cal_i (bEqual_spec (Sep.rd (Sep.p1 hs5)) (Sep.rd hs5)) ?_
      rintro _ _ ⟨rfl, rfl⟩
      simp only [nilc_some, fad_mk, pik_true, pik_false, cnd_true, cnd_false, gif_same, gif_tf, gif_ft, gif_undef, bi_add, bi_sub, bi_mul, bi_eql, bi_neq, bi_lss, bi_leq, bi_gtr, bi_geq, notB_bool, cvi_int, lenS_mk, lenT_mk, ext0, ext1, ext2, nilP_mk, nilS_mk, fldv_agg, jn0_k, jn1_k, jn2_k, jn1_and, jn1_or, ex_some, Option.isNone_some, Option.isNone_none, Bool.false_bne, Bool.bne_true, Bool.bne_false, Bool.true_bne, Bool.not_true, Bool.not_false, Bool.and_true, Bool.true_and, Bool.and_false, Bool.false_and, Bool.or_true, Bool.true_or, Bool.or_false, Bool.false_or, cond_true, cond_false, List.getElem?_toArray, List.getElem?_cons_zero, List.getElem?_cons_succ, Nat.zero_add, Nat.add_zero, Nat.reduceAdd, forall_const, beq_self_eq_true]
      exact hR _ _ ⟨rfl, hs5.fr0⟩
end Go.Fx
