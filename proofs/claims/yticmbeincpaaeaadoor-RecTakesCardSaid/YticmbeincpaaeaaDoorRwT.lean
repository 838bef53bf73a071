/-
  RecTakes, walked.
-/
import Derived.Test.YticmbeincpaaeaaDoorRcD
set_option linter.unusedVariables false
set_option linter.unusedSimpArgs false
namespace Go.Fx
theorem wTakes9 {w : World} {v : Value} {l : List UInt8} {a : Int} (hc : Cub w) (hl : rBytes.ok w.heap ⟨v, l⟩) (ha : -9223372036854775808 ≤ a ∧ a ≤ 9223372036854775807) : cal P f_law09_RecTakes [v, .int .i64 a] w fun r w' => r = .bool true ∧ Fr [] w w' := by
  have hrd : RdB w.heap v l := hl.1
  have hll : l.length ≤ 9223372036854775807 := hl.2.1
  have hcap : capOk v := hl.2.2
  clear hl
  refine s_law09_RecTakes fun R hR => ?_
  unfold c_law09_RecTakes
  have lv : ∀ {z : World}, Fr [] w z → cal P f_law09_live [] z R := fun {z} hf => cal_i (live9_spec (hc.fr hf)) fun r w' hr => hR _ _ ⟨hr.1, hf.trans hr.2 (by simp) (by simp)⟩
  refine cal_i (live9_spec hc) ?_
  rintro _ w1 ⟨rfl, hf1⟩
  have hs1 := (Sep.start w).old hf1
  simp only [nilc_some, fad_mk, pik_true, pik_false, cnd_true, cnd_false, gif_same, gif_tf, gif_ft, gif_undef, bi_add, bi_sub, bi_mul, bi_eql, bi_neq, bi_lss, bi_leq, bi_gtr, bi_geq, notB_bool, cvi_int, lenS_mk, lenT_mk, ext0, ext1, ext2, nilP_mk, nilS_mk, fldv_agg, jn0_k, jn1_k, jn2_k, jn1_and, jn1_or, ex_some, Option.isNone_some, Option.isNone_none, Bool.false_bne, Bool.bne_true, Bool.bne_false, Bool.true_bne, Bool.not_true, Bool.not_false, Bool.and_true, Bool.true_and, Bool.and_false, Bool.false_and, Bool.or_true, Bool.true_or, Bool.or_false, Bool.false_or, cond_true, cond_false, List.getElem?_toArray, List.getElem?_cons_zero, List.getElem?_cons_succ, Nat.zero_add, Nat.add_zero, Nat.reduceAdd, forall_const, hrd.len]
  rw [cnd_bool]
  refine ⟨fun h => lv hs1.fr0, fun h => ?_⟩
  have hl3 : l.length ≤ 10000 := by simp at h; omega
  refine cal_i (bClone_spec (hs1.rdB hrd) (by omega)) ?_
  rintro vc w2 hs2
  replace hs2 := hs1.join hs2
  refine cal_i (recTake_spec (hc.fr hs2.fr0) (hs2.rdB hrd) hcap hll ha) ?_
  rintro _ w3 ⟨v3, rfl, hs3⟩
  replace hs3 := hs2.join hs3
  simp only [nilc_some, fad_mk, pik_true, pik_false, cnd_true, cnd_false, gif_same, gif_tf, gif_ft, gif_undef, bi_add, bi_sub, bi_mul, bi_eql, bi_neq, bi_lss, bi_leq, bi_gtr, bi_geq, notB_bool, cvi_int, lenS_mk, lenT_mk, ext0, ext1, ext2, nilP_mk, nilS_mk, fldv_agg, jn0_k, jn1_k, jn2_k, jn1_and, jn1_or, ex_some, Option.isNone_some, Option.isNone_none, Bool.false_bne, Bool.bne_true, Bool.bne_false, Bool.true_bne, Bool.not_true, Bool.not_false, Bool.and_true, Bool.true_and, Bool.and_false, Bool.false_and, Bool.or_true, Bool.true_or, Bool.or_false, Bool.false_or, cond_true, cond_false, List.getElem?_toArray, List.getElem?_cons_zero, List.getElem?_cons_succ, Nat.zero_add, Nat.add_zero, Nat.reduceAdd, forall_const]
  refine alloc_s hs3 (A_api_Block w3) fun g4 w4 hs4 => ?_
  refine St_api_Block hs4 (one_api_Block (Sep.one hs4.p1)) fun w5 hs5 => ?_
  refine cal_i (rRecTake_spec (hs5.rdB hrd) hcap hll ha) ?_
  rintro _ w6 ⟨v6, rfl, hs6⟩
  replace hs6 := hs5.join hs6
  simp only [nilc_some, fad_mk, pik_true, pik_false, cnd_true, cnd_false, gif_same, gif_tf, gif_ft, gif_undef, bi_add, bi_sub, bi_mul, bi_eql, bi_neq, bi_lss, bi_leq, bi_gtr, bi_geq, notB_bool, cvi_int, lenS_mk, lenT_mk, ext0, ext1, ext2, nilP_mk, nilS_mk, fldv_agg, jn0_k, jn1_k, jn2_k, jn1_and, jn1_or, ex_some, Option.isNone_some, Option.isNone_none, Bool.false_bne, Bool.bne_true, Bool.bne_false, Bool.true_bne, Bool.not_true, Bool.not_false, Bool.and_true, Bool.true_and, Bool.and_false, Bool.false_and, Bool.or_true, Bool.true_or, Bool.or_false, Bool.false_or, cond_true, cond_false, List.getElem?_toArray, List.getElem?_cons_zero, List.getElem?_cons_succ, Nat.zero_add, Nat.add_zero, Nat.reduceAdd, forall_const]
  refine alloc_s hs6 (A_api_Block w6) fun g7 w7 hs7 => ?_
  refine St_api_Block hs7 (one_api_Block (Sep.one hs7.p1)) fun w8 hs8 => ?_
  obtain ⟨T, hT⟩ : ∃ T, T = takeX l a := ⟨_, rfl⟩
  rw [← hT] at hs8
  rw [← hT]
  replace hs8 : Sep w w8 [bb g7 T.1 v6, ownB v6 T.1.d, bb g4 T.1 v3, ownB v3 T.1.d, ownB vc l] := hs8
  simp only [L_api_Block hs8.blk, L_api_Block__Parent hs8.blk, L_api_Block__Height hs8.blk, L_api_Block__Data hs8.blk, L_api_Block (Sep.p2 hs8).blk, L_api_Block__Parent (Sep.p2 hs8).blk, L_api_Block__Height (Sep.p2 hs8).blk, L_api_Block__Data (Sep.p2 hs8).blk]
  refine cal_i (rSame_spec (a := T.1) (b := T.1) (Sep.rd hs8.p3) (Sep.rd hs8.p1)) ?_
  rintro _ w9 ⟨rfl, hf9⟩
  have hs9 := hs8.old hf9
  have hd : T.1.d.length ≤ 10000 := by
    rw [hT]
    unfold takeX
    split
    · simp [Blk.none]
    · simp only
      have h := takeR_err (l.drop a.toNat)
      rcases h with h | ⟨h, _⟩
      · obtain ⟨x, n, hx⟩ : ∃ x n, takeR (l.drop a.toNat) = (x, n, 0) := ⟨_, _, by rw [← h]⟩
        have h2 := take_inv hx
        have h3 := x.rec_len
        have h4 := congrArg List.length h2.2.2.2
        rw [hx]
        simp only [List.length_append, List.length_drop] at h4
        show x.d.length ≤ 10000
        omega
      · rw [h]; simp [Blk.none]
  simp only [decide_true, nilc_some, fad_mk, pik_true, pik_false, cnd_true, cnd_false, gif_same, gif_tf, gif_ft, gif_undef, bi_add, bi_sub, bi_mul, bi_eql, bi_neq, bi_lss, bi_leq, bi_gtr, bi_geq, notB_bool, cvi_int, lenS_mk, lenT_mk, ext0, ext1, ext2, nilP_mk, nilS_mk, fldv_agg, jn0_k, jn1_k, jn2_k, jn1_and, jn1_or, ex_some, Option.isNone_some, Option.isNone_none, Bool.false_bne, Bool.bne_true, Bool.bne_false, Bool.true_bne, Bool.not_true, Bool.not_false, Bool.and_true, Bool.true_and, Bool.and_false, Bool.false_and, Bool.or_true, Bool.true_or, Bool.or_false, Bool.false_or, cond_true, cond_false, List.getElem?_toArray, List.getElem?_cons_zero, List.getElem?_cons_succ, Nat.zero_add, Nat.add_zero, Nat.reduceAdd, forall_const, bne_self_eq_false, L_api_Block (Sep.p2 hs9).blk, L_api_Block__Parent (Sep.p2 hs9).blk, L_api_Block__Height (Sep.p2 hs9).blk, L_api_Block__Data (Sep.p2 hs9).blk, (Sep.rd hs9.p3).len]
  replace hs9 := hs9.pick [3, 2, 4] 5
  refine ⟨fun y w' => ∃ i : Nat, y = .int .i64 i ∧ i ≤ T.1.d.length ∧ Sep w w' [ownB v3 (flip T.1.d i), bb g4 T.1 v3, ownB vc l], fun y _ => (T.1.d.length - RowKit.intOf y).toNat, ⟨0, rfl, by omega, by rw [flip_zero]; exact Sep.dropR (As := [ownB v3 T.1.d, bb g4 T.1 v3, ownB vc l]) hs9⟩, ?_⟩
  rintro _ w10 ⟨i, rfl, hi, hs10⟩ -
  simp only [nilc_some, fad_mk, pik_true, pik_false, cnd_true, cnd_false, gif_same, gif_tf, gif_ft, gif_undef, bi_add, bi_sub, bi_mul, bi_eql, bi_neq, bi_lss, bi_leq, bi_gtr, bi_geq, notB_bool, cvi_int, lenS_mk, lenT_mk, ext0, ext1, ext2, nilP_mk, nilS_mk, fldv_agg, jn0_k, jn1_k, jn2_k, jn1_and, jn1_or, ex_some, Option.isNone_some, Option.isNone_none, Bool.false_bne, Bool.bne_true, Bool.bne_false, Bool.true_bne, Bool.not_true, Bool.not_false, Bool.and_true, Bool.true_and, Bool.and_false, Bool.false_and, Bool.or_true, Bool.true_or, Bool.or_false, Bool.false_or, cond_true, cond_false, List.getElem?_toArray, List.getElem?_cons_zero, List.getElem?_cons_succ, Nat.zero_add, Nat.add_zero, Nat.reduceAdd, forall_const]
  rw [cnd_bool]
  refine ⟨fun hlt => ?_, fun hlt => ?_⟩
  · have hlt : i < T.1.d.length := by simp at hlt; omega
    simp only [L_api_Block (Sep.p1 hs10).blk, L_api_Block__Parent (Sep.p1 hs10).blk, L_api_Block__Height (Sep.p1 hs10).blk, L_api_Block__Data (Sep.p1 hs10).blk]
    refine ldxB_s hs10 (by rw [flip_len]; exact hlt) ?_
    rw [xor255, flip_get hlt]
    refine stxB_s hs10 (by rw [flip_len]; exact hlt) _ fun w11 hs11 => ?_
    rw [flip_set hlt] at hs11
    rw [wi64 (by omega) (by omega)]
    exact ⟨⟨i + 1, by simp, by omega, hs11⟩, by simp [RowKit.intOf]; omega⟩
  · refine cal_i (bEqual_spec (hs10.rdB hrd) (Sep.rd hs10.p2)) ?_
    rintro _ _ ⟨rfl, rfl⟩
    rw [beq_self_eq_true]
    exact hR _ _ ⟨rfl, hs10.fr0⟩
end Go.Fx
