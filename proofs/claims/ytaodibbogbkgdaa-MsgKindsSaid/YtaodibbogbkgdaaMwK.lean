/-
  MsgKinds, walked.
-/
import Derived.Test.YtaodibbogbkgdaaMgP
set_option linter.unusedVariables false
set_option linter.unusedSimpArgs false
namespace Go.Fx
def reply (k : Int) : Int := if k = 1 then 2 else if k = 3 then 4 else if k = 5 then 6 else if k = 7 then 8 else if k = 9 ∨ k = 10 then 11 else 0
theorem mReply_spec {w : World} (k : Int) : cal P f_msg_Reply [.int .i64 k] w fun r w' => r = .int .i64 (reply k) ∧ w = w' := by
  refine s_msg_Reply fun R hR => ?_
  unfold c_msg_Reply
  by_cases h : 1 ≤ k ∧ k ≤ 11
  · rcases k11 h with rfl | rfl | rfl | rfl | rfl | rfl | rfl | rfl | rfl | rfl | rfl <;> simp only [nilc_some, fad_mk, pik_true, pik_false, cnd_true, cnd_false, gif_same, gif_tf, gif_ft, gif_undef, bi_add, bi_sub, bi_mul, bi_eql, bi_neq, bi_lss, bi_leq, bi_gtr, bi_geq, notB_bool, cvi_int, lenS_mk, lenT_mk, ext0, ext1, ext2, nilP_mk, nilS_mk, fldv_agg, jn0_k, jn1_k, jn2_k, jn1_and, jn1_or, ex_some, Option.isNone_some, Option.isNone_none, Bool.false_bne, Bool.bne_true, Bool.bne_false, Bool.true_bne, Bool.not_true, Bool.not_false, Bool.and_true, Bool.true_and, Bool.and_false, Bool.false_and, Bool.or_true, Bool.true_or, Bool.or_false, Bool.false_or, cond_true, cond_false, List.getElem?_toArray, List.getElem?_cons_zero, List.getElem?_cons_succ, Nat.zero_add, Nat.add_zero, Nat.reduceAdd, forall_const, Int.reduceBEq] <;> exact hR _ _ ⟨rfl, rfl⟩
  · have e : ∀ i : Int, 1 ≤ i → i ≤ 11 → (k == i) = false := fun i h1 h2 => kno h h1 h2
    simp only [nilc_some, fad_mk, pik_true, pik_false, cnd_true, cnd_false, gif_same, gif_tf, gif_ft, gif_undef, bi_add, bi_sub, bi_mul, bi_eql, bi_neq, bi_lss, bi_leq, bi_gtr, bi_geq, notB_bool, cvi_int, lenS_mk, lenT_mk, ext0, ext1, ext2, nilP_mk, nilS_mk, fldv_agg, jn0_k, jn1_k, jn2_k, jn1_and, jn1_or, ex_some, Option.isNone_some, Option.isNone_none, Bool.false_bne, Bool.bne_true, Bool.bne_false, Bool.true_bne, Bool.not_true, Bool.not_false, Bool.and_true, Bool.true_and, Bool.and_false, Bool.false_and, Bool.or_true, Bool.true_or, Bool.or_false, Bool.false_or, cond_true, cond_false, List.getElem?_toArray, List.getElem?_cons_zero, List.getElem?_cons_succ, Nat.zero_add, Nat.add_zero, Nat.reduceAdd, forall_const, e 1 (by decide) (by decide), e 2 (by decide) (by decide), e 3 (by decide) (by decide), e 4 (by decide) (by decide), e 5 (by decide) (by decide), e 6 (by decide) (by decide), e 7 (by decide) (by decide), e 8 (by decide) (by decide), e 9 (by decide) (by decide), e 10 (by decide) (by decide), e 11 (by decide) (by decide)]
    refine hR _ _ ⟨?_, rfl⟩
    unfold reply
    repeat rw [if_neg (by omega)]
theorem rReply_spec {w : World} (k : Int) : cal P f_ref04_Reply [.int .i64 k] w fun r w' => r = .int .i64 (reply k) ∧ w = w' := by
  refine s_ref04_Reply fun R hR => ?_
  unfold c_ref04_Reply
  by_cases h : 1 ≤ k ∧ k ≤ 11
  · rcases k11 h with rfl | rfl | rfl | rfl | rfl | rfl | rfl | rfl | rfl | rfl | rfl <;> simp only [nilc_some, fad_mk, pik_true, pik_false, cnd_true, cnd_false, gif_same, gif_tf, gif_ft, gif_undef, bi_add, bi_sub, bi_mul, bi_eql, bi_neq, bi_lss, bi_leq, bi_gtr, bi_geq, notB_bool, cvi_int, lenS_mk, lenT_mk, ext0, ext1, ext2, nilP_mk, nilS_mk, fldv_agg, jn0_k, jn1_k, jn2_k, jn1_and, jn1_or, ex_some, Option.isNone_some, Option.isNone_none, Bool.false_bne, Bool.bne_true, Bool.bne_false, Bool.true_bne, Bool.not_true, Bool.not_false, Bool.and_true, Bool.true_and, Bool.and_false, Bool.false_and, Bool.or_true, Bool.true_or, Bool.or_false, Bool.false_or, cond_true, cond_false, List.getElem?_toArray, List.getElem?_cons_zero, List.getElem?_cons_succ, Nat.zero_add, Nat.add_zero, Nat.reduceAdd, forall_const, Int.reduceBEq] <;> exact hR _ _ ⟨rfl, rfl⟩
  · have e : ∀ i : Int, 1 ≤ i → i ≤ 11 → (k == i) = false := fun i h1 h2 => kno h h1 h2
    simp only [nilc_some, fad_mk, pik_true, pik_false, cnd_true, cnd_false, gif_same, gif_tf, gif_ft, gif_undef, bi_add, bi_sub, bi_mul, bi_eql, bi_neq, bi_lss, bi_leq, bi_gtr, bi_geq, notB_bool, cvi_int, lenS_mk, lenT_mk, ext0, ext1, ext2, nilP_mk, nilS_mk, fldv_agg, jn0_k, jn1_k, jn2_k, jn1_and, jn1_or, ex_some, Option.isNone_some, Option.isNone_none, Bool.false_bne, Bool.bne_true, Bool.bne_false, Bool.true_bne, Bool.not_true, Bool.not_false, Bool.and_true, Bool.true_and, Bool.and_false, Bool.false_and, Bool.or_true, Bool.true_or, Bool.or_false, Bool.false_or, cond_true, cond_false, List.getElem?_toArray, List.getElem?_cons_zero, List.getElem?_cons_succ, Nat.zero_add, Nat.add_zero, Nat.reduceAdd, forall_const, e 1 (by decide) (by decide), e 2 (by decide) (by decide), e 3 (by decide) (by decide), e 4 (by decide) (by decide), e 5 (by decide) (by decide), e 6 (by decide) (by decide), e 7 (by decide) (by decide), e 8 (by decide) (by decide), e 9 (by decide) (by decide), e 10 (by decide) (by decide), e 11 (by decide) (by decide)]
    refine hR _ _ ⟨?_, rfl⟩
    unfold reply
    repeat rw [if_neg (by omega)]
def kname (k : Int) : List UInt8 :=
  if k = 1 then [103, 101, 116, 95, 102, 114, 111, 110, 116, 105, 101, 114] else if k = 2 then [102, 114, 111, 110, 116, 105, 101, 114]
  else if k = 3 then [103, 101, 116, 95, 97, 99, 99, 101, 112, 116, 101, 100] else if k = 4 then [97, 99, 99, 101, 112, 116, 101, 100]
  else if k = 5 then [103, 101, 116, 95, 97, 110, 99, 101, 115, 116, 111, 114, 115] else if k = 6 then [97, 110, 99, 101, 115, 116, 111, 114, 115]
  else if k = 7 then [103, 101, 116] else if k = 8 then [112, 117, 116] else if k = 9 then [112, 117, 115, 104, 95, 113, 117, 101, 114, 121]
  else if k = 10 then [112, 117, 108, 108, 95, 113, 117, 101, 114, 121] else if k = 11 then [99, 104, 105, 116, 115] else []
theorem rName_spec {w : World} (k : Int) : cal P f_ref04_Name [.int .i64 k] w fun r w' => r = .string ⟨(kname k).toArray⟩ ∧ w = w' := by
  refine s_ref04_Name fun R hR => ?_
  unfold c_ref04_Name
  by_cases h : 1 ≤ k ∧ k ≤ 11
  · rcases k11 h with rfl | rfl | rfl | rfl | rfl | rfl | rfl | rfl | rfl | rfl | rfl <;> simp only [nilc_some, fad_mk, pik_true, pik_false, cnd_true, cnd_false, gif_same, gif_tf, gif_ft, gif_undef, bi_add, bi_sub, bi_mul, bi_eql, bi_neq, bi_lss, bi_leq, bi_gtr, bi_geq, notB_bool, cvi_int, lenS_mk, lenT_mk, ext0, ext1, ext2, nilP_mk, nilS_mk, fldv_agg, jn0_k, jn1_k, jn2_k, jn1_and, jn1_or, ex_some, Option.isNone_some, Option.isNone_none, Bool.false_bne, Bool.bne_true, Bool.bne_false, Bool.true_bne, Bool.not_true, Bool.not_false, Bool.and_true, Bool.true_and, Bool.and_false, Bool.false_and, Bool.or_true, Bool.true_or, Bool.or_false, Bool.false_or, cond_true, cond_false, List.getElem?_toArray, List.getElem?_cons_zero, List.getElem?_cons_succ, Nat.zero_add, Nat.add_zero, Nat.reduceAdd, forall_const, Int.reduceBEq] <;> exact hR _ _ ⟨rfl, rfl⟩
  · have e : ∀ i : Int, 1 ≤ i → i ≤ 11 → (k == i) = false := fun i h1 h2 => kno h h1 h2
    simp only [nilc_some, fad_mk, pik_true, pik_false, cnd_true, cnd_false, gif_same, gif_tf, gif_ft, gif_undef, bi_add, bi_sub, bi_mul, bi_eql, bi_neq, bi_lss, bi_leq, bi_gtr, bi_geq, notB_bool, cvi_int, lenS_mk, lenT_mk, ext0, ext1, ext2, nilP_mk, nilS_mk, fldv_agg, jn0_k, jn1_k, jn2_k, jn1_and, jn1_or, ex_some, Option.isNone_some, Option.isNone_none, Bool.false_bne, Bool.bne_true, Bool.bne_false, Bool.true_bne, Bool.not_true, Bool.not_false, Bool.and_true, Bool.true_and, Bool.and_false, Bool.false_and, Bool.or_true, Bool.true_or, Bool.or_false, Bool.false_or, cond_true, cond_false, List.getElem?_toArray, List.getElem?_cons_zero, List.getElem?_cons_succ, Nat.zero_add, Nat.add_zero, Nat.reduceAdd, forall_const, e 1 (by decide) (by decide), e 2 (by decide) (by decide), e 3 (by decide) (by decide), e 4 (by decide) (by decide), e 5 (by decide) (by decide), e 6 (by decide) (by decide), e 7 (by decide) (by decide), e 8 (by decide) (by decide), e 9 (by decide) (by decide), e 10 (by decide) (by decide), e 11 (by decide) (by decide)]
    refine hR _ _ ⟨?_, rfl⟩
    unfold kname
    repeat rw [if_neg (by omega)]
def knames : Array Value := #[.string ⟨(kname 0).toArray⟩, .string ⟨(kname 1).toArray⟩, .string ⟨(kname 2).toArray⟩, .string ⟨(kname 3).toArray⟩, .string ⟨(kname 4).toArray⟩, .string ⟨(kname 5).toArray⟩, .string ⟨(kname 6).toArray⟩, .string ⟨(kname 7).toArray⟩, .string ⟨(kname 8).toArray⟩, .string ⟨(kname 9).toArray⟩, .string ⟨(kname 10).toArray⟩, .string ⟨(kname 11).toArray⟩]
theorem mName_spec {w : World} (k : Int) : cal P f_msg_Name [.int .i64 k] w fun r w' => r = .string ⟨(kname k).toArray⟩ ∧ Fr [] w w' := by
  refine s_msg_Name fun R hR => ?_
  unfold c_msg_Name
  rw [rdP_eq (v := .agg knames) (by kernel_rfl)]
  refine alloc_s (Sep.start w) (al_a12_string w) fun g w1 hs1 => ?_
  refine stN_s hs1 rfl (by simp) (by decide) fun w2 hs2 => ?_
  have e : splice (List.replicate 12 (Value.string { data := #[] }) : List Value).toArray 0 knames.toList = knames := by rfl
  rw [e] at hs2
  have ld : ∀ {j : Nat} {K : Value → Prop}, j < 12 → K (.string ⟨(kname j).toArray⟩) → Go.Fx.ld1 (.pointer (some ⟨g, j, none⟩)) w2.heap K := fun {j K} hj hk => by
    have hg := hs2.blk
    have : j = 0 ∨ j = 1 ∨ j = 2 ∨ j = 3 ∨ j = 4 ∨ j = 5 ∨ j = 6 ∨ j = 7 ∨ j = 8 ∨ j = 9 ∨ j = 10 ∨ j = 11 := by omega
    rcases this with rfl | rfl | rfl | rfl | rfl | rfl | rfl | rfl | rfl | rfl | rfl | rfl <;> exact ld1_i hg rfl hk
  simp only [nilc_some, fad_mk, pik_true, pik_false, cnd_true, cnd_false, gif_same, gif_tf, gif_ft, gif_undef, bi_add, bi_sub, bi_mul, bi_eql, bi_neq, bi_lss, bi_leq, bi_gtr, bi_geq, notB_bool, cvi_int, lenS_mk, lenT_mk, ext0, ext1, ext2, nilP_mk, nilS_mk, fldv_agg, jn0_k, jn1_k, jn2_k, jn1_and, jn1_or, ex_some, Option.isNone_some, Option.isNone_none, Bool.false_bne, Bool.bne_true, Bool.bne_false, Bool.true_bne, Bool.not_true, Bool.not_false, Bool.and_true, Bool.true_and, Bool.and_false, Bool.false_and, Bool.or_true, Bool.true_or, Bool.or_false, Bool.false_or, cond_true, cond_false, List.getElem?_toArray, List.getElem?_cons_zero, List.getElem?_cons_succ, Nat.zero_add, Nat.add_zero, Nat.reduceAdd, forall_const]
  rw [cnd_bool]
  refine ⟨fun h => ?_, fun h => ?_⟩
  · simp only [Bool.or_eq_true, decide_eq_true_eq] at h
    refine hR _ _ ⟨?_, hs2.fr0⟩
    unfold kname
    repeat rw [if_neg (by omega)]
  · simp only [Bool.or_eq_false_iff, decide_eq_false_iff_not] at h
    obtain ⟨j, rfl⟩ : ∃ j : Nat, k = j := ⟨k.toNat, by omega⟩
    rw [ixa_w .i64 (by omega)]
    exact ld (by omega) (hR _ _ ⟨rfl, hs2.fr0⟩)
theorem wKinds {w : World} (k : Int) : cal P f_law04_MsgKinds [.int .i64 k] w fun r w' => r = .bool true ∧ Fr [] w w' := by
  refine s_law04_MsgKinds fun R hR => ?_
  unfold c_law04_MsgKinds
  refine cal_i (begun_spec _) ?_
  rintro _ w1 ⟨rfl, hf1⟩
  simp only [nilc_some, fad_mk, pik_true, pik_false, cnd_true, cnd_false, gif_same, gif_tf, gif_ft, gif_undef, bi_add, bi_sub, bi_mul, bi_eql, bi_neq, bi_lss, bi_leq, bi_gtr, bi_geq, notB_bool, cvi_int, lenS_mk, lenT_mk, ext0, ext1, ext2, nilP_mk, nilS_mk, fldv_agg, jn0_k, jn1_k, jn2_k, jn1_and, jn1_or, ex_some, Option.isNone_some, Option.isNone_none, Bool.false_bne, Bool.bne_true, Bool.bne_false, Bool.true_bne, Bool.not_true, Bool.not_false, Bool.and_true, Bool.true_and, Bool.and_false, Bool.false_and, Bool.or_true, Bool.true_or, Bool.or_false, Bool.false_or, cond_true, cond_false, List.getElem?_toArray, List.getElem?_cons_zero, List.getElem?_cons_succ, Nat.zero_add, Nat.add_zero, Nat.reduceAdd, forall_const]
  refine jn1_dup ?_
  refine cal_i (mReply_spec k) ?_
  rintro _ _ ⟨rfl, rfl⟩
  refine cal_i (rReply_spec k) ?_
  rintro _ _ ⟨rfl, rfl⟩
  simp only [nilc_some, fad_mk, pik_true, pik_false, cnd_true, cnd_false, gif_same, gif_tf, gif_ft, gif_undef, bi_add, bi_sub, bi_mul, bi_eql, bi_neq, bi_lss, bi_leq, bi_gtr, bi_geq, notB_bool, cvi_int, lenS_mk, lenT_mk, ext0, ext1, ext2, nilP_mk, nilS_mk, fldv_agg, jn0_k, jn1_k, jn2_k, jn1_and, jn1_or, ex_some, Option.isNone_some, Option.isNone_none, Bool.false_bne, Bool.bne_true, Bool.bne_false, Bool.true_bne, Bool.not_true, Bool.not_false, Bool.and_true, Bool.true_and, Bool.and_false, Bool.false_and, Bool.or_true, Bool.true_or, Bool.or_false, Bool.false_or, cond_true, cond_false, List.getElem?_toArray, List.getElem?_cons_zero, List.getElem?_cons_succ, Nat.zero_add, Nat.add_zero, Nat.reduceAdd, forall_const, beq_self_eq_true]
  refine jn1_dup ?_
  refine cal_i (mName_spec k) ?_
  rintro _ w2 ⟨rfl, hf2⟩
  refine cal_i (rName_spec k) ?_
  rintro _ _ ⟨rfl, rfl⟩
  rw [eqS_str]
  simp only [nilc_some, fad_mk, pik_true, pik_false, cnd_true, cnd_false, gif_same, gif_tf, gif_ft, gif_undef, bi_add, bi_sub, bi_mul, bi_eql, bi_neq, bi_lss, bi_leq, bi_gtr, bi_geq, notB_bool, cvi_int, lenS_mk, lenT_mk, ext0, ext1, ext2, nilP_mk, nilS_mk, fldv_agg, jn0_k, jn1_k, jn2_k, jn1_and, jn1_or, ex_some, Option.isNone_some, Option.isNone_none, Bool.false_bne, Bool.bne_true, Bool.bne_false, Bool.true_bne, Bool.not_true, Bool.not_false, Bool.and_true, Bool.true_and, Bool.and_false, Bool.false_and, Bool.or_true, Bool.true_or, Bool.or_false, Bool.false_or, cond_true, cond_false, List.getElem?_toArray, List.getElem?_cons_zero, List.getElem?_cons_succ, Nat.zero_add, Nat.add_zero, Nat.reduceAdd, forall_const, beq_self_eq_true]
  exact hR _ _ ⟨rfl, hf1.trans hf2 (by simp) (by simp)⟩
end Go.Fx
