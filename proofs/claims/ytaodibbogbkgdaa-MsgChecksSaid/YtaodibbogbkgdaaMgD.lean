/-
  Which messages are the same; one in memory of its own: the program's and the document's.
-/
import Derived.Test.YtaodibbogbkgdaaMgC
set_option linter.unusedVariables false
set_option linter.unusedSimpArgs false
namespace Go.Fx
theorem Msg.ext_iff' {a b : Msg} : a = b ↔ a.k = b.k ∧ a.q = b.q ∧ a.ids = b.ids ∧ a.bs = b.bs := by
  cases a; cases b; simp
section
variable {w0 w : World} {As : List Asn} {iv bv iv' bv' u v : Value} {m n : Msg} {l l' : List (Sl UInt8)}
theorem mSame_spec (hr : MR w.heap m iv bv l) (hr' : MR w.heap n iv' bv' l') (hl : l.length ≤ 9223372036854775807) (hi : m.ids.length ≤ 9223372036854775807) :
    cal P f_msg_Same [mq m iv bv, mq n iv' bv'] w fun r w' => r = .bool (decide (m = n)) ∧ Fr [] w w' := by
  refine s_msg_Same fun R hR => ?_
  unfold c_msg_Same
  refine bxA (Sep.start w) fun g w1 hs => ?_
  refine bxA hs fun g2 w2 hs2 => ?_
  have fin : ∀ (c : Bool) (w' : World), Fr [] w w' → decide (m = n) = c → R (.bool c) w' := fun c w' hf hc => hR _ _ ⟨by rw [hc], hf⟩
  by_cases h1 : m.k = n.k
  · by_cases h2 : m.q = n.q
    · simp only [nilc_some, fad_mk, pik_true, pik_false, cnd_true, cnd_false, gif_same, gif_tf, gif_ft, gif_undef, bi_add, bi_sub, bi_mul, bi_eql, bi_neq, bi_lss, bi_leq, bi_gtr, bi_geq, notB_bool, cvi_int, lenS_mk, lenT_mk, ext0, ext1, ext2, nilP_mk, nilS_mk, fldv_agg, jn0_k, jn1_k, jn2_k, jn1_and, jn1_or, ex_some, Option.isNone_some, Option.isNone_none, Bool.false_bne, Bool.bne_true, Bool.bne_false, Bool.true_bne, Bool.not_true, Bool.not_false, Bool.and_true, Bool.true_and, Bool.and_false, Bool.false_and, Bool.or_true, Bool.true_or, Bool.or_false, Bool.false_or, cond_true, cond_false, List.getElem?_toArray, List.getElem?_cons_zero, List.getElem?_cons_succ, Nat.zero_add, Nat.add_zero, Nat.reduceAdd, forall_const, L_api_Msg hs2.blk, L_api_Msg__Kind hs2.blk, L_api_Msg__Req hs2.blk, L_api_Msg__IDs hs2.blk, L_api_Msg__Blocks hs2.blk, L_api_Msg (Sep.p1 hs2).blk, L_api_Msg__Kind (Sep.p1 hs2).blk, L_api_Msg__Req (Sep.p1 hs2).blk, L_api_Msg__IDs (Sep.p1 hs2).blk, L_api_Msg__Blocks (Sep.p1 hs2).blk, h1, h2, beq_self_eq_true]
      refine jn1_dup ?_
      refine cal_i (Equal_spec (hs2.mr hr).ids (hs2.mr hr').ids hi) ?_
      rintro _ w3 ⟨rfl, hf3⟩
      have hs3 := hs2.old hf3
      by_cases h3 : m.ids = n.ids
      · simp only [h3, decide_true, nilc_some, fad_mk, pik_true, pik_false, cnd_true, cnd_false, gif_same, gif_tf, gif_ft, gif_undef, bi_add, bi_sub, bi_mul, bi_eql, bi_neq, bi_lss, bi_leq, bi_gtr, bi_geq, notB_bool, cvi_int, lenS_mk, lenT_mk, ext0, ext1, ext2, nilP_mk, nilS_mk, fldv_agg, jn0_k, jn1_k, jn2_k, jn1_and, jn1_or, ex_some, Option.isNone_some, Option.isNone_none, Bool.false_bne, Bool.bne_true, Bool.bne_false, Bool.true_bne, Bool.not_true, Bool.not_false, Bool.and_true, Bool.true_and, Bool.and_false, Bool.false_and, Bool.or_true, Bool.true_or, Bool.or_false, Bool.false_or, cond_true, cond_false, List.getElem?_toArray, List.getElem?_cons_zero, List.getElem?_cons_succ, Nat.zero_add, Nat.add_zero, Nat.reduceAdd, forall_const, L_api_Msg hs3.blk, L_api_Msg__Kind hs3.blk, L_api_Msg__Req hs3.blk, L_api_Msg__IDs hs3.blk, L_api_Msg__Blocks hs3.blk, L_api_Msg (Sep.p1 hs3).blk, L_api_Msg__Kind (Sep.p1 hs3).blk, L_api_Msg__Req (Sep.p1 hs3).blk, L_api_Msg__IDs (Sep.p1 hs3).blk, L_api_Msg__Blocks (Sep.p1 hs3).blk]
        refine jn1_dup ?_
        refine cal_i (EqualFunc_spec (hs3.mr hr).bs (hs3.mr hr').bs hl) ?_
        rintro _ w4 ⟨rfl, hf4⟩ _
        refine fin _ _ (hs3.old hf4).fr0 ?_
        rw [← hr.eq, ← hr'.eq, decide_eq_decide, Msg.ext_iff']
        simp [h1, h2, h3]
      · simp only [h3, decide_false, nilc_some, fad_mk, pik_true, pik_false, cnd_true, cnd_false, gif_same, gif_tf, gif_ft, gif_undef, bi_add, bi_sub, bi_mul, bi_eql, bi_neq, bi_lss, bi_leq, bi_gtr, bi_geq, notB_bool, cvi_int, lenS_mk, lenT_mk, ext0, ext1, ext2, nilP_mk, nilS_mk, fldv_agg, jn0_k, jn1_k, jn2_k, jn1_and, jn1_or, ex_some, Option.isNone_some, Option.isNone_none, Bool.false_bne, Bool.bne_true, Bool.bne_false, Bool.true_bne, Bool.not_true, Bool.not_false, Bool.and_true, Bool.true_and, Bool.and_false, Bool.false_and, Bool.or_true, Bool.true_or, Bool.or_false, Bool.false_or, cond_true, cond_false, List.getElem?_toArray, List.getElem?_cons_zero, List.getElem?_cons_succ, Nat.zero_add, Nat.add_zero, Nat.reduceAdd, forall_const]
        exact fin _ _ hs3.fr0 (by simp [Msg.ext_iff', h3])
    · have e : (m.q == n.q) = false := by simpa using h2
      simp only [nilc_some, fad_mk, pik_true, pik_false, cnd_true, cnd_false, gif_same, gif_tf, gif_ft, gif_undef, bi_add, bi_sub, bi_mul, bi_eql, bi_neq, bi_lss, bi_leq, bi_gtr, bi_geq, notB_bool, cvi_int, lenS_mk, lenT_mk, ext0, ext1, ext2, nilP_mk, nilS_mk, fldv_agg, jn0_k, jn1_k, jn2_k, jn1_and, jn1_or, ex_some, Option.isNone_some, Option.isNone_none, Bool.false_bne, Bool.bne_true, Bool.bne_false, Bool.true_bne, Bool.not_true, Bool.not_false, Bool.and_true, Bool.true_and, Bool.and_false, Bool.false_and, Bool.or_true, Bool.true_or, Bool.or_false, Bool.false_or, cond_true, cond_false, List.getElem?_toArray, List.getElem?_cons_zero, List.getElem?_cons_succ, Nat.zero_add, Nat.add_zero, Nat.reduceAdd, forall_const, L_api_Msg hs2.blk, L_api_Msg__Kind hs2.blk, L_api_Msg__Req hs2.blk, L_api_Msg__IDs hs2.blk, L_api_Msg__Blocks hs2.blk, L_api_Msg (Sep.p1 hs2).blk, L_api_Msg__Kind (Sep.p1 hs2).blk, L_api_Msg__Req (Sep.p1 hs2).blk, L_api_Msg__IDs (Sep.p1 hs2).blk, L_api_Msg__Blocks (Sep.p1 hs2).blk, h1, e, beq_self_eq_true]
      exact fin _ _ hs2.fr0 (by simp [Msg.ext_iff', h2])
  · have e : (m.k == n.k) = false := by simpa using h1
    simp only [nilc_some, fad_mk, pik_true, pik_false, cnd_true, cnd_false, gif_same, gif_tf, gif_ft, gif_undef, bi_add, bi_sub, bi_mul, bi_eql, bi_neq, bi_lss, bi_leq, bi_gtr, bi_geq, notB_bool, cvi_int, lenS_mk, lenT_mk, ext0, ext1, ext2, nilP_mk, nilS_mk, fldv_agg, jn0_k, jn1_k, jn2_k, jn1_and, jn1_or, ex_some, Option.isNone_some, Option.isNone_none, Bool.false_bne, Bool.bne_true, Bool.bne_false, Bool.true_bne, Bool.not_true, Bool.not_false, Bool.and_true, Bool.true_and, Bool.and_false, Bool.false_and, Bool.or_true, Bool.true_or, Bool.or_false, Bool.false_or, cond_true, cond_false, List.getElem?_toArray, List.getElem?_cons_zero, List.getElem?_cons_succ, Nat.zero_add, Nat.add_zero, Nat.reduceAdd, forall_const, L_api_Msg hs2.blk, L_api_Msg__Kind hs2.blk, L_api_Msg__Req hs2.blk, L_api_Msg__IDs hs2.blk, L_api_Msg__Blocks hs2.blk, L_api_Msg (Sep.p1 hs2).blk, L_api_Msg__Kind (Sep.p1 hs2).blk, L_api_Msg__Req (Sep.p1 hs2).blk, L_api_Msg__IDs (Sep.p1 hs2).blk, L_api_Msg__Blocks (Sep.p1 hs2).blk, e]
    exact fin _ _ hs2.fr0 (by simp [Msg.ext_iff', h1])
theorem mrSame_spec (hr : MR w.heap m iv bv l) (hr' : MR w.heap n iv' bv' l') (hl : l.length ≤ 9223372036854775807) (hi : m.ids.length ≤ 9223372036854775807) :
    cal P f_ref04_Same [mq m iv bv, mq n iv' bv'] w fun r w' => r = .bool (decide (m = n)) ∧ Fr [] w w' := by
  refine s_ref04_Same fun R hR => ?_
  unfold c_ref04_Same
  refine bxA (Sep.start w) fun g w1 hs => ?_
  refine bxA hs fun g2 w2 hs2 => ?_
  have fin : ∀ (c : Bool) (w' : World), Fr [] w w' → decide (m = n) = c → R (.bool c) w' := fun c w' hf hc => hR _ _ ⟨by rw [hc], hf⟩
  have hli := (hs2.mr hr).ids.len
  have hli' := (hs2.mr hr').ids.len
  have hlb := (hs2.mr hr).bl
  have hlb' := (hs2.mr hr').bl
  by_cases h1 : m.k = n.k
  case neg =>
    have e : (m.k != n.k) = true := by simpa using h1
    simp only [nilc_some, fad_mk, pik_true, pik_false, cnd_true, cnd_false, gif_same, gif_tf, gif_ft, gif_undef, bi_add, bi_sub, bi_mul, bi_eql, bi_neq, bi_lss, bi_leq, bi_gtr, bi_geq, notB_bool, cvi_int, lenS_mk, lenT_mk, ext0, ext1, ext2, nilP_mk, nilS_mk, fldv_agg, jn0_k, jn1_k, jn2_k, jn1_and, jn1_or, ex_some, Option.isNone_some, Option.isNone_none, Bool.false_bne, Bool.bne_true, Bool.bne_false, Bool.true_bne, Bool.not_true, Bool.not_false, Bool.and_true, Bool.true_and, Bool.and_false, Bool.false_and, Bool.or_true, Bool.true_or, Bool.or_false, Bool.false_or, cond_true, cond_false, List.getElem?_toArray, List.getElem?_cons_zero, List.getElem?_cons_succ, Nat.zero_add, Nat.add_zero, Nat.reduceAdd, forall_const, L_api_Msg hs2.blk, L_api_Msg__Kind hs2.blk, L_api_Msg__Req hs2.blk, L_api_Msg__IDs hs2.blk, L_api_Msg__Blocks hs2.blk, L_api_Msg (Sep.p1 hs2).blk, L_api_Msg__Kind (Sep.p1 hs2).blk, L_api_Msg__Req (Sep.p1 hs2).blk, L_api_Msg__IDs (Sep.p1 hs2).blk, L_api_Msg__Blocks (Sep.p1 hs2).blk, e]
    exact fin _ _ hs2.fr0 (by simp [Msg.ext_iff', h1])
  have e1 : (m.k != n.k) = false := by simpa using h1
  by_cases h2 : m.q = n.q
  case neg =>
    have e : (m.q != n.q) = true := by simpa using h2
    simp only [nilc_some, fad_mk, pik_true, pik_false, cnd_true, cnd_false, gif_same, gif_tf, gif_ft, gif_undef, bi_add, bi_sub, bi_mul, bi_eql, bi_neq, bi_lss, bi_leq, bi_gtr, bi_geq, notB_bool, cvi_int, lenS_mk, lenT_mk, ext0, ext1, ext2, nilP_mk, nilS_mk, fldv_agg, jn0_k, jn1_k, jn2_k, jn1_and, jn1_or, ex_some, Option.isNone_some, Option.isNone_none, Bool.false_bne, Bool.bne_true, Bool.bne_false, Bool.true_bne, Bool.not_true, Bool.not_false, Bool.and_true, Bool.true_and, Bool.and_false, Bool.false_and, Bool.or_true, Bool.true_or, Bool.or_false, Bool.false_or, cond_true, cond_false, List.getElem?_toArray, List.getElem?_cons_zero, List.getElem?_cons_succ, Nat.zero_add, Nat.add_zero, Nat.reduceAdd, forall_const, L_api_Msg hs2.blk, L_api_Msg__Kind hs2.blk, L_api_Msg__Req hs2.blk, L_api_Msg__IDs hs2.blk, L_api_Msg__Blocks hs2.blk, L_api_Msg (Sep.p1 hs2).blk, L_api_Msg__Kind (Sep.p1 hs2).blk, L_api_Msg__Req (Sep.p1 hs2).blk, L_api_Msg__IDs (Sep.p1 hs2).blk, L_api_Msg__Blocks (Sep.p1 hs2).blk, e1, e]
    exact fin _ _ hs2.fr0 (by simp [Msg.ext_iff', h2])
  have e2 : (m.q != n.q) = false := by simpa using h2
  by_cases h3 : m.ids.length = n.ids.length
  case neg =>
    have e : ((m.ids.length : Int) != (n.ids.length : Int)) = true := by simp; omega
    simp only [nilc_some, fad_mk, pik_true, pik_false, cnd_true, cnd_false, gif_same, gif_tf, gif_ft, gif_undef, bi_add, bi_sub, bi_mul, bi_eql, bi_neq, bi_lss, bi_leq, bi_gtr, bi_geq, notB_bool, cvi_int, lenS_mk, lenT_mk, ext0, ext1, ext2, nilP_mk, nilS_mk, fldv_agg, jn0_k, jn1_k, jn2_k, jn1_and, jn1_or, ex_some, Option.isNone_some, Option.isNone_none, Bool.false_bne, Bool.bne_true, Bool.bne_false, Bool.true_bne, Bool.not_true, Bool.not_false, Bool.and_true, Bool.true_and, Bool.and_false, Bool.false_and, Bool.or_true, Bool.true_or, Bool.or_false, Bool.false_or, cond_true, cond_false, List.getElem?_toArray, List.getElem?_cons_zero, List.getElem?_cons_succ, Nat.zero_add, Nat.add_zero, Nat.reduceAdd, forall_const, L_api_Msg hs2.blk, L_api_Msg__Kind hs2.blk, L_api_Msg__Req hs2.blk, L_api_Msg__IDs hs2.blk, L_api_Msg__Blocks hs2.blk, L_api_Msg (Sep.p1 hs2).blk, L_api_Msg__Kind (Sep.p1 hs2).blk, L_api_Msg__Req (Sep.p1 hs2).blk, L_api_Msg__IDs (Sep.p1 hs2).blk, L_api_Msg__Blocks (Sep.p1 hs2).blk, e1, e2, hli, hli', e]
    exact fin _ _ hs2.fr0 (by simp only [decide_eq_false_iff_not]; intro h; exact h3 (by rw [h]))
  have e3 : ((m.ids.length : Int) != (n.ids.length : Int)) = false := by simp; omega
  by_cases h4 : m.bs.length = n.bs.length
  case neg =>
    have e : ((m.bs.length : Int) != (n.bs.length : Int)) = true := by simp; omega
    simp only [nilc_some, fad_mk, pik_true, pik_false, cnd_true, cnd_false, gif_same, gif_tf, gif_ft, gif_undef, bi_add, bi_sub, bi_mul, bi_eql, bi_neq, bi_lss, bi_leq, bi_gtr, bi_geq, notB_bool, cvi_int, lenS_mk, lenT_mk, ext0, ext1, ext2, nilP_mk, nilS_mk, fldv_agg, jn0_k, jn1_k, jn2_k, jn1_and, jn1_or, ex_some, Option.isNone_some, Option.isNone_none, Bool.false_bne, Bool.bne_true, Bool.bne_false, Bool.true_bne, Bool.not_true, Bool.not_false, Bool.and_true, Bool.true_and, Bool.and_false, Bool.false_and, Bool.or_true, Bool.true_or, Bool.or_false, Bool.false_or, cond_true, cond_false, List.getElem?_toArray, List.getElem?_cons_zero, List.getElem?_cons_succ, Nat.zero_add, Nat.add_zero, Nat.reduceAdd, forall_const, L_api_Msg hs2.blk, L_api_Msg__Kind hs2.blk, L_api_Msg__Req hs2.blk, L_api_Msg__IDs hs2.blk, L_api_Msg__Blocks hs2.blk, L_api_Msg (Sep.p1 hs2).blk, L_api_Msg__Kind (Sep.p1 hs2).blk, L_api_Msg__Req (Sep.p1 hs2).blk, L_api_Msg__IDs (Sep.p1 hs2).blk, L_api_Msg__Blocks (Sep.p1 hs2).blk, e1, e2, hli, hli', e3, hlb, hlb', e]
    exact fin _ _ hs2.fr0 (by simp only [decide_eq_false_iff_not]; intro h; exact h4 (by rw [h]))
  have e4 : ((m.bs.length : Int) != (n.bs.length : Int)) = false := by simp; omega
  simp only [nilc_some, fad_mk, pik_true, pik_false, cnd_true, cnd_false, gif_same, gif_tf, gif_ft, gif_undef, bi_add, bi_sub, bi_mul, bi_eql, bi_neq, bi_lss, bi_leq, bi_gtr, bi_geq, notB_bool, cvi_int, lenS_mk, lenT_mk, ext0, ext1, ext2, nilP_mk, nilS_mk, fldv_agg, jn0_k, jn1_k, jn2_k, jn1_and, jn1_or, ex_some, Option.isNone_some, Option.isNone_none, Bool.false_bne, Bool.bne_true, Bool.bne_false, Bool.true_bne, Bool.not_true, Bool.not_false, Bool.and_true, Bool.true_and, Bool.and_false, Bool.false_and, Bool.or_true, Bool.true_or, Bool.or_false, Bool.false_or, cond_true, cond_false, List.getElem?_toArray, List.getElem?_cons_zero, List.getElem?_cons_succ, Nat.zero_add, Nat.add_zero, Nat.reduceAdd, forall_const, L_api_Msg hs2.blk, L_api_Msg__Kind hs2.blk, L_api_Msg__Req hs2.blk, L_api_Msg__IDs hs2.blk, L_api_Msg__Blocks hs2.blk, L_api_Msg (Sep.p1 hs2).blk, L_api_Msg__Kind (Sep.p1 hs2).blk, L_api_Msg__Req (Sep.p1 hs2).blk, L_api_Msg__IDs (Sep.p1 hs2).blk, L_api_Msg__Blocks (Sep.p1 hs2).blk, e1, e2, hli, hli', e3, hlb, hlb', e4]
  have hbl : m.bs.length = l.length := by rw [hr.eq, List.length_map]
  have hbl' : n.bs.length = l'.length := by rw [hr'.eq, List.length_map]
  refine ⟨fun x w' => ∃ i : Nat, x = .int .i64 i ∧ i ≤ m.ids.length ∧ m.ids.take i = n.ids.take i ∧ Sep w w' [mb g2 n iv' bv', mb g m iv bv], fun x _ => (m.ids.length - RowKit.intOf x).toNat, ⟨0, rfl, by omega, by simp, hs2⟩, ?_⟩
  rintro _ w3 ⟨i, rfl, hii, ht, hs3⟩ -
  have hli3 := (hs3.mr hr).ids.len
  simp only [nilc_some, fad_mk, pik_true, pik_false, cnd_true, cnd_false, gif_same, gif_tf, gif_ft, gif_undef, bi_add, bi_sub, bi_mul, bi_eql, bi_neq, bi_lss, bi_leq, bi_gtr, bi_geq, notB_bool, cvi_int, lenS_mk, lenT_mk, ext0, ext1, ext2, nilP_mk, nilS_mk, fldv_agg, jn0_k, jn1_k, jn2_k, jn1_and, jn1_or, ex_some, Option.isNone_some, Option.isNone_none, Bool.false_bne, Bool.bne_true, Bool.bne_false, Bool.true_bne, Bool.not_true, Bool.not_false, Bool.and_true, Bool.true_and, Bool.and_false, Bool.false_and, Bool.or_true, Bool.true_or, Bool.or_false, Bool.false_or, cond_true, cond_false, List.getElem?_toArray, List.getElem?_cons_zero, List.getElem?_cons_succ, Nat.zero_add, Nat.add_zero, Nat.reduceAdd, forall_const, L_api_Msg (Sep.p1 hs3).blk, L_api_Msg__Kind (Sep.p1 hs3).blk, L_api_Msg__Req (Sep.p1 hs3).blk, L_api_Msg__IDs (Sep.p1 hs3).blk, L_api_Msg__Blocks (Sep.p1 hs3).blk, hli3]
  rw [cnd_bool]
  refine ⟨fun hlt => ?_, fun hlt => ?_⟩
  · have hlt : i < m.ids.length := by simp at hlt; omega
    refine drw_s hs3 fun w4 hs4 _ => ?_
    simp only [nilc_some, fad_mk, pik_true, pik_false, cnd_true, cnd_false, gif_same, gif_tf, gif_ft, gif_undef, bi_add, bi_sub, bi_mul, bi_eql, bi_neq, bi_lss, bi_leq, bi_gtr, bi_geq, notB_bool, cvi_int, lenS_mk, lenT_mk, ext0, ext1, ext2, nilP_mk, nilS_mk, fldv_agg, jn0_k, jn1_k, jn2_k, jn1_and, jn1_or, ex_some, Option.isNone_some, Option.isNone_none, Bool.false_bne, Bool.bne_true, Bool.bne_false, Bool.true_bne, Bool.not_true, Bool.not_false, Bool.and_true, Bool.true_and, Bool.and_false, Bool.false_and, Bool.or_true, Bool.true_or, Bool.or_false, Bool.false_or, cond_true, cond_false, List.getElem?_toArray, List.getElem?_cons_zero, List.getElem?_cons_succ, Nat.zero_add, Nat.add_zero, Nat.reduceAdd, forall_const, L_api_Msg hs4.blk, L_api_Msg__Kind hs4.blk, L_api_Msg__Req hs4.blk, L_api_Msg__IDs hs4.blk, L_api_Msg__Blocks hs4.blk, L_api_Msg (Sep.p1 hs4).blk, L_api_Msg__Kind (Sep.p1 hs4).blk, L_api_Msg__Req (Sep.p1 hs4).blk, L_api_Msg__IDs (Sep.p1 hs4).blk, L_api_Msg__Blocks (Sep.p1 hs4).blk]
    have hx := List.getElem?_eq_getElem hlt
    have hy := List.getElem?_eq_getElem (show i < n.ids.length by omega)
    generalize m.ids[i] = a at hx
    generalize n.ids[i]'(by omega) = b at hy
    refine Rows'.ldN (q := rVec 32) (by decide) (hs4.mr hr).ids hx .i64 ?_
    refine Rows'.ldN (q := rVec 32) (by decide) (hs4.mr hr').ids hy .i64 ?_
    rw [ne_api_ID, cnd_bool]
    refine ⟨fun h5 => fin false _ hs4.fr0 ?_, fun h5 => ?_⟩
    · have h5 : a ≠ b := by simpa using h5
      simp only [decide_eq_false_iff_not]
      intro h
      exact take_ne (i := i) (l := m.ids) (m := n.ids) (by rw [hx, hy]; simpa using h5) (by rw [h])
    · have h5 : a = b := by simpa using h5
      rw [wi64 (by omega) (by omega)]
      exact ⟨⟨i + 1, by simp, by omega, take_more ht (by rw [hx, hy, h5]), hs4⟩, by simp [RowKit.intOf]; omega⟩
  · have hge : i = m.ids.length := by simp at hlt; omega
    subst hge
    rw [List.take_length, h3, List.take_length] at ht
    refine ⟨fun x w' => ∃ i : Nat, x = .int .i64 i ∧ i ≤ l.length ∧ (l.map (·.l)).take i = (l'.map (·.l)).take i ∧ Sep w w' [mb g2 n iv' bv', mb g m iv bv], fun x _ => (l.length - RowKit.intOf x).toNat, ⟨0, rfl, by omega, by simp, hs3⟩, ?_⟩
    rintro _ w5 ⟨i, rfl, hii, ht2, hs5⟩ -
    have hlb5 := (hs5.mr hr).bs.len
    simp only [nilc_some, fad_mk, pik_true, pik_false, cnd_true, cnd_false, gif_same, gif_tf, gif_ft, gif_undef, bi_add, bi_sub, bi_mul, bi_eql, bi_neq, bi_lss, bi_leq, bi_gtr, bi_geq, notB_bool, cvi_int, lenS_mk, lenT_mk, ext0, ext1, ext2, nilP_mk, nilS_mk, fldv_agg, jn0_k, jn1_k, jn2_k, jn1_and, jn1_or, ex_some, Option.isNone_some, Option.isNone_none, Bool.false_bne, Bool.bne_true, Bool.bne_false, Bool.true_bne, Bool.not_true, Bool.not_false, Bool.and_true, Bool.true_and, Bool.and_false, Bool.false_and, Bool.or_true, Bool.true_or, Bool.or_false, Bool.false_or, cond_true, cond_false, List.getElem?_toArray, List.getElem?_cons_zero, List.getElem?_cons_succ, Nat.zero_add, Nat.add_zero, Nat.reduceAdd, forall_const, L_api_Msg (Sep.p1 hs5).blk, L_api_Msg__Kind (Sep.p1 hs5).blk, L_api_Msg__Req (Sep.p1 hs5).blk, L_api_Msg__IDs (Sep.p1 hs5).blk, L_api_Msg__Blocks (Sep.p1 hs5).blk, hlb5]
    rw [cnd_bool]
    refine ⟨fun hlt => ?_, fun hlt => ?_⟩
    · have hlt : i < l.length := by simp at hlt; omega
      refine drw_s hs5 fun w6 hs6 _ => ?_
      simp only [nilc_some, fad_mk, pik_true, pik_false, cnd_true, cnd_false, gif_same, gif_tf, gif_ft, gif_undef, bi_add, bi_sub, bi_mul, bi_eql, bi_neq, bi_lss, bi_leq, bi_gtr, bi_geq, notB_bool, cvi_int, lenS_mk, lenT_mk, ext0, ext1, ext2, nilP_mk, nilS_mk, fldv_agg, jn0_k, jn1_k, jn2_k, jn1_and, jn1_or, ex_some, Option.isNone_some, Option.isNone_none, Bool.false_bne, Bool.bne_true, Bool.bne_false, Bool.true_bne, Bool.not_true, Bool.not_false, Bool.and_true, Bool.true_and, Bool.and_false, Bool.false_and, Bool.or_true, Bool.true_or, Bool.or_false, Bool.false_or, cond_true, cond_false, List.getElem?_toArray, List.getElem?_cons_zero, List.getElem?_cons_succ, Nat.zero_add, Nat.add_zero, Nat.reduceAdd, forall_const, L_api_Msg hs6.blk, L_api_Msg__Kind hs6.blk, L_api_Msg__Req hs6.blk, L_api_Msg__IDs hs6.blk, L_api_Msg__Blocks hs6.blk, L_api_Msg (Sep.p1 hs6).blk, L_api_Msg__Kind (Sep.p1 hs6).blk, L_api_Msg__Req (Sep.p1 hs6).blk, L_api_Msg__IDs (Sep.p1 hs6).blk, L_api_Msg__Blocks (Sep.p1 hs6).blk]
      have hx := List.getElem?_eq_getElem hlt
      have hy := List.getElem?_eq_getElem (show i < l'.length by omega)
      generalize l[i] = a at hx
      generalize l'[i]'(by omega) = b at hy
      refine (hs6.mr hr).bs.ld hx .i64 ?_
      rw [rdP_eq (conv_str UT_bytes UT_uint8 UT_string ((hs6.mr hr).bs.2 a (List.mem_of_getElem? hx)))]
      refine (hs6.mr hr').bs.ld hy .i64 ?_
      rw [rdP_eq (conv_str UT_bytes UT_uint8 UT_string ((hs6.mr hr').bs.2 b (List.mem_of_getElem? hy))), neS_str, cnd_bool]
      refine ⟨fun h5 => fin false _ hs6.fr0 ?_, fun h5 => ?_⟩
      · have h5 : a.l ≠ b.l := by simpa using h5
        simp only [decide_eq_false_iff_not]
        intro h
        have : l.map (·.l) = l'.map (·.l) := by rw [← hr.eq, ← hr'.eq, h]
        exact take_ne (i := i) (l := l.map (·.l)) (m := l'.map (·.l)) (by rw [List.getElem?_map, List.getElem?_map, hx, hy]; simpa using h5) this
      · have h5 : a.l = b.l := by simpa using h5
        rw [wi64 (by omega) (by omega)]
        exact ⟨⟨i + 1, by simp, by omega, take_more ht2 (by rw [List.getElem?_map, List.getElem?_map, hx, hy]; simp [h5]), hs6⟩, by simp [RowKit.intOf]; omega⟩
    · have hge : i = l.length := by simp at hlt; omega
      subst hge
      rw [List.take_of_length_le (by simp), List.take_of_length_le (by simp; omega), ← hr.eq, ← hr'.eq] at ht2
      exact fin true _ hs5.fr0 (by simp [Msg.ext_iff', h1, h2, ht, ht2])
/-! ### Messages that a call owns -/
/-- A slice of bytes' slices that the call owns, and these. -/
def bls (v : Value) (l : List (Sl UInt8)) : List Asn := rows qv v (l.map (·.v)) :: l.map fun s => ownB s.v s.l
/-- A message's fields that the call owns. -/
def mown (m : Msg) (iv bv : Value) (l : List (Sl UInt8)) : List Asn := rows (rVec 32) iv m.ids :: bls bv l
theorem Sep.onL {w0 w : World} {As : List Asn} {A : Asn} (h : Sep w0 w As) (hm : A ∈ As) : ∃ F, A.on w.heap F := by
  obtain ⟨s, t, rfl⟩ := List.append_of_mem hm
  exact h.dropL.head
theorem bls_rd {Bs : List Asn} (h : Sep w0 w (bls v l ++ Bs)) : BSl w.heap v l := by
  refine ⟨Sep.rows h, fun s hs => ?_⟩
  obtain ⟨F, hF⟩ := h.onL (A := ownB s.v s.l) (by simp only [bls, List.cons_append, List.mem_cons, List.mem_append, List.mem_map]; exact .inr (.inl ⟨s, hs, rfl⟩))
  exact OwnB.rd hF
theorem mown_rd {Bs : List Asn} (h : Sep w0 w (mown m iv bv l ++ Bs)) (he : m.bs = l.map (·.l)) : MR w.heap m iv bv l := ⟨Sep.rows h, bls_rd (Sep.tail h), he⟩
end
end Go.Fx
