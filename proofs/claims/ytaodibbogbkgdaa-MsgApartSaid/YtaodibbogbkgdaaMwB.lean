/-
  MsgBack, walked.
-/
import Derived.Test.YtaodibbogbkgdaaMgP
set_option linter.unusedVariables false
set_option linter.unusedSimpArgs false
namespace Go.Fx
theorem IsParse.lens {l : List UInt8} {m : Msg} {e : Int} (h : IsParse l m e) : m.ids.length ≤ 32 ∧ m.bs.length ≤ 32 := by
  rcases h with ⟨_, hok, _⟩ | ⟨_, rfl, _⟩
  · have := Msg.ok_cases hok; omega
  · exact ⟨by decide, by decide⟩
theorem IsParse.mul {l : List UInt8} {m : Msg} {e : Int} {L : List (Sl UInt8)} (h : IsParse l m e) (hL : L.map (·.l) = m.bs) : L.length ≤ 9223372036854775807 ∧ m.ids.length ≤ 9223372036854775807 := by
  have h1 := congrArg List.length hL
  rw [List.length_map] at h1
  have := h.lens
  omega
theorem out_len (m : Msg) : m.out.length ≤ 4009 := by
  unfold Msg.out
  split
  · rename_i h
    exact Msg.bytes_len h
  · simp
theorem wBack4 {w : World} {x : Int × Int × Sl (Vec 32) × Sl (Sl UInt8)} {v : Value} {d : List UInt8} (hx : Rdr.ok R_api_Msg w.heap x) (hl : rBytes.ok w.heap ⟨v, d⟩) : cal P f_law04_MsgBack [.agg (Rdr.cells R_api_Msg x).toArray, v] w fun r w' => r = .bool true ∧ Fr [] w w' := by
  obtain ⟨m, iv, bv, l, e, ha⟩ := msg_arg hx
  rw [e]
  have hrd : RdB w.heap v d := hl.1
  have hll : d.length ≤ 9223372036854775807 := hl.2.1
  clear hl hx e
  refine s_law04_MsgBack fun R hR => ?_
  unfold c_law04_MsgBack
  refine bxA (Sep.start w) fun g w1 hs1 => ?_
  have lv : ∀ {z : World}, Fr [] w z → cal P f_law04_begun [] z R := fun {z} hf => cal_i (begun_spec z) fun r w' hr => hR _ _ ⟨hr.1, hf.trans hr.2 (by simp) (by simp)⟩
  refine cal_i (begun_spec _) ?_
  rintro _ w2 ⟨rfl, hf2⟩
  have hs2 := hs1.old hf2
  simp only [nilc_some, fad_mk, pik_true, pik_false, cnd_true, cnd_false, gif_same, gif_tf, gif_ft, gif_undef, bi_add, bi_sub, bi_mul, bi_eql, bi_neq, bi_lss, bi_leq, bi_gtr, bi_geq, notB_bool, cvi_int, lenS_mk, lenT_mk, ext0, ext1, ext2, nilP_mk, nilS_mk, fldv_agg, jn0_k, jn1_k, jn2_k, jn1_and, jn1_or, ex_some, Option.isNone_some, Option.isNone_none, Bool.false_bne, Bool.bne_true, Bool.bne_false, Bool.true_bne, Bool.not_true, Bool.not_false, Bool.and_true, Bool.true_and, Bool.and_false, Bool.false_and, Bool.or_true, Bool.true_or, Bool.or_false, Bool.false_or, cond_true, cond_false, List.getElem?_toArray, List.getElem?_cons_zero, List.getElem?_cons_succ, Nat.zero_add, Nat.add_zero, Nat.reduceAdd, forall_const, L_api_Msg hs2.blk, L_api_Msg__Kind hs2.blk, L_api_Msg__Req hs2.blk, L_api_Msg__IDs hs2.blk, L_api_Msg__Blocks hs2.blk]
  refine jn1_dup ?_
  refine cal_i (few_spec (hs2.mr ha.mr) ha.bl) ?_
  rintro _ w3 ⟨hf3, t, rfl, ht⟩
  have hs3 := hs2.old hf3
  cases t with
  | false =>
    simp only [nilc_some, fad_mk, pik_true, pik_false, cnd_true, cnd_false, gif_same, gif_tf, gif_ft, gif_undef, bi_add, bi_sub, bi_mul, bi_eql, bi_neq, bi_lss, bi_leq, bi_gtr, bi_geq, notB_bool, cvi_int, lenS_mk, lenT_mk, ext0, ext1, ext2, nilP_mk, nilS_mk, fldv_agg, jn0_k, jn1_k, jn2_k, jn1_and, jn1_or, ex_some, Option.isNone_some, Option.isNone_none, Bool.false_bne, Bool.bne_true, Bool.bne_false, Bool.true_bne, Bool.not_true, Bool.not_false, Bool.and_true, Bool.true_and, Bool.and_false, Bool.false_and, Bool.or_true, Bool.true_or, Bool.or_false, Bool.false_or, cond_true, cond_false, List.getElem?_toArray, List.getElem?_cons_zero, List.getElem?_cons_succ, Nat.zero_add, Nat.add_zero, Nat.reduceAdd, forall_const]
    exact lv hs3.fr0
  | true =>
    simp only [nilc_some, fad_mk, pik_true, pik_false, cnd_true, cnd_false, gif_same, gif_tf, gif_ft, gif_undef, bi_add, bi_sub, bi_mul, bi_eql, bi_neq, bi_lss, bi_leq, bi_gtr, bi_geq, notB_bool, cvi_int, lenS_mk, lenT_mk, ext0, ext1, ext2, nilP_mk, nilS_mk, fldv_agg, jn0_k, jn1_k, jn2_k, jn1_and, jn1_or, ex_some, Option.isNone_some, Option.isNone_none, Bool.false_bne, Bool.bne_true, Bool.bne_false, Bool.true_bne, Bool.not_true, Bool.not_false, Bool.and_true, Bool.true_and, Bool.and_false, Bool.false_and, Bool.or_true, Bool.true_or, Bool.or_false, Bool.false_or, cond_true, cond_false, List.getElem?_toArray, List.getElem?_cons_zero, List.getElem?_cons_succ, Nat.zero_add, Nat.add_zero, Nat.reduceAdd, forall_const, hrd.len]
    rw [cnd_bool]
    refine ⟨fun h => lv hs3.fr0, fun h => ?_⟩
    have hl3 : d.length ≤ 10000 := by simp at h; omega
    simp only [nilc_some, fad_mk, pik_true, pik_false, cnd_true, cnd_false, gif_same, gif_tf, gif_ft, gif_undef, bi_add, bi_sub, bi_mul, bi_eql, bi_neq, bi_lss, bi_leq, bi_gtr, bi_geq, notB_bool, cvi_int, lenS_mk, lenT_mk, ext0, ext1, ext2, nilP_mk, nilS_mk, fldv_agg, jn0_k, jn1_k, jn2_k, jn1_and, jn1_or, ex_some, Option.isNone_some, Option.isNone_none, Bool.false_bne, Bool.bne_true, Bool.bne_false, Bool.true_bne, Bool.not_true, Bool.not_false, Bool.and_true, Bool.true_and, Bool.and_false, Bool.false_and, Bool.or_true, Bool.true_or, Bool.or_false, Bool.false_or, cond_true, cond_false, List.getElem?_toArray, List.getElem?_cons_zero, List.getElem?_cons_succ, Nat.zero_add, Nat.add_zero, Nat.reduceAdd, forall_const, L_api_Msg hs3.blk, L_api_Msg__Kind hs3.blk, L_api_Msg__Req hs3.blk, L_api_Msg__IDs hs3.blk, L_api_Msg__Blocks hs3.blk]
    refine cal_i (mBytes_spec (hs3.mr ha.mr) ha.bl) ?_
    rintro _ w4 ⟨s4, rfl, hs4⟩
    replace hs4 := hs3.join hs4
    have ho := out_len m
    simp only [nilc_some, fad_mk, pik_true, pik_false, cnd_true, cnd_false, gif_same, gif_tf, gif_ft, gif_undef, bi_add, bi_sub, bi_mul, bi_eql, bi_neq, bi_lss, bi_leq, bi_gtr, bi_geq, notB_bool, cvi_int, lenS_mk, lenT_mk, ext0, ext1, ext2, nilP_mk, nilS_mk, fldv_agg, jn0_k, jn1_k, jn2_k, jn1_and, jn1_or, ex_some, Option.isNone_some, Option.isNone_none, Bool.false_bne, Bool.bne_true, Bool.bne_false, Bool.true_bne, Bool.not_true, Bool.not_false, Bool.and_true, Bool.true_and, Bool.and_false, Bool.false_and, Bool.or_true, Bool.true_or, Bool.or_false, Bool.false_or, cond_true, cond_false, List.getElem?_toArray, List.getElem?_cons_zero, List.getElem?_cons_succ, Nat.zero_add, Nat.add_zero, Nat.reduceAdd, forall_const, L_api_Msg (Sep.p1 hs4).blk, L_api_Msg__Kind (Sep.p1 hs4).blk, L_api_Msg__Req (Sep.p1 hs4).blk, L_api_Msg__IDs (Sep.p1 hs4).blk, L_api_Msg__Blocks (Sep.p1 hs4).blk]
    refine cal_i (mCheck_spec (hs4.mr ha.mr) ha.bl) ?_
    rintro _ w5 ⟨rfl, hf5⟩
    have hs5 := hs4.old hf5
    simp only [nilc_some, fad_mk, pik_true, pik_false, cnd_true, cnd_false, gif_same, gif_tf, gif_ft, gif_undef, bi_add, bi_sub, bi_mul, bi_eql, bi_neq, bi_lss, bi_leq, bi_gtr, bi_geq, notB_bool, cvi_int, lenS_mk, lenT_mk, ext0, ext1, ext2, nilP_mk, nilS_mk, fldv_agg, jn0_k, jn1_k, jn2_k, jn1_and, jn1_or, ex_some, Option.isNone_some, Option.isNone_none, Bool.false_bne, Bool.bne_true, Bool.bne_false, Bool.true_bne, Bool.not_true, Bool.not_false, Bool.and_true, Bool.true_and, Bool.and_false, Bool.false_and, Bool.or_true, Bool.true_or, Bool.or_false, Bool.false_or, cond_true, cond_false, List.getElem?_toArray, List.getElem?_cons_zero, List.getElem?_cons_succ, Nat.zero_add, Nat.add_zero, Nat.reduceAdd, forall_const, neS_bool _ _ UT_bool, (Sep.rd hs5).len, bne_self_eq_false]
    have e1 : decide ((4009 : Int) < (m.out.length : Int)) = false := by simp; omega
    simp only [nilc_some, fad_mk, pik_true, pik_false, cnd_true, cnd_false, gif_same, gif_tf, gif_ft, gif_undef, bi_add, bi_sub, bi_mul, bi_eql, bi_neq, bi_lss, bi_leq, bi_gtr, bi_geq, notB_bool, cvi_int, lenS_mk, lenT_mk, ext0, ext1, ext2, nilP_mk, nilS_mk, fldv_agg, jn0_k, jn1_k, jn2_k, jn1_and, jn1_or, ex_some, Option.isNone_some, Option.isNone_none, Bool.false_bne, Bool.bne_true, Bool.bne_false, Bool.true_bne, Bool.not_true, Bool.not_false, Bool.and_true, Bool.true_and, Bool.and_false, Bool.false_and, Bool.or_true, Bool.true_or, Bool.or_false, Bool.false_or, cond_true, cond_false, List.getElem?_toArray, List.getElem?_cons_zero, List.getElem?_cons_succ, Nat.zero_add, Nat.add_zero, Nat.reduceAdd, forall_const, e1, L_api_Msg (Sep.p1 hs5).blk, L_api_Msg__Kind (Sep.p1 hs5).blk, L_api_Msg__Req (Sep.p1 hs5).blk, L_api_Msg__IDs (Sep.p1 hs5).blk, L_api_Msg__Blocks (Sep.p1 hs5).blk]
    refine jn1_dup ?_
    refine cal_i (Size_spec (hs5.mr ha.mr) ha.bl) ?_
    rintro _ w6 ⟨rfl, hf6⟩
    have hs6 := hs5.old hf6
    simp only [nilc_some, fad_mk, pik_true, pik_false, cnd_true, cnd_false, gif_same, gif_tf, gif_ft, gif_undef, bi_add, bi_sub, bi_mul, bi_eql, bi_neq, bi_lss, bi_leq, bi_gtr, bi_geq, notB_bool, cvi_int, lenS_mk, lenT_mk, ext0, ext1, ext2, nilP_mk, nilS_mk, fldv_agg, jn0_k, jn1_k, jn2_k, jn1_and, jn1_or, ex_some, Option.isNone_some, Option.isNone_none, Bool.false_bne, Bool.bne_true, Bool.bne_false, Bool.true_bne, Bool.not_true, Bool.not_false, Bool.and_true, Bool.true_and, Bool.and_false, Bool.false_and, Bool.or_true, Bool.true_or, Bool.or_false, Bool.false_or, cond_true, cond_false, List.getElem?_toArray, List.getElem?_cons_zero, List.getElem?_cons_succ, Nat.zero_add, Nat.add_zero, Nat.reduceAdd, forall_const, bne_self_eq_false]
    refine ⟨fun w' => Fr [] w w', ?_, ?_⟩
    · change cnd _ _ _
      by_cases hok : m.ok
      · have h0 : m.chk = 0 := Msg.chk_ok.2 hok
        have hout : m.out = m.bytes := if_pos hok
        simp only [h0, nilc_some, fad_mk, pik_true, pik_false, cnd_true, cnd_false, gif_same, gif_tf, gif_ft, gif_undef, bi_add, bi_sub, bi_mul, bi_eql, bi_neq, bi_lss, bi_leq, bi_gtr, bi_geq, notB_bool, cvi_int, lenS_mk, lenT_mk, ext0, ext1, ext2, nilP_mk, nilS_mk, fldv_agg, jn0_k, jn1_k, jn2_k, jn1_and, jn1_or, ex_some, Option.isNone_some, Option.isNone_none, Bool.false_bne, Bool.bne_true, Bool.bne_false, Bool.true_bne, Bool.not_true, Bool.not_false, Bool.and_true, Bool.true_and, Bool.and_false, Bool.false_and, Bool.or_true, Bool.true_or, Bool.or_false, Bool.false_or, cond_true, cond_false, List.getElem?_toArray, List.getElem?_cons_zero, List.getElem?_cons_succ, Nat.zero_add, Nat.add_zero, Nat.reduceAdd, forall_const, show ((0 : Int) == 0) = true from rfl]
        refine cal_i (mParse_spec (Sep.rd hs6) (by omega)) ?_
        rintro _ w7 ⟨n, f, iv', bv', L, rfl, hp, hL, hs7⟩
        rw [hout] at hp
        obtain ⟨hnm, hf0⟩ := IsParse.uniq (n := m) (f := 0) hp (Or.inl ⟨rfl, hok, rfl⟩)
        subst hnm
        subst hf0
        obtain ⟨hLl, hil⟩ := hp.mul hL
        replace hs7 := hs6.join hs7
        simp only [nilc_some, fad_mk, pik_true, pik_false, cnd_true, cnd_false, gif_same, gif_tf, gif_ft, gif_undef, bi_add, bi_sub, bi_mul, bi_eql, bi_neq, bi_lss, bi_leq, bi_gtr, bi_geq, notB_bool, cvi_int, lenS_mk, lenT_mk, ext0, ext1, ext2, nilP_mk, nilS_mk, fldv_agg, jn0_k, jn1_k, jn2_k, jn1_and, jn1_or, ex_some, Option.isNone_some, Option.isNone_none, Bool.false_bne, Bool.bne_true, Bool.bne_false, Bool.true_bne, Bool.not_true, Bool.not_false, Bool.and_true, Bool.true_and, Bool.and_false, Bool.false_and, Bool.or_true, Bool.true_or, Bool.or_false, Bool.false_or, cond_true, cond_false, List.getElem?_toArray, List.getElem?_cons_zero, List.getElem?_cons_succ, Nat.zero_add, Nat.add_zero, Nat.reduceAdd, forall_const]
        refine alloc_s hs7 (A_api_Msg w7) fun g8 w8 hs8 => ?_
        refine St_api_Msg (b := (n.k, n.q, iv', bv')) hs8 (one_api_Msg (Sep.oneR hs8.p1) (Sep.oneR hs8.p2)) fun w9 hs9 => ?_
        have q3 := hs9.memB (g := g) (o := .cells (Rdr.cells Q_api_Msg (n.k, n.q, iv, bv)).toArray T_api_Msg (0, 0)) (by simp)
        simp only [nilc_some, fad_mk, pik_true, pik_false, cnd_true, cnd_false, gif_same, gif_tf, gif_ft, gif_undef, bi_add, bi_sub, bi_mul, bi_eql, bi_neq, bi_lss, bi_leq, bi_gtr, bi_geq, notB_bool, cvi_int, lenS_mk, lenT_mk, ext0, ext1, ext2, nilP_mk, nilS_mk, fldv_agg, jn0_k, jn1_k, jn2_k, jn1_and, jn1_or, ex_some, Option.isNone_some, Option.isNone_none, Bool.false_bne, Bool.bne_true, Bool.bne_false, Bool.true_bne, Bool.not_true, Bool.not_false, Bool.and_true, Bool.true_and, Bool.and_false, Bool.false_and, Bool.or_true, Bool.true_or, Bool.or_false, Bool.false_or, cond_true, cond_false, List.getElem?_toArray, List.getElem?_cons_zero, List.getElem?_cons_succ, Nat.zero_add, Nat.add_zero, Nat.reduceAdd, forall_const, show ((0 : Int) != 0) = false from rfl, L_api_Msg hs9.blk, L_api_Msg__Kind hs9.blk, L_api_Msg__Req hs9.blk, L_api_Msg__IDs hs9.blk, L_api_Msg__Blocks hs9.blk, L_api_Msg q3, L_api_Msg__Kind q3, L_api_Msg__Req q3, L_api_Msg__IDs q3, L_api_Msg__Blocks q3]
        refine jn1_dup ?_
        refine cal_i (mSame_spec (m := n) (n := n) (mown_rd (Bs := _) (Sep.tail hs9) hL.symm) (hs9.mr ha.mr) hLl hil) ?_
        rintro _ w10 ⟨rfl, hf10⟩
        simp only [decide_true, nilc_some, fad_mk, pik_true, pik_false, cnd_true, cnd_false, gif_same, gif_tf, gif_ft, gif_undef, bi_add, bi_sub, bi_mul, bi_eql, bi_neq, bi_lss, bi_leq, bi_gtr, bi_geq, notB_bool, cvi_int, lenS_mk, lenT_mk, ext0, ext1, ext2, nilP_mk, nilS_mk, fldv_agg, jn0_k, jn1_k, jn2_k, jn1_and, jn1_or, ex_some, Option.isNone_some, Option.isNone_none, Bool.false_bne, Bool.bne_true, Bool.bne_false, Bool.true_bne, Bool.not_true, Bool.not_false, Bool.and_true, Bool.true_and, Bool.and_false, Bool.false_and, Bool.or_true, Bool.true_or, Bool.or_false, Bool.false_or, cond_true, cond_false, List.getElem?_toArray, List.getElem?_cons_zero, List.getElem?_cons_succ, Nat.zero_add, Nat.add_zero, Nat.reduceAdd, forall_const]
        exact (hs9.old hf10).fr0
      · have h0 : m.chk = 40 := by rw [Msg.chk, if_neg hok]
        simp only [h0, nilc_some, fad_mk, pik_true, pik_false, cnd_true, cnd_false, gif_same, gif_tf, gif_ft, gif_undef, bi_add, bi_sub, bi_mul, bi_eql, bi_neq, bi_lss, bi_leq, bi_gtr, bi_geq, notB_bool, cvi_int, lenS_mk, lenT_mk, ext0, ext1, ext2, nilP_mk, nilS_mk, fldv_agg, jn0_k, jn1_k, jn2_k, jn1_and, jn1_or, ex_some, Option.isNone_some, Option.isNone_none, Bool.false_bne, Bool.bne_true, Bool.bne_false, Bool.true_bne, Bool.not_true, Bool.not_false, Bool.and_true, Bool.true_and, Bool.and_false, Bool.false_and, Bool.or_true, Bool.true_or, Bool.or_false, Bool.false_or, cond_true, cond_false, List.getElem?_toArray, List.getElem?_cons_zero, List.getElem?_cons_succ, Nat.zero_add, Nat.add_zero, Nat.reduceAdd, forall_const, show ((40 : Int) == 0) = false from rfl]
        exact hs6.fr0
    · rintro w7 hf7 _
      have hs7 := (Sep.start w).old hf7
      refine cal_i (mParse_spec (hs7.rdB hrd) (by omega)) ?_
      rintro _ w8 ⟨n, f, iv', bv', L, rfl, hp, hL, hs8⟩
      obtain ⟨hLl, hil⟩ := hp.mul hL
      replace hs8 : Sep w w8 (rows (rVec 32) iv' n.ids :: rows qv bv' (L.map (·.v)) :: (L.map oB ++ [])) := hs7.join hs8
      simp only [nilc_some, fad_mk, pik_true, pik_false, cnd_true, cnd_false, gif_same, gif_tf, gif_ft, gif_undef, bi_add, bi_sub, bi_mul, bi_eql, bi_neq, bi_lss, bi_leq, bi_gtr, bi_geq, notB_bool, cvi_int, lenS_mk, lenT_mk, ext0, ext1, ext2, nilP_mk, nilS_mk, fldv_agg, jn0_k, jn1_k, jn2_k, jn1_and, jn1_or, ex_some, Option.isNone_some, Option.isNone_none, Bool.false_bne, Bool.bne_true, Bool.bne_false, Bool.true_bne, Bool.not_true, Bool.not_false, Bool.and_true, Bool.true_and, Bool.and_false, Bool.false_and, Bool.or_true, Bool.true_or, Bool.or_false, Bool.false_or, cond_true, cond_false, List.getElem?_toArray, List.getElem?_cons_zero, List.getElem?_cons_succ, Nat.zero_add, Nat.add_zero, Nat.reduceAdd, forall_const]
      refine alloc_s hs8 (A_api_Msg w8) fun g9 w9 hs9 => ?_
      refine St_api_Msg (b := (n.k, n.q, iv', bv')) hs9 (one_api_Msg (Sep.oneR hs9.p1) (Sep.oneR hs9.p2)) fun w10 hs10 => ?_
      have hmr : MR w10.heap n iv' bv' L := mown_rd (Bs := []) (Sep.tail hs10) hL.symm
      rcases hp with ⟨rfl, hok, hb⟩ | ⟨rfl, rfl, _⟩
      · simp only [nilc_some, fad_mk, pik_true, pik_false, cnd_true, cnd_false, gif_same, gif_tf, gif_ft, gif_undef, bi_add, bi_sub, bi_mul, bi_eql, bi_neq, bi_lss, bi_leq, bi_gtr, bi_geq, notB_bool, cvi_int, lenS_mk, lenT_mk, ext0, ext1, ext2, nilP_mk, nilS_mk, fldv_agg, jn0_k, jn1_k, jn2_k, jn1_and, jn1_or, ex_some, Option.isNone_some, Option.isNone_none, Bool.false_bne, Bool.bne_true, Bool.bne_false, Bool.true_bne, Bool.not_true, Bool.not_false, Bool.and_true, Bool.true_and, Bool.and_false, Bool.false_and, Bool.or_true, Bool.true_or, Bool.or_false, Bool.false_or, cond_true, cond_false, List.getElem?_toArray, List.getElem?_cons_zero, List.getElem?_cons_succ, Nat.zero_add, Nat.add_zero, Nat.reduceAdd, forall_const, show ((0 : Int) != 0) = false from rfl, L_api_Msg hs10.blk, L_api_Msg__Kind hs10.blk, L_api_Msg__Req hs10.blk, L_api_Msg__IDs hs10.blk, L_api_Msg__Blocks hs10.blk]
        refine cal_i (mBytes_spec hmr hLl) ?_
        rintro _ w11 ⟨s11, rfl, hs11⟩
        replace hs11 := hs10.join hs11
        have h0 : n.chk = 0 := Msg.chk_ok.2 hok
        have hout : n.out = d := by rw [← hb]; exact if_pos hok
        rw [hout] at hs11
        simp only [nilc_some, fad_mk, pik_true, pik_false, cnd_true, cnd_false, gif_same, gif_tf, gif_ft, gif_undef, bi_add, bi_sub, bi_mul, bi_eql, bi_neq, bi_lss, bi_leq, bi_gtr, bi_geq, notB_bool, cvi_int, lenS_mk, lenT_mk, ext0, ext1, ext2, nilP_mk, nilS_mk, fldv_agg, jn0_k, jn1_k, jn2_k, jn1_and, jn1_or, ex_some, Option.isNone_some, Option.isNone_none, Bool.false_bne, Bool.bne_true, Bool.bne_false, Bool.true_bne, Bool.not_true, Bool.not_false, Bool.and_true, Bool.true_and, Bool.and_false, Bool.false_and, Bool.or_true, Bool.true_or, Bool.or_false, Bool.false_or, cond_true, cond_false, List.getElem?_toArray, List.getElem?_cons_zero, List.getElem?_cons_succ, Nat.zero_add, Nat.add_zero, Nat.reduceAdd, forall_const, h0, show ((0 : Int) == 0) = true from rfl]
        refine jn1_dup ?_
        refine cal_i (bEqual_spec (Sep.rd hs11) (hs11.rdB hrd)) ?_
        rintro _ _ ⟨rfl, rfl⟩
        simp only [nilc_some, fad_mk, pik_true, pik_false, cnd_true, cnd_false, gif_same, gif_tf, gif_ft, gif_undef, bi_add, bi_sub, bi_mul, bi_eql, bi_neq, bi_lss, bi_leq, bi_gtr, bi_geq, notB_bool, cvi_int, lenS_mk, lenT_mk, ext0, ext1, ext2, nilP_mk, nilS_mk, fldv_agg, jn0_k, jn1_k, jn2_k, jn1_and, jn1_or, ex_some, Option.isNone_some, Option.isNone_none, Bool.false_bne, Bool.bne_true, Bool.bne_false, Bool.true_bne, Bool.not_true, Bool.not_false, Bool.and_true, Bool.true_and, Bool.and_false, Bool.false_and, Bool.or_true, Bool.true_or, Bool.or_false, Bool.false_or, cond_true, cond_false, List.getElem?_toArray, List.getElem?_cons_zero, List.getElem?_cons_succ, Nat.zero_add, Nat.add_zero, Nat.reduceAdd, forall_const, beq_self_eq_true]
        exact hR _ _ ⟨rfl, hs11.fr0⟩
      · simp only [nilc_some, fad_mk, pik_true, pik_false, cnd_true, cnd_false, gif_same, gif_tf, gif_ft, gif_undef, bi_add, bi_sub, bi_mul, bi_eql, bi_neq, bi_lss, bi_leq, bi_gtr, bi_geq, notB_bool, cvi_int, lenS_mk, lenT_mk, ext0, ext1, ext2, nilP_mk, nilS_mk, fldv_agg, jn0_k, jn1_k, jn2_k, jn1_and, jn1_or, ex_some, Option.isNone_some, Option.isNone_none, Bool.false_bne, Bool.bne_true, Bool.bne_false, Bool.true_bne, Bool.not_true, Bool.not_false, Bool.and_true, Bool.true_and, Bool.and_false, Bool.false_and, Bool.or_true, Bool.true_or, Bool.or_false, Bool.false_or, cond_true, cond_false, List.getElem?_toArray, List.getElem?_cons_zero, List.getElem?_cons_succ, Nat.zero_add, Nat.add_zero, Nat.reduceAdd, forall_const, show ((40 : Int) != 0) = true from rfl, show ((40 : Int) == 40) = true from rfl, L_api_Msg hs10.blk, L_api_Msg__Kind hs10.blk, L_api_Msg__Req hs10.blk, L_api_Msg__IDs hs10.blk, L_api_Msg__Blocks hs10.blk, B_api_Msg]
        refine jn1_dup ?_
        refine cal_i (mSame_spec (m := Msg.zero) (n := Msg.zero) (l' := []) hmr ⟨Sep.rows (hs10.nilR), ⟨Sep.rows (hs10.nilR), fun s hs => by cases hs⟩, rfl⟩ hLl hil) ?_
        rintro _ w11 ⟨rfl, hf11⟩
        simp only [decide_true, nilc_some, fad_mk, pik_true, pik_false, cnd_true, cnd_false, gif_same, gif_tf, gif_ft, gif_undef, bi_add, bi_sub, bi_mul, bi_eql, bi_neq, bi_lss, bi_leq, bi_gtr, bi_geq, notB_bool, cvi_int, lenS_mk, lenT_mk, ext0, ext1, ext2, nilP_mk, nilS_mk, fldv_agg, jn0_k, jn1_k, jn2_k, jn1_and, jn1_or, ex_some, Option.isNone_some, Option.isNone_none, Bool.false_bne, Bool.bne_true, Bool.bne_false, Bool.true_bne, Bool.not_true, Bool.not_false, Bool.and_true, Bool.true_and, Bool.and_false, Bool.false_and, Bool.or_true, Bool.true_or, Bool.or_false, Bool.false_or, cond_true, cond_false, List.getElem?_toArray, List.getElem?_cons_zero, List.getElem?_cons_succ, Nat.zero_add, Nat.add_zero, Nat.reduceAdd, forall_const]
        exact hR _ _ ⟨rfl, (hs10.old hf11).fr0⟩
end Go.Fx
