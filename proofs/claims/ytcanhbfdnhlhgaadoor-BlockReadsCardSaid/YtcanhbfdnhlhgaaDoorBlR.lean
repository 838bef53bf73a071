/-
  BlockReads, walked.
-/
import Derived.Test.YtcanhbfdnhlhgaaDoorBlA
set_option linter.unusedVariables false
set_option linter.unusedSimpArgs false
namespace Go.Fx
section
variable {w : World} {v : Value} {l : List UInt8} {x : Vec 32 × Int × Sl UInt8}
theorem wReads (hc : Cub w) (hx : Rdr.ok R_api_Block w.heap x) (hl : rBytes.ok w.heap ⟨v, l⟩) :
    cal P f_law03_BlockReads [.agg (Rdr.cells R_api_Block x).toArray, v] w fun r w' => r = .bool true ∧ Fr [] w w' := by
  obtain ⟨a, haa⟩ : ∃ a, a = ab x := ⟨_, rfl⟩
  have ha := ab_rd hx
  have hah := ab_h hx
  rw [← haa] at ha hah
  have ea : Value.agg (Rdr.cells R_api_Block x).toArray = bq a x.2.2.v := by rw [haa]; rfl
  rw [ea]
  generalize x.2.2.v = va at *
  have hrd : RdB w.heap v l := hl.1
  have hll : l.length ≤ 9223372036854775807 := hl.2.1
  have hcap : capOk v := hl.2.2
  clear hx hl haa ea
  refine s_law03_BlockReads fun R hR => ?_
  unfold c_law03_BlockReads
  refine bxQ (Sep.start w) fun g w1 hs1 => ?_
  have lv : ∀ {z : World}, Fr [] w z → cal P f_law03_live [] z R := fun {z} hf => cal_i (live_spec (hc.fr hf)) fun r w' hr => hR _ _ ⟨hr.1, hf.trans hr.2 (by simp) (by simp)⟩
  refine cal_i (live_spec (hc.fr hs1.fr0)) ?_
  rintro _ w3 ⟨rfl, hf3⟩
  replace hs2 := hs1.old hf3
  simp only [nilc_some, fad_mk, pik_true, pik_false, cnd_true, cnd_false, gif_same, gif_tf, gif_ft, gif_undef, bi_add, bi_sub, bi_mul, bi_eql, bi_neq, bi_lss, bi_leq, bi_gtr, bi_geq, notB_bool, cvi_int, lenS_mk, lenT_mk, ext0, ext1, ext2, nilP_mk, nilS_mk, fldv_agg, jn0_k, jn1_k, jn2_k, jn1_and, jn1_or, ex_some, Option.isNone_some, Option.isNone_none, Bool.false_bne, Bool.bne_true, Bool.bne_false, Bool.true_bne, Bool.not_true, Bool.not_false, Bool.and_true, Bool.true_and, Bool.and_false, Bool.false_and, Bool.or_true, Bool.true_or, Bool.or_false, Bool.false_or, cond_true, cond_false, List.getElem?_toArray, List.getElem?_cons_zero, List.getElem?_cons_succ, Nat.zero_add, Nat.add_zero, Nat.reduceAdd, forall_const, L_api_Block hs2.blk, L_api_Block__Parent hs2.blk, L_api_Block__Height hs2.blk, L_api_Block__Data hs2.blk]
  refine jn1_dup ?_
  refine rows_lit hs2 S_sl_api_Block (l := [(a.p, a.h, va)]) (V := fun a => .agg (Rdr.cells Q_api_Block a).toArray) qV rfl rfl (by decide) (by decide) fun g4 w4 hs4 => ?_
  have hbr : BRows w4.heap (.slice (some ⟨g4, 0, none⟩) 1 1) [(a, va)] := ⟨Sep.rows hs4, fun z hz => by
    rcases List.mem_cons.1 hz with rfl | hz
    · exact hs4.rdB ha
    · cases hz⟩
  refine cal_i (short_spec hbr (by simp)) ?_
  rintro _ w5 ⟨hf5, t, rfl, ht⟩
  have hs5 := hs4.tail.old hf5
  simp only [nilc_some, fad_mk, pik_true, pik_false, cnd_true, cnd_false, gif_same, gif_tf, gif_ft, gif_undef, bi_add, bi_sub, bi_mul, bi_eql, bi_neq, bi_lss, bi_leq, bi_gtr, bi_geq, notB_bool, cvi_int, lenS_mk, lenT_mk, ext0, ext1, ext2, nilP_mk, nilS_mk, fldv_agg, jn0_k, jn1_k, jn2_k, jn1_and, jn1_or, ex_some, Option.isNone_some, Option.isNone_none, Bool.false_bne, Bool.bne_true, Bool.bne_false, Bool.true_bne, Bool.not_true, Bool.not_false, Bool.and_true, Bool.true_and, Bool.and_false, Bool.false_and, Bool.or_true, Bool.true_or, Bool.or_false, Bool.false_or, cond_true, cond_false, List.getElem?_toArray, List.getElem?_cons_zero, List.getElem?_cons_succ, Nat.zero_add, Nat.add_zero, Nat.reduceAdd, forall_const]
  cases t with
  | false =>
    simp only [nilc_some, fad_mk, pik_true, pik_false, cnd_true, cnd_false, gif_same, gif_tf, gif_ft, gif_undef, bi_add, bi_sub, bi_mul, bi_eql, bi_neq, bi_lss, bi_leq, bi_gtr, bi_geq, notB_bool, cvi_int, lenS_mk, lenT_mk, ext0, ext1, ext2, nilP_mk, nilS_mk, fldv_agg, jn0_k, jn1_k, jn2_k, jn1_and, jn1_or, ex_some, Option.isNone_some, Option.isNone_none, Bool.false_bne, Bool.bne_true, Bool.bne_false, Bool.true_bne, Bool.not_true, Bool.not_false, Bool.and_true, Bool.true_and, Bool.and_false, Bool.false_and, Bool.or_true, Bool.true_or, Bool.or_false, Bool.false_or, cond_true, cond_false, List.getElem?_toArray, List.getElem?_cons_zero, List.getElem?_cons_succ, Nat.zero_add, Nat.add_zero, Nat.reduceAdd, forall_const]
    exact lv hs5.fr0
  | true =>
    have hal : a.d.length ≤ 3000 := ht rfl (a, va) (by simp)
    simp only [nilc_some, fad_mk, pik_true, pik_false, cnd_true, cnd_false, gif_same, gif_tf, gif_ft, gif_undef, bi_add, bi_sub, bi_mul, bi_eql, bi_neq, bi_lss, bi_leq, bi_gtr, bi_geq, notB_bool, cvi_int, lenS_mk, lenT_mk, ext0, ext1, ext2, nilP_mk, nilS_mk, fldv_agg, jn0_k, jn1_k, jn2_k, jn1_and, jn1_or, ex_some, Option.isNone_some, Option.isNone_none, Bool.false_bne, Bool.bne_true, Bool.bne_false, Bool.true_bne, Bool.not_true, Bool.not_false, Bool.and_true, Bool.true_and, Bool.and_false, Bool.false_and, Bool.or_true, Bool.true_or, Bool.or_false, Bool.false_or, cond_true, cond_false, List.getElem?_toArray, List.getElem?_cons_zero, List.getElem?_cons_succ, Nat.zero_add, Nat.add_zero, Nat.reduceAdd, forall_const, hrd.len]
    rw [cnd_bool]
    refine ⟨fun h => lv hs5.fr0, fun h => ?_⟩
    have hl3 : l.length ≤ 3000 := by simp at h; omega
    refine cal_i (bClone_spec (hs5.rdB hrd) (by omega)) ?_
    rintro vc w6 hs6
    replace hs6 := hs5.join hs6
    simp only [L_api_Block (Sep.p1 hs6).blk, L_api_Block__Parent (Sep.p1 hs6).blk, L_api_Block__Height (Sep.p1 hs6).blk, L_api_Block__Data (Sep.p1 hs6).blk]
    refine cal_i (bkBytes_spec (hs6.rdB ha) hah) ?_
    rintro _ w7 ⟨s7, rfl, hs7⟩
    replace hs7 := hs6.join hs7
    simp only [nilc_some, fad_mk, pik_true, pik_false, cnd_true, cnd_false, gif_same, gif_tf, gif_ft, gif_undef, bi_add, bi_sub, bi_mul, bi_eql, bi_neq, bi_lss, bi_leq, bi_gtr, bi_geq, notB_bool, cvi_int, lenS_mk, lenT_mk, ext0, ext1, ext2, nilP_mk, nilS_mk, fldv_agg, jn0_k, jn1_k, jn2_k, jn1_and, jn1_or, ex_some, Option.isNone_some, Option.isNone_none, Bool.false_bne, Bool.bne_true, Bool.bne_false, Bool.true_bne, Bool.not_true, Bool.not_false, Bool.and_true, Bool.true_and, Bool.and_false, Bool.false_and, Bool.or_true, Bool.true_or, Bool.or_false, Bool.false_or, cond_true, cond_false, List.getElem?_toArray, List.getElem?_cons_zero, List.getElem?_cons_succ, Nat.zero_add, Nat.add_zero, Nat.reduceAdd, forall_const, L_api_Block (Sep.p2 hs7).blk, L_api_Block__Parent (Sep.p2 hs7).blk, L_api_Block__Height (Sep.p2 hs7).blk, L_api_Block__Data (Sep.p2 hs7).blk]
    refine cal_i (rbBytes_spec (hs7.rdB ha) hah) ?_
    rintro _ w8 ⟨s8, rfl, hs8⟩
    replace hs8 := hs7.join hs8
    simp only [nilc_some, fad_mk, pik_true, pik_false, cnd_true, cnd_false, gif_same, gif_tf, gif_ft, gif_undef, bi_add, bi_sub, bi_mul, bi_eql, bi_neq, bi_lss, bi_leq, bi_gtr, bi_geq, notB_bool, cvi_int, lenS_mk, lenT_mk, ext0, ext1, ext2, nilP_mk, nilS_mk, fldv_agg, jn0_k, jn1_k, jn2_k, jn1_and, jn1_or, ex_some, Option.isNone_some, Option.isNone_none, Bool.false_bne, Bool.bne_true, Bool.bne_false, Bool.true_bne, Bool.not_true, Bool.not_false, Bool.and_true, Bool.true_and, Bool.and_false, Bool.false_and, Bool.or_true, Bool.true_or, Bool.or_false, Bool.false_or, cond_true, cond_false, List.getElem?_toArray, List.getElem?_cons_zero, List.getElem?_cons_succ, Nat.zero_add, Nat.add_zero, Nat.reduceAdd, forall_const, L_api_Block (Sep.p3 hs8).blk, L_api_Block__Parent (Sep.p3 hs8).blk, L_api_Block__Height (Sep.p3 hs8).blk, L_api_Block__Data (Sep.p3 hs8).blk]
    refine cal_i (bkID_spec (hc.fr hs8.fr0) (hs8.rdB ha) hah) ?_
    rintro _ w9 ⟨rfl, hf9⟩
    have hs9 := hs8.old hf9
    simp only [nilc_some, fad_mk, pik_true, pik_false, cnd_true, cnd_false, gif_same, gif_tf, gif_ft, gif_undef, bi_add, bi_sub, bi_mul, bi_eql, bi_neq, bi_lss, bi_leq, bi_gtr, bi_geq, notB_bool, cvi_int, lenS_mk, lenT_mk, ext0, ext1, ext2, nilP_mk, nilS_mk, fldv_agg, jn0_k, jn1_k, jn2_k, jn1_and, jn1_or, ex_some, Option.isNone_some, Option.isNone_none, Bool.false_bne, Bool.bne_true, Bool.bne_false, Bool.true_bne, Bool.not_true, Bool.not_false, Bool.and_true, Bool.true_and, Bool.and_false, Bool.false_and, Bool.or_true, Bool.true_or, Bool.or_false, Bool.false_or, cond_true, cond_false, List.getElem?_toArray, List.getElem?_cons_zero, List.getElem?_cons_succ, Nat.zero_add, Nat.add_zero, Nat.reduceAdd, forall_const]
    refine alloc_s hs9 (A_api_ID w9) fun g10 w10 hs10 => ?_
    refine St_api_ID hs10 fun w11 hs11 => ?_
    simp only [L_api_Block (Sep.p4 hs11).blk, L_api_Block__Parent (Sep.p4 hs11).blk, L_api_Block__Height (Sep.p4 hs11).blk, L_api_Block__Data (Sep.p4 hs11).blk]
    refine cal_i (rbID_spec (hs11.rdB ha) hah) ?_
    rintro _ w12 ⟨rfl, hf12⟩
    have hs12 := hs11.old hf12
    simp only [nilc_some, fad_mk, pik_true, pik_false, cnd_true, cnd_false, gif_same, gif_tf, gif_ft, gif_undef, bi_add, bi_sub, bi_mul, bi_eql, bi_neq, bi_lss, bi_leq, bi_gtr, bi_geq, notB_bool, cvi_int, lenS_mk, lenT_mk, ext0, ext1, ext2, nilP_mk, nilS_mk, fldv_agg, jn0_k, jn1_k, jn2_k, jn1_and, jn1_or, ex_some, Option.isNone_some, Option.isNone_none, Bool.false_bne, Bool.bne_true, Bool.bne_false, Bool.true_bne, Bool.not_true, Bool.not_false, Bool.and_true, Bool.true_and, Bool.and_false, Bool.false_and, Bool.or_true, Bool.true_or, Bool.or_false, Bool.false_or, cond_true, cond_false, List.getElem?_toArray, List.getElem?_cons_zero, List.getElem?_cons_succ, Nat.zero_add, Nat.add_zero, Nat.reduceAdd, forall_const]
    refine alloc_s hs12 (A_api_ID w12) fun g13 w13 hs13 => ?_
    refine St_api_ID hs13 fun w14 hs14 => ?_
    refine cal_i (Parse_spec (hs14.rdB hrd)) ?_
    rintro _ w15 ⟨v15, rfl, hs15⟩
    replace hs15 := hs14.join hs15
    simp only [nilc_some, fad_mk, pik_true, pik_false, cnd_true, cnd_false, gif_same, gif_tf, gif_ft, gif_undef, bi_add, bi_sub, bi_mul, bi_eql, bi_neq, bi_lss, bi_leq, bi_gtr, bi_geq, notB_bool, cvi_int, lenS_mk, lenT_mk, ext0, ext1, ext2, nilP_mk, nilS_mk, fldv_agg, jn0_k, jn1_k, jn2_k, jn1_and, jn1_or, ex_some, Option.isNone_some, Option.isNone_none, Bool.false_bne, Bool.bne_true, Bool.bne_false, Bool.true_bne, Bool.not_true, Bool.not_false, Bool.and_true, Bool.true_and, Bool.and_false, Bool.false_and, Bool.or_true, Bool.true_or, Bool.or_false, Bool.false_or, cond_true, cond_false, List.getElem?_toArray, List.getElem?_cons_zero, List.getElem?_cons_succ, Nat.zero_add, Nat.add_zero, Nat.reduceAdd, forall_const]
    refine alloc_s hs15 (A_api_Block w15) fun g16 w16 hs16 => ?_
    refine St_api_Block hs16 (one_api_Block (Sep.one hs16.p1)) fun w17 hs17 => ?_
    refine cal_i (rParse_spec (hs17.rdB hrd) hcap hll) ?_
    rintro _ w18 ⟨v18, rfl, hs18⟩
    replace hs18 := hs17.join hs18
    simp only [nilc_some, fad_mk, pik_true, pik_false, cnd_true, cnd_false, gif_same, gif_tf, gif_ft, gif_undef, bi_add, bi_sub, bi_mul, bi_eql, bi_neq, bi_lss, bi_leq, bi_gtr, bi_geq, notB_bool, cvi_int, lenS_mk, lenT_mk, ext0, ext1, ext2, nilP_mk, nilS_mk, fldv_agg, jn0_k, jn1_k, jn2_k, jn1_and, jn1_or, ex_some, Option.isNone_some, Option.isNone_none, Bool.false_bne, Bool.bne_true, Bool.bne_false, Bool.true_bne, Bool.not_true, Bool.not_false, Bool.and_true, Bool.true_and, Bool.and_false, Bool.false_and, Bool.or_true, Bool.true_or, Bool.or_false, Bool.false_or, cond_true, cond_false, List.getElem?_toArray, List.getElem?_cons_zero, List.getElem?_cons_succ, Nat.zero_add, Nat.add_zero, Nat.reduceAdd, forall_const]
    refine alloc_s hs18 (A_api_Block w18) fun g19 w19 hs19 => ?_
    refine St_api_Block hs19 (one_api_Block (Sep.one hs19.p1)) fun w20 hs20 => ?_
    obtain ⟨k, hk⟩ : ∃ k, k = parse l := ⟨_, rfl⟩
    have hkl : k.d.length ≤ 3000 := by
      rw [hk, parse]
      split
      · rename_i hok
        have := (Blk.chk_ok hok.2.2.1).2.1
        omega
      · simp [Blk.none]
    rw [← hk] at hs20
    replace hs20 : Sep w w20 [bb g19 k v18, ownB v18 k.d, bb g16 k v15, ownB v15 k.d, blk g13 (Rdr.cells (rVec 32) a.name).toArray T_api_ID, blk g10 (Rdr.cells (rVec 32) a.name).toArray T_api_ID, ownB s8 a.out, ownB s7 a.out, ownB vc l, bb g a va] := hs20
    refine cal_i (bEqual_spec (Sep.rd (hs20.pick [7] 10)) (Sep.rd (hs20.pick [6] 10))) ?_
    rintro _ _ ⟨rfl, rfl⟩
    have e1 : (a.chk != a.chk) = false := by simp
    have e2 : (parseE l != parseE l) = false := by simp
    simp only [nilc_some, fad_mk, pik_true, pik_false, cnd_true, cnd_false, gif_same, gif_tf, gif_ft, gif_undef, bi_add, bi_sub, bi_mul, bi_eql, bi_neq, bi_lss, bi_leq, bi_gtr, bi_geq, notB_bool, cvi_int, lenS_mk, lenT_mk, ext0, ext1, ext2, nilP_mk, nilS_mk, fldv_agg, jn0_k, jn1_k, jn2_k, jn1_and, jn1_or, ex_some, Option.isNone_some, Option.isNone_none, Bool.false_bne, Bool.bne_true, Bool.bne_false, Bool.true_bne, Bool.not_true, Bool.not_false, Bool.and_true, Bool.true_and, Bool.and_false, Bool.false_and, Bool.or_true, Bool.true_or, Bool.or_false, Bool.false_or, cond_true, cond_false, List.getElem?_toArray, List.getElem?_cons_zero, List.getElem?_cons_succ, Nat.zero_add, Nat.add_zero, Nat.reduceAdd, forall_const, beq_self_eq_true, e1, L_api_ID (Sep.blk (hs20.pick [4] 10)), L_api_ID (Sep.blk (hs20.pick [5] 10)), ne_api_ID, decide_true]
    refine jn1_dup ?_
    simp only [nilc_some, fad_mk, pik_true, pik_false, cnd_true, cnd_false, gif_same, gif_tf, gif_ft, gif_undef, bi_add, bi_sub, bi_mul, bi_eql, bi_neq, bi_lss, bi_leq, bi_gtr, bi_geq, notB_bool, cvi_int, lenS_mk, lenT_mk, ext0, ext1, ext2, nilP_mk, nilS_mk, fldv_agg, jn0_k, jn1_k, jn2_k, jn1_and, jn1_or, ex_some, Option.isNone_some, Option.isNone_none, Bool.false_bne, Bool.bne_true, Bool.bne_false, Bool.true_bne, Bool.not_true, Bool.not_false, Bool.and_true, Bool.true_and, Bool.and_false, Bool.false_and, Bool.or_true, Bool.true_or, Bool.or_false, Bool.false_or, cond_true, cond_false, List.getElem?_toArray, List.getElem?_cons_zero, List.getElem?_cons_succ, Nat.zero_add, Nat.add_zero, Nat.reduceAdd, forall_const, L_api_Block (Sep.blk (hs20.pick [0] 10)), L_api_Block__Parent (Sep.blk (hs20.pick [0] 10)), L_api_Block__Height (Sep.blk (hs20.pick [0] 10)), L_api_Block__Data (Sep.blk (hs20.pick [0] 10)), L_api_Block (Sep.blk (hs20.pick [2] 10)), L_api_Block__Parent (Sep.blk (hs20.pick [2] 10)), L_api_Block__Height (Sep.blk (hs20.pick [2] 10)), L_api_Block__Data (Sep.blk (hs20.pick [2] 10))]
    refine cal_i (rSame_spec (a := k) (b := k) (Sep.rd (hs20.pick [3] 10)) (Sep.rd (hs20.pick [1] 10))) ?_
    rintro _ w21 ⟨rfl, hf21⟩
    have hs21 := hs20.old hf21
    simp only [nilc_some, fad_mk, pik_true, pik_false, cnd_true, cnd_false, gif_same, gif_tf, gif_ft, gif_undef, bi_add, bi_sub, bi_mul, bi_eql, bi_neq, bi_lss, bi_leq, bi_gtr, bi_geq, notB_bool, cvi_int, lenS_mk, lenT_mk, ext0, ext1, ext2, nilP_mk, nilS_mk, fldv_agg, jn0_k, jn1_k, jn2_k, jn1_and, jn1_or, ex_some, Option.isNone_some, Option.isNone_none, Bool.false_bne, Bool.bne_true, Bool.bne_false, Bool.true_bne, Bool.not_true, Bool.not_false, Bool.and_true, Bool.true_and, Bool.and_false, Bool.false_and, Bool.or_true, Bool.true_or, Bool.or_false, Bool.false_or, cond_true, cond_false, List.getElem?_toArray, List.getElem?_cons_zero, List.getElem?_cons_succ, Nat.zero_add, Nat.add_zero, Nat.reduceAdd, forall_const, decide_true, e2, L_api_Block (Sep.blk (hs21.pick [2] 10)), L_api_Block__Parent (Sep.blk (hs21.pick [2] 10)), L_api_Block__Height (Sep.blk (hs21.pick [2] 10)), L_api_Block__Data (Sep.blk (hs21.pick [2] 10)), (Sep.rd (hs21.pick [3] 10)).len]
    replace hs21 := hs21.pick [3, 2, 8] 10
    refine ⟨fun x w' => ∃ i : Nat, x = .int .i64 i ∧ i ≤ k.d.length ∧ Sep w w' [ownB v15 (flip k.d i), bb g16 k v15, ownB vc l], fun x _ => (k.d.length - RowKit.intOf x).toNat, ⟨0, rfl, by omega, by rw [flip_zero]; exact hs21⟩, ?_⟩
    rintro _ w22 ⟨i, rfl, hi, hs22⟩ -
    simp only [nilc_some, fad_mk, pik_true, pik_false, cnd_true, cnd_false, gif_same, gif_tf, gif_ft, gif_undef, bi_add, bi_sub, bi_mul, bi_eql, bi_neq, bi_lss, bi_leq, bi_gtr, bi_geq, notB_bool, cvi_int, lenS_mk, lenT_mk, ext0, ext1, ext2, nilP_mk, nilS_mk, fldv_agg, jn0_k, jn1_k, jn2_k, jn1_and, jn1_or, ex_some, Option.isNone_some, Option.isNone_none, Bool.false_bne, Bool.bne_true, Bool.bne_false, Bool.true_bne, Bool.not_true, Bool.not_false, Bool.and_true, Bool.true_and, Bool.and_false, Bool.false_and, Bool.or_true, Bool.true_or, Bool.or_false, Bool.false_or, cond_true, cond_false, List.getElem?_toArray, List.getElem?_cons_zero, List.getElem?_cons_succ, Nat.zero_add, Nat.add_zero, Nat.reduceAdd, forall_const]
    rw [cnd_bool]
    refine ⟨fun hlt => ?_, fun hlt => ?_⟩
    · have hlt : i < k.d.length := by simp at hlt; omega
      simp only [L_api_Block (Sep.blk (hs22.pick [1] 3)), L_api_Block__Parent (Sep.blk (hs22.pick [1] 3)), L_api_Block__Height (Sep.blk (hs22.pick [1] 3)), L_api_Block__Data (Sep.blk (hs22.pick [1] 3))]
      refine ldxB_s hs22 (by rw [flip_len]; exact hlt) ?_
      rw [xor255, flip_get hlt]
      refine stxB_s hs22 (by rw [flip_len]; exact hlt) _ fun w23 hs23 => ?_
      rw [flip_set hlt] at hs23
      rw [wi64 (by omega) (by omega)]
      exact ⟨⟨i + 1, by simp, by omega, hs23⟩, by simp [RowKit.intOf]; omega⟩
    · refine cal_i (bEqual_spec (hs22.rdB hrd) (Sep.rd (hs22.pick [2] 3))) ?_
      rintro _ _ ⟨rfl, rfl⟩
      rw [beq_self_eq_true]
      exact hR _ _ ⟨rfl, hs22.fr0⟩
end
end Go.Fx
