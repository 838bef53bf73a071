/-
  BlockIs, walked.
-/
import Derived.Test.YtcanhbfdnhlhgaaDoorBlA
set_option linter.unusedVariables false
set_option linter.unusedSimpArgs false
namespace Go.Fx
section
variable {w : World} {x y : Vec 32 × Int × Sl UInt8}
theorem wIs (hc : Cub w) (hx : Rdr.ok R_api_Block w.heap x) (hy : Rdr.ok R_api_Block w.heap y) :
    cal P f_law03_BlockIs [.agg (Rdr.cells R_api_Block x).toArray, .agg (Rdr.cells R_api_Block y).toArray] w fun r w' => r = .bool true ∧ Fr [] w w' := by
  obtain ⟨a, haa⟩ : ∃ a, a = ab x := ⟨_, rfl⟩
  obtain ⟨b, hbb⟩ : ∃ b, b = ab y := ⟨_, rfl⟩
  have ha := ab_rd hx
  have hb := ab_rd hy
  rw [← haa] at ha
  rw [← hbb] at hb
  have ea : Value.agg (Rdr.cells R_api_Block x).toArray = bq a x.2.2.v := by rw [haa]; rfl
  have eb : Value.agg (Rdr.cells R_api_Block y).toArray = bq b y.2.2.v := by rw [hbb]; rfl
  rw [ea, eb]
  generalize x.2.2.v = va at *
  generalize y.2.2.v = vb at *
  clear hx hy haa hbb ea eb
  refine s_law03_BlockIs fun R hR => ?_
  unfold c_law03_BlockIs
  refine bxQ (Sep.start w) fun g w1 hs1 => ?_
  refine bxQ hs1 fun g2 w2 hs2 => ?_
  have lv : ∀ {z : World}, Fr [] w z → cal P f_law03_live [] z R := fun {z} hf => cal_i (live_spec (hc.fr hf)) fun r w' hr => hR _ _ ⟨hr.1, hf.trans hr.2 (by simp) (by simp)⟩
  refine cal_i (live_spec (hc.fr hs2.fr0)) ?_
  rintro _ w3 ⟨rfl, hf3⟩
  replace hs2 := hs2.old hf3
  simp only [nilc_some, fad_mk, pik_true, pik_false, cnd_true, cnd_false, gif_same, gif_tf, gif_ft, gif_undef, bi_add, bi_sub, bi_mul, bi_eql, bi_neq, bi_lss, bi_leq, bi_gtr, bi_geq, notB_bool, cvi_int, lenS_mk, lenT_mk, ext0, ext1, ext2, nilP_mk, nilS_mk, fldv_agg, jn0_k, jn1_k, jn2_k, jn1_and, jn1_or, ex_some, Option.isNone_some, Option.isNone_none, Bool.false_bne, Bool.bne_true, Bool.bne_false, Bool.true_bne, Bool.not_true, Bool.not_false, Bool.and_true, Bool.true_and, Bool.and_false, Bool.false_and, Bool.or_true, Bool.true_or, Bool.or_false, Bool.false_or, cond_true, cond_false, List.getElem?_toArray, List.getElem?_cons_zero, List.getElem?_cons_succ, Nat.zero_add, Nat.add_zero, Nat.reduceAdd, forall_const, L_api_Block hs2.blk, L_api_Block__Parent hs2.blk, L_api_Block__Height hs2.blk, L_api_Block__Data hs2.blk, L_api_Block (Sep.p1 hs2).blk, L_api_Block__Parent (Sep.p1 hs2).blk, L_api_Block__Height (Sep.p1 hs2).blk, L_api_Block__Data (Sep.p1 hs2).blk]
  refine jn1_dup ?_
  refine rows_lit hs2 S_sl_api_Block (l := [(a.p, a.h, va), (b.p, b.h, vb)]) (V := fun a => .agg (Rdr.cells Q_api_Block a).toArray) qV rfl rfl (by decide) (by decide) fun g4 w4 hs4 => ?_
  have hbr : BRows w4.heap (.slice (some ⟨g4, 0, none⟩) 2 2) [(a, va), (b, vb)] := ⟨Sep.rows hs4, fun z hz => by
    rcases List.mem_cons.1 hz with rfl | hz
    · exact hs4.rdB ha
    · rcases List.mem_cons.1 hz with rfl | hz
      · exact hs4.rdB hb
      · cases hz⟩
  refine cal_i (short_spec hbr (by simp)) ?_
  rintro _ w5 ⟨hf5, t, rfl, ht⟩
  have hs5 := hs4.tail.old hf5
  simp only [nilc_some, fad_mk, pik_true, pik_false, cnd_true, cnd_false, gif_same, gif_tf, gif_ft, gif_undef, bi_add, bi_sub, bi_mul, bi_eql, bi_neq, bi_lss, bi_leq, bi_gtr, bi_geq, notB_bool, cvi_int, lenS_mk, lenT_mk, ext0, ext1, ext2, nilP_mk, nilS_mk, fldv_agg, jn0_k, jn1_k, jn2_k, jn1_and, jn1_or, ex_some, Option.isNone_some, Option.isNone_none, Bool.false_bne, Bool.bne_true, Bool.bne_false, Bool.true_bne, Bool.not_true, Bool.not_false, Bool.and_true, Bool.true_and, Bool.and_false, Bool.false_and, Bool.or_true, Bool.true_or, Bool.or_false, Bool.false_or, cond_true, cond_false, List.getElem?_toArray, List.getElem?_cons_zero, List.getElem?_cons_succ, Nat.zero_add, Nat.add_zero, Nat.reduceAdd, forall_const]
  cases t with
  | false =>
    simp only [nilc_some, fad_mk, pik_true, pik_false, cnd_true, cnd_false, gif_same, gif_tf, gif_ft, gif_undef, bi_add, bi_sub, bi_mul, bi_eql, bi_neq, bi_lss, bi_leq, bi_gtr, bi_geq, notB_bool, cvi_int, lenS_mk, lenT_mk, ext0, ext1, ext2, nilP_mk, nilS_mk, fldv_agg, jn0_k, jn1_k, jn2_k, jn1_and, jn1_or, ex_some, Option.isNone_some, Option.isNone_none, Bool.false_bne, Bool.bne_true, Bool.bne_false, Bool.true_bne, Bool.not_true, Bool.not_false, Bool.and_true, Bool.true_and, Bool.and_false, Bool.false_and, Bool.or_true, Bool.true_or, Bool.or_false, Bool.false_or, cond_true, cond_false, List.getElem?_toArray, List.getElem?_cons_zero, List.getElem?_cons_succ, Nat.zero_add, Nat.add_zero, Nat.reduceAdd, forall_const]
    exact lv hs5.fr0
  | true =>
    have hal : a.d.length ≤ 3000 := ht rfl (a, va) (by simp)
    have hbl : b.d.length ≤ 3000 := ht rfl (b, vb) (by simp)
    simp only [nilc_some, fad_mk, pik_true, pik_false, cnd_true, cnd_false, gif_same, gif_tf, gif_ft, gif_undef, bi_add, bi_sub, bi_mul, bi_eql, bi_neq, bi_lss, bi_leq, bi_gtr, bi_geq, notB_bool, cvi_int, lenS_mk, lenT_mk, ext0, ext1, ext2, nilP_mk, nilS_mk, fldv_agg, jn0_k, jn1_k, jn2_k, jn1_and, jn1_or, ex_some, Option.isNone_some, Option.isNone_none, Bool.false_bne, Bool.bne_true, Bool.bne_false, Bool.true_bne, Bool.not_true, Bool.not_false, Bool.and_true, Bool.true_and, Bool.and_false, Bool.false_and, Bool.or_true, Bool.true_or, Bool.or_false, Bool.false_or, cond_true, cond_false, List.getElem?_toArray, List.getElem?_cons_zero, List.getElem?_cons_succ, Nat.zero_add, Nat.add_zero, Nat.reduceAdd, forall_const, L_api_Block (Sep.p1 hs5).blk, L_api_Block__Parent (Sep.p1 hs5).blk, L_api_Block__Height (Sep.p1 hs5).blk, L_api_Block__Data (Sep.p1 hs5).blk]
    refine cal_i (rbClone_spec (hs5.rdB ha) (by omega)) ?_
    rintro _ w6 ⟨v6, rfl, hs6⟩
    replace hs6 := hs5.join hs6
    refine alloc_s hs6 (A_api_Block w6) fun g7 w7 hs7 => ?_
    refine St_api_Block hs7 (one_api_Block (Sep.one hs7.p1)) fun w8 hs8 => ?_
    simp only [L_api_Block (Sep.p3 hs8).blk, L_api_Block__Parent (Sep.p3 hs8).blk, L_api_Block__Height (Sep.p3 hs8).blk, L_api_Block__Data (Sep.p3 hs8).blk]
    refine cal_i (bkClone_spec (hs8.rdB ha) (by omega)) ?_
    rintro _ w9 ⟨v9, rfl, hs9⟩
    replace hs9 := hs8.join hs9
    refine alloc_s hs9 (A_api_Block w9) fun g10 w10 hs10 => ?_
    refine St_api_Block hs10 (one_api_Block (Sep.one hs10.p1)) fun w11 hs11 => ?_
    simp only [nilc_some, fad_mk, pik_true, pik_false, cnd_true, cnd_false, gif_same, gif_tf, gif_ft, gif_undef, bi_add, bi_sub, bi_mul, bi_eql, bi_neq, bi_lss, bi_leq, bi_gtr, bi_geq, notB_bool, cvi_int, lenS_mk, lenT_mk, ext0, ext1, ext2, nilP_mk, nilS_mk, fldv_agg, jn0_k, jn1_k, jn2_k, jn1_and, jn1_or, ex_some, Option.isNone_some, Option.isNone_none, Bool.false_bne, Bool.bne_true, Bool.bne_false, Bool.true_bne, Bool.not_true, Bool.not_false, Bool.and_true, Bool.true_and, Bool.and_false, Bool.false_and, Bool.or_true, Bool.true_or, Bool.or_false, Bool.false_or, cond_true, cond_false, List.getElem?_toArray, List.getElem?_cons_zero, List.getElem?_cons_succ, Nat.zero_add, Nat.add_zero, Nat.reduceAdd, forall_const, L_api_Block (Sep.p5 hs11).blk, L_api_Block__Parent (Sep.p5 hs11).blk, L_api_Block__Height (Sep.p5 hs11).blk, L_api_Block__Data (Sep.p5 hs11).blk]
    refine cal_i (First_spec (hs11.rdB ha)) ?_
    rintro _ w12 ⟨v12, rfl, hs12⟩
    replace hs12 := hs11.join hs12
    simp only [nilc_some, fad_mk, pik_true, pik_false, cnd_true, cnd_false, gif_same, gif_tf, gif_ft, gif_undef, bi_add, bi_sub, bi_mul, bi_eql, bi_neq, bi_lss, bi_leq, bi_gtr, bi_geq, notB_bool, cvi_int, lenS_mk, lenT_mk, ext0, ext1, ext2, nilP_mk, nilS_mk, fldv_agg, jn0_k, jn1_k, jn2_k, jn1_and, jn1_or, ex_some, Option.isNone_some, Option.isNone_none, Bool.false_bne, Bool.bne_true, Bool.bne_false, Bool.true_bne, Bool.not_true, Bool.not_false, Bool.and_true, Bool.true_and, Bool.and_false, Bool.false_and, Bool.or_true, Bool.true_or, Bool.or_false, Bool.false_or, cond_true, cond_false, List.getElem?_toArray, List.getElem?_cons_zero, List.getElem?_cons_succ, Nat.zero_add, Nat.add_zero, Nat.reduceAdd, forall_const]
    refine alloc_s hs12 (A_api_Block w12) fun g13 w13 hs13 => ?_
    refine St_api_Block hs13 (one_api_Block (Sep.one hs13.p1)) fun w14 hs14 => ?_
    simp only [nilc_some, fad_mk, pik_true, pik_false, cnd_true, cnd_false, gif_same, gif_tf, gif_ft, gif_undef, bi_add, bi_sub, bi_mul, bi_eql, bi_neq, bi_lss, bi_leq, bi_gtr, bi_geq, notB_bool, cvi_int, lenS_mk, lenT_mk, ext0, ext1, ext2, nilP_mk, nilS_mk, fldv_agg, jn0_k, jn1_k, jn2_k, jn1_and, jn1_or, ex_some, Option.isNone_some, Option.isNone_none, Bool.false_bne, Bool.bne_true, Bool.bne_false, Bool.true_bne, Bool.not_true, Bool.not_false, Bool.and_true, Bool.true_and, Bool.and_false, Bool.false_and, Bool.or_true, Bool.true_or, Bool.or_false, Bool.false_or, cond_true, cond_false, List.getElem?_toArray, List.getElem?_cons_zero, List.getElem?_cons_succ, Nat.zero_add, Nat.add_zero, Nat.reduceAdd, forall_const, L_api_Block (Sep.blk (hs14.pick [7] 8)), L_api_Block__Parent (Sep.blk (hs14.pick [7] 8)), L_api_Block__Height (Sep.blk (hs14.pick [7] 8)), L_api_Block__Data (Sep.blk (hs14.pick [7] 8))]
    refine cal_i (rFirst_spec (hs14.rdB ha)) ?_
    rintro _ w15 ⟨v15, rfl, hs15⟩
    replace hs15 := hs14.join hs15
    simp only [nilc_some, fad_mk, pik_true, pik_false, cnd_true, cnd_false, gif_same, gif_tf, gif_ft, gif_undef, bi_add, bi_sub, bi_mul, bi_eql, bi_neq, bi_lss, bi_leq, bi_gtr, bi_geq, notB_bool, cvi_int, lenS_mk, lenT_mk, ext0, ext1, ext2, nilP_mk, nilS_mk, fldv_agg, jn0_k, jn1_k, jn2_k, jn1_and, jn1_or, ex_some, Option.isNone_some, Option.isNone_none, Bool.false_bne, Bool.bne_true, Bool.bne_false, Bool.true_bne, Bool.not_true, Bool.not_false, Bool.and_true, Bool.true_and, Bool.and_false, Bool.false_and, Bool.or_true, Bool.true_or, Bool.or_false, Bool.false_or, cond_true, cond_false, List.getElem?_toArray, List.getElem?_cons_zero, List.getElem?_cons_succ, Nat.zero_add, Nat.add_zero, Nat.reduceAdd, forall_const]
    refine alloc_s hs15 (A_api_Block w15) fun g16 w16 hs16 => ?_
    refine St_api_Block hs16 (one_api_Block (Sep.one hs16.p1)) fun w17 hs17 => ?_
    obtain ⟨k, hk⟩ : ∃ k, k = (Blk.first a.d).mk' := ⟨_, rfl⟩
    rw [← hk] at hs17
    replace hs17 : Sep w w17 [bb g16 k v15, ownB v15 k.d, bb g13 k v12, ownB v12 k.d, bb g10 a v9, ownB v9 a.d, bb g7 a v6, ownB v6 a.d, bb g2 b vb, bb g a va] := hs17
    obtain ⟨As, hAs⟩ : ∃ As, As = [bb g16 k v15, ownB v15 k.d, bb g13 k v12, ownB v12 k.d, bb g10 a v9, ownB v9 a.d, bb g7 a v6, ownB v6 a.d, bb g2 b vb, bb g a va] := ⟨_, rfl⟩
    have q16 : ∀ {z : World}, Sep w z As → z.heap[g16]? = _ := fun {z} h => Sep.blk (w := z) (by rw [hAs] at h; exact h.pick [0] 10)
    have q13 : ∀ {z : World}, Sep w z As → z.heap[g13]? = _ := fun {z} h => Sep.blk (w := z) (by rw [hAs] at h; exact h.pick [2] 10)
    have q10 : ∀ {z : World}, Sep w z As → z.heap[g10]? = _ := fun {z} h => Sep.blk (w := z) (by rw [hAs] at h; exact h.pick [4] 10)
    have q2 : ∀ {z : World}, Sep w z As → z.heap[g2]? = _ := fun {z} h => Sep.blk (w := z) (by rw [hAs] at h; exact h.pick [8] 10)
    have q1 : ∀ {z : World}, Sep w z As → z.heap[g]? = _ := fun {z} h => Sep.blk (w := z) (by rw [hAs] at h; exact h.pick [9] 10)
    have d15 : ∀ {z : World}, Sep w z As → RdB z.heap v15 k.d := fun {z} h => Sep.rd (w := z) (by rw [hAs] at h; exact h.pick [1] 10)
    have d12 : ∀ {z : World}, Sep w z As → RdB z.heap v12 k.d := fun {z} h => Sep.rd (w := z) (by rw [hAs] at h; exact h.pick [3] 10)
    have d9 : ∀ {z : World}, Sep w z As → RdB z.heap v9 a.d := fun {z} h => Sep.rd (w := z) (by rw [hAs] at h; exact h.pick [5] 10)
    rw [← hAs] at hs17
    refine drH_S hs17 fun w18 hs18 _ => ?_
    refine rdS_bb (b := a) (v := va) (fun u hu => ⟨_, _, q1 hu⟩) ?_
    refine rdS_bb (b := a) (v := va) (fun u hu => ⟨_, _, q1 hu⟩) ?_
    refine efS_i (cal_i (Check_spec (hs18.rdB ha)) ?_)
    rintro _ w19 ⟨rfl, hf19⟩
    have hs19 := hs18.old hf19
    refine ⟨hs19, efC_calA (w0 := w) (As := As) (cal_i (rCheck_spec (hs19.rdB ha)) ?_)⟩
    rintro _ w20 ⟨rfl, hf20⟩
    have hs20 := hs19.old hf20
    refine ⟨hs20, ?_⟩
    have e1 : (a.chk != a.chk) = false := by simp
    simp only [nilc_some, fad_mk, pik_true, pik_false, cnd_true, cnd_false, gif_same, gif_tf, gif_ft, gif_undef, bi_add, bi_sub, bi_mul, bi_eql, bi_neq, bi_lss, bi_leq, bi_gtr, bi_geq, notB_bool, cvi_int, lenS_mk, lenT_mk, ext0, ext1, ext2, nilP_mk, nilS_mk, fldv_agg, jn0_k, jn1_k, jn2_k, jn1_and, jn1_or, ex_some, Option.isNone_some, Option.isNone_none, Bool.false_bne, Bool.bne_true, Bool.bne_false, Bool.true_bne, Bool.not_true, Bool.not_false, Bool.and_true, Bool.true_and, Bool.and_false, Bool.false_and, Bool.or_true, Bool.true_or, Bool.or_false, Bool.false_or, cond_true, cond_false, List.getElem?_toArray, List.getElem?_cons_zero, List.getElem?_cons_succ, Nat.zero_add, Nat.add_zero, Nat.reduceAdd, forall_const, e1]
    refine jn1_dup ?_
    refine rdS_bb (b := a) (v := va) (fun u hu => ⟨_, _, q1 hu⟩) ?_
    refine rdS_bb (b := b) (v := vb) (fun u hu => ⟨_, _, q2 hu⟩) ?_
    refine rdS_bb (b := a) (v := va) (fun u hu => ⟨_, _, q1 hu⟩) ?_
    refine rdS_bb (b := b) (v := vb) (fun u hu => ⟨_, _, q2 hu⟩) ?_
    refine efS_i (cal_i (Same_spec (a := a) (b := b) (hs20.rdB ha) (hs20.rdB hb)) ?_)
    rintro _ w21 ⟨rfl, hf21⟩
    have hs21 := hs20.old hf21
    refine ⟨hs21, efS_i (cal_i (rSame_spec (a := a) (b := b) (hs21.rdB ha) (hs21.rdB hb)) ?_)⟩
    rintro _ w22 ⟨rfl, hf22⟩
    have hs22 := hs21.old hf22
    refine ⟨hs22, ⟨_, fun u _ => (neS_bool _ _ U_bool _).mpr rfl, ?_⟩⟩
    have e2 : (decide (a = b) != decide (a = b)) = false := by simp
    simp only [nilc_some, fad_mk, pik_true, pik_false, cnd_true, cnd_false, gif_same, gif_tf, gif_ft, gif_undef, bi_add, bi_sub, bi_mul, bi_eql, bi_neq, bi_lss, bi_leq, bi_gtr, bi_geq, notB_bool, cvi_int, lenS_mk, lenT_mk, ext0, ext1, ext2, nilP_mk, nilS_mk, fldv_agg, jn0_k, jn1_k, jn2_k, jn1_and, jn1_or, ex_some, Option.isNone_some, Option.isNone_none, Bool.false_bne, Bool.bne_true, Bool.bne_false, Bool.true_bne, Bool.not_true, Bool.not_false, Bool.and_true, Bool.true_and, Bool.and_false, Bool.false_and, Bool.or_true, Bool.true_or, Bool.or_false, Bool.false_or, cond_true, cond_false, List.getElem?_toArray, List.getElem?_cons_zero, List.getElem?_cons_succ, Nat.zero_add, Nat.add_zero, Nat.reduceAdd, forall_const, e2]
    refine jn1_dup ?_
    refine rdS_bb (b := a) (v := va) (fun u hu => ⟨_, _, q1 hu⟩) ?_
    refine rdS_bb (b := a) (v := va) (fun u hu => ⟨_, _, q1 hu⟩) ?_
    refine efS_i (cal_i (Same_spec (a := a) (b := a) (hs22.rdB ha) (hs22.rdB ha)) ?_)
    rintro _ w23 ⟨rfl, hf23⟩
    have hs23 := hs22.old hf23
    refine ⟨hs23, ?_⟩
    simp only [nilc_some, fad_mk, pik_true, pik_false, cnd_true, cnd_false, gif_same, gif_tf, gif_ft, gif_undef, bi_add, bi_sub, bi_mul, bi_eql, bi_neq, bi_lss, bi_leq, bi_gtr, bi_geq, notB_bool, cvi_int, lenS_mk, lenT_mk, ext0, ext1, ext2, nilP_mk, nilS_mk, fldv_agg, jn0_k, jn1_k, jn2_k, jn1_and, jn1_or, ex_some, Option.isNone_some, Option.isNone_none, Bool.false_bne, Bool.bne_true, Bool.bne_false, Bool.true_bne, Bool.not_true, Bool.not_false, Bool.and_true, Bool.true_and, Bool.and_false, Bool.false_and, Bool.or_true, Bool.true_or, Bool.or_false, Bool.false_or, cond_true, cond_false, List.getElem?_toArray, List.getElem?_cons_zero, List.getElem?_cons_succ, Nat.zero_add, Nat.add_zero, Nat.reduceAdd, forall_const, decide_true]
    refine jn1_dup ?_
    refine rdS_bb (b := a) (v := v9) (fun u hu => ⟨_, _, q10 hu⟩) ?_
    refine rdS_bb (b := a) (v := va) (fun u hu => ⟨_, _, q1 hu⟩) ?_
    refine efS_i (cal_i (rSame_spec (a := a) (b := a) (d9 hs23) (hs23.rdB ha)) ?_)
    rintro _ w24 ⟨rfl, hf24⟩
    have hs24 := hs23.old hf24
    refine ⟨hs24, ?_⟩
    simp only [nilc_some, fad_mk, pik_true, pik_false, cnd_true, cnd_false, gif_same, gif_tf, gif_ft, gif_undef, bi_add, bi_sub, bi_mul, bi_eql, bi_neq, bi_lss, bi_leq, bi_gtr, bi_geq, notB_bool, cvi_int, lenS_mk, lenT_mk, ext0, ext1, ext2, nilP_mk, nilS_mk, fldv_agg, jn0_k, jn1_k, jn2_k, jn1_and, jn1_or, ex_some, Option.isNone_some, Option.isNone_none, Bool.false_bne, Bool.bne_true, Bool.bne_false, Bool.true_bne, Bool.not_true, Bool.not_false, Bool.and_true, Bool.true_and, Bool.and_false, Bool.false_and, Bool.or_true, Bool.true_or, Bool.or_false, Bool.false_or, cond_true, cond_false, List.getElem?_toArray, List.getElem?_cons_zero, List.getElem?_cons_succ, Nat.zero_add, Nat.add_zero, Nat.reduceAdd, forall_const, decide_true]
    refine jn1_dup ?_
    refine rdS_bb (b := k) (v := v12) (fun u hu => ⟨_, _, q13 hu⟩) ?_
    refine rdS_bb (b := k) (v := v15) (fun u hu => ⟨_, _, q16 hu⟩) ?_
    refine efS_i (cal_i (rSame_spec (a := k) (b := k) (d12 hs24) (d15 hs24)) ?_)
    rintro _ w25 ⟨rfl, hf25⟩
    have hs25 := hs24.old hf25
    refine ⟨hs25, ?_⟩
    have e3 : ((Blk.first a.d).chk != (Blk.first a.d).chk) = false := by simp
    simp only [nilc_some, fad_mk, pik_true, pik_false, cnd_true, cnd_false, gif_same, gif_tf, gif_ft, gif_undef, bi_add, bi_sub, bi_mul, bi_eql, bi_neq, bi_lss, bi_leq, bi_gtr, bi_geq, notB_bool, cvi_int, lenS_mk, lenT_mk, ext0, ext1, ext2, nilP_mk, nilS_mk, fldv_agg, jn0_k, jn1_k, jn2_k, jn1_and, jn1_or, ex_some, Option.isNone_some, Option.isNone_none, Bool.false_bne, Bool.bne_true, Bool.bne_false, Bool.true_bne, Bool.not_true, Bool.not_false, Bool.and_true, Bool.true_and, Bool.and_false, Bool.false_and, Bool.or_true, Bool.true_or, Bool.or_false, Bool.false_or, cond_true, cond_false, List.getElem?_toArray, List.getElem?_cons_zero, List.getElem?_cons_succ, Nat.zero_add, Nat.add_zero, Nat.reduceAdd, forall_const, decide_true, e3, L_api_Block (q10 hs25), L_api_Block__Parent (q10 hs25), L_api_Block__Height (q10 hs25), L_api_Block__Data (q10 hs25), L_api_Block (q13 hs25), L_api_Block__Parent (q13 hs25), L_api_Block__Height (q13 hs25), L_api_Block__Data (q13 hs25)]
    rw [hAs] at hs25
    have hb2 : ∀ w : World, (Instr.buildSlice T_sl_sl_uint8 2 #[(0, v9), (1, v12)]).run P w = .ok (.slice (some ⟨w.heap.size, 0, none⟩) 2 2) (w.alloc (.cells ([v9, v12] : List Value).toArray T_sl_uint8)) := by
      obtain ⟨_, _, r9⟩ := (Sep.rd (hs25.pick [5] 10)).form
      obtain ⟨_, _, r12⟩ := (Sep.rd (hs25.pick [3] 10)).form
      rw [r9, r12]
      intro w
      kernel_rfl
    refine build_s (cs := [v9, v12]) (size := 1) hs25 rfl (hb2 _) fun g26 w26 hs26 => ?_
    have hkl : k.d.length ≤ 3000 := by
      rw [hk, Blk.mk']
      split
      · exact hal
      · simp [Blk.none]
    rw [lenS_mk]
    refine ⟨fun y w' => ∃ i : Nat, y = .int .i64 i ∧ i ≤ 2 ∧ ∃ l9 l12, l9.length = a.d.length ∧ l12.length = k.d.length ∧ Sep w w' [ownB v9 l9, ownB v12 l12, own (.slice (some ⟨g26, 0, none⟩) 2 2) 1 2 [v9, v12], bb g7 a v6, ownB v6 a.d, bb g a va], fun y _ => (2 - RowKit.intOf y).toNat,
      ⟨0, rfl, by omega, a.d, k.d, rfl, rfl, hs26.pick [6, 4, 0, 7, 8, 10] 11⟩, ?_⟩
    rintro _ w27 ⟨i, rfl, hi, l9, l12, hl9, hl12, hs27⟩ -
    simp only [nilc_some, fad_mk, pik_true, pik_false, cnd_true, cnd_false, gif_same, gif_tf, gif_ft, gif_undef, bi_add, bi_sub, bi_mul, bi_eql, bi_neq, bi_lss, bi_leq, bi_gtr, bi_geq, notB_bool, cvi_int, lenS_mk, lenT_mk, ext0, ext1, ext2, nilP_mk, nilS_mk, fldv_agg, jn0_k, jn1_k, jn2_k, jn1_and, jn1_or, ex_some, Option.isNone_some, Option.isNone_none, Bool.false_bne, Bool.bne_true, Bool.bne_false, Bool.true_bne, Bool.not_true, Bool.not_false, Bool.and_true, Bool.true_and, Bool.and_false, Bool.false_and, Bool.or_true, Bool.true_or, Bool.or_false, Bool.false_or, cond_true, cond_false, List.getElem?_toArray, List.getElem?_cons_zero, List.getElem?_cons_succ, Nat.zero_add, Nat.add_zero, Nat.reduceAdd, forall_const]
    rw [cnd_bool]
    refine ⟨fun h => ?_, fun h => ?_⟩
    · have hlt : i = 0 ∨ i = 1 := by simp at h; omega
      rcases hlt with rfl | rfl
      · refine ldx (Sep.cel hs27.p2) (j := 0) (u := v9) rfl ?_
        rw [(Sep.rd hs27).len]
        refine flip_loop hs27 (by omega) fun w28 hs28 => ?_
        rw [wi64 (by omega) (by omega)]
        exact ⟨⟨1, by simp, by omega, _, l12, by rw [flip_len]; exact hl9, hl12, hs28⟩, by simp [RowKit.intOf]⟩
      · refine ldx (Sep.cel hs27.p2) (j := 1) (u := v12) rfl ?_
        rw [(Sep.rd hs27.p1).len]
        refine flip_loop hs27.p1 (by omega) fun w28 hs28 => ?_
        rw [wi64 (by omega) (by omega)]
        exact ⟨⟨2, by simp, by omega, l9, _, hl9, by rw [flip_len]; exact hl12, hs28.p1⟩, by simp [RowKit.intOf]⟩
    · simp only [L_api_Block (Sep.blk (hs27.pick [5] 6)), L_api_Block__Parent (Sep.blk (hs27.pick [5] 6)), L_api_Block__Height (Sep.blk (hs27.pick [5] 6)), L_api_Block__Data (Sep.blk (hs27.pick [5] 6)), L_api_Block (Sep.blk (hs27.pick [3] 6)), L_api_Block__Parent (Sep.blk (hs27.pick [3] 6)), L_api_Block__Height (Sep.blk (hs27.pick [3] 6)), L_api_Block__Data (Sep.blk (hs27.pick [3] 6))]
      refine cal_i (rSame_spec (a := a) (b := a) (hs27.rdB ha) (Sep.rd (hs27.pick [4] 6))) ?_
      rintro _ w28 ⟨rfl, hf28⟩
      rw [decide_eq_true rfl]
      exact hR _ _ ⟨rfl, (hs27.old hf28).fr0⟩
end
end Go.Fx
