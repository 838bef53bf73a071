/-
  BlockLinks, walked.
-/
import Derived.Test.YtcanhbfdnhlhgaaDoorBlA
set_option linter.unusedVariables false
set_option linter.unusedSimpArgs false
namespace Go.Fx
theorem Blk.link_kid {b : Blk} {d : List UInt8} (hk : b.kidOk d) : (b.kid d).link b = 0 ∧ b.link (b.kid d) = 31 := by
  obtain ⟨h0, hm, hd⟩ := hk
  have hck := Blk.chk_ok h0
  have hkc : (b.kid d).chk = 0 := by rw [Blk.kid_chk hck.1, if_neg (by omega)]
  refine ⟨?_, ?_⟩
  · rw [Blk.link, if_neg (by rw [h0, hkc]; simp), if_pos ⟨rfl, rfl⟩]
  · rw [Blk.link, if_neg (by rw [h0, hkc]; simp), if_neg]
    rintro ⟨_, h2⟩
    have : b.h = b.h + 1 + 1 := h2
    omega
section
variable {w : World} {v : Value} {l : List UInt8} {x y : Vec 32 × Int × Sl UInt8}
theorem wLinks (hc : Cub w) (hx : Rdr.ok R_api_Block w.heap x) (hy : Rdr.ok R_api_Block w.heap y) (hl : rBytes.ok w.heap ⟨v, l⟩) :
    cal P f_law03_BlockLinks [.agg (Rdr.cells R_api_Block x).toArray, .agg (Rdr.cells R_api_Block y).toArray, v] w fun r w' => r = .bool true ∧ Fr [] w w' := by
  obtain ⟨a, haa⟩ : ∃ a, a = ab x := ⟨_, rfl⟩
  obtain ⟨b, hbb⟩ : ∃ b, b = ab y := ⟨_, rfl⟩
  have ha := ab_rd hx
  have hb := ab_rd hy
  have hah := ab_h hx
  have hbh := ab_h hy
  rw [← haa] at ha hah
  rw [← hbb] at hb hbh
  have ea : Value.agg (Rdr.cells R_api_Block x).toArray = bq a x.2.2.v := by rw [haa]; rfl
  have eb : Value.agg (Rdr.cells R_api_Block y).toArray = bq b y.2.2.v := by rw [hbb]; rfl
  rw [ea, eb]
  generalize x.2.2.v = va at *
  generalize y.2.2.v = vb at *
  have hrd : RdB w.heap v l := hl.1
  have hll : l.length ≤ 9223372036854775807 := hl.2.1
  clear hx hy hl haa hbb ea eb
  refine s_law03_BlockLinks fun R hR => ?_
  unfold c_law03_BlockLinks
  refine bxQ (Sep.start w) fun g w1 hs1 => ?_
  refine bxQ hs1 fun g2 w2 hs2 => ?_
  have lv : ∀ {z : World}, Fr [] w z → cal P f_law03_live [] z R := fun {z} hf => cal_i (live_spec (hc.fr hf)) fun r w' hr => hR _ _ ⟨hr.1, hf.trans hr.2 (by simp) (by simp)⟩
  refine cal_i (live_spec (hc.fr hs2.fr0)) ?_
  rintro _ w3 ⟨rfl, hf3⟩
  replace hs2 := hs2.old hf3
  simp only [nilc_some, fad_mk, pik_true, pik_false, cnd_true, cnd_false, gif_same, gif_tf, gif_ft, gif_undef, bi_add, bi_sub, bi_mul, bi_eql, bi_neq, bi_lss, bi_leq, bi_gtr, bi_geq, notB_bool, cvi_int, lenS_mk, lenT_mk, ext0, ext1, ext2, nilP_mk, nilS_mk, fldv_agg, jn0_k, jn1_k, jn2_k, jn1_and, jn1_or, ex_some, Option.isNone_some, Option.isNone_none, Bool.false_bne, Bool.bne_true, Bool.bne_false, Bool.true_bne, Bool.not_true, Bool.not_false, Bool.and_true, Bool.true_and, Bool.and_false, Bool.false_and, Bool.or_true, Bool.true_or, Bool.or_false, Bool.false_or, cond_true, cond_false, List.getElem?_toArray, List.getElem?_cons_zero, List.getElem?_cons_succ, Nat.zero_add, Nat.add_zero, Nat.reduceAdd, forall_const, L_api_Block hs2.blk, L_api_Block__Parent hs2.blk, L_api_Block__Height hs2.blk, L_api_Block__Data hs2.blk, L_api_Block (Sep.p1 hs2).blk, L_api_Block__Parent (Sep.p1 hs2).blk, L_api_Block__Height (Sep.p1 hs2).blk, L_api_Block__Data (Sep.p1 hs2).blk]
  refine jn1_dup ?_
  refine rows_lit hs2 S_sl_api_Block (l := [(a.p, a.h, va), (b.p, b.h, vb)]) (V := fun a => .agg (Rdr.cells Q_api_Block a).toArray) qV rfl rfl (by decide) (by decide) fun g4 w4 hs4 => ?_
  have hbr : BRows w4.heap (.slice (some ⟨g4, 0, none⟩) 2 2) [(a, va), (b, vb)] := ⟨Sep.rows hs4, fun z hz => by
    rcases List.mem_cons.1 hz with rfl | hz
    · exact hs4.rdB ha
    · rcases List.mem_cons.1 hz with rfl | hz
      · exact hs4.rdB hb
      · cases hz⟩
  refine cal_i (short_spec hbr (by simp)) ?_
  rintro _ w5 ⟨hf5, t, rfl, ht⟩
  have hs5 := hs4.tail.old hf5
  simp only [nilc_some, fad_mk, pik_true, pik_false, cnd_true, cnd_false, gif_same, gif_tf, gif_ft, gif_undef, bi_add, bi_sub, bi_mul, bi_eql, bi_neq, bi_lss, bi_leq, bi_gtr, bi_geq, notB_bool, cvi_int, lenS_mk, lenT_mk, ext0, ext1, ext2, nilP_mk, nilS_mk, fldv_agg, jn0_k, jn1_k, jn2_k, jn1_and, jn1_or, ex_some, Option.isNone_some, Option.isNone_none, Bool.false_bne, Bool.bne_true, Bool.bne_false, Bool.true_bne, Bool.not_true, Bool.not_false, Bool.and_true, Bool.true_and, Bool.and_false, Bool.false_and, Bool.or_true, Bool.true_or, Bool.or_false, Bool.false_or, cond_true, cond_false, List.getElem?_toArray, List.getElem?_cons_zero, List.getElem?_cons_succ, Nat.zero_add, Nat.add_zero, Nat.reduceAdd, forall_const]
  cases t with
  | false =>
    simp only [nilc_some, fad_mk, pik_true, pik_false, cnd_true, cnd_false, gif_same, gif_tf, gif_ft, gif_undef, bi_add, bi_sub, bi_mul, bi_eql, bi_neq, bi_lss, bi_leq, bi_gtr, bi_geq, notB_bool, cvi_int, lenS_mk, lenT_mk, ext0, ext1, ext2, nilP_mk, nilS_mk, fldv_agg, jn0_k, jn1_k, jn2_k, jn1_and, jn1_or, ex_some, Option.isNone_some, Option.isNone_none, Bool.false_bne, Bool.bne_true, Bool.bne_false, Bool.true_bne, Bool.not_true, Bool.not_false, Bool.and_true, Bool.true_and, Bool.and_false, Bool.false_and, Bool.or_true, Bool.true_or, Bool.or_false, Bool.false_or, cond_true, cond_false, List.getElem?_toArray, List.getElem?_cons_zero, List.getElem?_cons_succ, Nat.zero_add, Nat.add_zero, Nat.reduceAdd, forall_const]
    exact lv hs5.fr0
  | true =>
    have hal : a.d.length ≤ 3000 := ht rfl (a, va) (by simp)
    have hbl : b.d.length ≤ 3000 := ht rfl (b, vb) (by simp)
    simp only [nilc_some, fad_mk, pik_true, pik_false, cnd_true, cnd_false, gif_same, gif_tf, gif_ft, gif_undef, bi_add, bi_sub, bi_mul, bi_eql, bi_neq, bi_lss, bi_leq, bi_gtr, bi_geq, notB_bool, cvi_int, lenS_mk, lenT_mk, ext0, ext1, ext2, nilP_mk, nilS_mk, fldv_agg, jn0_k, jn1_k, jn2_k, jn1_and, jn1_or, ex_some, Option.isNone_some, Option.isNone_none, Bool.false_bne, Bool.bne_true, Bool.bne_false, Bool.true_bne, Bool.not_true, Bool.not_false, Bool.and_true, Bool.true_and, Bool.and_false, Bool.false_and, Bool.or_true, Bool.true_or, Bool.or_false, Bool.false_or, cond_true, cond_false, List.getElem?_toArray, List.getElem?_cons_zero, List.getElem?_cons_succ, Nat.zero_add, Nat.add_zero, Nat.reduceAdd, forall_const, hrd.len]
    rw [cnd_bool]
    refine ⟨fun h => lv hs5.fr0, fun h => ?_⟩
    simp only [L_api_Block (Sep.p1 hs5).blk, L_api_Block__Parent (Sep.p1 hs5).blk, L_api_Block__Height (Sep.p1 hs5).blk, L_api_Block__Data (Sep.p1 hs5).blk]
    refine cal_i (Child_spec (hc.fr hs5.fr0) (hs5.rdB ha) (hs5.rdB hrd) hah) ?_
    rintro _ w6 ⟨v6, rfl, hs6⟩
    replace hs6 := hs5.join hs6
    simp only [nilc_some, fad_mk, pik_true, pik_false, cnd_true, cnd_false, gif_same, gif_tf, gif_ft, gif_undef, bi_add, bi_sub, bi_mul, bi_eql, bi_neq, bi_lss, bi_leq, bi_gtr, bi_geq, notB_bool, cvi_int, lenS_mk, lenT_mk, ext0, ext1, ext2, nilP_mk, nilS_mk, fldv_agg, jn0_k, jn1_k, jn2_k, jn1_and, jn1_or, ex_some, Option.isNone_some, Option.isNone_none, Bool.false_bne, Bool.bne_true, Bool.bne_false, Bool.true_bne, Bool.not_true, Bool.not_false, Bool.and_true, Bool.true_and, Bool.and_false, Bool.false_and, Bool.or_true, Bool.true_or, Bool.or_false, Bool.false_or, cond_true, cond_false, List.getElem?_toArray, List.getElem?_cons_zero, List.getElem?_cons_succ, Nat.zero_add, Nat.add_zero, Nat.reduceAdd, forall_const]
    refine alloc_s hs6 (A_api_Block w6) fun g7 w7 hs7 => ?_
    refine St_api_Block hs7 (one_api_Block (Sep.one hs7.p1)) fun w8 hs8 => ?_
    simp only [L_api_Block (Sep.p3 hs8).blk, L_api_Block__Parent (Sep.p3 hs8).blk, L_api_Block__Height (Sep.p3 hs8).blk, L_api_Block__Data (Sep.p3 hs8).blk]
    refine cal_i (rbChild_spec (hs8.rdB ha) (hs8.rdB hrd) hah) ?_
    rintro _ w9 ⟨v9, rfl, hs9⟩
    replace hs9 := hs8.join hs9
    simp only [nilc_some, fad_mk, pik_true, pik_false, cnd_true, cnd_false, gif_same, gif_tf, gif_ft, gif_undef, bi_add, bi_sub, bi_mul, bi_eql, bi_neq, bi_lss, bi_leq, bi_gtr, bi_geq, notB_bool, cvi_int, lenS_mk, lenT_mk, ext0, ext1, ext2, nilP_mk, nilS_mk, fldv_agg, jn0_k, jn1_k, jn2_k, jn1_and, jn1_or, ex_some, Option.isNone_some, Option.isNone_none, Bool.false_bne, Bool.bne_true, Bool.bne_false, Bool.true_bne, Bool.not_true, Bool.not_false, Bool.and_true, Bool.true_and, Bool.and_false, Bool.false_and, Bool.or_true, Bool.true_or, Bool.or_false, Bool.false_or, cond_true, cond_false, List.getElem?_toArray, List.getElem?_cons_zero, List.getElem?_cons_succ, Nat.zero_add, Nat.add_zero, Nat.reduceAdd, forall_const]
    refine alloc_s hs9 (A_api_Block w9) fun g10 w10 hs10 => ?_
    refine St_api_Block hs10 (one_api_Block (Sep.one hs10.p1)) fun w11 hs11 => ?_
    obtain ⟨k, hk⟩ : ∃ k, k = a.child l := ⟨_, rfl⟩
    rw [← hk] at hs11
    replace hs11 : Sep w w11 [bb g10 k v9, ownB v9 k.d, bb g7 k v6, ownB v6 k.d, bb g2 b vb, bb g a va] := hs11
    obtain ⟨As, hAs⟩ : ∃ As, As = [bb g10 k v9, ownB v9 k.d, bb g7 k v6, ownB v6 k.d, bb g2 b vb, bb g a va] := ⟨_, rfl⟩
    have q10 : ∀ {z : World}, Sep w z As → z.heap[g10]? = _ := fun {z} h => Sep.blk (w := z) (by rw [hAs] at h; exact h.pick [0] 6)
    have q7 : ∀ {z : World}, Sep w z As → z.heap[g7]? = _ := fun {z} h => Sep.blk (w := z) (by rw [hAs] at h; exact h.pick [2] 6)
    have q2 : ∀ {z : World}, Sep w z As → z.heap[g2]? = _ := fun {z} h => Sep.blk (w := z) (by rw [hAs] at h; exact h.pick [4] 6)
    have q1 : ∀ {z : World}, Sep w z As → z.heap[g]? = _ := fun {z} h => Sep.blk (w := z) (by rw [hAs] at h; exact h.pick [5] 6)
    have d9 : ∀ {z : World}, Sep w z As → RdB z.heap v9 k.d := fun {z} h => Sep.rd (w := z) (by rw [hAs] at h; exact h.pick [1] 6)
    have d6 : ∀ {z : World}, Sep w z As → RdB z.heap v6 k.d := fun {z} h => Sep.rd (w := z) (by rw [hAs] at h; exact h.pick [3] 6)
    rw [← hAs] at hs11
    refine drH_S hs11 fun w12 hs12 _ => ?_
    refine rdS_bb (b := k) (v := v6) (fun u hu => ⟨_, _, q7 hu⟩) ?_
    refine rdS_bb (b := k) (v := v9) (fun u hu => ⟨_, _, q10 hu⟩) ?_
    refine efC_calA (w0 := w) (As := As) (cal_i (rSame_spec (a := k) (b := k) (d6 hs12) (d9 hs12)) ?_)
    rintro _ w13 ⟨rfl, hf13⟩
    have hs13 := hs12.old hf13
    refine ⟨hs13, ?_⟩
    have ecc : (a.childE l != a.childE l) = false := by simp
    simp only [nilc_some, fad_mk, pik_true, pik_false, cnd_true, cnd_false, gif_same, gif_tf, gif_ft, gif_undef, bi_add, bi_sub, bi_mul, bi_eql, bi_neq, bi_lss, bi_leq, bi_gtr, bi_geq, notB_bool, cvi_int, lenS_mk, lenT_mk, ext0, ext1, ext2, nilP_mk, nilS_mk, fldv_agg, jn0_k, jn1_k, jn2_k, jn1_and, jn1_or, ex_some, Option.isNone_some, Option.isNone_none, Bool.false_bne, Bool.bne_true, Bool.bne_false, Bool.true_bne, Bool.not_true, Bool.not_false, Bool.and_true, Bool.true_and, Bool.and_false, Bool.false_and, Bool.or_true, Bool.true_or, Bool.or_false, Bool.false_or, cond_true, cond_false, List.getElem?_toArray, List.getElem?_cons_zero, List.getElem?_cons_succ, Nat.zero_add, Nat.add_zero, Nat.reduceAdd, forall_const, decide_true, ecc]
    refine jn1_dup ?_
    refine rdS_bb (b := a) (v := va) (fun u hu => ⟨_, _, q1 hu⟩) ?_
    refine rdS_bb (b := b) (v := vb) (fun u hu => ⟨_, _, q2 hu⟩) ?_
    refine rdS_bb (b := a) (v := va) (fun u hu => ⟨_, _, q1 hu⟩) ?_
    refine rdS_bb (b := b) (v := vb) (fun u hu => ⟨_, _, q2 hu⟩) ?_
    refine efS_i (cal_i (Linked_spec (a := a) (b := b) (hc.fr hs13.fr0) (hs13.rdB ha) (hs13.rdB hb) hbh hah) ?_)
    rintro _ w14 ⟨rfl, hf14⟩
    have hs14 := hs13.old hf14
    refine ⟨hs14, ?_⟩
    refine efS_i (cal_i (rbLinked_spec (a := a) (b := b) (hs14.rdB ha) (hs14.rdB hb) hbh hah) ?_)
    rintro _ w15 ⟨rfl, hf15⟩
    have hs15 := hs14.old hf15
    refine ⟨hs15, ?_⟩
    have ell : (a.link b != a.link b) = false := by simp
    simp only [nilc_some, fad_mk, pik_true, pik_false, cnd_true, cnd_false, gif_same, gif_tf, gif_ft, gif_undef, bi_add, bi_sub, bi_mul, bi_eql, bi_neq, bi_lss, bi_leq, bi_gtr, bi_geq, notB_bool, cvi_int, lenS_mk, lenT_mk, ext0, ext1, ext2, nilP_mk, nilS_mk, fldv_agg, jn0_k, jn1_k, jn2_k, jn1_and, jn1_or, ex_some, Option.isNone_some, Option.isNone_none, Bool.false_bne, Bool.bne_true, Bool.bne_false, Bool.true_bne, Bool.not_true, Bool.not_false, Bool.and_true, Bool.true_and, Bool.and_false, Bool.false_and, Bool.or_true, Bool.true_or, Bool.or_false, Bool.false_or, cond_true, cond_false, List.getElem?_toArray, List.getElem?_cons_zero, List.getElem?_cons_succ, Nat.zero_add, Nat.add_zero, Nat.reduceAdd, forall_const, ell]
    by_cases hko : a.kidOk l
    · have ee : a.childE l = 0 := by rw [Blk.childE, if_pos hko]
      have ek : k = a.kid l := by rw [hk, Blk.child, if_pos hko]
      have hlk := Blk.link_kid hko
      rw [← ek] at hlk
      have hkh : k.h ≤ maxI := by
        rw [ek]
        have := hko.2.1
        unfold maxI at this hah ⊢
        show a.h + 1 ≤ _
        omega
      simp only [nilc_some, fad_mk, pik_true, pik_false, cnd_true, cnd_false, gif_same, gif_tf, gif_ft, gif_undef, bi_add, bi_sub, bi_mul, bi_eql, bi_neq, bi_lss, bi_leq, bi_gtr, bi_geq, notB_bool, cvi_int, lenS_mk, lenT_mk, ext0, ext1, ext2, nilP_mk, nilS_mk, fldv_agg, jn0_k, jn1_k, jn2_k, jn1_and, jn1_or, ex_some, Option.isNone_some, Option.isNone_none, Bool.false_bne, Bool.bne_true, Bool.bne_false, Bool.true_bne, Bool.not_true, Bool.not_false, Bool.and_true, Bool.true_and, Bool.and_false, Bool.false_and, Bool.or_true, Bool.true_or, Bool.or_false, Bool.false_or, cond_true, cond_false, List.getElem?_toArray, List.getElem?_cons_zero, List.getElem?_cons_succ, Nat.zero_add, Nat.add_zero, Nat.reduceAdd, forall_const, ee, show ((0 : Int) != 0) = false from rfl, L_api_Block (q7 hs15), L_api_Block__Parent (q7 hs15), L_api_Block__Height (q7 hs15), L_api_Block__Data (q7 hs15), L_api_Block (q1 hs15), L_api_Block__Parent (q1 hs15), L_api_Block__Height (q1 hs15), L_api_Block__Data (q1 hs15)]
      refine jn1_dup ?_
      refine cal_i (Linked_spec (a := k) (b := a) (hc.fr hs15.fr0) (d6 hs15) (hs15.rdB ha) hah hkh) ?_
      rintro _ w16 ⟨rfl, hf16⟩
      have hs16 := hs15.old hf16
      rw [hlk.1]
      simp only [nilc_some, fad_mk, pik_true, pik_false, cnd_true, cnd_false, gif_same, gif_tf, gif_ft, gif_undef, bi_add, bi_sub, bi_mul, bi_eql, bi_neq, bi_lss, bi_leq, bi_gtr, bi_geq, notB_bool, cvi_int, lenS_mk, lenT_mk, ext0, ext1, ext2, nilP_mk, nilS_mk, fldv_agg, jn0_k, jn1_k, jn2_k, jn1_and, jn1_or, ex_some, Option.isNone_some, Option.isNone_none, Bool.false_bne, Bool.bne_true, Bool.bne_false, Bool.true_bne, Bool.not_true, Bool.not_false, Bool.and_true, Bool.true_and, Bool.and_false, Bool.false_and, Bool.or_true, Bool.true_or, Bool.or_false, Bool.false_or, cond_true, cond_false, List.getElem?_toArray, List.getElem?_cons_zero, List.getElem?_cons_succ, Nat.zero_add, Nat.add_zero, Nat.reduceAdd, forall_const, show ((0 : Int) == 0) = true from rfl, L_api_Block (q7 hs16), L_api_Block__Parent (q7 hs16), L_api_Block__Height (q7 hs16), L_api_Block__Data (q7 hs16), L_api_Block (q1 hs16), L_api_Block__Parent (q1 hs16), L_api_Block__Height (q1 hs16), L_api_Block__Data (q1 hs16)]
      refine jn1_dup ?_
      refine cal_i (Linked_spec (a := a) (b := k) (hc.fr hs16.fr0) (hs16.rdB ha) (d6 hs16) hkh hah) ?_
      rintro _ w17 ⟨rfl, hf17⟩
      have hs17 := hs16.old hf17
      rw [hlk.2]
      simp only [nilc_some, fad_mk, pik_true, pik_false, cnd_true, cnd_false, gif_same, gif_tf, gif_ft, gif_undef, bi_add, bi_sub, bi_mul, bi_eql, bi_neq, bi_lss, bi_leq, bi_gtr, bi_geq, notB_bool, cvi_int, lenS_mk, lenT_mk, ext0, ext1, ext2, nilP_mk, nilS_mk, fldv_agg, jn0_k, jn1_k, jn2_k, jn1_and, jn1_or, ex_some, Option.isNone_some, Option.isNone_none, Bool.false_bne, Bool.bne_true, Bool.bne_false, Bool.true_bne, Bool.not_true, Bool.not_false, Bool.and_true, Bool.true_and, Bool.and_false, Bool.false_and, Bool.or_true, Bool.true_or, Bool.or_false, Bool.false_or, cond_true, cond_false, List.getElem?_toArray, List.getElem?_cons_zero, List.getElem?_cons_succ, Nat.zero_add, Nat.add_zero, Nat.reduceAdd, forall_const, show ((31 : Int) == 31) = true from rfl]
      exact hR _ _ ⟨rfl, hs17.fr0⟩
    · have ee : a.childE l = 30 := by rw [Blk.childE, if_neg hko]
      simp only [nilc_some, fad_mk, pik_true, pik_false, cnd_true, cnd_false, gif_same, gif_tf, gif_ft, gif_undef, bi_add, bi_sub, bi_mul, bi_eql, bi_neq, bi_lss, bi_leq, bi_gtr, bi_geq, notB_bool, cvi_int, lenS_mk, lenT_mk, ext0, ext1, ext2, nilP_mk, nilS_mk, fldv_agg, jn0_k, jn1_k, jn2_k, jn1_and, jn1_or, ex_some, Option.isNone_some, Option.isNone_none, Bool.false_bne, Bool.bne_true, Bool.bne_false, Bool.true_bne, Bool.not_true, Bool.not_false, Bool.and_true, Bool.true_and, Bool.and_false, Bool.false_and, Bool.or_true, Bool.true_or, Bool.or_false, Bool.false_or, cond_true, cond_false, List.getElem?_toArray, List.getElem?_cons_zero, List.getElem?_cons_succ, Nat.zero_add, Nat.add_zero, Nat.reduceAdd, forall_const, ee, show ((30 : Int) != 0) = true from rfl]
      exact hR _ _ ⟨rfl, hs15.fr0⟩
end
end Go.Fx
