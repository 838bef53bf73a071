/-
  What is proved: for every two lists of items the law PackParts returns true, and its arguments read as they did. Conditions: none.
-/
import Derived.Test.YtamjngkjpalchaaPkE
import Derived.Test.YtamjngkjpalchaaBase
set_option linter.unusedVariables false
set_option linter.unusedSimpArgs false
namespace Go.Fx
/-- How what one packer has (z) stands to two (x, then y). -/
def PartsRel (x y z : Pk) : Prop :=
  x.made = true ∧ y.made = true ∧ z.made = true ∧ x.limit = 8192 ∧ y.limit = 8192 ∧ z.limit = 8192 ∧
    ((x.e ≠ 0 ∧ z.e ≠ 0) ∨ (x.e = 0 ∧ y.e = 0 ∧ z.e = 0 ∧ z.b = x.b ++ y.b) ∨ (x.e = 0 ∧ y.e = 0 ∧ z.e ≠ 0 ∧ 8192 < x.b.length + y.b.length) ∨ (x.e = 0 ∧ y.e ≠ 0 ∧ z.e ≠ 0))
theorem works_of {x : Pk} (h : x.made = true) (he : x.e = 0) : x.works = true := by simp [Pk.works, h, he]
theorem works_not {x : Pk} (he : x.e ≠ 0) : x.works = false := by simp [Pk.works, he]
theorem PartsRel.add {x y z : Pk} (h : PartsRel x y z) (b : List UInt8) : PartsRel x (y.add b) (z.add b) := by
  obtain ⟨h1, h2, h3, h4, h5, h6, h⟩ := h
  have hy : (y.add b).made = true ∧ (y.add b).limit = 8192 := by
    unfold Pk.add
    repeat' split
    all_goals exact ⟨h2, h5⟩
  have hz : (z.add b).made = true ∧ (z.add b).limit = 8192 := by
    unfold Pk.add
    repeat' split
    all_goals exact ⟨h3, h6⟩
  refine ⟨h1, hy.1, hz.1, h4, hy.2, hz.2, ?_⟩
  rcases h with ⟨hx, hze⟩ | ⟨hx, hye, hze, hb⟩ | ⟨hx, hye, hze, hb⟩ | ⟨hx, hye, hze⟩
  · refine .inl ⟨hx, ?_⟩
    rw [Pk.add, if_neg (by simp [works_not hze])]
    exact hze
  · have ey : y.add b = if y.limit - y.b.length < (b.length : Int) then { y with e := 10 } else { y with b := y.b ++ b } := by rw [Pk.add, if_pos (works_of h2 hye)]
    have ez : z.add b = if z.limit - z.b.length < (b.length : Int) then { z with e := 10 } else { z with b := z.b ++ b } := by rw [Pk.add, if_pos (works_of h3 hze)]
    rw [ey, ez, h5, h6, hb]
    by_cases c1 : (8192 : Int) - y.b.length < (b.length : Int)
    · rw [if_pos c1, if_pos (by simp; omega)]
      exact .inr (.inr (.inr ⟨hx, by simp, by simp⟩))
    · rw [if_neg c1]
      by_cases c2 : (8192 : Int) - ((x.b ++ y.b).length : Nat) < (b.length : Int)
      · rw [if_pos c2]
        refine .inr (.inr (.inl ⟨hx, hye, by simp, ?_⟩))
        simp at c2 ⊢
        omega
      · rw [if_neg c2]
        exact .inr (.inl ⟨hx, hye, hze, by simp⟩)
  · rw [show z.add b = z by rw [Pk.add, if_neg (by simp [works_not hze])]]
    rw [Pk.add, if_pos (works_of h2 hye)]
    split
    · exact .inr (.inr (.inr ⟨hx, by simp, hze⟩))
    · refine .inr (.inr (.inl ⟨hx, hye, hze, ?_⟩))
      simp
      omega
  · rw [show z.add b = z by rw [Pk.add, if_neg (by simp [works_not hze])], show y.add b = y by rw [Pk.add, if_neg (by simp [works_not hye])]]
    exact .inr (.inr (.inr ⟨hx, hye, hze⟩))
theorem PartsRel.text {x y z : Pk} (h : PartsRel x y z) (b : List UInt8) : PartsRel x (y.text b) (z.text b) := by
  have hk := h
  obtain ⟨h1, h2, h3, h4, h5, h6, h⟩ := h
  by_cases hl : 65535 < b.length
  · have ey : ∀ u : Pk, u.text b = if u.works then { u with e := 3 } else u := fun u => by unfold Pk.text; simp [hl]
    rw [ey, ey]
    have hwy : y.works = (y.e == 0) := by simp [Pk.works, h2]
    have hwz : z.works = (z.e == 0) := by simp [Pk.works, h3]
    have fy : (if y.works = true then ({ y with e := 3 } : Pk) else y).made = true ∧ (if y.works = true then ({ y with e := 3 } : Pk) else y).limit = 8192 ∧ (if y.works = true then ({ y with e := 3 } : Pk) else y).e ≠ 0 := by
      split
      · exact ⟨h2, h5, by simp⟩
      · rename_i hw
        exact ⟨h2, h5, by simpa [hwy] using hw⟩
    have fz : (if z.works = true then ({ z with e := 3 } : Pk) else z).made = true ∧ (if z.works = true then ({ z with e := 3 } : Pk) else z).limit = 8192 ∧ (if z.works = true then ({ z with e := 3 } : Pk) else z).e ≠ 0 := by
      split
      · exact ⟨h3, h6, by simp⟩
      · rename_i hw
        exact ⟨h3, h6, by simpa [hwz] using hw⟩
    refine ⟨h1, fy.1, fz.1, h4, fy.2.1, fz.2.1, ?_⟩
    by_cases hx : x.e = 0
    · exact .inr (.inr (.inr ⟨hx, fy.2.2, fz.2.2⟩))
    · exact .inl ⟨hx, fz.2.2⟩
  · have ey : ∀ u : Pk, u.text b = u.add (be 2 b.length ++ b) := fun u => by
      unfold Pk.text
      split
      · first | rfl | rw [if_neg hl]
      · rename_i hw
        rw [Pk.add, if_neg hw]
    rw [ey, ey]
    exact hk.add _
theorem PartsRel.item {x y z : Pk} (h : PartsRel x y z) (i : It) : PartsRel x (y.item i) (z.item i) := by
  unfold Pk.item
  repeat' split
  all_goals first | exact h.add _ | exact h.text _ | exact h
theorem PartsRel.new {x : Pk} (hm : x.made = true) (hl : x.limit = 8192) : PartsRel x (Pk.new 8192) x := by
  refine ⟨hm, rfl, hm, hl, rfl, hl, ?_⟩
  by_cases hx : x.e = 0
  · exact .inr (.inl ⟨hx, rfl, hx, by simp [Pk.new]⟩)
  · exact .inl ⟨hx, hx⟩
theorem PackParts_walk {w : World} {v u : Value} {l m : List (It × Value)} (hr : RdI w.heap v l) (hr' : RdI w.heap u m) :
    cal P f_law01_PackParts [v, u] w fun r w' => r = .bool true ∧ Fr [] w w' := by
  refine s_law01_PackParts fun R hR => ?_
  unfold c_law01_PackParts
  refine cal_i live_spec ?_
  rintro _ w1 ⟨rfl, hf1⟩
  simp only [nilc_some, fad_mk, pik_true, pik_false, cnd_true, cnd_false, gif_same, gif_tf, gif_ft, gif_undef, bi_add, bi_sub, bi_mul, bi_eql, bi_neq, bi_lss, bi_leq, bi_gtr, bi_geq, notB_bool, cvi_int, lenS_mk, lenT_mk, ext0, ext1, ext2, nilP_mk, nilS_mk, fldv_agg, jn0_k, jn1_k, jn2_k, jn1_and, jn1_or, ex_some, Option.isNone_some, Option.isNone_none, Bool.false_bne, Bool.bne_true, Bool.bne_false, Bool.true_bne, Bool.not_true, Bool.not_false, Bool.and_true, Bool.true_and, Bool.and_false, Bool.false_and, Bool.or_true, Bool.true_or, Bool.or_false, Bool.false_or, cond_true, cond_false, List.getElem?_toArray, List.getElem?_cons_zero, List.getElem?_cons_succ, Nat.zero_add, Nat.add_zero, Nat.reduceAdd, forall_const]
  refine jn1_dup ?_
  refine cal_i (few_spec (hr.fr hf1)) ?_
  rintro _ w2 ⟨f, rfl, hfew, hf2⟩
  have hf12 := hf1.trans (H := []) hf2 (by simp) (by simp)
  simp only [nilc_some, fad_mk, pik_true, pik_false, cnd_true, cnd_false, gif_same, gif_tf, gif_ft, gif_undef, bi_add, bi_sub, bi_mul, bi_eql, bi_neq, bi_lss, bi_leq, bi_gtr, bi_geq, notB_bool, cvi_int, lenS_mk, lenT_mk, ext0, ext1, ext2, nilP_mk, nilS_mk, fldv_agg, jn0_k, jn1_k, jn2_k, jn1_and, jn1_or, ex_some, Option.isNone_some, Option.isNone_none, Bool.false_bne, Bool.bne_true, Bool.bne_false, Bool.true_bne, Bool.not_true, Bool.not_false, Bool.and_true, Bool.true_and, Bool.and_false, Bool.false_and, Bool.or_true, Bool.true_or, Bool.or_false, Bool.false_or, cond_true, cond_false, List.getElem?_toArray, List.getElem?_cons_zero, List.getElem?_cons_succ, Nat.zero_add, Nat.add_zero, Nat.reduceAdd, forall_const]
  have hlive : ∀ w', Fr [] w w' → cal P f_law01_live [] w' fun t30 w => R t30 w := fun w' hf' => by
    refine cal_i live_spec ?_
    rintro _ w3 ⟨rfl, hf3⟩
    exact hR _ _ ⟨rfl, hf'.trans hf3 (by simp) (by simp)⟩
  cases f with
  | false =>
    simp only [nilc_some, fad_mk, pik_true, pik_false, cnd_true, cnd_false, gif_same, gif_tf, gif_ft, gif_undef, bi_add, bi_sub, bi_mul, bi_eql, bi_neq, bi_lss, bi_leq, bi_gtr, bi_geq, notB_bool, cvi_int, lenS_mk, lenT_mk, ext0, ext1, ext2, nilP_mk, nilS_mk, fldv_agg, jn0_k, jn1_k, jn2_k, jn1_and, jn1_or, ex_some, Option.isNone_some, Option.isNone_none, Bool.false_bne, Bool.bne_true, Bool.bne_false, Bool.true_bne, Bool.not_true, Bool.not_false, Bool.and_true, Bool.true_and, Bool.and_false, Bool.false_and, Bool.or_true, Bool.true_or, Bool.or_false, Bool.false_or, cond_true, cond_false, List.getElem?_toArray, List.getElem?_cons_zero, List.getElem?_cons_succ, Nat.zero_add, Nat.add_zero, Nat.reduceAdd, forall_const]
    exact hlive _ hf12
  | true =>
  obtain ⟨hl200, hlen⟩ := hfew rfl
  simp only [nilc_some, fad_mk, pik_true, pik_false, cnd_true, cnd_false, gif_same, gif_tf, gif_ft, gif_undef, bi_add, bi_sub, bi_mul, bi_eql, bi_neq, bi_lss, bi_leq, bi_gtr, bi_geq, notB_bool, cvi_int, lenS_mk, lenT_mk, ext0, ext1, ext2, nilP_mk, nilS_mk, fldv_agg, jn0_k, jn1_k, jn2_k, jn1_and, jn1_or, ex_some, Option.isNone_some, Option.isNone_none, Bool.false_bne, Bool.bne_true, Bool.bne_false, Bool.true_bne, Bool.not_true, Bool.not_false, Bool.and_true, Bool.true_and, Bool.and_false, Bool.false_and, Bool.or_true, Bool.true_or, Bool.or_false, Bool.false_or, cond_true, cond_false, List.getElem?_toArray, List.getElem?_cons_zero, List.getElem?_cons_succ, Nat.zero_add, Nat.add_zero, Nat.reduceAdd, forall_const]
  refine jn1_dup ?_
  refine cal_i (few_spec (hr'.fr hf12)) ?_
  rintro _ w3 ⟨f, rfl, hfew', hf3⟩
  have hf13 := hf12.trans (H := []) hf3 (by simp) (by simp)
  simp only [nilc_some, fad_mk, pik_true, pik_false, cnd_true, cnd_false, gif_same, gif_tf, gif_ft, gif_undef, bi_add, bi_sub, bi_mul, bi_eql, bi_neq, bi_lss, bi_leq, bi_gtr, bi_geq, notB_bool, cvi_int, lenS_mk, lenT_mk, ext0, ext1, ext2, nilP_mk, nilS_mk, fldv_agg, jn0_k, jn1_k, jn2_k, jn1_and, jn1_or, ex_some, Option.isNone_some, Option.isNone_none, Bool.false_bne, Bool.bne_true, Bool.bne_false, Bool.true_bne, Bool.not_true, Bool.not_false, Bool.and_true, Bool.true_and, Bool.and_false, Bool.false_and, Bool.or_true, Bool.true_or, Bool.or_false, Bool.false_or, cond_true, cond_false, List.getElem?_toArray, List.getElem?_cons_zero, List.getElem?_cons_succ, Nat.zero_add, Nat.add_zero, Nat.reduceAdd, forall_const]
  cases f with
  | false =>
    simp only [nilc_some, fad_mk, pik_true, pik_false, cnd_true, cnd_false, gif_same, gif_tf, gif_ft, gif_undef, bi_add, bi_sub, bi_mul, bi_eql, bi_neq, bi_lss, bi_leq, bi_gtr, bi_geq, notB_bool, cvi_int, lenS_mk, lenT_mk, ext0, ext1, ext2, nilP_mk, nilS_mk, fldv_agg, jn0_k, jn1_k, jn2_k, jn1_and, jn1_or, ex_some, Option.isNone_some, Option.isNone_none, Bool.false_bne, Bool.bne_true, Bool.bne_false, Bool.true_bne, Bool.not_true, Bool.not_false, Bool.and_true, Bool.true_and, Bool.and_false, Bool.false_and, Bool.or_true, Bool.true_or, Bool.or_false, Bool.false_or, cond_true, cond_false, List.getElem?_toArray, List.getElem?_cons_zero, List.getElem?_cons_succ, Nat.zero_add, Nat.add_zero, Nat.reduceAdd, forall_const]
    exact hlive _ hf13
  | true =>
  obtain ⟨hl200', hlen'⟩ := hfew' rfl
  simp only [nilc_some, fad_mk, pik_true, pik_false, cnd_true, cnd_false, gif_same, gif_tf, gif_ft, gif_undef, bi_add, bi_sub, bi_mul, bi_eql, bi_neq, bi_lss, bi_leq, bi_gtr, bi_geq, notB_bool, cvi_int, lenS_mk, lenT_mk, ext0, ext1, ext2, nilP_mk, nilS_mk, fldv_agg, jn0_k, jn1_k, jn2_k, jn1_and, jn1_or, ex_some, Option.isNone_some, Option.isNone_none, Bool.false_bne, Bool.bne_true, Bool.bne_false, Bool.true_bne, Bool.not_true, Bool.not_false, Bool.and_true, Bool.true_and, Bool.and_false, Bool.false_and, Bool.or_true, Bool.true_or, Bool.or_false, Bool.false_or, cond_true, cond_false, List.getElem?_toArray, List.getElem?_cons_zero, List.getElem?_cons_succ, Nat.zero_add, Nat.add_zero, Nat.reduceAdd, forall_const]
  refine cal_i (New_spec 8192) ?_
  rintro a w4 ⟨A, ha4, hf4, hA⟩
  refine cal_i (New_spec 8192) ?_
  rintro b w5 ⟨B, hb5, hf5, hB⟩
  refine cal_i (New_spec 8192) ?_
  rintro c w6 ⟨C, hc6, hf6, hC⟩
  have hf14 := hf13.trans (H := []) hf4 (by simp) (by simp)
  have hf15 := hf14.trans (H := []) hf5 (by simp) (by simp)
  have hf16 := hf15.trans (H := []) hf6 (by simp) (by simp)
  have ha6 := (ha4.fr hf5 (by simp)).fr hf6 (by simp)
  have hb6 := hb5.fr hf6 (by simp)
  have hAw : ∀ k ∈ A, w.heap.size ≤ k := fun k hk => Nat.le_trans hf13.size (hA k hk)
  have hBw : ∀ k ∈ B, w.heap.size ≤ k := fun k hk => Nat.le_trans hf14.size (hB k hk)
  have hCw : ∀ k ∈ C, w.heap.size ≤ k := fun k hk => Nat.le_trans hf15.size (hC k hk)
  have hAB : ∀ k ∈ A, k ∉ B := fun k hk hm => by have h1 := ha4.lt k hk; have h2 := hB k hm; omega
  have hAC : ∀ k ∈ A, k ∉ C := fun k hk hm => by have h1 := ha4.lt k hk; have h2 := hC k hm; have h3 := hf5.size; omega
  have hBC : ∀ k ∈ B, k ∉ C := fun k hk hm => by have h1 := hb5.lt k hk; have h2 := hC k hm; omega
  rw [ha6.nilP]
  simp only [nilc_some, fad_mk, pik_true, pik_false, cnd_true, cnd_false, gif_same, gif_tf, gif_ft, gif_undef, bi_add, bi_sub, bi_mul, bi_eql, bi_neq, bi_lss, bi_leq, bi_gtr, bi_geq, notB_bool, cvi_int, lenS_mk, lenT_mk, ext0, ext1, ext2, nilP_mk, nilS_mk, fldv_agg, jn0_k, jn1_k, jn2_k, jn1_and, jn1_or, ex_some, Option.isNone_some, Option.isNone_none, Bool.false_bne, Bool.bne_true, Bool.bne_false, Bool.true_bne, Bool.not_true, Bool.not_false, Bool.and_true, Bool.true_and, Bool.and_false, Bool.false_and, Bool.or_true, Bool.true_or, Bool.or_false, Bool.false_or, cond_true, cond_false, List.getElem?_toArray, List.getElem?_cons_zero, List.getElem?_cons_succ, Nat.zero_add, Nat.add_zero, Nat.reduceAdd, forall_const, hb6.nilP, hc6.nilP]
  rw [hr.len]
  refine ⟨fun y w' => ∃ (i : Nat) (x : Pk) (A C : List Nat), i ≤ l.length ∧ y = .int .i64 i ∧ x.Ok ∧ x.Sm ∧ x.made = true ∧ x.limit = 8192 ∧ IsPk w'.heap a x A ∧ IsPk w'.heap b (Pk.new 8192) B ∧ IsPk w'.heap c x C ∧
      (∀ k ∈ A, k ∉ B) ∧ (∀ k ∈ A, k ∉ C) ∧ (∀ k ∈ B, k ∉ C) ∧ (∀ k ∈ A, w.heap.size ≤ k) ∧ (∀ k ∈ C, w.heap.size ≤ k) ∧ Fr [] w w',
    fun y _ => (l.length - RowKit.intOf y).toNat, ⟨0, Pk.new 8192, A, C, by omega, rfl, Pk.new_ok _, Pk.Sm.new _, rfl, rfl, ha6, hb6, hc6, hAB, hAC, hBC, hAw, hCw, hf16⟩, ?_⟩
  clear hA hB hC hAw hCw hAB hAC hBC ha6 hc6 ha4 hb6
  rintro _ w7 ⟨i, x, A, C, hi, rfl, hok, hsm, hmade, hlim, ha, hb, hc, hAB, hAC, hBC, hAw, hCw, hf7⟩ -
  simp only [nilc_some, fad_mk, pik_true, pik_false, cnd_true, cnd_false, gif_same, gif_tf, gif_ft, gif_undef, bi_add, bi_sub, bi_mul, bi_eql, bi_neq, bi_lss, bi_leq, bi_gtr, bi_geq, notB_bool, cvi_int, lenS_mk, lenT_mk, ext0, ext1, ext2, nilP_mk, nilS_mk, fldv_agg, jn0_k, jn1_k, jn2_k, jn1_and, jn1_or, ex_some, Option.isNone_some, Option.isNone_none, Bool.false_bne, Bool.bne_true, Bool.bne_false, Bool.true_bne, Bool.not_true, Bool.not_false, Bool.and_true, Bool.true_and, Bool.and_false, Bool.false_and, Bool.or_true, Bool.true_or, Bool.or_false, Bool.false_or, cond_true, cond_false, List.getElem?_toArray, List.getElem?_cons_zero, List.getElem?_cons_succ, Nat.zero_add, Nat.add_zero, Nat.reduceAdd, forall_const]
  rw [cnd_bool]
  refine ⟨fun h => ?_, fun h => ?_⟩
  · have hlt : i < l.length := by simp at h; omega
    obtain ⟨it, hit⟩ : ∃ it, l[i]? = some it := ⟨_, List.getElem?_eq_getElem hlt⟩
    have hmem := List.mem_of_getElem? hit
    have hbl := hlen it hmem
    have hok5 := (hr.2.2.2 it hmem).fr hf7
    refine ldxN (hr.1.fr hf7 (off_nil _)) (by omega) hlt ?_
    rw [hr.at hit]
    refine item_copy rfl (itc_one hok5) fun w8 g hg hg8 hf8 => ?_
    have hf18 := hf7.trans (H := []) hf8 (by simp) (by simp)
    rw [ldN_eq hg8]
    refine ⟨by simp [itc], ?_⟩
    rw [show (itc it).toArray.extract 0 (0 + 4) = (itc it).toArray from rfl]
    refine cal_i (put_item (ha.fr hf8 (by simp)) hok hf18 hAw (hr.2.2.2 it hmem) hbl) ?_
    rintro _ w9 ⟨rfl, A', ha9, hf9, hg9, hf19, hAw'⟩
    have hgA : g ∉ A := fun hm => by have := ha.lt g hm; omega
    have hg9' := hf9.blk hg8 hgA
    rw [ldN_eq hg9']
    refine ⟨by simp [itc], ?_⟩
    rw [show (itc it).toArray.extract 0 (0 + 4) = (itc it).toArray from rfl]
    have hb9 := (hb.fr hf8 (by simp)).fr hf9 fun k hk hm => hAB k hm hk
    have hc9 := (hc.fr hf8 (by simp)).fr hf9 fun k hk hm => hAC k hm hk
    have hAB' := hg9.disj hAB (hb.fr hf8 (by simp)).lt
    have hAC' := hg9.disj hAC (hc.fr hf8 (by simp)).lt
    refine cal_i (put_item hc9 hok hf19 hCw (hr.2.2.2 it hmem) hbl) ?_
    rintro _ w10 ⟨rfl, C', hc10, hf10, hg10, hf110, hCw'⟩
    try simp only [nilc_some, fad_mk, pik_true, pik_false, cnd_true, cnd_false, gif_same, gif_tf, gif_ft, gif_undef, bi_add, bi_sub, bi_mul, bi_eql, bi_neq, bi_lss, bi_leq, bi_gtr, bi_geq, notB_bool, cvi_int, lenS_mk, lenT_mk, ext0, ext1, ext2, nilP_mk, nilS_mk, fldv_agg, jn0_k, jn1_k, jn2_k, jn1_and, jn1_or, ex_some, Option.isNone_some, Option.isNone_none, Bool.false_bne, Bool.bne_true, Bool.bne_false, Bool.true_bne, Bool.not_true, Bool.not_false, Bool.and_true, Bool.true_and, Bool.and_false, Bool.false_and, Bool.or_true, Bool.true_or, Bool.or_false, Bool.false_or, cond_true, cond_false, List.getElem?_toArray, List.getElem?_cons_zero, List.getElem?_cons_succ, Nat.zero_add, Nat.add_zero, Nat.reduceAdd, forall_const]
    rw [wi64 (by omega) (by omega)]
    have hCA := hg10.disj (fun k hk hm => hAC' k hm hk) ha9.lt
    have hCB := hg10.disj (fun k hk hm => hBC k hm hk) hb9.lt
    exact ⟨⟨i + 1, x.item it.1, A', C', by omega, by simp, Pk.item_ok hok _, hsm.item hok _, by rw [Pk.item_made]; exact hmade, by rw [Pk.item_limit]; exact hlim, ha9.fr hf10 hAC', hb9.fr hf10 hBC, hc10, hAB', fun k hk hm => hCA k hm hk,
      fun k hk hm => hCB k hm hk, hAw', hCw', hf110⟩, by simp [RowKit.intOf]; omega⟩
  rw [hr'.len]
  refine ⟨fun y w' => ∃ (i : Nat) (y' z : Pk) (B C : List Nat), i ≤ m.length ∧ y = .int .i64 i ∧ y'.Ok ∧ y'.Sm ∧ z.Ok ∧ z.Sm ∧ PartsRel x y' z ∧ IsPk w'.heap a x A ∧ IsPk w'.heap b y' B ∧ IsPk w'.heap c z C ∧
      (∀ k ∈ B, k ∉ A) ∧ (∀ k ∈ C, k ∉ A) ∧ (∀ k ∈ B, k ∉ C) ∧ (∀ k ∈ B, w.heap.size ≤ k) ∧ (∀ k ∈ C, w.heap.size ≤ k) ∧ Fr [] w w',
    fun y _ => (m.length - RowKit.intOf y).toNat, ⟨0, Pk.new 8192, x, B, C, by omega, rfl, Pk.new_ok _, Pk.Sm.new _, hok, hsm, PartsRel.new hmade hlim, ha, hb, hc, fun k hk hm => hAB k hm hk, fun k hk hm => hAC k hm hk, hBC, hBw, hCw, hf7⟩, ?_⟩
  clear hAB hAC hBC hBw hCw hb hc
  rintro _ w8 ⟨j, y', z, B, C, hj, rfl, hoky, hsmy, hokz, hsmz, hrel, ha8, hb8, hc8, hBA, hCA, hBC, hBw, hCw, hf8⟩ -
  simp only [nilc_some, fad_mk, pik_true, pik_false, cnd_true, cnd_false, gif_same, gif_tf, gif_ft, gif_undef, bi_add, bi_sub, bi_mul, bi_eql, bi_neq, bi_lss, bi_leq, bi_gtr, bi_geq, notB_bool, cvi_int, lenS_mk, lenT_mk, ext0, ext1, ext2, nilP_mk, nilS_mk, fldv_agg, jn0_k, jn1_k, jn2_k, jn1_and, jn1_or, ex_some, Option.isNone_some, Option.isNone_none, Bool.false_bne, Bool.bne_true, Bool.bne_false, Bool.true_bne, Bool.not_true, Bool.not_false, Bool.and_true, Bool.true_and, Bool.and_false, Bool.false_and, Bool.or_true, Bool.true_or, Bool.or_false, Bool.false_or, cond_true, cond_false, List.getElem?_toArray, List.getElem?_cons_zero, List.getElem?_cons_succ, Nat.zero_add, Nat.add_zero, Nat.reduceAdd, forall_const]
  rw [cnd_bool]
  refine ⟨fun h => ?_, fun h => ?_⟩
  · have hlt : j < m.length := by simp at h; omega
    obtain ⟨it, hit⟩ : ∃ it, m[j]? = some it := ⟨_, List.getElem?_eq_getElem hlt⟩
    have hmem := List.mem_of_getElem? hit
    have hbl := hlen' it hmem
    have hok5 := (hr'.2.2.2 it hmem).fr hf8
    refine ldxN (hr'.1.fr hf8 (off_nil _)) (by omega) hlt ?_
    rw [hr'.at hit]
    refine item_copy rfl (itc_one hok5) fun w9 g hg hg9 hf9 => ?_
    have hf19 := hf8.trans (H := []) hf9 (by simp) (by simp)
    rw [ldN_eq hg9]
    refine ⟨by simp [itc], ?_⟩
    rw [show (itc it).toArray.extract 0 (0 + 4) = (itc it).toArray from rfl]
    refine cal_i (put_item (hb8.fr hf9 (by simp)) hoky hf19 hBw (hr'.2.2.2 it hmem) hbl) ?_
    rintro _ w10 ⟨rfl, B', hb10, hf10, hg10, hf110, hBw'⟩
    have hgB : g ∉ B := fun hm => by have := hb8.lt g hm; omega
    rw [ldN_eq (hf10.blk hg9 hgB)]
    refine ⟨by simp [itc], ?_⟩
    rw [show (itc it).toArray.extract 0 (0 + 4) = (itc it).toArray from rfl]
    have ha10 := (ha8.fr hf9 (by simp)).fr hf10 fun k hk hm => hBA k hm hk
    have hc10 := (hc8.fr hf9 (by simp)).fr hf10 fun k hk hm => hBC k hm hk
    have hBA' := hg10.disj hBA (ha8.fr hf9 (by simp)).lt
    have hBC' := hg10.disj hBC (hc8.fr hf9 (by simp)).lt
    refine cal_i (put_item hc10 hokz hf110 hCw (hr'.2.2.2 it hmem) hbl) ?_
    rintro _ w11 ⟨rfl, C', hc11, hf11, hg11, hf111, hCw'⟩
    try simp only [nilc_some, fad_mk, pik_true, pik_false, cnd_true, cnd_false, gif_same, gif_tf, gif_ft, gif_undef, bi_add, bi_sub, bi_mul, bi_eql, bi_neq, bi_lss, bi_leq, bi_gtr, bi_geq, notB_bool, cvi_int, lenS_mk, lenT_mk, ext0, ext1, ext2, nilP_mk, nilS_mk, fldv_agg, jn0_k, jn1_k, jn2_k, jn1_and, jn1_or, ex_some, Option.isNone_some, Option.isNone_none, Bool.false_bne, Bool.bne_true, Bool.bne_false, Bool.true_bne, Bool.not_true, Bool.not_false, Bool.and_true, Bool.true_and, Bool.and_false, Bool.false_and, Bool.or_true, Bool.true_or, Bool.or_false, Bool.false_or, cond_true, cond_false, List.getElem?_toArray, List.getElem?_cons_zero, List.getElem?_cons_succ, Nat.zero_add, Nat.add_zero, Nat.reduceAdd, forall_const]
    rw [wi64 (by omega) (by omega)]
    have hCA' := hg11.disj hCA ha10.lt
    have hCB' := hg11.disj (fun k hk hm => hBC' k hm hk) hb10.lt
    exact ⟨⟨j + 1, y'.item it.1, z.item it.1, B', C', by omega, by simp, Pk.item_ok hoky _, hsmy.item hoky _, Pk.item_ok hokz _, hsmz.item hokz _, hrel.item _, ha10.fr hf11 fun k hk hm => hCA k hm hk, hb10.fr hf11 hBC', hc11, hBA', hCA',
      fun k hk hm => hCB' k hm hk, hBw', hCw', hf111⟩, by simp [RowKit.intOf]; omega⟩
  refine cal_i (Out_any ha8 hsm) ?_
  rintro _ w9 ⟨sa, rfl, hsa9, hf9, hoa⟩
  simp only [nilc_some, fad_mk, pik_true, pik_false, cnd_true, cnd_false, gif_same, gif_tf, gif_ft, gif_undef, bi_add, bi_sub, bi_mul, bi_eql, bi_neq, bi_lss, bi_leq, bi_gtr, bi_geq, notB_bool, cvi_int, lenS_mk, lenT_mk, ext0, ext1, ext2, nilP_mk, nilS_mk, fldv_agg, jn0_k, jn1_k, jn2_k, jn1_and, jn1_or, ex_some, Option.isNone_some, Option.isNone_none, Bool.false_bne, Bool.bne_true, Bool.bne_false, Bool.true_bne, Bool.not_true, Bool.not_false, Bool.and_true, Bool.true_and, Bool.and_false, Bool.false_and, Bool.or_true, Bool.true_or, Bool.or_false, Bool.false_or, cond_true, cond_false, List.getElem?_toArray, List.getElem?_cons_zero, List.getElem?_cons_succ, Nat.zero_add, Nat.add_zero, Nat.reduceAdd, forall_const]
  refine cal_i (Out_any (hb8.fr hf9 (by simp)) hsmy) ?_
  rintro _ w10 ⟨sb, rfl, hsb10, hf10, hob⟩
  simp only [nilc_some, fad_mk, pik_true, pik_false, cnd_true, cnd_false, gif_same, gif_tf, gif_ft, gif_undef, bi_add, bi_sub, bi_mul, bi_eql, bi_neq, bi_lss, bi_leq, bi_gtr, bi_geq, notB_bool, cvi_int, lenS_mk, lenT_mk, ext0, ext1, ext2, nilP_mk, nilS_mk, fldv_agg, jn0_k, jn1_k, jn2_k, jn1_and, jn1_or, ex_some, Option.isNone_some, Option.isNone_none, Bool.false_bne, Bool.bne_true, Bool.bne_false, Bool.true_bne, Bool.not_true, Bool.not_false, Bool.and_true, Bool.true_and, Bool.and_false, Bool.false_and, Bool.or_true, Bool.true_or, Bool.or_false, Bool.false_or, cond_true, cond_false, List.getElem?_toArray, List.getElem?_cons_zero, List.getElem?_cons_succ, Nat.zero_add, Nat.add_zero, Nat.reduceAdd, forall_const]
  have hc10 := (hc8.fr hf9 (by simp)).fr hf10 (by simp)
  refine cal_i (Out_any hc10 hsmz) ?_
  rintro _ w11 ⟨sc, rfl, hsc11, hf11, hoc⟩
  have hsa11 := (hsa9.fr hf10 (off_nil _)).fr hf11 (off_nil _)
  have hsb11 := hsb10.fr hf11 (off_nil _)
  have hf19 := hf8.trans (H := []) hf9 (by simp) (by simp)
  have hf110 := hf19.trans (H := []) hf10 (by simp) (by simp)
  have hf111 := hf110.trans (H := []) hf11 (by simp) (by simp)
  obtain ⟨m1, m2, m3, l1, l2, l3, hcase⟩ := hrel
  have ex : x.err = x.e := by simp [Pk.err, m1]
  have ey : y'.err = y'.e := by simp [Pk.err, m2]
  have ez : z.err = z.e := by simp [Pk.err, m3]
  have hsx : x.b.length ≤ 8192 := hsm
  have hsy : y'.b.length ≤ 8192 := hsmy
  have hsz : z.b.length ≤ 8192 := hsmz
  have hox : x.out.length ≤ 8192 := by unfold Pk.out; split <;> first | assumption | simp
  have hoy : y'.out.length ≤ 8192 := by unfold Pk.out; split <;> first | assumption | simp
  simp only [nilc_some, fad_mk, pik_true, pik_false, cnd_true, cnd_false, gif_same, gif_tf, gif_ft, gif_undef, bi_add, bi_sub, bi_mul, bi_eql, bi_neq, bi_lss, bi_leq, bi_gtr, bi_geq, notB_bool, cvi_int, lenS_mk, lenT_mk, ext0, ext1, ext2, nilP_mk, nilS_mk, fldv_agg, jn0_k, jn1_k, jn2_k, jn1_and, jn1_or, ex_some, Option.isNone_some, Option.isNone_none, Bool.false_bne, Bool.bne_true, Bool.bne_false, Bool.true_bne, Bool.not_true, Bool.not_false, Bool.and_true, Bool.true_and, Bool.and_false, Bool.false_and, Bool.or_true, Bool.true_or, Bool.or_false, Bool.false_or, cond_true, cond_false, List.getElem?_toArray, List.getElem?_cons_zero, List.getElem?_cons_succ, Nat.zero_add, Nat.add_zero, Nat.reduceAdd, forall_const, hsa11.len, hsb11.len, hsc11.len]
  rw [wi64 (by omega) (by omega)]
  try simp only [nilc_some, fad_mk, pik_true, pik_false, cnd_true, cnd_false, gif_same, gif_tf, gif_ft, gif_undef, bi_add, bi_sub, bi_mul, bi_eql, bi_neq, bi_lss, bi_leq, bi_gtr, bi_geq, notB_bool, cvi_int, lenS_mk, lenT_mk, ext0, ext1, ext2, nilP_mk, nilS_mk, fldv_agg, jn0_k, jn1_k, jn2_k, jn1_and, jn1_or, ex_some, Option.isNone_some, Option.isNone_none, Bool.false_bne, Bool.bne_true, Bool.bne_false, Bool.true_bne, Bool.not_true, Bool.not_false, Bool.and_true, Bool.true_and, Bool.and_false, Bool.false_and, Bool.or_true, Bool.true_or, Bool.or_false, Bool.false_or, cond_true, cond_false, List.getElem?_toArray, List.getElem?_cons_zero, List.getElem?_cons_succ, Nat.zero_add, Nat.add_zero, Nat.reduceAdd, forall_const]
  rw [cnd_bool]
  refine ⟨fun h => ?_, fun h => ?_⟩
  · have hz : z.e ≠ 0 := by
      simp only [Bool.or_eq_true, bne_iff_ne, ne_eq, decide_eq_true_eq, ex, ey] at h
      rcases hcase with ⟨_, h2⟩ | ⟨c1, c2, c3, c4⟩ | ⟨_, _, c3, _⟩ | ⟨_, _, c3⟩
      · exact h2
      · exfalso
        rw [c4, List.length_append] at hsz
        have o1 : x.out = x.b := by simp [Pk.out, ex, c1]
        have o2 : y'.out = y'.b := by simp [Pk.out, ey, c2]
        rw [o1, o2] at h
        rcases h with (h | h) | h
        · exact h c1
        · exact h c2
        · omega
      · exact c3
      · exact c3
    have o3 : z.out = [] := by simp [Pk.out, ez, hz]
    have e1 : (z.err != 0) = true := by simpa [ez] using hz
    rw [o3, e1]
    simp only [nilc_some, fad_mk, pik_true, pik_false, cnd_true, cnd_false, gif_same, gif_tf, gif_ft, gif_undef, bi_add, bi_sub, bi_mul, bi_eql, bi_neq, bi_lss, bi_leq, bi_gtr, bi_geq, notB_bool, cvi_int, lenS_mk, lenT_mk, ext0, ext1, ext2, nilP_mk, nilS_mk, fldv_agg, jn0_k, jn1_k, jn2_k, jn1_and, jn1_or, ex_some, Option.isNone_some, Option.isNone_none, Bool.false_bne, Bool.bne_true, Bool.bne_false, Bool.true_bne, Bool.not_true, Bool.not_false, Bool.and_true, Bool.true_and, Bool.and_false, Bool.false_and, Bool.or_true, Bool.true_or, Bool.or_false, Bool.false_or, cond_true, cond_false, List.getElem?_toArray, List.getElem?_cons_zero, List.getElem?_cons_succ, Nat.zero_add, Nat.add_zero, Nat.reduceAdd, forall_const, List.length_nil]
    exact hR _ _ ⟨rfl, hf111⟩
  · simp only [Bool.or_eq_false_iff, bne_eq_false_iff_eq, decide_eq_false_iff_not, ex, ey] at h
    obtain ⟨⟨hx, hy⟩, hs⟩ := h
    have o1 : x.out = x.b := by simp [Pk.out, ex, hx]
    have o2 : y'.out = y'.b := by simp [Pk.out, ey, hy]
    rw [o1, o2] at hs
    obtain ⟨hz, hzb⟩ : z.e = 0 ∧ z.b = x.b ++ y'.b := by
      rcases hcase with ⟨h2, _⟩ | ⟨c1, c2, c3, c4⟩ | ⟨_, _, c3, c4⟩ | ⟨_, c2, c3⟩
      · exact absurd hx h2
      · exact ⟨c3, c4⟩
      · omega
      · exact absurd hy c2
    have o3 : z.out = z.b := by simp [Pk.out, ez, hz]
    rw [o1] at hsa11
    rw [o2] at hsb11
    rw [o3, hzb] at hsc11
    rw [ez, hz]
    simp only [nilc_some, fad_mk, pik_true, pik_false, cnd_true, cnd_false, gif_same, gif_tf, gif_ft, gif_undef, bi_add, bi_sub, bi_mul, bi_eql, bi_neq, bi_lss, bi_leq, bi_gtr, bi_geq, notB_bool, cvi_int, lenS_mk, lenT_mk, ext0, ext1, ext2, nilP_mk, nilS_mk, fldv_agg, jn0_k, jn1_k, jn2_k, jn1_and, jn1_or, ex_some, Option.isNone_some, Option.isNone_none, Bool.false_bne, Bool.bne_true, Bool.bne_false, Bool.true_bne, Bool.not_true, Bool.not_false, Bool.and_true, Bool.true_and, Bool.and_false, Bool.false_and, Bool.or_true, Bool.true_or, Bool.or_false, Bool.false_or, cond_true, cond_false, List.getElem?_toArray, List.getElem?_cons_zero, List.getElem?_cons_succ, Nat.zero_add, Nat.add_zero, Nat.reduceAdd, forall_const, beq_self_eq_true]
    refine jn1_dup ?_
    refine cal_i (Clone_spec hsa11 (by omega)) ?_
    rintro t w12 ⟨F, ht, hf12, hF⟩
    refine appB ST_bytes UT_bytes (by simp) ht (hsb11.fr hf12 (off_nil _)) (by omega) fun t' w13 F' ht' hf13 hF' => ?_
    have hsc13 := (hsc11.fr hf12 (off_nil _)).fr hf13 (hoc F fun k hk => by have := hF k hk; have := hf11.size; omega)
    refine cal_i (Equal_spec hsc13 ht'.rd) ?_
    rintro _ _ ⟨rfl, rfl⟩
    intro _
    simp only [nilc_some, fad_mk, pik_true, pik_false, cnd_true, cnd_false, gif_same, gif_tf, gif_ft, gif_undef, bi_add, bi_sub, bi_mul, bi_eql, bi_neq, bi_lss, bi_leq, bi_gtr, bi_geq, notB_bool, cvi_int, lenS_mk, lenT_mk, ext0, ext1, ext2, nilP_mk, nilS_mk, fldv_agg, jn0_k, jn1_k, jn2_k, jn1_and, jn1_or, ex_some, Option.isNone_some, Option.isNone_none, Bool.false_bne, Bool.bne_true, Bool.bne_false, Bool.true_bne, Bool.not_true, Bool.not_false, Bool.and_true, Bool.true_and, Bool.and_false, Bool.false_and, Bool.or_true, Bool.true_or, Bool.or_false, Bool.false_or, cond_true, cond_false, List.getElem?_toArray, List.getElem?_cons_zero, List.getElem?_cons_succ, Nat.zero_add, Nat.add_zero, Nat.reduceAdd, forall_const, beq_self_eq_true]
    refine jn1_dup ?_
    have hf11F : Fr F w11 w13 := hf12.trans hf13 (by simp) (fun k hk => .inl hk)
    have hdis : ∀ (G : List Nat), (∀ k ∈ G, k < w11.heap.size) → ∀ k ∈ G, k ∉ F := fun G hG k hk hm => by have h1 := hG k hk; have h2 := hF k hm; omega
    have ha11 := ((ha8.fr hf9 (by simp)).fr hf10 (by simp)).fr hf11 (by simp)
    have hb11 := ((hb8.fr hf9 (by simp)).fr hf10 (by simp)).fr hf11 (by simp)
    have hc11 := hc10.fr hf11 (by simp)
    refine cal_i (Len_spec (hc11.fr hf11F (hdis _ hc11.lt))) ?_
    rintro _ _ ⟨rfl, rfl⟩
    refine cal_i (Len_spec (ha11.fr hf11F (hdis _ ha11.lt))) ?_
    rintro _ _ ⟨rfl, rfl⟩
    refine cal_i (Len_spec (hb11.fr hf11F (hdis _ hb11.lt))) ?_
    rintro _ _ ⟨rfl, rfl⟩
    simp only [nilc_some, fad_mk, pik_true, pik_false, cnd_true, cnd_false, gif_same, gif_tf, gif_ft, gif_undef, bi_add, bi_sub, bi_mul, bi_eql, bi_neq, bi_lss, bi_leq, bi_gtr, bi_geq, notB_bool, cvi_int, lenS_mk, lenT_mk, ext0, ext1, ext2, nilP_mk, nilS_mk, fldv_agg, jn0_k, jn1_k, jn2_k, jn1_and, jn1_or, ex_some, Option.isNone_some, Option.isNone_none, Bool.false_bne, Bool.bne_true, Bool.bne_false, Bool.true_bne, Bool.not_true, Bool.not_false, Bool.and_true, Bool.true_and, Bool.and_false, Bool.false_and, Bool.or_true, Bool.true_or, Bool.or_false, Bool.false_or, cond_true, cond_false, List.getElem?_toArray, List.getElem?_cons_zero, List.getElem?_cons_succ, Nat.zero_add, Nat.add_zero, Nat.reduceAdd, forall_const]
    rw [wi64 (by omega) (by omega), hzb]
    have e1 : (((x.b ++ y'.b).length : Int) == (x.b.length : Int) + (y'.b.length : Int)) = true := by simp
    rw [e1]
    exact hR _ _ ⟨rfl, hf111.new hf11F fun k hk => Nat.le_trans hf111.size (hF k hk)⟩
end Go.Fx
namespace Go.Proofs.Ytamjngkjpalchaa
open Go.ChangeShapes Go.WideShapes Go.ChangeAt Go.RowKit
set_option maxRecDepth 100000 in
theorem liftedPackParts (os : Os) (started : os.Started) (H : Type) (enc : TypeId × Value → H) :
    ReturnsInHanded {} Try.checked os 5 .any (Rows.packPartsSpec.pre6 enc Try.prog Try.f5 Rows.packPartsRow.domain false) (Rows.packPartsSpec.post enc Try.prog Try.f5 false true false false) := by
  refine returnsInHanded_of_change (C := Try.checked) own started (by kernel_rfl) Try.func5
    (ChangeSpec.witness6 (enc := enc) (C := Try.checked) false ⟨#[], #[.slice none 0 0, .slice none 0 0], []⟩ 8 (by kernel_rfl) (by kernel_rfl) (by kernel_rfl) (by kernel_rfl)) ?_
  intro W base args ds gs before hval0 hW hcnd _
  have hval : ∀ (j : Nat) t v, Try.f5.params[j]? = some t → args[j]? = some v → Value.okWide Try.prog W .any base t v := hval0
  have hW' := hW
  obtain ⟨p, q, hA0, hV, rfl, hfz, hnd⟩ := hW
  have hA : DataW.TrodAll enc Try.prog W 0 (fun _ => true) true Try.f5.params.toList args.toList ds p := hA0
  rw [Try.params5] at hA hval
  obtain ⟨v0, vs0, d0, ds0, p0, q0, hargs, rfl, rfl, h0, r0⟩ := trodAll_cons hA
  obtain ⟨v1, vs1, d1, ds1, p1, q1, rfl, rfl, rfl, h1, r1⟩ := trodAll_cons r0
  obtain ⟨rfl, rfl, rfl⟩ := trodAll_nil r1
  obtain rfl : args = #[v0, v1] := by cases args; simp_all
  obtain ⟨rfl, rfl⟩ := trodVars_none hV
  obtain ⟨a0, len0, cap0, rfl⟩ := okWide_slice Try.underlying38 (hval 0 38 v0 rfl rfl)
  have k0 := h0
  have lt0 : ∀ x ∈ p0, x.block < W.heap.size := by obtain ⟨m, hm⟩ := k0; exact DataW.trod_lt m _ _ _ hm
  obtain ⟨f0, hf0⟩ := h0
  obtain ⟨l0, rd0⟩ := Go.Fx.trod_items hf0
  obtain ⟨a1, len1, cap1, rfl⟩ := okWide_slice Try.underlying38 (hval 1 38 v1 rfl rfl)
  have k1 := h1
  have lt1 : ∀ x ∈ p1, x.block < W.heap.size := by obtain ⟨m, hm⟩ := k1; exact DataW.trod_lt m _ _ _ hm
  obtain ⟨f1, hf1⟩ := h1
  obtain ⟨l1, rd1⟩ := Go.Fx.trod_items hf1
  clear hA0 hval0
  refine Calls.mono (Go.Fx.PackParts_walk rd0 rd1) fun e W' ⟨v, he, hv, hf⟩ => ?_
  subst hv
  subst he
  have bel : Below W.heap.size W W' := hf.below (by simp)
  exact ⟨_, rfl, _, _, _, [], _, [], hW', trodAll_mk1 (shut_bool Try.underlying4 _), (trodAll_cons_mk (Below.trod laidOut (by kernel_rfl) (of_decide_eq_true (by kernel_rfl)) k0 bel lt0) (trodAll_cons_mk (Below.trod laidOut (by kernel_rfl) (of_decide_eq_true (by kernel_rfl)) k1 bel lt1) trodAll_mk0)), rfl, bel.frame _, fun h => by cases h⟩
theorem packParts : Rows.PackPartsSaid :=
  OpenClaim.holds_of_wide 5 Try.f5 rfl rfl rfl rfl rfl rfl rfl ⟨rfl, rfl, rfl, rfl, rfl⟩ rfl rfl rfl rfl rfl (by kernel_rfl) Try.func5 (by kernel_rfl)
    (of_decide_eq_true (by kernel_rfl)) (by unfold Func.isWrapper; first | (rw [if_pos (by decide +kernel)]; kernel_rfl) | (rw [if_neg (by decide +kernel)]; exact ⟨rfl, rfl⟩))
    (fun os started H enc _ => liftedPackParts os started H enc)
#print axioms packParts
end Go.Proofs.Ytamjngkjpalchaa
