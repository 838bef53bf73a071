/-
  What is proved: for every limit and every list of items the law PackPuts returns true, and its arguments read as they did. Conditions: none.
-/
import Derived.Test.YtamjngkjpalchaaLwC
import Derived.Test.YtamjngkjpalchaaPkD
import Derived.Test.YtamjngkjpalchaaBase
set_option linter.unusedVariables false
set_option linter.unusedSimpArgs false
namespace Go.Fx
theorem PackPuts_walk {w : World} {v : Value} {l : List (It × Value)} {n : Int} (hr : RdI w.heap v l) :
    cal P f_law01_PackPuts [.int .i64 n, v] w fun r w' => r = .bool true ∧ Fr [] w w' := by
  refine s_law01_PackPuts fun R hR => ?_
  unfold c_law01_PackPuts
  refine cal_i live_spec ?_
  rintro _ w1 ⟨rfl, hf1⟩
  simp only [nilc_some, fad_mk, pik_true, pik_false, cnd_true, cnd_false, gif_same, gif_tf, gif_ft, gif_undef, bi_add, bi_sub, bi_mul, bi_eql, bi_neq, bi_lss, bi_leq, bi_gtr, bi_geq, notB_bool, cvi_int, lenS_mk, lenT_mk, ext0, ext1, ext2, nilP_mk, nilS_mk, fldv_agg, jn0_k, jn1_k, jn2_k, jn1_and, jn1_or, ex_some, Option.isNone_some, Option.isNone_none, Bool.false_bne, Bool.bne_true, Bool.bne_false, Bool.true_bne, Bool.not_true, Bool.not_false, Bool.and_true, Bool.true_and, Bool.and_false, Bool.false_and, Bool.or_true, Bool.true_or, Bool.or_false, Bool.false_or, cond_true, cond_false, List.getElem?_toArray, List.getElem?_cons_zero, List.getElem?_cons_succ, Nat.zero_add, Nat.add_zero, Nat.reduceAdd, forall_const]
  refine jn1_dup ?_
  refine cal_i (few_spec (hr.fr hf1)) ?_
  rintro _ w2 ⟨f, rfl, hfew, hf2⟩
  have hf12 := hf1.trans (H := []) hf2 (by simp) (by simp)
  simp only [nilc_some, fad_mk, pik_true, pik_false, cnd_true, cnd_false, gif_same, gif_tf, gif_ft, gif_undef, bi_add, bi_sub, bi_mul, bi_eql, bi_neq, bi_lss, bi_leq, bi_gtr, bi_geq, notB_bool, cvi_int, lenS_mk, lenT_mk, ext0, ext1, ext2, nilP_mk, nilS_mk, fldv_agg, jn0_k, jn1_k, jn2_k, jn1_and, jn1_or, ex_some, Option.isNone_some, Option.isNone_none, Bool.false_bne, Bool.bne_true, Bool.bne_false, Bool.true_bne, Bool.not_true, Bool.not_false, Bool.and_true, Bool.true_and, Bool.and_false, Bool.false_and, Bool.or_true, Bool.true_or, Bool.or_false, Bool.false_or, cond_true, cond_false, List.getElem?_toArray, List.getElem?_cons_zero, List.getElem?_cons_succ, Nat.zero_add, Nat.add_zero, Nat.reduceAdd, forall_const]
  rw [cnd_bool]
  refine ⟨fun h => ?_, fun h => ?_⟩
  · refine cal_i live_spec ?_
    rintro _ w3 ⟨rfl, hf3⟩
    exact hR _ _ ⟨rfl, hf12.trans hf3 (by simp) (by simp)⟩
  obtain ⟨hl200, hlen⟩ := hfew (by simpa using h)
  refine cal_i (New_spec n) ?_
  rintro p w3 ⟨F, hp3, hf3, hF⟩
  refine cal_i (rNew_spec n) ?_
  rintro q w4 ⟨G, hq4, hf4, hG⟩
  have hf13 := hf12.trans (H := []) hf3 (by simp) (by simp)
  have hf14 := hf13.trans (H := []) hf4 (by simp) (by simp)
  have hp4 := hp3.fr hf4 (by simp)
  rw [hp4.nilP]
  simp only [nilc_some, fad_mk, pik_true, pik_false, cnd_true, cnd_false, gif_same, gif_tf, gif_ft, gif_undef, bi_add, bi_sub, bi_mul, bi_eql, bi_neq, bi_lss, bi_leq, bi_gtr, bi_geq, notB_bool, cvi_int, lenS_mk, lenT_mk, ext0, ext1, ext2, nilP_mk, nilS_mk, fldv_agg, jn0_k, jn1_k, jn2_k, jn1_and, jn1_or, ex_some, Option.isNone_some, Option.isNone_none, Bool.false_bne, Bool.bne_true, Bool.bne_false, Bool.true_bne, Bool.not_true, Bool.not_false, Bool.and_true, Bool.true_and, Bool.and_false, Bool.false_and, Bool.or_true, Bool.true_or, Bool.or_false, Bool.false_or, cond_true, cond_false, List.getElem?_toArray, List.getElem?_cons_zero, List.getElem?_cons_succ, Nat.zero_add, Nat.add_zero, Nat.reduceAdd, forall_const, hr.len]
  refine ⟨fun y w' => ∃ (i : Nat) (x : Pk) (F G : List Nat), i ≤ l.length ∧ y = .int .i64 i ∧ x.Ok ∧ x.Sm ∧ x.made = true ∧ IsPk w'.heap p x F ∧ IsRf w'.heap q x G ∧ (∀ k ∈ F, k ∉ G) ∧ (∀ k ∈ F, w.heap.size ≤ k) ∧ (∀ k ∈ G, w.heap.size ≤ k) ∧ Fr [] w w',
    fun y _ => (l.length - RowKit.intOf y).toNat, ⟨0, Pk.new n, F, G, by omega, rfl, Pk.new_ok n, Pk.Sm.new n, rfl, hp4, hq4, ?_, ?_, ?_, hf14⟩, ?_⟩
  · intro k hk hm
    have h1 := hp3.lt k hk
    have h2 := hG k hm
    omega
  · intro k hk
    have h1 := hF k hk
    have h2 := hf12.size
    omega
  · intro k hk
    have h1 := hG k hk
    have h2 := hf13.size
    omega
  rintro _ w5 ⟨i, x, F, G, hi, rfl, hok, hsm, hmade, hp, hq, hd, hFb, hGb, hf5⟩ -
  simp only [nilc_some, fad_mk, pik_true, pik_false, cnd_true, cnd_false, gif_same, gif_tf, gif_ft, gif_undef, bi_add, bi_sub, bi_mul, bi_eql, bi_neq, bi_lss, bi_leq, bi_gtr, bi_geq, notB_bool, cvi_int, lenS_mk, lenT_mk, ext0, ext1, ext2, nilP_mk, nilS_mk, fldv_agg, jn0_k, jn1_k, jn2_k, jn1_and, jn1_or, ex_some, Option.isNone_some, Option.isNone_none, Bool.false_bne, Bool.bne_true, Bool.bne_false, Bool.true_bne, Bool.not_true, Bool.not_false, Bool.and_true, Bool.true_and, Bool.and_false, Bool.false_and, Bool.or_true, Bool.true_or, Bool.or_false, Bool.false_or, cond_true, cond_false, List.getElem?_toArray, List.getElem?_cons_zero, List.getElem?_cons_succ, Nat.zero_add, Nat.add_zero, Nat.reduceAdd, forall_const]
  rw [cnd_bool]
  refine ⟨fun h => ?_, fun h => ?_⟩
  · have hlt : i < l.length := by simp at h; omega
    obtain ⟨it, hit⟩ : ∃ it, l[i]? = some it := ⟨_, List.getElem?_eq_getElem hlt⟩
    have hmem := List.mem_of_getElem? hit
    have hb := hlen it hmem
    have hok5 := (hr.2.2.2 it hmem).fr hf5
    refine ldxN (hr.1.fr hf5 (off_nil _)) (by omega) hlt ?_
    rw [hr.at hit]
    refine item_copy rfl (itc_one hok5) fun w6 g hg hg6 hf6 => ?_
    have hf16 := hf5.trans (H := []) hf6 (by simp) (by simp)
    rw [ldN_eq hg6]
    refine ⟨by simp [itc], ?_⟩
    have hok6 := hok5.fr hf6
    have he : (itc it).toArray.extract 0 (0 + 4) = #[.int .i64 it.1.Do, .int .u64 it.1.v, it.2, .int .i64 it.1.n] := rfl
    rw [he]
    refine cal_i (puts_spec (i := it.1) (hp.fr hf6 (by simp)) (hq.fr hf6 (by simp)) hok hok hd hok6.1 ((hr.2.2.2 it hmem).1.off fun k hk => ?_) (by omega) hok6.2.1 hok6.2.2.1) ?_
    · rcases List.mem_append.1 hk with hk | hk
      · exact hFb k hk
      · exact hGb k hk
    rintro _ w7 ⟨rfl, F7, G7, hp7, hq7, hd7, hf7, hg7, hg7'⟩
    have hs16 := hf16.size
    have hF7 : ∀ k ∈ F7, w.heap.size ≤ k := hg7.above hs16 hFb
    have hG7 : ∀ k ∈ G7, w.heap.size ≤ k := hg7'.above hs16 hGb
    have hf17 : Fr [] w w7 := hf16.new hf7 fun k hk => by
      rcases List.mem_append.1 hk with hk | hk
      · exact hFb k hk
      · exact hGb k hk
    obtain ⟨gq, sq, Eq, Gq, rfl, hgq, hoq, hnq, rfl, hmq⟩ := id hq7
    refine ⟨fun w' => w'.heap = w7.heap, rfl, ?_⟩
    simp only [nilc_some, fad_mk, pik_true, pik_false, cnd_true, cnd_false, gif_same, gif_tf, gif_ft, gif_undef, bi_add, bi_sub, bi_mul, bi_eql, bi_neq, bi_lss, bi_leq, bi_gtr, bi_geq, notB_bool, cvi_int, lenS_mk, lenT_mk, ext0, ext1, ext2, nilP_mk, nilS_mk, fldv_agg, jn0_k, jn1_k, jn2_k, jn1_and, jn1_or, ex_some, Option.isNone_some, Option.isNone_none, Bool.false_bne, Bool.bne_true, Bool.bne_false, Bool.true_bne, Bool.not_true, Bool.not_false, Bool.and_true, Bool.true_and, Bool.and_false, Bool.false_and, Bool.or_true, Bool.true_or, Bool.or_false, Bool.false_or, cond_true, cond_false, List.getElem?_toArray, List.getElem?_cons_zero, List.getElem?_cons_succ, Nat.zero_add, Nat.add_zero, Nat.reduceAdd, forall_const]
    refine ⟨sq, fun w' hw' => ?_, ?_⟩
    · show ld1 _ w'.heap _
      rw [show w'.heap = w7.heap from hw', ld1_eq hgq]
      simp
    simp only [hoq.rd.len, efS]
    refine cal_i (Len_spec (w := { w7 with drawn := _ }) hp7) ?_
    rintro _ _ ⟨rfl, rfl⟩
    refine ⟨rfl, ?_⟩
    simp only [nilc_some, fad_mk, pik_true, pik_false, cnd_true, cnd_false, gif_same, gif_tf, gif_ft, gif_undef, bi_add, bi_sub, bi_mul, bi_eql, bi_neq, bi_lss, bi_leq, bi_gtr, bi_geq, notB_bool, cvi_int, lenS_mk, lenT_mk, ext0, ext1, ext2, nilP_mk, nilS_mk, fldv_agg, jn0_k, jn1_k, jn2_k, jn1_and, jn1_or, ex_some, Option.isNone_some, Option.isNone_none, Bool.false_bne, Bool.bne_true, Bool.bne_false, Bool.true_bne, Bool.not_true, Bool.not_false, Bool.and_true, Bool.true_and, Bool.and_false, Bool.false_and, Bool.or_true, Bool.true_or, Bool.or_false, Bool.false_or, cond_true, cond_false, List.getElem?_toArray, List.getElem?_cons_zero, List.getElem?_cons_succ, Nat.zero_add, Nat.add_zero, Nat.reduceAdd, forall_const, neq_self]
    refine jn1_dup ?_
    refine ⟨.int .i64 (x.item it.1).e, fun w' hw' => ?_, ?_⟩
    · show ld1 _ w'.heap _
      rw [show w'.heap = w7.heap from hw', ld1_eq hgq]
      simp
    refine cal_i (Err_spec (w := { w7 with drawn := _ }) hp7) ?_
    rintro _ _ ⟨rfl, rfl⟩
    refine ⟨rfl, ?_⟩
    have herr : (x.item it.1).err = (x.item it.1).e := by simp [Pk.err, hmq]
    simp only [nilc_some, fad_mk, pik_true, pik_false, cnd_true, cnd_false, gif_same, gif_tf, gif_ft, gif_undef, bi_add, bi_sub, bi_mul, bi_eql, bi_neq, bi_lss, bi_leq, bi_gtr, bi_geq, notB_bool, cvi_int, lenS_mk, lenT_mk, ext0, ext1, ext2, nilP_mk, nilS_mk, fldv_agg, jn0_k, jn1_k, jn2_k, jn1_and, jn1_or, ex_some, Option.isNone_some, Option.isNone_none, Bool.false_bne, Bool.bne_true, Bool.bne_false, Bool.true_bne, Bool.not_true, Bool.not_false, Bool.and_true, Bool.true_and, Bool.and_false, Bool.false_and, Bool.or_true, Bool.true_or, Bool.or_false, Bool.false_or, cond_true, cond_false, List.getElem?_toArray, List.getElem?_cons_zero, List.getElem?_cons_succ, Nat.zero_add, Nat.add_zero, Nat.reduceAdd, forall_const, herr, neq_self]
    rw [wi64 (by omega) (by omega)]
    refine ⟨⟨i + 1, x.item it.1, F7, gq :: Gq, by omega, by simp, Pk.item_ok hok _, hsm.item hok _, hmq, hp7, hq7, hd7, hF7, hG7, hf17.drew _⟩, by simp [RowKit.intOf]; omega⟩
  · have hbl : x.b.length ≤ 8192 := hsm
    refine cal_i (Out_spec hp (by omega)) ?_
    rintro u w6 ⟨hf6, h6⟩
    have hf16 := hf5.trans (H := []) hf6 (by simp) (by simp)
    have hp6 := hp.fr hf6 (by simp)
    have hq6 := hq.fr hf6 (by simp)
    have herr : x.err = x.e := by simp [Pk.err, hmade]
    rcases h6 with ⟨he, s, g6, rfl, ho6, hg6⟩ | ⟨he, rfl⟩
    · simp only [nilc_some, fad_mk, pik_true, pik_false, cnd_true, cnd_false, gif_same, gif_tf, gif_ft, gif_undef, bi_add, bi_sub, bi_mul, bi_eql, bi_neq, bi_lss, bi_leq, bi_gtr, bi_geq, notB_bool, cvi_int, lenS_mk, lenT_mk, ext0, ext1, ext2, nilP_mk, nilS_mk, fldv_agg, jn0_k, jn1_k, jn2_k, jn1_and, jn1_or, ex_some, Option.isNone_some, Option.isNone_none, Bool.false_bne, Bool.bne_true, Bool.bne_false, Bool.true_bne, Bool.not_true, Bool.not_false, Bool.and_true, Bool.true_and, Bool.and_false, Bool.false_and, Bool.or_true, Bool.true_or, Bool.or_false, Bool.false_or, cond_true, cond_false, List.getElem?_toArray, List.getElem?_cons_zero, List.getElem?_cons_succ, Nat.zero_add, Nat.add_zero, Nat.reduceAdd, forall_const]
      refine cal_i (rOut_spec hq6) ?_
      rintro u w7 ⟨hf7, h7⟩
      have hf17 := hf16.trans (H := []) hf7 (by simp) (by simp)
      obtain ⟨_, t, gq, Gq, rfl, rfl, hoq⟩ := h7.resolve_right fun hh => hh.1 (herr ▸ he)
      simp only [nilc_some, fad_mk, pik_true, pik_false, cnd_true, cnd_false, gif_same, gif_tf, gif_ft, gif_undef, bi_add, bi_sub, bi_mul, bi_eql, bi_neq, bi_lss, bi_leq, bi_gtr, bi_geq, notB_bool, cvi_int, lenS_mk, lenT_mk, ext0, ext1, ext2, nilP_mk, nilS_mk, fldv_agg, jn0_k, jn1_k, jn2_k, jn1_and, jn1_or, ex_some, Option.isNone_some, Option.isNone_none, Bool.false_bne, Bool.bne_true, Bool.bne_false, Bool.true_bne, Bool.not_true, Bool.not_false, Bool.and_true, Bool.true_and, Bool.and_false, Bool.false_and, Bool.or_true, Bool.true_or, Bool.or_false, Bool.false_or, cond_true, cond_false, List.getElem?_toArray, List.getElem?_cons_zero, List.getElem?_cons_succ, Nat.zero_add, Nat.add_zero, Nat.reduceAdd, forall_const]
      have ho7 := ho6.fr hf7 (by simp)
      have hoq7 := hoq.fr hf7 (by simp)
      refine cal_i (Equal_spec ho7.rd hoq7.rd) ?_
      rintro _ _ ⟨rfl, rfl⟩
      simp only [nilc_some, fad_mk, pik_true, pik_false, cnd_true, cnd_false, gif_same, gif_tf, gif_ft, gif_undef, bi_add, bi_sub, bi_mul, bi_eql, bi_neq, bi_lss, bi_leq, bi_gtr, bi_geq, notB_bool, cvi_int, lenS_mk, lenT_mk, ext0, ext1, ext2, nilP_mk, nilS_mk, fldv_agg, jn0_k, jn1_k, jn2_k, jn1_and, jn1_or, ex_some, Option.isNone_some, Option.isNone_none, Bool.false_bne, Bool.bne_true, Bool.bne_false, Bool.true_bne, Bool.not_true, Bool.not_false, Bool.and_true, Bool.true_and, Bool.and_false, Bool.false_and, Bool.or_true, Bool.true_or, Bool.or_false, Bool.false_or, cond_true, cond_false, List.getElem?_toArray, List.getElem?_cons_zero, List.getElem?_cons_succ, Nat.zero_add, Nat.add_zero, Nat.reduceAdd, forall_const, beq_self_eq_true, neq_self, ho7.rd.len]
      have hp7 := hp6.fr hf7 (by simp)
      have hg6F : g6 ∉ F := fun hm => by have := hp.lt g6 hm; omega
      have hg6G : g6 ∉ gq :: Gq := fun hm => by have := hq.lt g6 hm; omega
      have hg6b : w.heap.size ≤ g6 := Nat.le_trans hf5.size hg6
      refine ⟨fun y w' => ∃ (i : Nat) (b' : List UInt8), i ≤ x.b.length ∧ b'.length = x.b.length ∧ y = .int .i64 i ∧ OwnB w'.heap s b' [g6] ∧ Fr [g6] w7 w', fun y _ => (x.b.length - RowKit.intOf y).toNat,
        ⟨0, x.b, by omega, rfl, rfl, ho7, Fr.refl _ _⟩, ?_⟩
      rintro _ w8 ⟨i, b', hi, hb', rfl, ho8, hf8⟩ -
      simp only [nilc_some, fad_mk, pik_true, pik_false, cnd_true, cnd_false, gif_same, gif_tf, gif_ft, gif_undef, bi_add, bi_sub, bi_mul, bi_eql, bi_neq, bi_lss, bi_leq, bi_gtr, bi_geq, notB_bool, cvi_int, lenS_mk, lenT_mk, ext0, ext1, ext2, nilP_mk, nilS_mk, fldv_agg, jn0_k, jn1_k, jn2_k, jn1_and, jn1_or, ex_some, Option.isNone_some, Option.isNone_none, Bool.false_bne, Bool.bne_true, Bool.bne_false, Bool.true_bne, Bool.not_true, Bool.not_false, Bool.and_true, Bool.true_and, Bool.and_false, Bool.false_and, Bool.or_true, Bool.true_or, Bool.or_false, Bool.false_or, cond_true, cond_false, List.getElem?_toArray, List.getElem?_cons_zero, List.getElem?_cons_succ, Nat.zero_add, Nat.add_zero, Nat.reduceAdd, forall_const]
      rw [cnd_bool]
      refine ⟨fun h => ?_, fun h => ?_⟩
      · have hlt : i < b'.length := by simp at h; omega
        refine ldxB ho8.rd hlt ?_
        rw [bv, bi_xor, bv_of _ (Int.natCast_nonneg _)]
        refine stxB ho8 hlt _ fun w9 ho9 hf9 => ?_
        rw [wi64 (by omega) (by omega)]
        exact ⟨⟨i + 1, _, by omega, by simpa using hb', by simp, ho9, hf8.trans hf9 (fun k hk => .inl hk) (fun k hk => .inl hk)⟩, by simp [RowKit.intOf]; omega⟩
      · have hp8 := hp7.fr hf8 (by simpa using fun k hk (hh : k = g6) => hg6F (hh ▸ hk))
        have hoq8 := hoq7.fr hf8 (by simpa using fun k hk (hh : k = g6) => hg6G (hh ▸ (by simp [hk])))
        refine cal_i (Out_spec hp8 (by omega)) ?_
        rintro u w9 ⟨hf9, h9⟩
        obtain ⟨_, s9, g9, rfl, ho9, hg9⟩ := h9.resolve_right fun hh => hh.1 he
        simp only [nilc_some, fad_mk, pik_true, pik_false, cnd_true, cnd_false, gif_same, gif_tf, gif_ft, gif_undef, bi_add, bi_sub, bi_mul, bi_eql, bi_neq, bi_lss, bi_leq, bi_gtr, bi_geq, notB_bool, cvi_int, lenS_mk, lenT_mk, ext0, ext1, ext2, nilP_mk, nilS_mk, fldv_agg, jn0_k, jn1_k, jn2_k, jn1_and, jn1_or, ex_some, Option.isNone_some, Option.isNone_none, Bool.false_bne, Bool.bne_true, Bool.bne_false, Bool.true_bne, Bool.not_true, Bool.not_false, Bool.and_true, Bool.true_and, Bool.and_false, Bool.false_and, Bool.or_true, Bool.true_or, Bool.or_false, Bool.false_or, cond_true, cond_false, List.getElem?_toArray, List.getElem?_cons_zero, List.getElem?_cons_succ, Nat.zero_add, Nat.add_zero, Nat.reduceAdd, forall_const]
        refine cal_i (Equal_spec ho9.rd (OwnB.rd (hoq8.fr hf9 (by simp)))) ?_
        rintro _ _ ⟨rfl, rfl⟩
        simp only [nilc_some, fad_mk, pik_true, pik_false, cnd_true, cnd_false, gif_same, gif_tf, gif_ft, gif_undef, bi_add, bi_sub, bi_mul, bi_eql, bi_neq, bi_lss, bi_leq, bi_gtr, bi_geq, notB_bool, cvi_int, lenS_mk, lenT_mk, ext0, ext1, ext2, nilP_mk, nilS_mk, fldv_agg, jn0_k, jn1_k, jn2_k, jn1_and, jn1_or, ex_some, Option.isNone_some, Option.isNone_none, Bool.false_bne, Bool.bne_true, Bool.bne_false, Bool.true_bne, Bool.not_true, Bool.not_false, Bool.and_true, Bool.true_and, Bool.and_false, Bool.false_and, Bool.or_true, Bool.true_or, Bool.or_false, Bool.false_or, cond_true, cond_false, List.getElem?_toArray, List.getElem?_cons_zero, List.getElem?_cons_succ, Nat.zero_add, Nat.add_zero, Nat.reduceAdd, forall_const, beq_self_eq_true]
        exact hR _ _ ⟨rfl, (hf17.new hf8 (by simpa using hg6b)).trans hf9 (by simp) (by simp)⟩
    · simp only [nilc_some, fad_mk, pik_true, pik_false, cnd_true, cnd_false, gif_same, gif_tf, gif_ft, gif_undef, bi_add, bi_sub, bi_mul, bi_eql, bi_neq, bi_lss, bi_leq, bi_gtr, bi_geq, notB_bool, cvi_int, lenS_mk, lenT_mk, ext0, ext1, ext2, nilP_mk, nilS_mk, fldv_agg, jn0_k, jn1_k, jn2_k, jn1_and, jn1_or, ex_some, Option.isNone_some, Option.isNone_none, Bool.false_bne, Bool.bne_true, Bool.bne_false, Bool.true_bne, Bool.not_true, Bool.not_false, Bool.and_true, Bool.true_and, Bool.and_false, Bool.false_and, Bool.or_true, Bool.true_or, Bool.or_false, Bool.false_or, cond_true, cond_false, List.getElem?_toArray, List.getElem?_cons_zero, List.getElem?_cons_succ, Nat.zero_add, Nat.add_zero, Nat.reduceAdd, forall_const]
      refine cal_i (rOut_spec hq6) ?_
      rintro u w7 ⟨hf7, h7⟩
      have hf17 := hf16.trans (H := []) hf7 (by simp) (by simp)
      obtain ⟨_, rfl⟩ := h7.resolve_left fun hh => he (herr ▸ hh.1)
      simp only [nilc_some, fad_mk, pik_true, pik_false, cnd_true, cnd_false, gif_same, gif_tf, gif_ft, gif_undef, bi_add, bi_sub, bi_mul, bi_eql, bi_neq, bi_lss, bi_leq, bi_gtr, bi_geq, notB_bool, cvi_int, lenS_mk, lenT_mk, ext0, ext1, ext2, nilP_mk, nilS_mk, fldv_agg, jn0_k, jn1_k, jn2_k, jn1_and, jn1_or, ex_some, Option.isNone_some, Option.isNone_none, Bool.false_bne, Bool.bne_true, Bool.bne_false, Bool.true_bne, Bool.not_true, Bool.not_false, Bool.and_true, Bool.true_and, Bool.and_false, Bool.false_and, Bool.or_true, Bool.true_or, Bool.or_false, Bool.false_or, cond_true, cond_false, List.getElem?_toArray, List.getElem?_cons_zero, List.getElem?_cons_succ, Nat.zero_add, Nat.add_zero, Nat.reduceAdd, forall_const]
      refine cal_i (Equal_spec (RdB.nil _ _) (RdB.nil _ _)) ?_
      rintro _ _ ⟨rfl, rfl⟩
      simp only [nilc_some, fad_mk, pik_true, pik_false, cnd_true, cnd_false, gif_same, gif_tf, gif_ft, gif_undef, bi_add, bi_sub, bi_mul, bi_eql, bi_neq, bi_lss, bi_leq, bi_gtr, bi_geq, notB_bool, cvi_int, lenS_mk, lenT_mk, ext0, ext1, ext2, nilP_mk, nilS_mk, fldv_agg, jn0_k, jn1_k, jn2_k, jn1_and, jn1_or, ex_some, Option.isNone_some, Option.isNone_none, Bool.false_bne, Bool.bne_true, Bool.bne_false, Bool.true_bne, Bool.not_true, Bool.not_false, Bool.and_true, Bool.true_and, Bool.and_false, Bool.false_and, Bool.or_true, Bool.true_or, Bool.or_false, Bool.false_or, cond_true, cond_false, List.getElem?_toArray, List.getElem?_cons_zero, List.getElem?_cons_succ, Nat.zero_add, Nat.add_zero, Nat.reduceAdd, forall_const, beq_self_eq_true, herr, neq_self]
      refine ⟨fun y w' => y = .int .i64 0 ∧ w' = w7, fun _ _ => 0, ⟨rfl, rfl⟩, ?_⟩
      rintro _ _ ⟨rfl, rfl⟩ -
      simp only [nilc_some, fad_mk, pik_true, pik_false, cnd_true, cnd_false, gif_same, gif_tf, gif_ft, gif_undef, bi_add, bi_sub, bi_mul, bi_eql, bi_neq, bi_lss, bi_leq, bi_gtr, bi_geq, notB_bool, cvi_int, lenS_mk, lenT_mk, ext0, ext1, ext2, nilP_mk, nilS_mk, fldv_agg, jn0_k, jn1_k, jn2_k, jn1_and, jn1_or, ex_some, Option.isNone_some, Option.isNone_none, Bool.false_bne, Bool.bne_true, Bool.bne_false, Bool.true_bne, Bool.not_true, Bool.not_false, Bool.and_true, Bool.true_and, Bool.and_false, Bool.false_and, Bool.or_true, Bool.true_or, Bool.or_false, Bool.false_or, cond_true, cond_false, List.getElem?_toArray, List.getElem?_cons_zero, List.getElem?_cons_succ, Nat.zero_add, Nat.add_zero, Nat.reduceAdd, forall_const]
      rw [cnd_bool]
      refine ⟨fun h => by simp at h, fun _ => ?_⟩
      have hp7 := hp6.fr hf7 (by simp)
      refine cal_i (Out_spec hp7 (by omega)) ?_
      rintro u w9 ⟨hf9, h9⟩
      obtain ⟨_, rfl⟩ := h9.resolve_left fun hh => he hh.1
      simp only [nilc_some, fad_mk, pik_true, pik_false, cnd_true, cnd_false, gif_same, gif_tf, gif_ft, gif_undef, bi_add, bi_sub, bi_mul, bi_eql, bi_neq, bi_lss, bi_leq, bi_gtr, bi_geq, notB_bool, cvi_int, lenS_mk, lenT_mk, ext0, ext1, ext2, nilP_mk, nilS_mk, fldv_agg, jn0_k, jn1_k, jn2_k, jn1_and, jn1_or, ex_some, Option.isNone_some, Option.isNone_none, Bool.false_bne, Bool.bne_true, Bool.bne_false, Bool.true_bne, Bool.not_true, Bool.not_false, Bool.and_true, Bool.true_and, Bool.and_false, Bool.false_and, Bool.or_true, Bool.true_or, Bool.or_false, Bool.false_or, cond_true, cond_false, List.getElem?_toArray, List.getElem?_cons_zero, List.getElem?_cons_succ, Nat.zero_add, Nat.add_zero, Nat.reduceAdd, forall_const]
      refine cal_i (Equal_spec (RdB.nil _ _) (RdB.nil _ _)) ?_
      rintro _ _ ⟨rfl, rfl⟩
      simp only [nilc_some, fad_mk, pik_true, pik_false, cnd_true, cnd_false, gif_same, gif_tf, gif_ft, gif_undef, bi_add, bi_sub, bi_mul, bi_eql, bi_neq, bi_lss, bi_leq, bi_gtr, bi_geq, notB_bool, cvi_int, lenS_mk, lenT_mk, ext0, ext1, ext2, nilP_mk, nilS_mk, fldv_agg, jn0_k, jn1_k, jn2_k, jn1_and, jn1_or, ex_some, Option.isNone_some, Option.isNone_none, Bool.false_bne, Bool.bne_true, Bool.bne_false, Bool.true_bne, Bool.not_true, Bool.not_false, Bool.and_true, Bool.true_and, Bool.and_false, Bool.false_and, Bool.or_true, Bool.true_or, Bool.or_false, Bool.false_or, cond_true, cond_false, List.getElem?_toArray, List.getElem?_cons_zero, List.getElem?_cons_succ, Nat.zero_add, Nat.add_zero, Nat.reduceAdd, forall_const, beq_self_eq_true, herr]
      exact hR _ _ ⟨rfl, hf17.trans hf9 (by simp) (by simp)⟩
end Go.Fx
namespace Go.Proofs.Ytamjngkjpalchaa
open Go.ChangeShapes Go.WideShapes Go.ChangeAt Go.RowKit
set_option maxRecDepth 100000 in
theorem liftedPackPuts (os : Os) (started : os.Started) (H : Type) (enc : TypeId × Value → H) :
    ReturnsInHanded {} Try.checked os 4 .any (Rows.packPutsSpec.pre6 enc Try.prog Try.f4 Rows.packPutsRow.domain false) (Rows.packPutsSpec.post enc Try.prog Try.f4 false true false false) := by
  refine returnsInHanded_of_change (C := Try.checked) own started (by kernel_rfl) Try.func4
    (ChangeSpec.witness6 (enc := enc) (C := Try.checked) false ⟨#[], #[.int .i64 0, .slice none 0 0], []⟩ 8 (by kernel_rfl) (by kernel_rfl) (by kernel_rfl) (by kernel_rfl)) ?_
  intro W base args ds gs before hval0 hW hcnd _
  have hval : ∀ (j : Nat) t v, Try.f4.params[j]? = some t → args[j]? = some v → Value.okWide Try.prog W .any base t v := hval0
  have hW' := hW
  obtain ⟨p, q, hA0, hV, rfl, hfz, hnd⟩ := hW
  have hA : DataW.TrodAll enc Try.prog W 0 (fun _ => true) true Try.f4.params.toList args.toList ds p := hA0
  rw [Try.params4] at hA hval
  obtain ⟨v0, vs0, d0, ds0, p0, q0, hargs, rfl, rfl, h0, r0⟩ := trodAll_cons hA
  obtain ⟨v1, vs1, d1, ds1, p1, q1, rfl, rfl, rfl, h1, r1⟩ := trodAll_cons r0
  obtain ⟨rfl, rfl, rfl⟩ := trodAll_nil r1
  obtain rfl : args = #[v0, v1] := by cases args; simp_all
  obtain ⟨rfl, rfl⟩ := trodVars_none hV
  obtain ⟨a0, rfl, rfl, rfl, w0⟩ := open_int Try.underlying3 (hval 0 3 v0 rfl rfl) h0
  have b0 := bounds_i64 w0
  obtain ⟨a1, len1, cap1, rfl⟩ := okWide_slice Try.underlying38 (hval 1 38 v1 rfl rfl)
  have k1 := h1
  have lt1 : ∀ x ∈ p1, x.block < W.heap.size := by obtain ⟨m, hm⟩ := k1; exact DataW.trod_lt m _ _ _ hm
  obtain ⟨f1, hf1⟩ := h1
  obtain ⟨l1, rd1⟩ := Go.Fx.trod_items hf1
  clear hA0 hval0
  refine Calls.mono (Go.Fx.PackPuts_walk (n := a0) rd1) fun e W' ⟨v, he, hv, hf⟩ => ?_
  subst hv
  subst he
  have bel : Below W.heap.size W W' := hf.below (by simp)
  exact ⟨_, rfl, _, _, _, [], _, [], hW', trodAll_mk1 (shut_bool Try.underlying4 _), (trodAll_cons_mk (shut_int Try.underlying3 w0) (trodAll_cons_mk (Below.trod laidOut (by kernel_rfl) (of_decide_eq_true (by kernel_rfl)) k1 bel lt1) trodAll_mk0)), rfl, bel.frame _, fun h => by cases h⟩
theorem packPuts : Rows.PackPutsSaid :=
  OpenClaim.holds_of_wide 4 Try.f4 rfl rfl rfl rfl rfl rfl rfl ⟨rfl, rfl, rfl, rfl, rfl⟩ rfl rfl rfl rfl rfl (by kernel_rfl) Try.func4 (by kernel_rfl)
    (of_decide_eq_true (by kernel_rfl)) (by unfold Func.isWrapper; first | (rw [if_pos (by decide +kernel)]; kernel_rfl) | (rw [if_neg (by decide +kernel)]; exact ⟨rfl, rfl⟩))
    (fun os started H enc _ => liftedPackPuts os started H enc)
#print axioms packPuts
end Go.Proofs.Ytamjngkjpalchaa
