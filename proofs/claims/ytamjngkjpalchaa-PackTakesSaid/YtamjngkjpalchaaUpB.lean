/-
  The unpacker's functions.
-/
import Derived.Test.YtamjngkjpalchaaUpA
set_option linter.unusedVariables false
set_option linter.unusedSimpArgs false
namespace Go.Fx
/-- 's[:j]', s owned. -/
theorem own_to {h : Heap} {s : Value} {l : List UInt8} {F : List Nat} {k : IntKind} {j : Nat} {K : Value → Prop} (ho : OwnB h s l F) (hj : j ≤ l.length) (hk : ∀ s', RdB h s' (l.take j) → (∀ G : List Nat, (∀ i ∈ F, i ∉ G) → Off s' G) → K s') :
    slc 1 s none (some (.int k (j : Int))) K := by
  obtain ⟨a, c, rfl⟩ := Own.slice ho
  have hc : l.length ≤ c := by
    obtain ⟨hl, ⟨hv, h0, -⟩ | ⟨g, o, cap, cur, E, hv, hn, -⟩⟩ := ho
    · simp only [Value.slice.injEq] at hv; omega
    · simp only [Value.slice.injEq] at hv; omega
  rw [slc_to (by omega)]
  refine hk _ (rdB_take ho.rd hj c) fun G hG g o n c' he hn => ?_
  cases he
  obtain ⟨hl, ⟨hv, h0, -⟩ | ⟨g', o', cap, cur, E, hv, hn', hg, hfit, hcs, rfl⟩⟩ := ho
  · simp at hv
  · simp only [Value.slice.injEq, Option.some.injEq, Addr.mk.injEq] at hv
    obtain ⟨⟨rfl, -, -⟩, -⟩ := hv
    exact hG _ (by simp)
theorem take_len (x : Up) (n : Int) : (x.take n).2.length ≤ n.toNat := by
  unfold Up.take
  repeat' split
  all_goals simp
  omega
theorem ofBe_len {l : List UInt8} {n m : Nat} (h : l.length ≤ n) (hm : 256 ^ n = m) : ofBe l < m := by
  subst hm
  exact Nat.lt_of_lt_of_le (ofBe_lt l) (Nat.pow_le_pow_right (by decide) h)
section
variable {w : World} {p : Value} {x : Up} {F : List Nat} (hp : IsUp w.heap p x F)
include hp
theorem uByte_spec : cal P f_pack_Unpacker_Byte [p] w fun v w' => v = .int .u8 (ofBe (x.take 1).2) ∧ IsUp w'.heap p (x.take 1).1 F ∧ Fr F w w' := by
  refine s_pack_Unpacker_Byte fun R hR => ?_
  unfold c_pack_Unpacker_Byte
  refine cal_i (take_spec hp 1) ?_
  rintro v w1 ⟨h1, h2, h3, h4⟩
  have hl := take_len x 1
  have hb := ofBe_len (n := 1) (m := 256) hl (by decide)
  refine cal_i (value_spec h3 (by simp at hl; omega)) ?_
  rintro _ _ ⟨rfl, rfl⟩
  simp only [nilc_some, fad_mk, pik_true, pik_false, cnd_true, cnd_false, gif_same, gif_tf, gif_ft, gif_undef, bi_add, bi_sub, bi_mul, bi_eql, bi_neq, bi_lss, bi_leq, bi_gtr, bi_geq, notB_bool, cvi_int, lenS_mk, lenT_mk, ext0, ext1, ext2, nilP_mk, nilS_mk, fldv_agg, jn0_k, jn1_k, jn2_k, jn1_and, jn1_or, ex_some, Option.isNone_some, Option.isNone_none, Bool.false_bne, Bool.bne_true, Bool.bne_false, Bool.true_bne, Bool.not_true, Bool.not_false, Bool.and_true, Bool.true_and, Bool.and_false, Bool.false_and, Bool.or_true, Bool.true_or, Bool.or_false, Bool.false_or, cond_true, cond_false, List.getElem?_toArray, List.getElem?_cons_zero, List.getElem?_cons_succ, Nat.zero_add, Nat.add_zero, Nat.reduceAdd, forall_const]
  rw [wu8i (by omega) (by omega)]
  exact hR _ _ ⟨rfl, h1, h2⟩
theorem uShort_spec : cal P f_pack_Unpacker_Short [p] w fun v w' => v = .int .u16 (ofBe (x.take 2).2) ∧ IsUp w'.heap p (x.take 2).1 F ∧ Fr F w w' := by
  refine s_pack_Unpacker_Short fun R hR => ?_
  unfold c_pack_Unpacker_Short
  refine cal_i (take_spec hp 2) ?_
  rintro v w1 ⟨h1, h2, h3, h4⟩
  have hl := take_len x 2
  have hb := ofBe_len (n := 2) (m := 65536) hl (by decide)
  refine cal_i (value_spec h3 (by simp at hl; omega)) ?_
  rintro _ _ ⟨rfl, rfl⟩
  simp only [nilc_some, fad_mk, pik_true, pik_false, cnd_true, cnd_false, gif_same, gif_tf, gif_ft, gif_undef, bi_add, bi_sub, bi_mul, bi_eql, bi_neq, bi_lss, bi_leq, bi_gtr, bi_geq, notB_bool, cvi_int, lenS_mk, lenT_mk, ext0, ext1, ext2, nilP_mk, nilS_mk, fldv_agg, jn0_k, jn1_k, jn2_k, jn1_and, jn1_or, ex_some, Option.isNone_some, Option.isNone_none, Bool.false_bne, Bool.bne_true, Bool.bne_false, Bool.true_bne, Bool.not_true, Bool.not_false, Bool.and_true, Bool.true_and, Bool.and_false, Bool.false_and, Bool.or_true, Bool.true_or, Bool.or_false, Bool.false_or, cond_true, cond_false, List.getElem?_toArray, List.getElem?_cons_zero, List.getElem?_cons_succ, Nat.zero_add, Nat.add_zero, Nat.reduceAdd, forall_const]
  rw [wu16i (by omega) (by omega)]
  exact hR _ _ ⟨rfl, h1, h2⟩
theorem uInt_spec : cal P f_pack_Unpacker_Int [p] w fun v w' => v = .int .u32 (ofBe (x.take 4).2) ∧ IsUp w'.heap p (x.take 4).1 F ∧ Fr F w w' := by
  refine s_pack_Unpacker_Int fun R hR => ?_
  unfold c_pack_Unpacker_Int
  refine cal_i (take_spec hp 4) ?_
  rintro v w1 ⟨h1, h2, h3, h4⟩
  have hl := take_len x 4
  have hb := ofBe_len (n := 4) (m := 4294967296) hl (by decide)
  refine cal_i (value_spec h3 (by simp at hl; omega)) ?_
  rintro _ _ ⟨rfl, rfl⟩
  simp only [nilc_some, fad_mk, pik_true, pik_false, cnd_true, cnd_false, gif_same, gif_tf, gif_ft, gif_undef, bi_add, bi_sub, bi_mul, bi_eql, bi_neq, bi_lss, bi_leq, bi_gtr, bi_geq, notB_bool, cvi_int, lenS_mk, lenT_mk, ext0, ext1, ext2, nilP_mk, nilS_mk, fldv_agg, jn0_k, jn1_k, jn2_k, jn1_and, jn1_or, ex_some, Option.isNone_some, Option.isNone_none, Bool.false_bne, Bool.bne_true, Bool.bne_false, Bool.true_bne, Bool.not_true, Bool.not_false, Bool.and_true, Bool.true_and, Bool.and_false, Bool.false_and, Bool.or_true, Bool.true_or, Bool.or_false, Bool.false_or, cond_true, cond_false, List.getElem?_toArray, List.getElem?_cons_zero, List.getElem?_cons_succ, Nat.zero_add, Nat.add_zero, Nat.reduceAdd, forall_const]
  rw [wu32i (by omega) (by omega)]
  exact hR _ _ ⟨rfl, h1, h2⟩
theorem uLong_spec : cal P f_pack_Unpacker_Long [p] w fun v w' => v = .int .u64 (ofBe (x.take 8).2) ∧ IsUp w'.heap p (x.take 8).1 F ∧ Fr F w w' := by
  refine s_pack_Unpacker_Long fun R hR => ?_
  unfold c_pack_Unpacker_Long
  refine cal_i (take_spec hp 8) ?_
  rintro v w1 ⟨h1, h2, h3, h4⟩
  have hl := take_len x 8
  refine cal_i (value_spec h3 (by simp at hl; omega)) ?_
  rintro _ _ ⟨rfl, rfl⟩
  exact hR _ _ ⟨rfl, h1, h2⟩
theorem uFixed_spec (n : Int) : cal P f_pack_Unpacker_Fixed [p, .int .i64 n] w (TakeQ p (x.take n) F w) := by
  refine s_pack_Unpacker_Fixed fun R hR => ?_
  unfold c_pack_Unpacker_Fixed
  exact cal_i (take_spec hp n) hR
theorem counted_spec {head : Nat} (hh : head ≤ 8) {most : Int} (hm0 : most ≤ 9223372036854775807) : cal P f_pack_Unpacker_counted [p, .int .i64 head, .int .i64 most] w (TakeQ p (x.counted head most) F w) := by
  refine s_pack_Unpacker_counted fun R hR => ?_
  unfold c_pack_Unpacker_counted
  refine cal_i (uworks_spec hp) ?_
  rintro v _ ⟨rfl, rfl⟩
  cases hw : x.works with
  | false =>
    simp only [nilc_some, fad_mk, pik_true, pik_false, cnd_true, cnd_false, gif_same, gif_tf, gif_ft, gif_undef, bi_add, bi_sub, bi_mul, bi_eql, bi_neq, bi_lss, bi_leq, bi_gtr, bi_geq, notB_bool, cvi_int, lenS_mk, lenT_mk, ext0, ext1, ext2, nilP_mk, nilS_mk, fldv_agg, jn0_k, jn1_k, jn2_k, jn1_and, jn1_or, ex_some, Option.isNone_some, Option.isNone_none, Bool.false_bne, Bool.bne_true, Bool.bne_false, Bool.true_bne, Bool.not_true, Bool.not_false, Bool.and_true, Bool.true_and, Bool.and_false, Bool.false_and, Bool.or_true, Bool.true_or, Bool.or_false, Bool.false_or, cond_true, cond_false, List.getElem?_toArray, List.getElem?_cons_zero, List.getElem?_cons_succ, Nat.zero_add, Nat.add_zero, Nat.reduceAdd, forall_const]
    exact hR _ _ (by rw [Up.counted, hw]; exact up_nil hp (Fr.refl _ _))
  | true =>
    have ht := show x.counted head most = _ from by rw [Up.counted, if_pos hw]
    have he : x.e = 0 := by simp [Up.works] at hw; exact hw.2
    have hp0 := hp
    obtain ⟨g, s, E, G, rfl, hg, ho, hn, rfl, hm⟩ := hp
    have hgl := lt_of_blk hg
    have hfail : ∀ e : Int, cal P f_pack_kept_fails [.pointer (some ⟨g, 0, none⟩), .int .i64 e] w fun v w' => TakeQ (.pointer (some ⟨g, 0, none⟩)) ({ x with e := e }, []) (g :: G) w (.slice none 0 0) w' := fun e => by
      refine cal_i (fails_spec hg rfl) ?_
      rintro v w' ⟨rfl, hg', hf⟩
      rw [if_pos he] at hg'
      exact up_nil ⟨g, s, E, G, rfl, hg', ho.fr hf (by simpa using fun k hk (he : k = g) => hn (he ▸ hk)), hn, rfl, hm⟩ (hf.sub (by simp))
    simp only [nilc_some, fad_mk, pik_true, pik_false, cnd_true, cnd_false, gif_same, gif_tf, gif_ft, gif_undef, bi_add, bi_sub, bi_mul, bi_eql, bi_neq, bi_lss, bi_leq, bi_gtr, bi_geq, notB_bool, cvi_int, lenS_mk, lenT_mk, ext0, ext1, ext2, nilP_mk, nilS_mk, fldv_agg, jn0_k, jn1_k, jn2_k, jn1_and, jn1_or, ex_some, Option.isNone_some, Option.isNone_none, Bool.false_bne, Bool.bne_true, Bool.bne_false, Bool.true_bne, Bool.not_true, Bool.not_false, Bool.and_true, Bool.true_and, Bool.and_false, Bool.false_and, Bool.or_true, Bool.true_or, Bool.or_false, Bool.false_or, cond_true, cond_false, List.getElem?_toArray, List.getElem?_cons_zero, List.getElem?_cons_succ, Nat.zero_add, Nat.add_zero, Nat.reduceAdd, forall_const, ld1_eq hg, ho.rd.len]
    rw [cnd_bool]
    refine ⟨fun h => ?_, fun h => ?_⟩
    · have h : most < 0 := by simpa using h
      refine cal_i (hfail 1) ?_
      rintro v w' hq
      exact hR _ _ (by rw [ht, if_pos h]; exact hq)
    have h0 : ¬ most < 0 := by simpa using h
    rw [if_neg h0] at ht
    rw [cnd_bool]
    refine ⟨fun h => ?_, fun h => ?_⟩
    · have h : x.b.length < head := by simpa using h
      refine cal_i (hfail 11) ?_
      rintro v w' hq
      exact hR _ _ (by rw [ht, if_pos h]; exact hq)
    have h1 : ¬ x.b.length < head := by simpa using h
    rw [if_neg h1] at ht
    refine own_to ho (by omega) fun s1 hs1 _ => ?_
    have hv8 : ofBe (x.b.take head) < 18446744073709551616 := ofBe_len (n := 8) (by simp; omega) (by decide)
    refine cal_i (value_spec hs1 (by simp; omega)) ?_
    rintro _ _ ⟨rfl, rfl⟩
    simp only [nilc_some, fad_mk, pik_true, pik_false, cnd_true, cnd_false, gif_same, gif_tf, gif_ft, gif_undef, bi_add, bi_sub, bi_mul, bi_eql, bi_neq, bi_lss, bi_leq, bi_gtr, bi_geq, notB_bool, cvi_int, lenS_mk, lenT_mk, ext0, ext1, ext2, nilP_mk, nilS_mk, fldv_agg, jn0_k, jn1_k, jn2_k, jn1_and, jn1_or, ex_some, Option.isNone_some, Option.isNone_none, Bool.false_bne, Bool.bne_true, Bool.bne_false, Bool.true_bne, Bool.not_true, Bool.not_false, Bool.and_true, Bool.true_and, Bool.and_false, Bool.false_and, Bool.or_true, Bool.true_or, Bool.or_false, Bool.false_or, cond_true, cond_false, List.getElem?_toArray, List.getElem?_cons_zero, List.getElem?_cons_succ, Nat.zero_add, Nat.add_zero, Nat.reduceAdd, forall_const, ld1_eq hg, ho.rd.len]
    rw [wu64i (show 0 ≤ most by omega) (by omega), cnd_bool]
    refine ⟨fun h => ?_, fun h => ?_⟩
    · have h : most < (ofBe (x.b.take head) : Int) := by simpa using h
      refine cal_i (hfail 3) ?_
      rintro v w' hq
      exact hR _ _ (by rw [ht, if_pos h]; exact hq)
    have h2 : ¬ most < (ofBe (x.b.take head) : Int) := by simpa using h
    rw [if_neg h2] at ht
    rw [wi64 (by omega) (by omega), wu64i (by omega) (by omega), cnd_bool]
    refine ⟨fun h => ?_, fun h => ?_⟩
    · have h : x.b.length - head < ofBe (x.b.take head) := by simp at h; omega
      refine cal_i (hfail 11) ?_
      rintro v w' hq
      exact hR _ _ (by rw [ht, if_pos h]; exact hq)
    have h3 : ¬ x.b.length - head < ofBe (x.b.take head) := by simp at h; omega
    rw [if_neg h3] at ht
    refine own_from ho (by omega) fun s2 hs2 hs2o => ?_
    refine st1_i hg (by simp) hs2o fun w1 hg1 hf1 => ?_
    have hd1 : ∀ k ∈ G, k ∉ [g] := by simpa using fun k hk (he : k = g) => hn (he ▸ hk)
    have hp1 : IsUp w1.heap (.pointer (some ⟨g, 0, none⟩)) { x with b := x.b.drop head } (g :: G) := ⟨g, s2, E, G, rfl, hg1, hs2.fr hf1 hd1, hn, rfl, by simp; omega⟩
    rw [wi64 (by omega) (by omega)]
    refine cal_i (take_spec hp1 _) ?_
    rintro v w2 ⟨q1, q2, q3, q4⟩
    refine hR _ _ ?_
    have hw1 : ({ x with b := x.b.drop head } : Up).works = true := hw
    have e1 : ({ x with b := x.b.drop head } : Up).take (ofBe (x.b.take head) : Nat) = ({ x with b := (x.b.drop head).drop (ofBe (x.b.take head)) }, (x.b.drop head).take (ofBe (x.b.take head))) := by
      rw [Up.take, if_pos hw1, if_neg (by omega), if_neg (by simp; omega), Int.toNat_natCast]
    rw [e1] at q1 q3
    rw [ht]
    exact ⟨q1, hf1.trans q2 (by simp) (fun i hi => .inl hi), q3, fun G' hG' => q4 G' fun k hk => Nat.lt_of_lt_of_le (hG' k hk) hf1.size⟩
theorem uBytes_spec {most : Int} (hm0 : most ≤ 9223372036854775807) : cal P f_pack_Unpacker_Bytes [p, .int .i64 most] w (TakeQ p (x.counted 4 most) F w) := by
  refine s_pack_Unpacker_Bytes fun R hR => ?_
  unfold c_pack_Unpacker_Bytes
  exact cal_i (counted_spec (head := 4) hp (by omega) hm0) hR
theorem uText_spec {most : Int} (hm0 : most ≤ 9223372036854775807) : cal P f_pack_Unpacker_Text [p, .int .i64 most] w fun v w' => v = .string ⟨(x.counted 2 most).2.toArray⟩ ∧ IsUp w'.heap p (x.counted 2 most).1 F ∧ Fr F w w' := by
  refine s_pack_Unpacker_Text fun R hR => ?_
  unfold c_pack_Unpacker_Text
  refine cal_i (counted_spec (head := 2) hp (by omega) hm0) ?_
  rintro v w1 ⟨h1, h2, h3, h4⟩
  rw [rdP_eq (conv_str UT_bytes UT_uint8 UT_string h3)]
  exact hR _ _ ⟨rfl, h1, h2⟩
theorem uRest_spec : cal P f_pack_Unpacker_Rest [p] w fun v w' => v = .int .i64 x.b.length ∧ w = w' := by
  obtain ⟨g, s, E, G, rfl, hg, ho, hn, rfl, hm⟩ := hp
  refine s_pack_Unpacker_Rest fun R hR => ?_
  unfold c_pack_Unpacker_Rest
  simp only [nilc_some, fad_mk, pik_true, pik_false, cnd_true, cnd_false, gif_same, gif_tf, gif_ft, gif_undef, bi_add, bi_sub, bi_mul, bi_eql, bi_neq, bi_lss, bi_leq, bi_gtr, bi_geq, notB_bool, cvi_int, lenS_mk, lenT_mk, ext0, ext1, ext2, nilP_mk, nilS_mk, fldv_agg, jn0_k, jn1_k, jn2_k, jn1_and, jn1_or, ex_some, Option.isNone_some, Option.isNone_none, Bool.false_bne, Bool.bne_true, Bool.bne_false, Bool.true_bne, Bool.not_true, Bool.not_false, Bool.and_true, Bool.true_and, Bool.and_false, Bool.false_and, Bool.or_true, Bool.true_or, Bool.or_false, Bool.false_or, cond_true, cond_false, List.getElem?_toArray, List.getElem?_cons_zero, List.getElem?_cons_succ, Nat.zero_add, Nat.add_zero, Nat.reduceAdd, forall_const, ld1_eq hg, ho.rd.len]
  exact hR _ _ ⟨rfl, rfl⟩
end
def Up.err (x : Up) : Int := if x.made then x.e else 2
def Up.fin (x : Up) : Int := if x.err ≠ 0 ∨ x.b.length = 0 then x.err else 12
section
variable {w : World} {p : Value} {x : Up} {F : List Nat} (hp : IsUp w.heap p x F)
include hp
theorem uErr_spec : cal P f_pack_Unpacker_Err [p] w fun v w' => v = .int .i64 x.err ∧ w = w' := by
  obtain ⟨g, s, E, G, rfl, hg, ho, hn, rfl, hm⟩ := hp
  refine s_pack_Unpacker_Err fun R hR => ?_
  unfold c_pack_Unpacker_Err
  cases hmd : x.made with
  | true => rw [hmd] at hg; simp only [nilc_some, fad_mk, pik_true, pik_false, cnd_true, cnd_false, gif_same, gif_tf, gif_ft, gif_undef, bi_add, bi_sub, bi_mul, bi_eql, bi_neq, bi_lss, bi_leq, bi_gtr, bi_geq, notB_bool, cvi_int, lenS_mk, lenT_mk, ext0, ext1, ext2, nilP_mk, nilS_mk, fldv_agg, jn0_k, jn1_k, jn2_k, jn1_and, jn1_or, ex_some, Option.isNone_some, Option.isNone_none, Bool.false_bne, Bool.bne_true, Bool.bne_false, Bool.true_bne, Bool.not_true, Bool.not_false, Bool.and_true, Bool.true_and, Bool.and_false, Bool.false_and, Bool.or_true, Bool.true_or, Bool.or_false, Bool.false_or, cond_true, cond_false, List.getElem?_toArray, List.getElem?_cons_zero, List.getElem?_cons_succ, Nat.zero_add, Nat.add_zero, Nat.reduceAdd, forall_const, ld1_eq hg]; exact hR _ _ ⟨by simp [Up.err, hmd], rfl⟩
  | false => rw [hmd] at hg; simp only [nilc_some, fad_mk, pik_true, pik_false, cnd_true, cnd_false, gif_same, gif_tf, gif_ft, gif_undef, bi_add, bi_sub, bi_mul, bi_eql, bi_neq, bi_lss, bi_leq, bi_gtr, bi_geq, notB_bool, cvi_int, lenS_mk, lenT_mk, ext0, ext1, ext2, nilP_mk, nilS_mk, fldv_agg, jn0_k, jn1_k, jn2_k, jn1_and, jn1_or, ex_some, Option.isNone_some, Option.isNone_none, Bool.false_bne, Bool.bne_true, Bool.bne_false, Bool.true_bne, Bool.not_true, Bool.not_false, Bool.and_true, Bool.true_and, Bool.and_false, Bool.false_and, Bool.or_true, Bool.true_or, Bool.or_false, Bool.false_or, cond_true, cond_false, List.getElem?_toArray, List.getElem?_cons_zero, List.getElem?_cons_succ, Nat.zero_add, Nat.add_zero, Nat.reduceAdd, forall_const, ld1_eq hg]; exact hR _ _ ⟨by simp [Up.err, hmd], rfl⟩
theorem uEnd_spec : cal P f_pack_Unpacker_End [p] w fun v w' => v = .int .i64 x.fin ∧ w = w' := by
  refine s_pack_Unpacker_End fun R hR => ?_
  unfold c_pack_Unpacker_End
  refine cal_i (uErr_spec hp) ?_
  rintro _ _ ⟨rfl, rfl⟩
  obtain ⟨g, s, E, G, rfl, hg, ho, hn, rfl, hm⟩ := hp
  simp only [nilc_some, fad_mk, pik_true, pik_false, cnd_true, cnd_false, gif_same, gif_tf, gif_ft, gif_undef, bi_add, bi_sub, bi_mul, bi_eql, bi_neq, bi_lss, bi_leq, bi_gtr, bi_geq, notB_bool, cvi_int, lenS_mk, lenT_mk, ext0, ext1, ext2, nilP_mk, nilS_mk, fldv_agg, jn0_k, jn1_k, jn2_k, jn1_and, jn1_or, ex_some, Option.isNone_some, Option.isNone_none, Bool.false_bne, Bool.bne_true, Bool.bne_false, Bool.true_bne, Bool.not_true, Bool.not_false, Bool.and_true, Bool.true_and, Bool.and_false, Bool.false_and, Bool.or_true, Bool.true_or, Bool.or_false, Bool.false_or, cond_true, cond_false, List.getElem?_toArray, List.getElem?_cons_zero, List.getElem?_cons_succ, Nat.zero_add, Nat.add_zero, Nat.reduceAdd, forall_const, ld1_eq hg, ho.rd.len]
  rw [cnd_bool]
  refine ⟨fun h => hR _ _ ⟨?_, rfl⟩, fun h => hR _ _ ⟨?_, rfl⟩⟩
  · rw [Up.fin, if_pos (by simpa using h)]
  · rw [Up.fin, if_neg (by simpa using h)]
end
/-- An unpacker at first. -/
theorem Read_spec {w : World} {v : Value} {l : List UInt8} (hr : RdB w.heap v l) (hl : l.length ≤ 281474976710656) : cal P f_pack_Read [v] w fun p w' => ∃ F, IsUp w'.heap p ⟨true, l, 0⟩ F ∧ Fr [] w w' ∧ ∀ k ∈ F, w.heap.size ≤ k := by
  refine s_pack_Read fun R hR => ?_
  unfold c_pack_Read
  have hb : (Instr.build T_pack_Unpacker #[]).run P w = .ok (.agg #[.bool false, .slice none 0 0, .int .i64 0]) w := by kernel_rfl
  rw [rdP_eq hb]
  refine bx_i fun w1 g hg hg1 hf1 => ?_
  simp only [nilc_some, fad_mk, pik_true, pik_false, cnd_true, cnd_false, gif_same, gif_tf, gif_ft, gif_undef, bi_add, bi_sub, bi_mul, bi_eql, bi_neq, bi_lss, bi_leq, bi_gtr, bi_geq, notB_bool, cvi_int, lenS_mk, lenT_mk, ext0, ext1, ext2, nilP_mk, nilS_mk, fldv_agg, jn0_k, jn1_k, jn2_k, jn1_and, jn1_or, ex_some, Option.isNone_some, Option.isNone_none, Bool.false_bne, Bool.bne_true, Bool.bne_false, Bool.true_bne, Bool.not_true, Bool.not_false, Bool.and_true, Bool.true_and, Bool.and_false, Bool.false_and, Bool.or_true, Bool.true_or, Bool.or_false, Bool.false_or, cond_true, cond_false, List.getElem?_toArray, List.getElem?_cons_zero, List.getElem?_cons_succ, Nat.zero_add, Nat.add_zero, Nat.reduceAdd, forall_const, Value.cells] at hg1 ⊢
  refine st1_i hg1 (by simp) rfl fun w2 hg2 hf2 => ?_
  have hf12 : Fr [] w w2 := hf1.trans hf2 (by simp) (by simp; omega)
  have hr2 := hr.fr hf12 (off_nil _)
  rw [hr2.len]
  refine mkB ST_bytes ZC_uint8 hl fun w3 g3 hg3 ho3 hf3 => ?_
  have hgl2 := lt_of_blk hg2
  have hne : g ≠ g3 := by omega
  refine st1_i (hf3.blk hg2 (by simp)) (by simp) rfl fun w4 hg4 hf4 => ?_
  have hg4 : w4.heap[g]? = some (.cells #[.bool true, .slice (some ⟨g3, 0, none⟩) l.length l.length, .int .i64 0] T_pack_Unpacker (0, 0)) := hg4
  simp only [nilc_some, fad_mk, pik_true, pik_false, cnd_true, cnd_false, gif_same, gif_tf, gif_ft, gif_undef, bi_add, bi_sub, bi_mul, bi_eql, bi_neq, bi_lss, bi_leq, bi_gtr, bi_geq, notB_bool, cvi_int, lenS_mk, lenT_mk, ext0, ext1, ext2, nilP_mk, nilS_mk, fldv_agg, jn0_k, jn1_k, jn2_k, jn1_and, jn1_or, ex_some, Option.isNone_some, Option.isNone_none, Bool.false_bne, Bool.bne_true, Bool.bne_false, Bool.true_bne, Bool.not_true, Bool.not_false, Bool.and_true, Bool.true_and, Bool.and_false, Bool.false_and, Bool.or_true, Bool.true_or, Bool.or_false, Bool.false_or, cond_true, cond_false, List.getElem?_toArray, List.getElem?_cons_zero, List.getElem?_cons_succ, Nat.zero_add, Nat.add_zero, Nat.reduceAdd, forall_const, ld1_eq hg4]
  have hf13 : Fr [] w w3 := hf12.trans hf3 (by simp) (by simp)
  have hf14 : Fr [] w w4 := hf13.trans hf4 (by simp) (by simp; omega)
  refine cpyB ST_bytes (ho3.fr hf4 (by simpa using hne.symm)) (hr.fr hf14 (off_nil _)) fun w5 ho5 hf5 => ?_
  have e1 : l.take (List.replicate l.length (0 : UInt8)).length ++ (List.replicate l.length (0 : UInt8)).drop l.length = l := by simp
  rw [e1] at ho5
  have hs := hf12.size
  exact hR _ _ ⟨[g, g3], ⟨g, _, _, [g3], rfl, hf5.blk hg4 (by simpa using hne), ho5, by simpa using hne, rfl, hl⟩, hf14.trans hf5 (by simp) (by simp; omega), by simp; omega⟩
end Go.Fx
