/-
  A chunk's words: as the program makes them, and as the document does.
-/
import Derived.Test.YticmbeincpaaeaaDoorShC
set_option linter.unusedVariables false
set_option linter.unusedSimpArgs false
namespace Go.Fx
section
variable {w0 w : World} {b : Value} {l : List UInt8}
theorem getD_eq {l : List UInt8} {i : Nat} (h : i < l.length) : l[i] = l.getD i 0 := by simp [List.getD_eq_getElem?_getD, List.getElem?_eq_getElem h]
theorem schedule_spec (hb : RdB w.heap b l) (hl : l.length = 64) : cal P f_sha_schedule [b] w fun r w' => r = .agg (wvs (sch l 64)).toArray ∧ Fr [] w w' := by
  refine s_sha_schedule fun R hR => ?_
  unfold c_sha_schedule
  refine alloc_s (Sep.start w) (A_a64 w) fun g2 w2 hs => ?_
  refine alloc_s hs (A_a64 w2) fun g3 w3 hs => ?_
  refine ⟨fun a w' => ∃ t : Nat, a = .int .i64 t ∧ t ≤ 64 ∧ Sep w w' [wa g3 (sch l t) T_a64_uint32, wa g2 (List.replicate 64 0) T_a64_uint32], fun z _ => (64 - RowKit.intOf z).toNat, ⟨0, rfl, by omega, hs⟩, ?_⟩
  rintro _ w4 ⟨t, rfl, ht, hs4⟩ -
  simp only [nilc_some, fad_mk, pik_true, pik_false, cnd_true, cnd_false, gif_same, gif_tf, gif_ft, gif_undef, bi_add, bi_sub, bi_mul, bi_eql, bi_neq, bi_lss, bi_leq, bi_gtr, bi_geq, notB_bool, cvi_int, lenS_mk, lenT_mk, ext0, ext1, ext2, nilP_mk, nilS_mk, fldv_agg, jn0_k, jn1_k, jn2_k, jn1_and, jn1_or, ex_some, Option.isNone_some, Option.isNone_none, Bool.false_bne, Bool.bne_true, Bool.bne_false, Bool.true_bne, Bool.not_true, Bool.not_false, Bool.and_true, Bool.true_and, Bool.and_false, Bool.false_and, Bool.or_true, Bool.true_or, Bool.or_false, Bool.false_or, cond_true, cond_false, List.getElem?_toArray, List.getElem?_cons_zero, List.getElem?_cons_succ, Nat.zero_add, Nat.add_zero, Nat.reduceAdd, forall_const]
  have hlen := sch_len l t
  rw [cnd_bool]
  refine ⟨fun h => ?_, fun h => ?_⟩
  · have h64 : t < 64 := by simp at h; omega
    refine ⟨fun w' => Sep w w' [wa g3 (sch l (t + 1)) T_a64_uint32, wa g2 (List.replicate 64 0) T_a64_uint32], ?_, ?_⟩
    · change cnd _ _ _
      rw [cnd_bool]
      refine ⟨fun h => ?_, fun h => ?_⟩
      · have h16 : t < 16 := by simp at h; omega
        refine drH_s hs4 fun w5 hs5 _ => ?_
        have hb5 := hs5.rdB hb
        have e0 : IntKind.i64.wrap (4 * (t : Int)) = ((4 * t : Nat) : Int) := by rw [wi64 (by omega) (by omega)]; omega
        have e1 : IntKind.i64.wrap (((4 * t : Nat) : Int) + 1) = ((4 * t + 1 : Nat) : Int) := by rw [wi64 (by omega) (by omega)]; omega
        have e2 : IntKind.i64.wrap (((4 * t : Nat) : Int) + 2) = ((4 * t + 2 : Nat) : Int) := by rw [wi64 (by omega) (by omega)]; omega
        have e3 : IntKind.i64.wrap (((4 * t : Nat) : Int) + 3) = ((4 * t + 3 : Nat) : Int) := by rw [wi64 (by omega) (by omega)]; omega
        simp only [rdS_ld1, e0, e1, e2, e3]
        refine ldxB hb5 (by omega) ?_
        rw [wv_b, shl_l _ .u64 24 (by decide) (by decide)]
        refine ldxB hb5 (by omega) ?_
        rw [wv_b, shl_l _ .u64 16 (by decide) (by decide), wv_or]
        refine ldxB hb5 (by omega) ?_
        rw [wv_b, shl_l _ .u64 8 (by decide) (by decide), wv_or]
        refine ldxB hb5 (by omega) ?_
        rw [wv_b, wv_or, ixa_w .i64 h64]
        refine efC_st1 (st_w hs5 (by omega) _ fun w6 hs6 => ?_)
        rw [sch, nextW, if_pos h16, wd, ← word4_or, ← getD_eq (by omega), ← getD_eq (by omega), ← getD_eq (by omega), ← getD_eq (by omega)]
        exact hs6
      · have h16 : ¬ t < 16 := by simp at h; omega
        refine drw_s hs4 fun w5 hs5 _ => ?_
        have e15 : IntKind.i64.wrap ((t : Int) - 15) = ((t - 15 : Nat) : Int) := by rw [wi64 (by omega) (by omega)]; omega
        have e2 : IntKind.i64.wrap ((t : Int) - 2) = ((t - 2 : Nat) : Int) := by rw [wi64 (by omega) (by omega)]; omega
        have e7 : IntKind.i64.wrap ((t : Int) - 7) = ((t - 7 : Nat) : Int) := by rw [wi64 (by omega) (by omega)]; omega
        have e16 : IntKind.i64.wrap ((t : Int) - 16) = ((t - 16 : Nat) : Int) := by rw [wi64 (by omega) (by omega)]; omega
        rw [e15, ixa_w .i64 (by omega), ld_w hs5.blk (by omega), e2, ixa_w .i64 (by omega), ld_w hs5.blk (by omega)]
        refine cal_i (Rot_spec (-7) 7 (by decide) (by decide)) ?_
        rintro _ _ ⟨rfl, rfl⟩
        refine cal_i (Rot_spec (-18) 18 (by decide) (by decide)) ?_
        rintro _ _ ⟨rfl, rfl⟩
        rw [wv_xor, shr_l _ .u64 3 (by decide) (by decide), wv_xor]
        refine cal_i (Rot_spec (-17) 17 (by decide) (by decide)) ?_
        rintro _ _ ⟨rfl, rfl⟩
        refine cal_i (Rot_spec (-19) 19 (by decide) (by decide)) ?_
        rintro _ _ ⟨rfl, rfl⟩
        rw [wv_xor, shr_l _ .u64 10 (by decide) (by decide), wv_xor]
        refine drH_s hs5 fun w6 hs6 _ => ?_
        simp only [rdS_ld1, e7, e16]
        rw [ixa_w .i64 (by omega), ld_w hs6.blk (by omega), wv_add, wv_add, ixa_w .i64 (by omega), ld_w hs6.blk (by omega), wv_add, ixa_w .i64 h64]
        refine efC_st1 (st_w hs6 (by omega) _ fun w7 hs7 => ?_)
        rw [sch, nextW, if_neg h16]
        exact hs7
    · intro w5 hs5 _
      rw [wi64 (by omega) (by omega)]
      exact ⟨⟨t + 1, by simp, by omega, hs5⟩, by simp [RowKit.intOf]; omega⟩
  · have h64 : t = 64 := by simp at h; omega
    subst h64
    rw [ldN_w hs4.blk hlen]
    refine stN_w hs4.p1 (by simp) hlen fun w5 hs5 => ?_
    rw [ldN_w hs5.blk hlen]
    exact hR _ _ ⟨rfl, hs5.fr0⟩
theorem words_spec (hb : RdB w.heap b l) (hl : l.length = 64) : cal P f_ref02_words [b] w fun r w' => r = .agg (wvs (sch l 64)).toArray ∧ Fr [] w w' := by
  refine s_ref02_words fun R hR => ?_
  unfold c_ref02_words
  refine alloc_s (Sep.start w) (A_a64 w) fun g2 w2 hs => ?_
  refine alloc_s hs (A_a64 w2) fun g3 w3 hs => ?_
  refine ⟨fun a w' => ∃ t : Nat, a = .int .i64 t ∧ t ≤ 16 ∧ Sep w w' [wa g3 (sch l t) T_a64_uint32, wa g2 (List.replicate 64 0) T_a64_uint32], fun z _ => (16 - RowKit.intOf z).toNat, ⟨0, rfl, by omega, hs⟩, ?_⟩
  rintro _ w4 ⟨t, rfl, ht, hs4⟩ -
  simp only [nilc_some, fad_mk, pik_true, pik_false, cnd_true, cnd_false, gif_same, gif_tf, gif_ft, gif_undef, bi_add, bi_sub, bi_mul, bi_eql, bi_neq, bi_lss, bi_leq, bi_gtr, bi_geq, notB_bool, cvi_int, lenS_mk, lenT_mk, ext0, ext1, ext2, nilP_mk, nilS_mk, fldv_agg, jn0_k, jn1_k, jn2_k, jn1_and, jn1_or, ex_some, Option.isNone_some, Option.isNone_none, Bool.false_bne, Bool.bne_true, Bool.bne_false, Bool.true_bne, Bool.not_true, Bool.not_false, Bool.and_true, Bool.true_and, Bool.and_false, Bool.false_and, Bool.or_true, Bool.true_or, Bool.or_false, Bool.false_or, cond_true, cond_false, List.getElem?_toArray, List.getElem?_cons_zero, List.getElem?_cons_succ, Nat.zero_add, Nat.add_zero, Nat.reduceAdd, forall_const]
  have hlen := sch_len l t
  rw [cnd_bool]
  refine ⟨fun h => ?_, fun h => ?_⟩
  · have h16 : t < 16 := by simp at h; omega
    obtain ⟨part, hp⟩ : ∃ part : Nat → W32, part = fun i => ((l.drop (4 * t)).take i).foldl (fun v b => v * 256 + bw b) 0 := ⟨_, rfl⟩
    have hp0 : part 0 = 0 := by rw [hp]; rfl
    have hps : ∀ i, i < 4 → part (i + 1) = part i * 256 + bw (l.getD (4 * t + i) 0) := fun i hi => by
      have hlt : i < (l.drop (4 * t)).length := by simp; omega
      rw [hp]
      simp only []
      rw [List.take_add_one, List.getElem?_eq_getElem hlt, List.foldl_append]
      simp [List.getD_eq_getElem?_getD, List.getElem?_eq_getElem (show 4 * t + i < l.length by omega)]
    have hp4 : part 4 = wd l t := by
      rw [hps 3 (by omega), hps 2 (by omega), hps 1 (by omega), hps 0 (by omega), hp0, word4_sum]
      rfl
    refine ⟨fun a w' => ∃ i : Nat, a = .int .i64 i ∧ i ≤ 4 ∧ Sep w w' [wa g3 ((sch l t).set t (part i)) T_a64_uint32, wa g2 (List.replicate 64 0) T_a64_uint32], fun z _ => (4 - RowKit.intOf z).toNat, ⟨0, rfl, by omega, ?_⟩, ?_⟩
    · have e : (sch l t).set t (part 0) = sch l t := by
        rw [hp0]
        apply List.ext_getElem?
        intro j
        by_cases hj : t = j
        · subst hj
          have := sch_zero l t t (Nat.le_refl _)
          rw [List.getD_eq_getElem?_getD, List.getElem?_eq_getElem (by omega)] at this
          rw [List.getElem?_set_self (by omega), List.getElem?_eq_getElem (by omega)]
          simpa using this.symm
        · rw [List.getElem?_set_ne hj]
      rw [e]
      exact hs4
    rintro _ w5 ⟨i, rfl, hi, hs5⟩ -
    simp only [nilc_some, fad_mk, pik_true, pik_false, cnd_true, cnd_false, gif_same, gif_tf, gif_ft, gif_undef, bi_add, bi_sub, bi_mul, bi_eql, bi_neq, bi_lss, bi_leq, bi_gtr, bi_geq, notB_bool, cvi_int, lenS_mk, lenT_mk, ext0, ext1, ext2, nilP_mk, nilS_mk, fldv_agg, jn0_k, jn1_k, jn2_k, jn1_and, jn1_or, ex_some, Option.isNone_some, Option.isNone_none, Bool.false_bne, Bool.bne_true, Bool.bne_false, Bool.true_bne, Bool.not_true, Bool.not_false, Bool.and_true, Bool.true_and, Bool.and_false, Bool.false_and, Bool.or_true, Bool.true_or, Bool.or_false, Bool.false_or, cond_true, cond_false, List.getElem?_toArray, List.getElem?_cons_zero, List.getElem?_cons_succ, Nat.zero_add, Nat.add_zero, Nat.reduceAdd, forall_const]
    rw [cnd_bool]
    refine ⟨fun h => ?_, fun h => ?_⟩
    · have h4 : i < 4 := by simp at h; omega
      refine drH_s hs5 fun w6 hs6 _ => ?_
      have e0 : IntKind.i64.wrap (4 * (t : Int)) = ((4 * t : Nat) : Int) := by rw [wi64 (by omega) (by omega)]; omega
      have e1 : IntKind.i64.wrap (((4 * t : Nat) : Int) + (i : Int)) = ((4 * t + i : Nat) : Int) := by rw [wi64 (by omega) (by omega)]; omega
      simp only [rdS_ld1, e0, e1]
      rw [ixa_w .i64 (by omega), ld_w hs6.blk (by simp; omega), wv_mul256]
      refine ldxB (hs6.rdB hb) (by omega) ?_
      rw [wv_b, wv_add, ixa_w .i64 (by omega)]
      refine efC_st1 (st_w hs6 (by simp; omega) _ fun w7 hs7 => ?_)
      rw [wi64 (by omega) (by omega)]
      refine ⟨⟨i + 1, by simp, by omega, ?_⟩, by simp [RowKit.intOf]; omega⟩
      rw [List.set_set] at hs7
      have e : ((sch l t).set t (part i)).getD t 0 = part i := by rw [List.getD_eq_getElem?_getD, List.getElem?_set_self (by omega)]; rfl
      rw [e, getD_eq (by omega)] at hs7
      rw [hps i h4]
      exact hs7
    · have h4 : i = 4 := by simp at h; omega
      subst h4
      rw [wi64 (by omega) (by omega)]
      rw [hp4] at hs5
      refine ⟨⟨t + 1, by simp, by omega, ?_⟩, by simp [RowKit.intOf]; omega⟩
      rw [sch, nextW, if_pos h16]
      exact hs5
  · have h16 : t = 16 := by simp at h; omega
    subst h16
    refine ⟨fun a w' => ∃ t : Nat, a = .int .i64 t ∧ 16 ≤ t ∧ t ≤ 64 ∧ Sep w w' [wa g3 (sch l t) T_a64_uint32, wa g2 (List.replicate 64 0) T_a64_uint32], fun z _ => (64 - RowKit.intOf z).toNat, ⟨16, rfl, by omega, by omega, hs4⟩, ?_⟩
    rintro _ w5 ⟨t, rfl, ht1, ht2, hs5⟩ -
    simp only [nilc_some, fad_mk, pik_true, pik_false, cnd_true, cnd_false, gif_same, gif_tf, gif_ft, gif_undef, bi_add, bi_sub, bi_mul, bi_eql, bi_neq, bi_lss, bi_leq, bi_gtr, bi_geq, notB_bool, cvi_int, lenS_mk, lenT_mk, ext0, ext1, ext2, nilP_mk, nilS_mk, fldv_agg, jn0_k, jn1_k, jn2_k, jn1_and, jn1_or, ex_some, Option.isNone_some, Option.isNone_none, Bool.false_bne, Bool.bne_true, Bool.bne_false, Bool.true_bne, Bool.not_true, Bool.not_false, Bool.and_true, Bool.true_and, Bool.and_false, Bool.false_and, Bool.or_true, Bool.true_or, Bool.or_false, Bool.false_or, cond_true, cond_false, List.getElem?_toArray, List.getElem?_cons_zero, List.getElem?_cons_succ, Nat.zero_add, Nat.add_zero, Nat.reduceAdd, forall_const]
    have hlen := sch_len l t
    rw [cnd_bool]
    refine ⟨fun h => ?_, fun h => ?_⟩
    · have h64 : t < 64 := by simp at h; omega
      have e15 : IntKind.i64.wrap ((t : Int) - 15) = ((t - 15 : Nat) : Int) := by rw [wi64 (by omega) (by omega)]; omega
      have e2 : IntKind.i64.wrap ((t : Int) - 2) = ((t - 2 : Nat) : Int) := by rw [wi64 (by omega) (by omega)]; omega
      have e7 : IntKind.i64.wrap ((t : Int) - 7) = ((t - 7 : Nat) : Int) := by rw [wi64 (by omega) (by omega)]; omega
      have e16 : IntKind.i64.wrap ((t : Int) - 16) = ((t - 16 : Nat) : Int) := by rw [wi64 (by omega) (by omega)]; omega
      rw [e15, ixa_w .i64 (by omega), ld_w hs5.blk (by omega), e2, ixa_w .i64 (by omega), ld_w hs5.blk (by omega)]
      refine cal_i (turned_spec 7 7 rfl (by decide)) ?_
      rintro _ _ ⟨rfl, rfl⟩
      refine cal_i (turned_spec 18 18 rfl (by decide)) ?_
      rintro _ _ ⟨rfl, rfl⟩
      rw [wv_xor, shr_l _ .u64 3 (by decide) (by decide), wv_xor]
      refine cal_i (turned_spec 17 17 rfl (by decide)) ?_
      rintro _ _ ⟨rfl, rfl⟩
      refine cal_i (turned_spec 19 19 rfl (by decide)) ?_
      rintro _ _ ⟨rfl, rfl⟩
      rw [wv_xor, shr_l _ .u64 10 (by decide) (by decide), wv_xor]
      refine drH_s hs5 fun w6 hs6 _ => ?_
      simp only [rdS_ld1, e7, e16]
      rw [ixa_w .i64 (by omega), ld_w hs6.blk (by omega), wv_add, wv_add, ixa_w .i64 (by omega), ld_w hs6.blk (by omega), wv_add, ixa_w .i64 h64]
      refine efC_st1 (st_w hs6 (by omega) _ fun w7 hs7 => ?_)
      rw [wi64 (by omega) (by omega)]
      refine ⟨⟨t + 1, by simp, by omega, by omega, ?_⟩, by simp [RowKit.intOf]; omega⟩
      rw [sch, nextW, if_neg (by omega)]
      exact hs7
    · have h64 : t = 64 := by simp at h; omega
      subst h64
      rw [ldN_w hs5.blk hlen]
      refine stN_w hs5.p1 (by simp) hlen fun w6 hs6 => ?_
      rw [ldN_w hs6.blk hlen]
      exact hR _ _ ⟨rfl, hs6.fr0⟩
end
end Go.Fx
