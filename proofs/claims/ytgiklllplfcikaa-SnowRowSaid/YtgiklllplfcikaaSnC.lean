/-
  The reference's check; instances that are the same; clones, first instances, what is preferred.
-/
import Derived.Test.YtgiklllplfcikaaSnB
set_option linter.unusedVariables false
set_option linter.unusedSimpArgs false
namespace Go.Fx
section
variable {w : World} {v : Value} {x : Sn} {p : Par}
theorem rCheck_spec (hp : PaOk p) (hr : Rows' Q_api_Choice w.heap v x.l) (hl : x.l.length ≤ 9223372036854775807) : cal P f_ref17_Check [pav p, snv v x] w fun r w' => r = .int .i64 (snE p x) ∧ Fr [] w w' := by
  refine s_ref17_Check fun R hR => ?_
  unfold c_ref17_Check
  refine bx_s (Sep.start w) fun g w1 hs => ?_
  refine bx_s hs fun g2 w2 hs => ?_
  simp only [Value.cells] at hs
  simp only [nilc_some, fad_mk, pik_true, pik_false, cnd_true, cnd_false, gif_same, gif_tf, gif_ft, gif_undef, bi_add, bi_sub, bi_mul, bi_eql, bi_neq, bi_lss, bi_leq, bi_gtr, bi_geq, notB_bool, cvi_int, lenS_mk, lenT_mk, ext0, ext1, ext2, nilP_mk, nilS_mk, fldv_agg, jn0_k, jn1_k, jn2_k, jn1_and, jn1_or, ex_some, Option.isNone_some, Option.isNone_none, Bool.false_bne, Bool.bne_true, Bool.bne_false, Bool.true_bne, Bool.not_true, Bool.not_false, Bool.and_true, Bool.true_and, Bool.and_false, Bool.false_and, Bool.or_true, Bool.true_or, Bool.or_false, Bool.false_or, cond_true, cond_false, List.getElem?_toArray, List.getElem?_cons_zero, List.getElem?_cons_succ, Nat.zero_add, Nat.add_zero, Nat.reduceAdd, forall_const, L_api_Params hs.p1.blk, L_api_Params__K hs.p1.blk, L_api_Params__AlphaPref hs.p1.blk, L_api_Params__AlphaConf hs.p1.blk, L_api_Params__Beta hs.p1.blk]
  refine cal_i (rParams_spec hp) ?_
  rintro _ w3 ⟨rfl, hf3⟩
  replace hs := hs.old hf3
  simp only [nilc_some, fad_mk, pik_true, pik_false, cnd_true, cnd_false, gif_same, gif_tf, gif_ft, gif_undef, bi_add, bi_sub, bi_mul, bi_eql, bi_neq, bi_lss, bi_leq, bi_gtr, bi_geq, notB_bool, cvi_int, lenS_mk, lenT_mk, ext0, ext1, ext2, nilP_mk, nilS_mk, fldv_agg, jn0_k, jn1_k, jn2_k, jn1_and, jn1_or, ex_some, Option.isNone_some, Option.isNone_none, Bool.false_bne, Bool.bne_true, Bool.bne_false, Bool.true_bne, Bool.not_true, Bool.not_false, Bool.and_true, Bool.true_and, Bool.and_false, Bool.false_and, Bool.or_true, Bool.true_or, Bool.or_false, Bool.false_or, cond_true, cond_false, List.getElem?_toArray, List.getElem?_cons_zero, List.getElem?_cons_succ, Nat.zero_add, Nat.add_zero, Nat.reduceAdd, forall_const]
  rw [cnd_bool]
  refine ⟨fun h => ?_, fun h => ?_⟩
  · exact hR _ _ ⟨by rw [snE_par (by simpa using h)], hs.fr0⟩
  have hpar : parE p = 0 := by simpa using h
  have hbad : headBad p x → ∀ w', Fr [] w w' → R (.int .i64 171) w' := fun h w' hf => hR _ _ ⟨by rw [snE_head hpar h], hf⟩
  simp only [nilc_some, fad_mk, pik_true, pik_false, cnd_true, cnd_false, gif_same, gif_tf, gif_ft, gif_undef, bi_add, bi_sub, bi_mul, bi_eql, bi_neq, bi_lss, bi_leq, bi_gtr, bi_geq, notB_bool, cvi_int, lenS_mk, lenT_mk, ext0, ext1, ext2, nilP_mk, nilS_mk, fldv_agg, jn0_k, jn1_k, jn2_k, jn1_and, jn1_or, ex_some, Option.isNone_some, Option.isNone_none, Bool.false_bne, Bool.bne_true, Bool.bne_false, Bool.true_bne, Bool.not_true, Bool.not_false, Bool.and_true, Bool.true_and, Bool.and_false, Bool.false_and, Bool.or_true, Bool.true_or, Bool.or_false, Bool.false_or, cond_true, cond_false, List.getElem?_toArray, List.getElem?_cons_zero, List.getElem?_cons_succ, Nat.zero_add, Nat.add_zero, Nat.reduceAdd, forall_const, L_api_Snow hs.blk, L_api_Snow__List hs.blk, L_api_Snow__Pref hs.blk, L_api_Snow__Flake hs.blk, L_api_Snow__Conf hs.blk, L_api_Snow__Done hs.blk, (hr.fr hs.fr0).len]
  cases hA : (decide ((x.l.length : Int) < 1) || decide (32 < (x.l.length : Int))) with
  | true =>
    simp only [nilc_some, fad_mk, pik_true, pik_false, cnd_true, cnd_false, gif_same, gif_tf, gif_ft, gif_undef, bi_add, bi_sub, bi_mul, bi_eql, bi_neq, bi_lss, bi_leq, bi_gtr, bi_geq, notB_bool, cvi_int, lenS_mk, lenT_mk, ext0, ext1, ext2, nilP_mk, nilS_mk, fldv_agg, jn0_k, jn1_k, jn2_k, jn1_and, jn1_or, ex_some, Option.isNone_some, Option.isNone_none, Bool.false_bne, Bool.bne_true, Bool.bne_false, Bool.true_bne, Bool.not_true, Bool.not_false, Bool.and_true, Bool.true_and, Bool.and_false, Bool.false_and, Bool.or_true, Bool.true_or, Bool.or_false, Bool.false_or, cond_true, cond_false, List.getElem?_toArray, List.getElem?_cons_zero, List.getElem?_cons_succ, Nat.zero_add, Nat.add_zero, Nat.reduceAdd, forall_const]
    refine hbad ?_ _ hs.fr0
    simp at hA
    unfold headBad
    omega
  | false =>
  simp only [nilc_some, fad_mk, pik_true, pik_false, cnd_true, cnd_false, gif_same, gif_tf, gif_ft, gif_undef, bi_add, bi_sub, bi_mul, bi_eql, bi_neq, bi_lss, bi_leq, bi_gtr, bi_geq, notB_bool, cvi_int, lenS_mk, lenT_mk, ext0, ext1, ext2, nilP_mk, nilS_mk, fldv_agg, jn0_k, jn1_k, jn2_k, jn1_and, jn1_or, ex_some, Option.isNone_some, Option.isNone_none, Bool.false_bne, Bool.bne_true, Bool.bne_false, Bool.true_bne, Bool.not_true, Bool.not_false, Bool.and_true, Bool.true_and, Bool.and_false, Bool.false_and, Bool.or_true, Bool.true_or, Bool.or_false, Bool.false_or, cond_true, cond_false, List.getElem?_toArray, List.getElem?_cons_zero, List.getElem?_cons_succ, Nat.zero_add, Nat.add_zero, Nat.reduceAdd, forall_const]
  simp at hA
  refine jn1_dup (cal_i (rPlace_spec (hr.fr hs.fr0) hl) ?_)
  rintro _ w4 ⟨rfl, hf4⟩
  replace hs := hs.old hf4
  simp only [nilc_some, fad_mk, pik_true, pik_false, cnd_true, cnd_false, gif_same, gif_tf, gif_ft, gif_undef, bi_add, bi_sub, bi_mul, bi_eql, bi_neq, bi_lss, bi_leq, bi_gtr, bi_geq, notB_bool, cvi_int, lenS_mk, lenT_mk, ext0, ext1, ext2, nilP_mk, nilS_mk, fldv_agg, jn0_k, jn1_k, jn2_k, jn1_and, jn1_or, ex_some, Option.isNone_some, Option.isNone_none, Bool.false_bne, Bool.bne_true, Bool.bne_false, Bool.true_bne, Bool.not_true, Bool.not_false, Bool.and_true, Bool.true_and, Bool.and_false, Bool.false_and, Bool.or_true, Bool.true_or, Bool.or_false, Bool.false_or, cond_true, cond_false, List.getElem?_toArray, List.getElem?_cons_zero, List.getElem?_cons_succ, Nat.zero_add, Nat.add_zero, Nat.reduceAdd, forall_const]
  cases hB : decide (plc x.l x.pref < 0) with
  | true =>
    simp only [nilc_some, fad_mk, pik_true, pik_false, cnd_true, cnd_false, gif_same, gif_tf, gif_ft, gif_undef, bi_add, bi_sub, bi_mul, bi_eql, bi_neq, bi_lss, bi_leq, bi_gtr, bi_geq, notB_bool, cvi_int, lenS_mk, lenT_mk, ext0, ext1, ext2, nilP_mk, nilS_mk, fldv_agg, jn0_k, jn1_k, jn2_k, jn1_and, jn1_or, ex_some, Option.isNone_some, Option.isNone_none, Bool.false_bne, Bool.bne_true, Bool.bne_false, Bool.true_bne, Bool.not_true, Bool.not_false, Bool.and_true, Bool.true_and, Bool.and_false, Bool.false_and, Bool.or_true, Bool.true_or, Bool.or_false, Bool.false_or, cond_true, cond_false, List.getElem?_toArray, List.getElem?_cons_zero, List.getElem?_cons_succ, Nat.zero_add, Nat.add_zero, Nat.reduceAdd, forall_const]
    refine hbad ?_ _ hs.fr0
    simp at hB
    unfold headBad
    omega
  | false =>
  simp only [nilc_some, fad_mk, pik_true, pik_false, cnd_true, cnd_false, gif_same, gif_tf, gif_ft, gif_undef, bi_add, bi_sub, bi_mul, bi_eql, bi_neq, bi_lss, bi_leq, bi_gtr, bi_geq, notB_bool, cvi_int, lenS_mk, lenT_mk, ext0, ext1, ext2, nilP_mk, nilS_mk, fldv_agg, jn0_k, jn1_k, jn2_k, jn1_and, jn1_or, ex_some, Option.isNone_some, Option.isNone_none, Bool.false_bne, Bool.bne_true, Bool.bne_false, Bool.true_bne, Bool.not_true, Bool.not_false, Bool.and_true, Bool.true_and, Bool.and_false, Bool.false_and, Bool.or_true, Bool.true_or, Bool.or_false, Bool.false_or, cond_true, cond_false, List.getElem?_toArray, List.getElem?_cons_zero, List.getElem?_cons_succ, Nat.zero_add, Nat.add_zero, Nat.reduceAdd, forall_const, L_api_Snow hs.blk, L_api_Snow__List hs.blk, L_api_Snow__Pref hs.blk, L_api_Snow__Flake hs.blk, L_api_Snow__Conf hs.blk, L_api_Snow__Done hs.blk]
  simp at hB
  refine jn1_dup (cal_i (rPlace_spec (hr.fr hs.fr0) hl) ?_)
  rintro _ w5 ⟨rfl, hf5⟩
  replace hs := hs.old hf5
  simp only [nilc_some, fad_mk, pik_true, pik_false, cnd_true, cnd_false, gif_same, gif_tf, gif_ft, gif_undef, bi_add, bi_sub, bi_mul, bi_eql, bi_neq, bi_lss, bi_leq, bi_gtr, bi_geq, notB_bool, cvi_int, lenS_mk, lenT_mk, ext0, ext1, ext2, nilP_mk, nilS_mk, fldv_agg, jn0_k, jn1_k, jn2_k, jn1_and, jn1_or, ex_some, Option.isNone_some, Option.isNone_none, Bool.false_bne, Bool.bne_true, Bool.bne_false, Bool.true_bne, Bool.not_true, Bool.not_false, Bool.and_true, Bool.true_and, Bool.and_false, Bool.false_and, Bool.or_true, Bool.true_or, Bool.or_false, Bool.false_or, cond_true, cond_false, List.getElem?_toArray, List.getElem?_cons_zero, List.getElem?_cons_succ, Nat.zero_add, Nat.add_zero, Nat.reduceAdd, forall_const, L_api_Snow hs.blk, L_api_Snow__List hs.blk, L_api_Snow__Pref hs.blk, L_api_Snow__Flake hs.blk, L_api_Snow__Conf hs.blk, L_api_Snow__Done hs.blk, L_api_Params hs.p1.blk, L_api_Params__K hs.p1.blk, L_api_Params__AlphaPref hs.p1.blk, L_api_Params__AlphaConf hs.p1.blk, L_api_Params__Beta hs.p1.blk, neS_bool _ _ U_bool, (hr.fr hs.fr0).len, beq_dec]
  rw [cnd_bool]
  refine ⟨fun h => ?_, fun h => ?_⟩
  · refine hbad ?_ _ hs.fr0
    simp at h
    unfold headBad
    by_cases h1 : plc x.l x.flake < 0
    · exact .inr (.inr (.inr (.inl h1)))
    by_cases h2 : x.conf < 0
    · exact .inr (.inr (.inr (.inr (.inl h2))))
    by_cases h3 : p.2.2.2 < x.conf
    · exact .inr (.inr (.inr (.inr (.inr (.inl h3)))))
    · refine .inr (.inr (.inr (.inr (.inr (.inr fun he => ?_)))))
      simp [h1, h2, h3, he] at h
  · simp at h
    have hnb : ¬ headBad p x := by
      unfold headBad
      rintro (h1 | h1 | h1 | h1 | h1 | h1 | h1)
      · omega
      · omega
      · omega
      · omega
      · omega
      · omega
      · exact h1 h.2
    obtain ⟨i0, c0, hpl, hc0, hcid, _⟩ : ∃ i c, plc x.l x.pref = ((i : Nat) : Int) ∧ x.l[i]? = some c ∧ c.1 = x.pref ∧ ∀ (j : Nat) (d : Cho), j < i → x.l[j]? = some d → d.1 ≠ x.pref := by
      rcases plc_cases x.l x.pref with ⟨h1, _⟩ | h1
      · omega
      · exact h1
    have hbest : best x = c0.2 := by rw [best, hpl, Int.toNat_natCast, hc0]; rfl
    refine drH_S hs fun w6 hs6 _ => ?_
    refine rdS_i (v := v) (fun u hu => Sep.blk hu) rfl ?_
    refine ⟨snv v x, fun u hu => ?_, ?_⟩
    · show ldN 67 _ u.heap _
      rw [L_api_Snow (Sep.blk hu)]
    refine ⟨idv x.pref, fun u hu => ?_, ?_⟩
    · show ldN 32 _ u.heap _
      rw [L_api_Snow__Pref (Sep.blk hu)]
    refine efS_i (cal_i (rPlace_spec (hr.fr hs6.fr0) hl) ?_)
    rintro _ w7 ⟨rfl, hf7⟩
    have hs7 := hs6.old hf7
    refine ⟨hs7, ?_⟩
    rw [hpl]
    refine rdS_row (q := Q_api_Choice) (.snd .self) rfl (by decide) hs7 (fun u hu => hr.fr (Sep.fr0 hu)) hc0 .i64 ?_
    refine ⟨fun y w' => ∃ i : Nat, i ≤ x.l.length ∧ y = .int .i64 i ∧ (∀ (j : Nat) (d : Cho), j < i → x.l[j]? = some d → goodAt x d j = true) ∧ Sep w w' [blk g2 (Rdr.cells Q_api_Snow (snr v x)).toArray T_api_Snow], fun y _ => (x.l.length - RowKit.intOf y).toNat,
      ⟨0, by omega, rfl, by simp, hs7.d1⟩, ?_⟩
    rintro _ w8 ⟨i, hi, rfl, hgood, hs8⟩ -
    simp only [nilc_some, fad_mk, pik_true, pik_false, cnd_true, cnd_false, gif_same, gif_tf, gif_ft, gif_undef, bi_add, bi_sub, bi_mul, bi_eql, bi_neq, bi_lss, bi_leq, bi_gtr, bi_geq, notB_bool, cvi_int, lenS_mk, lenT_mk, ext0, ext1, ext2, nilP_mk, nilS_mk, fldv_agg, jn0_k, jn1_k, jn2_k, jn1_and, jn1_or, ex_some, Option.isNone_some, Option.isNone_none, Bool.false_bne, Bool.bne_true, Bool.bne_false, Bool.true_bne, Bool.not_true, Bool.not_false, Bool.and_true, Bool.true_and, Bool.and_false, Bool.false_and, Bool.or_true, Bool.true_or, Bool.or_false, Bool.false_or, cond_true, cond_false, List.getElem?_toArray, List.getElem?_cons_zero, List.getElem?_cons_succ, Nat.zero_add, Nat.add_zero, Nat.reduceAdd, forall_const, L_api_Snow hs8.blk, L_api_Snow__List hs8.blk, L_api_Snow__Pref hs8.blk, L_api_Snow__Flake hs8.blk, L_api_Snow__Conf hs8.blk, L_api_Snow__Done hs8.blk, (hr.fr hs8.fr0).len]
    rw [cnd_bool]
    refine ⟨fun h => ?_, fun h => ?_⟩
    · have hlt : i < x.l.length := by simpa using h
      obtain ⟨c, hc⟩ : ∃ c, x.l[i]? = some c := ⟨_, List.getElem?_eq_getElem hlt⟩
      refine (hr.fr hs8.fr0).ldN (by decide) hc _ ?_
      refine alloc_s hs8 (A_api_Choice w8) fun g9 w9 hs9 => ?_
      refine St_api_Choice hs9 one_api_Choice fun w10 hs10 => ?_
      simp only [nilc_some, fad_mk, pik_true, pik_false, cnd_true, cnd_false, gif_same, gif_tf, gif_ft, gif_undef, bi_add, bi_sub, bi_mul, bi_eql, bi_neq, bi_lss, bi_leq, bi_gtr, bi_geq, notB_bool, cvi_int, lenS_mk, lenT_mk, ext0, ext1, ext2, nilP_mk, nilS_mk, fldv_agg, jn0_k, jn1_k, jn2_k, jn1_and, jn1_or, ex_some, Option.isNone_some, Option.isNone_none, Bool.false_bne, Bool.bne_true, Bool.bne_false, Bool.true_bne, Bool.not_true, Bool.not_false, Bool.and_true, Bool.true_and, Bool.and_false, Bool.false_and, Bool.or_true, Bool.true_or, Bool.or_false, Bool.false_or, cond_true, cond_false, List.getElem?_toArray, List.getElem?_cons_zero, List.getElem?_cons_succ, Nat.zero_add, Nat.add_zero, Nat.reduceAdd, forall_const, L_api_Snow hs10.p1.blk, L_api_Snow__List hs10.p1.blk, L_api_Snow__Pref hs10.p1.blk, L_api_Snow__Flake hs10.p1.blk, L_api_Snow__Conf hs10.p1.blk, L_api_Snow__Done hs10.p1.blk, L_api_Choice hs10.blk, L_api_Choice__ID hs10.blk, L_api_Choice__Strength hs10.blk]
      refine (cal_i (rPlace_spec (hr.fr hs10.fr0) hl) ?_)
      rintro _ w11 ⟨rfl, hf11⟩
      have hs11 := hs10.old hf11
      simp only [nilc_some, fad_mk, pik_true, pik_false, cnd_true, cnd_false, gif_same, gif_tf, gif_ft, gif_undef, bi_add, bi_sub, bi_mul, bi_eql, bi_neq, bi_lss, bi_leq, bi_gtr, bi_geq, notB_bool, cvi_int, lenS_mk, lenT_mk, ext0, ext1, ext2, nilP_mk, nilS_mk, fldv_agg, jn0_k, jn1_k, jn2_k, jn1_and, jn1_or, ex_some, Option.isNone_some, Option.isNone_none, Bool.false_bne, Bool.bne_true, Bool.bne_false, Bool.true_bne, Bool.not_true, Bool.not_false, Bool.and_true, Bool.true_and, Bool.and_false, Bool.false_and, Bool.or_true, Bool.true_or, Bool.or_false, Bool.false_or, cond_true, cond_false, List.getElem?_toArray, List.getElem?_cons_zero, List.getElem?_cons_succ, Nat.zero_add, Nat.add_zero, Nat.reduceAdd, forall_const, L_api_Choice hs11.blk, L_api_Choice__ID hs11.blk, L_api_Choice__Strength hs11.blk, bne_dec]
      have hgd : goodAt x c i = (decide (plc x.l c.1 = (i : Int)) && (!decide (c.2 < 0) && (!decide (1073741824 < c.2) && !decide (c0.2 < c.2)))) := by rw [goodAt, hbest]
      rw [bad_or, ← hgd, cnd_bool]
      refine ⟨fun h => ?_, fun h => ?_⟩
      · exact hR _ _ ⟨by rw [snE_bad hpar hc (by simpa using h)], hs11.fr0⟩
      · have hgt : goodAt x c i = true := by simpa using h
        rw [wi64 (by omega) (by omega)]
        refine ⟨⟨i + 1, by omega, by simp, fun j d hj hd => ?_, hs11.tail⟩, by simp [RowKit.intOf]; omega⟩
        by_cases hji : j = i
        · subst hji; rw [hc] at hd; cases hd; exact hgt
        · exact hgood j d (by omega) hd
    · have hge : i = x.l.length := by simp at h; omega
      exact hR _ _ ⟨by rw [snE_ok hpar hnb fun j d hd => hgood j d (by have := (List.getElem?_eq_some_iff.1 hd).1; omega) hd], hs8.fr0⟩
end
end Go.Fx
