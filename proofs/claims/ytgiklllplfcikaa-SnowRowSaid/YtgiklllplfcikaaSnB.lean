/-
  Which instances may be, in both; which are the same.
-/
import Derived.Test.YtgiklllplfcikaaSnA
set_option linter.unusedVariables false
set_option linter.unusedSimpArgs false
namespace Go.Fx
theorem beq_dec (a b : Int) : (a == b) = decide (a = b) := by by_cases h : a = b <;> simp [h]
theorem bne_dec (a b : Int) : (a != b) = !decide (a = b) := by by_cases h : a = b <;> simp [h]
theorem bad_or (b1 b2 b3 b4 : Bool) : (((!b1 || b2) || b3) || b4) = !(b1 && (!b2 && (!b3 && !b4))) := by cases b1 <;> cases b2 <;> cases b3 <;> cases b4 <;> rfl
def best (x : Sn) : Int := ((x.l[(plc x.l x.pref).toNat]?).map (·.2)).getD 0
def goodAt (x : Sn) (c : Cho) (i : Nat) : Bool := decide (plc x.l c.1 = (i : Int)) && (!decide (c.2 < 0) && (!decide (1073741824 < c.2) && !decide (best x < c.2)))
def headBad (p : Par) (x : Sn) : Prop := x.l.length < 1 ∨ 32 < x.l.length ∨ plc x.l x.pref < 0 ∨ plc x.l x.flake < 0 ∨ x.conf < 0 ∨ p.2.2.2 < x.conf ∨ x.dn ≠ decide (x.conf = p.2.2.2)
open Classical in
noncomputable def snE (p : Par) (x : Sn) : Int := if parE p ≠ 0 then parE p else if headBad p x then 171 else if ∀ i c, x.l[i]? = some c → goodAt x c i = true then 0 else 171
theorem snE_par {p : Par} {x : Sn} (h : parE p ≠ 0) : snE p x = parE p := by rw [snE, if_pos h]
theorem snE_head {p : Par} {x : Sn} (h : parE p = 0) (hb : headBad p x) : snE p x = 171 := by rw [snE, if_neg (by simpa using h), if_pos hb]
theorem snE_bad {p : Par} {x : Sn} (h : parE p = 0) {i : Nat} {c : Cho} (hc : x.l[i]? = some c) (hg : goodAt x c i = false) : snE p x = 171 := by
  rw [snE, if_neg (by simpa using h)]
  split
  · rfl
  · rw [if_neg]
    intro hall
    rw [hall i c hc] at hg
    cases hg
theorem snE_ok {p : Par} {x : Sn} (h : parE p = 0) (hb : ¬ headBad p x) (hg : ∀ i c, x.l[i]? = some c → goodAt x c i = true) : snE p x = 0 := by rw [snE, if_neg (by simpa using h), if_neg hb, if_pos hg]
section
variable {w : World} {v : Value} {x : Sn} {p : Par}
theorem Check_spec (hr : Rows' Q_api_Choice w.heap v x.l) (hl : x.l.length ≤ 9223372036854775807) : cal P f_snow_Check [pav p, snv v x] w fun r w' => r = .int .i64 (snE p x) ∧ Fr [] w w' := by
  refine s_snow_Check fun R hR => ?_
  unfold c_snow_Check
  refine bx_s (Sep.start w) fun g w1 hs => ?_
  refine bx_s hs fun g2 w2 hs => ?_
  simp only [Value.cells] at hs
  simp only [nilc_some, fad_mk, pik_true, pik_false, cnd_true, cnd_false, gif_same, gif_tf, gif_ft, gif_undef, bi_add, bi_sub, bi_mul, bi_eql, bi_neq, bi_lss, bi_leq, bi_gtr, bi_geq, notB_bool, cvi_int, lenS_mk, lenT_mk, ext0, ext1, ext2, nilP_mk, nilS_mk, fldv_agg, jn0_k, jn1_k, jn2_k, jn1_and, jn1_or, ex_some, Option.isNone_some, Option.isNone_none, Bool.false_bne, Bool.bne_true, Bool.bne_false, Bool.true_bne, Bool.not_true, Bool.not_false, Bool.and_true, Bool.true_and, Bool.and_false, Bool.false_and, Bool.or_true, Bool.true_or, Bool.or_false, Bool.false_or, cond_true, cond_false, List.getElem?_toArray, List.getElem?_cons_zero, List.getElem?_cons_succ, Nat.zero_add, Nat.add_zero, Nat.reduceAdd, forall_const, L_api_Params hs.p1.blk, L_api_Params__K hs.p1.blk, L_api_Params__AlphaPref hs.p1.blk, L_api_Params__AlphaConf hs.p1.blk, L_api_Params__Beta hs.p1.blk]
  refine cal_i Params_spec ?_
  rintro _ w3 ⟨rfl, hf3⟩
  replace hs := hs.old hf3
  simp only [nilc_some, fad_mk, pik_true, pik_false, cnd_true, cnd_false, gif_same, gif_tf, gif_ft, gif_undef, bi_add, bi_sub, bi_mul, bi_eql, bi_neq, bi_lss, bi_leq, bi_gtr, bi_geq, notB_bool, cvi_int, lenS_mk, lenT_mk, ext0, ext1, ext2, nilP_mk, nilS_mk, fldv_agg, jn0_k, jn1_k, jn2_k, jn1_and, jn1_or, ex_some, Option.isNone_some, Option.isNone_none, Bool.false_bne, Bool.bne_true, Bool.bne_false, Bool.true_bne, Bool.not_true, Bool.not_false, Bool.and_true, Bool.true_and, Bool.and_false, Bool.false_and, Bool.or_true, Bool.true_or, Bool.or_false, Bool.false_or, cond_true, cond_false, List.getElem?_toArray, List.getElem?_cons_zero, List.getElem?_cons_succ, Nat.zero_add, Nat.add_zero, Nat.reduceAdd, forall_const]
  rw [cnd_bool]
  refine ⟨fun h => ?_, fun h => ?_⟩
  · exact hR _ _ ⟨by rw [snE_par (by simpa using h)], hs.fr0⟩
  have hpar : parE p = 0 := by simpa using h
  simp only [L_api_Snow hs.blk, L_api_Snow__List hs.blk, L_api_Snow__Pref hs.blk, L_api_Snow__Flake hs.blk, L_api_Snow__Conf hs.blk, L_api_Snow__Done hs.blk]
  refine cal_i (place_spec (hr.fr hs.fr0) hl) ?_
  rintro _ w4 ⟨rfl, hf4⟩
  replace hs := hs.old hf4
  simp only [nilc_some, fad_mk, pik_true, pik_false, cnd_true, cnd_false, gif_same, gif_tf, gif_ft, gif_undef, bi_add, bi_sub, bi_mul, bi_eql, bi_neq, bi_lss, bi_leq, bi_gtr, bi_geq, notB_bool, cvi_int, lenS_mk, lenT_mk, ext0, ext1, ext2, nilP_mk, nilS_mk, fldv_agg, jn0_k, jn1_k, jn2_k, jn1_and, jn1_or, ex_some, Option.isNone_some, Option.isNone_none, Bool.false_bne, Bool.bne_true, Bool.bne_false, Bool.true_bne, Bool.not_true, Bool.not_false, Bool.and_true, Bool.true_and, Bool.and_false, Bool.false_and, Bool.or_true, Bool.true_or, Bool.or_false, Bool.false_or, cond_true, cond_false, List.getElem?_toArray, List.getElem?_cons_zero, List.getElem?_cons_succ, Nat.zero_add, Nat.add_zero, Nat.reduceAdd, forall_const, L_api_Snow hs.blk, L_api_Snow__List hs.blk, L_api_Snow__Pref hs.blk, L_api_Snow__Flake hs.blk, L_api_Snow__Conf hs.blk, L_api_Snow__Done hs.blk, (hr.fr hs.fr0).len]
  have hbad : headBad p x → ∀ w', Fr [] w w' → R (.int .i64 171) w' := fun h w' hf => hR _ _ ⟨by rw [snE_head hpar h], hf⟩
  cases hA : ((decide ((x.l.length : Int) < 1) || decide (32 < (x.l.length : Int))) || decide (plc x.l x.pref < 0)) with
  | true =>
    simp only [nilc_some, fad_mk, pik_true, pik_false, cnd_true, cnd_false, gif_same, gif_tf, gif_ft, gif_undef, bi_add, bi_sub, bi_mul, bi_eql, bi_neq, bi_lss, bi_leq, bi_gtr, bi_geq, notB_bool, cvi_int, lenS_mk, lenT_mk, ext0, ext1, ext2, nilP_mk, nilS_mk, fldv_agg, jn0_k, jn1_k, jn2_k, jn1_and, jn1_or, ex_some, Option.isNone_some, Option.isNone_none, Bool.false_bne, Bool.bne_true, Bool.bne_false, Bool.true_bne, Bool.not_true, Bool.not_false, Bool.and_true, Bool.true_and, Bool.and_false, Bool.false_and, Bool.or_true, Bool.true_or, Bool.or_false, Bool.false_or, cond_true, cond_false, List.getElem?_toArray, List.getElem?_cons_zero, List.getElem?_cons_succ, Nat.zero_add, Nat.add_zero, Nat.reduceAdd, forall_const]
    refine hbad ?_ _ hs.fr0
    simp at hA
    unfold headBad
    omega
  | false =>
    simp only [nilc_some, fad_mk, pik_true, pik_false, cnd_true, cnd_false, gif_same, gif_tf, gif_ft, gif_undef, bi_add, bi_sub, bi_mul, bi_eql, bi_neq, bi_lss, bi_leq, bi_gtr, bi_geq, notB_bool, cvi_int, lenS_mk, lenT_mk, ext0, ext1, ext2, nilP_mk, nilS_mk, fldv_agg, jn0_k, jn1_k, jn2_k, jn1_and, jn1_or, ex_some, Option.isNone_some, Option.isNone_none, Bool.false_bne, Bool.bne_true, Bool.bne_false, Bool.true_bne, Bool.not_true, Bool.not_false, Bool.and_true, Bool.true_and, Bool.and_false, Bool.false_and, Bool.or_true, Bool.true_or, Bool.or_false, Bool.false_or, cond_true, cond_false, List.getElem?_toArray, List.getElem?_cons_zero, List.getElem?_cons_succ, Nat.zero_add, Nat.add_zero, Nat.reduceAdd, forall_const]
    refine jn1_dup (cal_i (place_spec (hr.fr hs.fr0) hl) ?_)
    rintro _ w5 ⟨rfl, hf5⟩
    replace hs := hs.old hf5
    simp only [nilc_some, fad_mk, pik_true, pik_false, cnd_true, cnd_false, gif_same, gif_tf, gif_ft, gif_undef, bi_add, bi_sub, bi_mul, bi_eql, bi_neq, bi_lss, bi_leq, bi_gtr, bi_geq, notB_bool, cvi_int, lenS_mk, lenT_mk, ext0, ext1, ext2, nilP_mk, nilS_mk, fldv_agg, jn0_k, jn1_k, jn2_k, jn1_and, jn1_or, ex_some, Option.isNone_some, Option.isNone_none, Bool.false_bne, Bool.bne_true, Bool.bne_false, Bool.true_bne, Bool.not_true, Bool.not_false, Bool.and_true, Bool.true_and, Bool.and_false, Bool.false_and, Bool.or_true, Bool.true_or, Bool.or_false, Bool.false_or, cond_true, cond_false, List.getElem?_toArray, List.getElem?_cons_zero, List.getElem?_cons_succ, Nat.zero_add, Nat.add_zero, Nat.reduceAdd, forall_const, L_api_Snow hs.blk, L_api_Snow__List hs.blk, L_api_Snow__Pref hs.blk, L_api_Snow__Flake hs.blk, L_api_Snow__Conf hs.blk, L_api_Snow__Done hs.blk, L_api_Params hs.p1.blk, L_api_Params__K hs.p1.blk, L_api_Params__AlphaPref hs.p1.blk, L_api_Params__AlphaConf hs.p1.blk, L_api_Params__Beta hs.p1.blk, neS_bool _ _ U_bool, (hr.fr hs.fr0).len, beq_dec]
    simp at hA
    rw [cnd_bool]
    refine ⟨fun h => ?_, fun h => ?_⟩
    · refine hbad ?_ _ hs.fr0
      simp at h
      unfold headBad
      by_cases h1 : plc x.l x.flake < 0
      · exact .inr (.inr (.inr (.inl h1)))
      by_cases h2 : x.conf < 0
      · exact .inr (.inr (.inr (.inr (.inl h2))))
      by_cases h3 : p.2.2.2 < x.conf
      · exact .inr (.inr (.inr (.inr (.inr (.inl h3)))))
      · refine .inr (.inr (.inr (.inr (.inr (.inr fun he => ?_)))))
        simp [h1, h2, h3, he] at h
    · simp at h
      have hnb : ¬ headBad p x := by
        unfold headBad
        rintro (h1 | h1 | h1 | h1 | h1 | h1 | h1)
        · omega
        · omega
        · omega
        · omega
        · omega
        · omega
        · exact h1 h.2
      obtain ⟨i0, c0, hpl, hc0, hcid, _⟩ : ∃ i c, plc x.l x.pref = ((i : Nat) : Int) ∧ x.l[i]? = some c ∧ c.1 = x.pref ∧ ∀ (j : Nat) (d : Cho), j < i → x.l[j]? = some d → d.1 ≠ x.pref := by
        rcases plc_cases x.l x.pref with ⟨h1, _⟩ | h1
        · omega
        · exact h1
      have hbest : best x = c0.2 := by rw [best, hpl, Int.toNat_natCast, hc0]; rfl
      refine ⟨fun y w' => ∃ i : Nat, i ≤ x.l.length ∧ y = .int .i64 i ∧ (∀ (j : Nat) (d : Cho), j < i → x.l[j]? = some d → goodAt x d j = true) ∧ Sep w w' [blk g2 (Rdr.cells Q_api_Snow (snr v x)).toArray T_api_Snow], fun y _ => (x.l.length - RowKit.intOf y).toNat,
        ⟨0, by omega, rfl, by simp, hs.d1⟩, ?_⟩
      rintro _ w6 ⟨i, hi, rfl, hgood, hs6⟩ -
      simp only [nilc_some, fad_mk, pik_true, pik_false, cnd_true, cnd_false, gif_same, gif_tf, gif_ft, gif_undef, bi_add, bi_sub, bi_mul, bi_eql, bi_neq, bi_lss, bi_leq, bi_gtr, bi_geq, notB_bool, cvi_int, lenS_mk, lenT_mk, ext0, ext1, ext2, nilP_mk, nilS_mk, fldv_agg, jn0_k, jn1_k, jn2_k, jn1_and, jn1_or, ex_some, Option.isNone_some, Option.isNone_none, Bool.false_bne, Bool.bne_true, Bool.bne_false, Bool.true_bne, Bool.not_true, Bool.not_false, Bool.and_true, Bool.true_and, Bool.and_false, Bool.false_and, Bool.or_true, Bool.true_or, Bool.or_false, Bool.false_or, cond_true, cond_false, List.getElem?_toArray, List.getElem?_cons_zero, List.getElem?_cons_succ, Nat.zero_add, Nat.add_zero, Nat.reduceAdd, forall_const]
      rw [cnd_bool]
      refine ⟨fun h => ?_, fun h => ?_⟩
      · have hlt : i < x.l.length := by simpa using h
        obtain ⟨c, hc⟩ : ∃ c, x.l[i]? = some c := ⟨_, List.getElem?_eq_getElem hlt⟩
        refine (hr.fr hs6.fr0).ldN (by decide) hc _ ?_
        refine alloc_s hs6 (A_api_Choice w6) fun g7 w7 hs7 => ?_
        refine St_api_Choice hs7 one_api_Choice fun w8 hs8 => ?_
        refine drH_s hs8 fun w9 hs9 _ => ?_
        simp only [nilc_some, fad_mk, pik_true, pik_false, cnd_true, cnd_false, gif_same, gif_tf, gif_ft, gif_undef, bi_add, bi_sub, bi_mul, bi_eql, bi_neq, bi_lss, bi_leq, bi_gtr, bi_geq, notB_bool, cvi_int, lenS_mk, lenT_mk, ext0, ext1, ext2, nilP_mk, nilS_mk, fldv_agg, jn0_k, jn1_k, jn2_k, jn1_and, jn1_or, ex_some, Option.isNone_some, Option.isNone_none, Bool.false_bne, Bool.bne_true, Bool.bne_false, Bool.true_bne, Bool.not_true, Bool.not_false, Bool.and_true, Bool.true_and, Bool.and_false, Bool.false_and, Bool.or_true, Bool.true_or, Bool.or_false, Bool.false_or, cond_true, cond_false, List.getElem?_toArray, List.getElem?_cons_zero, List.getElem?_cons_succ, Nat.zero_add, Nat.add_zero, Nat.reduceAdd, forall_const, rdS_ld1, rdS_ldN, L_api_Snow hs9.p1.blk, L_api_Snow__List hs9.p1.blk, L_api_Snow__Pref hs9.p1.blk, L_api_Snow__Flake hs9.p1.blk, L_api_Snow__Conf hs9.p1.blk, L_api_Snow__Done hs9.p1.blk, L_api_Choice hs9.blk, L_api_Choice__ID hs9.blk, L_api_Choice__Strength hs9.blk]
        refine efC_cal (cal_i (place_spec (hr.fr hs9.fr0) hl) ?_)
        rintro _ w10 ⟨rfl, hf10⟩
        have hs10 := hs9.old hf10
        obtain ⟨g5, o5, hat, hix⟩ := (hr.fr hs10.fr0).ix (by decide) hc0
        have hix' : ∀ K, ixs 33 v (.int .i64 (i0 : Int)) K = K (.pointer (some ⟨g5, o5, none⟩)) := hix .i64
        simp only [nilc_some, fad_mk, pik_true, pik_false, cnd_true, cnd_false, gif_same, gif_tf, gif_ft, gif_undef, bi_add, bi_sub, bi_mul, bi_eql, bi_neq, bi_lss, bi_leq, bi_gtr, bi_geq, notB_bool, cvi_int, lenS_mk, lenT_mk, ext0, ext1, ext2, nilP_mk, nilS_mk, fldv_agg, jn0_k, jn1_k, jn2_k, jn1_and, jn1_or, ex_some, Option.isNone_some, Option.isNone_none, Bool.false_bne, Bool.bne_true, Bool.bne_false, Bool.true_bne, Bool.not_true, Bool.not_false, Bool.and_true, Bool.true_and, Bool.and_false, Bool.false_and, Bool.or_true, Bool.true_or, Bool.or_false, Bool.false_or, cond_true, cond_false, List.getElem?_toArray, List.getElem?_cons_zero, List.getElem?_cons_succ, Nat.zero_add, Nat.add_zero, Nat.reduceAdd, forall_const, rdS_ld1, rdS_ldN, L_api_Snow hs10.p1.blk, L_api_Snow__List hs10.p1.blk, L_api_Snow__Pref hs10.p1.blk, L_api_Snow__Flake hs10.p1.blk, L_api_Snow__Conf hs10.p1.blk, L_api_Snow__Done hs10.p1.blk, L_api_Choice hs10.blk, L_api_Choice__ID hs10.blk, L_api_Choice__Strength hs10.blk, hpl, hix', LA_api_Choice__Strength hat, bne_dec]
        have hgd : goodAt x c i = (decide (plc x.l c.1 = (i : Int)) && (!decide (c.2 < 0) && (!decide (1073741824 < c.2) && !decide (c0.2 < c.2)))) := by rw [goodAt, hbest]
        rw [bad_or, ← hgd, cnd_bool]
        refine ⟨fun h => ?_, fun h => ?_⟩
        · exact hR _ _ ⟨by rw [snE_bad hpar hc (by simpa using h)], hs10.fr0⟩
        · have hgt : goodAt x c i = true := by simpa using h
          rw [wi64 (by omega) (by omega)]
          refine ⟨⟨i + 1, by omega, by simp, fun j d hj hd => ?_, hs10.tail⟩, by simp [RowKit.intOf]; omega⟩
          by_cases hji : j = i
          · subst hji; rw [hc] at hd; cases hd; exact hgt
          · exact hgood j d (by omega) hd
      · have hge : i = x.l.length := by simp at h; omega
        exact hR _ _ ⟨by rw [snE_ok hpar hnb fun j d hd => hgood j d (by have := (List.getElem?_eq_some_iff.1 hd).1; omega) hd], hs6.fr0⟩
end
end Go.Fx
