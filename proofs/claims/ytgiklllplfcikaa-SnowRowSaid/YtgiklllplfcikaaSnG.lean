/-
  A poll by definition.
-/
import Derived.Test.YtgiklllplfcikaaSnF
set_option linter.unusedVariables false
set_option linter.unusedSimpArgs false
namespace Go.Fx
section
variable {w : World} {v u : Value} {x y : Sn} {p : Par} {id : Id} {n : Int}
theorem rPoll_spec (hp : PaOk p) (hr : Rows' Q_api_Choice w.heap v x.l) (hl : x.l.length ≤ 1000000) (h1 : v.oneCell' = true) : cal P f_ref17_Poll [pav p, snv v x, idv id, .int .i64 n] w fun r w' => SnQ (pollM p x id n) w r w' := by
  refine s_ref17_Poll fun R hR => ?_
  unfold c_ref17_Poll
  refine bx_s (Sep.start w) fun g1 w1 hs => ?_
  refine bx_s hs fun g2 w2 hs => ?_
  refine bx_s hs fun g3 w3 hs => ?_
  simp only [Value.cells] at hs
  refine alloc_s hs (A_api_Snow w3) fun g4 w4 hs => ?_
  simp only [nilc_some, fad_mk, pik_true, pik_false, cnd_true, cnd_false, gif_same, gif_tf, gif_ft, gif_undef, bi_add, bi_sub, bi_mul, bi_eql, bi_neq, bi_lss, bi_leq, bi_gtr, bi_geq, notB_bool, cvi_int, lenS_mk, lenT_mk, ext0, ext1, ext2, nilP_mk, nilS_mk, fldv_agg, jn0_k, jn1_k, jn2_k, jn1_and, jn1_or, ex_some, Option.isNone_some, Option.isNone_none, Bool.false_bne, Bool.bne_true, Bool.bne_false, Bool.true_bne, Bool.not_true, Bool.not_false, Bool.and_true, Bool.true_and, Bool.and_false, Bool.false_and, Bool.or_true, Bool.true_or, Bool.or_false, Bool.false_or, cond_true, cond_false, List.getElem?_toArray, List.getElem?_cons_zero, List.getElem?_cons_succ, Nat.zero_add, Nat.add_zero, Nat.reduceAdd, forall_const, L_api_Params hs.p3.blk, L_api_Params__K hs.p3.blk, L_api_Params__AlphaPref hs.p3.blk, L_api_Params__AlphaConf hs.p3.blk, L_api_Params__Beta hs.p3.blk, L_api_Snow hs.p2.blk, L_api_Snow__List hs.p2.blk, L_api_Snow__Pref hs.p2.blk, L_api_Snow__Flake hs.p2.blk, L_api_Snow__Conf hs.p2.blk, L_api_Snow__Done hs.p2.blk]
  refine cal_i (rCheck_spec hp (hr.fr hs.fr0) (by omega)) ?_
  rintro _ w5 ⟨rfl, hf5⟩
  replace hs := hs.old hf5
  have hzero : ∀ {w' : World} {e : Int}, (pollM p x id n) = (snZ, e) → Sep w w' [blk g4 (Rdr.cells Q_api_Snow (.slice none 0 0, vz 32, vz 32, 0, false)).toArray T_api_Snow] → R (.tuple #[snv (.slice none 0 0) snZ, .int .i64 e]) w' := fun he hs' =>
    hR _ _ ⟨.slice none 0 0, by rw [he], by rw [he]; exact (Sep.nilR hs').d1⟩
  simp only [nilc_some, fad_mk, pik_true, pik_false, cnd_true, cnd_false, gif_same, gif_tf, gif_ft, gif_undef, bi_add, bi_sub, bi_mul, bi_eql, bi_neq, bi_lss, bi_leq, bi_gtr, bi_geq, notB_bool, cvi_int, lenS_mk, lenT_mk, ext0, ext1, ext2, nilP_mk, nilS_mk, fldv_agg, jn0_k, jn1_k, jn2_k, jn1_and, jn1_or, ex_some, Option.isNone_some, Option.isNone_none, Bool.false_bne, Bool.bne_true, Bool.bne_false, Bool.true_bne, Bool.not_true, Bool.not_false, Bool.and_true, Bool.true_and, Bool.and_false, Bool.false_and, Bool.or_true, Bool.true_or, Bool.or_false, Bool.false_or, cond_true, cond_false, List.getElem?_toArray, List.getElem?_cons_zero, List.getElem?_cons_succ, Nat.zero_add, Nat.add_zero, Nat.reduceAdd, forall_const]
  rw [cnd_bool]
  refine ⟨fun h => ?_, fun h => ?_⟩
  · have h : snE p x ≠ 0 := by simpa using h
    rw [B_api_Snow]
    refine St_api_Snow hs (one_api_Snow rfl) fun w5 hs => ?_
    simp only [L_api_Snow hs.blk, L_api_Snow__List hs.blk, L_api_Snow__Pref hs.blk, L_api_Snow__Flake hs.blk, L_api_Snow__Conf hs.blk, L_api_Snow__Done hs.blk]
    exact hzero (by rw [pollM, if_pos h]) hs.d1.d1.d1
  have hE : snE p x = 0 := by simpa using h
  have hE' : ¬ snE p x ≠ 0 := by simpa using h
  simp only [nilc_some, fad_mk, pik_true, pik_false, cnd_true, cnd_false, gif_same, gif_tf, gif_ft, gif_undef, bi_add, bi_sub, bi_mul, bi_eql, bi_neq, bi_lss, bi_leq, bi_gtr, bi_geq, notB_bool, cvi_int, lenS_mk, lenT_mk, ext0, ext1, ext2, nilP_mk, nilS_mk, fldv_agg, jn0_k, jn1_k, jn2_k, jn1_and, jn1_or, ex_some, Option.isNone_some, Option.isNone_none, Bool.false_bne, Bool.bne_true, Bool.bne_false, Bool.true_bne, Bool.not_true, Bool.not_false, Bool.and_true, Bool.true_and, Bool.and_false, Bool.false_and, Bool.or_true, Bool.true_or, Bool.or_false, Bool.false_or, cond_true, cond_false, List.getElem?_toArray, List.getElem?_cons_zero, List.getElem?_cons_succ, Nat.zero_add, Nat.add_zero, Nat.reduceAdd, forall_const, L_api_Params hs.p3.blk, L_api_Params__K hs.p3.blk, L_api_Params__AlphaPref hs.p3.blk, L_api_Params__AlphaConf hs.p3.blk, L_api_Params__Beta hs.p3.blk]
  rw [cnd_bool]
  refine ⟨fun h => ?_, fun h => ?_⟩
  · have h : n < 0 ∨ p.1 < n := by simpa using h
    rw [B_api_Snow]
    refine St_api_Snow hs (one_api_Snow rfl) fun w5 hs => ?_
    simp only [L_api_Snow hs.blk, L_api_Snow__List hs.blk, L_api_Snow__Pref hs.blk, L_api_Snow__Flake hs.blk, L_api_Snow__Conf hs.blk, L_api_Snow__Done hs.blk]
    exact hzero (by rw [pollM, if_neg hE', if_pos h]) hs.d1.d1.d1
  have hn : ¬ (n < 0 ∨ p.1 < n) := by simpa using h
  simp only [L_api_Snow hs.p2.blk, L_api_Snow__List hs.p2.blk, L_api_Snow__Pref hs.p2.blk, L_api_Snow__Flake hs.p2.blk, L_api_Snow__Conf hs.p2.blk, L_api_Snow__Done hs.p2.blk, L_api_ID hs.p1.blk]
  refine cal_i (rPlace_spec (hr.fr hs.fr0) (by omega)) ?_
  rintro _ w6 ⟨rfl, hf6⟩
  replace hs := hs.old hf6
  simp only [nilc_some, fad_mk, pik_true, pik_false, cnd_true, cnd_false, gif_same, gif_tf, gif_ft, gif_undef, bi_add, bi_sub, bi_mul, bi_eql, bi_neq, bi_lss, bi_leq, bi_gtr, bi_geq, notB_bool, cvi_int, lenS_mk, lenT_mk, ext0, ext1, ext2, nilP_mk, nilS_mk, fldv_agg, jn0_k, jn1_k, jn2_k, jn1_and, jn1_or, ex_some, Option.isNone_some, Option.isNone_none, Bool.false_bne, Bool.bne_true, Bool.bne_false, Bool.true_bne, Bool.not_true, Bool.not_false, Bool.and_true, Bool.true_and, Bool.and_false, Bool.false_and, Bool.or_true, Bool.true_or, Bool.or_false, Bool.false_or, cond_true, cond_false, List.getElem?_toArray, List.getElem?_cons_zero, List.getElem?_cons_succ, Nat.zero_add, Nat.add_zero, Nat.reduceAdd, forall_const]
  rw [cnd_bool]
  refine ⟨fun h => ?_, fun h => ?_⟩
  · have h : plc x.l id < 0 := by simpa using h
    rw [B_api_Snow]
    refine St_api_Snow hs (one_api_Snow rfl) fun w5 hs => ?_
    simp only [L_api_Snow hs.blk, L_api_Snow__List hs.blk, L_api_Snow__Pref hs.blk, L_api_Snow__Flake hs.blk, L_api_Snow__Conf hs.blk, L_api_Snow__Done hs.blk]
    exact hzero (by rw [pollM, if_neg hE', if_neg hn, if_pos h]) hs.d1.d1.d1
  have hpl : ¬ plc x.l id < 0 := by simpa using h
  obtain ⟨k, c, hk, hc, hcid, _⟩ : ∃ i c, plc x.l id = ((i : Nat) : Int) ∧ x.l[i]? = some c ∧ c.1 = id ∧ ∀ (j : Nat) (d : Cho), j < i → x.l[j]? = some d → d.1 ≠ id := by
    rcases plc_cases x.l id with ⟨h1, _⟩ | h1
    · omega
    · exact h1
  have hklt := (List.getElem?_eq_some_iff.1 hc).1
  obtain ⟨hpar, hhead, hgood⟩ := snE_zero hE
  obtain ⟨q1, q2, q3, q4, q5, q6, q7⟩ := parE_zero hpar
  have hcg := hgood k c hc
  simp [goodAt] at hcg
  simp only [nilc_some, fad_mk, pik_true, pik_false, cnd_true, cnd_false, gif_same, gif_tf, gif_ft, gif_undef, bi_add, bi_sub, bi_mul, bi_eql, bi_neq, bi_lss, bi_leq, bi_gtr, bi_geq, notB_bool, cvi_int, lenS_mk, lenT_mk, ext0, ext1, ext2, nilP_mk, nilS_mk, fldv_agg, jn0_k, jn1_k, jn2_k, jn1_and, jn1_or, ex_some, Option.isNone_some, Option.isNone_none, Bool.false_bne, Bool.bne_true, Bool.bne_false, Bool.true_bne, Bool.not_true, Bool.not_false, Bool.and_true, Bool.true_and, Bool.and_false, Bool.false_and, Bool.or_true, Bool.true_or, Bool.or_false, Bool.false_or, cond_true, cond_false, List.getElem?_toArray, List.getElem?_cons_zero, List.getElem?_cons_succ, Nat.zero_add, Nat.add_zero, Nat.reduceAdd, forall_const, L_api_Snow hs.p2.blk, L_api_Snow__List hs.p2.blk, L_api_Snow__Pref hs.p2.blk, L_api_Snow__Flake hs.p2.blk, L_api_Snow__Conf hs.p2.blk, L_api_Snow__Done hs.p2.blk, L_api_Params hs.p3.blk, L_api_Params__K hs.p3.blk, L_api_Params__AlphaPref hs.p3.blk, L_api_Params__AlphaConf hs.p3.blk, L_api_Params__Beta hs.p3.blk]
  rw [cnd_bool]
  refine ⟨fun h => ?_, fun h => ?_⟩
  · have h : x.dn = true ∨ n < p.2.1 := by simpa using h
    refine cal_i (rFail_spec hp (hr.fr hs.fr0) hl h1) ?_
    rintro _ w7 ⟨v', rfl, hs7⟩
    replace hs7 := hs.join hs7
    simp only [nilc_some, fad_mk, pik_true, pik_false, cnd_true, cnd_false, gif_same, gif_tf, gif_ft, gif_undef, bi_add, bi_sub, bi_mul, bi_eql, bi_neq, bi_lss, bi_leq, bi_gtr, bi_geq, notB_bool, cvi_int, lenS_mk, lenT_mk, ext0, ext1, ext2, nilP_mk, nilS_mk, fldv_agg, jn0_k, jn1_k, jn2_k, jn1_and, jn1_or, ex_some, Option.isNone_some, Option.isNone_none, Bool.false_bne, Bool.bne_true, Bool.bne_false, Bool.true_bne, Bool.not_true, Bool.not_false, Bool.and_true, Bool.true_and, Bool.and_false, Bool.false_and, Bool.or_true, Bool.true_or, Bool.or_false, Bool.false_or, cond_true, cond_false, List.getElem?_toArray, List.getElem?_cons_zero, List.getElem?_cons_succ, Nat.zero_add, Nat.add_zero, Nat.reduceAdd, forall_const]
    refine St_api_Snow hs7.p1 (one_api_Snow hs7.oneR) fun w8 hs8 => ?_
    simp only [L_api_Snow hs8.blk, L_api_Snow__List hs8.blk, L_api_Snow__Pref hs8.blk, L_api_Snow__Flake hs8.blk, L_api_Snow__Conf hs8.blk, L_api_Snow__Done hs8.blk]
    have he : pollM p x id n = failM p x := by
      rw [pollM, if_neg hE', if_neg hn, if_neg hpl, failM, if_neg hE']
      cases hd : x.dn with
      | true => simp
      | false => rw [if_neg (by simp), if_pos (by simpa [hd] using h), if_neg (by simp)]
    exact hR _ _ ⟨v', by rw [he], by rw [he]; exact hs8.p1.d1.d1.d1.d1⟩
  have h : ¬ (x.dn = true ∨ n < p.2.1) := by simpa using h
  have hd : x.dn = false := by cases hd : x.dn <;> simp_all
  have hap : ¬ n < p.2.1 := fun h' => h (.inr h')
  refine cal_i (rClone_spec (hr.fr hs.fr0) hl h1) ?_
  rintro _ w7 ⟨v', rfl, hs7⟩
  replace hs7 := hs.join hs7
  have hv' := Sep.oneR hs7
  refine alloc_s hs7 (A_api_Snow w7) fun g5 w8 hs8 => ?_
  refine St_api_Snow hs8 (one_api_Snow hv') fun w9 hs9 => ?_
  have hs10 : Sep w w9 [blk g5 (Rdr.cells Q_api_Snow (snr v' x)).toArray T_api_Snow, rows Q_api_Choice v' x.l, blk g4 (Rdr.cells Q_api_Snow (.slice none 0 0, vz 32, vz 32, 0, false)).toArray T_api_Snow, blk g3 (Rdr.cells (rVec 32) id).toArray T_api_ID, blk g1 (Rdr.cells Q_api_Params p).toArray T_api_Params] := hs9.d4
  refine drH_s hs10 fun w10 hs10 _ => ?_
  obtain ⟨a0, c0, hvf, _⟩ := (Sep.p1 hs10).formR
  obtain ⟨g, o, hao⟩ : ∃ g o, a0 = some ⟨g, o, none⟩ := by
    obtain ⟨g, o, c', hf⟩ := (Sep.rows hs10.p1).form (by decide) hc
    rw [hvf] at hf
    cases hf
    exact ⟨g, o, rfl⟩
  subst hvf; subst hao
  simp only [nilc_some, fad_mk, pik_true, pik_false, cnd_true, cnd_false, gif_same, gif_tf, gif_ft, gif_undef, bi_add, bi_sub, bi_mul, bi_eql, bi_neq, bi_lss, bi_leq, bi_gtr, bi_geq, notB_bool, cvi_int, lenS_mk, lenT_mk, ext0, ext1, ext2, nilP_mk, nilS_mk, fldv_agg, jn0_k, jn1_k, jn2_k, jn1_and, jn1_or, ex_some, Option.isNone_some, Option.isNone_none, Bool.false_bne, Bool.bne_true, Bool.bne_false, Bool.true_bne, Bool.not_true, Bool.not_false, Bool.and_true, Bool.true_and, Bool.and_false, Bool.false_and, Bool.or_true, Bool.true_or, Bool.or_false, Bool.false_or, cond_true, cond_false, List.getElem?_toArray, List.getElem?_cons_zero, List.getElem?_cons_succ, Nat.zero_add, Nat.add_zero, Nat.reduceAdd, forall_const, rdS_ld1, rdS_rdP, L_api_Snow hs10.blk, L_api_Snow__List hs10.blk, L_api_Snow__Pref hs10.blk, L_api_Snow__Flake hs10.blk, L_api_Snow__Conf hs10.blk, L_api_Snow__Done hs10.blk, hk]
  rw [ixs_mk _ _ _ _ _ _ _ _ (by omega) (by omega), Int.toNat_natCast]
  have hat := At.of (q := Q_api_Choice) (by decide) (Sep.rows hs10.p1) hc
  have hat' : At w10.heap g (o + k * 33) (Rdr.cells Q_api_Choice c) := hat
  simp only [nilc_some, fad_mk, pik_true, pik_false, cnd_true, cnd_false, gif_same, gif_tf, gif_ft, gif_undef, bi_add, bi_sub, bi_mul, bi_eql, bi_neq, bi_lss, bi_leq, bi_gtr, bi_geq, notB_bool, cvi_int, lenS_mk, lenT_mk, ext0, ext1, ext2, nilP_mk, nilS_mk, fldv_agg, jn0_k, jn1_k, jn2_k, jn1_and, jn1_or, ex_some, Option.isNone_some, Option.isNone_none, Bool.false_bne, Bool.bne_true, Bool.bne_false, Bool.true_bne, Bool.not_true, Bool.not_false, Bool.and_true, Bool.true_and, Bool.and_false, Bool.false_and, Bool.or_true, Bool.true_or, Bool.or_false, Bool.false_or, cond_true, cond_false, List.getElem?_toArray, List.getElem?_cons_zero, List.getElem?_cons_succ, Nat.zero_add, Nat.add_zero, Nat.reduceAdd, forall_const, LA_api_Choice__Strength hat', min_int]
  rw [wi64 (by omega) (by omega)]
  have hmin : min (c.2 + 1) 1073741824 ≤ 1073741824 := by omega
  rw [ixs_mk _ _ _ _ _ _ _ _ (by omega) (by omega), Int.toNat_natCast, fad_mk]
  refine efC_st1 ?_
  refine rows_stV (q := Q_api_Choice) (s := rInt .i64) (b := min (c.2 + 1) 1073741824) (.snd .self) rfl hs10.p1 hc rfl rfl fun w11 hs11 => ?_
  have hset : (x.l.set k (c.1, min (c.2 + 1) 1073741824))[k]? = some (c.1, min (c.2 + 1) 1073741824) := List.getElem?_set_self hklt
  generalize hx1 : ({ x with l := x.l.set k (c.1, min (c.2 + 1) 1073741824) } : Sn) = x1 at *
  have hl1 : x1.l = x.l.set k (c.1, min (c.2 + 1) 1073741824) := by rw [← hx1]
  have hsn : ∀ z, snr z x = snr z x1 := fun z => by rw [← hx1]
  have hll : x1.l.length = x.l.length := by rw [hl1]; simp
  have hs11 : Sep w w11 [rows Q_api_Choice (.slice (some ⟨g, o, none⟩) x.l.length c0) x1.l, blk g5 (Rdr.cells Q_api_Snow (snr (.slice (some ⟨g, o, none⟩) x.l.length c0) x1)).toArray T_api_Snow, blk g4 (Rdr.cells Q_api_Snow (.slice none 0 0, vz 32, vz 32, 0, false)).toArray T_api_Snow, blk g3 (Rdr.cells (rVec 32) id).toArray T_api_ID, blk g1 (Rdr.cells Q_api_Params p).toArray T_api_Params] := by
    rw [hl1, ← hsn]; exact hs11
  have hpp : plc x1.l x1.pref = plc x.l x.pref := by rw [hl1, plc_set hc, ← hx1]
  obtain ⟨i0, d0, hpl0, hd0, _, _⟩ : ∃ i d, plc x1.l x1.pref = ((i : Nat) : Int) ∧ x1.l[i]? = some d ∧ d.1 = x1.pref ∧ ∀ (j : Nat) (d : Cho), j < i → x1.l[j]? = some d → d.1 ≠ x1.pref := by
    rcases plc_cases x1.l x1.pref with ⟨h1, _⟩ | h1
    · exfalso
      rw [hpp] at h1
      unfold headBad at hhead
      omega
    · exact h1
  have hbest : best x1 = d0.2 := by rw [best, hpl0, Int.toNat_natCast, hd0]; rfl
  have hconf : x1.conf = x.conf := by rw [← hx1]
  have hfl : x1.flake = x.flake := by rw [← hx1]
  refine ⟨fun w' => Sep w w' [blk g5 (Rdr.cells Q_api_Snow (snr (.slice (some ⟨g, o, none⟩) x.l.length c0) { x1 with pref := if best x1 < min (c.2 + 1) 1073741824 then id else x1.pref })).toArray T_api_Snow, rows Q_api_Choice (.slice (some ⟨g, o, none⟩) x.l.length c0) x1.l, blk g4 (Rdr.cells Q_api_Snow (.slice none 0 0, vz 32, vz 32, 0, false)).toArray T_api_Snow, blk g3 (Rdr.cells (rVec 32) id).toArray T_api_ID, blk g1 (Rdr.cells Q_api_Params p).toArray T_api_Params], ?_, ?_⟩
  · refine drH_S hs11 fun w12 hs12 _ => ?_
    have hatS : ∀ u, Sep w u [rows Q_api_Choice (.slice (some ⟨g, o, none⟩) x.l.length c0) x1.l, blk g5 (Rdr.cells Q_api_Snow (snr (.slice (some ⟨g, o, none⟩) x.l.length c0) x1)).toArray T_api_Snow, blk g4 (Rdr.cells Q_api_Snow (.slice none 0 0, vz 32, vz 32, 0, false)).toArray T_api_Snow, blk g3 (Rdr.cells (rVec 32) id).toArray T_api_ID, blk g1 (Rdr.cells Q_api_Params p).toArray T_api_Params] →
        At u.heap g (o + k * 33) (Rdr.cells Q_api_Choice (c.1, min (c.2 + 1) 1073741824)) := fun u hu => At.of (q := Q_api_Choice) (by decide) (Sep.rows hu) (by rw [hl1]; exact hset)
    simp only [nilc_some, fad_mk, pik_true, pik_false, cnd_true, cnd_false, gif_same, gif_tf, gif_ft, gif_undef, bi_add, bi_sub, bi_mul, bi_eql, bi_neq, bi_lss, bi_leq, bi_gtr, bi_geq, notB_bool, cvi_int, lenS_mk, lenT_mk, ext0, ext1, ext2, nilP_mk, nilS_mk, fldv_agg, jn0_k, jn1_k, jn2_k, jn1_and, jn1_or, ex_some, Option.isNone_some, Option.isNone_none, Bool.false_bne, Bool.bne_true, Bool.bne_false, Bool.true_bne, Bool.not_true, Bool.not_false, Bool.and_true, Bool.true_and, Bool.and_false, Bool.false_and, Bool.or_true, Bool.true_or, Bool.or_false, Bool.false_or, cond_true, cond_false, List.getElem?_toArray, List.getElem?_cons_zero, List.getElem?_cons_succ, Nat.zero_add, Nat.add_zero, Nat.reduceAdd, forall_const]
    refine ⟨.slice (some ⟨g, o, none⟩) x.l.length c0, fun u hu => ?_, ?_⟩
    · show ld1 _ u.heap _
      rw [L_api_Snow__List (Sep.p1 hu).blk]
    change ixs 33 (.slice (some ⟨g, o, none⟩) x.l.length c0) (.int .i64 (k : Int)) _
    rw [ixs_mk _ _ _ _ _ _ _ _ (by omega) (by omega), Int.toNat_natCast, fad_mk]
    refine ⟨.int .i64 (min (c.2 + 1) 1073741824), fun u hu => ?_, ?_⟩
    · show ld1 _ u.heap _
      rw [LA_api_Choice__Strength (hatS u hu)]
    refine ⟨.slice (some ⟨g, o, none⟩) x.l.length c0, fun u hu => ?_, ?_⟩
    · show ld1 _ u.heap _
      rw [L_api_Snow__List (Sep.p1 hu).blk]
    refine ⟨snv (.slice (some ⟨g, o, none⟩) x.l.length c0) x1, fun u hu => ?_, ?_⟩
    · show ldN 67 _ u.heap _
      rw [L_api_Snow (Sep.p1 hu).blk]
    refine ⟨idv x1.pref, fun u hu => ?_, ?_⟩
    · show ldN 32 _ u.heap _
      rw [L_api_Snow__Pref (Sep.p1 hu).blk]
    refine efS_i (cal_i (rPlace_spec (Sep.rows hs12) (by omega)) ?_)
    rintro _ w13 ⟨rfl, hf13⟩
    have hs13 := hs12.old hf13
    refine ⟨hs13, ?_⟩
    rw [hpl0]
    refine rdS_row (q := Q_api_Choice) (.snd .self) rfl (by decide) hs13 (fun u hu => Sep.rows hu) hd0 .i64 ?_
    simp only [nilc_some, fad_mk, pik_true, pik_false, cnd_true, cnd_false, gif_same, gif_tf, gif_ft, gif_undef, bi_add, bi_sub, bi_mul, bi_eql, bi_neq, bi_lss, bi_leq, bi_gtr, bi_geq, notB_bool, cvi_int, lenS_mk, lenT_mk, ext0, ext1, ext2, nilP_mk, nilS_mk, fldv_agg, jn0_k, jn1_k, jn2_k, jn1_and, jn1_or, ex_some, Option.isNone_some, Option.isNone_none, Bool.false_bne, Bool.bne_true, Bool.bne_false, Bool.true_bne, Bool.not_true, Bool.not_false, Bool.and_true, Bool.true_and, Bool.and_false, Bool.false_and, Bool.or_true, Bool.true_or, Bool.or_false, Bool.false_or, cond_true, cond_false, List.getElem?_toArray, List.getElem?_cons_zero, List.getElem?_cons_succ, Nat.zero_add, Nat.add_zero, Nat.reduceAdd, forall_const]
    rw [← hbest, cnd_bool]
    refine ⟨fun h => ?_, fun h => ?_⟩
    · simp only [L_api_ID hs13.p3.blk]
      refine St_api_Snow__Pref hs13.p1 oneVec fun w14 hs14 => ?_
      rw [if_pos (by simpa using h)]
      exact hs14
    · rw [if_neg (by simpa using h)]
      exact hs13.p1
  · intro w12 hs12 _
    generalize hx2 : ({ x1 with pref := if best x1 < min (c.2 + 1) 1073741824 then id else x1.pref } : Sn) = x2 at *
    have hx2c : x2.conf = x.conf := by rw [← hx2]; exact hconf
    have hx2f : x2.flake = x.flake := by rw [← hx2]; exact hfl
    have hx2l : x1.l = x2.l := by rw [← hx2]
    have hll2 : x2.l.length = x.l.length := by rw [← hx2l, hll]
    have hup : ∀ cf dn, ({ x2 with conf := cf, dn := dn, flake := id } : Sn) = { updM x id k c with conf := cf, dn := dn } := fun cf dn => by
      unfold updM
      rw [hx1, ← hx2, ← hx1]
    rw [hx2l] at hs12
    have hfin := pollM_up hE hn hk hc hd hap
    unfold headBad at hhead
    refine ⟨fun w' => Sep w w' [blk g5 (Rdr.cells Q_api_Snow (snr (.slice (some ⟨g, o, none⟩) x.l.length c0) { x2 with conf := if x.flake = id then x.conf else 0 })).toArray T_api_Snow, rows Q_api_Choice (.slice (some ⟨g, o, none⟩) x.l.length c0) x2.l, blk g4 (Rdr.cells Q_api_Snow (.slice none 0 0, vz 32, vz 32, 0, false)).toArray T_api_Snow, blk g3 (Rdr.cells (rVec 32) id).toArray T_api_ID, blk g1 (Rdr.cells Q_api_Params p).toArray T_api_Params], ?_, ?_⟩
    · simp only [nilc_some, fad_mk, pik_true, pik_false, cnd_true, cnd_false, gif_same, gif_tf, gif_ft, gif_undef, bi_add, bi_sub, bi_mul, bi_eql, bi_neq, bi_lss, bi_leq, bi_gtr, bi_geq, notB_bool, cvi_int, lenS_mk, lenT_mk, ext0, ext1, ext2, nilP_mk, nilS_mk, fldv_agg, jn0_k, jn1_k, jn2_k, jn1_and, jn1_or, ex_some, Option.isNone_some, Option.isNone_none, Bool.false_bne, Bool.bne_true, Bool.bne_false, Bool.true_bne, Bool.not_true, Bool.not_false, Bool.and_true, Bool.true_and, Bool.and_false, Bool.false_and, Bool.or_true, Bool.true_or, Bool.or_false, Bool.false_or, cond_true, cond_false, List.getElem?_toArray, List.getElem?_cons_zero, List.getElem?_cons_succ, Nat.zero_add, Nat.add_zero, Nat.reduceAdd, forall_const, L_api_Snow hs12.blk, L_api_Snow__List hs12.blk, L_api_Snow__Pref hs12.blk, L_api_Snow__Flake hs12.blk, L_api_Snow__Conf hs12.blk, L_api_Snow__Done hs12.blk, L_api_ID hs12.p3.blk, ne_api_ID]
      rw [cnd_bool]
      refine ⟨fun h => ?_, fun h => ?_⟩
      · have h : ¬ x.flake = id := by rw [← hx2f]; simpa using h
        refine St_api_Snow__Conf hs12 fun w13 hs13 => ?_
        rw [if_neg h]
        exact hs13
      · have h : x.flake = id := by rw [← hx2f]; simpa using h
        rw [if_pos h, ← hx2c]
        exact hs12
    · intro w13 hs13 _
      simp only [nilc_some, fad_mk, pik_true, pik_false, cnd_true, cnd_false, gif_same, gif_tf, gif_ft, gif_undef, bi_add, bi_sub, bi_mul, bi_eql, bi_neq, bi_lss, bi_leq, bi_gtr, bi_geq, notB_bool, cvi_int, lenS_mk, lenT_mk, ext0, ext1, ext2, nilP_mk, nilS_mk, fldv_agg, jn0_k, jn1_k, jn2_k, jn1_and, jn1_or, ex_some, Option.isNone_some, Option.isNone_none, Bool.false_bne, Bool.bne_true, Bool.bne_false, Bool.true_bne, Bool.not_true, Bool.not_false, Bool.and_true, Bool.true_and, Bool.and_false, Bool.false_and, Bool.or_true, Bool.true_or, Bool.or_false, Bool.false_or, cond_true, cond_false, List.getElem?_toArray, List.getElem?_cons_zero, List.getElem?_cons_succ, Nat.zero_add, Nat.add_zero, Nat.reduceAdd, forall_const, L_api_ID hs13.p3.blk]
      refine St_api_Snow__Flake hs13 oneVec fun w14 hs14 => ?_
      simp only [nilc_some, fad_mk, pik_true, pik_false, cnd_true, cnd_false, gif_same, gif_tf, gif_ft, gif_undef, bi_add, bi_sub, bi_mul, bi_eql, bi_neq, bi_lss, bi_leq, bi_gtr, bi_geq, notB_bool, cvi_int, lenS_mk, lenT_mk, ext0, ext1, ext2, nilP_mk, nilS_mk, fldv_agg, jn0_k, jn1_k, jn2_k, jn1_and, jn1_or, ex_some, Option.isNone_some, Option.isNone_none, Bool.false_bne, Bool.bne_true, Bool.bne_false, Bool.true_bne, Bool.not_true, Bool.not_false, Bool.and_true, Bool.true_and, Bool.and_false, Bool.false_and, Bool.or_true, Bool.true_or, Bool.or_false, Bool.false_or, cond_true, cond_false, List.getElem?_toArray, List.getElem?_cons_zero, List.getElem?_cons_succ, Nat.zero_add, Nat.add_zero, Nat.reduceAdd, forall_const, L_api_Params hs14.p4.blk, L_api_Params__K hs14.p4.blk, L_api_Params__AlphaPref hs14.p4.blk, L_api_Params__AlphaConf hs14.p4.blk, L_api_Params__Beta hs14.p4.blk]
      rw [cnd_bool]
      refine ⟨fun h => ?_, fun h => ?_⟩
      · have h : n < p.2.2.1 := by simpa using h
        refine St_api_Snow__Conf hs14 fun w15 hs15 => ?_
        simp only [L_api_Snow hs15.blk, L_api_Snow__List hs15.blk, L_api_Snow__Pref hs15.blk, L_api_Snow__Flake hs15.blk, L_api_Snow__Conf hs15.blk, L_api_Snow__Done hs15.blk]
        refine St_api_Snow hs15.p2 (one_api_Snow hs15.p1.oneR) fun w16 hs16 => ?_
        simp only [L_api_Snow hs16.blk, L_api_Snow__List hs16.blk, L_api_Snow__Pref hs16.blk, L_api_Snow__Flake hs16.blk, L_api_Snow__Conf hs16.blk, L_api_Snow__Done hs16.blk]
        have hcf : cfM p x id n = 0 := by rw [cfM, if_pos h]
        have hdn : x2.dn = decide ((0 : Int) = p.2.2.2) := by
          have : decide ((0 : Int) = p.2.2.2) = false := by simp; omega
          rw [this, ← hx2, ← hx1]; exact hd
        rw [hcf, ← hup, ← hdn] at hfin
        refine hR _ _ ⟨.slice (some ⟨g, o, none⟩) x.l.length c0, ?_, ?_⟩
        · rw [hfin]
        · rw [hfin]; exact hs16.p2.d1.d1.d1.d1
      · have h : ¬ n < p.2.2.1 := by simpa using h
        simp only [nilc_some, fad_mk, pik_true, pik_false, cnd_true, cnd_false, gif_same, gif_tf, gif_ft, gif_undef, bi_add, bi_sub, bi_mul, bi_eql, bi_neq, bi_lss, bi_leq, bi_gtr, bi_geq, notB_bool, cvi_int, lenS_mk, lenT_mk, ext0, ext1, ext2, nilP_mk, nilS_mk, fldv_agg, jn0_k, jn1_k, jn2_k, jn1_and, jn1_or, ex_some, Option.isNone_some, Option.isNone_none, Bool.false_bne, Bool.bne_true, Bool.bne_false, Bool.true_bne, Bool.not_true, Bool.not_false, Bool.and_true, Bool.true_and, Bool.and_false, Bool.false_and, Bool.or_true, Bool.true_or, Bool.or_false, Bool.false_or, cond_true, cond_false, List.getElem?_toArray, List.getElem?_cons_zero, List.getElem?_cons_succ, Nat.zero_add, Nat.add_zero, Nat.reduceAdd, forall_const, L_api_Snow hs14.blk, L_api_Snow__List hs14.blk, L_api_Snow__Pref hs14.blk, L_api_Snow__Flake hs14.blk, L_api_Snow__Conf hs14.blk, L_api_Snow__Done hs14.blk]
        have hcf : cfM p x id n = (if x.flake = id then x.conf else 0) + 1 := by
          rw [cfM, if_neg h]
          by_cases he : x.flake = id
          · rw [if_pos he, if_pos he.symm]
          · rw [if_neg he, if_neg (fun h' => he h'.symm)]; rfl
        have hb : 0 ≤ (if x.flake = id then x.conf else 0) ∧ (if x.flake = id then x.conf else 0) ≤ 1000 := by split <;> omega
        rw [wi64 (by omega) (by omega), ← hcf]
        refine St_api_Snow__Conf hs14 fun w15 hs15 => ?_
        simp only [nilc_some, fad_mk, pik_true, pik_false, cnd_true, cnd_false, gif_same, gif_tf, gif_ft, gif_undef, bi_add, bi_sub, bi_mul, bi_eql, bi_neq, bi_lss, bi_leq, bi_gtr, bi_geq, notB_bool, cvi_int, lenS_mk, lenT_mk, ext0, ext1, ext2, nilP_mk, nilS_mk, fldv_agg, jn0_k, jn1_k, jn2_k, jn1_and, jn1_or, ex_some, Option.isNone_some, Option.isNone_none, Bool.false_bne, Bool.bne_true, Bool.bne_false, Bool.true_bne, Bool.not_true, Bool.not_false, Bool.and_true, Bool.true_and, Bool.and_false, Bool.false_and, Bool.or_true, Bool.true_or, Bool.or_false, Bool.false_or, cond_true, cond_false, List.getElem?_toArray, List.getElem?_cons_zero, List.getElem?_cons_succ, Nat.zero_add, Nat.add_zero, Nat.reduceAdd, forall_const, L_api_Snow hs15.blk, L_api_Snow__List hs15.blk, L_api_Snow__Pref hs15.blk, L_api_Snow__Flake hs15.blk, L_api_Snow__Conf hs15.blk, L_api_Snow__Done hs15.blk, L_api_Params hs15.p4.blk, L_api_Params__K hs15.p4.blk, L_api_Params__AlphaPref hs15.p4.blk, L_api_Params__AlphaConf hs15.p4.blk, L_api_Params__Beta hs15.p4.blk]
        refine St_api_Snow__Done hs15 fun w16 hs16 => ?_
        simp only [L_api_Snow hs16.blk, L_api_Snow__List hs16.blk, L_api_Snow__Pref hs16.blk, L_api_Snow__Flake hs16.blk, L_api_Snow__Conf hs16.blk, L_api_Snow__Done hs16.blk]
        refine St_api_Snow hs16.p2 (one_api_Snow hs16.p1.oneR) fun w17 hs17 => ?_
        simp only [L_api_Snow hs17.blk, L_api_Snow__List hs17.blk, L_api_Snow__Pref hs17.blk, L_api_Snow__Flake hs17.blk, L_api_Snow__Conf hs17.blk, L_api_Snow__Done hs17.blk]
        rw [← hup] at hfin
        refine hR _ _ ⟨.slice (some ⟨g, o, none⟩) x.l.length c0, ?_, ?_⟩
        · rw [hfin, ← beq_dec]
        · rw [hfin]; exact hs17.p2.d1.d1.d1.d1
end
end Go.Fx
