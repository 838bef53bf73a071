/-
  Instances that are the same, clones, first instances, what is preferred.
-/
import Derived.Test.YtgiklllplfcikaaSnC
set_option linter.unusedVariables false
set_option linter.unusedSimpArgs false
namespace Go.Fx
abbrev tupS (x : Sn) : Id × Id × Int × Bool × List Cho := (x.pref, x.flake, x.conf, x.dn, x.l)
noncomputable def sameS (x y : Sn) : Bool := @decide (tupS x = tupS y) (Classical.propDecidable _)
theorem sameS_ne {x y : Sn} (h : tupS x ≠ tupS y) : sameS x y = false := by simp [sameS, h]
theorem sameS_eq {x y : Sn} (h : tupS x = tupS y) : sameS x y = true := by simp [sameS, h]
section
variable {w : World} {v u : Value} {x y : Sn} {p : Par} {id : Id}
theorem sameS_rows {x y : Sn} (h1 : x.pref = y.pref) (h2 : x.flake = y.flake) (h3 : x.conf = y.conf) (h4 : x.dn = y.dn) (hl : x.l.length = y.l.length) (h5 : ∀ (j : Nat) (c d : Cho), x.l[j]? = some c → y.l[j]? = some d → c = d) : tupS x = tupS y := by
  have : x.l = y.l := by
    apply List.ext_getElem hl
    intro j a b
    exact h5 j _ _ (List.getElem?_eq_getElem a) (List.getElem?_eq_getElem b)
  simp [tupS, h1, h2, h3, h4, this]
theorem Same_spec (hr : Rows' Q_api_Choice w.heap v x.l) (hs' : Rows' Q_api_Choice w.heap u y.l) (hl : x.l.length ≤ 9223372036854775807) (hl' : y.l.length ≤ 9223372036854775807) : cal P f_snow_Same [snv v x, snv u y] w fun r w' => r = .bool (sameS x y) ∧ Fr [] w w' := by
  refine s_snow_Same fun R hR => ?_
  unfold c_snow_Same
  refine bx_s (Sep.start w) fun g w1 hs => ?_
  refine bx_s hs fun g2 w2 hs => ?_
  simp only [Value.cells] at hs
  simp only [nilc_some, fad_mk, pik_true, pik_false, cnd_true, cnd_false, gif_same, gif_tf, gif_ft, gif_undef, bi_add, bi_sub, bi_mul, bi_eql, bi_neq, bi_lss, bi_leq, bi_gtr, bi_geq, notB_bool, cvi_int, lenS_mk, lenT_mk, ext0, ext1, ext2, nilP_mk, nilS_mk, fldv_agg, jn0_k, jn1_k, jn2_k, jn1_and, jn1_or, ex_some, Option.isNone_some, Option.isNone_none, Bool.false_bne, Bool.bne_true, Bool.bne_false, Bool.true_bne, Bool.not_true, Bool.not_false, Bool.and_true, Bool.true_and, Bool.and_false, Bool.false_and, Bool.or_true, Bool.true_or, Bool.or_false, Bool.false_or, cond_true, cond_false, List.getElem?_toArray, List.getElem?_cons_zero, List.getElem?_cons_succ, Nat.zero_add, Nat.add_zero, Nat.reduceAdd, forall_const, L_api_Snow hs.blk, L_api_Snow__List hs.blk, L_api_Snow__Pref hs.blk, L_api_Snow__Flake hs.blk, L_api_Snow__Conf hs.blk, L_api_Snow__Done hs.blk, L_api_Snow hs.p1.blk, L_api_Snow__List hs.p1.blk, L_api_Snow__Pref hs.p1.blk, L_api_Snow__Flake hs.p1.blk, L_api_Snow__Conf hs.p1.blk, L_api_Snow__Done hs.p1.blk, ne_api_ID, bne_dec, neS_bool _ _ U_bool, (hr.fr hs.fr0).len, (hs'.fr hs.fr0).len]
  rw [cnd_bool]
  refine ⟨fun h => ?_, fun h => ?_⟩
  · have hne : tupS x ≠ tupS y := by
      intro he
      simp only [tupS, Prod.mk.injEq] at he
      obtain ⟨e1, e2, e3, e4, e5⟩ := he
      simp [e1, e2, e3, e4, e5] at h
    exact hR _ _ ⟨by rw [sameS_ne hne], hs.fr0⟩
  · simp at h
    obtain ⟨⟨⟨⟨e1, e2⟩, e3⟩, e4⟩, e5⟩ := h
    refine ⟨fun z w' => ∃ i : Nat, i ≤ x.l.length ∧ z = .int .i64 i ∧ (∀ (j : Nat) (c d : Cho), j < i → x.l[j]? = some c → y.l[j]? = some d → c = d) ∧ Sep w w' [blk g2 (Rdr.cells Q_api_Snow (snr u y)).toArray T_api_Snow, blk g (Rdr.cells Q_api_Snow (snr v x)).toArray T_api_Snow],
      fun z _ => (x.l.length - RowKit.intOf z).toNat, ⟨0, by omega, rfl, by simp, hs⟩, ?_⟩
    rintro _ w3 ⟨i, hi, rfl, hall, hs3⟩ -
    simp only [nilc_some, fad_mk, pik_true, pik_false, cnd_true, cnd_false, gif_same, gif_tf, gif_ft, gif_undef, bi_add, bi_sub, bi_mul, bi_eql, bi_neq, bi_lss, bi_leq, bi_gtr, bi_geq, notB_bool, cvi_int, lenS_mk, lenT_mk, ext0, ext1, ext2, nilP_mk, nilS_mk, fldv_agg, jn0_k, jn1_k, jn2_k, jn1_and, jn1_or, ex_some, Option.isNone_some, Option.isNone_none, Bool.false_bne, Bool.bne_true, Bool.bne_false, Bool.true_bne, Bool.not_true, Bool.not_false, Bool.and_true, Bool.true_and, Bool.and_false, Bool.false_and, Bool.or_true, Bool.true_or, Bool.or_false, Bool.false_or, cond_true, cond_false, List.getElem?_toArray, List.getElem?_cons_zero, List.getElem?_cons_succ, Nat.zero_add, Nat.add_zero, Nat.reduceAdd, forall_const]
    rw [cnd_bool]
    refine ⟨fun h => ?_, fun h => ?_⟩
    · have hlt : i < x.l.length := by simpa using h
      obtain ⟨c, hc⟩ : ∃ c, x.l[i]? = some c := ⟨_, List.getElem?_eq_getElem hlt⟩
      obtain ⟨d, hd⟩ : ∃ d, y.l[i]? = some d := ⟨_, List.getElem?_eq_getElem (by omega)⟩
      refine drw_s hs3 fun w4 hs4 _ => ?_
      simp only [nilc_some, fad_mk, pik_true, pik_false, cnd_true, cnd_false, gif_same, gif_tf, gif_ft, gif_undef, bi_add, bi_sub, bi_mul, bi_eql, bi_neq, bi_lss, bi_leq, bi_gtr, bi_geq, notB_bool, cvi_int, lenS_mk, lenT_mk, ext0, ext1, ext2, nilP_mk, nilS_mk, fldv_agg, jn0_k, jn1_k, jn2_k, jn1_and, jn1_or, ex_some, Option.isNone_some, Option.isNone_none, Bool.false_bne, Bool.bne_true, Bool.bne_false, Bool.true_bne, Bool.not_true, Bool.not_false, Bool.and_true, Bool.true_and, Bool.and_false, Bool.false_and, Bool.or_true, Bool.true_or, Bool.or_false, Bool.false_or, cond_true, cond_false, List.getElem?_toArray, List.getElem?_cons_zero, List.getElem?_cons_succ, Nat.zero_add, Nat.add_zero, Nat.reduceAdd, forall_const, L_api_Snow hs4.blk, L_api_Snow__List hs4.blk, L_api_Snow__Pref hs4.blk, L_api_Snow__Flake hs4.blk, L_api_Snow__Conf hs4.blk, L_api_Snow__Done hs4.blk, L_api_Snow hs4.p1.blk, L_api_Snow__List hs4.p1.blk, L_api_Snow__Pref hs4.p1.blk, L_api_Snow__Flake hs4.p1.blk, L_api_Snow__Conf hs4.p1.blk, L_api_Snow__Done hs4.p1.blk]
      refine (hr.fr hs4.fr0).ldN (by decide) hc _ ?_
      refine (hs'.fr hs4.fr0).ldN (by decide) hd _ ?_
      rw [ne_api_Choice, cnd_bool]
      refine ⟨fun h => ?_, fun hne => ?_⟩
      · have hne : tupS x ≠ tupS y := by
          intro he
          simp only [tupS, Prod.mk.injEq] at he
          rw [he.2.2.2.2, hd] at hc
          cases hc
          simp at h
        exact hR _ _ ⟨by rw [sameS_ne hne], hs4.fr0⟩
      · rw [wi64 (by omega) (by omega)]
        refine ⟨⟨i + 1, by omega, by simp, fun j c' d' hj hc' hd' => ?_, hs4⟩, by simp [RowKit.intOf]; omega⟩
        by_cases hji : j = i
        · subst hji
          rw [hc] at hc'
          rw [hd] at hd'
          cases hc'; cases hd'
          simpa using hne
        · exact hall j c' d' (by omega) hc' hd'
    · have hge : i = x.l.length := by simp at h; omega
      exact hR _ _ ⟨by rw [sameS_eq (sameS_rows e1 e2 e3 e4 (by omega) fun j c d hc hd => hall j c d (by have := (List.getElem?_eq_some_iff.1 hc).1; omega) hc hd)], hs3.fr0⟩
theorem rSame_spec (hr : Rows' Q_api_Choice w.heap v x.l) (hs' : Rows' Q_api_Choice w.heap u y.l) (hl : x.l.length ≤ 9223372036854775807) (hl' : y.l.length ≤ 9223372036854775807) : cal P f_ref17_Same [snv v x, snv u y] w fun r w' => r = .bool (sameS x y) ∧ Fr [] w w' := by
  refine s_ref17_Same fun R hR => ?_
  unfold c_ref17_Same
  refine bx_s (Sep.start w) fun g w1 hs => ?_
  refine bx_s hs fun g2 w2 hs => ?_
  simp only [Value.cells] at hs
  simp only [nilc_some, fad_mk, pik_true, pik_false, cnd_true, cnd_false, gif_same, gif_tf, gif_ft, gif_undef, bi_add, bi_sub, bi_mul, bi_eql, bi_neq, bi_lss, bi_leq, bi_gtr, bi_geq, notB_bool, cvi_int, lenS_mk, lenT_mk, ext0, ext1, ext2, nilP_mk, nilS_mk, fldv_agg, jn0_k, jn1_k, jn2_k, jn1_and, jn1_or, ex_some, Option.isNone_some, Option.isNone_none, Bool.false_bne, Bool.bne_true, Bool.bne_false, Bool.true_bne, Bool.not_true, Bool.not_false, Bool.and_true, Bool.true_and, Bool.and_false, Bool.false_and, Bool.or_true, Bool.true_or, Bool.or_false, Bool.false_or, cond_true, cond_false, List.getElem?_toArray, List.getElem?_cons_zero, List.getElem?_cons_succ, Nat.zero_add, Nat.add_zero, Nat.reduceAdd, forall_const, L_api_Snow hs.blk, L_api_Snow__List hs.blk, L_api_Snow__Pref hs.blk, L_api_Snow__Flake hs.blk, L_api_Snow__Conf hs.blk, L_api_Snow__Done hs.blk, L_api_Snow hs.p1.blk, L_api_Snow__List hs.p1.blk, L_api_Snow__Pref hs.p1.blk, L_api_Snow__Flake hs.p1.blk, L_api_Snow__Conf hs.p1.blk, L_api_Snow__Done hs.p1.blk, ne_api_ID, bne_dec, neS_bool _ _ U_bool, (hr.fr hs.fr0).len, (hs'.fr hs.fr0).len]
  rw [cnd_bool]
  refine ⟨fun h => ?_, fun h => ?_⟩
  · have hne : tupS x ≠ tupS y := by
      intro he
      simp only [tupS, Prod.mk.injEq] at he
      obtain ⟨e1, e2, e3, e4, e5⟩ := he
      simp [e1, e2, e3, e4, e5] at h
    exact hR _ _ ⟨by rw [sameS_ne hne], hs.fr0⟩
  · simp at h
    obtain ⟨⟨⟨⟨e5, e1⟩, e2⟩, e3⟩, e4⟩ := h
    refine ⟨fun z w' => ∃ i : Nat, i ≤ x.l.length ∧ z = .int .i64 i ∧ (∀ (j : Nat) (c d : Cho), j < i → x.l[j]? = some c → y.l[j]? = some d → c = d) ∧ Sep w w' [blk g2 (Rdr.cells Q_api_Snow (snr u y)).toArray T_api_Snow, blk g (Rdr.cells Q_api_Snow (snr v x)).toArray T_api_Snow],
      fun z _ => (x.l.length - RowKit.intOf z).toNat, ⟨0, by omega, rfl, by simp, hs⟩, ?_⟩
    rintro _ w3 ⟨i, hi, rfl, hall, hs3⟩ -
    simp only [nilc_some, fad_mk, pik_true, pik_false, cnd_true, cnd_false, gif_same, gif_tf, gif_ft, gif_undef, bi_add, bi_sub, bi_mul, bi_eql, bi_neq, bi_lss, bi_leq, bi_gtr, bi_geq, notB_bool, cvi_int, lenS_mk, lenT_mk, ext0, ext1, ext2, nilP_mk, nilS_mk, fldv_agg, jn0_k, jn1_k, jn2_k, jn1_and, jn1_or, ex_some, Option.isNone_some, Option.isNone_none, Bool.false_bne, Bool.bne_true, Bool.bne_false, Bool.true_bne, Bool.not_true, Bool.not_false, Bool.and_true, Bool.true_and, Bool.and_false, Bool.false_and, Bool.or_true, Bool.true_or, Bool.or_false, Bool.false_or, cond_true, cond_false, List.getElem?_toArray, List.getElem?_cons_zero, List.getElem?_cons_succ, Nat.zero_add, Nat.add_zero, Nat.reduceAdd, forall_const, L_api_Snow hs3.blk, L_api_Snow__List hs3.blk, L_api_Snow__Pref hs3.blk, L_api_Snow__Flake hs3.blk, L_api_Snow__Conf hs3.blk, L_api_Snow__Done hs3.blk, L_api_Snow hs3.p1.blk, L_api_Snow__List hs3.p1.blk, L_api_Snow__Pref hs3.p1.blk, L_api_Snow__Flake hs3.p1.blk, L_api_Snow__Conf hs3.p1.blk, L_api_Snow__Done hs3.p1.blk, (hr.fr hs3.fr0).len]
    rw [cnd_bool]
    refine ⟨fun h => ?_, fun h => ?_⟩
    · have hlt : i < x.l.length := by simpa using h
      obtain ⟨c, hc⟩ : ∃ c, x.l[i]? = some c := ⟨_, List.getElem?_eq_getElem hlt⟩
      obtain ⟨d, hd⟩ : ∃ d, y.l[i]? = some d := ⟨_, List.getElem?_eq_getElem (by omega)⟩
      refine drw_s hs3 fun w4 hs4 _ => ?_
      simp only [nilc_some, fad_mk, pik_true, pik_false, cnd_true, cnd_false, gif_same, gif_tf, gif_ft, gif_undef, bi_add, bi_sub, bi_mul, bi_eql, bi_neq, bi_lss, bi_leq, bi_gtr, bi_geq, notB_bool, cvi_int, lenS_mk, lenT_mk, ext0, ext1, ext2, nilP_mk, nilS_mk, fldv_agg, jn0_k, jn1_k, jn2_k, jn1_and, jn1_or, ex_some, Option.isNone_some, Option.isNone_none, Bool.false_bne, Bool.bne_true, Bool.bne_false, Bool.true_bne, Bool.not_true, Bool.not_false, Bool.and_true, Bool.true_and, Bool.and_false, Bool.false_and, Bool.or_true, Bool.true_or, Bool.or_false, Bool.false_or, cond_true, cond_false, List.getElem?_toArray, List.getElem?_cons_zero, List.getElem?_cons_succ, Nat.zero_add, Nat.add_zero, Nat.reduceAdd, forall_const, L_api_Snow hs4.blk, L_api_Snow__List hs4.blk, L_api_Snow__Pref hs4.blk, L_api_Snow__Flake hs4.blk, L_api_Snow__Conf hs4.blk, L_api_Snow__Done hs4.blk, L_api_Snow hs4.p1.blk, L_api_Snow__List hs4.p1.blk, L_api_Snow__Pref hs4.p1.blk, L_api_Snow__Flake hs4.p1.blk, L_api_Snow__Conf hs4.p1.blk, L_api_Snow__Done hs4.p1.blk]
      refine (hr.fr hs4.fr0).ldN (by decide) hc _ ?_
      refine (hs'.fr hs4.fr0).ldN (by decide) hd _ ?_
      rw [ne_api_Choice, cnd_bool]
      refine ⟨fun h => ?_, fun hne => ?_⟩
      · have hne : tupS x ≠ tupS y := by
          intro he
          simp only [tupS, Prod.mk.injEq] at he
          rw [he.2.2.2.2, hd] at hc
          cases hc
          simp at h
        exact hR _ _ ⟨by rw [sameS_ne hne], hs4.fr0⟩
      · rw [wi64 (by omega) (by omega)]
        refine ⟨⟨i + 1, by omega, by simp, fun j c' d' hj hc' hd' => ?_, hs4⟩, by simp [RowKit.intOf]; omega⟩
        by_cases hji : j = i
        · subst hji
          rw [hc] at hc'
          rw [hd] at hd'
          cases hc'; cases hd'
          simpa using hne
        · exact hall j c' d' (by omega) hc' hd'
    · have hge : i = x.l.length := by simp at h; omega
      exact hR _ _ ⟨by rw [sameS_eq (sameS_rows e1 e2 e3 e4 (by omega) fun j c d hc hd => hall j c d (by have := (List.getElem?_eq_some_iff.1 hc).1; omega) hc hd)], hs3.fr0⟩
theorem choOne (l : List Cho) : ∀ u ∈ l.flatMap (Rdr.cells Q_api_Choice), u.oneCell' = true := by
  intro u hu
  obtain ⟨a, _, ha⟩ := List.mem_flatMap.1 hu
  exact one_api_Choice u ha
theorem sClone_spec {l : List Cho} (hr : Rows' Q_api_Choice w.heap v l) (hl : l.length ≤ 1000000) : cal P f_slices_Clone_api_Choice_api_Choice [v] w fun r w' => Sep w w' [rows Q_api_Choice r l] := by
  refine s_slices_Clone_api_Choice_api_Choice fun R hR => ?_
  unfold c_slices_Clone_api_Choice_api_Choice
  obtain ⟨a, c, hv, hl', hh⟩ := id hr
  subst hv
  cases a with
  | none =>
    have h0 : l = [] := by
      rcases hh with h0 | ⟨_, _, _, _, _, h, _⟩
      · have hsz : Rdr.size Q_api_Choice = 33 := rfl
        rw [hsz] at h0
        exact List.eq_nil_of_length_eq_zero (by omega)
      · cases h
    subst h0
    simp only [nilc_some, fad_mk, pik_true, pik_false, cnd_true, cnd_false, gif_same, gif_tf, gif_ft, gif_undef, bi_add, bi_sub, bi_mul, bi_eql, bi_neq, bi_lss, bi_leq, bi_gtr, bi_geq, notB_bool, cvi_int, lenS_mk, lenT_mk, ext0, ext1, ext2, nilP_mk, nilS_mk, fldv_agg, jn0_k, jn1_k, jn2_k, jn1_and, jn1_or, ex_some, Option.isNone_some, Option.isNone_none, Bool.false_bne, Bool.bne_true, Bool.bne_false, Bool.true_bne, Bool.not_true, Bool.not_false, Bool.and_true, Bool.true_and, Bool.and_false, Bool.false_and, Bool.or_true, Bool.true_or, Bool.or_false, Bool.false_or, cond_true, cond_false, List.getElem?_toArray, List.getElem?_cons_zero, List.getElem?_cons_succ, Nat.zero_add, Nat.add_zero, Nat.reduceAdd, forall_const]
    exact hR _ _ (Sep.start w).nilR
  | some a =>
    simp only [nilc_some, fad_mk, pik_true, pik_false, cnd_true, cnd_false, gif_same, gif_tf, gif_ft, gif_undef, bi_add, bi_sub, bi_mul, bi_eql, bi_neq, bi_lss, bi_leq, bi_gtr, bi_geq, notB_bool, cvi_int, lenS_mk, lenT_mk, ext0, ext1, ext2, nilP_mk, nilS_mk, fldv_agg, jn0_k, jn1_k, jn2_k, jn1_and, jn1_or, ex_some, Option.isNone_some, Option.isNone_none, Bool.false_bne, Bool.bne_true, Bool.bne_false, Bool.true_bne, Bool.not_true, Bool.not_false, Bool.and_true, Bool.true_and, Bool.and_false, Bool.false_and, Bool.or_true, Bool.true_or, Bool.or_false, Bool.false_or, cond_true, cond_false, List.getElem?_toArray, List.getElem?_cons_zero, List.getElem?_cons_succ, Nat.zero_add, Nat.add_zero, Nat.reduceAdd, forall_const]
    have hb1 : ∀ w : World, (Instr.buildSlice T_sl_api_Choice 0 #[]).run P w = .ok (.slice (some ⟨w.heap.size, 0, none⟩) 0 0) (w.alloc (.cells (([] : List Cho).flatMap (Rdr.cells Q_api_Choice)).toArray T_api_Choice)) := fun w => by kernel_rfl
    refine rows_build (q := Q_api_Choice) (l := []) (Sep.start w) rfl (hb1 _) fun g w1 hs => ?_
    refine rows_app S_sl_api_Choice U_sl_api_Choice (by simp) hs (hr.fr hs.fr0) (choOne l) (by simp; omega) (by simp; omega) fun v' w2 hs => ?_
    exact hR _ _ hs
theorem own_spec (hr : Rows' Q_api_Choice w.heap v x.l) (hl : x.l.length ≤ 1000000) (h1 : v.oneCell' = true) : cal P f_snow_own [snv v x] w fun r w' => ∃ v', r = snv v' x ∧ Sep w w' [rows Q_api_Choice v' x.l] := by
  refine s_snow_own fun R hR => ?_
  unfold c_snow_own
  refine bx_s (Sep.start w) fun g w1 hs => ?_
  simp only [Value.cells] at hs
  refine alloc_s hs (A_api_Snow w1) fun g2 w2 hs => ?_
  simp only [nilc_some, fad_mk, pik_true, pik_false, cnd_true, cnd_false, gif_same, gif_tf, gif_ft, gif_undef, bi_add, bi_sub, bi_mul, bi_eql, bi_neq, bi_lss, bi_leq, bi_gtr, bi_geq, notB_bool, cvi_int, lenS_mk, lenT_mk, ext0, ext1, ext2, nilP_mk, nilS_mk, fldv_agg, jn0_k, jn1_k, jn2_k, jn1_and, jn1_or, ex_some, Option.isNone_some, Option.isNone_none, Bool.false_bne, Bool.bne_true, Bool.bne_false, Bool.true_bne, Bool.not_true, Bool.not_false, Bool.and_true, Bool.true_and, Bool.and_false, Bool.false_and, Bool.or_true, Bool.true_or, Bool.or_false, Bool.false_or, cond_true, cond_false, List.getElem?_toArray, List.getElem?_cons_zero, List.getElem?_cons_succ, Nat.zero_add, Nat.add_zero, Nat.reduceAdd, forall_const, L_api_Snow hs.p1.blk, L_api_Snow__List hs.p1.blk, L_api_Snow__Pref hs.p1.blk, L_api_Snow__Flake hs.p1.blk, L_api_Snow__Conf hs.p1.blk, L_api_Snow__Done hs.p1.blk]
  refine cal_i (sClone_spec (hr.fr hs.fr0) hl) ?_
  rintro v' w3 hs3
  replace hs := hs.join hs3
  clear hs3
  refine St_api_Snow__List (Sep.p2 hs) (Sep.oneR hs) fun w4 hs4 => ?_
  simp only [L_api_Snow hs4.blk, L_api_Snow__List hs4.blk, L_api_Snow__Pref hs4.blk, L_api_Snow__Flake hs4.blk, L_api_Snow__Conf hs4.blk, L_api_Snow__Done hs4.blk]
  refine St_api_Snow hs4.p2 (one_api_Snow (Sep.oneR hs)) fun w5 hs5 => ?_
  simp only [L_api_Snow hs5.blk, L_api_Snow__List hs5.blk, L_api_Snow__Pref hs5.blk, L_api_Snow__Flake hs5.blk, L_api_Snow__Conf hs5.blk, L_api_Snow__Done hs5.blk]
  exact hR _ _ ⟨v', rfl, hs5.p2.d2.d1⟩
theorem rClone_spec (hr : Rows' Q_api_Choice w.heap v x.l) (hl : x.l.length ≤ 1000000) (h1 : v.oneCell' = true) : cal P f_ref17_Clone [snv v x] w fun r w' => ∃ v', r = snv v' x ∧ Sep w w' [rows Q_api_Choice v' x.l] := by
  refine s_ref17_Clone fun R hR => ?_
  unfold c_ref17_Clone
  refine bx_s (Sep.start w) fun g w1 hs => ?_
  simp only [Value.cells] at hs
  refine alloc_s hs (A_api_Snow w1) fun g2 w2 hs => ?_
  simp only [nilc_some, fad_mk, pik_true, pik_false, cnd_true, cnd_false, gif_same, gif_tf, gif_ft, gif_undef, bi_add, bi_sub, bi_mul, bi_eql, bi_neq, bi_lss, bi_leq, bi_gtr, bi_geq, notB_bool, cvi_int, lenS_mk, lenT_mk, ext0, ext1, ext2, nilP_mk, nilS_mk, fldv_agg, jn0_k, jn1_k, jn2_k, jn1_and, jn1_or, ex_some, Option.isNone_some, Option.isNone_none, Bool.false_bne, Bool.bne_true, Bool.bne_false, Bool.true_bne, Bool.not_true, Bool.not_false, Bool.and_true, Bool.true_and, Bool.and_false, Bool.false_and, Bool.or_true, Bool.true_or, Bool.or_false, Bool.false_or, cond_true, cond_false, List.getElem?_toArray, List.getElem?_cons_zero, List.getElem?_cons_succ, Nat.zero_add, Nat.add_zero, Nat.reduceAdd, forall_const, L_api_Snow hs.p1.blk, L_api_Snow__List hs.p1.blk, L_api_Snow__Pref hs.p1.blk, L_api_Snow__Flake hs.p1.blk, L_api_Snow__Conf hs.p1.blk, L_api_Snow__Done hs.p1.blk]
  refine rows_app (q := Q_api_Choice) S_sl_api_Choice U_sl_api_Choice (by simp) (Sep.nilR hs) (hr.fr hs.fr0) (choOne x.l) (by simp; omega) (by simp; omega) fun v' w3 hs3 => ?_
  refine St_api_Snow__List hs3.p2 hs3.oneR fun w4 hs4 => ?_
  simp only [L_api_Snow hs4.blk, L_api_Snow__List hs4.blk, L_api_Snow__Pref hs4.blk, L_api_Snow__Flake hs4.blk, L_api_Snow__Conf hs4.blk, L_api_Snow__Done hs4.blk]
  refine St_api_Snow hs4.p2 (one_api_Snow hs3.oneR) fun w5 hs5 => ?_
  simp only [L_api_Snow hs5.blk, L_api_Snow__List hs5.blk, L_api_Snow__Pref hs5.blk, L_api_Snow__Flake hs5.blk, L_api_Snow__Conf hs5.blk, L_api_Snow__Done hs5.blk]
  exact hR _ _ ⟨v', rfl, hs5.p2.d2.d1⟩
theorem Prefers_spec : cal P f_snow_Prefers [snv v x] w fun r w' => r = idv (bif x.dn then x.flake else x.pref) ∧ Fr [] w w' := by
  refine s_snow_Prefers fun R hR => ?_
  unfold c_snow_Prefers
  refine bx_s (Sep.start w) fun g w1 hs => ?_
  simp only [Value.cells] at hs
  refine alloc_s hs (A_api_ID w1) fun g2 w2 hs => ?_
  simp only [nilc_some, fad_mk, pik_true, pik_false, cnd_true, cnd_false, gif_same, gif_tf, gif_ft, gif_undef, bi_add, bi_sub, bi_mul, bi_eql, bi_neq, bi_lss, bi_leq, bi_gtr, bi_geq, notB_bool, cvi_int, lenS_mk, lenT_mk, ext0, ext1, ext2, nilP_mk, nilS_mk, fldv_agg, jn0_k, jn1_k, jn2_k, jn1_and, jn1_or, ex_some, Option.isNone_some, Option.isNone_none, Bool.false_bne, Bool.bne_true, Bool.bne_false, Bool.true_bne, Bool.not_true, Bool.not_false, Bool.and_true, Bool.true_and, Bool.and_false, Bool.false_and, Bool.or_true, Bool.true_or, Bool.or_false, Bool.false_or, cond_true, cond_false, List.getElem?_toArray, List.getElem?_cons_zero, List.getElem?_cons_succ, Nat.zero_add, Nat.add_zero, Nat.reduceAdd, forall_const, L_api_Snow hs.p1.blk, L_api_Snow__List hs.p1.blk, L_api_Snow__Pref hs.p1.blk, L_api_Snow__Flake hs.p1.blk, L_api_Snow__Conf hs.p1.blk, L_api_Snow__Done hs.p1.blk]
  rw [cnd_bool]
  refine ⟨fun h => ?_, fun h => ?_⟩
  · refine St_api_ID hs fun w3 hs => ?_
    simp only [L_api_ID hs.blk]
    exact hR _ _ ⟨by rw [h]; rfl, hs.fr0⟩
  · refine St_api_ID hs fun w3 hs => ?_
    simp only [L_api_ID hs.blk]
    exact hR _ _ ⟨by rw [h]; rfl, hs.fr0⟩
theorem rPrefers_spec : cal P f_ref17_Prefers [snv v x] w fun r w' => r = idv (bif x.dn then x.flake else x.pref) ∧ Fr [] w w' := by
  refine s_ref17_Prefers fun R hR => ?_
  unfold c_ref17_Prefers
  refine bx_s (Sep.start w) fun g w1 hs => ?_
  simp only [Value.cells] at hs
  refine alloc_s hs (A_api_ID w1) fun g2 w2 hs => ?_
  simp only [nilc_some, fad_mk, pik_true, pik_false, cnd_true, cnd_false, gif_same, gif_tf, gif_ft, gif_undef, bi_add, bi_sub, bi_mul, bi_eql, bi_neq, bi_lss, bi_leq, bi_gtr, bi_geq, notB_bool, cvi_int, lenS_mk, lenT_mk, ext0, ext1, ext2, nilP_mk, nilS_mk, fldv_agg, jn0_k, jn1_k, jn2_k, jn1_and, jn1_or, ex_some, Option.isNone_some, Option.isNone_none, Bool.false_bne, Bool.bne_true, Bool.bne_false, Bool.true_bne, Bool.not_true, Bool.not_false, Bool.and_true, Bool.true_and, Bool.and_false, Bool.false_and, Bool.or_true, Bool.true_or, Bool.or_false, Bool.false_or, cond_true, cond_false, List.getElem?_toArray, List.getElem?_cons_zero, List.getElem?_cons_succ, Nat.zero_add, Nat.add_zero, Nat.reduceAdd, forall_const, L_api_Snow hs.p1.blk, L_api_Snow__List hs.p1.blk, L_api_Snow__Pref hs.p1.blk, L_api_Snow__Flake hs.p1.blk, L_api_Snow__Conf hs.p1.blk, L_api_Snow__Done hs.p1.blk]
  rw [cnd_bool]
  refine ⟨fun h => ?_, fun h => ?_⟩
  · refine St_api_ID hs fun w3 hs => ?_
    simp only [L_api_ID hs.blk]
    exact hR _ _ ⟨by rw [h]; rfl, hs.fr0⟩
  · refine St_api_ID hs fun w3 hs => ?_
    simp only [L_api_ID hs.blk]
    exact hR _ _ ⟨by rw [h]; rfl, hs.fr0⟩
theorem Has_spec (hr : Rows' Q_api_Choice w.heap v x.l) (hl : x.l.length ≤ 9223372036854775807) : cal P f_snow_Has [snv v x, idv id] w fun r w' => r = .bool (decide (0 ≤ plc x.l id)) ∧ Fr [] w w' := by
  refine s_snow_Has fun R hR => ?_
  unfold c_snow_Has
  refine bx_s (Sep.start w) fun g w1 hs => ?_
  refine bx_s hs fun g2 w2 hs => ?_
  simp only [Value.cells] at hs
  simp only [nilc_some, fad_mk, pik_true, pik_false, cnd_true, cnd_false, gif_same, gif_tf, gif_ft, gif_undef, bi_add, bi_sub, bi_mul, bi_eql, bi_neq, bi_lss, bi_leq, bi_gtr, bi_geq, notB_bool, cvi_int, lenS_mk, lenT_mk, ext0, ext1, ext2, nilP_mk, nilS_mk, fldv_agg, jn0_k, jn1_k, jn2_k, jn1_and, jn1_or, ex_some, Option.isNone_some, Option.isNone_none, Bool.false_bne, Bool.bne_true, Bool.bne_false, Bool.true_bne, Bool.not_true, Bool.not_false, Bool.and_true, Bool.true_and, Bool.and_false, Bool.false_and, Bool.or_true, Bool.true_or, Bool.or_false, Bool.false_or, cond_true, cond_false, List.getElem?_toArray, List.getElem?_cons_zero, List.getElem?_cons_succ, Nat.zero_add, Nat.add_zero, Nat.reduceAdd, forall_const, L_api_Snow hs.p1.blk, L_api_Snow__List hs.p1.blk, L_api_Snow__Pref hs.p1.blk, L_api_Snow__Flake hs.p1.blk, L_api_Snow__Conf hs.p1.blk, L_api_Snow__Done hs.p1.blk, L_api_ID hs.blk]
  refine cal_i (place_spec (hr.fr hs.fr0) hl) ?_
  rintro _ w3 ⟨rfl, hf3⟩
  simp only [nilc_some, fad_mk, pik_true, pik_false, cnd_true, cnd_false, gif_same, gif_tf, gif_ft, gif_undef, bi_add, bi_sub, bi_mul, bi_eql, bi_neq, bi_lss, bi_leq, bi_gtr, bi_geq, notB_bool, cvi_int, lenS_mk, lenT_mk, ext0, ext1, ext2, nilP_mk, nilS_mk, fldv_agg, jn0_k, jn1_k, jn2_k, jn1_and, jn1_or, ex_some, Option.isNone_some, Option.isNone_none, Bool.false_bne, Bool.bne_true, Bool.bne_false, Bool.true_bne, Bool.not_true, Bool.not_false, Bool.and_true, Bool.true_and, Bool.and_false, Bool.false_and, Bool.or_true, Bool.true_or, Bool.or_false, Bool.false_or, cond_true, cond_false, List.getElem?_toArray, List.getElem?_cons_zero, List.getElem?_cons_succ, Nat.zero_add, Nat.add_zero, Nat.reduceAdd, forall_const]
  exact hR _ _ ⟨rfl, (hs.old hf3).fr0⟩
end
end Go.Fx
