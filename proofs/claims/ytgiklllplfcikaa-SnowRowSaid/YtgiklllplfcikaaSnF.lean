/-
  A poll, in package snow.
-/
import Derived.Test.YtgiklllplfcikaaSnE
set_option linter.unusedVariables false
set_option linter.unusedSimpArgs false
namespace Go.Fx
def updM (x : Sn) (id : Id) (k : Nat) (c : Cho) : Sn :=
  { x with l := x.l.set k (c.1, min (c.2 + 1) 1073741824), pref := if best { x with l := x.l.set k (c.1, min (c.2 + 1) 1073741824) } < min (c.2 + 1) 1073741824 then id else x.pref, flake := id }
def cfM (p : Par) (x : Sn) (id : Id) (n : Int) : Int := if n < p.2.2.1 then 0 else if id = x.flake then x.conf + 1 else 1
noncomputable def pollM (p : Par) (x : Sn) (id : Id) (n : Int) : Sn × Int :=
  if snE p x ≠ 0 then (snZ, snE p x) else if n < 0 ∨ p.1 < n then (snZ, 1) else if plc x.l id < 0 then (snZ, 4) else if x.dn then (x, 0) else if n < p.2.1 then ({ x with conf := 0 }, 0) else
  ({ updM x id (plc x.l id).toNat ((x.l[(plc x.l id).toNat]?).getD (id, 0)) with conf := cfM p x id n, dn := decide (cfM p x id n = p.2.2.2) }, 0)
theorem snE_zero {p : Par} {x : Sn} (h : snE p x = 0) : parE p = 0 ∧ ¬ headBad p x ∧ ∀ i c, x.l[i]? = some c → goodAt x c i = true := by
  by_cases h1 : parE p ≠ 0
  · rw [snE_par h1] at h; exact absurd h h1
  · have h1 : parE p = 0 := by simpa using h1
    by_cases h2 : headBad p x
    · rw [snE_head h1 h2] at h; cases h
    · refine ⟨h1, h2, fun i c hc => ?_⟩
      cases hg : goodAt x c i with
      | true => rfl
      | false => rw [snE_bad h1 hc hg] at h; cases h
theorem parE_zero {p : Par} (h : parE p = 0) : 1 ≤ p.1 ∧ p.1 ≤ 64 ∧ p.1 / 2 < p.2.1 ∧ p.2.1 ≤ p.2.2.1 ∧ p.2.2.1 ≤ p.1 ∧ 1 ≤ p.2.2.2 ∧ p.2.2.2 ≤ 1000 := by
  unfold parE at h
  split at h
  · cases h
  · omega
theorem pollM_up {p : Par} {x : Sn} {id : Id} {n : Int} {k : Nat} {c : Cho} (hE : snE p x = 0) (hn : ¬ (n < 0 ∨ p.1 < n)) (hk : plc x.l id = (k : Int)) (hc : x.l[k]? = some c) (hd : x.dn = false) (hap : ¬ n < p.2.1) :
    pollM p x id n = ({ updM x id k c with conf := cfM p x id n, dn := decide (cfM p x id n = p.2.2.2) }, 0) := by
  rw [pollM, if_neg (by simpa using hE), if_neg hn, if_neg (by omega), if_neg (by simp [hd]), if_neg hap, hk, Int.toNat_natCast, hc]
  rfl
theorem plc_set {l : List Cho} {k : Nat} {c : Cho} {s : Int} (hc : l[k]? = some c) (id : Id) : plc (l.set k (c.1, s)) id = plc l id := by
  have hlt := (List.getElem?_eq_some_iff.1 hc).1
  have hget : ∀ (j : Nat) (d : Cho), (l.set k (c.1, s))[j]? = some d → ∃ d', l[j]? = some d' ∧ d'.1 = d.1 := fun j d hd => by
    by_cases hjk : k = j
    · subst hjk
      rw [List.getElem?_set_self hlt] at hd
      cases hd
      exact ⟨c, hc, rfl⟩
    · rw [List.getElem?_set_ne hjk] at hd
      exact ⟨d, hd, rfl⟩
  have hback : ∀ (j : Nat) (d : Cho), l[j]? = some d → ∃ d', (l.set k (c.1, s))[j]? = some d' ∧ d'.1 = d.1 := fun j d hd => by
    by_cases hjk : k = j
    · subst hjk
      rw [hc] at hd
      cases hd
      exact ⟨_, List.getElem?_set_self hlt, rfl⟩
    · exact ⟨d, by rw [List.getElem?_set_ne hjk]; exact hd, rfl⟩
  rcases plc_cases l id with ⟨h1, h2⟩ | ⟨i, d, h1, h2, h3, h4⟩
  · rw [h1, plc_none fun j d hd => ?_]
    obtain ⟨d', hd', he⟩ := hget j d hd
    rw [← he]
    exact h2 j d' hd'
  · obtain ⟨d', hd', he⟩ := hback i d h2
    rw [h1, plc_at hd' (he.trans h3) fun j e hj hj' => ?_]
    obtain ⟨e', he', hee⟩ := hget j e hj'
    rw [← hee]
    exact h4 j e' hj he'
section
variable {w : World} {v u : Value} {x y : Sn} {p : Par} {id : Id} {n : Int}
theorem reach_spec : cal P f_snow_reach [pav p, .int .i64 n] w fun r w' => r = .int .i64 (if p.2.2.1 ≤ n then 2 else if p.2.1 ≤ n then 1 else 0) ∧ Fr [] w w' := by
  refine s_snow_reach fun R hR => ?_
  unfold c_snow_reach
  refine bx_s (Sep.start w) fun g w1 hs => ?_
  simp only [Value.cells] at hs
  simp only [nilc_some, fad_mk, pik_true, pik_false, cnd_true, cnd_false, gif_same, gif_tf, gif_ft, gif_undef, bi_add, bi_sub, bi_mul, bi_eql, bi_neq, bi_lss, bi_leq, bi_gtr, bi_geq, notB_bool, cvi_int, lenS_mk, lenT_mk, ext0, ext1, ext2, nilP_mk, nilS_mk, fldv_agg, jn0_k, jn1_k, jn2_k, jn1_and, jn1_or, ex_some, Option.isNone_some, Option.isNone_none, Bool.false_bne, Bool.bne_true, Bool.bne_false, Bool.true_bne, Bool.not_true, Bool.not_false, Bool.and_true, Bool.true_and, Bool.and_false, Bool.false_and, Bool.or_true, Bool.true_or, Bool.or_false, Bool.false_or, cond_true, cond_false, List.getElem?_toArray, List.getElem?_cons_zero, List.getElem?_cons_succ, Nat.zero_add, Nat.add_zero, Nat.reduceAdd, forall_const, L_api_Params hs.blk, L_api_Params__K hs.blk, L_api_Params__AlphaPref hs.blk, L_api_Params__AlphaConf hs.blk, L_api_Params__Beta hs.blk]
  rw [cnd_bool]
  refine ⟨fun h => ?_, fun h => ?_⟩
  · exact hR _ _ ⟨by rw [if_pos (by simpa using h)], hs.fr0⟩
  · rw [cnd_bool]
    refine ⟨fun h2 => ?_, fun h2 => ?_⟩
    · exact hR _ _ ⟨by rw [if_neg (by simpa using h), if_pos (by simpa using h2)], hs.fr0⟩
    · exact hR _ _ ⟨by rw [if_neg (by simpa using h), if_neg (by simpa using h2)], hs.fr0⟩
theorem Poll_spec (hr : Rows' Q_api_Choice w.heap v x.l) (hl : x.l.length ≤ 1000000) (h1 : v.oneCell' = true) : cal P f_snow_Poll [pav p, snv v x, idv id, .int .i64 n] w fun r w' => SnQ (pollM p x id n) w r w' := by
  refine s_snow_Poll fun R hR => ?_
  unfold c_snow_Poll
  refine bx_s (Sep.start w) fun g1 w1 hs => ?_
  refine bx_s hs fun g2 w2 hs => ?_
  refine bx_s hs fun g3 w3 hs => ?_
  simp only [Value.cells] at hs
  refine alloc_s hs (A_api_Snow w3) fun g4 w4 hs => ?_
  simp only [nilc_some, fad_mk, pik_true, pik_false, cnd_true, cnd_false, gif_same, gif_tf, gif_ft, gif_undef, bi_add, bi_sub, bi_mul, bi_eql, bi_neq, bi_lss, bi_leq, bi_gtr, bi_geq, notB_bool, cvi_int, lenS_mk, lenT_mk, ext0, ext1, ext2, nilP_mk, nilS_mk, fldv_agg, jn0_k, jn1_k, jn2_k, jn1_and, jn1_or, ex_some, Option.isNone_some, Option.isNone_none, Bool.false_bne, Bool.bne_true, Bool.bne_false, Bool.true_bne, Bool.not_true, Bool.not_false, Bool.and_true, Bool.true_and, Bool.and_false, Bool.false_and, Bool.or_true, Bool.true_or, Bool.or_false, Bool.false_or, cond_true, cond_false, List.getElem?_toArray, List.getElem?_cons_zero, List.getElem?_cons_succ, Nat.zero_add, Nat.add_zero, Nat.reduceAdd, forall_const, L_api_Params hs.p3.blk, L_api_Params__K hs.p3.blk, L_api_Params__AlphaPref hs.p3.blk, L_api_Params__AlphaConf hs.p3.blk, L_api_Params__Beta hs.p3.blk, L_api_Snow hs.p2.blk, L_api_Snow__List hs.p2.blk, L_api_Snow__Pref hs.p2.blk, L_api_Snow__Flake hs.p2.blk, L_api_Snow__Conf hs.p2.blk, L_api_Snow__Done hs.p2.blk]
  refine cal_i (Check_spec (hr.fr hs.fr0) (by omega)) ?_
  rintro _ w5 ⟨rfl, hf5⟩
  replace hs := hs.old hf5
  have hzero : ∀ {w' : World} {e : Int}, (pollM p x id n) = (snZ, e) → Sep w w' [blk g4 (Rdr.cells Q_api_Snow (.slice none 0 0, vz 32, vz 32, 0, false)).toArray T_api_Snow] → R (.tuple #[snv (.slice none 0 0) snZ, .int .i64 e]) w' := fun he hs' =>
    hR _ _ ⟨.slice none 0 0, by rw [he], by rw [he]; exact (Sep.nilR hs').d1⟩
  simp only [nilc_some, fad_mk, pik_true, pik_false, cnd_true, cnd_false, gif_same, gif_tf, gif_ft, gif_undef, bi_add, bi_sub, bi_mul, bi_eql, bi_neq, bi_lss, bi_leq, bi_gtr, bi_geq, notB_bool, cvi_int, lenS_mk, lenT_mk, ext0, ext1, ext2, nilP_mk, nilS_mk, fldv_agg, jn0_k, jn1_k, jn2_k, jn1_and, jn1_or, ex_some, Option.isNone_some, Option.isNone_none, Bool.false_bne, Bool.bne_true, Bool.bne_false, Bool.true_bne, Bool.not_true, Bool.not_false, Bool.and_true, Bool.true_and, Bool.and_false, Bool.false_and, Bool.or_true, Bool.true_or, Bool.or_false, Bool.false_or, cond_true, cond_false, List.getElem?_toArray, List.getElem?_cons_zero, List.getElem?_cons_succ, Nat.zero_add, Nat.add_zero, Nat.reduceAdd, forall_const]
  rw [cnd_bool]
  refine ⟨fun h => ?_, fun h => ?_⟩
  · have h : snE p x ≠ 0 := by simpa using h
    rw [B_api_Snow]
    refine St_api_Snow hs (one_api_Snow rfl) fun w5 hs => ?_
    simp only [L_api_Snow hs.blk, L_api_Snow__List hs.blk, L_api_Snow__Pref hs.blk, L_api_Snow__Flake hs.blk, L_api_Snow__Conf hs.blk, L_api_Snow__Done hs.blk]
    exact hzero (by rw [pollM, if_pos h]) hs.d1.d1.d1
  have hE : snE p x = 0 := by simpa using h
  have hE' : ¬ snE p x ≠ 0 := by simpa using h
  simp only [nilc_some, fad_mk, pik_true, pik_false, cnd_true, cnd_false, gif_same, gif_tf, gif_ft, gif_undef, bi_add, bi_sub, bi_mul, bi_eql, bi_neq, bi_lss, bi_leq, bi_gtr, bi_geq, notB_bool, cvi_int, lenS_mk, lenT_mk, ext0, ext1, ext2, nilP_mk, nilS_mk, fldv_agg, jn0_k, jn1_k, jn2_k, jn1_and, jn1_or, ex_some, Option.isNone_some, Option.isNone_none, Bool.false_bne, Bool.bne_true, Bool.bne_false, Bool.true_bne, Bool.not_true, Bool.not_false, Bool.and_true, Bool.true_and, Bool.and_false, Bool.false_and, Bool.or_true, Bool.true_or, Bool.or_false, Bool.false_or, cond_true, cond_false, List.getElem?_toArray, List.getElem?_cons_zero, List.getElem?_cons_succ, Nat.zero_add, Nat.add_zero, Nat.reduceAdd, forall_const, L_api_Params hs.p3.blk, L_api_Params__K hs.p3.blk, L_api_Params__AlphaPref hs.p3.blk, L_api_Params__AlphaConf hs.p3.blk, L_api_Params__Beta hs.p3.blk]
  rw [cnd_bool]
  refine ⟨fun h => ?_, fun h => ?_⟩
  · have h : n < 0 ∨ p.1 < n := by simpa using h
    rw [B_api_Snow]
    refine St_api_Snow hs (one_api_Snow rfl) fun w5 hs => ?_
    simp only [L_api_Snow hs.blk, L_api_Snow__List hs.blk, L_api_Snow__Pref hs.blk, L_api_Snow__Flake hs.blk, L_api_Snow__Conf hs.blk, L_api_Snow__Done hs.blk]
    exact hzero (by rw [pollM, if_neg hE', if_pos h]) hs.d1.d1.d1
  have hn : ¬ (n < 0 ∨ p.1 < n) := by simpa using h
  simp only [L_api_Snow hs.p2.blk, L_api_Snow__List hs.p2.blk, L_api_Snow__Pref hs.p2.blk, L_api_Snow__Flake hs.p2.blk, L_api_Snow__Conf hs.p2.blk, L_api_Snow__Done hs.p2.blk, L_api_ID hs.p1.blk]
  refine cal_i (place_spec (hr.fr hs.fr0) (by omega)) ?_
  rintro _ w6 ⟨rfl, hf6⟩
  replace hs := hs.old hf6
  simp only [nilc_some, fad_mk, pik_true, pik_false, cnd_true, cnd_false, gif_same, gif_tf, gif_ft, gif_undef, bi_add, bi_sub, bi_mul, bi_eql, bi_neq, bi_lss, bi_leq, bi_gtr, bi_geq, notB_bool, cvi_int, lenS_mk, lenT_mk, ext0, ext1, ext2, nilP_mk, nilS_mk, fldv_agg, jn0_k, jn1_k, jn2_k, jn1_and, jn1_or, ex_some, Option.isNone_some, Option.isNone_none, Bool.false_bne, Bool.bne_true, Bool.bne_false, Bool.true_bne, Bool.not_true, Bool.not_false, Bool.and_true, Bool.true_and, Bool.and_false, Bool.false_and, Bool.or_true, Bool.true_or, Bool.or_false, Bool.false_or, cond_true, cond_false, List.getElem?_toArray, List.getElem?_cons_zero, List.getElem?_cons_succ, Nat.zero_add, Nat.add_zero, Nat.reduceAdd, forall_const]
  rw [cnd_bool]
  refine ⟨fun h => ?_, fun h => ?_⟩
  · have h : plc x.l id < 0 := by simpa using h
    rw [B_api_Snow]
    refine St_api_Snow hs (one_api_Snow rfl) fun w5 hs => ?_
    simp only [L_api_Snow hs.blk, L_api_Snow__List hs.blk, L_api_Snow__Pref hs.blk, L_api_Snow__Flake hs.blk, L_api_Snow__Conf hs.blk, L_api_Snow__Done hs.blk]
    exact hzero (by rw [pollM, if_neg hE', if_neg hn, if_pos h]) hs.d1.d1.d1
  have hpl : ¬ plc x.l id < 0 := by simpa using h
  obtain ⟨k, c, hk, hc, hcid, _⟩ : ∃ i c, plc x.l id = ((i : Nat) : Int) ∧ x.l[i]? = some c ∧ c.1 = id ∧ ∀ (j : Nat) (d : Cho), j < i → x.l[j]? = some d → d.1 ≠ id := by
    rcases plc_cases x.l id with ⟨h1, _⟩ | h1
    · omega
    · exact h1
  have hklt := (List.getElem?_eq_some_iff.1 hc).1
  obtain ⟨hpar, hhead, hgood⟩ := snE_zero hE
  obtain ⟨q1, q2, q3, q4, q5, q6, q7⟩ := parE_zero hpar
  have hcg := hgood k c hc
  simp [goodAt] at hcg
  simp only [L_api_Snow hs.p2.blk, L_api_Snow__List hs.p2.blk, L_api_Snow__Pref hs.p2.blk, L_api_Snow__Flake hs.p2.blk, L_api_Snow__Conf hs.p2.blk, L_api_Snow__Done hs.p2.blk]
  refine cal_i (own_spec (hr.fr hs.fr0) hl h1) ?_
  rintro _ w7 ⟨v', rfl, hs7⟩
  replace hs7 := hs.join hs7
  have hv' := Sep.oneR hs7
  refine St_api_Snow (Sep.p3 hs7) (one_api_Snow hv') fun w8 hs8 => ?_
  simp only [nilc_some, fad_mk, pik_true, pik_false, cnd_true, cnd_false, gif_same, gif_tf, gif_ft, gif_undef, bi_add, bi_sub, bi_mul, bi_eql, bi_neq, bi_lss, bi_leq, bi_gtr, bi_geq, notB_bool, cvi_int, lenS_mk, lenT_mk, ext0, ext1, ext2, nilP_mk, nilS_mk, fldv_agg, jn0_k, jn1_k, jn2_k, jn1_and, jn1_or, ex_some, Option.isNone_some, Option.isNone_none, Bool.false_bne, Bool.bne_true, Bool.bne_false, Bool.true_bne, Bool.not_true, Bool.not_false, Bool.and_true, Bool.true_and, Bool.and_false, Bool.false_and, Bool.or_true, Bool.true_or, Bool.or_false, Bool.false_or, cond_true, cond_false, List.getElem?_toArray, List.getElem?_cons_zero, List.getElem?_cons_succ, Nat.zero_add, Nat.add_zero, Nat.reduceAdd, forall_const, L_api_Snow hs8.blk, L_api_Snow__List hs8.blk, L_api_Snow__Pref hs8.blk, L_api_Snow__Flake hs8.blk, L_api_Snow__Conf hs8.blk, L_api_Snow__Done hs8.blk]
  rw [cnd_bool]
  refine ⟨fun hd => ?_, fun hd => ?_⟩
  · have he : pollM p x id n = (x, 0) := by rw [pollM, if_neg hE', if_neg hn, if_neg hpl, if_pos hd]
    refine St_api_Snow hs8.p2 (one_api_Snow hv') fun w9 hs9 => ?_
    simp only [L_api_Snow hs9.blk, L_api_Snow__List hs9.blk, L_api_Snow__Pref hs9.blk, L_api_Snow__Flake hs9.blk, L_api_Snow__Conf hs9.blk, L_api_Snow__Done hs9.blk]
    exact hR _ _ ⟨v', by rw [he], by rw [he]; exact hs9.p2.d1.d1.d1.d1⟩
  have hd : x.dn = false := hd
  simp only [L_api_Params hs8.p4.blk, L_api_Params__K hs8.p4.blk, L_api_Params__AlphaPref hs8.p4.blk, L_api_Params__AlphaConf hs8.p4.blk, L_api_Params__Beta hs8.p4.blk]
  refine cal_i reach_spec ?_
  rintro _ w9 ⟨rfl, hf9⟩
  have hs9 := hs8.old hf9
  refine ⟨fun y w' => ∃ (x' : Sn) (cf : Int), y = .int .i64 cf ∧ pollM p x id n = ({ x' with conf := cf, dn := decide (cf = p.2.2.2) }, 0) ∧
    Sep w w' [blk g2 (Rdr.cells Q_api_Snow (snr v' x')).toArray T_api_Snow, rows Q_api_Choice v' x'.l, blk g4 (Rdr.cells Q_api_Snow (.slice none 0 0, vz 32, vz 32, 0, false)).toArray T_api_Snow, blk g1 (Rdr.cells Q_api_Params p).toArray T_api_Params], ?_, ?_⟩
  · -- up to the join
    refine ⟨fun y w' => ¬ n < p.2.1 ∧ y = .int .i64 (cfM p x id n) ∧ Sep w w' [blk g2 (Rdr.cells Q_api_Snow (snr v' x)).toArray T_api_Snow, rows Q_api_Choice v' x.l, blk g4 (Rdr.cells Q_api_Snow (.slice none 0 0, vz 32, vz 32, 0, false)).toArray T_api_Snow, blk g3 (Rdr.cells (rVec 32) id).toArray T_api_ID, blk g1 (Rdr.cells Q_api_Params p).toArray T_api_Params], ?_, ?_⟩
    · simp only [nilc_some, fad_mk, pik_true, pik_false, cnd_true, cnd_false, gif_same, gif_tf, gif_ft, gif_undef, bi_add, bi_sub, bi_mul, bi_eql, bi_neq, bi_lss, bi_leq, bi_gtr, bi_geq, notB_bool, cvi_int, lenS_mk, lenT_mk, ext0, ext1, ext2, nilP_mk, nilS_mk, fldv_agg, jn0_k, jn1_k, jn2_k, jn1_and, jn1_or, ex_some, Option.isNone_some, Option.isNone_none, Bool.false_bne, Bool.bne_true, Bool.bne_false, Bool.true_bne, Bool.not_true, Bool.not_false, Bool.and_true, Bool.true_and, Bool.and_false, Bool.false_and, Bool.or_true, Bool.true_or, Bool.or_false, Bool.false_or, cond_true, cond_false, List.getElem?_toArray, List.getElem?_cons_zero, List.getElem?_cons_succ, Nat.zero_add, Nat.add_zero, Nat.reduceAdd, forall_const]
      by_cases hac : p.2.2.1 ≤ n
      · rw [if_pos hac]
        simp only [nilc_some, fad_mk, pik_true, pik_false, cnd_true, cnd_false, gif_same, gif_tf, gif_ft, gif_undef, bi_add, bi_sub, bi_mul, bi_eql, bi_neq, bi_lss, bi_leq, bi_gtr, bi_geq, notB_bool, cvi_int, lenS_mk, lenT_mk, ext0, ext1, ext2, nilP_mk, nilS_mk, fldv_agg, jn0_k, jn1_k, jn2_k, jn1_and, jn1_or, ex_some, Option.isNone_some, Option.isNone_none, Bool.false_bne, Bool.bne_true, Bool.bne_false, Bool.true_bne, Bool.not_true, Bool.not_false, Bool.and_true, Bool.true_and, Bool.and_false, Bool.false_and, Bool.or_true, Bool.true_or, Bool.or_false, Bool.false_or, cond_true, cond_false, List.getElem?_toArray, List.getElem?_cons_zero, List.getElem?_cons_succ, Nat.zero_add, Nat.add_zero, Nat.reduceAdd, forall_const, show ((2 : Int) == 2) = true from rfl, L_api_ID hs9.p3.blk, L_api_Snow hs9.blk, L_api_Snow__List hs9.blk, L_api_Snow__Pref hs9.blk, L_api_Snow__Flake hs9.blk, L_api_Snow__Conf hs9.blk, L_api_Snow__Done hs9.blk, eq_api_ID]
        rw [cnd_bool]
        unfold headBad at hhead
        refine ⟨fun h => ?_, fun h => ?_⟩
        · have h : id = x.flake := by simpa using h
          rw [wi64 (by omega) (by omega)]
          exact ⟨by omega, by rw [cfM, if_neg (by omega), if_pos h], hs9⟩
        · have h : ¬ id = x.flake := by simpa using h
          exact ⟨by omega, by rw [cfM, if_neg (by omega), if_neg h], hs9⟩
      · rw [if_neg hac]
        by_cases hap : p.2.1 ≤ n
        · rw [if_pos hap]
          simp only [nilc_some, fad_mk, pik_true, pik_false, cnd_true, cnd_false, gif_same, gif_tf, gif_ft, gif_undef, bi_add, bi_sub, bi_mul, bi_eql, bi_neq, bi_lss, bi_leq, bi_gtr, bi_geq, notB_bool, cvi_int, lenS_mk, lenT_mk, ext0, ext1, ext2, nilP_mk, nilS_mk, fldv_agg, jn0_k, jn1_k, jn2_k, jn1_and, jn1_or, ex_some, Option.isNone_some, Option.isNone_none, Bool.false_bne, Bool.bne_true, Bool.bne_false, Bool.true_bne, Bool.not_true, Bool.not_false, Bool.and_true, Bool.true_and, Bool.and_false, Bool.false_and, Bool.or_true, Bool.true_or, Bool.or_false, Bool.false_or, cond_true, cond_false, List.getElem?_toArray, List.getElem?_cons_zero, List.getElem?_cons_succ, Nat.zero_add, Nat.add_zero, Nat.reduceAdd, forall_const, show ((1 : Int) == 2) = false from rfl, show ((1 : Int) == 1) = true from rfl]
          exact ⟨by omega, by rw [cfM, if_pos (by omega)], hs9⟩
        · rw [if_neg hap]
          simp only [nilc_some, fad_mk, pik_true, pik_false, cnd_true, cnd_false, gif_same, gif_tf, gif_ft, gif_undef, bi_add, bi_sub, bi_mul, bi_eql, bi_neq, bi_lss, bi_leq, bi_gtr, bi_geq, notB_bool, cvi_int, lenS_mk, lenT_mk, ext0, ext1, ext2, nilP_mk, nilS_mk, fldv_agg, jn0_k, jn1_k, jn2_k, jn1_and, jn1_or, ex_some, Option.isNone_some, Option.isNone_none, Bool.false_bne, Bool.bne_true, Bool.bne_false, Bool.true_bne, Bool.not_true, Bool.not_false, Bool.and_true, Bool.true_and, Bool.and_false, Bool.false_and, Bool.or_true, Bool.true_or, Bool.or_false, Bool.false_or, cond_true, cond_false, List.getElem?_toArray, List.getElem?_cons_zero, List.getElem?_cons_succ, Nat.zero_add, Nat.add_zero, Nat.reduceAdd, forall_const, show ((0 : Int) == 2) = false from rfl, show ((0 : Int) == 1) = false from rfl]
          refine ⟨x, 0, rfl, ?_, hs9.d3⟩
          rw [pollM, if_neg hE', if_neg hn, if_neg hpl, if_neg (by simp [hd]), if_pos (by omega)]
          have : decide ((0 : Int) = p.2.2.2) = false := by simp; omega
          rw [this, hd]
    · rintro _ w10 ⟨hap, rfl, hs10⟩ -
      obtain ⟨a0, c0, hvf, _⟩ := (Sep.p1 hs10).formR
      obtain ⟨g, o, hao⟩ : ∃ g o, a0 = some ⟨g, o, none⟩ := by
        obtain ⟨g, o, c', hf⟩ := (Sep.rows hs10.p1).form (by decide) hc
        rw [hvf] at hf
        cases hf
        exact ⟨g, o, rfl⟩
      subst hvf; subst hao
      simp only [nilc_some, fad_mk, pik_true, pik_false, cnd_true, cnd_false, gif_same, gif_tf, gif_ft, gif_undef, bi_add, bi_sub, bi_mul, bi_eql, bi_neq, bi_lss, bi_leq, bi_gtr, bi_geq, notB_bool, cvi_int, lenS_mk, lenT_mk, ext0, ext1, ext2, nilP_mk, nilS_mk, fldv_agg, jn0_k, jn1_k, jn2_k, jn1_and, jn1_or, ex_some, Option.isNone_some, Option.isNone_none, Bool.false_bne, Bool.bne_true, Bool.bne_false, Bool.true_bne, Bool.not_true, Bool.not_false, Bool.and_true, Bool.true_and, Bool.and_false, Bool.false_and, Bool.or_true, Bool.true_or, Bool.or_false, Bool.false_or, cond_true, cond_false, List.getElem?_toArray, List.getElem?_cons_zero, List.getElem?_cons_succ, Nat.zero_add, Nat.add_zero, Nat.reduceAdd, forall_const, L_api_Snow hs10.blk, L_api_Snow__List hs10.blk, L_api_Snow__Pref hs10.blk, L_api_Snow__Flake hs10.blk, L_api_Snow__Conf hs10.blk, L_api_Snow__Done hs10.blk, hk]
      rw [ixs_mk _ _ _ _ _ _ _ _ (by omega) (by omega), Int.toNat_natCast]
      have hat := At.of (q := Q_api_Choice) (by decide) (Sep.rows hs10.p1) hc
      have hat' : At w10.heap g (o + k * 33) (Rdr.cells Q_api_Choice c) := hat
      simp only [nilc_some, fad_mk, pik_true, pik_false, cnd_true, cnd_false, gif_same, gif_tf, gif_ft, gif_undef, bi_add, bi_sub, bi_mul, bi_eql, bi_neq, bi_lss, bi_leq, bi_gtr, bi_geq, notB_bool, cvi_int, lenS_mk, lenT_mk, ext0, ext1, ext2, nilP_mk, nilS_mk, fldv_agg, jn0_k, jn1_k, jn2_k, jn1_and, jn1_or, ex_some, Option.isNone_some, Option.isNone_none, Bool.false_bne, Bool.bne_true, Bool.bne_false, Bool.true_bne, Bool.not_true, Bool.not_false, Bool.and_true, Bool.true_and, Bool.and_false, Bool.false_and, Bool.or_true, Bool.true_or, Bool.or_false, Bool.false_or, cond_true, cond_false, List.getElem?_toArray, List.getElem?_cons_zero, List.getElem?_cons_succ, Nat.zero_add, Nat.add_zero, Nat.reduceAdd, forall_const, LA_api_Choice__Strength hat', min_int]
      rw [wi64 (by omega) (by omega)]
      have hmin : min (c.2 + 1) 1073741824 ≤ 1073741824 := by omega
      refine rows_stV (q := Q_api_Choice) (s := rInt .i64) (b := min (c.2 + 1) 1073741824) (.snd .self) rfl hs10.p1 hc rfl rfl fun w11 hs11 => ?_
      have hset : (x.l.set k (c.1, min (c.2 + 1) 1073741824))[k]? = some (c.1, min (c.2 + 1) 1073741824) := List.getElem?_set_self hklt
      generalize hx1 : ({ x with l := x.l.set k (c.1, min (c.2 + 1) 1073741824) } : Sn) = x1 at *
      have hl1 : x1.l = x.l.set k (c.1, min (c.2 + 1) 1073741824) := by rw [← hx1]
      have hsn : ∀ z, snr z x = snr z x1 := fun z => by rw [← hx1]
      have hll : x1.l.length = x.l.length := by rw [hl1]; simp
      have hs11 : Sep w w11 [rows Q_api_Choice (.slice (some ⟨g, o, none⟩) x.l.length c0) x1.l, blk g2 (Rdr.cells Q_api_Snow (snr (.slice (some ⟨g, o, none⟩) x.l.length c0) x1)).toArray T_api_Snow, blk g4 (Rdr.cells Q_api_Snow (.slice none 0 0, vz 32, vz 32, 0, false)).toArray T_api_Snow, blk g3 (Rdr.cells (rVec 32) id).toArray T_api_ID, blk g1 (Rdr.cells Q_api_Params p).toArray T_api_Params] := by
        rw [hl1, ← hsn]; exact hs11
      have hpp : plc x1.l x1.pref = plc x.l x.pref := by rw [hl1, plc_set hc, ← hx1]
      obtain ⟨i0, d0, hpl0, hd0, _, _⟩ : ∃ i d, plc x1.l x1.pref = ((i : Nat) : Int) ∧ x1.l[i]? = some d ∧ d.1 = x1.pref ∧ ∀ (j : Nat) (d : Cho), j < i → x1.l[j]? = some d → d.1 ≠ x1.pref := by
        rcases plc_cases x1.l x1.pref with ⟨h1, _⟩ | h1
        · exfalso
          rw [hpp] at h1
          unfold headBad at hhead
          omega
        · exact h1
      have hbest : best x1 = d0.2 := by rw [best, hpl0, Int.toNat_natCast, hd0]; rfl
      refine ⟨fun w' => Sep w w' [blk g2 (Rdr.cells Q_api_Snow (snr (.slice (some ⟨g, o, none⟩) x.l.length c0) { x1 with pref := if best x1 < min (c.2 + 1) 1073741824 then id else x1.pref })).toArray T_api_Snow, rows Q_api_Choice (.slice (some ⟨g, o, none⟩) x.l.length c0) x1.l, blk g4 (Rdr.cells Q_api_Snow (.slice none 0 0, vz 32, vz 32, 0, false)).toArray T_api_Snow, blk g3 (Rdr.cells (rVec 32) id).toArray T_api_ID, blk g1 (Rdr.cells Q_api_Params p).toArray T_api_Params], ?_, ?_⟩
      · refine drH_S hs11 fun w12 hs12 _ => ?_
        have hatS : ∀ u, Sep w u [rows Q_api_Choice (.slice (some ⟨g, o, none⟩) x.l.length c0) x1.l, blk g2 (Rdr.cells Q_api_Snow (snr (.slice (some ⟨g, o, none⟩) x.l.length c0) x1)).toArray T_api_Snow, blk g4 (Rdr.cells Q_api_Snow (.slice none 0 0, vz 32, vz 32, 0, false)).toArray T_api_Snow, blk g3 (Rdr.cells (rVec 32) id).toArray T_api_ID, blk g1 (Rdr.cells Q_api_Params p).toArray T_api_Params] →
            At u.heap g (o + k * 33) (Rdr.cells Q_api_Choice (c.1, min (c.2 + 1) 1073741824)) := fun u hu => At.of (q := Q_api_Choice) (by decide) (Sep.rows hu) (by rw [hl1]; exact hset)
        refine ⟨.int .i64 (min (c.2 + 1) 1073741824), fun u hu => ?_, ?_⟩
        · show ld1 _ u.heap _
          rw [LA_api_Choice__Strength (hatS u hu)]
        refine ⟨.slice (some ⟨g, o, none⟩) x.l.length c0, fun u hu => ?_, ?_⟩
        · show ld1 _ u.heap _
          rw [L_api_Snow__List (Sep.p1 hu).blk]
        refine ⟨snv (.slice (some ⟨g, o, none⟩) x.l.length c0) x1, fun u hu => ?_, ?_⟩
        · show ldN 67 _ u.heap _
          rw [L_api_Snow (Sep.p1 hu).blk]
        refine ⟨idv x1.pref, fun u hu => ?_, ?_⟩
        · show ldN 32 _ u.heap _
          rw [L_api_Snow__Pref (Sep.p1 hu).blk]
        refine efS_i (cal_i (place_spec (Sep.rows hs12) (by omega)) ?_)
        rintro _ w13 ⟨rfl, hf13⟩
        have hs13 := hs12.old hf13
        refine ⟨hs13, ?_⟩
        rw [hpl0]
        refine rdS_row (q := Q_api_Choice) (.snd .self) rfl (by decide) hs13 (fun u hu => Sep.rows hu) hd0 .i64 ?_
        simp only [nilc_some, fad_mk, pik_true, pik_false, cnd_true, cnd_false, gif_same, gif_tf, gif_ft, gif_undef, bi_add, bi_sub, bi_mul, bi_eql, bi_neq, bi_lss, bi_leq, bi_gtr, bi_geq, notB_bool, cvi_int, lenS_mk, lenT_mk, ext0, ext1, ext2, nilP_mk, nilS_mk, fldv_agg, jn0_k, jn1_k, jn2_k, jn1_and, jn1_or, ex_some, Option.isNone_some, Option.isNone_none, Bool.false_bne, Bool.bne_true, Bool.bne_false, Bool.true_bne, Bool.not_true, Bool.not_false, Bool.and_true, Bool.true_and, Bool.and_false, Bool.false_and, Bool.or_true, Bool.true_or, Bool.or_false, Bool.false_or, cond_true, cond_false, List.getElem?_toArray, List.getElem?_cons_zero, List.getElem?_cons_succ, Nat.zero_add, Nat.add_zero, Nat.reduceAdd, forall_const]
        rw [← hbest, cnd_bool]
        refine ⟨fun h => ?_, fun h => ?_⟩
        · simp only [L_api_ID hs13.p3.blk]
          refine St_api_Snow__Pref hs13.p1 oneVec fun w14 hs14 => ?_
          rw [if_pos (by simpa using h)]
          exact hs14
        · rw [if_neg (by simpa using h)]
          exact hs13.p1
      · intro w12 hs12 _
        simp only [L_api_ID hs12.p3.blk]
        refine St_api_Snow__Flake hs12 oneVec fun w13 hs13 => ?_
        refine ⟨updM x id k c, _, rfl, ?_, ?_⟩
        · exact pollM_up hE hn hk hc hd hap
        · have hu : updM x id k c = { x1 with pref := if best x1 < min (c.2 + 1) 1073741824 then id else x1.pref, flake := id } := by
            unfold updM
            rw [hx1, ← hx1]
          rw [hu]
          exact hs13.d3
  · rintro _ w10 ⟨x', cf, rfl, he, hs10⟩ -
    refine St_api_Snow__Conf hs10 fun w11 hs11 => ?_
    simp only [nilc_some, fad_mk, pik_true, pik_false, cnd_true, cnd_false, gif_same, gif_tf, gif_ft, gif_undef, bi_add, bi_sub, bi_mul, bi_eql, bi_neq, bi_lss, bi_leq, bi_gtr, bi_geq, notB_bool, cvi_int, lenS_mk, lenT_mk, ext0, ext1, ext2, nilP_mk, nilS_mk, fldv_agg, jn0_k, jn1_k, jn2_k, jn1_and, jn1_or, ex_some, Option.isNone_some, Option.isNone_none, Bool.false_bne, Bool.bne_true, Bool.bne_false, Bool.true_bne, Bool.not_true, Bool.not_false, Bool.and_true, Bool.true_and, Bool.and_false, Bool.false_and, Bool.or_true, Bool.true_or, Bool.or_false, Bool.false_or, cond_true, cond_false, List.getElem?_toArray, List.getElem?_cons_zero, List.getElem?_cons_succ, Nat.zero_add, Nat.add_zero, Nat.reduceAdd, forall_const, L_api_Params hs11.p3.blk, L_api_Params__K hs11.p3.blk, L_api_Params__AlphaPref hs11.p3.blk, L_api_Params__AlphaConf hs11.p3.blk, L_api_Params__Beta hs11.p3.blk]
    refine St_api_Snow__Done hs11 fun w12 hs12 => ?_
    simp only [L_api_Snow hs12.blk, L_api_Snow__List hs12.blk, L_api_Snow__Pref hs12.blk, L_api_Snow__Flake hs12.blk, L_api_Snow__Conf hs12.blk, L_api_Snow__Done hs12.blk]
    refine St_api_Snow hs12.p2 (one_api_Snow hs12.p1.oneR) fun w13 hs13 => ?_
    simp only [L_api_Snow hs13.blk, L_api_Snow__List hs13.blk, L_api_Snow__Pref hs13.blk, L_api_Snow__Flake hs13.blk, L_api_Snow__Conf hs13.blk, L_api_Snow__Done hs13.blk]
    refine hR _ _ ⟨v', ?_, ?_⟩
    · rw [he, beq_dec]
    · rw [he]; exact hs13.p2.d1.d1.d1
end
end Go.Fx
