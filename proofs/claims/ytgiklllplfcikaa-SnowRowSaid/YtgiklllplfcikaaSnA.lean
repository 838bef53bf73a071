/-
  Package snow and its reference: parameters, places, which instances may be.
-/
import Derived.Test.YtgiklllplfcikaaTy
set_option linter.unusedVariables false
set_option linter.unusedSimpArgs false
namespace Go.Fx
abbrev Id := Vec 32
abbrev Par := Int × Int × Int × Int
abbrev Cho := Id × Int
structure Sn where
  l : List Cho
  pref : Id
  flake : Id
  conf : Int
  dn : Bool
/-- The value of an instance whose list is v. -/
abbrev snr (v : Value) (x : Sn) : Value × Id × Id × Int × Bool := (v, x.pref, x.flake, x.conf, x.dn)
abbrev snv (v : Value) (x : Sn) : Value := .agg (Rdr.cells Q_api_Snow (snr v x)).toArray
abbrev idv (i : Id) : Value := .agg (Rdr.cells (rVec 32) i).toArray
abbrev pav (p : Par) : Value := .agg (Rdr.cells Q_api_Params p).toArray
def parE (p : Par) : Int := if p.1 < 1 ∨ 64 < p.1 ∨ p.2.1 ≤ p.1 / 2 ∨ p.2.2.1 < p.2.1 ∨ p.1 < p.2.2.1 ∨ p.2.2.2 < 1 ∨ 1000 < p.2.2.2 then 170 else 0
def PaOk (p : Par) : Prop := -9223372036854775808 ≤ p.1 ∧ p.1 ≤ 9223372036854775807 ∧ -9223372036854775808 ≤ p.2.1 ∧ p.2.1 ≤ 9223372036854775807
theorem half {k : Int} (h : 0 ≤ k) : IntKind.i64.wrap (k.tdiv 2) = k / 2 ∨ 9223372036854775807 < k := by
  rcases Int.lt_or_le 9223372036854775807 k with h1 | h1
  · exact .inr h1
  · left
    rw [Int.tdiv_eq_ediv_of_nonneg h, wi64 (by omega) (by omega)]
theorem Params_spec {w : World} {p : Par} : cal P f_snow_Params [pav p] w fun v w' => v = .int .i64 (parE p) ∧ Fr [] w w' := by
  refine s_snow_Params fun R hR => ?_
  unfold c_snow_Params
  refine bx_s (Sep.start w) fun g w1 hs => ?_
  simp only [Value.cells] at hs
  have hg := hs.blk
  obtain ⟨k, ap, ac, be⟩ := p
  simp only [nilc_some, fad_mk, pik_true, pik_false, cnd_true, cnd_false, gif_same, gif_tf, gif_ft, gif_undef, bi_add, bi_sub, bi_mul, bi_eql, bi_neq, bi_lss, bi_leq, bi_gtr, bi_geq, notB_bool, cvi_int, lenS_mk, lenT_mk, ext0, ext1, ext2, nilP_mk, nilS_mk, fldv_agg, jn0_k, jn1_k, jn2_k, jn1_and, jn1_or, ex_some, Option.isNone_some, Option.isNone_none, Bool.false_bne, Bool.bne_true, Bool.bne_false, Bool.true_bne, Bool.not_true, Bool.not_false, Bool.and_true, Bool.true_and, Bool.and_false, Bool.false_and, Bool.or_true, Bool.true_or, Bool.or_false, Bool.false_or, cond_true, cond_false, List.getElem?_toArray, List.getElem?_cons_zero, List.getElem?_cons_succ, Nat.zero_add, Nat.add_zero, Nat.reduceAdd, forall_const, L_api_Params hg, L_api_Params__K hg, L_api_Params__AlphaPref hg, L_api_Params__AlphaConf hg, L_api_Params__Beta hg, bi_quo .i64 k 2 _ (by decide)]
  have hfin : ∀ b : Bool, b = decide (k < 1 ∨ 64 < k ∨ ap ≤ k / 2 ∨ ac < ap ∨ k < ac ∨ be < 1 ∨ 1000 < be) → cnd (.bool b) (R (.int .i64 170) w1) (R (.int .i64 0) w1) := fun b hb => by
    rw [cnd_bool]
    refine ⟨fun h => ?_, fun h => ?_⟩
    · rw [hb] at h; exact hR _ _ ⟨by rw [parE, if_pos (by simpa using h)], hs.fr0⟩
    · rw [hb] at h; exact hR _ _ ⟨by rw [parE, if_neg (by simpa using h)], hs.fr0⟩
  refine hfin _ ?_
  by_cases h1 : k < 1
  · simp [h1]
  by_cases h2 : 64 < k
  · simp [h2]
  rcases half (k := k) (by omega) with e | e
  · rw [e]
    simp [Bool.or_assoc]
  · omega
theorem rParams_spec {w : World} {p : Par} (hp : PaOk p) : cal P f_ref17_Params [pav p] w fun v w' => v = .int .i64 (parE p) ∧ Fr [] w w' := by
  refine s_ref17_Params fun R hR => ?_
  unfold c_ref17_Params
  refine bx_s (Sep.start w) fun g w1 hs => ?_
  simp only [Value.cells] at hs
  have hg := hs.blk
  obtain ⟨k, ap, ac, be⟩ := p
  obtain ⟨a1, a2, a3, a4⟩ := hp
  simp only at a1 a2 a3 a4
  simp only [nilc_some, fad_mk, pik_true, pik_false, cnd_true, cnd_false, gif_same, gif_tf, gif_ft, gif_undef, bi_add, bi_sub, bi_mul, bi_eql, bi_neq, bi_lss, bi_leq, bi_gtr, bi_geq, notB_bool, cvi_int, lenS_mk, lenT_mk, ext0, ext1, ext2, nilP_mk, nilS_mk, fldv_agg, jn0_k, jn1_k, jn2_k, jn1_and, jn1_or, ex_some, Option.isNone_some, Option.isNone_none, Bool.false_bne, Bool.bne_true, Bool.bne_false, Bool.true_bne, Bool.not_true, Bool.not_false, Bool.and_true, Bool.true_and, Bool.and_false, Bool.false_and, Bool.or_true, Bool.true_or, Bool.or_false, Bool.false_or, cond_true, cond_false, List.getElem?_toArray, List.getElem?_cons_zero, List.getElem?_cons_succ, Nat.zero_add, Nat.add_zero, Nat.reduceAdd, forall_const, L_api_Params hg, L_api_Params__K hg, L_api_Params__AlphaPref hg, L_api_Params__AlphaConf hg, L_api_Params__Beta hg]
  have hfin : ∀ b : Bool, b = decide (k < 1 ∨ 64 < k ∨ ap ≤ k / 2 ∨ ac < ap ∨ k < ac ∨ be < 1 ∨ 1000 < be) → cnd (.bool b) (R (.int .i64 170) w1) (R (.int .i64 0) w1) := fun b hb => by
    rw [cnd_bool]
    refine ⟨fun h => ?_, fun h => ?_⟩
    · rw [hb] at h; exact hR _ _ ⟨by rw [parE, if_pos (by simpa using h)], hs.fr0⟩
    · rw [hb] at h; exact hR _ _ ⟨by rw [parE, if_neg (by simpa using h)], hs.fr0⟩
  refine hfin _ ?_
  by_cases h1 : k < 1
  · simp [h1]
  by_cases h2 : 64 < k
  · simp [h2]
  by_cases h3 : ap < 1
  · have : ap ≤ k / 2 := by omega
    simp [h3, this]
  rw [wi64 (by omega) (by omega)]
  have e : ap ≤ k - ap ↔ ap ≤ k / 2 := by omega
  rw [Bool.eq_iff_iff]
  simp only [Bool.or_eq_true, decide_eq_true_eq, e]
  omega
/-- The place of the first choice of a name; -1: there is none. -/
def plc (l : List Cho) (id : Id) : Int := match l.findIdx? (fun c => decide (c.1 = id)) with
  | some i => i
  | none => -1
theorem plc_at {l : List Cho} {id : Id} {i : Nat} {c : Cho} (hi : l[i]? = some c) (hc : c.1 = id) (hb : ∀ (j : Nat) (d : Cho), j < i → l[j]? = some d → d.1 ≠ id) : plc l id = i := by
  have : l.findIdx? (fun c => decide (c.1 = id)) = some i := by
    rw [List.findIdx?_eq_some_iff_getElem]
    have hlt := (List.getElem?_eq_some_iff.1 hi).1
    refine ⟨hlt, ?_, fun j hj => ?_⟩
    · rw [List.getElem?_eq_getElem hlt] at hi
      simp only [Option.some.injEq] at hi
      rw [hi]
      simpa using hc
    · have := hb j _ hj (List.getElem?_eq_getElem (by omega))
      simpa using this
  rw [plc, this]
theorem plc_none {l : List Cho} {id : Id} (hb : ∀ (j : Nat) (d : Cho), l[j]? = some d → d.1 ≠ id) : plc l id = -1 := by
  have : l.findIdx? (fun c => decide (c.1 = id)) = none := by
    rw [List.findIdx?_eq_none_iff]
    intro c hc
    obtain ⟨j, hj⟩ := List.mem_iff_getElem?.1 hc
    simpa using hb j c hj
  rw [plc, this]
theorem plc_cases (l : List Cho) (id : Id) : (plc l id = -1 ∧ ∀ (j : Nat) (d : Cho), l[j]? = some d → d.1 ≠ id) ∨
    ∃ i c, plc l id = ((i : Nat) : Int) ∧ l[i]? = some c ∧ c.1 = id ∧ ∀ (j : Nat) (d : Cho), j < i → l[j]? = some d → d.1 ≠ id := by
  unfold plc
  cases h : l.findIdx? (fun c => decide (c.1 = id)) with
  | none =>
    rw [List.findIdx?_eq_none_iff] at h
    exact .inl ⟨rfl, fun j d hj => by simpa using h d (List.mem_of_getElem? hj)⟩
  | some i =>
    rw [List.findIdx?_eq_some_iff_getElem] at h
    obtain ⟨hlt, h1, h2⟩ := h
    exact .inr ⟨i, l[i], rfl, List.getElem?_eq_getElem hlt, by simpa using h1, fun j d hj hd => by
      rw [List.getElem?_eq_getElem (by omega)] at hd
      simp only [Option.some.injEq] at hd
      rw [← hd]
      simpa using h2 j hj⟩
section
variable {w : World} {v : Value} {x : Sn} {id : Id}
theorem place_spec (hr : Rows' Q_api_Choice w.heap v x.l) (hl : x.l.length ≤ 9223372036854775807) : cal P f_snow_place [snv v x, idv id] w fun r w' => r = .int .i64 (plc x.l id) ∧ Fr [] w w' := by
  refine s_snow_place fun R hR => ?_
  unfold c_snow_place
  refine bx_s (Sep.start w) fun g w1 hs => ?_
  refine bx_s hs fun g2 w2 hs => ?_
  simp only [Value.cells] at hs
  simp only [nilc_some, fad_mk, pik_true, pik_false, cnd_true, cnd_false, gif_same, gif_tf, gif_ft, gif_undef, bi_add, bi_sub, bi_mul, bi_eql, bi_neq, bi_lss, bi_leq, bi_gtr, bi_geq, notB_bool, cvi_int, lenS_mk, lenT_mk, ext0, ext1, ext2, nilP_mk, nilS_mk, fldv_agg, jn0_k, jn1_k, jn2_k, jn1_and, jn1_or, ex_some, Option.isNone_some, Option.isNone_none, Bool.false_bne, Bool.bne_true, Bool.bne_false, Bool.true_bne, Bool.not_true, Bool.not_false, Bool.and_true, Bool.true_and, Bool.and_false, Bool.false_and, Bool.or_true, Bool.true_or, Bool.or_false, Bool.false_or, cond_true, cond_false, List.getElem?_toArray, List.getElem?_cons_zero, List.getElem?_cons_succ, Nat.zero_add, Nat.add_zero, Nat.reduceAdd, forall_const, L_api_Snow hs.p1.blk, L_api_Snow__List hs.p1.blk, L_api_Snow__Pref hs.p1.blk, L_api_Snow__Flake hs.p1.blk, L_api_Snow__Conf hs.p1.blk, L_api_Snow__Done hs.p1.blk]
  refine cal_i (K' := fun r w' => r = .int .i64 (plc x.l id) ∧ Fr [] w w') ?_ fun r w' h => hR _ _ h
  refine s_slices_IndexFunc_api_Choice_api_Choice fun R hR => ?_
  unfold c_slices_IndexFunc_api_Choice_api_Choice
  simp only [(hr.fr hs.fr0).len]
  refine ⟨fun y w' => ∃ i : Nat, i ≤ x.l.length ∧ y = .int .i64 i ∧ (∀ (j : Nat) (d : Cho), j < i → x.l[j]? = some d → d.1 ≠ id) ∧ Sep w w' [blk g2 (Rdr.cells (rVec 32) id).toArray T_api_ID], fun y _ => (x.l.length - RowKit.intOf y).toNat,
    ⟨0, by omega, rfl, by simp, hs.d1⟩, ?_⟩
  rintro _ w3 ⟨i, hi, rfl, hno, hs3⟩ -
  simp only [nilc_some, fad_mk, pik_true, pik_false, cnd_true, cnd_false, gif_same, gif_tf, gif_ft, gif_undef, bi_add, bi_sub, bi_mul, bi_eql, bi_neq, bi_lss, bi_leq, bi_gtr, bi_geq, notB_bool, cvi_int, lenS_mk, lenT_mk, ext0, ext1, ext2, nilP_mk, nilS_mk, fldv_agg, jn0_k, jn1_k, jn2_k, jn1_and, jn1_or, ex_some, Option.isNone_some, Option.isNone_none, Bool.false_bne, Bool.bne_true, Bool.bne_false, Bool.true_bne, Bool.not_true, Bool.not_false, Bool.and_true, Bool.true_and, Bool.and_false, Bool.false_and, Bool.or_true, Bool.true_or, Bool.or_false, Bool.false_or, cond_true, cond_false, List.getElem?_toArray, List.getElem?_cons_zero, List.getElem?_cons_succ, Nat.zero_add, Nat.add_zero, Nat.reduceAdd, forall_const]
  rw [cnd_bool]
  refine ⟨fun h => ?_, fun h => ?_⟩
  · have hlt : i < x.l.length := by simpa using h
    obtain ⟨c, hc⟩ : ∃ c, x.l[i]? = some c := ⟨_, List.getElem?_eq_getElem hlt⟩
    refine (hr.fr hs3.fr0).ldN (by decide) hc _ ?_
    refine calV_i (first := []) (cap := [.pointer (some ⟨g2, 0, none⟩)]) (K' := fun r w' => r = .bool (decide (c.1 = id)) ∧ Sep w w' [blk g2 (Rdr.cells (rVec 32) id).toArray T_api_ID]) (by kernel_rfl) ?_ ?_
    · refine s_snow_place_1 fun R hR => ?_
      unfold c_snow_place_1
      refine bx_s hs3 fun g4 w4 hs4 => ?_
      simp only [Value.cells] at hs4
      simp only [nilc_some, fad_mk, pik_true, pik_false, cnd_true, cnd_false, gif_same, gif_tf, gif_ft, gif_undef, bi_add, bi_sub, bi_mul, bi_eql, bi_neq, bi_lss, bi_leq, bi_gtr, bi_geq, notB_bool, cvi_int, lenS_mk, lenT_mk, ext0, ext1, ext2, nilP_mk, nilS_mk, fldv_agg, jn0_k, jn1_k, jn2_k, jn1_and, jn1_or, ex_some, Option.isNone_some, Option.isNone_none, Bool.false_bne, Bool.bne_true, Bool.bne_false, Bool.true_bne, Bool.not_true, Bool.not_false, Bool.and_true, Bool.true_and, Bool.and_false, Bool.false_and, Bool.or_true, Bool.true_or, Bool.or_false, Bool.false_or, cond_true, cond_false, List.getElem?_toArray, List.getElem?_cons_zero, List.getElem?_cons_succ, Nat.zero_add, Nat.add_zero, Nat.reduceAdd, forall_const, L_api_Choice hs4.blk, L_api_Choice__ID hs4.blk, L_api_Choice__Strength hs4.blk, L_api_ID hs4.p1.blk, eq_api_ID]
      exact hR _ _ ⟨rfl, hs4.tail⟩
    · rintro _ w4 ⟨rfl, hs4⟩
      rw [cnd_bool]
      refine ⟨fun h => ?_, fun hne => ?_⟩
      · exact hR _ _ ⟨by rw [plc_at hc (by simpa using h) hno], hs4.fr0⟩
      · rw [wi64 (by omega) (by omega)]
        refine ⟨⟨i + 1, by omega, by simp, fun j d hj hd => ?_, hs4⟩, by simp [RowKit.intOf]; omega⟩
        by_cases hji : j = i
        · subst hji; rw [hc] at hd; cases hd; simpa using hne
        · exact hno j d (by omega) hd
  · have hge : i = x.l.length := by simp at h; omega
    exact hR _ _ ⟨by rw [plc_none fun j d hd => hno j d (by have := (List.getElem?_eq_some_iff.1 hd).1; omega) hd], hs3.fr0⟩
theorem rPlace_spec (hr : Rows' Q_api_Choice w.heap v x.l) (hl : x.l.length ≤ 9223372036854775807) : cal P f_ref17_Place [snv v x, idv id] w fun r w' => r = .int .i64 (plc x.l id) ∧ Fr [] w w' := by
  refine s_ref17_Place fun R hR => ?_
  unfold c_ref17_Place
  refine bx_s (Sep.start w) fun g w1 hs => ?_
  refine bx_s hs fun g2 w2 hs => ?_
  simp only [Value.cells] at hs
  refine ⟨fun y w' => ∃ i : Nat, i ≤ x.l.length ∧ y = .int .i64 i ∧ (∀ (j : Nat) (d : Cho), j < i → x.l[j]? = some d → d.1 ≠ id) ∧ Sep w w' [blk g2 (Rdr.cells (rVec 32) id).toArray T_api_ID, blk g (Rdr.cells Q_api_Snow (snr v x)).toArray T_api_Snow], fun y _ => (x.l.length - RowKit.intOf y).toNat,
    ⟨0, by omega, rfl, by simp, hs⟩, ?_⟩
  rintro _ w3 ⟨i, hi, rfl, hno, hs3⟩ -
  simp only [nilc_some, fad_mk, pik_true, pik_false, cnd_true, cnd_false, gif_same, gif_tf, gif_ft, gif_undef, bi_add, bi_sub, bi_mul, bi_eql, bi_neq, bi_lss, bi_leq, bi_gtr, bi_geq, notB_bool, cvi_int, lenS_mk, lenT_mk, ext0, ext1, ext2, nilP_mk, nilS_mk, fldv_agg, jn0_k, jn1_k, jn2_k, jn1_and, jn1_or, ex_some, Option.isNone_some, Option.isNone_none, Bool.false_bne, Bool.bne_true, Bool.bne_false, Bool.true_bne, Bool.not_true, Bool.not_false, Bool.and_true, Bool.true_and, Bool.and_false, Bool.false_and, Bool.or_true, Bool.true_or, Bool.or_false, Bool.false_or, cond_true, cond_false, List.getElem?_toArray, List.getElem?_cons_zero, List.getElem?_cons_succ, Nat.zero_add, Nat.add_zero, Nat.reduceAdd, forall_const, L_api_Snow hs3.p1.blk, L_api_Snow__List hs3.p1.blk, L_api_Snow__Pref hs3.p1.blk, L_api_Snow__Flake hs3.p1.blk, L_api_Snow__Conf hs3.p1.blk, L_api_Snow__Done hs3.p1.blk, (hr.fr hs3.fr0).len]
  rw [cnd_bool]
  refine ⟨fun h => ?_, fun h => ?_⟩
  · have hlt : i < x.l.length := by simpa using h
    obtain ⟨c, hc⟩ : ∃ c, x.l[i]? = some c := ⟨_, List.getElem?_eq_getElem hlt⟩
    refine drw_s hs3 fun w4 hs4 _ => ?_
    simp only [nilc_some, fad_mk, pik_true, pik_false, cnd_true, cnd_false, gif_same, gif_tf, gif_ft, gif_undef, bi_add, bi_sub, bi_mul, bi_eql, bi_neq, bi_lss, bi_leq, bi_gtr, bi_geq, notB_bool, cvi_int, lenS_mk, lenT_mk, ext0, ext1, ext2, nilP_mk, nilS_mk, fldv_agg, jn0_k, jn1_k, jn2_k, jn1_and, jn1_or, ex_some, Option.isNone_some, Option.isNone_none, Bool.false_bne, Bool.bne_true, Bool.bne_false, Bool.true_bne, Bool.not_true, Bool.not_false, Bool.and_true, Bool.true_and, Bool.and_false, Bool.false_and, Bool.or_true, Bool.true_or, Bool.or_false, Bool.false_or, cond_true, cond_false, List.getElem?_toArray, List.getElem?_cons_zero, List.getElem?_cons_succ, Nat.zero_add, Nat.add_zero, Nat.reduceAdd, forall_const, L_api_Snow hs4.p1.blk, L_api_Snow__List hs4.p1.blk, L_api_Snow__Pref hs4.p1.blk, L_api_Snow__Flake hs4.p1.blk, L_api_Snow__Conf hs4.p1.blk, L_api_Snow__Done hs4.p1.blk]
    obtain ⟨g5, o5, hat, hix⟩ := (hr.fr hs4.fr0).ix (by decide) hc
    have hix' : ∀ K, ixs 33 v (.int .i64 (i : Int)) K = K (.pointer (some ⟨g5, o5, none⟩)) := hix .i64
    simp only [nilc_some, fad_mk, pik_true, pik_false, cnd_true, cnd_false, gif_same, gif_tf, gif_ft, gif_undef, bi_add, bi_sub, bi_mul, bi_eql, bi_neq, bi_lss, bi_leq, bi_gtr, bi_geq, notB_bool, cvi_int, lenS_mk, lenT_mk, ext0, ext1, ext2, nilP_mk, nilS_mk, fldv_agg, jn0_k, jn1_k, jn2_k, jn1_and, jn1_or, ex_some, Option.isNone_some, Option.isNone_none, Bool.false_bne, Bool.bne_true, Bool.bne_false, Bool.true_bne, Bool.not_true, Bool.not_false, Bool.and_true, Bool.true_and, Bool.and_false, Bool.false_and, Bool.or_true, Bool.true_or, Bool.or_false, Bool.false_or, cond_true, cond_false, List.getElem?_toArray, List.getElem?_cons_zero, List.getElem?_cons_succ, Nat.zero_add, Nat.add_zero, Nat.reduceAdd, forall_const, hix', LA_api_Choice__ID hat, L_api_ID hs4.blk, eq_api_ID]
    rw [cnd_bool]
    refine ⟨fun h => ?_, fun hne => ?_⟩
    · exact hR _ _ ⟨by rw [plc_at hc (by simpa using h) hno], hs4.fr0⟩
    · rw [wi64 (by omega) (by omega)]
      refine ⟨⟨i + 1, by omega, by simp, fun j d hj hd => ?_, hs4⟩, by simp [RowKit.intOf]; omega⟩
      by_cases hji : j = i
      · subst hji; rw [hc] at hd; cases hd; simpa using hne
      · exact hno j d (by omega) hd
  · have hge : i = x.l.length := by simp at h; omega
    exact hR _ _ ⟨by rw [plc_none fun j d hd => hno j d (by have := (List.getElem?_eq_some_iff.1 hd).1; omega) hd], hs3.fr0⟩
end
end Go.Fx
