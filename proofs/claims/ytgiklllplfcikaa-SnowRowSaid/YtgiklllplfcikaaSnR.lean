/-
  The law SnowRow: the walk.
-/
import Derived.Test.YtgiklllplfcikaaSnQ
set_option linter.unusedVariables false
set_option linter.unusedSimpArgs false
namespace Go.Fx
theorem SnowRow_walk {w : World} {p : Par} {id : Id} {u : Value} {l : List Act} (rd0 : Rdr.ok R_api_Params w.heap p) (rd2 : Rdr.ok R_sl_flurrylaw17_Act w.heap ⟨u, l⟩) :
    cal P f_law17_SnowRow [pav p, idv id, u] w fun r w' => r = .bool true ∧ Fr [] w w' := by
  have hp := paOk rd0
  refine s_law17_SnowRow fun R hR => ?_
  unfold c_law17_SnowRow
  refine bx_s (Sep.start w) fun g1 w1 hs => ?_
  refine bx_s hs fun g2 w2 hs => ?_
  simp only [Value.cells] at hs
  have hlive : ∀ w', Fr [] w w' → cal P f_law17_live [] w' R := fun w' hf => cal_i live_spec fun r w'' ⟨h1, h2⟩ => hR _ _ ⟨h1, (((Sep.start w).old hf).old h2).fr0⟩
  simp only [L_api_Params hs.p1.blk, L_api_Params__K hs.p1.blk, L_api_Params__AlphaPref hs.p1.blk, L_api_Params__AlphaConf hs.p1.blk, L_api_Params__Beta hs.p1.blk, L_api_ID hs.blk]
  refine cal_i New_spec ?_
  rintro _ w3 ⟨v0, rfl, hs3⟩
  replace hs3 := hs.join hs3
  simp only [nilc_some, fad_mk, pik_true, pik_false, cnd_true, cnd_false, gif_same, gif_tf, gif_ft, gif_undef, bi_add, bi_sub, bi_mul, bi_eql, bi_neq, bi_lss, bi_leq, bi_gtr, bi_geq, notB_bool, cvi_int, lenS_mk, lenT_mk, ext0, ext1, ext2, nilP_mk, nilS_mk, fldv_agg, jn0_k, jn1_k, jn2_k, jn1_and, jn1_or, ex_some, Option.isNone_some, Option.isNone_none, Bool.false_bne, Bool.bne_true, Bool.bne_false, Bool.true_bne, Bool.not_true, Bool.not_false, Bool.and_true, Bool.true_and, Bool.and_false, Bool.false_and, Bool.or_true, Bool.true_or, Bool.or_false, Bool.false_or, cond_true, cond_false, List.getElem?_toArray, List.getElem?_cons_zero, List.getElem?_cons_succ, Nat.zero_add, Nat.add_zero, Nat.reduceAdd, forall_const]
  refine alloc_s hs3 (A_api_Snow w3) fun g7 w4 hs4 => ?_
  refine St_api_Snow hs4 (one_api_Snow hs3.oneR) fun w5 hs5 => ?_
  refine cal_i live_spec ?_
  rintro _ w6 ⟨rfl, hf6⟩
  replace hs5 := hs5.old hf6
  have lenA : ∀ K, lenS u K = K (.int .i64 l.length) := fun K => rSl_len (s := ⟨u, l⟩) rd2 K
  simp only [nilc_some, fad_mk, pik_true, pik_false, cnd_true, cnd_false, gif_same, gif_tf, gif_ft, gif_undef, bi_add, bi_sub, bi_mul, bi_eql, bi_neq, bi_lss, bi_leq, bi_gtr, bi_geq, notB_bool, cvi_int, lenS_mk, lenT_mk, ext0, ext1, ext2, nilP_mk, nilS_mk, fldv_agg, jn0_k, jn1_k, jn2_k, jn1_and, jn1_or, ex_some, Option.isNone_some, Option.isNone_none, Bool.false_bne, Bool.bne_true, Bool.bne_false, Bool.true_bne, Bool.not_true, Bool.not_false, Bool.and_true, Bool.true_and, Bool.and_false, Bool.false_and, Bool.or_true, Bool.true_or, Bool.or_false, Bool.false_or, cond_true, cond_false, List.getElem?_toArray, List.getElem?_cons_zero, List.getElem?_cons_succ, Nat.zero_add, Nat.add_zero, Nat.reduceAdd, forall_const, lenA]
  rw [cnd_bool]
  refine ⟨fun h => hlive _ hs5.fr0, fun h => ?_⟩
  have hpar : parE p = 0 := by
    refine Classical.byContradiction fun hc => ?_
    have : (newM p id).2 = parE p := by rw [newM, if_pos hc]
    simp [this, hc] at h
  have hlen : l.length ≤ 200 := by simp at h; omega
  obtain ⟨hm, hm2, hmd, hmc⟩ := new_may (id := id) hpar
  obtain ⟨q1, q2, q3, q4, q5, q6, q7⟩ := parE_zero hpar
  refine alloc_s hs5 (A_api_ID w6) fun g10 w7 hs7 => ?_
  refine ⟨fun a b c w' => ∃ (row : Int) (dn : Bool) (i : Nat) (v' : Value) (x' : Sn) (last : Id) (Bs : List Asn), a = .int .i64 row ∧ b = .bool dn ∧ c = .int .i64 i ∧ i ≤ l.length ∧ 0 ≤ row ∧ row ≤ i ∧ RowI p x' row last dn ∧
      (∀ z, Sep w z Bs → Rows' Q_api_Choice z.heap v' x'.l) ∧ Sep w w' (blk g10 (Rdr.cells (rVec 32) last).toArray T_api_ID :: sn g7 v' x' :: blk g1 (Rdr.cells Q_api_Params p).toArray T_api_Params :: Bs),
    fun _ _ z _ => (l.length - RowKit.intOf z).toNat, ⟨0, false, 0, v0, (newM p id).1, vz 32, [rows Q_api_Choice v0 (newM p id).1.l], rfl, rfl, rfl, by omega, by omega, by omega, ⟨hm, hmd, fun _ => ⟨hmc.symm, .inl rfl⟩⟩, fun z hz => Sep.rows hz, hs7.d3.p3.p2.p2⟩, ?_⟩
  rintro _ _ _ w8 ⟨row, dn, i, v1, x1, last, Bs, rfl, rfl, rfl, hi, hr0, hri, hI, hk1, hs8⟩ -
  simp only [nilc_some, fad_mk, pik_true, pik_false, cnd_true, cnd_false, gif_same, gif_tf, gif_ft, gif_undef, bi_add, bi_sub, bi_mul, bi_eql, bi_neq, bi_lss, bi_leq, bi_gtr, bi_geq, notB_bool, cvi_int, lenS_mk, lenT_mk, ext0, ext1, ext2, nilP_mk, nilS_mk, fldv_agg, jn0_k, jn1_k, jn2_k, jn1_and, jn1_or, ex_some, Option.isNone_some, Option.isNone_none, Bool.false_bne, Bool.bne_true, Bool.bne_false, Bool.true_bne, Bool.not_true, Bool.not_false, Bool.and_true, Bool.true_and, Bool.and_false, Bool.false_and, Bool.or_true, Bool.true_or, Bool.or_false, Bool.false_or, cond_true, cond_false, List.getElem?_toArray, List.getElem?_cons_zero, List.getElem?_cons_succ, Nat.zero_add, Nat.add_zero, Nat.reduceAdd, forall_const]
  rw [cnd_bool]
  refine ⟨fun h => ?_, fun h => ?_⟩
  case refine_2 => exact hR _ _ ⟨rfl, hs8.fr0⟩
  have hlt : i < l.length := by simpa using h
  obtain ⟨a, ha⟩ : ∃ a, l[i]? = some a := ⟨_, List.getElem?_eq_getElem hlt⟩
  obtain ⟨ha1, ha2⟩ := actOk (rSl_ok (s := ⟨u, l⟩) rd2 ha)
  refine rSl_ldN (s := ⟨u, l⟩) (Rdr.fr _ rd2 hs8.fr0) (by decide) ha ?_
  refine alloc_s hs8 (A_flurrylaw17_Act w8) fun g13 w9 hs9 => ?_
  refine St_flurrylaw17_Act (b := acr a) hs9 one_flurrylaw17_Act fun w10 hs10 => ?_
  simp only [L_flurrylaw17_Act hs10.blk, L_flurrylaw17_Act__K hs10.blk, L_flurrylaw17_Act__N hs10.blk, L_flurrylaw17_Act__Add hs10.blk, L_flurrylaw17_Act__ID hs10.blk, L_api_Params hs10.p3.blk, L_api_Params__K hs10.p3.blk, L_api_Params__AlphaPref hs10.p3.blk, L_api_Params__AlphaConf hs10.p3.blk, L_api_Params__Beta hs10.p3.blk, L_api_Snow hs10.p2.blk, L_api_Snow__List hs10.p2.blk, L_api_Snow__Pref hs10.p2.blk, L_api_Snow__Flake hs10.p2.blk, L_api_Snow__Conf hs10.p2.blk, L_api_Snow__Done hs10.p2.blk]
  have hm1 := hI.may
  have hl1 := hm1.n2
  have hr8 := hk1 _ hs10.tail.tail.tail.tail
  refine cal_i (step_spec hp ha1 ha2 (may_iff.2 hm1) hr8 (by omega)) ?_
  rintro _ w11 ⟨vy, rfl, hres⟩
  have hdoes := step_does a hm1
  obtain ⟨hw1, hw2, hw3⟩ := does_row hI hdoes
  have hoy := hres.one (rows_one hr8)
  obtain ⟨Cs, hs11, hky, hCs⟩ := hres.join (As := [_, _, _, _]) (Bs := Bs) hs10 hk1
  generalize (stepM p x1 a).1 = y at *
  generalize (stepM p x1 a).2.1 = yid at *
  generalize (stepM p x1 a).2.2 = n at *
  simp only [nilc_some, fad_mk, pik_true, pik_false, cnd_true, cnd_false, gif_same, gif_tf, gif_ft, gif_undef, bi_add, bi_sub, bi_mul, bi_eql, bi_neq, bi_lss, bi_leq, bi_gtr, bi_geq, notB_bool, cvi_int, lenS_mk, lenT_mk, ext0, ext1, ext2, nilP_mk, nilS_mk, fldv_agg, jn0_k, jn1_k, jn2_k, jn1_and, jn1_or, ex_some, Option.isNone_some, Option.isNone_none, Bool.false_bne, Bool.bne_true, Bool.bne_false, Bool.true_bne, Bool.not_true, Bool.not_false, Bool.and_true, Bool.true_and, Bool.and_false, Bool.false_and, Bool.or_true, Bool.true_or, Bool.or_false, Bool.false_or, cond_true, cond_false, List.getElem?_toArray, List.getElem?_cons_zero, List.getElem?_cons_succ, Nat.zero_add, Nat.add_zero, Nat.reduceAdd, forall_const]
  refine alloc_s hs11 (A_api_Snow w11) fun g14 w12 hs12 => ?_
  refine alloc_s hs12 (A_api_ID w12) fun g15 w13 hs13 => ?_
  refine St_api_Snow hs13.p1 (one_api_Snow hoy) fun w14 hs14 => ?_
  refine St_api_ID hs14.p1 fun w15 hs15 => ?_
  simp only [nilc_some, fad_mk, pik_true, pik_false, cnd_true, cnd_false, gif_same, gif_tf, gif_ft, gif_undef, bi_add, bi_sub, bi_mul, bi_eql, bi_neq, bi_lss, bi_leq, bi_gtr, bi_geq, notB_bool, cvi_int, lenS_mk, lenT_mk, ext0, ext1, ext2, nilP_mk, nilS_mk, fldv_agg, jn0_k, jn1_k, jn2_k, jn1_and, jn1_or, ex_some, Option.isNone_some, Option.isNone_none, Bool.false_bne, Bool.bne_true, Bool.bne_false, Bool.true_bne, Bool.not_true, Bool.not_false, Bool.and_true, Bool.true_and, Bool.and_false, Bool.false_and, Bool.or_true, Bool.true_or, Bool.or_false, Bool.false_or, cond_true, cond_false, List.getElem?_toArray, List.getElem?_cons_zero, List.getElem?_cons_succ, Nat.zero_add, Nat.add_zero, Nat.reduceAdd, forall_const]
  obtain ⟨row', hrow'⟩ : ∃ r, r = rowN p row last yid n := ⟨_, rfl⟩
  have hb1 : 0 ≤ row' ∧ row' ≤ i + 1 := by
    rw [hrow', rowN]
    repeat' split
    all_goals omega
  rw [← hrow'] at hw1 hw2
  refine ⟨fun t w' => t = .int .i64 row' ∧ Sep w w' (blk g15 (Rdr.cells (rVec 32) yid).toArray T_api_ID :: sn g14 vy y :: blk g13 (Rdr.cells Q_flurrylaw17_Act (acr a)).toArray T_flurrylaw17_Act :: blk g10 (Rdr.cells (rVec 32) last).toArray T_api_ID :: sn g7 v1 x1 :: blk g1 (Rdr.cells Q_api_Params p).toArray T_api_Params :: Cs), ?_, ?_⟩
  · change cnd _ _ _
    rw [cnd_bool]
    refine ⟨fun h => ?_, fun h => ?_⟩
    · have h : n < 0 := by simpa using h
      exact ⟨by rw [hrow', rowN, if_pos h], hs15⟩
    have h0 : ¬ n < 0 := by simpa using h
    simp only [nilc_some, fad_mk, pik_true, pik_false, cnd_true, cnd_false, gif_same, gif_tf, gif_ft, gif_undef, bi_add, bi_sub, bi_mul, bi_eql, bi_neq, bi_lss, bi_leq, bi_gtr, bi_geq, notB_bool, cvi_int, lenS_mk, lenT_mk, ext0, ext1, ext2, nilP_mk, nilS_mk, fldv_agg, jn0_k, jn1_k, jn2_k, jn1_and, jn1_or, ex_some, Option.isNone_some, Option.isNone_none, Bool.false_bne, Bool.bne_true, Bool.bne_false, Bool.true_bne, Bool.not_true, Bool.not_false, Bool.and_true, Bool.true_and, Bool.and_false, Bool.false_and, Bool.or_true, Bool.true_or, Bool.or_false, Bool.false_or, cond_true, cond_false, List.getElem?_toArray, List.getElem?_cons_zero, List.getElem?_cons_succ, Nat.zero_add, Nat.add_zero, Nat.reduceAdd, forall_const, L_api_Params hs15.p5.blk, L_api_Params__K hs15.p5.blk, L_api_Params__AlphaPref hs15.p5.blk, L_api_Params__AlphaConf hs15.p5.blk, L_api_Params__Beta hs15.p5.blk]
    rw [cnd_bool]
    refine ⟨fun h => ?_, fun h => ?_⟩
    · have h : n < p.2.2.1 := by simpa using h
      exact ⟨by rw [hrow', rowN, if_neg h0, if_pos h], hs15⟩
    have h2 : ¬ n < p.2.2.1 := by simpa using h
    simp only [nilc_some, fad_mk, pik_true, pik_false, cnd_true, cnd_false, gif_same, gif_tf, gif_ft, gif_undef, bi_add, bi_sub, bi_mul, bi_eql, bi_neq, bi_lss, bi_leq, bi_gtr, bi_geq, notB_bool, cvi_int, lenS_mk, lenT_mk, ext0, ext1, ext2, nilP_mk, nilS_mk, fldv_agg, jn0_k, jn1_k, jn2_k, jn1_and, jn1_or, ex_some, Option.isNone_some, Option.isNone_none, Bool.false_bne, Bool.bne_true, Bool.bne_false, Bool.true_bne, Bool.not_true, Bool.not_false, Bool.and_true, Bool.true_and, Bool.and_false, Bool.false_and, Bool.or_true, Bool.true_or, Bool.or_false, Bool.false_or, cond_true, cond_false, List.getElem?_toArray, List.getElem?_cons_zero, List.getElem?_cons_succ, Nat.zero_add, Nat.add_zero, Nat.reduceAdd, forall_const, L_api_ID hs15.blk, L_api_ID hs15.p3.blk, eq_api_ID]
    rw [cnd_bool]
    refine ⟨fun h => ?_, fun h => ?_⟩
    · have h : yid = last := by simpa using h
      rw [wi64 (by omega) (by omega)]
      exact ⟨by rw [hrow', rowN, if_neg h0, if_neg h2, if_pos h], hs15⟩
    · have h : ¬ yid = last := by simpa using h
      exact ⟨by rw [hrow', rowN, if_neg h0, if_neg h2, if_neg h], hs15⟩
  rintro _ w16 ⟨rfl, hs16⟩ -
  refine ⟨fun w' => Sep w w' (blk g15 (Rdr.cells (rVec 32) yid).toArray T_api_ID :: sn g14 vy y :: blk g10 (Rdr.cells (rVec 32) (lastN p last yid n)).toArray T_api_ID :: sn g7 v1 x1 :: blk g1 (Rdr.cells Q_api_Params p).toArray T_api_Params :: Cs), ?_, ?_⟩
  · simp only [nilc_some, fad_mk, pik_true, pik_false, cnd_true, cnd_false, gif_same, gif_tf, gif_ft, gif_undef, bi_add, bi_sub, bi_mul, bi_eql, bi_neq, bi_lss, bi_leq, bi_gtr, bi_geq, notB_bool, cvi_int, lenS_mk, lenT_mk, ext0, ext1, ext2, nilP_mk, nilS_mk, fldv_agg, jn0_k, jn1_k, jn2_k, jn1_and, jn1_or, ex_some, Option.isNone_some, Option.isNone_none, Bool.false_bne, Bool.bne_true, Bool.bne_false, Bool.true_bne, Bool.not_true, Bool.not_false, Bool.and_true, Bool.true_and, Bool.and_false, Bool.false_and, Bool.or_true, Bool.true_or, Bool.or_false, Bool.false_or, cond_true, cond_false, List.getElem?_toArray, List.getElem?_cons_zero, List.getElem?_cons_succ, Nat.zero_add, Nat.add_zero, Nat.reduceAdd, forall_const, L_api_Params hs16.p5.blk, L_api_Params__K hs16.p5.blk, L_api_Params__AlphaPref hs16.p5.blk, L_api_Params__AlphaConf hs16.p5.blk, L_api_Params__Beta hs16.p5.blk]
    rw [cnd_bool]
    refine ⟨fun h => ?_, fun h => ?_⟩
    · have h : p.2.1 ≤ n := by simpa using h
      simp only [L_api_ID hs16.blk]
      refine St_api_ID hs16.p3 fun w17 hs17 => ?_
      rw [lastN, if_pos h]
      exact hs17.d3.p2.p2
    · have h : ¬ p.2.1 ≤ n := by simpa using h
      rw [lastN, if_neg h]
      exact hs16.d2
  intro w17 hs17 _
  obtain ⟨dn', hdn'⟩ : ∃ d, d = (dn || decide (row' = p.2.2.2)) := ⟨_, rfl⟩
  rw [← hdn'] at hw2
  have hyd : y.dn = dn' := hw2.isdn
  have hyl := hw2.may.n2
  refine ⟨fun t w' => t = .bool dn' ∧ Sep w w' (blk g15 (Rdr.cells (rVec 32) yid).toArray T_api_ID :: sn g14 vy y :: blk g10 (Rdr.cells (rVec 32) (lastN p last yid n)).toArray T_api_ID :: sn g7 v1 x1 :: blk g1 (Rdr.cells Q_api_Params p).toArray T_api_Params :: Cs), ?_, ?_⟩
  · simp only [nilc_some, fad_mk, pik_true, pik_false, cnd_true, cnd_false, gif_same, gif_tf, gif_ft, gif_undef, bi_add, bi_sub, bi_mul, bi_eql, bi_neq, bi_lss, bi_leq, bi_gtr, bi_geq, notB_bool, cvi_int, lenS_mk, lenT_mk, ext0, ext1, ext2, nilP_mk, nilS_mk, fldv_agg, jn0_k, jn1_k, jn2_k, jn1_and, jn1_or, ex_some, Option.isNone_some, Option.isNone_none, Bool.false_bne, Bool.bne_true, Bool.bne_false, Bool.true_bne, Bool.not_true, Bool.not_false, Bool.and_true, Bool.true_and, Bool.and_false, Bool.false_and, Bool.or_true, Bool.true_or, Bool.or_false, Bool.false_or, cond_true, cond_false, List.getElem?_toArray, List.getElem?_cons_zero, List.getElem?_cons_succ, Nat.zero_add, Nat.add_zero, Nat.reduceAdd, forall_const, L_api_Params hs17.p4.blk, L_api_Params__K hs17.p4.blk, L_api_Params__AlphaPref hs17.p4.blk, L_api_Params__AlphaConf hs17.p4.blk, L_api_Params__Beta hs17.p4.blk, beq_dec]
    rw [cnd_bool]
    refine ⟨fun h => ?_, fun h => ?_⟩
    · have h : dn = false ∧ row' = p.2.2.2 := by simpa using h
      obtain ⟨e1, e2⟩ := hw1 h.1 h.2
      refine drH_S hs17 fun w18 hs18 _ => ?_
      refine rdS_at (.bool true) (fun z hz => ?_) ?_
      · show ld1 _ z.heap _
        rw [L_api_Snow__Done hz.p1.blk]
        show Value.bool y.dn = _
        rw [e1]
      simp only [nilc_some, fad_mk, pik_true, pik_false, cnd_true, cnd_false, gif_same, gif_tf, gif_ft, gif_undef, bi_add, bi_sub, bi_mul, bi_eql, bi_neq, bi_lss, bi_leq, bi_gtr, bi_geq, notB_bool, cvi_int, lenS_mk, lenT_mk, ext0, ext1, ext2, nilP_mk, nilS_mk, fldv_agg, jn0_k, jn1_k, jn2_k, jn1_and, jn1_or, ex_some, Option.isNone_some, Option.isNone_none, Bool.false_bne, Bool.bne_true, Bool.bne_false, Bool.true_bne, Bool.not_true, Bool.not_false, Bool.and_true, Bool.true_and, Bool.and_false, Bool.false_and, Bool.or_true, Bool.true_or, Bool.or_false, Bool.false_or, cond_true, cond_false, List.getElem?_toArray, List.getElem?_cons_zero, List.getElem?_cons_succ, Nat.zero_add, Nat.add_zero, Nat.reduceAdd, forall_const]
      refine jn1_dup (rdS_at (snv vy y) (fun z hz => ?_) (rdS_at (idv yid) (fun z hz => ?_) (efS_i (cal_i Prefers_spec ?_))))
      · show ldN 67 _ z.heap _
        rw [L_api_Snow hz.p1.blk]
      · show ldN 32 _ z.heap _
        rw [L_api_ID hz.blk]
      rintro _ w19 ⟨rfl, hf19⟩
      have hs19 := hs18.old hf19
      refine ⟨hs19, rdS_at (.bool false) (fun z hz => ?_) ?_⟩
      · show rdP P _ z _
        rw [ne_api_ID]
        have : (bif y.dn then y.flake else y.pref) = yid := e2
        rw [this, decide_eq_true rfl]
        rfl
      simp only [nilc_some, fad_mk, pik_true, pik_false, cnd_true, cnd_false, gif_same, gif_tf, gif_ft, gif_undef, bi_add, bi_sub, bi_mul, bi_eql, bi_neq, bi_lss, bi_leq, bi_gtr, bi_geq, notB_bool, cvi_int, lenS_mk, lenT_mk, ext0, ext1, ext2, nilP_mk, nilS_mk, fldv_agg, jn0_k, jn1_k, jn2_k, jn1_and, jn1_or, ex_some, Option.isNone_some, Option.isNone_none, Bool.false_bne, Bool.bne_true, Bool.bne_false, Bool.true_bne, Bool.not_true, Bool.not_false, Bool.and_true, Bool.true_and, Bool.and_false, Bool.false_and, Bool.or_true, Bool.true_or, Bool.or_false, Bool.false_or, cond_true, cond_false, List.getElem?_toArray, List.getElem?_cons_zero, List.getElem?_cons_succ, Nat.zero_add, Nat.add_zero, Nat.reduceAdd, forall_const]
      exact ⟨by rw [hdn', h.2]; simp, hs19⟩
    · refine ⟨?_, hs17⟩
      rw [hdn']
      cases dn with
      | true => rfl
      | false => simpa using h
  rintro _ w18 ⟨rfl, hs18⟩ -
  obtain ⟨Ds, hDs⟩ : ∃ Ds, Ds = blk g15 (Rdr.cells (rVec 32) yid).toArray T_api_ID :: sn g14 vy y :: blk g10 (Rdr.cells (rVec 32) (lastN p last yid n)).toArray T_api_ID :: sn g7 v1 x1 :: blk g1 (Rdr.cells Q_api_Params p).toArray T_api_Params :: Cs := ⟨_, rfl⟩
  rw [← hDs] at hs18
  have ry : ∀ z, Sep w z Ds → ldN 67 (.pointer (some ⟨g14, 0, none⟩)) z.heap fun t => t = snv vy y := fun z hz => by
    rw [hDs] at hz; rw [L_api_Snow hz.p1.blk]
  have rx : ∀ z, Sep w z Ds → ldN 67 (.pointer (some ⟨g7, 0, none⟩)) z.heap fun t => t = snv v1 x1 := fun z hz => by
    rw [hDs] at hz; rw [L_api_Snow hz.p3.blk]
  have ryd : ∀ z, Sep w z Ds → ld1 (.pointer (some ⟨g14, 66, none⟩)) z.heap fun t => t = .bool dn' := fun z hz => by
    rw [hDs] at hz; rw [L_api_Snow__Done hz.p1.blk]; show Value.bool y.dn = _; rw [hyd]
  have rxd : ∀ z, Sep w z Ds → ld1 (.pointer (some ⟨g7, 66, none⟩)) z.heap fun t => t = .bool dn := fun z hz => by
    rw [hDs] at hz; rw [L_api_Snow__Done hz.p3.blk]; show Value.bool x1.dn = _; rw [hI.isdn]
  refine drH_S hs18 fun w19 hs19 _ => ?_
  refine rdS_at _ ryd (rdS_at (.bool false) (fun z hz => ?_) ?_)
  · show rdP P _ z _
    rw [neS_bool _ _ U_bool, bne_self_eq_false]
  simp only [nilc_some, fad_mk, pik_true, pik_false, cnd_true, cnd_false, gif_same, gif_tf, gif_ft, gif_undef, bi_add, bi_sub, bi_mul, bi_eql, bi_neq, bi_lss, bi_leq, bi_gtr, bi_geq, notB_bool, cvi_int, lenS_mk, lenT_mk, ext0, ext1, ext2, nilP_mk, nilS_mk, fldv_agg, jn0_k, jn1_k, jn2_k, jn1_and, jn1_or, ex_some, Option.isNone_some, Option.isNone_none, Bool.false_bne, Bool.bne_true, Bool.bne_false, Bool.true_bne, Bool.not_true, Bool.not_false, Bool.and_true, Bool.true_and, Bool.and_false, Bool.false_and, Bool.or_true, Bool.true_or, Bool.or_false, Bool.false_or, cond_true, cond_false, List.getElem?_toArray, List.getElem?_cons_zero, List.getElem?_cons_succ, Nat.zero_add, Nat.add_zero, Nat.reduceAdd, forall_const]
  obtain ⟨N, hN⟩ : ∃ N, N = !decide (prf y = prf x1) := ⟨_, rfl⟩
  refine jn1_opt (Q := fun z => Sep w z Ds) true dn' (.bool N) hs19 (fun h => ?_) fun w20 hs20 _ => ?_
  · refine rdS_at _ ry (rdS_at _ rx (efS_i (cal_i Prefers_spec ?_)))
    rintro _ z1 ⟨rfl, hz1⟩
    have h1 := hs19.old hz1
    refine ⟨h1, efS_i (cal_i Prefers_spec ?_)⟩
    rintro _ z2 ⟨rfl, hz2⟩
    have h2 := h1.old hz2
    refine ⟨h2, rdS_at (.bool N) (fun z hz => ?_) ⟨by rw [h]; rfl, h2⟩⟩
    show rdP P _ z _
    rw [ne_api_ID, hN]
    rfl
  obtain ⟨E, hE⟩ : ∃ E, E = (dn' && N) := ⟨_, rfl⟩
  have hEx : E = true → dn = false ∧ dn' = true := fun h => by
    rw [hE] at h
    simp at h
    refine ⟨?_, h.1⟩
    cases hdn : dn with
    | false => rfl
    | true =>
      have := hw3 hdn
      rw [hN, this] at h
      simp at h
  simp only [pik_bool, jn1_k, forall_const]
  have e98 : (bif dn' then opt (true && dn') (.bool N) else .bool false) = .bool E := by rw [hE]; cases dn' <;> rfl
  rw [e98]
  refine jn1_opt (Q := fun z => Sep w z Ds) true E (.bool true) hs20 (fun h => ?_) fun w21 hs21 _ => ?_
  · have hEt : E = true := by simpa using h
    refine rdS_at _ rxd ?_
    rw [notB_bool, (hEx hEt).1]
    exact ⟨by rw [h]; rfl, hs20⟩
  refine jn1_opt (Q := fun z => Sep w z Ds) (true && E) true (.bool true) hs21 (fun h => ?_) fun w22 hs22 _ => ?_
  · have hEt : E = true := by simpa using h
    refine rdS_at _ ryd ?_
    rw [(hEx hEt).2]
    exact ⟨by rw [h]; rfl, hs21⟩
  refine jn1_opt (Q := fun z => Sep w z Ds) true E (.bool false) hs22 (fun h => ?_) fun w23 hs23 _ => ?_
  · have hEt : E = true := by simpa using h
    rw [hEt]
    show pik (.bool true) (.bool true) _ _
    rw [pik_bool]
    show notB (.bool true) _
    rw [notB_bool]
    exact ⟨rfl, hs22⟩
  have e107 : (bif E then opt (true && E) (.bool false) else .bool false) = .bool false := by cases E <;> rfl
  simp only [pik_bool, jn1_k, forall_const, e107, cond_false, cnd_false]
  rw [hDs] at hs23
  simp only [nilc_some, fad_mk, pik_true, pik_false, cnd_true, cnd_false, gif_same, gif_tf, gif_ft, gif_undef, bi_add, bi_sub, bi_mul, bi_eql, bi_neq, bi_lss, bi_leq, bi_gtr, bi_geq, notB_bool, cvi_int, lenS_mk, lenT_mk, ext0, ext1, ext2, nilP_mk, nilS_mk, fldv_agg, jn0_k, jn1_k, jn2_k, jn1_and, jn1_or, ex_some, Option.isNone_some, Option.isNone_none, Bool.false_bne, Bool.bne_true, Bool.bne_false, Bool.true_bne, Bool.not_true, Bool.not_false, Bool.and_true, Bool.true_and, Bool.and_false, Bool.false_and, Bool.or_true, Bool.true_or, Bool.or_false, Bool.false_or, cond_true, cond_false, List.getElem?_toArray, List.getElem?_cons_zero, List.getElem?_cons_succ, Nat.zero_add, Nat.add_zero, Nat.reduceAdd, forall_const, L_api_Snow hs23.p1.blk, L_api_Snow__List hs23.p1.blk, L_api_Snow__Pref hs23.p1.blk, L_api_Snow__Flake hs23.p1.blk, L_api_Snow__Conf hs23.p1.blk, L_api_Snow__Done hs23.p1.blk]
  refine St_api_Snow hs23.p3 (one_api_Snow hoy) fun w24 hs24 => ?_
  rw [wi64 (by omega) (by omega)]
  exact ⟨⟨row', dn', i + 1, vy, y, _, Cs, rfl, rfl, by simp, by omega, hb1.1, by omega, hw2, hky, hs24.d1.d1.p1⟩, by simp [RowKit.intOf]; omega⟩
end Go.Fx
