/-
  The law SnowIs: the walk.
-/
import Derived.Test.YtgiklllplfcikaaSnM
set_option linter.unusedVariables false
set_option linter.unusedSimpArgs false
namespace Go.Fx
theorem few2 {w0 w : World} {v u : Value} {x y : Sn} {As : List Asn} {K : Value → World → Prop} (hs : Sep w0 w As) (hr : Rows' Q_api_Choice w.heap v x.l) (hq : Rows' Q_api_Choice w.heap u y.l)
    (hk : ∀ w', Sep w0 w' As → K (.bool (decide (x.l.length ≤ 60) && decide (y.l.length ≤ 60))) w') :
    efP P (Instr.buildSlice T_sl_api_Snow 2 #[(0, snv v x), (1, snv u y)]) w fun t w => cal P f_law17_few [t] w K := by
  refine rows_lit (q := Q_api_Snow) (l := [snr v x, snr u y]) (V := fun c => .agg (Rdr.cells Q_api_Snow c).toArray) (Sep.start w) S_sl_api_Snow (fun a => rfl) rfl rfl (by decide) (by decide) fun g w1 hs1 => ?_
  refine cal_i (few_spec (xs := [(v, x), (u, y)]) (Sep.rows hs1) (by simp) (fun q hm => ?_)) ?_
  · simp at hm
    rcases hm with rfl | rfl
    · exact hr.fr hs1.fr0
    · exact hq.fr hs1.fr0
  rintro _ w2 ⟨rfl, hf2⟩
  have := hk w2 (hs.old (hs1.old hf2).fr0)
  simpa using this
theorem SnowIs_walk {w : World} {p : Par} {x y : SnD} {id : Id} (rd0 : Rdr.ok R_api_Params w.heap p) (rd1 : Rdr.ok R_api_Snow w.heap x) (rd2 : Rdr.ok R_api_Snow w.heap y) :
    cal P f_law17_SnowIs [pav p, snv x.1.v (snOf x), snv y.1.v (snOf y), idv id] w fun r w' => r = .bool true ∧ Fr [] w w' := by
  have hp := paOk rd0
  obtain ⟨hr, hn⟩ := snRows rd1
  obtain ⟨hr2, hn2⟩ := snRows rd2
  generalize x.1.v = v at *
  generalize snOf x = x at *
  generalize y.1.v = u at *
  generalize snOf y = y at *
  refine s_law17_SnowIs fun R hR => ?_
  unfold c_law17_SnowIs
  refine bx_s (Sep.start w) fun g1 w1 hs => ?_
  refine bx_s hs fun g2 w2 hs => ?_
  refine bx_s hs fun g3 w3 hs => ?_
  refine bx_s hs fun g4 w4 hs => ?_
  simp only [Value.cells] at hs
  have hlive : ∀ w', Fr [] w w' → cal P f_law17_live [] w' R := fun w' hf => cal_i live_spec fun r w'' ⟨h1, h2⟩ => hR _ _ ⟨h1, (((Sep.start w).old hf).old h2).fr0⟩
  refine cal_i live_spec ?_
  rintro _ w3 ⟨rfl, hf3⟩
  replace hs := hs.old hf3
  simp only [nilc_some, fad_mk, pik_true, pik_false, cnd_true, cnd_false, gif_same, gif_tf, gif_ft, gif_undef, bi_add, bi_sub, bi_mul, bi_eql, bi_neq, bi_lss, bi_leq, bi_gtr, bi_geq, notB_bool, cvi_int, lenS_mk, lenT_mk, ext0, ext1, ext2, nilP_mk, nilS_mk, fldv_agg, jn0_k, jn1_k, jn2_k, jn1_and, jn1_or, ex_some, Option.isNone_some, Option.isNone_none, Bool.false_bne, Bool.bne_true, Bool.bne_false, Bool.true_bne, Bool.not_true, Bool.not_false, Bool.and_true, Bool.true_and, Bool.and_false, Bool.false_and, Bool.or_true, Bool.true_or, Bool.or_false, Bool.false_or, cond_true, cond_false, List.getElem?_toArray, List.getElem?_cons_zero, List.getElem?_cons_succ, Nat.zero_add, Nat.add_zero, Nat.reduceAdd, forall_const, L_api_Snow hs.p2.blk, L_api_Snow__List hs.p2.blk, L_api_Snow__Pref hs.p2.blk, L_api_Snow__Flake hs.p2.blk, L_api_Snow__Conf hs.p2.blk, L_api_Snow__Done hs.p2.blk, L_api_Snow hs.p1.blk, L_api_Snow__List hs.p1.blk, L_api_Snow__Pref hs.p1.blk, L_api_Snow__Flake hs.p1.blk, L_api_Snow__Conf hs.p1.blk, L_api_Snow__Done hs.p1.blk]
  refine jn1_dup (few2 hs (hr.fr hs.fr0) (hr2.fr hs.fr0) fun w4 hs => ?_)
  simp only [nilc_some, fad_mk, pik_true, pik_false, cnd_true, cnd_false, gif_same, gif_tf, gif_ft, gif_undef, bi_add, bi_sub, bi_mul, bi_eql, bi_neq, bi_lss, bi_leq, bi_gtr, bi_geq, notB_bool, cvi_int, lenS_mk, lenT_mk, ext0, ext1, ext2, nilP_mk, nilS_mk, fldv_agg, jn0_k, jn1_k, jn2_k, jn1_and, jn1_or, ex_some, Option.isNone_some, Option.isNone_none, Bool.false_bne, Bool.bne_true, Bool.bne_false, Bool.true_bne, Bool.not_true, Bool.not_false, Bool.and_true, Bool.true_and, Bool.and_false, Bool.false_and, Bool.or_true, Bool.true_or, Bool.or_false, Bool.false_or, cond_true, cond_false, List.getElem?_toArray, List.getElem?_cons_zero, List.getElem?_cons_succ, Nat.zero_add, Nat.add_zero, Nat.reduceAdd, forall_const]
  rw [cnd_bool]
  refine ⟨fun h => hlive _ hs.fr0, fun h => ?_⟩
  have hle : x.l.length ≤ 60 ∧ y.l.length ≤ 60 := by simpa using h
  simp only [L_api_Params hs.p3.blk, L_api_Params__K hs.p3.blk, L_api_Params__AlphaPref hs.p3.blk, L_api_Params__AlphaConf hs.p3.blk, L_api_Params__Beta hs.p3.blk, L_api_ID hs.blk]
  refine cal_i New_spec ?_
  rintro _ w5 ⟨v5, rfl, hs5⟩
  replace hs5 := hs.join hs5
  simp only [nilc_some, fad_mk, pik_true, pik_false, cnd_true, cnd_false, gif_same, gif_tf, gif_ft, gif_undef, bi_add, bi_sub, bi_mul, bi_eql, bi_neq, bi_lss, bi_leq, bi_gtr, bi_geq, notB_bool, cvi_int, lenS_mk, lenT_mk, ext0, ext1, ext2, nilP_mk, nilS_mk, fldv_agg, jn0_k, jn1_k, jn2_k, jn1_and, jn1_or, ex_some, Option.isNone_some, Option.isNone_none, Bool.false_bne, Bool.bne_true, Bool.bne_false, Bool.true_bne, Bool.not_true, Bool.not_false, Bool.and_true, Bool.true_and, Bool.and_false, Bool.false_and, Bool.or_true, Bool.true_or, Bool.or_false, Bool.false_or, cond_true, cond_false, List.getElem?_toArray, List.getElem?_cons_zero, List.getElem?_cons_succ, Nat.zero_add, Nat.add_zero, Nat.reduceAdd, forall_const]
  refine alloc_s hs5 (A_api_Snow w5) fun g5 w6 hs6 => ?_
  refine St_api_Snow hs6 (one_api_Snow hs5.oneR) fun w7 hs7 => ?_
  simp only [L_api_Params (Sep.p5 hs7).blk, L_api_Params__K (Sep.p5 hs7).blk, L_api_Params__AlphaPref (Sep.p5 hs7).blk, L_api_Params__AlphaConf (Sep.p5 hs7).blk, L_api_Params__Beta (Sep.p5 hs7).blk, L_api_ID (Sep.p2 hs7).blk]
  refine cal_i (rNew_spec hp) ?_
  rintro _ w8 ⟨v8, rfl, hs8⟩
  replace hs8 := hs7.join hs8
  simp only [nilc_some, fad_mk, pik_true, pik_false, cnd_true, cnd_false, gif_same, gif_tf, gif_ft, gif_undef, bi_add, bi_sub, bi_mul, bi_eql, bi_neq, bi_lss, bi_leq, bi_gtr, bi_geq, notB_bool, cvi_int, lenS_mk, lenT_mk, ext0, ext1, ext2, nilP_mk, nilS_mk, fldv_agg, jn0_k, jn1_k, jn2_k, jn1_and, jn1_or, ex_some, Option.isNone_some, Option.isNone_none, Bool.false_bne, Bool.bne_true, Bool.bne_false, Bool.true_bne, Bool.not_true, Bool.not_false, Bool.and_true, Bool.true_and, Bool.and_false, Bool.false_and, Bool.or_true, Bool.true_or, Bool.or_false, Bool.false_or, cond_true, cond_false, List.getElem?_toArray, List.getElem?_cons_zero, List.getElem?_cons_succ, Nat.zero_add, Nat.add_zero, Nat.reduceAdd, forall_const]
  refine alloc_s hs8 (A_api_Snow w8) fun g6 w9 hs9 => ?_
  refine St_api_Snow hs9 (one_api_Snow hs8.oneR) fun w10 hs10 => ?_
  obtain ⟨As, hAs⟩ : ∃ As, As = [sn g6 v8 (newM p id).1, rows Q_api_Choice v8 (newM p id).1.l, sn g5 v5 (newM p id).1, rows Q_api_Choice v5 (newM p id).1.l, blk g4 (Rdr.cells (rVec 32) id).toArray T_api_ID, sn g3 u y, sn g2 v x, blk g1 (Rdr.cells Q_api_Params p).toArray T_api_Params] := ⟨_, rfl⟩
  replace hs10 : Sep w w10 As := by rw [hAs]; exact hs10
  have rp : ∀ z, Sep w z As → ldN 4 (.pointer (some ⟨g1, 0, none⟩)) z.heap fun x => x = pav p := fun z hz => by
    rw [hAs] at hz
    rw [L_api_Params hz.tail.tail.tail.tail.tail.tail.tail.blk]
  have ra : ∀ z, Sep w z As → ldN 67 (.pointer (some ⟨g2, 0, none⟩)) z.heap fun t => t = snv v x := fun z hz => by
    rw [hAs] at hz
    rw [L_api_Snow hz.tail.tail.tail.tail.tail.tail.blk]
  have rb : ∀ z, Sep w z As → ldN 67 (.pointer (some ⟨g3, 0, none⟩)) z.heap fun t => t = snv u y := fun z hz => by
    rw [hAs] at hz
    rw [L_api_Snow hz.tail.tail.tail.tail.tail.blk]
  have ri : ∀ z, Sep w z As → ldN 32 (.pointer (some ⟨g4, 0, none⟩)) z.heap fun t => t = idv id := fun z hz => by
    rw [hAs] at hz
    rw [L_api_ID hz.tail.tail.tail.tail.blk]
  have r5 : ∀ z, Sep w z As → ldN 67 (.pointer (some ⟨g5, 0, none⟩)) z.heap fun t => t = snv v5 (newM p id).1 := fun z hz => by
    rw [hAs] at hz
    rw [L_api_Snow hz.tail.tail.blk]
  have r6 : ∀ z, Sep w z As → ldN 67 (.pointer (some ⟨g6, 0, none⟩)) z.heap fun t => t = snv v8 (newM p id).1 := fun z hz => by
    rw [hAs] at hz
    rw [L_api_Snow hz.blk]
  have hn5 : ∀ z, Sep w z As → Rows' Q_api_Choice z.heap v5 (newM p id).1.l := fun z hz => by rw [hAs] at hz; exact Sep.rows hz.tail.tail.tail
  have hn6 : ∀ z, Sep w z As → Rows' Q_api_Choice z.heap v8 (newM p id).1.l := fun z hz => by rw [hAs] at hz; exact Sep.rows hz.tail
  have hnl : (newM p id).1.l.length ≤ 1 := by unfold newM; split <;> simp [snZ]
  clear hAs
  refine drH_S hs10 fun w11 hs11 _ => ?_
  refine rdS_at _ rp (rdS_at _ rp (efS_i (cal_i Params_spec ?_)))
  rintro _ w12 ⟨rfl, hf⟩
  replace hs11 := hs11.old hf
  refine ⟨hs11, cal_i (rParams_spec hp) ?_⟩
  rintro _ w13 ⟨rfl, hf⟩
  replace hs11 := hs11.old hf
  refine ⟨fun z => Sep w z As, hs11, ?_⟩
  simp only [nilc_some, fad_mk, pik_true, pik_false, cnd_true, cnd_false, gif_same, gif_tf, gif_ft, gif_undef, bi_add, bi_sub, bi_mul, bi_eql, bi_neq, bi_lss, bi_leq, bi_gtr, bi_geq, notB_bool, cvi_int, lenS_mk, lenT_mk, ext0, ext1, ext2, nilP_mk, nilS_mk, fldv_agg, jn0_k, jn1_k, jn2_k, jn1_and, jn1_or, ex_some, Option.isNone_some, Option.isNone_none, Bool.false_bne, Bool.bne_true, Bool.bne_false, Bool.true_bne, Bool.not_true, Bool.not_false, Bool.and_true, Bool.true_and, Bool.and_false, Bool.false_and, Bool.or_true, Bool.true_or, Bool.or_false, Bool.false_or, cond_true, cond_false, List.getElem?_toArray, List.getElem?_cons_zero, List.getElem?_cons_succ, Nat.zero_add, Nat.add_zero, Nat.reduceAdd, forall_const, beq_self_eq_true]
  refine jn1_dup (rdS_at _ rp (rdS_at _ ra (rdS_at _ rp (rdS_at _ ra (efS_i (cal_i (Check_spec (hr.fr hs11.fr0) (by omega)) ?_))))))
  rintro _ w14 ⟨rfl, hf⟩
  replace hs11 := hs11.old hf
  refine ⟨hs11, efS_i (cal_i (rCheck_spec hp (hr.fr hs11.fr0) (by omega)) ?_)⟩
  rintro _ w15 ⟨rfl, hf⟩
  replace hs11 := hs11.old hf
  refine ⟨hs11, ?_⟩
  simp only [nilc_some, fad_mk, pik_true, pik_false, cnd_true, cnd_false, gif_same, gif_tf, gif_ft, gif_undef, bi_add, bi_sub, bi_mul, bi_eql, bi_neq, bi_lss, bi_leq, bi_gtr, bi_geq, notB_bool, cvi_int, lenS_mk, lenT_mk, ext0, ext1, ext2, nilP_mk, nilS_mk, fldv_agg, jn0_k, jn1_k, jn2_k, jn1_and, jn1_or, ex_some, Option.isNone_some, Option.isNone_none, Bool.false_bne, Bool.bne_true, Bool.bne_false, Bool.true_bne, Bool.not_true, Bool.not_false, Bool.and_true, Bool.true_and, Bool.and_false, Bool.false_and, Bool.or_true, Bool.true_or, Bool.or_false, Bool.false_or, cond_true, cond_false, List.getElem?_toArray, List.getElem?_cons_zero, List.getElem?_cons_succ, Nat.zero_add, Nat.add_zero, Nat.reduceAdd, forall_const, beq_self_eq_true]
  refine jn1_dup (rdS_at _ ra (rdS_at _ rb (rdS_at _ ra (rdS_at _ rb (efS_i (cal_i (Same_spec (hr.fr hs11.fr0) (hr2.fr hs11.fr0) (by omega) (by omega)) ?_))))))
  rintro _ w16 ⟨rfl, hf⟩
  replace hs11 := hs11.old hf
  refine ⟨hs11, efS_i (cal_i (rSame_spec (hr.fr hs11.fr0) (hr2.fr hs11.fr0) (by omega) (by omega)) ?_)⟩
  rintro _ w17 ⟨rfl, hf⟩
  replace hs11 := hs11.old hf
  refine ⟨hs11, rdS_at (.bool true) (fun z hz => ?_) ?_⟩
  · show rdP P _ z _
    rw [eqS_bool _ _ U_bool, beq_self_eq_true]
  intro _
  simp only [nilc_some, fad_mk, pik_true, pik_false, cnd_true, cnd_false, gif_same, gif_tf, gif_ft, gif_undef, bi_add, bi_sub, bi_mul, bi_eql, bi_neq, bi_lss, bi_leq, bi_gtr, bi_geq, notB_bool, cvi_int, lenS_mk, lenT_mk, ext0, ext1, ext2, nilP_mk, nilS_mk, fldv_agg, jn0_k, jn1_k, jn2_k, jn1_and, jn1_or, ex_some, Option.isNone_some, Option.isNone_none, Bool.false_bne, Bool.bne_true, Bool.bne_false, Bool.true_bne, Bool.not_true, Bool.not_false, Bool.and_true, Bool.true_and, Bool.and_false, Bool.false_and, Bool.or_true, Bool.true_or, Bool.or_false, Bool.false_or, cond_true, cond_false, List.getElem?_toArray, List.getElem?_cons_zero, List.getElem?_cons_succ, Nat.zero_add, Nat.add_zero, Nat.reduceAdd, forall_const, beq_self_eq_true]
  refine jn1_dup (rdS_at _ ra (rdS_at _ ra (efS_i (cal_i (Same_spec (hr.fr hs11.fr0) (hr.fr hs11.fr0) (by omega) (by omega)) ?_))))
  rintro _ w18 ⟨rfl, hf⟩
  replace hs11 := hs11.old hf
  rw [sameS_eq rfl]
  refine ⟨hs11, ?_⟩
  simp only [nilc_some, fad_mk, pik_true, pik_false, cnd_true, cnd_false, gif_same, gif_tf, gif_ft, gif_undef, bi_add, bi_sub, bi_mul, bi_eql, bi_neq, bi_lss, bi_leq, bi_gtr, bi_geq, notB_bool, cvi_int, lenS_mk, lenT_mk, ext0, ext1, ext2, nilP_mk, nilS_mk, fldv_agg, jn0_k, jn1_k, jn2_k, jn1_and, jn1_or, ex_some, Option.isNone_some, Option.isNone_none, Bool.false_bne, Bool.bne_true, Bool.bne_false, Bool.true_bne, Bool.not_true, Bool.not_false, Bool.and_true, Bool.true_and, Bool.and_false, Bool.false_and, Bool.or_true, Bool.true_or, Bool.or_false, Bool.false_or, cond_true, cond_false, List.getElem?_toArray, List.getElem?_cons_zero, List.getElem?_cons_succ, Nat.zero_add, Nat.add_zero, Nat.reduceAdd, forall_const, beq_self_eq_true]
  refine jn1_dup (rdS_at _ r5 (rdS_at _ r6 (efS_i (cal_i (rSame_spec (hn5 _ hs11) (hn6 _ hs11) (by omega) (by omega)) ?_))))
  rintro _ w19 ⟨rfl, hf⟩
  replace hs11 := hs11.old hf
  rw [sameS_eq rfl]
  refine ⟨hs11, ?_⟩
  simp only [nilc_some, fad_mk, pik_true, pik_false, cnd_true, cnd_false, gif_same, gif_tf, gif_ft, gif_undef, bi_add, bi_sub, bi_mul, bi_eql, bi_neq, bi_lss, bi_leq, bi_gtr, bi_geq, notB_bool, cvi_int, lenS_mk, lenT_mk, ext0, ext1, ext2, nilP_mk, nilS_mk, fldv_agg, jn0_k, jn1_k, jn2_k, jn1_and, jn1_or, ex_some, Option.isNone_some, Option.isNone_none, Bool.false_bne, Bool.bne_true, Bool.bne_false, Bool.true_bne, Bool.not_true, Bool.not_false, Bool.and_true, Bool.true_and, Bool.and_false, Bool.false_and, Bool.or_true, Bool.true_or, Bool.or_false, Bool.false_or, cond_true, cond_false, List.getElem?_toArray, List.getElem?_cons_zero, List.getElem?_cons_succ, Nat.zero_add, Nat.add_zero, Nat.reduceAdd, forall_const, beq_self_eq_true]
  refine jn1_dup (rdS_at _ ra (rdS_at _ ra (efS_i (cal_i Prefers_spec ?_))))
  rintro _ w20 ⟨rfl, hf⟩
  replace hs11 := hs11.old hf
  refine ⟨hs11, efS_i (cal_i rPrefers_spec ?_)⟩
  rintro _ w21 ⟨rfl, hf⟩
  replace hs11 := hs11.old hf
  refine ⟨hs11, rdS_at (.bool true) (fun z hz => ?_) ?_⟩
  · show rdP P _ z _
    rw [eq_api_ID, decide_eq_true rfl]
  intro _
  simp only [nilc_some, fad_mk, pik_true, pik_false, cnd_true, cnd_false, gif_same, gif_tf, gif_ft, gif_undef, bi_add, bi_sub, bi_mul, bi_eql, bi_neq, bi_lss, bi_leq, bi_gtr, bi_geq, notB_bool, cvi_int, lenS_mk, lenT_mk, ext0, ext1, ext2, nilP_mk, nilS_mk, fldv_agg, jn0_k, jn1_k, jn2_k, jn1_and, jn1_or, ex_some, Option.isNone_some, Option.isNone_none, Bool.false_bne, Bool.bne_true, Bool.bne_false, Bool.true_bne, Bool.not_true, Bool.not_false, Bool.and_true, Bool.true_and, Bool.and_false, Bool.false_and, Bool.or_true, Bool.true_or, Bool.or_false, Bool.false_or, cond_true, cond_false, List.getElem?_toArray, List.getElem?_cons_zero, List.getElem?_cons_succ, Nat.zero_add, Nat.add_zero, Nat.reduceAdd, forall_const, beq_self_eq_true]
  refine jn1_dup (rdS_at _ ra (rdS_at _ ri (rdS_at _ ra (rdS_at _ ri (efS_i (cal_i (Has_spec (hr.fr hs11.fr0) (by omega)) ?_))))))
  rintro _ w22 ⟨rfl, hf⟩
  replace hs11 := hs11.old hf
  refine ⟨hs11, efS_i (cal_i (rPlace_spec (hr.fr hs11.fr0) (by omega)) ?_)⟩
  rintro _ w23 ⟨rfl, hf⟩
  replace hs11 := hs11.old hf
  refine ⟨hs11, ?_⟩
  simp only [nilc_some, fad_mk, pik_true, pik_false, cnd_true, cnd_false, gif_same, gif_tf, gif_ft, gif_undef, bi_add, bi_sub, bi_mul, bi_eql, bi_neq, bi_lss, bi_leq, bi_gtr, bi_geq, notB_bool, cvi_int, lenS_mk, lenT_mk, ext0, ext1, ext2, nilP_mk, nilS_mk, fldv_agg, jn0_k, jn1_k, jn2_k, jn1_and, jn1_or, ex_some, Option.isNone_some, Option.isNone_none, Bool.false_bne, Bool.bne_true, Bool.bne_false, Bool.true_bne, Bool.not_true, Bool.not_false, Bool.and_true, Bool.true_and, Bool.and_false, Bool.false_and, Bool.or_true, Bool.true_or, Bool.or_false, Bool.false_or, cond_true, cond_false, List.getElem?_toArray, List.getElem?_cons_zero, List.getElem?_cons_succ, Nat.zero_add, Nat.add_zero, Nat.reduceAdd, forall_const, beq_self_eq_true]
  refine rdS_at (.bool true) (fun z hz => ?_) ?_
  · show rdP P _ z _
    rw [eqS_bool _ _ U_bool, beq_self_eq_true]
  exact hR _ _ ⟨rfl, hs11.fr0⟩
end Go.Fx
