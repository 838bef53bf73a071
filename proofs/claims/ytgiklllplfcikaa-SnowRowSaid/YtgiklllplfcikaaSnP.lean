/-
  The law SnowMay: the walk.
-/
import Derived.Test.YtgiklllplfcikaaSnO
set_option linter.unusedVariables false
set_option linter.unusedSimpArgs false
namespace Go.Fx
abbrev acv (a : Act) : Value := .agg (Rdr.cells Q_flurrylaw17_Act (acr a)).toArray
theorem actOk {h : Heap} {a : Act} (ha : Rdr.ok R_flurrylaw17_Act h a) : a.1 < 256 ∧ (-9223372036854775808 ≤ a.2.1 ∧ a.2.1 ≤ 9223372036854775807) := ⟨ha.1, Go.bounds_i64 ha.2.1⟩
theorem SnowMay_walk {w : World} {p : Par} {x : SnD} {u : Value} {l : List Act} (rd0 : Rdr.ok R_api_Params w.heap p) (rd1 : Rdr.ok R_api_Snow w.heap x) (rd2 : Rdr.ok R_sl_flurrylaw17_Act w.heap ⟨u, l⟩) :
    cal P f_law17_SnowMay [pav p, snv x.1.v (snOf x), u] w fun r w' => r = .bool true ∧ Fr [] w w' := by
  have hp := paOk rd0
  obtain ⟨hr, hn⟩ := snRows rd1
  generalize x.1.v = v at *
  generalize snOf x = x at *
  have h1 := rows_one hr
  refine s_law17_SnowMay fun R hR => ?_
  unfold c_law17_SnowMay
  refine bx_s (Sep.start w) fun g1 w1 hs => ?_
  refine bx_s hs fun g2 w2 hs => ?_
  simp only [Value.cells] at hs
  have hlive : ∀ w', Fr [] w w' → cal P f_law17_live [] w' R := fun w' hf => cal_i live_spec fun r w'' ⟨h1, h2⟩ => hR _ _ ⟨h1, (((Sep.start w).old hf).old h2).fr0⟩
  refine cal_i live_spec ?_
  rintro _ w3 ⟨rfl, hf3⟩
  replace hs := hs.old hf3
  simp only [nilc_some, fad_mk, pik_true, pik_false, cnd_true, cnd_false, gif_same, gif_tf, gif_ft, gif_undef, bi_add, bi_sub, bi_mul, bi_eql, bi_neq, bi_lss, bi_leq, bi_gtr, bi_geq, notB_bool, cvi_int, lenS_mk, lenT_mk, ext0, ext1, ext2, nilP_mk, nilS_mk, fldv_agg, jn0_k, jn1_k, jn2_k, jn1_and, jn1_or, ex_some, Option.isNone_some, Option.isNone_none, Bool.false_bne, Bool.bne_true, Bool.bne_false, Bool.true_bne, Bool.not_true, Bool.not_false, Bool.and_true, Bool.true_and, Bool.and_false, Bool.false_and, Bool.or_true, Bool.true_or, Bool.or_false, Bool.false_or, cond_true, cond_false, List.getElem?_toArray, List.getElem?_cons_zero, List.getElem?_cons_succ, Nat.zero_add, Nat.add_zero, Nat.reduceAdd, forall_const, L_api_Snow hs.blk, L_api_Snow__List hs.blk, L_api_Snow__Pref hs.blk, L_api_Snow__Flake hs.blk, L_api_Snow__Conf hs.blk, L_api_Snow__Done hs.blk]
  refine jn1_dup (few1 hs (hr.fr hs.fr0) fun w4 hs => ?_)
  by_cases hle : x.l.length ≤ 60
  case neg =>
    rw [decide_eq_false hle]
    simp only [nilc_some, fad_mk, pik_true, pik_false, cnd_true, cnd_false, gif_same, gif_tf, gif_ft, gif_undef, bi_add, bi_sub, bi_mul, bi_eql, bi_neq, bi_lss, bi_leq, bi_gtr, bi_geq, notB_bool, cvi_int, lenS_mk, lenT_mk, ext0, ext1, ext2, nilP_mk, nilS_mk, fldv_agg, jn0_k, jn1_k, jn2_k, jn1_and, jn1_or, ex_some, Option.isNone_some, Option.isNone_none, Bool.false_bne, Bool.bne_true, Bool.bne_false, Bool.true_bne, Bool.not_true, Bool.not_false, Bool.and_true, Bool.true_and, Bool.and_false, Bool.false_and, Bool.or_true, Bool.true_or, Bool.or_false, Bool.false_or, cond_true, cond_false, List.getElem?_toArray, List.getElem?_cons_zero, List.getElem?_cons_succ, Nat.zero_add, Nat.add_zero, Nat.reduceAdd, forall_const]
    exact hlive _ hs.fr0
  have lenA : ∀ K, lenS u K = K (.int .i64 l.length) := fun K => rSl_len (s := ⟨u, l⟩) rd2 K
  rw [decide_eq_true hle]
  simp only [nilc_some, fad_mk, pik_true, pik_false, cnd_true, cnd_false, gif_same, gif_tf, gif_ft, gif_undef, bi_add, bi_sub, bi_mul, bi_eql, bi_neq, bi_lss, bi_leq, bi_gtr, bi_geq, notB_bool, cvi_int, lenS_mk, lenT_mk, ext0, ext1, ext2, nilP_mk, nilS_mk, fldv_agg, jn0_k, jn1_k, jn2_k, jn1_and, jn1_or, ex_some, Option.isNone_some, Option.isNone_none, Bool.false_bne, Bool.bne_true, Bool.bne_false, Bool.true_bne, Bool.not_true, Bool.not_false, Bool.and_true, Bool.true_and, Bool.and_false, Bool.false_and, Bool.or_true, Bool.true_or, Bool.or_false, Bool.false_or, cond_true, cond_false, List.getElem?_toArray, List.getElem?_cons_zero, List.getElem?_cons_succ, Nat.zero_add, Nat.add_zero, Nat.reduceAdd, forall_const, lenA]
  by_cases hlen : (100 : Int) < l.length
  · rw [decide_eq_true hlen]
    simp only [nilc_some, fad_mk, pik_true, pik_false, cnd_true, cnd_false, gif_same, gif_tf, gif_ft, gif_undef, bi_add, bi_sub, bi_mul, bi_eql, bi_neq, bi_lss, bi_leq, bi_gtr, bi_geq, notB_bool, cvi_int, lenS_mk, lenT_mk, ext0, ext1, ext2, nilP_mk, nilS_mk, fldv_agg, jn0_k, jn1_k, jn2_k, jn1_and, jn1_or, ex_some, Option.isNone_some, Option.isNone_none, Bool.false_bne, Bool.bne_true, Bool.bne_false, Bool.true_bne, Bool.not_true, Bool.not_false, Bool.and_true, Bool.true_and, Bool.and_false, Bool.false_and, Bool.or_true, Bool.true_or, Bool.or_false, Bool.false_or, cond_true, cond_false, List.getElem?_toArray, List.getElem?_cons_zero, List.getElem?_cons_succ, Nat.zero_add, Nat.add_zero, Nat.reduceAdd, forall_const]
    exact hlive _ hs.fr0
  rw [decide_eq_false hlen]
  simp only [nilc_some, fad_mk, pik_true, pik_false, cnd_true, cnd_false, gif_same, gif_tf, gif_ft, gif_undef, bi_add, bi_sub, bi_mul, bi_eql, bi_neq, bi_lss, bi_leq, bi_gtr, bi_geq, notB_bool, cvi_int, lenS_mk, lenT_mk, ext0, ext1, ext2, nilP_mk, nilS_mk, fldv_agg, jn0_k, jn1_k, jn2_k, jn1_and, jn1_or, ex_some, Option.isNone_some, Option.isNone_none, Bool.false_bne, Bool.bne_true, Bool.bne_false, Bool.true_bne, Bool.not_true, Bool.not_false, Bool.and_true, Bool.true_and, Bool.and_false, Bool.false_and, Bool.or_true, Bool.true_or, Bool.or_false, Bool.false_or, cond_true, cond_false, List.getElem?_toArray, List.getElem?_cons_zero, List.getElem?_cons_succ, Nat.zero_add, Nat.add_zero, Nat.reduceAdd, forall_const, L_api_Params hs.p1.blk, L_api_Params__K hs.p1.blk, L_api_Params__AlphaPref hs.p1.blk, L_api_Params__AlphaConf hs.p1.blk, L_api_Params__Beta hs.p1.blk, L_api_Snow hs.blk, L_api_Snow__List hs.blk, L_api_Snow__Pref hs.blk, L_api_Snow__Flake hs.blk, L_api_Snow__Conf hs.blk, L_api_Snow__Done hs.blk]
  refine jn1_dup (cal_i (Check_spec (hr.fr hs.fr0) (by omega)) ?_)
  rintro _ w5 ⟨rfl, hf5⟩
  replace hs := hs.old hf5
  simp only [nilc_some, fad_mk, pik_true, pik_false, cnd_true, cnd_false, gif_same, gif_tf, gif_ft, gif_undef, bi_add, bi_sub, bi_mul, bi_eql, bi_neq, bi_lss, bi_leq, bi_gtr, bi_geq, notB_bool, cvi_int, lenS_mk, lenT_mk, ext0, ext1, ext2, nilP_mk, nilS_mk, fldv_agg, jn0_k, jn1_k, jn2_k, jn1_and, jn1_or, ex_some, Option.isNone_some, Option.isNone_none, Bool.false_bne, Bool.bne_true, Bool.bne_false, Bool.true_bne, Bool.not_true, Bool.not_false, Bool.and_true, Bool.true_and, Bool.and_false, Bool.false_and, Bool.or_true, Bool.true_or, Bool.or_false, Bool.false_or, cond_true, cond_false, List.getElem?_toArray, List.getElem?_cons_zero, List.getElem?_cons_succ, Nat.zero_add, Nat.add_zero, Nat.reduceAdd, forall_const]
  rw [cnd_bool]
  refine ⟨fun h => hlive _ hs.fr0, fun h => ?_⟩
  have hm : May p x := may_iff.1 (by simpa using h)
  refine ⟨fun a w' => ∃ (i : Nat) (v' : Value) (x' : Sn) (Bs : List Asn), a = .int .i64 i ∧ i ≤ l.length ∧ May p x' ∧ (∀ z, Sep w z Bs → Rows' Q_api_Choice z.heap v' x'.l) ∧ Sep w w' (sn g2 v' x' :: blk g1 (Rdr.cells Q_api_Params p).toArray T_api_Params :: Bs),
    fun z _ => (l.length - RowKit.intOf z).toNat, ⟨0, v, x, [], rfl, by omega, hm, fun z hz => hr.fr hz.fr0, hs⟩, ?_⟩
  rintro _ w6 ⟨i, v1, x1, Bs, rfl, hi, hm1, hk1, hs6⟩ -
  simp only [nilc_some, fad_mk, pik_true, pik_false, cnd_true, cnd_false, gif_same, gif_tf, gif_ft, gif_undef, bi_add, bi_sub, bi_mul, bi_eql, bi_neq, bi_lss, bi_leq, bi_gtr, bi_geq, notB_bool, cvi_int, lenS_mk, lenT_mk, ext0, ext1, ext2, nilP_mk, nilS_mk, fldv_agg, jn0_k, jn1_k, jn2_k, jn1_and, jn1_or, ex_some, Option.isNone_some, Option.isNone_none, Bool.false_bne, Bool.bne_true, Bool.bne_false, Bool.true_bne, Bool.not_true, Bool.not_false, Bool.and_true, Bool.true_and, Bool.and_false, Bool.false_and, Bool.or_true, Bool.true_or, Bool.or_false, Bool.false_or, cond_true, cond_false, List.getElem?_toArray, List.getElem?_cons_zero, List.getElem?_cons_succ, Nat.zero_add, Nat.add_zero, Nat.reduceAdd, forall_const]
  rw [cnd_bool]
  refine ⟨fun h => ?_, fun h => ?_⟩
  case refine_2 => exact hR _ _ ⟨rfl, hs6.fr0⟩
  have hlt : i < l.length := by simpa using h
  obtain ⟨a, ha⟩ : ∃ a, l[i]? = some a := ⟨_, List.getElem?_eq_getElem hlt⟩
  obtain ⟨ha1, ha2⟩ := actOk (rSl_ok (s := ⟨u, l⟩) rd2 ha)
  refine rSl_ldN (s := ⟨u, l⟩) (Rdr.fr _ rd2 hs6.fr0) (by decide) ha ?_
  refine alloc_s hs6 (A_flurrylaw17_Act w6) fun g8 w7 hs7 => ?_
  refine St_flurrylaw17_Act (b := acr a) hs7 one_flurrylaw17_Act fun w8 hs8 => ?_
  simp only [L_flurrylaw17_Act hs8.blk, L_flurrylaw17_Act__K hs8.blk, L_flurrylaw17_Act__N hs8.blk, L_flurrylaw17_Act__Add hs8.blk, L_flurrylaw17_Act__ID hs8.blk, L_api_Params hs8.p2.blk, L_api_Params__K hs8.p2.blk, L_api_Params__AlphaPref hs8.p2.blk, L_api_Params__AlphaConf hs8.p2.blk, L_api_Params__Beta hs8.p2.blk, L_api_Snow hs8.p1.blk, L_api_Snow__List hs8.p1.blk, L_api_Snow__Pref hs8.p1.blk, L_api_Snow__Flake hs8.p1.blk, L_api_Snow__Conf hs8.p1.blk, L_api_Snow__Done hs8.p1.blk]
  have hr8 := hk1 _ hs8.tail.tail.tail
  have hl1 := hm1.n2
  refine cal_i (step_spec hp ha1 ha2 (may_iff.2 hm1) hr8 (by omega)) ?_
  rintro _ w9 ⟨vy, rfl, hres⟩
  obtain ⟨hmy, hgr⟩ := does_may hm1 (step_does a hm1)
  have hoy := hres.one (rows_one hr8)
  obtain ⟨Cs, hs9, hky, hCs⟩ := hres.join (As := [_, _, _]) (Bs := Bs) hs8 hk1
  generalize (stepM p x1 a).1 = y at *
  generalize (stepM p x1 a).2 = m2 at *
  simp only [nilc_some, fad_mk, pik_true, pik_false, cnd_true, cnd_false, gif_same, gif_tf, gif_ft, gif_undef, bi_add, bi_sub, bi_mul, bi_eql, bi_neq, bi_lss, bi_leq, bi_gtr, bi_geq, notB_bool, cvi_int, lenS_mk, lenT_mk, ext0, ext1, ext2, nilP_mk, nilS_mk, fldv_agg, jn0_k, jn1_k, jn2_k, jn1_and, jn1_or, ex_some, Option.isNone_some, Option.isNone_none, Bool.false_bne, Bool.bne_true, Bool.bne_false, Bool.true_bne, Bool.not_true, Bool.not_false, Bool.and_true, Bool.true_and, Bool.and_false, Bool.false_and, Bool.or_true, Bool.true_or, Bool.or_false, Bool.false_or, cond_true, cond_false, List.getElem?_toArray, List.getElem?_cons_zero, List.getElem?_cons_succ, Nat.zero_add, Nat.add_zero, Nat.reduceAdd, forall_const]
  refine alloc_s hs9 (A_api_Snow w9) fun g9 w10 hs10 => ?_
  refine alloc_s hs10 (A_api_ID w10) fun g10 w11 hs11 => ?_
  refine St_api_Snow hs11.p1 (one_api_Snow hoy) fun w12 hs12 => ?_
  refine St_api_ID hs12.p1 fun w13 hs13 => ?_
  simp only [L_api_Params hs13.p4.blk, L_api_Params__K hs13.p4.blk, L_api_Params__AlphaPref hs13.p4.blk, L_api_Params__AlphaConf hs13.p4.blk, L_api_Params__Beta hs13.p4.blk, L_api_Snow hs13.p1.blk, L_api_Snow__List hs13.p1.blk, L_api_Snow__Pref hs13.p1.blk, L_api_Snow__Flake hs13.p1.blk, L_api_Snow__Conf hs13.p1.blk, L_api_Snow__Done hs13.p1.blk]
  have hryl := hmy.n2
  refine cal_i (Check_spec (hky _ hs13.tail.tail.tail.tail.tail) (by omega)) ?_
  rintro _ w14 ⟨rfl, hf14⟩
  have hs14 := hs13.old hf14
  rw [may_iff.2 hmy]
  have hlen2 := hgr.len
  have e1 : decide ((y.l.length : Int) < x1.l.length) = false := by simp; omega
  have e0 : ((0 : Int) != 0) = false := rfl
  simp only [nilc_some, fad_mk, pik_true, pik_false, cnd_true, cnd_false, gif_same, gif_tf, gif_ft, gif_undef, bi_add, bi_sub, bi_mul, bi_eql, bi_neq, bi_lss, bi_leq, bi_gtr, bi_geq, notB_bool, cvi_int, lenS_mk, lenT_mk, ext0, ext1, ext2, nilP_mk, nilS_mk, fldv_agg, jn0_k, jn1_k, jn2_k, jn1_and, jn1_or, ex_some, Option.isNone_some, Option.isNone_none, Bool.false_bne, Bool.bne_true, Bool.bne_false, Bool.true_bne, Bool.not_true, Bool.not_false, Bool.and_true, Bool.true_and, Bool.and_false, Bool.false_and, Bool.or_true, Bool.true_or, Bool.or_false, Bool.false_or, cond_true, cond_false, List.getElem?_toArray, List.getElem?_cons_zero, List.getElem?_cons_succ, Nat.zero_add, Nat.add_zero, Nat.reduceAdd, forall_const, e0, L_api_Snow hs14.p1.blk, L_api_Snow__List hs14.p1.blk, L_api_Snow__Pref hs14.p1.blk, L_api_Snow__Flake hs14.p1.blk, L_api_Snow__Conf hs14.p1.blk, L_api_Snow__Done hs14.p1.blk, L_api_Snow hs14.p3.blk, L_api_Snow__List hs14.p3.blk, L_api_Snow__Pref hs14.p3.blk, L_api_Snow__Flake hs14.p3.blk, L_api_Snow__Conf hs14.p3.blk, L_api_Snow__Done hs14.p3.blk, (hky _ hs14.tail.tail.tail.tail.tail).len, (hk1 _ (hCs _ hs14.tail.tail.tail.tail.tail)).len, e1]
  refine ⟨fun z w' => ∃ j : Nat, z = .int .i64 j ∧ j ≤ x1.l.length ∧ Sep w w' (sn g9 vy y :: sn g2 v1 x1 :: blk g1 (Rdr.cells Q_api_Params p).toArray T_api_Params :: Cs), fun z _ => (x1.l.length - RowKit.intOf z).toNat, ⟨0, rfl, by omega, hs14.tail.d1⟩, ?_⟩
  rintro _ w15 ⟨j, rfl, hj, hs15⟩ -
  simp only [nilc_some, fad_mk, pik_true, pik_false, cnd_true, cnd_false, gif_same, gif_tf, gif_ft, gif_undef, bi_add, bi_sub, bi_mul, bi_eql, bi_neq, bi_lss, bi_leq, bi_gtr, bi_geq, notB_bool, cvi_int, lenS_mk, lenT_mk, ext0, ext1, ext2, nilP_mk, nilS_mk, fldv_agg, jn0_k, jn1_k, jn2_k, jn1_and, jn1_or, ex_some, Option.isNone_some, Option.isNone_none, Bool.false_bne, Bool.bne_true, Bool.bne_false, Bool.true_bne, Bool.not_true, Bool.not_false, Bool.and_true, Bool.true_and, Bool.and_false, Bool.false_and, Bool.or_true, Bool.true_or, Bool.or_false, Bool.false_or, cond_true, cond_false, List.getElem?_toArray, List.getElem?_cons_zero, List.getElem?_cons_succ, Nat.zero_add, Nat.add_zero, Nat.reduceAdd, forall_const]
  rw [cnd_bool]
  refine ⟨fun h => ?_, fun h => ?_⟩
  · have hjlt : j < x1.l.length := by simpa using h
    obtain ⟨c, hc⟩ : ∃ c, x1.l[j]? = some c := ⟨_, List.getElem?_eq_getElem hjlt⟩
    obtain ⟨d, hd, hdc, hds⟩ := hgr j c hc
    refine (hk1 _ (hCs _ hs15.tail.tail.tail)).ldN (by decide) hc _ ?_
    refine alloc_s hs15 (A_api_Choice w15) fun g13 w16 hs16 => ?_
    refine St_api_Choice hs16 one_api_Choice fun w17 hs17 => ?_
    refine drH_S hs17 fun w18 hs18 _ => ?_
    simp only [nilc_some, fad_mk, pik_true, pik_false, cnd_true, cnd_false, gif_same, gif_tf, gif_ft, gif_undef, bi_add, bi_sub, bi_mul, bi_eql, bi_neq, bi_lss, bi_leq, bi_gtr, bi_geq, notB_bool, cvi_int, lenS_mk, lenT_mk, ext0, ext1, ext2, nilP_mk, nilS_mk, fldv_agg, jn0_k, jn1_k, jn2_k, jn1_and, jn1_or, ex_some, Option.isNone_some, Option.isNone_none, Bool.false_bne, Bool.bne_true, Bool.bne_false, Bool.true_bne, Bool.not_true, Bool.not_false, Bool.and_true, Bool.true_and, Bool.and_false, Bool.false_and, Bool.or_true, Bool.true_or, Bool.or_false, Bool.false_or, cond_true, cond_false, List.getElem?_toArray, List.getElem?_cons_zero, List.getElem?_cons_succ, Nat.zero_add, Nat.add_zero, Nat.reduceAdd, forall_const]
    obtain ⟨gy, oy, cy, hvy⟩ := (hky _ hs18.tail.tail.tail.tail).form (by decide) hd
    subst hvy
    have hyl : j < y.l.length := (List.getElem?_eq_some_iff.1 hd).1
    have hat : ∀ z, Sep w z (blk g13 (Rdr.cells Q_api_Choice c).toArray T_api_Choice :: sn g9 (.slice (some ⟨gy, oy, none⟩) y.l.length cy) y :: sn g2 v1 x1 :: blk g1 (Rdr.cells Q_api_Params p).toArray T_api_Params :: Cs) → At z.heap gy (oy + j * 33) (Rdr.cells Q_api_Choice d) := fun z hz => by
      have := hky _ hz.tail.tail.tail.tail
      exact At.of (q := Q_api_Choice) (by decide) this hd
    refine rdS_at (.slice (some ⟨gy, oy, none⟩) y.l.length cy) (fun z hz => ?_) ?_
    · show ld1 _ z.heap _
      rw [L_api_Snow__List hz.p1.blk]
    rw [ixs_mk _ _ _ _ _ _ _ _ (by omega) (by omega), Int.toNat_natCast, fad_mk, Nat.add_zero]
    refine rdS_at (idv d.1) (fun z hz => ?_) ?_
    · show ldN 32 _ z.heap _
      rw [LA_api_Choice__ID (hat z hz)]
    refine rdS_at (idv c.1) (fun z hz => ?_) ?_
    · show ldN 32 _ z.heap _
      rw [L_api_Choice__ID hz.blk]
    refine rdS_at (.bool false) (fun z hz => ?_) ?_
    · show rdP P _ z _
      rw [ne_api_ID, decide_eq_true hdc]
      rfl
    simp only [nilc_some, fad_mk, pik_true, pik_false, cnd_true, cnd_false, gif_same, gif_tf, gif_ft, gif_undef, bi_add, bi_sub, bi_mul, bi_eql, bi_neq, bi_lss, bi_leq, bi_gtr, bi_geq, notB_bool, cvi_int, lenS_mk, lenT_mk, ext0, ext1, ext2, nilP_mk, nilS_mk, fldv_agg, jn0_k, jn1_k, jn2_k, jn1_and, jn1_or, ex_some, Option.isNone_some, Option.isNone_none, Bool.false_bne, Bool.bne_true, Bool.bne_false, Bool.true_bne, Bool.not_true, Bool.not_false, Bool.and_true, Bool.true_and, Bool.and_false, Bool.false_and, Bool.or_true, Bool.true_or, Bool.or_false, Bool.false_or, cond_true, cond_false, List.getElem?_toArray, List.getElem?_cons_zero, List.getElem?_cons_succ, Nat.zero_add, Nat.add_zero, Nat.reduceAdd, forall_const]
    refine jn1_dup (rdS_at (.slice (some ⟨gy, oy, none⟩) y.l.length cy) (fun z hz => ?_) ?_)
    · show ld1 _ z.heap _
      rw [L_api_Snow__List hz.p1.blk]
    rw [ixs_mk _ _ _ _ _ _ _ _ (by omega) (by omega), Int.toNat_natCast, fad_mk]
    refine rdS_at (.int .i64 d.2) (fun z hz => ?_) ?_
    · show ld1 _ z.heap _
      rw [LA_api_Choice__Strength (hat z hz)]
    refine rdS_at (.int .i64 c.2) (fun z hz => ?_) ?_
    · show ld1 _ z.heap _
      rw [L_api_Choice__Strength hz.blk]
    have e2 : decide (d.2 < c.2) = false := by simp; omega
    simp only [nilc_some, fad_mk, pik_true, pik_false, cnd_true, cnd_false, gif_same, gif_tf, gif_ft, gif_undef, bi_add, bi_sub, bi_mul, bi_eql, bi_neq, bi_lss, bi_leq, bi_gtr, bi_geq, notB_bool, cvi_int, lenS_mk, lenT_mk, ext0, ext1, ext2, nilP_mk, nilS_mk, fldv_agg, jn0_k, jn1_k, jn2_k, jn1_and, jn1_or, ex_some, Option.isNone_some, Option.isNone_none, Bool.false_bne, Bool.bne_true, Bool.bne_false, Bool.true_bne, Bool.not_true, Bool.not_false, Bool.and_true, Bool.true_and, Bool.and_false, Bool.false_and, Bool.or_true, Bool.true_or, Bool.or_false, Bool.false_or, cond_true, cond_false, List.getElem?_toArray, List.getElem?_cons_zero, List.getElem?_cons_succ, Nat.zero_add, Nat.add_zero, Nat.reduceAdd, forall_const, e2]
    refine jn1_dup (rdS_at (snv (.slice (some ⟨gy, oy, none⟩) y.l.length cy) y) (fun z hz => ?_) (rdS_at (idv c.1) (fun z hz => ?_) (efS_i (cal_i (Has_spec (hky _ hs18.tail.tail.tail.tail) (by omega)) ?_))))
    · show ldN 67 _ z.heap _
      rw [L_api_Snow hz.p1.blk]
    · show ldN 32 _ z.heap _
      rw [L_api_Choice__ID hz.blk]
    rintro _ w19 ⟨rfl, hf19⟩
    have hs19 := hs18.old hf19
    have e3 : decide (0 ≤ plc y.l c.1) = true := by rw [← hdc]; simpa using plc_mem hd
    rw [e3]
    refine ⟨hs19, ?_⟩
    simp only [nilc_some, fad_mk, pik_true, pik_false, cnd_true, cnd_false, gif_same, gif_tf, gif_ft, gif_undef, bi_add, bi_sub, bi_mul, bi_eql, bi_neq, bi_lss, bi_leq, bi_gtr, bi_geq, notB_bool, cvi_int, lenS_mk, lenT_mk, ext0, ext1, ext2, nilP_mk, nilS_mk, fldv_agg, jn0_k, jn1_k, jn2_k, jn1_and, jn1_or, ex_some, Option.isNone_some, Option.isNone_none, Bool.false_bne, Bool.bne_true, Bool.bne_false, Bool.true_bne, Bool.not_true, Bool.not_false, Bool.and_true, Bool.true_and, Bool.and_false, Bool.false_and, Bool.or_true, Bool.true_or, Bool.or_false, Bool.false_or, cond_true, cond_false, List.getElem?_toArray, List.getElem?_cons_zero, List.getElem?_cons_succ, Nat.zero_add, Nat.add_zero, Nat.reduceAdd, forall_const]
    rw [wi64 (by omega) (by omega)]
    exact ⟨⟨j + 1, by simp, by omega, hs19.tail⟩, by simp [RowKit.intOf]; omega⟩
  · simp only [nilc_some, fad_mk, pik_true, pik_false, cnd_true, cnd_false, gif_same, gif_tf, gif_ft, gif_undef, bi_add, bi_sub, bi_mul, bi_eql, bi_neq, bi_lss, bi_leq, bi_gtr, bi_geq, notB_bool, cvi_int, lenS_mk, lenT_mk, ext0, ext1, ext2, nilP_mk, nilS_mk, fldv_agg, jn0_k, jn1_k, jn2_k, jn1_and, jn1_or, ex_some, Option.isNone_some, Option.isNone_none, Bool.false_bne, Bool.bne_true, Bool.bne_false, Bool.true_bne, Bool.not_true, Bool.not_false, Bool.and_true, Bool.true_and, Bool.and_false, Bool.false_and, Bool.or_true, Bool.true_or, Bool.or_false, Bool.false_or, cond_true, cond_false, List.getElem?_toArray, List.getElem?_cons_zero, List.getElem?_cons_succ, Nat.zero_add, Nat.add_zero, Nat.reduceAdd, forall_const, L_api_Snow hs15.blk, L_api_Snow__List hs15.blk, L_api_Snow__Pref hs15.blk, L_api_Snow__Flake hs15.blk, L_api_Snow__Conf hs15.blk, L_api_Snow__Done hs15.blk]
    refine St_api_Snow hs15.p1 (one_api_Snow hoy) fun w16 hs16 => ?_
    rw [wi64 (by omega) (by omega)]
    exact ⟨⟨i + 1, vy, y, Cs, by simp, by omega, hmy, hky, hs16.d1⟩, by simp [RowKit.intOf]; omega⟩
end Go.Fx
