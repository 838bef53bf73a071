/-
  The law SnowGoes: the walk.
-/
import Derived.Test.YtgiklllplfcikaaSnN
set_option linter.unusedVariables false
set_option linter.unusedSimpArgs false
namespace Go.Fx
theorem Sep.sub {w0 w : World} {As Bs : List Asn} (h : Sep w0 w Bs) (hs : As.Sublist Bs) : Sep w0 w As := by
  obtain ⟨Cs, hp⟩ := hs.exists_perm_append
  exact (h.perm hp).appL
/-- Strengths that are changed in place. -/
theorem inner {w0 w : World} {g : Nat} {v : Value} {m : Sn} {l : List Cho} {As : List Asn} {K : World → Prop} (hl : l.length ≤ 1000) (hs : Sep w0 w (sn g v m :: rows Q_api_Choice v l :: As))
    (hk : ∀ w' l', l'.length = l.length → Sep w0 w' (sn g v m :: rows Q_api_Choice v l' :: As) → K w') :
    lp1 (Value.int IntKind.i64 0) w fun _ t121 w again7 =>
      bi BinOp.lss t121 (.int .i64 l.length) fun t122 =>
      cnd t122
      (ld1 (.pointer (some ⟨g, 0, none⟩)) w.heap fun t125 =>
      ixs 33 t125 t121 fun t127 =>
      fad 32 t127 fun t128 =>
      ld1 t128 w.heap fun t129 =>
      bi BinOp.xor t129 (Value.int IntKind.i64 1) fun t130 =>
      ixs 33 t125 t121 fun t131 =>
      fad 32 t131 fun t132 =>
      st1 t132 t130 w fun w =>
      bi BinOp.add t121 (Value.int IntKind.i64 1) fun t133 =>
      again7 t133 w)
      (K w) := by
  refine ⟨fun a w' => ∃ (i : Nat) (l' : List Cho), a = .int .i64 i ∧ i ≤ l.length ∧ l'.length = l.length ∧ Sep w0 w' (sn g v m :: rows Q_api_Choice v l' :: As), fun z _ => (l.length - RowKit.intOf z).toNat, ⟨0, l, rfl, by omega, rfl, hs⟩, ?_⟩
  rintro _ w3 ⟨i, l', rfl, hi, hll, hs3⟩ -
  simp only [nilc_some, fad_mk, pik_true, pik_false, cnd_true, cnd_false, gif_same, gif_tf, gif_ft, gif_undef, bi_add, bi_sub, bi_mul, bi_eql, bi_neq, bi_lss, bi_leq, bi_gtr, bi_geq, notB_bool, cvi_int, lenS_mk, lenT_mk, ext0, ext1, ext2, nilP_mk, nilS_mk, fldv_agg, jn0_k, jn1_k, jn2_k, jn1_and, jn1_or, ex_some, Option.isNone_some, Option.isNone_none, Bool.false_bne, Bool.bne_true, Bool.bne_false, Bool.true_bne, Bool.not_true, Bool.not_false, Bool.and_true, Bool.true_and, Bool.and_false, Bool.false_and, Bool.or_true, Bool.true_or, Bool.or_false, Bool.false_or, cond_true, cond_false, List.getElem?_toArray, List.getElem?_cons_zero, List.getElem?_cons_succ, Nat.zero_add, Nat.add_zero, Nat.reduceAdd, forall_const]
  rw [cnd_bool]
  refine ⟨fun h => ?_, fun h => ?_⟩
  · have hlt : i < l.length := by simpa using h
    obtain ⟨c, hc⟩ : ∃ c, l'[i]? = some c := ⟨_, List.getElem?_eq_getElem (by omega)⟩
    obtain ⟨a0, c0, hvf, _⟩ := (Sep.p1 hs3).formR
    obtain ⟨h0, o, hao⟩ : ∃ g o, a0 = some ⟨g, o, none⟩ := by
      obtain ⟨h0, o, c', hf⟩ := (Sep.rows hs3.p1).form (by decide) hc
      rw [hvf] at hf
      cases hf
      exact ⟨h0, o, rfl⟩
    subst hvf; subst hao
    simp only [L_api_Snow hs3.blk, L_api_Snow__List hs3.blk, L_api_Snow__Pref hs3.blk, L_api_Snow__Flake hs3.blk, L_api_Snow__Conf hs3.blk, L_api_Snow__Done hs3.blk]
    rw [ixs_mk _ _ _ _ _ _ _ _ (by omega) (by omega), Int.toNat_natCast]
    have hat : At w3.heap h0 (o + i * 33) (Rdr.cells Q_api_Choice c) := At.of (q := Q_api_Choice) (by decide) (Sep.rows hs3.p1) hc
    simp only [fad_mk, LA_api_Choice__Strength hat, bi_xor]
    rw [ixs_mk _ _ _ _ _ _ _ _ (by omega) (by omega), Int.toNat_natCast, fad_mk]
    refine rows_stV (q := Q_api_Choice) (s := rInt .i64) (.snd .self) rfl hs3.p1 hc rfl rfl fun w4 hs4 => ?_
    rw [wi64 (by omega) (by omega)]
    refine ⟨⟨i + 1, _, by simp, by omega, ?_, hs4.p1⟩, by simp [RowKit.intOf]; omega⟩
    simpa using hll
  · have hge : i = l.length := by simp at h; omega
    exact hk _ _ hll hs3
theorem addM_len (p : Par) (x : Sn) (id : Id) : (addM p x id).1.l.length ≤ x.l.length + 1 := by
  unfold addM
  repeat' split
  all_goals simp [snZ]
theorem failM_len (p : Par) (x : Sn) : (failM p x).1.l.length ≤ x.l.length := by
  unfold failM
  repeat' split
  all_goals simp [snZ]
theorem SnowGoes_walk {w : World} {p : Par} {x : SnD} {id : Id} {n : Int} (rd0 : Rdr.ok R_api_Params w.heap p) (rd1 : Rdr.ok R_api_Snow w.heap x) :
    cal P f_law17_SnowGoes [pav p, snv x.1.v (snOf x), idv id, .int .i64 n] w fun r w' => r = .bool true ∧ Fr [] w w' := by
  have hp := paOk rd0
  obtain ⟨hr, hn⟩ := snRows rd1
  generalize x.1.v = v at *
  generalize snOf x = x at *
  have h1 := rows_one hr
  refine s_law17_SnowGoes fun R hR => ?_
  unfold c_law17_SnowGoes
  refine bx_s (Sep.start w) fun g1 w1 hs => ?_
  refine bx_s hs fun g2 w2 hs => ?_
  refine bx_s hs fun g3 w3 hs => ?_
  simp only [Value.cells] at hs
  have hlive : ∀ w', Fr [] w w' → cal P f_law17_live [] w' R := fun w' hf => cal_i live_spec fun r w'' ⟨h1, h2⟩ => hR _ _ ⟨h1, (((Sep.start w).old hf).old h2).fr0⟩
  refine cal_i live_spec ?_
  rintro _ w3 ⟨rfl, hf3⟩
  replace hs := hs.old hf3
  simp only [nilc_some, fad_mk, pik_true, pik_false, cnd_true, cnd_false, gif_same, gif_tf, gif_ft, gif_undef, bi_add, bi_sub, bi_mul, bi_eql, bi_neq, bi_lss, bi_leq, bi_gtr, bi_geq, notB_bool, cvi_int, lenS_mk, lenT_mk, ext0, ext1, ext2, nilP_mk, nilS_mk, fldv_agg, jn0_k, jn1_k, jn2_k, jn1_and, jn1_or, ex_some, Option.isNone_some, Option.isNone_none, Bool.false_bne, Bool.bne_true, Bool.bne_false, Bool.true_bne, Bool.not_true, Bool.not_false, Bool.and_true, Bool.true_and, Bool.and_false, Bool.false_and, Bool.or_true, Bool.true_or, Bool.or_false, Bool.false_or, cond_true, cond_false, List.getElem?_toArray, List.getElem?_cons_zero, List.getElem?_cons_succ, Nat.zero_add, Nat.add_zero, Nat.reduceAdd, forall_const, L_api_Snow hs.p1.blk, L_api_Snow__List hs.p1.blk, L_api_Snow__Pref hs.p1.blk, L_api_Snow__Flake hs.p1.blk, L_api_Snow__Conf hs.p1.blk, L_api_Snow__Done hs.p1.blk]
  refine jn1_dup (few1 hs (hr.fr hs.fr0) fun w4 hs => ?_)
  simp only [nilc_some, fad_mk, pik_true, pik_false, cnd_true, cnd_false, gif_same, gif_tf, gif_ft, gif_undef, bi_add, bi_sub, bi_mul, bi_eql, bi_neq, bi_lss, bi_leq, bi_gtr, bi_geq, notB_bool, cvi_int, lenS_mk, lenT_mk, ext0, ext1, ext2, nilP_mk, nilS_mk, fldv_agg, jn0_k, jn1_k, jn2_k, jn1_and, jn1_or, ex_some, Option.isNone_some, Option.isNone_none, Bool.false_bne, Bool.bne_true, Bool.bne_false, Bool.true_bne, Bool.not_true, Bool.not_false, Bool.and_true, Bool.true_and, Bool.and_false, Bool.false_and, Bool.or_true, Bool.true_or, Bool.or_false, Bool.false_or, cond_true, cond_false, List.getElem?_toArray, List.getElem?_cons_zero, List.getElem?_cons_succ, Nat.zero_add, Nat.add_zero, Nat.reduceAdd, forall_const]
  rw [cnd_bool]
  refine ⟨fun h => hlive _ hs.fr0, fun h => ?_⟩
  have hle : x.l.length ≤ 60 := by simpa using h
  simp only [L_api_Snow hs.p1.blk, L_api_Snow__List hs.p1.blk, L_api_Snow__Pref hs.p1.blk, L_api_Snow__Flake hs.p1.blk, L_api_Snow__Conf hs.p1.blk, L_api_Snow__Done hs.p1.blk]
  refine cal_i (rClone_spec (hr.fr hs.fr0) (by omega) h1) ?_
  rintro _ w5 ⟨vw, rfl, hs5⟩
  replace hs5 := hs.join hs5
  refine alloc_s hs5 (A_api_Snow w5) fun g4 w6 hs6 => ?_
  refine St_api_Snow hs6 (one_api_Snow hs5.oneR) fun w7 hs0 => ?_
  simp only [L_api_Params hs0.tail.tail.tail.tail.blk, L_api_Params__K hs0.tail.tail.tail.tail.blk, L_api_Params__AlphaPref hs0.tail.tail.tail.tail.blk, L_api_Params__AlphaConf hs0.tail.tail.tail.tail.blk, L_api_Params__Beta hs0.tail.tail.tail.tail.blk, L_api_Snow hs0.tail.tail.tail.blk, L_api_Snow__List hs0.tail.tail.tail.blk, L_api_Snow__Pref hs0.tail.tail.tail.blk, L_api_Snow__Flake hs0.tail.tail.tail.blk, L_api_Snow__Conf hs0.tail.tail.tail.blk, L_api_Snow__Done hs0.tail.tail.tail.blk, L_api_ID hs0.tail.tail.blk]
  refine cal_i (Add_spec (hr.fr hs0.fr0) (by omega) h1) ?_
  rintro _ x1 ⟨v1, rfl, hy1⟩
  replace hy1 := hs0.join hy1
  simp only [nilc_some, fad_mk, pik_true, pik_false, cnd_true, cnd_false, gif_same, gif_tf, gif_ft, gif_undef, bi_add, bi_sub, bi_mul, bi_eql, bi_neq, bi_lss, bi_leq, bi_gtr, bi_geq, notB_bool, cvi_int, lenS_mk, lenT_mk, ext0, ext1, ext2, nilP_mk, nilS_mk, fldv_agg, jn0_k, jn1_k, jn2_k, jn1_and, jn1_or, ex_some, Option.isNone_some, Option.isNone_none, Bool.false_bne, Bool.bne_true, Bool.bne_false, Bool.true_bne, Bool.not_true, Bool.not_false, Bool.and_true, Bool.true_and, Bool.and_false, Bool.false_and, Bool.or_true, Bool.true_or, Bool.or_false, Bool.false_or, cond_true, cond_false, List.getElem?_toArray, List.getElem?_cons_zero, List.getElem?_cons_succ, Nat.zero_add, Nat.add_zero, Nat.reduceAdd, forall_const]
  refine alloc_s hy1 (A_api_Snow x1) fun b1 y1 hz1 => ?_
  refine St_api_Snow hz1 (one_api_Snow hy1.oneR) fun z1 hs1 => ?_
  simp only [L_api_Params hs1.tail.tail.tail.tail.tail.tail.blk, L_api_Params__K hs1.tail.tail.tail.tail.tail.tail.blk, L_api_Params__AlphaPref hs1.tail.tail.tail.tail.tail.tail.blk, L_api_Params__AlphaConf hs1.tail.tail.tail.tail.tail.tail.blk, L_api_Params__Beta hs1.tail.tail.tail.tail.tail.tail.blk, L_api_Snow hs1.tail.tail.tail.tail.tail.blk, L_api_Snow__List hs1.tail.tail.tail.tail.tail.blk, L_api_Snow__Pref hs1.tail.tail.tail.tail.tail.blk, L_api_Snow__Flake hs1.tail.tail.tail.tail.tail.blk, L_api_Snow__Conf hs1.tail.tail.tail.tail.tail.blk, L_api_Snow__Done hs1.tail.tail.tail.tail.tail.blk, L_api_ID hs1.tail.tail.tail.tail.blk]
  refine cal_i (rAdd_spec hp (hr.fr hs1.fr0) (by omega) h1) ?_
  rintro _ x2 ⟨v2, rfl, hy2⟩
  replace hy2 := hs1.join hy2
  simp only [nilc_some, fad_mk, pik_true, pik_false, cnd_true, cnd_false, gif_same, gif_tf, gif_ft, gif_undef, bi_add, bi_sub, bi_mul, bi_eql, bi_neq, bi_lss, bi_leq, bi_gtr, bi_geq, notB_bool, cvi_int, lenS_mk, lenT_mk, ext0, ext1, ext2, nilP_mk, nilS_mk, fldv_agg, jn0_k, jn1_k, jn2_k, jn1_and, jn1_or, ex_some, Option.isNone_some, Option.isNone_none, Bool.false_bne, Bool.bne_true, Bool.bne_false, Bool.true_bne, Bool.not_true, Bool.not_false, Bool.and_true, Bool.true_and, Bool.and_false, Bool.false_and, Bool.or_true, Bool.true_or, Bool.or_false, Bool.false_or, cond_true, cond_false, List.getElem?_toArray, List.getElem?_cons_zero, List.getElem?_cons_succ, Nat.zero_add, Nat.add_zero, Nat.reduceAdd, forall_const]
  refine alloc_s hy2 (A_api_Snow x2) fun b2 y2 hz2 => ?_
  refine St_api_Snow hz2 (one_api_Snow hy2.oneR) fun z2 hs2 => ?_
  simp only [L_api_Params hs2.tail.tail.tail.tail.tail.tail.tail.tail.blk, L_api_Params__K hs2.tail.tail.tail.tail.tail.tail.tail.tail.blk, L_api_Params__AlphaPref hs2.tail.tail.tail.tail.tail.tail.tail.tail.blk, L_api_Params__AlphaConf hs2.tail.tail.tail.tail.tail.tail.tail.tail.blk, L_api_Params__Beta hs2.tail.tail.tail.tail.tail.tail.tail.tail.blk, L_api_Snow hs2.tail.tail.tail.tail.tail.tail.tail.blk, L_api_Snow__List hs2.tail.tail.tail.tail.tail.tail.tail.blk, L_api_Snow__Pref hs2.tail.tail.tail.tail.tail.tail.tail.blk, L_api_Snow__Flake hs2.tail.tail.tail.tail.tail.tail.tail.blk, L_api_Snow__Conf hs2.tail.tail.tail.tail.tail.tail.tail.blk, L_api_Snow__Done hs2.tail.tail.tail.tail.tail.tail.tail.blk, L_api_ID hs2.tail.tail.tail.tail.tail.tail.blk]
  refine cal_i (Poll_spec (hr.fr hs2.fr0) (by omega) h1) ?_
  rintro _ x3 ⟨v3, rfl, hy3⟩
  replace hy3 := hs2.join hy3
  simp only [nilc_some, fad_mk, pik_true, pik_false, cnd_true, cnd_false, gif_same, gif_tf, gif_ft, gif_undef, bi_add, bi_sub, bi_mul, bi_eql, bi_neq, bi_lss, bi_leq, bi_gtr, bi_geq, notB_bool, cvi_int, lenS_mk, lenT_mk, ext0, ext1, ext2, nilP_mk, nilS_mk, fldv_agg, jn0_k, jn1_k, jn2_k, jn1_and, jn1_or, ex_some, Option.isNone_some, Option.isNone_none, Bool.false_bne, Bool.bne_true, Bool.bne_false, Bool.true_bne, Bool.not_true, Bool.not_false, Bool.and_true, Bool.true_and, Bool.and_false, Bool.false_and, Bool.or_true, Bool.true_or, Bool.or_false, Bool.false_or, cond_true, cond_false, List.getElem?_toArray, List.getElem?_cons_zero, List.getElem?_cons_succ, Nat.zero_add, Nat.add_zero, Nat.reduceAdd, forall_const]
  refine alloc_s hy3 (A_api_Snow x3) fun b3 y3 hz3 => ?_
  refine St_api_Snow hz3 (one_api_Snow hy3.oneR) fun z3 hs3 => ?_
  simp only [L_api_Params hs3.tail.tail.tail.tail.tail.tail.tail.tail.tail.tail.blk, L_api_Params__K hs3.tail.tail.tail.tail.tail.tail.tail.tail.tail.tail.blk, L_api_Params__AlphaPref hs3.tail.tail.tail.tail.tail.tail.tail.tail.tail.tail.blk, L_api_Params__AlphaConf hs3.tail.tail.tail.tail.tail.tail.tail.tail.tail.tail.blk, L_api_Params__Beta hs3.tail.tail.tail.tail.tail.tail.tail.tail.tail.tail.blk, L_api_Snow hs3.tail.tail.tail.tail.tail.tail.tail.tail.tail.blk, L_api_Snow__List hs3.tail.tail.tail.tail.tail.tail.tail.tail.tail.blk, L_api_Snow__Pref hs3.tail.tail.tail.tail.tail.tail.tail.tail.tail.blk, L_api_Snow__Flake hs3.tail.tail.tail.tail.tail.tail.tail.tail.tail.blk, L_api_Snow__Conf hs3.tail.tail.tail.tail.tail.tail.tail.tail.tail.blk, L_api_Snow__Done hs3.tail.tail.tail.tail.tail.tail.tail.tail.tail.blk, L_api_ID hs3.tail.tail.tail.tail.tail.tail.tail.tail.blk]
  refine cal_i (rPoll_spec hp (hr.fr hs3.fr0) (by omega) h1) ?_
  rintro _ x4 ⟨v4, rfl, hy4⟩
  replace hy4 := hs3.join hy4
  simp only [nilc_some, fad_mk, pik_true, pik_false, cnd_true, cnd_false, gif_same, gif_tf, gif_ft, gif_undef, bi_add, bi_sub, bi_mul, bi_eql, bi_neq, bi_lss, bi_leq, bi_gtr, bi_geq, notB_bool, cvi_int, lenS_mk, lenT_mk, ext0, ext1, ext2, nilP_mk, nilS_mk, fldv_agg, jn0_k, jn1_k, jn2_k, jn1_and, jn1_or, ex_some, Option.isNone_some, Option.isNone_none, Bool.false_bne, Bool.bne_true, Bool.bne_false, Bool.true_bne, Bool.not_true, Bool.not_false, Bool.and_true, Bool.true_and, Bool.and_false, Bool.false_and, Bool.or_true, Bool.true_or, Bool.or_false, Bool.false_or, cond_true, cond_false, List.getElem?_toArray, List.getElem?_cons_zero, List.getElem?_cons_succ, Nat.zero_add, Nat.add_zero, Nat.reduceAdd, forall_const]
  refine alloc_s hy4 (A_api_Snow x4) fun b4 y4 hz4 => ?_
  refine St_api_Snow hz4 (one_api_Snow hy4.oneR) fun z4 hs4 => ?_
  simp only [L_api_Params hs4.tail.tail.tail.tail.tail.tail.tail.tail.tail.tail.tail.tail.blk, L_api_Params__K hs4.tail.tail.tail.tail.tail.tail.tail.tail.tail.tail.tail.tail.blk, L_api_Params__AlphaPref hs4.tail.tail.tail.tail.tail.tail.tail.tail.tail.tail.tail.tail.blk, L_api_Params__AlphaConf hs4.tail.tail.tail.tail.tail.tail.tail.tail.tail.tail.tail.tail.blk, L_api_Params__Beta hs4.tail.tail.tail.tail.tail.tail.tail.tail.tail.tail.tail.tail.blk, L_api_Snow hs4.tail.tail.tail.tail.tail.tail.tail.tail.tail.tail.tail.blk, L_api_Snow__List hs4.tail.tail.tail.tail.tail.tail.tail.tail.tail.tail.tail.blk, L_api_Snow__Pref hs4.tail.tail.tail.tail.tail.tail.tail.tail.tail.tail.tail.blk, L_api_Snow__Flake hs4.tail.tail.tail.tail.tail.tail.tail.tail.tail.tail.tail.blk, L_api_Snow__Conf hs4.tail.tail.tail.tail.tail.tail.tail.tail.tail.tail.tail.blk, L_api_Snow__Done hs4.tail.tail.tail.tail.tail.tail.tail.tail.tail.tail.tail.blk]
  refine cal_i (Fail_spec (hr.fr hs4.fr0) (by omega) h1) ?_
  rintro _ x5 ⟨v5, rfl, hy5⟩
  replace hy5 := hs4.join hy5
  simp only [nilc_some, fad_mk, pik_true, pik_false, cnd_true, cnd_false, gif_same, gif_tf, gif_ft, gif_undef, bi_add, bi_sub, bi_mul, bi_eql, bi_neq, bi_lss, bi_leq, bi_gtr, bi_geq, notB_bool, cvi_int, lenS_mk, lenT_mk, ext0, ext1, ext2, nilP_mk, nilS_mk, fldv_agg, jn0_k, jn1_k, jn2_k, jn1_and, jn1_or, ex_some, Option.isNone_some, Option.isNone_none, Bool.false_bne, Bool.bne_true, Bool.bne_false, Bool.true_bne, Bool.not_true, Bool.not_false, Bool.and_true, Bool.true_and, Bool.and_false, Bool.false_and, Bool.or_true, Bool.true_or, Bool.or_false, Bool.false_or, cond_true, cond_false, List.getElem?_toArray, List.getElem?_cons_zero, List.getElem?_cons_succ, Nat.zero_add, Nat.add_zero, Nat.reduceAdd, forall_const]
  refine alloc_s hy5 (A_api_Snow x5) fun b5 y5 hz5 => ?_
  refine St_api_Snow hz5 (one_api_Snow hy5.oneR) fun z5 hs5 => ?_
  simp only [L_api_Params hs5.tail.tail.tail.tail.tail.tail.tail.tail.tail.tail.tail.tail.tail.tail.blk, L_api_Params__K hs5.tail.tail.tail.tail.tail.tail.tail.tail.tail.tail.tail.tail.tail.tail.blk, L_api_Params__AlphaPref hs5.tail.tail.tail.tail.tail.tail.tail.tail.tail.tail.tail.tail.tail.tail.blk, L_api_Params__AlphaConf hs5.tail.tail.tail.tail.tail.tail.tail.tail.tail.tail.tail.tail.tail.tail.blk, L_api_Params__Beta hs5.tail.tail.tail.tail.tail.tail.tail.tail.tail.tail.tail.tail.tail.tail.blk, L_api_Snow hs5.tail.tail.tail.tail.tail.tail.tail.tail.tail.tail.tail.tail.tail.blk, L_api_Snow__List hs5.tail.tail.tail.tail.tail.tail.tail.tail.tail.tail.tail.tail.tail.blk, L_api_Snow__Pref hs5.tail.tail.tail.tail.tail.tail.tail.tail.tail.tail.tail.tail.tail.blk, L_api_Snow__Flake hs5.tail.tail.tail.tail.tail.tail.tail.tail.tail.tail.tail.tail.tail.blk, L_api_Snow__Conf hs5.tail.tail.tail.tail.tail.tail.tail.tail.tail.tail.tail.tail.tail.blk, L_api_Snow__Done hs5.tail.tail.tail.tail.tail.tail.tail.tail.tail.tail.tail.tail.tail.blk]
  refine cal_i (rFail_spec hp (hr.fr hs5.fr0) (by omega) h1) ?_
  rintro _ x6 ⟨v6, rfl, hy6⟩
  replace hy6 := hs5.join hy6
  simp only [nilc_some, fad_mk, pik_true, pik_false, cnd_true, cnd_false, gif_same, gif_tf, gif_ft, gif_undef, bi_add, bi_sub, bi_mul, bi_eql, bi_neq, bi_lss, bi_leq, bi_gtr, bi_geq, notB_bool, cvi_int, lenS_mk, lenT_mk, ext0, ext1, ext2, nilP_mk, nilS_mk, fldv_agg, jn0_k, jn1_k, jn2_k, jn1_and, jn1_or, ex_some, Option.isNone_some, Option.isNone_none, Bool.false_bne, Bool.bne_true, Bool.bne_false, Bool.true_bne, Bool.not_true, Bool.not_false, Bool.and_true, Bool.true_and, Bool.and_false, Bool.false_and, Bool.or_true, Bool.true_or, Bool.or_false, Bool.false_or, cond_true, cond_false, List.getElem?_toArray, List.getElem?_cons_zero, List.getElem?_cons_succ, Nat.zero_add, Nat.add_zero, Nat.reduceAdd, forall_const]
  refine alloc_s hy6 (A_api_Snow x6) fun b6 y6 hz6 => ?_
  refine St_api_Snow hz6 (one_api_Snow hy6.oneR) fun z6 hs6 => ?_
  have ha := addM_len p x id
  have hc := pollM_len p x id n
  have hf := failM_len p x
  simp only [L_api_Snow hs6.tail.tail.tail.tail.tail.tail.tail.tail.tail.tail.blk, L_api_Snow__List hs6.tail.tail.tail.tail.tail.tail.tail.tail.tail.tail.blk, L_api_Snow__Pref hs6.tail.tail.tail.tail.tail.tail.tail.tail.tail.tail.blk, L_api_Snow__Flake hs6.tail.tail.tail.tail.tail.tail.tail.tail.tail.tail.blk, L_api_Snow__Conf hs6.tail.tail.tail.tail.tail.tail.tail.tail.tail.tail.blk, L_api_Snow__Done hs6.tail.tail.tail.tail.tail.tail.tail.tail.tail.tail.blk, L_api_Snow hs6.tail.tail.tail.tail.tail.tail.tail.tail.blk, L_api_Snow__List hs6.tail.tail.tail.tail.tail.tail.tail.tail.blk, L_api_Snow__Pref hs6.tail.tail.tail.tail.tail.tail.tail.tail.blk, L_api_Snow__Flake hs6.tail.tail.tail.tail.tail.tail.tail.tail.blk, L_api_Snow__Conf hs6.tail.tail.tail.tail.tail.tail.tail.tail.blk, L_api_Snow__Done hs6.tail.tail.tail.tail.tail.tail.tail.tail.blk]
  refine (cal_i (rSame_spec (Sep.rows hs6.tail.tail.tail.tail.tail.tail.tail.tail.tail.tail.tail) (Sep.rows hs6.tail.tail.tail.tail.tail.tail.tail.tail.tail) (by omega) (by omega)) ?_)
  rintro _ u0 ⟨rfl, hq0⟩
  have ha0 := hs6.old hq0
  rw [sameS_eq rfl]
  simp only [nilc_some, fad_mk, pik_true, pik_false, cnd_true, cnd_false, gif_same, gif_tf, gif_ft, gif_undef, bi_add, bi_sub, bi_mul, bi_eql, bi_neq, bi_lss, bi_leq, bi_gtr, bi_geq, notB_bool, cvi_int, lenS_mk, lenT_mk, ext0, ext1, ext2, nilP_mk, nilS_mk, fldv_agg, jn0_k, jn1_k, jn2_k, jn1_and, jn1_or, ex_some, Option.isNone_some, Option.isNone_none, Bool.false_bne, Bool.bne_true, Bool.bne_false, Bool.true_bne, Bool.not_true, Bool.not_false, Bool.and_true, Bool.true_and, Bool.and_false, Bool.false_and, Bool.or_true, Bool.true_or, Bool.or_false, Bool.false_or, cond_true, cond_false, List.getElem?_toArray, List.getElem?_cons_zero, List.getElem?_cons_succ, Nat.zero_add, Nat.add_zero, Nat.reduceAdd, forall_const, bne_self_eq_false]
  simp only [L_api_Snow ha0.tail.tail.tail.tail.tail.tail.blk, L_api_Snow__List ha0.tail.tail.tail.tail.tail.tail.blk, L_api_Snow__Pref ha0.tail.tail.tail.tail.tail.tail.blk, L_api_Snow__Flake ha0.tail.tail.tail.tail.tail.tail.blk, L_api_Snow__Conf ha0.tail.tail.tail.tail.tail.tail.blk, L_api_Snow__Done ha0.tail.tail.tail.tail.tail.tail.blk, L_api_Snow ha0.tail.tail.tail.tail.blk, L_api_Snow__List ha0.tail.tail.tail.tail.blk, L_api_Snow__Pref ha0.tail.tail.tail.tail.blk, L_api_Snow__Flake ha0.tail.tail.tail.tail.blk, L_api_Snow__Conf ha0.tail.tail.tail.tail.blk, L_api_Snow__Done ha0.tail.tail.tail.tail.blk]
  refine jn1_dup (cal_i (rSame_spec (Sep.rows ha0.tail.tail.tail.tail.tail.tail.tail) (Sep.rows ha0.tail.tail.tail.tail.tail) (by omega) (by omega)) ?_)
  rintro _ u1 ⟨rfl, hq1⟩
  have ha1 := ha0.old hq1
  rw [sameS_eq rfl]
  simp only [nilc_some, fad_mk, pik_true, pik_false, cnd_true, cnd_false, gif_same, gif_tf, gif_ft, gif_undef, bi_add, bi_sub, bi_mul, bi_eql, bi_neq, bi_lss, bi_leq, bi_gtr, bi_geq, notB_bool, cvi_int, lenS_mk, lenT_mk, ext0, ext1, ext2, nilP_mk, nilS_mk, fldv_agg, jn0_k, jn1_k, jn2_k, jn1_and, jn1_or, ex_some, Option.isNone_some, Option.isNone_none, Bool.false_bne, Bool.bne_true, Bool.bne_false, Bool.true_bne, Bool.not_true, Bool.not_false, Bool.and_true, Bool.true_and, Bool.and_false, Bool.false_and, Bool.or_true, Bool.true_or, Bool.or_false, Bool.false_or, cond_true, cond_false, List.getElem?_toArray, List.getElem?_cons_zero, List.getElem?_cons_succ, Nat.zero_add, Nat.add_zero, Nat.reduceAdd, forall_const, bne_self_eq_false]
  simp only [L_api_Snow ha1.tail.tail.blk, L_api_Snow__List ha1.tail.tail.blk, L_api_Snow__Pref ha1.tail.tail.blk, L_api_Snow__Flake ha1.tail.tail.blk, L_api_Snow__Conf ha1.tail.tail.blk, L_api_Snow__Done ha1.tail.tail.blk, L_api_Snow ha1.blk, L_api_Snow__List ha1.blk, L_api_Snow__Pref ha1.blk, L_api_Snow__Flake ha1.blk, L_api_Snow__Conf ha1.blk, L_api_Snow__Done ha1.blk]
  refine jn1_dup (cal_i (rSame_spec (Sep.rows ha1.tail.tail.tail) (Sep.rows ha1.tail) (by omega) (by omega)) ?_)
  rintro _ u2 ⟨rfl, hq2⟩
  have ha2 := ha1.old hq2
  rw [sameS_eq rfl]
  simp only [nilc_some, fad_mk, pik_true, pik_false, cnd_true, cnd_false, gif_same, gif_tf, gif_ft, gif_undef, bi_add, bi_sub, bi_mul, bi_eql, bi_neq, bi_lss, bi_leq, bi_gtr, bi_geq, notB_bool, cvi_int, lenS_mk, lenT_mk, ext0, ext1, ext2, nilP_mk, nilS_mk, fldv_agg, jn0_k, jn1_k, jn2_k, jn1_and, jn1_or, ex_some, Option.isNone_some, Option.isNone_none, Bool.false_bne, Bool.bne_true, Bool.bne_false, Bool.true_bne, Bool.not_true, Bool.not_false, Bool.and_true, Bool.true_and, Bool.and_false, Bool.false_and, Bool.or_true, Bool.true_or, Bool.or_false, Bool.false_or, cond_true, cond_false, List.getElem?_toArray, List.getElem?_cons_zero, List.getElem?_cons_succ, Nat.zero_add, Nat.add_zero, Nat.reduceAdd, forall_const, bne_self_eq_false]
  simp only [L_api_Snow ha2.tail.tail.tail.tail.tail.tail.tail.tail.tail.tail.blk, L_api_Snow__List ha2.tail.tail.tail.tail.tail.tail.tail.tail.tail.tail.blk, L_api_Snow__Pref ha2.tail.tail.tail.tail.tail.tail.tail.tail.tail.tail.blk, L_api_Snow__Flake ha2.tail.tail.tail.tail.tail.tail.tail.tail.tail.tail.blk, L_api_Snow__Conf ha2.tail.tail.tail.tail.tail.tail.tail.tail.tail.tail.blk, L_api_Snow__Done ha2.tail.tail.tail.tail.tail.tail.tail.tail.tail.tail.blk, L_api_Snow ha2.tail.tail.tail.tail.tail.tail.blk, L_api_Snow__List ha2.tail.tail.tail.tail.tail.tail.blk, L_api_Snow__Pref ha2.tail.tail.tail.tail.tail.tail.blk, L_api_Snow__Flake ha2.tail.tail.tail.tail.tail.tail.blk, L_api_Snow__Conf ha2.tail.tail.tail.tail.tail.tail.blk, L_api_Snow__Done ha2.tail.tail.tail.tail.tail.tail.blk, L_api_Snow ha2.tail.tail.blk, L_api_Snow__List ha2.tail.tail.blk, L_api_Snow__Pref ha2.tail.tail.blk, L_api_Snow__Flake ha2.tail.tail.blk, L_api_Snow__Conf ha2.tail.tail.blk, L_api_Snow__Done ha2.tail.tail.blk]
  have hb := Sep.sub (As := [rows Q_api_Choice v5 (failM p x).1.l, rows Q_api_Choice v3 (pollM p x id n).1.l, rows Q_api_Choice v1 (addM p x id).1.l, sn g4 vw x, rows Q_api_Choice vw x.l, sn g2 v x]) ha2 (.cons _ (.cons _ (.cons _ (.cons_cons _ (.cons _ (.cons _ (.cons _ (.cons_cons _ (.cons _ (.cons _ (.cons _ (.cons_cons _ (.cons_cons _ (.cons_cons _ (.cons _ (.cons_cons _ (.cons _ (.slnil))))))))))))))))))
  refine rows_lit (q := Q_api_Snow) (l := [snr v1 (addM p x id).1, snr v3 (pollM p x id n).1, snr v5 (failM p x).1]) (V := fun c => .agg (Rdr.cells Q_api_Snow c).toArray) hb S_sl_api_Snow (fun a => rfl) rfl rfl (by decide) (by decide) fun g11 w11 hs11 => ?_
  simp only [nilc_some, fad_mk, pik_true, pik_false, cnd_true, cnd_false, gif_same, gif_tf, gif_ft, gif_undef, bi_add, bi_sub, bi_mul, bi_eql, bi_neq, bi_lss, bi_leq, bi_gtr, bi_geq, notB_bool, cvi_int, lenS_mk, lenT_mk, ext0, ext1, ext2, nilP_mk, nilS_mk, fldv_agg, jn0_k, jn1_k, jn2_k, jn1_and, jn1_or, ex_some, Option.isNone_some, Option.isNone_none, Bool.false_bne, Bool.bne_true, Bool.bne_false, Bool.true_bne, Bool.not_true, Bool.not_false, Bool.and_true, Bool.true_and, Bool.and_false, Bool.false_and, Bool.or_true, Bool.true_or, Bool.or_false, Bool.false_or, cond_true, cond_false, List.getElem?_toArray, List.getElem?_cons_zero, List.getElem?_cons_succ, Nat.zero_add, Nat.add_zero, Nat.reduceAdd, forall_const]
  refine ⟨fun a w' => ∃ (i : Nat) (l1 l3 l5 : List Cho), a = .int .i64 i ∧ i ≤ 3 ∧ l1.length = (addM p x id).1.l.length ∧ l3.length = (pollM p x id n).1.l.length ∧ l5.length = (failM p x).1.l.length ∧
      Sep w w' [rows Q_api_Snow (.slice (some ⟨g11, 0, none⟩) 3 3) [snr v1 (addM p x id).1, snr v3 (pollM p x id n).1, snr v5 (failM p x).1], rows Q_api_Choice v5 l5, rows Q_api_Choice v3 l3, rows Q_api_Choice v1 l1, sn g4 vw x, rows Q_api_Choice vw x.l, sn g2 v x],
    fun z _ => (3 - RowKit.intOf z).toNat, ⟨0, _, _, _, rfl, by omega, rfl, rfl, rfl, hs11⟩, ?_⟩
  rintro _ w12 ⟨i, l1, l3, l5, rfl, hi, e1, e3, e5, hs12⟩ -
  simp only [nilc_some, fad_mk, pik_true, pik_false, cnd_true, cnd_false, gif_same, gif_tf, gif_ft, gif_undef, bi_add, bi_sub, bi_mul, bi_eql, bi_neq, bi_lss, bi_leq, bi_gtr, bi_geq, notB_bool, cvi_int, lenS_mk, lenT_mk, ext0, ext1, ext2, nilP_mk, nilS_mk, fldv_agg, jn0_k, jn1_k, jn2_k, jn1_and, jn1_or, ex_some, Option.isNone_some, Option.isNone_none, Bool.false_bne, Bool.bne_true, Bool.bne_false, Bool.true_bne, Bool.not_true, Bool.not_false, Bool.and_true, Bool.true_and, Bool.and_false, Bool.false_and, Bool.or_true, Bool.true_or, Bool.or_false, Bool.false_or, cond_true, cond_false, List.getElem?_toArray, List.getElem?_cons_zero, List.getElem?_cons_succ, Nat.zero_add, Nat.add_zero, Nat.reduceAdd, forall_const]
  rw [cnd_bool]
  refine ⟨fun h => ?_, fun h => ?_⟩
  · have hlt : i < 3 := by simp at h; omega
    have hcase : i = 0 ∨ i = 1 ∨ i = 2 := by omega
    rcases hcase with rfl | rfl | rfl
    · refine (Sep.rows hs12).ldN (by decide) (show [snr v1 (addM p x id).1, snr v3 (pollM p x id n).1, snr v5 (failM p x).1][0]? = some (snr v1 (addM p x id).1) from rfl) _ ?_
      have ho : v1.oneCell' = true := Sep.oneR hs12.p3
      refine alloc_s hs12 (A_api_Snow w12) fun g23 w13 hs13 => ?_
      refine St_api_Snow hs13 (one_api_Snow ho) fun w14 hs14 => ?_
      simp only [nilc_some, fad_mk, pik_true, pik_false, cnd_true, cnd_false, gif_same, gif_tf, gif_ft, gif_undef, bi_add, bi_sub, bi_mul, bi_eql, bi_neq, bi_lss, bi_leq, bi_gtr, bi_geq, notB_bool, cvi_int, lenS_mk, lenT_mk, ext0, ext1, ext2, nilP_mk, nilS_mk, fldv_agg, jn0_k, jn1_k, jn2_k, jn1_and, jn1_or, ex_some, Option.isNone_some, Option.isNone_none, Bool.false_bne, Bool.bne_true, Bool.bne_false, Bool.true_bne, Bool.not_true, Bool.not_false, Bool.and_true, Bool.true_and, Bool.and_false, Bool.false_and, Bool.or_true, Bool.true_or, Bool.or_false, Bool.false_or, cond_true, cond_false, List.getElem?_toArray, List.getElem?_cons_zero, List.getElem?_cons_succ, Nat.zero_add, Nat.add_zero, Nat.reduceAdd, forall_const, L_api_Snow hs14.blk, L_api_Snow__List hs14.blk, L_api_Snow__Pref hs14.blk, L_api_Snow__Flake hs14.blk, L_api_Snow__Conf hs14.blk, L_api_Snow__Done hs14.blk, (Sep.rows hs14.p4).len]
      refine inner (l := l1) (by omega) hs14.p4.p1 fun w15 l' hl hs15 => ?_
      rw [wi64 (by omega) (by omega)]
      exact ⟨⟨1, l', l3, l5, rfl, by omega, hl.trans e1, e3, e5, hs15.tail.q3⟩, by simp [RowKit.intOf]⟩
    · refine (Sep.rows hs12).ldN (by decide) (show [snr v1 (addM p x id).1, snr v3 (pollM p x id n).1, snr v5 (failM p x).1][1]? = some (snr v3 (pollM p x id n).1) from rfl) _ ?_
      have ho : v3.oneCell' = true := Sep.oneR hs12.p2
      refine alloc_s hs12 (A_api_Snow w12) fun g23 w13 hs13 => ?_
      refine St_api_Snow hs13 (one_api_Snow ho) fun w14 hs14 => ?_
      simp only [nilc_some, fad_mk, pik_true, pik_false, cnd_true, cnd_false, gif_same, gif_tf, gif_ft, gif_undef, bi_add, bi_sub, bi_mul, bi_eql, bi_neq, bi_lss, bi_leq, bi_gtr, bi_geq, notB_bool, cvi_int, lenS_mk, lenT_mk, ext0, ext1, ext2, nilP_mk, nilS_mk, fldv_agg, jn0_k, jn1_k, jn2_k, jn1_and, jn1_or, ex_some, Option.isNone_some, Option.isNone_none, Bool.false_bne, Bool.bne_true, Bool.bne_false, Bool.true_bne, Bool.not_true, Bool.not_false, Bool.and_true, Bool.true_and, Bool.and_false, Bool.false_and, Bool.or_true, Bool.true_or, Bool.or_false, Bool.false_or, cond_true, cond_false, List.getElem?_toArray, List.getElem?_cons_zero, List.getElem?_cons_succ, Nat.zero_add, Nat.add_zero, Nat.reduceAdd, forall_const, L_api_Snow hs14.blk, L_api_Snow__List hs14.blk, L_api_Snow__Pref hs14.blk, L_api_Snow__Flake hs14.blk, L_api_Snow__Conf hs14.blk, L_api_Snow__Done hs14.blk, (Sep.rows hs14.p3).len]
      refine inner (l := l3) (by omega) hs14.p3.p1 fun w15 l' hl hs15 => ?_
      rw [wi64 (by omega) (by omega)]
      exact ⟨⟨2, l1, l', l5, rfl, by omega, e1, hl.trans e3, e5, hs15.tail.q2⟩, by simp [RowKit.intOf]⟩
    · refine (Sep.rows hs12).ldN (by decide) (show [snr v1 (addM p x id).1, snr v3 (pollM p x id n).1, snr v5 (failM p x).1][2]? = some (snr v5 (failM p x).1) from rfl) _ ?_
      have ho : v5.oneCell' = true := Sep.oneR hs12.p1
      refine alloc_s hs12 (A_api_Snow w12) fun g23 w13 hs13 => ?_
      refine St_api_Snow hs13 (one_api_Snow ho) fun w14 hs14 => ?_
      simp only [nilc_some, fad_mk, pik_true, pik_false, cnd_true, cnd_false, gif_same, gif_tf, gif_ft, gif_undef, bi_add, bi_sub, bi_mul, bi_eql, bi_neq, bi_lss, bi_leq, bi_gtr, bi_geq, notB_bool, cvi_int, lenS_mk, lenT_mk, ext0, ext1, ext2, nilP_mk, nilS_mk, fldv_agg, jn0_k, jn1_k, jn2_k, jn1_and, jn1_or, ex_some, Option.isNone_some, Option.isNone_none, Bool.false_bne, Bool.bne_true, Bool.bne_false, Bool.true_bne, Bool.not_true, Bool.not_false, Bool.and_true, Bool.true_and, Bool.and_false, Bool.false_and, Bool.or_true, Bool.true_or, Bool.or_false, Bool.false_or, cond_true, cond_false, List.getElem?_toArray, List.getElem?_cons_zero, List.getElem?_cons_succ, Nat.zero_add, Nat.add_zero, Nat.reduceAdd, forall_const, L_api_Snow hs14.blk, L_api_Snow__List hs14.blk, L_api_Snow__Pref hs14.blk, L_api_Snow__Flake hs14.blk, L_api_Snow__Conf hs14.blk, L_api_Snow__Done hs14.blk, (Sep.rows hs14.p2).len]
      refine inner (l := l5) (by omega) hs14.p2.p1 fun w15 l' hl hs15 => ?_
      rw [wi64 (by omega) (by omega)]
      exact ⟨⟨3, l1, l3, l', rfl, by omega, e1, e3, hl.trans e5, hs15.tail.p1⟩, by simp [RowKit.intOf]⟩
  · simp only [L_api_Snow hs12.tail.tail.tail.tail.tail.tail.blk, L_api_Snow__List hs12.tail.tail.tail.tail.tail.tail.blk, L_api_Snow__Pref hs12.tail.tail.tail.tail.tail.tail.blk, L_api_Snow__Flake hs12.tail.tail.tail.tail.tail.tail.blk, L_api_Snow__Conf hs12.tail.tail.tail.tail.tail.tail.blk, L_api_Snow__Done hs12.tail.tail.tail.tail.tail.tail.blk, L_api_Snow hs12.tail.tail.tail.tail.blk, L_api_Snow__List hs12.tail.tail.tail.tail.blk, L_api_Snow__Pref hs12.tail.tail.tail.tail.blk, L_api_Snow__Flake hs12.tail.tail.tail.tail.blk, L_api_Snow__Conf hs12.tail.tail.tail.tail.blk, L_api_Snow__Done hs12.tail.tail.tail.tail.blk]
    refine cal_i (rSame_spec (hr.fr hs12.fr0) (Sep.rows hs12.tail.tail.tail.tail.tail) (by omega) (by omega)) ?_
    rintro _ w13 ⟨rfl, hf13⟩
    have hs13 := hs12.old hf13
    exact hR _ _ ⟨by rw [sameS_eq rfl], hs13.fr0⟩
end Go.Fx
