/-
  The law SnowOnly: the walk.
-/
import Derived.Test.YtgiklllplfcikaaSnL
set_option linter.unusedVariables false
set_option linter.unusedSimpArgs false
namespace Go.Fx
theorem ixv_vec {m i : Nat} {k : IntKind} {l : Vec m} {b : UInt8} {K : Value → Prop} (hb : l.1[i]? = some b) (h : K (bv b)) : ixv m 1 false (.agg (Rdr.cells (rVec m) l).toArray) (.int k (i : Int)) K := by
  have hlt := (List.getElem?_eq_some_iff.1 hb).1
  have hm := l.2
  refine ⟨_, _, _, rfl, rfl, by omega, by omega, ?_⟩
  show ∃ v, _ ∧ _
  refine ⟨bv b, ?_, h⟩
  simp [rVec, bvs, hb]
theorem SnowOnly_walk {w : World} {p : Par} {l : Vec 3} (rd0 : Rdr.ok R_api_Params w.heap p) :
    cal P f_law17_SnowOnly [pav p, .agg (Rdr.cells (rVec 3) l).toArray] w fun r w' => r = .bool true ∧ Fr [] w w' := by
  have hp := paOk rd0
  refine s_law17_SnowOnly fun R hR => ?_
  unfold c_law17_SnowOnly
  refine bx_s (Sep.start w) fun g1 w1 hs => ?_
  refine bx_s hs fun g2 w2 hs => ?_
  simp only [Value.cells] at hs
  have hlive : ∀ w', Fr [] w w' → cal P f_law17_live [] w' R := fun w' hf => cal_i live_spec fun r w'' ⟨h1, h2⟩ => hR _ _ ⟨h1, (((Sep.start w).old hf).old h2).fr0⟩
  refine cal_i live_spec ?_
  rintro _ w3 ⟨rfl, hf3⟩
  replace hs := hs.old hf3
  simp only [nilc_some, fad_mk, pik_true, pik_false, cnd_true, cnd_false, gif_same, gif_tf, gif_ft, gif_undef, bi_add, bi_sub, bi_mul, bi_eql, bi_neq, bi_lss, bi_leq, bi_gtr, bi_geq, notB_bool, cvi_int, lenS_mk, lenT_mk, ext0, ext1, ext2, nilP_mk, nilS_mk, fldv_agg, jn0_k, jn1_k, jn2_k, jn1_and, jn1_or, ex_some, Option.isNone_some, Option.isNone_none, Bool.false_bne, Bool.bne_true, Bool.bne_false, Bool.true_bne, Bool.not_true, Bool.not_false, Bool.and_true, Bool.true_and, Bool.and_false, Bool.false_and, Bool.or_true, Bool.true_or, Bool.or_false, Bool.false_or, cond_true, cond_false, List.getElem?_toArray, List.getElem?_cons_zero, List.getElem?_cons_succ, Nat.zero_add, Nat.add_zero, Nat.reduceAdd, forall_const, L_api_Params hs.p1.blk, L_api_Params__K hs.p1.blk, L_api_Params__AlphaPref hs.p1.blk, L_api_Params__AlphaConf hs.p1.blk, L_api_Params__Beta hs.p1.blk]
  refine jn1_dup (cal_i Params_spec ?_)
  rintro _ w4 ⟨rfl, hf4⟩
  replace hs := hs.old hf4
  simp only [nilc_some, fad_mk, pik_true, pik_false, cnd_true, cnd_false, gif_same, gif_tf, gif_ft, gif_undef, bi_add, bi_sub, bi_mul, bi_eql, bi_neq, bi_lss, bi_leq, bi_gtr, bi_geq, notB_bool, cvi_int, lenS_mk, lenT_mk, ext0, ext1, ext2, nilP_mk, nilS_mk, fldv_agg, jn0_k, jn1_k, jn2_k, jn1_and, jn1_or, ex_some, Option.isNone_some, Option.isNone_none, Bool.false_bne, Bool.bne_true, Bool.bne_false, Bool.true_bne, Bool.not_true, Bool.not_false, Bool.and_true, Bool.true_and, Bool.and_false, Bool.false_and, Bool.or_true, Bool.true_or, Bool.or_false, Bool.false_or, cond_true, cond_false, List.getElem?_toArray, List.getElem?_cons_zero, List.getElem?_cons_succ, Nat.zero_add, Nat.add_zero, Nat.reduceAdd, forall_const]
  rw [cnd_bool]
  refine ⟨fun h => hlive _ hs.fr0, fun h => ?_⟩
  have h : parE p = 0 := by simpa using h
  obtain ⟨r1, r2, r3, r4, r5, r6, r7⟩ := parE_zero h
  simp only [L_a3_uint8 hs.blk]
  refine ⟨fun a b c w' => ∃ (s : Int) (e : Int) (i : Nat), a = .int .i64 s ∧ b = .int .i64 e ∧ c = .int .i64 i ∧ i ≤ 3 ∧ 0 ≤ s ∧ s ≤ p.1 ∧ (e = 0 ∨ e = 1 ∧ p.2.1 ≤ s) ∧ Sep w w' [blk g2 (Rdr.cells (rVec 3) l).toArray T_a3_uint8, blk g1 (Rdr.cells Q_api_Params p).toArray T_api_Params],
    fun _ _ c _ => (3 - RowKit.intOf c).toNat, ⟨0, 0, 0, rfl, rfl, rfl, by omega, by omega, by omega, .inl rfl, hs⟩, ?_⟩
  rintro _ _ _ w5 ⟨s, e, i, rfl, rfl, rfl, hi, hs0, hs1, he, hs5⟩ -
  simp only [nilc_some, fad_mk, pik_true, pik_false, cnd_true, cnd_false, gif_same, gif_tf, gif_ft, gif_undef, bi_add, bi_sub, bi_mul, bi_eql, bi_neq, bi_lss, bi_leq, bi_gtr, bi_geq, notB_bool, cvi_int, lenS_mk, lenT_mk, ext0, ext1, ext2, nilP_mk, nilS_mk, fldv_agg, jn0_k, jn1_k, jn2_k, jn1_and, jn1_or, ex_some, Option.isNone_some, Option.isNone_none, Bool.false_bne, Bool.bne_true, Bool.bne_false, Bool.true_bne, Bool.not_true, Bool.not_false, Bool.and_true, Bool.true_and, Bool.and_false, Bool.false_and, Bool.or_true, Bool.true_or, Bool.or_false, Bool.false_or, cond_true, cond_false, List.getElem?_toArray, List.getElem?_cons_zero, List.getElem?_cons_succ, Nat.zero_add, Nat.add_zero, Nat.reduceAdd, forall_const]
  rw [cnd_bool]
  refine ⟨fun h => ?_, fun h => ?_⟩
  · have hlt : i < 3 := by simp at h; omega
    obtain ⟨b, hb⟩ : ∃ b : UInt8, l.1[i]? = some b := ⟨_, List.getElem?_eq_getElem (by rw [l.2]; omega)⟩
    have hb8 := b.toNat_lt
    refine ⟨fun y z w' => ∃ (s : Int) (e : Int), y = .int .i64 s ∧ z = .int .i64 e ∧ 0 ≤ s ∧ s ≤ p.1 ∧ (e = 0 ∨ e = 1 ∧ p.2.1 ≤ s) ∧ Sep w w' [blk g2 (Rdr.cells (rVec 3) l).toArray T_a3_uint8, blk g1 (Rdr.cells Q_api_Params p).toArray T_api_Params], ?_, ?_⟩
    · refine ixv_vec hb ?_
      simp only [bv, nilc_some, fad_mk, pik_true, pik_false, cnd_true, cnd_false, gif_same, gif_tf, gif_ft, gif_undef, bi_add, bi_sub, bi_mul, bi_eql, bi_neq, bi_lss, bi_leq, bi_gtr, bi_geq, notB_bool, cvi_int, lenS_mk, lenT_mk, ext0, ext1, ext2, nilP_mk, nilS_mk, fldv_agg, jn0_k, jn1_k, jn2_k, jn1_and, jn1_or, ex_some, Option.isNone_some, Option.isNone_none, Bool.false_bne, Bool.bne_true, Bool.bne_false, Bool.true_bne, Bool.not_true, Bool.not_false, Bool.and_true, Bool.true_and, Bool.and_false, Bool.false_and, Bool.or_true, Bool.true_or, Bool.or_false, Bool.false_or, cond_true, cond_false, List.getElem?_toArray, List.getElem?_cons_zero, List.getElem?_cons_succ, Nat.zero_add, Nat.add_zero, Nat.reduceAdd, forall_const, L_api_Params hs5.p1.blk, L_api_Params__K hs5.p1.blk, L_api_Params__AlphaPref hs5.p1.blk, L_api_Params__AlphaConf hs5.p1.blk, L_api_Params__Beta hs5.p1.blk]
      rw [wi64 (by omega) (by omega), wi64 (by omega) (by omega), min_int]
      generalize hm : min (b.toNat : Int) (p.1 - s) = m
      simp only [bi_add, bi_geq]
      rw [wi64 (x := s + m) (by omega) (by omega), cnd_bool]
      refine ⟨fun h => ?_, fun h => ?_⟩
      · have h : p.2.1 ≤ m := by simpa using h
        refine ⟨s + m, e + 1, rfl, ?_, by omega, by omega, ?_, hs5⟩
        · first | rfl | rw [wi64 (by omega) (by omega)]
        · have : s = 0 ∨ e = 0 := by omega
          right
          omega
      · have h : ¬ p.2.1 ≤ m := by simpa using h
        exact ⟨s + m, e, rfl, rfl, by omega, by omega, by omega, hs5⟩
    · rintro _ _ w6 ⟨s', e', rfl, rfl, hs', hs1', he', hs6⟩ -
      rw [wi64 (by omega) (by omega)]
      exact ⟨⟨s', e', i + 1, rfl, rfl, by simp, by omega, hs', hs1', he', hs6⟩, by simp [RowKit.intOf]; omega⟩
  · have hge : i = 3 := by simp at h; omega
    simp only [nilc_some, fad_mk, pik_true, pik_false, cnd_true, cnd_false, gif_same, gif_tf, gif_ft, gif_undef, bi_add, bi_sub, bi_mul, bi_eql, bi_neq, bi_lss, bi_leq, bi_gtr, bi_geq, notB_bool, cvi_int, lenS_mk, lenT_mk, ext0, ext1, ext2, nilP_mk, nilS_mk, fldv_agg, jn0_k, jn1_k, jn2_k, jn1_and, jn1_or, ex_some, Option.isNone_some, Option.isNone_none, Bool.false_bne, Bool.bne_true, Bool.bne_false, Bool.true_bne, Bool.not_true, Bool.not_false, Bool.and_true, Bool.true_and, Bool.and_false, Bool.false_and, Bool.or_true, Bool.true_or, Bool.or_false, Bool.false_or, cond_true, cond_false, List.getElem?_toArray, List.getElem?_cons_zero, List.getElem?_cons_succ, Nat.zero_add, Nat.add_zero, Nat.reduceAdd, forall_const, L_api_Params hs5.p1.blk, L_api_Params__K hs5.p1.blk, L_api_Params__AlphaPref hs5.p1.blk, L_api_Params__AlphaConf hs5.p1.blk, L_api_Params__Beta hs5.p1.blk]
    have e1 : decide (e ≤ 1) = true := by simp; omega
    have e2 : decide (s ≤ p.1) = true := by simp; omega
    have e3 : decide (p.2.1 ≤ p.2.2.1) = true := by simp; omega
    simp only [nilc_some, fad_mk, pik_true, pik_false, cnd_true, cnd_false, gif_same, gif_tf, gif_ft, gif_undef, bi_add, bi_sub, bi_mul, bi_eql, bi_neq, bi_lss, bi_leq, bi_gtr, bi_geq, notB_bool, cvi_int, lenS_mk, lenT_mk, ext0, ext1, ext2, nilP_mk, nilS_mk, fldv_agg, jn0_k, jn1_k, jn2_k, jn1_and, jn1_or, ex_some, Option.isNone_some, Option.isNone_none, Bool.false_bne, Bool.bne_true, Bool.bne_false, Bool.true_bne, Bool.not_true, Bool.not_false, Bool.and_true, Bool.true_and, Bool.and_false, Bool.false_and, Bool.or_true, Bool.true_or, Bool.or_false, Bool.false_or, cond_true, cond_false, List.getElem?_toArray, List.getElem?_cons_zero, List.getElem?_cons_succ, Nat.zero_add, Nat.add_zero, Nat.reduceAdd, forall_const, e1, e2, e3]
    exact hR _ _ ⟨rfl, hs5.fr0⟩
end Go.Fx
