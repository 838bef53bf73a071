/-
  What is proved: for every number and every bytes the law TapeFull returns true, and its arguments read as they did. Conditions: none.
-/
import Derived.Test.YtiipcclmmhkggaaLw8B
import Derived.Test.YtiipcclmmhkggaaBase
set_option linter.unusedVariables false
set_option linter.unusedSimpArgs false
namespace Go.Fx
theorem TapeFull_walk {w : World} {n : Nat} (hn : n < 65536) {b : Sl UInt8} (hb : R_sl_uint8.ok w.heap b) : cal P f_law08_TapeFull [.int .u16 n, b.v] w fun r w' => r = .bool true ∧ Fr [] w w' := by
  refine s_law08_TapeFull fun R hR => ?_
  unfold c_law08_TapeFull
  have e1 : IntKind.i64.wrap (n : Int) = (n : Int) := wi64 (by omega) (by omega)
  have e2 : ((n : Int)).tmod 300 = ((n % 300 : Nat) : Int) := tmodn _ 300
  simp only [cvi_int, e1]
  rw [bi_rem _ _ _ _ (by omega), e2, bi_sub]
  have hlt : n % 300 < 300 := Nat.mod_lt _ (by omega)
  rw [wi64 (by omega) (by omega)]
  obtain ⟨m, hm⟩ : ∃ m : Nat, 262144 - n % 300 = m := ⟨_, rfl⟩
  have e3 : (262144 : Int) - ((n % 300 : Nat) : Int) = (m : Int) := by omega
  rw [e3]
  refine mkB_s (Sep.start w) ST_bytes ZC_uint8 (by omega) fun g1 w1 hs1 => ?_
  refine cal_i (Of_spec hs1.rd) ?_
  rintro r w2 (⟨h, _⟩ | ⟨_, p, rfl, hs2⟩)
  · simp at h; omega
  have hs2 := hs1.join hs2
  simp only [nilc_some, fad_mk, pik_true, pik_false, cnd_true, cnd_false, gif_same, gif_tf, gif_ft, gif_undef, bi_add, bi_sub, bi_mul, bi_eql, bi_neq, bi_lss, bi_leq, bi_gtr, bi_geq, notB_bool, cvi_int, lenS_mk, lenT_mk, ext0, ext1, ext2, nilP_mk, nilS_mk, fldv_agg, jn0_k, jn1_k, jn2_k, jn1_and, jn1_or, ex_some, Option.isNone_some, Option.isNone_none, Bool.false_bne, Bool.bne_true, Bool.bne_false, Bool.true_bne, Bool.not_true, Bool.not_false, Bool.and_true, Bool.true_and, Bool.and_false, Bool.false_and, Bool.or_true, Bool.true_or, Bool.or_false, Bool.false_or, cond_true, cond_false, List.getElem?_toArray, List.getElem?_cons_zero, List.getElem?_cons_succ, Nat.zero_add, Nat.add_zero, Nat.reduceAdd, forall_const]
  refine cal_i begun_spec ?_
  rintro _ w3 ⟨rfl, hf3⟩
  have hs3 := hs2.old hf3
  simp only [nilc_some, fad_mk, pik_true, pik_false, cnd_true, cnd_false, gif_same, gif_tf, gif_ft, gif_undef, bi_add, bi_sub, bi_mul, bi_eql, bi_neq, bi_lss, bi_leq, bi_gtr, bi_geq, notB_bool, cvi_int, lenS_mk, lenT_mk, ext0, ext1, ext2, nilP_mk, nilS_mk, fldv_agg, jn0_k, jn1_k, jn2_k, jn1_and, jn1_or, ex_some, Option.isNone_some, Option.isNone_none, Bool.false_bne, Bool.bne_true, Bool.bne_false, Bool.true_bne, Bool.not_true, Bool.not_false, Bool.and_true, Bool.true_and, Bool.and_false, Bool.false_and, Bool.or_true, Bool.true_or, Bool.or_false, Bool.false_or, cond_true, cond_false, List.getElem?_toArray, List.getElem?_cons_zero, List.getElem?_cons_succ, Nat.zero_add, Nat.add_zero, Nat.reduceAdd, forall_const, show ((0 : Int) != 0) = false from rfl, tp_nilP hs3, rBytes_len hb, show ((0 : Int) == 0) = true from rfl]
  rw [cnd_bool]
  refine ⟨fun h => ?_, fun h => ?_⟩
  · refine cal_i begun_spec ?_
    rintro _ w4 ⟨rfl, hf4⟩
    simp only [nilc_some, fad_mk, pik_true, pik_false, cnd_true, cnd_false, gif_same, gif_tf, gif_ft, gif_undef, bi_add, bi_sub, bi_mul, bi_eql, bi_neq, bi_lss, bi_leq, bi_gtr, bi_geq, notB_bool, cvi_int, lenS_mk, lenT_mk, ext0, ext1, ext2, nilP_mk, nilS_mk, fldv_agg, jn0_k, jn1_k, jn2_k, jn1_and, jn1_or, ex_some, Option.isNone_some, Option.isNone_none, Bool.false_bne, Bool.bne_true, Bool.bne_false, Bool.true_bne, Bool.not_true, Bool.not_false, Bool.and_true, Bool.true_and, Bool.and_false, Bool.false_and, Bool.or_true, Bool.true_or, Bool.or_false, Bool.false_or, cond_true, cond_false, List.getElem?_toArray, List.getElem?_cons_zero, List.getElem?_cons_succ, Nat.zero_add, Nat.add_zero, Nat.reduceAdd, forall_const]
    exact hR _ _ ⟨rfl, (hs3.old hf4).fr0⟩
  have hbl : b.l.length ≤ 2000 := by simp at h; omega
  refine mkB_s (n := 262145) hs3 ST_bytes ZC_uint8 (by omega) fun g4 w4 hs4 => ?_
  refine cal_i (Of_spec hs4.rd) ?_
  rintro r w5 (⟨_, rfl, rfl⟩ | ⟨h, _⟩)
  case inr => rw [List.length_replicate] at h; omega
  simp only [nilc_some, fad_mk, pik_true, pik_false, cnd_true, cnd_false, gif_same, gif_tf, gif_ft, gif_undef, bi_add, bi_sub, bi_mul, bi_eql, bi_neq, bi_lss, bi_leq, bi_gtr, bi_geq, notB_bool, cvi_int, lenS_mk, lenT_mk, ext0, ext1, ext2, nilP_mk, nilS_mk, fldv_agg, jn0_k, jn1_k, jn2_k, jn1_and, jn1_or, ex_some, Option.isNone_some, Option.isNone_none, Bool.false_bne, Bool.bne_true, Bool.bne_false, Bool.true_bne, Bool.not_true, Bool.not_false, Bool.and_true, Bool.true_and, Bool.and_false, Bool.false_and, Bool.or_true, Bool.true_or, Bool.or_false, Bool.false_or, cond_true, cond_false, List.getElem?_toArray, List.getElem?_cons_zero, List.getElem?_cons_succ, Nat.zero_add, Nat.add_zero, Nat.reduceAdd, forall_const, show ((3 : Int) != 3) = false from rfl]
  have hb5 : ∀ w : World, (Instr.buildSlice T_sl_sl_uint8 2 #[(0, b.v), (1, .slice none 0 0)]).run P w = .ok (.slice (some ⟨w.heap.size, 0, none⟩) 2 2) (w.alloc (.cells ([b.v, .slice none 0 0] : List Value).toArray T_sl_uint8)) := fun w => by
    obtain ⟨a, c, hv⟩ := hb.1.form
    rw [hv]
    kernel_rfl
  refine build_s (cs := [b.v, .slice none 0 0]) (size := 1) hs4.tail rfl (hb5 _) fun g5 w5 hs5 => ?_
  have hx : (⟨List.replicate m 0, -1, false, true⟩ : Tp).Ok := ⟨by show (List.replicate m (0 : UInt8)).length ≤ 262144; simp; omega, by simp, by simp⟩
  refine cal_i (Append_spec (s := ⟨.slice (some ⟨g5, 0, none⟩) 2 2, [b, ⟨.slice none 0 0, []⟩]⟩) hs5.p1 hx fun w' h => ?_) ?_
  · refine ok_of_own h.cel h.capN (by simp) fun a ha => ?_
    simp at ha
    rcases ha with rfl | rfl
    · exact rBytes.fr hb h.fr0
    · exact ⟨RdB.nil _ _, by simp, fun a n c he => by cases he; omega⟩
  rintro _ w6 ⟨rfl, hs6⟩
  have hj : joined [b, ⟨.slice none 0 0, []⟩] = b.l := by simp [joined]
  simp only [hj] at hs6 ⊢
  simp only [nilc_some, fad_mk, pik_true, pik_false, cnd_true, cnd_false, gif_same, gif_tf, gif_ft, gif_undef, bi_add, bi_sub, bi_mul, bi_eql, bi_neq, bi_lss, bi_leq, bi_gtr, bi_geq, notB_bool, cvi_int, lenS_mk, lenT_mk, ext0, ext1, ext2, nilP_mk, nilS_mk, fldv_agg, jn0_k, jn1_k, jn2_k, jn1_and, jn1_or, ex_some, Option.isNone_some, Option.isNone_none, Bool.false_bne, Bool.bne_true, Bool.bne_false, Bool.true_bne, Bool.not_true, Bool.not_false, Bool.and_true, Bool.true_and, Bool.and_false, Bool.false_and, Bool.or_true, Bool.true_or, Bool.or_false, Bool.false_or, cond_true, cond_false, List.getElem?_toArray, List.getElem?_cons_zero, List.getElem?_cons_succ, Nat.zero_add, Nat.add_zero, Nat.reduceAdd, forall_const]
  rw [wi64 (by omega) (by omega), cnd_bool]
  refine ⟨fun h => ?_, fun h => ?_⟩
  · have h : 262144 - (m : Int) < b.l.length := by simpa using h
    have ha : (⟨List.replicate m 0, -1, false, true⟩ : Tp).append b.l = (⟨List.replicate m 0, -1, false, true⟩, 6) := by
      rw [Tp.append, if_neg (by simp [Tp.may]), if_pos (by simp; omega)]
    rw [ha] at hs6 ⊢
    simp only [nilc_some, fad_mk, pik_true, pik_false, cnd_true, cnd_false, gif_same, gif_tf, gif_ft, gif_undef, bi_add, bi_sub, bi_mul, bi_eql, bi_neq, bi_lss, bi_leq, bi_gtr, bi_geq, notB_bool, cvi_int, lenS_mk, lenT_mk, ext0, ext1, ext2, nilP_mk, nilS_mk, fldv_agg, jn0_k, jn1_k, jn2_k, jn1_and, jn1_or, ex_some, Option.isNone_some, Option.isNone_none, Bool.false_bne, Bool.bne_true, Bool.bne_false, Bool.true_bne, Bool.not_true, Bool.not_false, Bool.and_true, Bool.true_and, Bool.and_false, Bool.false_and, Bool.or_true, Bool.true_or, Bool.or_false, Bool.false_or, cond_true, cond_false, List.getElem?_toArray, List.getElem?_cons_zero, List.getElem?_cons_succ, Nat.zero_add, Nat.add_zero, Nat.reduceAdd, forall_const, show ((6 : Int) == 6) = true from rfl]
    refine jn1_dup (cal_i (Len_spec hs6 rfl) ?_)
    rintro _ _ ⟨rfl, rfl⟩
    simp only [nilc_some, fad_mk, pik_true, pik_false, cnd_true, cnd_false, gif_same, gif_tf, gif_ft, gif_undef, bi_add, bi_sub, bi_mul, bi_eql, bi_neq, bi_lss, bi_leq, bi_gtr, bi_geq, notB_bool, cvi_int, lenS_mk, lenT_mk, ext0, ext1, ext2, nilP_mk, nilS_mk, fldv_agg, jn0_k, jn1_k, jn2_k, jn1_and, jn1_or, ex_some, Option.isNone_some, Option.isNone_none, Bool.false_bne, Bool.bne_true, Bool.bne_false, Bool.true_bne, Bool.not_true, Bool.not_false, Bool.and_true, Bool.true_and, Bool.and_false, Bool.false_and, Bool.or_true, Bool.true_or, Bool.or_false, Bool.false_or, cond_true, cond_false, List.getElem?_toArray, List.getElem?_cons_zero, List.getElem?_cons_succ, Nat.zero_add, Nat.add_zero, Nat.reduceAdd, forall_const, List.length_replicate, beq_self_eq_true]
    refine jn1_dup (cal_i (On_spec hs6) ?_)
    rintro _ _ ⟨rfl, rfl⟩
    exact fun _ => hR _ _ ⟨rfl, hs6.fr0⟩
  · have h : ¬ 262144 - (m : Int) < b.l.length := by simpa using h
    have ha : (⟨List.replicate m 0, -1, false, true⟩ : Tp).append b.l = (⟨List.replicate m 0 ++ b.l, -1, false, true⟩, 0) := by
      rw [Tp.append, if_neg (by simp [Tp.may]), if_neg (by simp; omega)]
      simp
    rw [ha] at hs6 ⊢
    simp only [nilc_some, fad_mk, pik_true, pik_false, cnd_true, cnd_false, gif_same, gif_tf, gif_ft, gif_undef, bi_add, bi_sub, bi_mul, bi_eql, bi_neq, bi_lss, bi_leq, bi_gtr, bi_geq, notB_bool, cvi_int, lenS_mk, lenT_mk, ext0, ext1, ext2, nilP_mk, nilS_mk, fldv_agg, jn0_k, jn1_k, jn2_k, jn1_and, jn1_or, ex_some, Option.isNone_some, Option.isNone_none, Bool.false_bne, Bool.bne_true, Bool.bne_false, Bool.true_bne, Bool.not_true, Bool.not_false, Bool.and_true, Bool.true_and, Bool.and_false, Bool.false_and, Bool.or_true, Bool.true_or, Bool.or_false, Bool.false_or, cond_true, cond_false, List.getElem?_toArray, List.getElem?_cons_zero, List.getElem?_cons_succ, Nat.zero_add, Nat.add_zero, Nat.reduceAdd, forall_const, show ((0 : Int) == 0) = true from rfl]
    have hx6 : (⟨List.replicate m 0 ++ b.l, -1, false, true⟩ : Tp).Ok := ⟨by show (List.replicate m (0 : UInt8) ++ b.l).length ≤ 262144; simp; omega, by simp, by simp⟩
    refine jn1_dup (cal_i (Len_spec hs6 rfl) ?_)
    rintro _ _ ⟨rfl, rfl⟩
    have hlb : R_sl_uint8.ok w6.heap b := rBytes.fr hb hs6.fr0
    simp only [nilc_some, fad_mk, pik_true, pik_false, cnd_true, cnd_false, gif_same, gif_tf, gif_ft, gif_undef, bi_add, bi_sub, bi_mul, bi_eql, bi_neq, bi_lss, bi_leq, bi_gtr, bi_geq, notB_bool, cvi_int, lenS_mk, lenT_mk, ext0, ext1, ext2, nilP_mk, nilS_mk, fldv_agg, jn0_k, jn1_k, jn2_k, jn1_and, jn1_or, ex_some, Option.isNone_some, Option.isNone_none, Bool.false_bne, Bool.bne_true, Bool.bne_false, Bool.true_bne, Bool.not_true, Bool.not_false, Bool.and_true, Bool.true_and, Bool.and_false, Bool.false_and, Bool.or_true, Bool.true_or, Bool.or_false, Bool.false_or, cond_true, cond_false, List.getElem?_toArray, List.getElem?_cons_zero, List.getElem?_cons_succ, Nat.zero_add, Nat.add_zero, Nat.reduceAdd, forall_const, rBytes_len hlb, List.length_append, List.length_replicate]
    rw [wi64 (by omega) (by omega), show (((m + b.l.length : Nat) : Int) == (m : Int) + b.l.length) = true by simp]
    simp only [nilc_some, fad_mk, pik_true, pik_false, cnd_true, cnd_false, gif_same, gif_tf, gif_ft, gif_undef, bi_add, bi_sub, bi_mul, bi_eql, bi_neq, bi_lss, bi_leq, bi_gtr, bi_geq, notB_bool, cvi_int, lenS_mk, lenT_mk, ext0, ext1, ext2, nilP_mk, nilS_mk, fldv_agg, jn0_k, jn1_k, jn2_k, jn1_and, jn1_or, ex_some, Option.isNone_some, Option.isNone_none, Bool.false_bne, Bool.bne_true, Bool.bne_false, Bool.true_bne, Bool.not_true, Bool.not_false, Bool.and_true, Bool.true_and, Bool.and_false, Bool.false_and, Bool.or_true, Bool.true_or, Bool.or_false, Bool.false_or, cond_true, cond_false, List.getElem?_toArray, List.getElem?_cons_zero, List.getElem?_cons_succ, Nat.zero_add, Nat.add_zero, Nat.reduceAdd, forall_const]
    refine jn1_dup (cal_i (Bytes_spec hs6 hx6 rfl) ?_)
    rintro v w7 hs7
    have hs7 := hs6.join hs7
    obtain ⟨a, c, rfl, hc⟩ := Sep.form hs7
    have hlen : (List.replicate m (0 : UInt8) ++ b.l).length = m + b.l.length := by simp
    rw [slc_from (by rw [hlen]; omega)]
    refine cal_i (Equal_spec ((Sep.rd hs7).drop (k := m) (by rw [hlen]; omega) hc (c - m)) (hs7.rdB hb.1)) ?_
    rintro _ _ ⟨rfl, rfl⟩
    rw [List.drop_left' (by simp), beq_self_eq_true]
    exact fun _ => hR _ _ ⟨rfl, hs7.fr0⟩
end Go.Fx
namespace Go.Proofs.Ytiipcclmmhkggaa
open Go.ChangeShapes Go.WideShapes Go.ChangeAt Go.RowKit
set_option maxRecDepth 100000 in
theorem liftedTapeFull (os : Os) (started : os.Started) (H : Type) (enc : TypeId × Value → H) :
    ReturnsInHanded {} Try.checked os 3 .any (Rows.tapeFullSpec.pre6 enc Try.prog Try.f3 Rows.tapeFullRow.domain false) (Rows.tapeFullSpec.post enc Try.prog Try.f3 false true false false) := by
  refine returnsInHanded_of_change (C := Try.checked) own started (by kernel_rfl) Try.func3
    (ChangeSpec.witness6 (enc := enc) (C := Try.checked) false ⟨#[], #[.int .u16 0, .slice none 0 0], []⟩ 8 (by kernel_rfl) (by kernel_rfl) (by kernel_rfl) (by kernel_rfl)) ?_
  intro W base args ds gs before hval0 hW hcnd _
  have hval : ∀ (j : Nat) t v, Try.f3.params[j]? = some t → args[j]? = some v → Value.okWide Try.prog W .any base t v := hval0
  have hW' := hW
  obtain ⟨p, q, hA0, hV, rfl, hfz, hnd⟩ := hW
  have hA : DataW.TrodAll enc Try.prog W 0 (fun _ => true) true Try.f3.params.toList args.toList ds p := hA0
  rw [Try.params3] at hA hval
  obtain ⟨v0, vs0, d0, ds0, p0, q0, hargs, rfl, rfl, h0, r0⟩ := trodAll_cons hA
  obtain ⟨v1, vs1, d1, ds1, p1, q1, rfl, rfl, rfl, h1, r1⟩ := trodAll_cons r0
  obtain ⟨rfl, rfl, rfl⟩ := trodAll_nil r1
  obtain rfl : args = #[v0, v1] := by cases args; simp_all
  obtain ⟨rfl, rfl⟩ := trodVars_none hV
  obtain ⟨a0, rfl, rfl, rfl, w0⟩ := open_int Try.underlying22 (hval 0 22 v0 rfl rfl) h0
  have b0 := bounds_u16 w0
  obtain ⟨n0, rfl⟩ := Int.eq_ofNat_of_zero_le b0.1
  have b0 : n0 < 65536 := by omega
  obtain ⟨a1, len1, cap1, rfl⟩ := okWide_slice Try.underlying23 (hval 1 23 v1 rfl rfl)
  have k1 := h1
  have lt1 : ∀ x ∈ p1, x.block < W.heap.size := by obtain ⟨m, hm⟩ := k1; exact DataW.trod_lt m _ _ _ hm
  obtain ⟨f1, hf1⟩ := h1
  have hx1 := Go.Fx.O_sl_uint8 hf1
  obtain ⟨l1, rd1⟩ := hx1
  clear hA0 hval0
  have hcal := Go.Fx.TapeFull_walk b0 rd1
  refine Calls.mono hcal fun e W' ⟨v, he, hv, hf⟩ => ?_
  subst hv
  subst he
  have bel : Below W.heap.size W W' := hf.below (by simp)
  exact ⟨_, rfl, _, _, _, [], _, [], hW', trodAll_mk1 (shut_bool Try.underlying4 _), (trodAll_cons_mk (shut_int Try.underlying22 w0) (trodAll_cons_mk (Below.trod laidOut (by kernel_rfl) (of_decide_eq_true (by kernel_rfl)) k1 bel lt1) trodAll_mk0)), rfl, bel.frame _, fun h => by cases h⟩
theorem tapeFull : Rows.TapeFullSaid :=
  OpenClaim.holds_of_wide 3 Try.f3 rfl rfl rfl rfl rfl rfl rfl ⟨rfl, rfl, rfl, rfl, rfl⟩ rfl rfl rfl rfl rfl (by kernel_rfl) Try.func3 (by kernel_rfl)
    (of_decide_eq_true (by kernel_rfl)) (by unfold Func.isWrapper; first | (rw [if_pos (by decide +kernel)]; kernel_rfl) | (rw [if_neg (by decide +kernel)]; exact ⟨rfl, rfl⟩))
    (fun os started H enc _ => liftedTapeFull os started H enc)
#print axioms tapeFull
end Go.Proofs.Ytiipcclmmhkggaa
