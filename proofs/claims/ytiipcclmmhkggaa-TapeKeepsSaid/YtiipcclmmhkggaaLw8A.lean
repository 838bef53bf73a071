/-
  Law 8's smaller functions.
-/
import Derived.Test.YtiipcclmmhkggaaTpC
import Derived.Test.YtiipcclmmhkggaaFxT
set_option linter.unusedVariables false
set_option linter.unusedSimpArgs false
namespace Go.Fx
/-- The power goes ahead of a byte. -/
theorem begun_spec {w : World} : cal P f_law08_begun [] w fun v w' => v = .bool true ∧ Fr [] w w' := by
  refine s_law08_begun fun R hR => ?_
  unfold c_law08_begun
  refine cal_i New_spec ?_
  rintro p w1 hs
  rw [tp_nilP hs]
  simp only [nilc_some, fad_mk, pik_true, pik_false, cnd_true, cnd_false, gif_same, gif_tf, gif_ft, gif_undef, bi_add, bi_sub, bi_mul, bi_eql, bi_neq, bi_lss, bi_leq, bi_gtr, bi_geq, notB_bool, cvi_int, lenS_mk, lenT_mk, ext0, ext1, ext2, nilP_mk, nilS_mk, fldv_agg, jn0_k, jn1_k, jn2_k, jn1_and, jn1_or, ex_some, Option.isNone_some, Option.isNone_none, Bool.false_bne, Bool.bne_true, Bool.bne_false, Bool.true_bne, Bool.not_true, Bool.not_false, Bool.and_true, Bool.true_and, Bool.and_false, Bool.false_and, Bool.or_true, Bool.true_or, Bool.or_false, Bool.false_or, cond_true, cond_false, List.getElem?_toArray, List.getElem?_cons_zero, List.getElem?_cons_succ, Nat.zero_add, Nat.add_zero, Nat.reduceAdd, forall_const]
  refine jn1_dup ?_
  refine cal_i (On_spec hs) ?_
  rintro _ _ ⟨rfl, rfl⟩
  simp only [nilc_some, fad_mk, pik_true, pik_false, cnd_true, cnd_false, gif_same, gif_tf, gif_ft, gif_undef, bi_add, bi_sub, bi_mul, bi_eql, bi_neq, bi_lss, bi_leq, bi_gtr, bi_geq, notB_bool, cvi_int, lenS_mk, lenT_mk, ext0, ext1, ext2, nilP_mk, nilS_mk, fldv_agg, jn0_k, jn1_k, jn2_k, jn1_and, jn1_or, ex_some, Option.isNone_some, Option.isNone_none, Bool.false_bne, Bool.bne_true, Bool.bne_false, Bool.true_bne, Bool.not_true, Bool.not_false, Bool.and_true, Bool.true_and, Bool.and_false, Bool.false_and, Bool.or_true, Bool.true_or, Bool.or_false, Bool.false_or, cond_true, cond_false, List.getElem?_toArray, List.getElem?_cons_zero, List.getElem?_cons_succ, Nat.zero_add, Nat.add_zero, Nat.reduceAdd, forall_const]
  refine jn1_dup ?_
  refine cal_i (Arm_spec hs) ?_
  rintro _ w2 ⟨rfl, hs2⟩
  simp only [nilc_some, fad_mk, pik_true, pik_false, cnd_true, cnd_false, gif_same, gif_tf, gif_ft, gif_undef, bi_add, bi_sub, bi_mul, bi_eql, bi_neq, bi_lss, bi_leq, bi_gtr, bi_geq, notB_bool, cvi_int, lenS_mk, lenT_mk, ext0, ext1, ext2, nilP_mk, nilS_mk, fldv_agg, jn0_k, jn1_k, jn2_k, jn1_and, jn1_or, ex_some, Option.isNone_some, Option.isNone_none, Bool.false_bne, Bool.bne_true, Bool.bne_false, Bool.true_bne, Bool.not_true, Bool.not_false, Bool.and_true, Bool.true_and, Bool.and_false, Bool.false_and, Bool.or_true, Bool.true_or, Bool.or_false, Bool.false_or, cond_true, cond_false, List.getElem?_toArray, List.getElem?_cons_zero, List.getElem?_cons_succ, Nat.zero_add, Nat.add_zero, Nat.reduceAdd, forall_const, show (((⟨[], -1, false, true⟩ : Tp).arm 3).2 == 0) = true from rfl]
  refine jn1_dup ?_
  have hb1 : ∀ w : World, (Instr.buildSlice T_sl_uint8 2 #[(0, (Value.int IntKind.u8 1)), (1, (Value.int IntKind.u8 2))]).run P w = .ok (.slice (some ⟨w.heap.size, 0, none⟩) 2 2) (w.alloc (.cells (bvs [1, 2]).toArray T_uint8)) := fun w => by kernel_rfl
  have hb2 : ∀ w : World, (Instr.buildSlice T_sl_uint8 3 #[(0, (Value.int IntKind.u8 3)), (1, (Value.int IntKind.u8 4)), (2, (Value.int IntKind.u8 5))]).run P w = .ok (.slice (some ⟨w.heap.size, 0, none⟩) 3 3) (w.alloc (.cells (bvs [3, 4, 5]).toArray T_uint8)) := fun w => by kernel_rfl
  refine buildB_s (l := [1, 2]) hs2 rfl (hb1 _) fun g3 w3 hs3 => ?_
  refine buildB_s (l := [3, 4, 5]) hs3 rfl (hb2 _) fun g4 w4 hs4 => ?_
  have hb3 : ∀ (w : World) (a b : Nat), (Instr.buildSlice T_sl_sl_uint8 2 #[(0, .slice (some ⟨a, 0, none⟩) 2 2), (1, .slice (some ⟨b, 0, none⟩) 3 3)]).run P w = .ok (.slice (some ⟨w.heap.size, 0, none⟩) 2 2) (w.alloc (.cells ([.slice (some ⟨a, 0, none⟩) 2 2, .slice (some ⟨b, 0, none⟩) 3 3] : List Value).toArray T_sl_uint8)) := fun w a b => by kernel_rfl
  refine build_s (cs := [.slice (some ⟨g3, 0, none⟩) 2 2, .slice (some ⟨g4, 0, none⟩) 3 3]) (size := 1) hs4 rfl (hb3 _ _ _) fun g5 w5 hs5 => ?_
  refine cal_i (Append_spec (s := ⟨.slice (some ⟨g5, 0, none⟩) 2 2, [⟨.slice (some ⟨g3, 0, none⟩) 2 2, [1, 2]⟩, ⟨.slice (some ⟨g4, 0, none⟩) 3 3, [3, 4, 5]⟩]⟩) hs5.p3 ⟨by simp [Tp.arm, Tp.may], by simp [Tp.arm, Tp.may], by simp [Tp.arm, Tp.may]⟩ fun w' h => ?_) ?_
  · refine ok_of_own h.cel h.capN (by simp) fun a ha => ?_
    simp at ha
    rcases ha with rfl | rfl
    · exact h.p2.rb (by simp)
    · exact h.p1.rb (by simp)
  rintro _ w6 ⟨rfl, hs6⟩
  have e : ((((⟨[], -1, false, true⟩ : Tp).arm 3).1).append (joined [⟨.slice (some ⟨g3, 0, none⟩) 2 2, [1, 2]⟩, ⟨.slice (some ⟨g4, 0, none⟩) 3 3, [3, 4, 5]⟩])) = (⟨[1, 2, 3], -1, true, true⟩, 5) := rfl
  simp only [e] at hs6 ⊢
  simp only [nilc_some, fad_mk, pik_true, pik_false, cnd_true, cnd_false, gif_same, gif_tf, gif_ft, gif_undef, bi_add, bi_sub, bi_mul, bi_eql, bi_neq, bi_lss, bi_leq, bi_gtr, bi_geq, notB_bool, cvi_int, lenS_mk, lenT_mk, ext0, ext1, ext2, nilP_mk, nilS_mk, fldv_agg, jn0_k, jn1_k, jn2_k, jn1_and, jn1_or, ex_some, Option.isNone_some, Option.isNone_none, Bool.false_bne, Bool.bne_true, Bool.bne_false, Bool.true_bne, Bool.not_true, Bool.not_false, Bool.and_true, Bool.true_and, Bool.and_false, Bool.false_and, Bool.or_true, Bool.true_or, Bool.or_false, Bool.false_or, cond_true, cond_false, List.getElem?_toArray, List.getElem?_cons_zero, List.getElem?_cons_succ, Nat.zero_add, Nat.add_zero, Nat.reduceAdd, forall_const, show ((5 : Int) == 5) = true from rfl]
  refine jn1_dup ?_
  refine cal_i (On_spec hs6) ?_
  rintro _ _ ⟨rfl, rfl⟩
  simp only [nilc_some, fad_mk, pik_true, pik_false, cnd_true, cnd_false, gif_same, gif_tf, gif_ft, gif_undef, bi_add, bi_sub, bi_mul, bi_eql, bi_neq, bi_lss, bi_leq, bi_gtr, bi_geq, notB_bool, cvi_int, lenS_mk, lenT_mk, ext0, ext1, ext2, nilP_mk, nilS_mk, fldv_agg, jn0_k, jn1_k, jn2_k, jn1_and, jn1_or, ex_some, Option.isNone_some, Option.isNone_none, Bool.false_bne, Bool.bne_true, Bool.bne_false, Bool.true_bne, Bool.not_true, Bool.not_false, Bool.and_true, Bool.true_and, Bool.and_false, Bool.false_and, Bool.or_true, Bool.true_or, Bool.or_false, Bool.false_or, cond_true, cond_false, List.getElem?_toArray, List.getElem?_cons_zero, List.getElem?_cons_succ, Nat.zero_add, Nat.add_zero, Nat.reduceAdd, forall_const]
  refine jn1_dup ?_
  refine cal_i (Bytes_spec hs6 ⟨by simp, by simp, by simp⟩ rfl) ?_
  rintro v w7 hs7
  have hb8 : ∀ w : World, (Instr.buildSlice T_sl_uint8 3 #[(0, (Value.int IntKind.u8 1)), (1, (Value.int IntKind.u8 2)), (2, (Value.int IntKind.u8 3))]).run P w = .ok (.slice (some ⟨w.heap.size, 0, none⟩) 3 3) (w.alloc (.cells (bvs [1, 2, 3]).toArray T_uint8)) := fun w => by kernel_rfl
  refine buildB_s (l := [1, 2, 3]) (hs6.join hs7) rfl (hb8 _) fun g8 w8 hs8 => ?_
  refine cal_i (Equal_spec hs8.p1.rd hs8.rd) ?_
  rintro _ _ ⟨rfl, rfl⟩
  simp only [nilc_some, fad_mk, pik_true, pik_false, cnd_true, cnd_false, gif_same, gif_tf, gif_ft, gif_undef, bi_add, bi_sub, bi_mul, bi_eql, bi_neq, bi_lss, bi_leq, bi_gtr, bi_geq, notB_bool, cvi_int, lenS_mk, lenT_mk, ext0, ext1, ext2, nilP_mk, nilS_mk, fldv_agg, jn0_k, jn1_k, jn2_k, jn1_and, jn1_or, ex_some, Option.isNone_some, Option.isNone_none, Bool.false_bne, Bool.bne_true, Bool.bne_false, Bool.true_bne, Bool.not_true, Bool.not_false, Bool.and_true, Bool.true_and, Bool.and_false, Bool.false_and, Bool.or_true, Bool.true_or, Bool.or_false, Bool.false_or, cond_true, cond_false, List.getElem?_toArray, List.getElem?_cons_zero, List.getElem?_cons_succ, Nat.zero_add, Nat.add_zero, Nat.reduceAdd, forall_const]
  exact hR _ _ ⟨rfl, hs8.fr0⟩
/-- Few enough acts: the first of them. -/
theorem few_spec {w : World} {s : Sl (Int × Int × Sl (Sl UInt8))} (hl : R_sl_flurrylaw08_Op.ok w.heap s) : cal P f_law08_few [s.v] w fun r w' => Fr [] w w' ∧
    (r = .tuple #[.slice none 0 0, .bool false] ∨ ∃ v, r = .tuple #[v, .bool true] ∧ R_sl_flurrylaw08_Op.ok w.heap ⟨v, s.l.take 60⟩ ∧ ∀ o ∈ s.l.take 60, o.2.2.l.length ≤ 20 ∧ ∀ b ∈ o.2.2.l, b.l.length ≤ 200) := by
  refine s_law08_few fun R hR => ?_
  unfold c_law08_few
  have hlen := hl.2.1
  rw [rSl_len hl, min_int, show min (s.l.length : Int) 60 = ((min s.l.length 60 : Nat) : Int) by omega]
  obtain ⟨a, c, hv, hc⟩ := rSl_form hl
  obtain ⟨sv, l⟩ := s
  simp only at hv hc hlen ⊢
  subst hv
  rw [slc_to (by omega)]
  simp only [nilc_some, fad_mk, pik_true, pik_false, cnd_true, cnd_false, gif_same, gif_tf, gif_ft, gif_undef, bi_add, bi_sub, bi_mul, bi_eql, bi_neq, bi_lss, bi_leq, bi_gtr, bi_geq, notB_bool, cvi_int, lenS_mk, lenT_mk, ext0, ext1, ext2, nilP_mk, nilS_mk, fldv_agg, jn0_k, jn1_k, jn2_k, jn1_and, jn1_or, ex_some, Option.isNone_some, Option.isNone_none, Bool.false_bne, Bool.bne_true, Bool.bne_false, Bool.true_bne, Bool.not_true, Bool.not_false, Bool.and_true, Bool.true_and, Bool.and_false, Bool.false_and, Bool.or_true, Bool.true_or, Bool.or_false, Bool.false_or, cond_true, cond_false, List.getElem?_toArray, List.getElem?_cons_zero, List.getElem?_cons_succ, Nat.zero_add, Nat.add_zero, Nat.reduceAdd, forall_const]
  have ht := rSl_take (k := min l.length 60) hl (by omega)
  have e60 : l.take (min l.length 60) = l.take 60 := by
    rcases Nat.le_total l.length 60 with h | h
    · rw [Nat.min_eq_left h, List.take_length, List.take_of_length_le h]
    · rw [Nat.min_eq_right h]
  rw [e60] at ht
  refine ⟨fun y w' => ∃ i : Nat, i ≤ min l.length 60 ∧ y = .int .i64 i ∧ Fr [] w w' ∧ ∀ j o, j < i → l[j]? = some o → o.2.2.l.length ≤ 20 ∧ ∀ b ∈ o.2.2.l, b.l.length ≤ 200,
    fun y _ => (min l.length 60 - RowKit.intOf y).toNat, ⟨0, by omega, rfl, Fr.refl _ _, by simp⟩, ?_⟩
  rintro _ w1 ⟨i, hi, rfl, hf1, hall⟩ -
  simp only [nilc_some, fad_mk, pik_true, pik_false, cnd_true, cnd_false, gif_same, gif_tf, gif_ft, gif_undef, bi_add, bi_sub, bi_mul, bi_eql, bi_neq, bi_lss, bi_leq, bi_gtr, bi_geq, notB_bool, cvi_int, lenS_mk, lenT_mk, ext0, ext1, ext2, nilP_mk, nilS_mk, fldv_agg, jn0_k, jn1_k, jn2_k, jn1_and, jn1_or, ex_some, Option.isNone_some, Option.isNone_none, Bool.false_bne, Bool.bne_true, Bool.bne_false, Bool.true_bne, Bool.not_true, Bool.not_false, Bool.and_true, Bool.true_and, Bool.and_false, Bool.false_and, Bool.or_true, Bool.true_or, Bool.or_false, Bool.false_or, cond_true, cond_false, List.getElem?_toArray, List.getElem?_cons_zero, List.getElem?_cons_succ, Nat.zero_add, Nat.add_zero, Nat.reduceAdd, forall_const]
  rw [cnd_bool]
  refine ⟨fun h => ?_, fun h => ?_⟩
  · have hlt : i < min l.length 60 := by simp at h; omega
    obtain ⟨o, ho⟩ : ∃ o, l[i]? = some o := ⟨_, List.getElem?_eq_getElem (by omega)⟩
    have ho' : (l.take 60)[i]? = some o := by rw [List.getElem?_take_of_lt (by omega)]; exact ho
    have ht1 := R_sl_flurrylaw08_Op.fr ht hf1
    have hok := rSl_ok ht1 ho'
    refine rSl_ldN (r := R_flurrylaw08_Op) ht1 (by decide) ho' ?_
    refine copy_s (r := R_flurrylaw08_Op) (Sep.start w1) (al_flurrylaw08_Op w1) rfl rfl hok fun g w2 hs2 => ?_
    have hg2 : w2.heap[g]? = some (.cells #[.int .i64 o.1, .int .i64 o.2.1, o.2.2.v] T_flurrylaw08_Op (0, 0)) := hs2.blk
    have hoL := rSl_ok (R_sl_flurrylaw08_Op.fr ht1 hs2.fr0) ho'
    have hlL : R_sl_sl_uint8.ok w2.heap o.2.2 := hoL.2.2
    simp only [nilc_some, fad_mk, pik_true, pik_false, cnd_true, cnd_false, gif_same, gif_tf, gif_ft, gif_undef, bi_add, bi_sub, bi_mul, bi_eql, bi_neq, bi_lss, bi_leq, bi_gtr, bi_geq, notB_bool, cvi_int, lenS_mk, lenT_mk, ext0, ext1, ext2, nilP_mk, nilS_mk, fldv_agg, jn0_k, jn1_k, jn2_k, jn1_and, jn1_or, ex_some, Option.isNone_some, Option.isNone_none, Bool.false_bne, Bool.bne_true, Bool.bne_false, Bool.true_bne, Bool.not_true, Bool.not_false, Bool.and_true, Bool.true_and, Bool.and_false, Bool.false_and, Bool.or_true, Bool.true_or, Bool.or_false, Bool.false_or, cond_true, cond_false, List.getElem?_toArray, List.getElem?_cons_zero, List.getElem?_cons_succ, Nat.zero_add, Nat.add_zero, Nat.reduceAdd, forall_const, ld1_eq hg2, rSl_len hlL]
    rw [cnd_bool]
    refine ⟨fun h => ?_, fun h => ?_⟩
    · exact hR _ _ ⟨hf1.trans hs2.fr0 (by simp) (by simp), .inl rfl⟩
    · have hn : o.2.2.l.length ≤ 20 := by simp at h; omega
      refine ⟨fun y w' => ∃ k : Nat, k ≤ o.2.2.l.length ∧ y = .int .i64 k ∧ w' = w2 ∧ ∀ j b, j < k → o.2.2.l[j]? = some b → b.l.length ≤ 200, fun y _ => (o.2.2.l.length - RowKit.intOf y).toNat, ⟨0, by omega, rfl, rfl, by simp⟩, ?_⟩
      rintro _ _ ⟨k, hk, rfl, rfl, hb⟩ -
      simp only [nilc_some, fad_mk, pik_true, pik_false, cnd_true, cnd_false, gif_same, gif_tf, gif_ft, gif_undef, bi_add, bi_sub, bi_mul, bi_eql, bi_neq, bi_lss, bi_leq, bi_gtr, bi_geq, notB_bool, cvi_int, lenS_mk, lenT_mk, ext0, ext1, ext2, nilP_mk, nilS_mk, fldv_agg, jn0_k, jn1_k, jn2_k, jn1_and, jn1_or, ex_some, Option.isNone_some, Option.isNone_none, Bool.false_bne, Bool.bne_true, Bool.bne_false, Bool.true_bne, Bool.not_true, Bool.not_false, Bool.and_true, Bool.true_and, Bool.and_false, Bool.false_and, Bool.or_true, Bool.true_or, Bool.or_false, Bool.false_or, cond_true, cond_false, List.getElem?_toArray, List.getElem?_cons_zero, List.getElem?_cons_succ, Nat.zero_add, Nat.add_zero, Nat.reduceAdd, forall_const]
      rw [cnd_bool]
      refine ⟨fun h => ?_, fun h => ?_⟩
      · have hkt : k < o.2.2.l.length := by simpa using h
        obtain ⟨b, hbk⟩ : ∃ b, o.2.2.l[k]? = some b := ⟨_, List.getElem?_eq_getElem hkt⟩
        refine rSl_ld1 hlL hbk rfl ?_
        simp only [nilc_some, fad_mk, pik_true, pik_false, cnd_true, cnd_false, gif_same, gif_tf, gif_ft, gif_undef, bi_add, bi_sub, bi_mul, bi_eql, bi_neq, bi_lss, bi_leq, bi_gtr, bi_geq, notB_bool, cvi_int, lenS_mk, lenT_mk, ext0, ext1, ext2, nilP_mk, nilS_mk, fldv_agg, jn0_k, jn1_k, jn2_k, jn1_and, jn1_or, ex_some, Option.isNone_some, Option.isNone_none, Bool.false_bne, Bool.bne_true, Bool.bne_false, Bool.true_bne, Bool.not_true, Bool.not_false, Bool.and_true, Bool.true_and, Bool.and_false, Bool.false_and, Bool.or_true, Bool.true_or, Bool.or_false, Bool.false_or, cond_true, cond_false, List.getElem?_toArray, List.getElem?_cons_zero, List.getElem?_cons_succ, Nat.zero_add, Nat.add_zero, Nat.reduceAdd, forall_const, rBytes_len (rSl_ok hlL hbk)]
        rw [cnd_bool]
        refine ⟨fun h => ?_, fun h => ?_⟩
        · exact hR _ _ ⟨hf1.trans hs2.fr0 (by simp) (by simp), .inl rfl⟩
        · have hbl : b.l.length ≤ 200 := by simp at h; omega
          rw [wi64 (by omega) (by omega)]
          refine ⟨⟨k + 1, by omega, by simp, by simp, fun j b' hj hb' => ?_⟩, by simp [RowKit.intOf]; omega⟩
          by_cases hjk : j = k
          · subst hjk; rw [hbk] at hb'; cases hb'; exact hbl
          · exact hb j b' (by omega) hb'
      · have hkl : k = o.2.2.l.length := by simp at h; omega
        rw [wi64 (by omega) (by omega)]
        refine ⟨⟨i + 1, by omega, by simp, hf1.trans hs2.fr0 (by simp) (by simp), fun j o' hj ho1 => ?_⟩, by simp [RowKit.intOf]; omega⟩
        by_cases hji : j = i
        · subst hji
          have ho'' := ho.symm.trans ho1
          cases ho''
          refine ⟨hn, fun b hb' => ?_⟩
          obtain ⟨q, hq⟩ := List.mem_iff_getElem?.1 hb'
          exact hb q b (by have := (List.getElem?_eq_some_iff.1 hq).1; omega) hq
        · exact hall j o' (by omega) ho1
  · have hge : i = min l.length 60 := by simp at h; omega
    refine hR _ _ ⟨hf1, .inr ⟨_, rfl, ht, fun o ho => ?_⟩⟩
    obtain ⟨j, hj⟩ := List.mem_iff_getElem?.1 ho
    have hjl := (List.getElem?_eq_some_iff.1 hj).1
    simp only [List.length_take] at hjl
    rw [List.getElem?_take_of_lt (by omega)] at hj
    exact hall j o (by omega) hj
end Go.Fx
