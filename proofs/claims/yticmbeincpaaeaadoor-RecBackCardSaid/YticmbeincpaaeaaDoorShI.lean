/-
  slices.Concat of two.
-/
import Derived.Test.YticmbeincpaaeaaDoorShH
set_option linter.unusedVariables false
set_option linter.unusedSimpArgs false
namespace Go.Fx
section
variable {w0 w : World} {v s0 s1 : Value} {l m : List UInt8} {As : List Asn}
theorem Concat_spec (hv : Cel w.heap v 1 2 [s0, s1]) (h0 : RdB w.heap s0 l) (h1 : RdB w.heap s1 m) (hl : l.length + m.length ≤ 1000000) : cal P f_slices_Concat_byte_byte [v] w fun r w' => Sep w w' [ownB r (l ++ m)] := by
  refine s_slices_Concat_byte_byte fun R hR => ?_
  unfold c_slices_Concat_byte_byte
  obtain ⟨a, c, hva, _⟩ := id hv
  have hlen : ∀ K, lenS v K = K (.int .i64 ((2 : Nat) : Int)) := fun K => by rw [hva, lenS_mk]
  obtain ⟨f, hf⟩ : ∃ f : Nat → Nat, f = fun i => if i = 0 then 0 else if i = 1 then l.length else l.length + m.length := ⟨_, rfl⟩
  have hf0 : f 0 = 0 := by rw [hf]; rfl
  have hf1 : f 1 = l.length := by rw [hf]; rfl
  have hf2 : f 2 = l.length + m.length := by rw [hf]; rfl
  simp only [hlen]
  refine ⟨fun x y w' => ∃ i : Nat, x = .int .i64 (f i : Nat) ∧ y = .int .i64 i ∧ i ≤ 2 ∧ w' = w, fun _ y _ => (2 - RowKit.intOf y).toNat, ⟨0, by rw [hf0]; rfl, rfl, by omega, rfl⟩, ?_⟩
  rintro _ _ w1 ⟨i, rfl, rfl, hi, rfl⟩ -
  simp only [nilc_some, fad_mk, pik_true, pik_false, cnd_true, cnd_false, gif_same, gif_tf, gif_ft, gif_undef, bi_add, bi_sub, bi_mul, bi_eql, bi_neq, bi_lss, bi_leq, bi_gtr, bi_geq, notB_bool, cvi_int, lenS_mk, lenT_mk, ext0, ext1, ext2, nilP_mk, nilS_mk, fldv_agg, jn0_k, jn1_k, jn2_k, jn1_and, jn1_or, ex_some, Option.isNone_some, Option.isNone_none, Bool.false_bne, Bool.bne_true, Bool.bne_false, Bool.true_bne, Bool.not_true, Bool.not_false, Bool.and_true, Bool.true_and, Bool.and_false, Bool.false_and, Bool.or_true, Bool.true_or, Bool.or_false, Bool.false_or, cond_true, cond_false, List.getElem?_toArray, List.getElem?_cons_zero, List.getElem?_cons_succ, Nat.zero_add, Nat.add_zero, Nat.reduceAdd, forall_const]
  rw [cnd_bool]
  refine ⟨fun h => ?_, fun h => ?_⟩
  · have hlt : i = 0 ∨ i = 1 := by simp at h; omega
    refine ⟨fun t w' => t = .int .i64 (f (i + 1) : Nat) ∧ w' = w1, ?_, ?_⟩
    · rcases hlt with rfl | rfl
      · refine ldx hv (j := 0) (u := s0) rfl ?_
        rw [h0.len]
        simp only [nilc_some, fad_mk, pik_true, pik_false, cnd_true, cnd_false, gif_same, gif_tf, gif_ft, gif_undef, bi_add, bi_sub, bi_mul, bi_eql, bi_neq, bi_lss, bi_leq, bi_gtr, bi_geq, notB_bool, cvi_int, lenS_mk, lenT_mk, ext0, ext1, ext2, nilP_mk, nilS_mk, fldv_agg, jn0_k, jn1_k, jn2_k, jn1_and, jn1_or, ex_some, Option.isNone_some, Option.isNone_none, Bool.false_bne, Bool.bne_true, Bool.bne_false, Bool.true_bne, Bool.not_true, Bool.not_false, Bool.and_true, Bool.true_and, Bool.and_false, Bool.false_and, Bool.or_true, Bool.true_or, Bool.or_false, Bool.false_or, cond_true, cond_false, List.getElem?_toArray, List.getElem?_cons_zero, List.getElem?_cons_succ, Nat.zero_add, Nat.add_zero, Nat.reduceAdd, forall_const]
        rw [hf0, hf1, wi64 (by omega) (by omega), decide_eq_false (by omega), cnd_false]
        exact ⟨by simp, trivial⟩
      · refine ldx hv (j := 1) (u := s1) rfl ?_
        rw [h1.len]
        simp only [nilc_some, fad_mk, pik_true, pik_false, cnd_true, cnd_false, gif_same, gif_tf, gif_ft, gif_undef, bi_add, bi_sub, bi_mul, bi_eql, bi_neq, bi_lss, bi_leq, bi_gtr, bi_geq, notB_bool, cvi_int, lenS_mk, lenT_mk, ext0, ext1, ext2, nilP_mk, nilS_mk, fldv_agg, jn0_k, jn1_k, jn2_k, jn1_and, jn1_or, ex_some, Option.isNone_some, Option.isNone_none, Bool.false_bne, Bool.bne_true, Bool.bne_false, Bool.true_bne, Bool.not_true, Bool.not_false, Bool.and_true, Bool.true_and, Bool.and_false, Bool.false_and, Bool.or_true, Bool.true_or, Bool.or_false, Bool.false_or, cond_true, cond_false, List.getElem?_toArray, List.getElem?_cons_zero, List.getElem?_cons_succ, Nat.zero_add, Nat.add_zero, Nat.reduceAdd, forall_const]
        rw [hf1, hf2, wi64 (by omega) (by omega), decide_eq_false (by omega), cnd_false]
        exact ⟨by simp, trivial⟩
    · rintro _ _ ⟨rfl, rfl⟩ -
      rw [wi64 (by omega) (by omega)]
      exact ⟨⟨i + 1, rfl, by simp, by omega, rfl⟩, by simp [RowKit.intOf]; omega⟩
  · have h2 : i = 2 := by simp at h; omega
    subst h2
    rw [hf2]
    refine cal_i (Grow_spec (l.length + m.length) hl) ?_
    rintro v2 w2 hs2
    obtain ⟨g, hg⟩ : ∃ g : Nat → List UInt8, g = fun i => if i = 0 then [] else if i = 1 then l else l ++ m := ⟨_, rfl⟩
    have hg0 : g 0 = [] := by rw [hg]; rfl
    have hg1 : g 1 = l := by rw [hg]; rfl
    have hg2 : g 2 = l ++ m := by rw [hg]; rfl
    refine ⟨fun x y w' => ∃ i : Nat, y = .int .i64 i ∧ i ≤ 2 ∧ Sep w1 w' [ownB x (g i)], fun _ y _ => (2 - RowKit.intOf y).toNat, ⟨0, rfl, by omega, by rw [hg0]; exact hs2⟩, ?_⟩
    rintro v3 _ w3 ⟨i, rfl, hi, hs3⟩ -
    simp only [nilc_some, fad_mk, pik_true, pik_false, cnd_true, cnd_false, gif_same, gif_tf, gif_ft, gif_undef, bi_add, bi_sub, bi_mul, bi_eql, bi_neq, bi_lss, bi_leq, bi_gtr, bi_geq, notB_bool, cvi_int, lenS_mk, lenT_mk, ext0, ext1, ext2, nilP_mk, nilS_mk, fldv_agg, jn0_k, jn1_k, jn2_k, jn1_and, jn1_or, ex_some, Option.isNone_some, Option.isNone_none, Bool.false_bne, Bool.bne_true, Bool.bne_false, Bool.true_bne, Bool.not_true, Bool.not_false, Bool.and_true, Bool.true_and, Bool.and_false, Bool.false_and, Bool.or_true, Bool.true_or, Bool.or_false, Bool.false_or, cond_true, cond_false, List.getElem?_toArray, List.getElem?_cons_zero, List.getElem?_cons_succ, Nat.zero_add, Nat.add_zero, Nat.reduceAdd, forall_const]
    rw [cnd_bool]
    refine ⟨fun h => ?_, fun h => ?_⟩
    · have hlt : i = 0 ∨ i = 1 := by simp at h; omega
      have hv3 : Cel w3.heap v 1 2 [s0, s1] := hv.fr hs3.fr0 (off_nil _)
      rcases hlt with rfl | rfl
      · refine ldx hv3 (j := 0) (u := s0) rfl ?_
        rw [hg0] at hs3
        refine appB_s S_sl_uint8 U_sl_uint8 (by simp) hs3 (hs3.rdB h0) (by simp; omega) fun v4 w4 hs4 => ?_
        rw [wi64 (by omega) (by omega)]
        exact ⟨⟨1, by simp, by omega, by rw [hg1]; exact hs4⟩, by simp [RowKit.intOf]⟩
      · refine ldx hv3 (j := 1) (u := s1) rfl ?_
        rw [hg1] at hs3
        refine appB_s S_sl_uint8 U_sl_uint8 (by simp) hs3 (hs3.rdB h1) (by omega) fun v4 w4 hs4 => ?_
        rw [wi64 (by omega) (by omega)]
        exact ⟨⟨2, by simp, by omega, by rw [hg2]; exact hs4⟩, by simp [RowKit.intOf]⟩
    · have h2 : i = 2 := by simp at h; omega
      subst h2
      rw [hg2] at hs3
      exact hR _ _ hs3
end
end Go.Fx
