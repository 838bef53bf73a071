/-
  What is proved: for every item the law PackNone returns true, and its argument reads as it did. Conditions: none.
-/
import Derived.Test.YtamjngkjpalchaaUpB
import Derived.Test.YtamjngkjpalchaaBase
set_option linter.unusedVariables false
set_option linter.unusedSimpArgs false
namespace Go.Fx
/-- A packer that no call made. -/
def DeadK (h : Heap) (p : Value) : Prop := p = .pointer none ∨ ∃ g E, p = .pointer (some ⟨g, 0, none⟩) ∧ h[g]? = some (.cells #[.bool false, .slice none 0 0, .int .i64 0, .int .i64 0] E (0, 0))
def DeadU (h : Heap) (p : Value) : Prop := p = .pointer none ∨ ∃ g E, p = .pointer (some ⟨g, 0, none⟩) ∧ h[g]? = some (.cells #[.bool false, .slice none 0 0, .int .i64 0] E (0, 0))
theorem DeadK.fr {F : List Nat} {w w' : World} {p : Value} (h : DeadK w.heap p) (hf : Fr F w w') (hF : ∀ g, p = .pointer (some ⟨g, 0, none⟩) → g ∉ F) : DeadK w'.heap p := by
  rcases h with rfl | ⟨g, E, rfl, hg⟩
  · exact .inl rfl
  · exact .inr ⟨g, E, rfl, hf.blk hg (hF g rfl)⟩
theorem DeadU.fr {w w' : World} {p : Value} (h : DeadU w.heap p) (hf : Fr [] w w') : DeadU w'.heap p := by
  rcases h with rfl | ⟨g, E, rfl, hg⟩
  · exact .inl rfl
  · exact .inr ⟨g, E, rfl, hf.blk hg (by simp)⟩
def NoQ (w : World) (v : Value) (w' : World) : Prop := v = .tuple #[] ∧ Fr [] w w'
section
variable {w : World} {p : Value} (hp : DeadK w.heap p)
include hp
theorem dworks : cal P f_pack_Packer_works [p] w fun v w' => v = .bool false ∧ w = w' := by
  refine s_pack_Packer_works fun R hR => ?_
  unfold c_pack_Packer_works
  rcases hp with rfl | ⟨g, E, rfl, hg⟩
  · simp only [nilc_some, fad_mk, pik_true, pik_false, cnd_true, cnd_false, gif_same, gif_tf, gif_ft, gif_undef, bi_add, bi_sub, bi_mul, bi_eql, bi_neq, bi_lss, bi_leq, bi_gtr, bi_geq, notB_bool, cvi_int, lenS_mk, lenT_mk, ext0, ext1, ext2, nilP_mk, nilS_mk, fldv_agg, jn0_k, jn1_k, jn2_k, jn1_and, jn1_or, ex_some, Option.isNone_some, Option.isNone_none, Bool.false_bne, Bool.bne_true, Bool.bne_false, Bool.true_bne, Bool.not_true, Bool.not_false, Bool.and_true, Bool.true_and, Bool.and_false, Bool.false_and, Bool.or_true, Bool.true_or, Bool.or_false, Bool.false_or, cond_true, cond_false, List.getElem?_toArray, List.getElem?_cons_zero, List.getElem?_cons_succ, Nat.zero_add, Nat.add_zero, Nat.reduceAdd, forall_const]
    exact hR _ _ ⟨rfl, rfl⟩
  · simp only [nilc_some, fad_mk, pik_true, pik_false, cnd_true, cnd_false, gif_same, gif_tf, gif_ft, gif_undef, bi_add, bi_sub, bi_mul, bi_eql, bi_neq, bi_lss, bi_leq, bi_gtr, bi_geq, notB_bool, cvi_int, lenS_mk, lenT_mk, ext0, ext1, ext2, nilP_mk, nilS_mk, fldv_agg, jn0_k, jn1_k, jn2_k, jn1_and, jn1_or, ex_some, Option.isNone_some, Option.isNone_none, Bool.false_bne, Bool.bne_true, Bool.bne_false, Bool.true_bne, Bool.not_true, Bool.not_false, Bool.and_true, Bool.true_and, Bool.and_false, Bool.false_and, Bool.or_true, Bool.true_or, Bool.or_false, Bool.false_or, cond_true, cond_false, List.getElem?_toArray, List.getElem?_cons_zero, List.getElem?_cons_succ, Nat.zero_add, Nat.add_zero, Nat.reduceAdd, forall_const, ld1_eq hg]
    exact hR _ _ ⟨rfl, rfl⟩
theorem dput (a b : Value) : cal P f_pack_Packer_put [p, a, b] w (NoQ w) := by
  refine s_pack_Packer_put fun R hR => ?_
  unfold c_pack_Packer_put
  refine cal_i (dworks hp) ?_
  rintro _ _ ⟨rfl, rfl⟩
  simp only [nilc_some, fad_mk, pik_true, pik_false, cnd_true, cnd_false, gif_same, gif_tf, gif_ft, gif_undef, bi_add, bi_sub, bi_mul, bi_eql, bi_neq, bi_lss, bi_leq, bi_gtr, bi_geq, notB_bool, cvi_int, lenS_mk, lenT_mk, ext0, ext1, ext2, nilP_mk, nilS_mk, fldv_agg, jn0_k, jn1_k, jn2_k, jn1_and, jn1_or, ex_some, Option.isNone_some, Option.isNone_none, Bool.false_bne, Bool.bne_true, Bool.bne_false, Bool.true_bne, Bool.not_true, Bool.not_false, Bool.and_true, Bool.true_and, Bool.and_false, Bool.false_and, Bool.or_true, Bool.true_or, Bool.or_false, Bool.false_or, cond_true, cond_false, List.getElem?_toArray, List.getElem?_cons_zero, List.getElem?_cons_succ, Nat.zero_add, Nat.add_zero, Nat.reduceAdd, forall_const]
  exact hR _ _ ⟨rfl, Fr.refl _ _⟩
theorem dLen : cal P f_pack_Packer_Len [p] w fun v w' => v = .int .i64 0 ∧ w = w' := by
  refine s_pack_Packer_Len fun R hR => ?_
  unfold c_pack_Packer_Len
  rcases hp with rfl | ⟨g, E, rfl, hg⟩
  · simp only [nilc_some, fad_mk, pik_true, pik_false, cnd_true, cnd_false, gif_same, gif_tf, gif_ft, gif_undef, bi_add, bi_sub, bi_mul, bi_eql, bi_neq, bi_lss, bi_leq, bi_gtr, bi_geq, notB_bool, cvi_int, lenS_mk, lenT_mk, ext0, ext1, ext2, nilP_mk, nilS_mk, fldv_agg, jn0_k, jn1_k, jn2_k, jn1_and, jn1_or, ex_some, Option.isNone_some, Option.isNone_none, Bool.false_bne, Bool.bne_true, Bool.bne_false, Bool.true_bne, Bool.not_true, Bool.not_false, Bool.and_true, Bool.true_and, Bool.and_false, Bool.false_and, Bool.or_true, Bool.true_or, Bool.or_false, Bool.false_or, cond_true, cond_false, List.getElem?_toArray, List.getElem?_cons_zero, List.getElem?_cons_succ, Nat.zero_add, Nat.add_zero, Nat.reduceAdd, forall_const]
    exact hR _ _ ⟨rfl, rfl⟩
  · simp only [nilc_some, fad_mk, pik_true, pik_false, cnd_true, cnd_false, gif_same, gif_tf, gif_ft, gif_undef, bi_add, bi_sub, bi_mul, bi_eql, bi_neq, bi_lss, bi_leq, bi_gtr, bi_geq, notB_bool, cvi_int, lenS_mk, lenT_mk, ext0, ext1, ext2, nilP_mk, nilS_mk, fldv_agg, jn0_k, jn1_k, jn2_k, jn1_and, jn1_or, ex_some, Option.isNone_some, Option.isNone_none, Bool.false_bne, Bool.bne_true, Bool.bne_false, Bool.true_bne, Bool.not_true, Bool.not_false, Bool.and_true, Bool.true_and, Bool.and_false, Bool.false_and, Bool.or_true, Bool.true_or, Bool.or_false, Bool.false_or, cond_true, cond_false, List.getElem?_toArray, List.getElem?_cons_zero, List.getElem?_cons_succ, Nat.zero_add, Nat.add_zero, Nat.reduceAdd, forall_const, ld1_eq hg]
    exact hR _ _ ⟨rfl, rfl⟩
theorem dErr : cal P f_pack_Packer_Err [p] w fun v w' => v = .int .i64 2 ∧ w = w' := by
  refine s_pack_Packer_Err fun R hR => ?_
  unfold c_pack_Packer_Err
  rcases hp with rfl | ⟨g, E, rfl, hg⟩
  · simp only [nilc_some, fad_mk, pik_true, pik_false, cnd_true, cnd_false, gif_same, gif_tf, gif_ft, gif_undef, bi_add, bi_sub, bi_mul, bi_eql, bi_neq, bi_lss, bi_leq, bi_gtr, bi_geq, notB_bool, cvi_int, lenS_mk, lenT_mk, ext0, ext1, ext2, nilP_mk, nilS_mk, fldv_agg, jn0_k, jn1_k, jn2_k, jn1_and, jn1_or, ex_some, Option.isNone_some, Option.isNone_none, Bool.false_bne, Bool.bne_true, Bool.bne_false, Bool.true_bne, Bool.not_true, Bool.not_false, Bool.and_true, Bool.true_and, Bool.and_false, Bool.false_and, Bool.or_true, Bool.true_or, Bool.or_false, Bool.false_or, cond_true, cond_false, List.getElem?_toArray, List.getElem?_cons_zero, List.getElem?_cons_succ, Nat.zero_add, Nat.add_zero, Nat.reduceAdd, forall_const]
    exact hR _ _ ⟨rfl, rfl⟩
  · simp only [nilc_some, fad_mk, pik_true, pik_false, cnd_true, cnd_false, gif_same, gif_tf, gif_ft, gif_undef, bi_add, bi_sub, bi_mul, bi_eql, bi_neq, bi_lss, bi_leq, bi_gtr, bi_geq, notB_bool, cvi_int, lenS_mk, lenT_mk, ext0, ext1, ext2, nilP_mk, nilS_mk, fldv_agg, jn0_k, jn1_k, jn2_k, jn1_and, jn1_or, ex_some, Option.isNone_some, Option.isNone_none, Bool.false_bne, Bool.bne_true, Bool.bne_false, Bool.true_bne, Bool.not_true, Bool.not_false, Bool.and_true, Bool.true_and, Bool.and_false, Bool.false_and, Bool.or_true, Bool.true_or, Bool.or_false, Bool.false_or, cond_true, cond_false, List.getElem?_toArray, List.getElem?_cons_zero, List.getElem?_cons_succ, Nat.zero_add, Nat.add_zero, Nat.reduceAdd, forall_const, ld1_eq hg]
    exact hR _ _ ⟨rfl, rfl⟩
theorem dOut : cal P f_pack_Packer_Out [p] w fun v w' => v = .tuple #[.slice none 0 0, .int .i64 2] ∧ w = w' := by
  refine s_pack_Packer_Out fun R hR => ?_
  unfold c_pack_Packer_Out
  refine cal_i (dErr hp) ?_
  rintro _ _ ⟨rfl, rfl⟩
  simp only [nilc_some, fad_mk, pik_true, pik_false, cnd_true, cnd_false, gif_same, gif_tf, gif_ft, gif_undef, bi_add, bi_sub, bi_mul, bi_eql, bi_neq, bi_lss, bi_leq, bi_gtr, bi_geq, notB_bool, cvi_int, lenS_mk, lenT_mk, ext0, ext1, ext2, nilP_mk, nilS_mk, fldv_agg, jn0_k, jn1_k, jn2_k, jn1_and, jn1_or, ex_some, Option.isNone_some, Option.isNone_none, Bool.false_bne, Bool.bne_true, Bool.bne_false, Bool.true_bne, Bool.not_true, Bool.not_false, Bool.and_true, Bool.true_and, Bool.and_false, Bool.false_and, Bool.or_true, Bool.true_or, Bool.or_false, Bool.false_or, cond_true, cond_false, List.getElem?_toArray, List.getElem?_cons_zero, List.getElem?_cons_succ, Nat.zero_add, Nat.add_zero, Nat.reduceAdd, forall_const, show ((2 : Int) != 0) = true from rfl]
  exact hR _ _ ⟨rfl, rfl⟩
theorem dFixed (a : Value) : cal P f_pack_Packer_Fixed [p, a] w (NoQ w) := by
  refine s_pack_Packer_Fixed fun R hR => ?_
  unfold c_pack_Packer_Fixed
  refine cal_i (dput hp _ _) ?_
  rintro _ w' ⟨rfl, h⟩
  exact hR _ _ ⟨rfl, h⟩
theorem dnum {n v : Nat} (hn : n ≤ 8) (hv : v < 18446744073709551616) (b : Value) {K : Value → World → Prop} (hK : ∀ w', Fr [] w w' → K (.tuple #[]) w') : cal P f_pack_number [.int .i64 n, .int .u64 v] w fun t w => cal P f_pack_Packer_put [p, t, b] w fun t' w => K (.tuple #[]) w := by
  refine cal_i (number_spec hn hv) ?_
  rintro t w1 ⟨g, rfl, ho, hf, hg⟩
  refine cal_i (dput (hp.fr hf (by simp)) _ _) ?_
  rintro _ w2 ⟨rfl, h⟩
  exact hK _ (hf.trans h (by simp) (by simp))
theorem dByte {v : Nat} (hv : v < 256) : cal P f_pack_Packer_Byte [p, .int .u8 v] w (NoQ w) := by
  refine s_pack_Packer_Byte fun R hR => ?_
  unfold c_pack_Packer_Byte
  simp (disch := omega) only [nilc_some, fad_mk, pik_true, pik_false, cnd_true, cnd_false, gif_same, gif_tf, gif_ft, gif_undef, bi_add, bi_sub, bi_mul, bi_eql, bi_neq, bi_lss, bi_leq, bi_gtr, bi_geq, notB_bool, cvi_int, lenS_mk, lenT_mk, ext0, ext1, ext2, nilP_mk, nilS_mk, fldv_agg, jn0_k, jn1_k, jn2_k, jn1_and, jn1_or, ex_some, Option.isNone_some, Option.isNone_none, Bool.false_bne, Bool.bne_true, Bool.bne_false, Bool.true_bne, Bool.not_true, Bool.not_false, Bool.and_true, Bool.true_and, Bool.and_false, Bool.false_and, Bool.or_true, Bool.true_or, Bool.or_false, Bool.false_or, cond_true, cond_false, List.getElem?_toArray, List.getElem?_cons_zero, List.getElem?_cons_succ, Nat.zero_add, Nat.add_zero, Nat.reduceAdd, forall_const, wu64i]
  exact dnum (n := 1) hp (by omega) (by omega) _ fun w' h => hR _ _ ⟨rfl, h⟩
theorem dShort {v : Nat} (hv : v < 65536) : cal P f_pack_Packer_Short [p, .int .u16 v] w (NoQ w) := by
  refine s_pack_Packer_Short fun R hR => ?_
  unfold c_pack_Packer_Short
  simp (disch := omega) only [nilc_some, fad_mk, pik_true, pik_false, cnd_true, cnd_false, gif_same, gif_tf, gif_ft, gif_undef, bi_add, bi_sub, bi_mul, bi_eql, bi_neq, bi_lss, bi_leq, bi_gtr, bi_geq, notB_bool, cvi_int, lenS_mk, lenT_mk, ext0, ext1, ext2, nilP_mk, nilS_mk, fldv_agg, jn0_k, jn1_k, jn2_k, jn1_and, jn1_or, ex_some, Option.isNone_some, Option.isNone_none, Bool.false_bne, Bool.bne_true, Bool.bne_false, Bool.true_bne, Bool.not_true, Bool.not_false, Bool.and_true, Bool.true_and, Bool.and_false, Bool.false_and, Bool.or_true, Bool.true_or, Bool.or_false, Bool.false_or, cond_true, cond_false, List.getElem?_toArray, List.getElem?_cons_zero, List.getElem?_cons_succ, Nat.zero_add, Nat.add_zero, Nat.reduceAdd, forall_const, wu64i]
  exact dnum (n := 2) hp (by omega) (by omega) _ fun w' h => hR _ _ ⟨rfl, h⟩
theorem dInt {v : Nat} (hv : v < 4294967296) : cal P f_pack_Packer_Int [p, .int .u32 v] w (NoQ w) := by
  refine s_pack_Packer_Int fun R hR => ?_
  unfold c_pack_Packer_Int
  simp (disch := omega) only [nilc_some, fad_mk, pik_true, pik_false, cnd_true, cnd_false, gif_same, gif_tf, gif_ft, gif_undef, bi_add, bi_sub, bi_mul, bi_eql, bi_neq, bi_lss, bi_leq, bi_gtr, bi_geq, notB_bool, cvi_int, lenS_mk, lenT_mk, ext0, ext1, ext2, nilP_mk, nilS_mk, fldv_agg, jn0_k, jn1_k, jn2_k, jn1_and, jn1_or, ex_some, Option.isNone_some, Option.isNone_none, Bool.false_bne, Bool.bne_true, Bool.bne_false, Bool.true_bne, Bool.not_true, Bool.not_false, Bool.and_true, Bool.true_and, Bool.and_false, Bool.false_and, Bool.or_true, Bool.true_or, Bool.or_false, Bool.false_or, cond_true, cond_false, List.getElem?_toArray, List.getElem?_cons_zero, List.getElem?_cons_succ, Nat.zero_add, Nat.add_zero, Nat.reduceAdd, forall_const, wu64i]
  exact dnum (n := 4) hp (by omega) (by omega) _ fun w' h => hR _ _ ⟨rfl, h⟩
theorem dLong {v : Nat} (hv : v < 18446744073709551616) : cal P f_pack_Packer_Long [p, .int .u64 v] w (NoQ w) := by
  refine s_pack_Packer_Long fun R hR => ?_
  unfold c_pack_Packer_Long
  exact dnum (n := 8) hp (by omega) hv _ fun w' h => hR _ _ ⟨rfl, h⟩
theorem dBytes {hb : Value} {b : List UInt8} (hrb : RdB w.heap hb b) (hl : b.length < 18446744073709551616) : cal P f_pack_Packer_Bytes [p, hb] w (NoQ w) := by
  refine s_pack_Packer_Bytes fun R hR => ?_
  unfold c_pack_Packer_Bytes
  simp (disch := omega) only [nilc_some, fad_mk, pik_true, pik_false, cnd_true, cnd_false, gif_same, gif_tf, gif_ft, gif_undef, bi_add, bi_sub, bi_mul, bi_eql, bi_neq, bi_lss, bi_leq, bi_gtr, bi_geq, notB_bool, cvi_int, lenS_mk, lenT_mk, ext0, ext1, ext2, nilP_mk, nilS_mk, fldv_agg, jn0_k, jn1_k, jn2_k, jn1_and, jn1_or, ex_some, Option.isNone_some, Option.isNone_none, Bool.false_bne, Bool.bne_true, Bool.bne_false, Bool.true_bne, Bool.not_true, Bool.not_false, Bool.and_true, Bool.true_and, Bool.and_false, Bool.false_and, Bool.or_true, Bool.true_or, Bool.or_false, Bool.false_or, cond_true, cond_false, List.getElem?_toArray, List.getElem?_cons_zero, List.getElem?_cons_succ, Nat.zero_add, Nat.add_zero, Nat.reduceAdd, forall_const, hrb.len, wu64i]
  exact dnum (n := 4) hp (by omega) hl _ fun w' h => hR _ _ ⟨rfl, h⟩
theorem dText (s : Value) : cal P f_pack_Packer_Text [p, s] w (NoQ w) := by
  refine s_pack_Packer_Text fun R hR => ?_
  unfold c_pack_Packer_Text
  refine cal_i (dworks hp) ?_
  rintro _ _ ⟨rfl, rfl⟩
  simp only [nilc_some, fad_mk, pik_true, pik_false, cnd_true, cnd_false, gif_same, gif_tf, gif_ft, gif_undef, bi_add, bi_sub, bi_mul, bi_eql, bi_neq, bi_lss, bi_leq, bi_gtr, bi_geq, notB_bool, cvi_int, lenS_mk, lenT_mk, ext0, ext1, ext2, nilP_mk, nilS_mk, fldv_agg, jn0_k, jn1_k, jn2_k, jn1_and, jn1_or, ex_some, Option.isNone_some, Option.isNone_none, Bool.false_bne, Bool.bne_true, Bool.bne_false, Bool.true_bne, Bool.not_true, Bool.not_false, Bool.and_true, Bool.true_and, Bool.and_false, Bool.false_and, Bool.or_true, Bool.true_or, Bool.or_false, Bool.false_or, cond_true, cond_false, List.getElem?_toArray, List.getElem?_cons_zero, List.getElem?_cons_succ, Nat.zero_add, Nat.add_zero, Nat.reduceAdd, forall_const]
  exact hR _ _ ⟨rfl, Fr.refl _ _⟩
end
section
variable {w : World} {p : Value} (hp : DeadU w.heap p)
include hp
theorem duworks : cal P f_pack_Unpacker_works [p] w fun v w' => v = .bool false ∧ w = w' := by
  refine s_pack_Unpacker_works fun R hR => ?_
  unfold c_pack_Unpacker_works
  rcases hp with rfl | ⟨g, E, rfl, hg⟩
  · simp only [nilc_some, fad_mk, pik_true, pik_false, cnd_true, cnd_false, gif_same, gif_tf, gif_ft, gif_undef, bi_add, bi_sub, bi_mul, bi_eql, bi_neq, bi_lss, bi_leq, bi_gtr, bi_geq, notB_bool, cvi_int, lenS_mk, lenT_mk, ext0, ext1, ext2, nilP_mk, nilS_mk, fldv_agg, jn0_k, jn1_k, jn2_k, jn1_and, jn1_or, ex_some, Option.isNone_some, Option.isNone_none, Bool.false_bne, Bool.bne_true, Bool.bne_false, Bool.true_bne, Bool.not_true, Bool.not_false, Bool.and_true, Bool.true_and, Bool.and_false, Bool.false_and, Bool.or_true, Bool.true_or, Bool.or_false, Bool.false_or, cond_true, cond_false, List.getElem?_toArray, List.getElem?_cons_zero, List.getElem?_cons_succ, Nat.zero_add, Nat.add_zero, Nat.reduceAdd, forall_const]
    exact hR _ _ ⟨rfl, rfl⟩
  · simp only [nilc_some, fad_mk, pik_true, pik_false, cnd_true, cnd_false, gif_same, gif_tf, gif_ft, gif_undef, bi_add, bi_sub, bi_mul, bi_eql, bi_neq, bi_lss, bi_leq, bi_gtr, bi_geq, notB_bool, cvi_int, lenS_mk, lenT_mk, ext0, ext1, ext2, nilP_mk, nilS_mk, fldv_agg, jn0_k, jn1_k, jn2_k, jn1_and, jn1_or, ex_some, Option.isNone_some, Option.isNone_none, Bool.false_bne, Bool.bne_true, Bool.bne_false, Bool.true_bne, Bool.not_true, Bool.not_false, Bool.and_true, Bool.true_and, Bool.and_false, Bool.false_and, Bool.or_true, Bool.true_or, Bool.or_false, Bool.false_or, cond_true, cond_false, List.getElem?_toArray, List.getElem?_cons_zero, List.getElem?_cons_succ, Nat.zero_add, Nat.add_zero, Nat.reduceAdd, forall_const, ld1_eq hg]
    exact hR _ _ ⟨rfl, rfl⟩
theorem dtake (n : Value) : cal P f_pack_Unpacker_take [p, n] w fun v w' => v = .slice none 0 0 ∧ w = w' := by
  refine s_pack_Unpacker_take fun R hR => ?_
  unfold c_pack_Unpacker_take
  refine cal_i (duworks hp) ?_
  rintro _ _ ⟨rfl, rfl⟩
  simp only [nilc_some, fad_mk, pik_true, pik_false, cnd_true, cnd_false, gif_same, gif_tf, gif_ft, gif_undef, bi_add, bi_sub, bi_mul, bi_eql, bi_neq, bi_lss, bi_leq, bi_gtr, bi_geq, notB_bool, cvi_int, lenS_mk, lenT_mk, ext0, ext1, ext2, nilP_mk, nilS_mk, fldv_agg, jn0_k, jn1_k, jn2_k, jn1_and, jn1_or, ex_some, Option.isNone_some, Option.isNone_none, Bool.false_bne, Bool.bne_true, Bool.bne_false, Bool.true_bne, Bool.not_true, Bool.not_false, Bool.and_true, Bool.true_and, Bool.and_false, Bool.false_and, Bool.or_true, Bool.true_or, Bool.or_false, Bool.false_or, cond_true, cond_false, List.getElem?_toArray, List.getElem?_cons_zero, List.getElem?_cons_succ, Nat.zero_add, Nat.add_zero, Nat.reduceAdd, forall_const]
  exact hR _ _ ⟨rfl, rfl⟩
theorem dcounted (n m : Value) : cal P f_pack_Unpacker_counted [p, n, m] w fun v w' => v = .slice none 0 0 ∧ w = w' := by
  refine s_pack_Unpacker_counted fun R hR => ?_
  unfold c_pack_Unpacker_counted
  refine cal_i (duworks hp) ?_
  rintro _ _ ⟨rfl, rfl⟩
  simp only [nilc_some, fad_mk, pik_true, pik_false, cnd_true, cnd_false, gif_same, gif_tf, gif_ft, gif_undef, bi_add, bi_sub, bi_mul, bi_eql, bi_neq, bi_lss, bi_leq, bi_gtr, bi_geq, notB_bool, cvi_int, lenS_mk, lenT_mk, ext0, ext1, ext2, nilP_mk, nilS_mk, fldv_agg, jn0_k, jn1_k, jn2_k, jn1_and, jn1_or, ex_some, Option.isNone_some, Option.isNone_none, Bool.false_bne, Bool.bne_true, Bool.bne_false, Bool.true_bne, Bool.not_true, Bool.not_false, Bool.and_true, Bool.true_and, Bool.and_false, Bool.false_and, Bool.or_true, Bool.true_or, Bool.or_false, Bool.false_or, cond_true, cond_false, List.getElem?_toArray, List.getElem?_cons_zero, List.getElem?_cons_succ, Nat.zero_add, Nat.add_zero, Nat.reduceAdd, forall_const]
  exact hR _ _ ⟨rfl, rfl⟩
theorem duByte : cal P f_pack_Unpacker_Byte [p] w fun v w' => v = .int .u8 0 ∧ w = w' := by
  refine s_pack_Unpacker_Byte fun R hR => ?_
  unfold c_pack_Unpacker_Byte
  refine cal_i (dtake hp _) ?_
  rintro _ _ ⟨rfl, rfl⟩
  refine cal_i (value_spec (RdB.nil _ _) (by simp)) ?_
  rintro _ _ ⟨rfl, rfl⟩
  simp only [nilc_some, fad_mk, pik_true, pik_false, cnd_true, cnd_false, gif_same, gif_tf, gif_ft, gif_undef, bi_add, bi_sub, bi_mul, bi_eql, bi_neq, bi_lss, bi_leq, bi_gtr, bi_geq, notB_bool, cvi_int, lenS_mk, lenT_mk, ext0, ext1, ext2, nilP_mk, nilS_mk, fldv_agg, jn0_k, jn1_k, jn2_k, jn1_and, jn1_or, ex_some, Option.isNone_some, Option.isNone_none, Bool.false_bne, Bool.bne_true, Bool.bne_false, Bool.true_bne, Bool.not_true, Bool.not_false, Bool.and_true, Bool.true_and, Bool.and_false, Bool.false_and, Bool.or_true, Bool.true_or, Bool.or_false, Bool.false_or, cond_true, cond_false, List.getElem?_toArray, List.getElem?_cons_zero, List.getElem?_cons_succ, Nat.zero_add, Nat.add_zero, Nat.reduceAdd, forall_const]
  exact hR _ _ ⟨rfl, rfl⟩
theorem duShort : cal P f_pack_Unpacker_Short [p] w fun v w' => v = .int .u16 0 ∧ w = w' := by
  refine s_pack_Unpacker_Short fun R hR => ?_
  unfold c_pack_Unpacker_Short
  refine cal_i (dtake hp _) ?_
  rintro _ _ ⟨rfl, rfl⟩
  refine cal_i (value_spec (RdB.nil _ _) (by simp)) ?_
  rintro _ _ ⟨rfl, rfl⟩
  simp only [nilc_some, fad_mk, pik_true, pik_false, cnd_true, cnd_false, gif_same, gif_tf, gif_ft, gif_undef, bi_add, bi_sub, bi_mul, bi_eql, bi_neq, bi_lss, bi_leq, bi_gtr, bi_geq, notB_bool, cvi_int, lenS_mk, lenT_mk, ext0, ext1, ext2, nilP_mk, nilS_mk, fldv_agg, jn0_k, jn1_k, jn2_k, jn1_and, jn1_or, ex_some, Option.isNone_some, Option.isNone_none, Bool.false_bne, Bool.bne_true, Bool.bne_false, Bool.true_bne, Bool.not_true, Bool.not_false, Bool.and_true, Bool.true_and, Bool.and_false, Bool.false_and, Bool.or_true, Bool.true_or, Bool.or_false, Bool.false_or, cond_true, cond_false, List.getElem?_toArray, List.getElem?_cons_zero, List.getElem?_cons_succ, Nat.zero_add, Nat.add_zero, Nat.reduceAdd, forall_const]
  exact hR _ _ ⟨rfl, rfl⟩
theorem duInt : cal P f_pack_Unpacker_Int [p] w fun v w' => v = .int .u32 0 ∧ w = w' := by
  refine s_pack_Unpacker_Int fun R hR => ?_
  unfold c_pack_Unpacker_Int
  refine cal_i (dtake hp _) ?_
  rintro _ _ ⟨rfl, rfl⟩
  refine cal_i (value_spec (RdB.nil _ _) (by simp)) ?_
  rintro _ _ ⟨rfl, rfl⟩
  simp only [nilc_some, fad_mk, pik_true, pik_false, cnd_true, cnd_false, gif_same, gif_tf, gif_ft, gif_undef, bi_add, bi_sub, bi_mul, bi_eql, bi_neq, bi_lss, bi_leq, bi_gtr, bi_geq, notB_bool, cvi_int, lenS_mk, lenT_mk, ext0, ext1, ext2, nilP_mk, nilS_mk, fldv_agg, jn0_k, jn1_k, jn2_k, jn1_and, jn1_or, ex_some, Option.isNone_some, Option.isNone_none, Bool.false_bne, Bool.bne_true, Bool.bne_false, Bool.true_bne, Bool.not_true, Bool.not_false, Bool.and_true, Bool.true_and, Bool.and_false, Bool.false_and, Bool.or_true, Bool.true_or, Bool.or_false, Bool.false_or, cond_true, cond_false, List.getElem?_toArray, List.getElem?_cons_zero, List.getElem?_cons_succ, Nat.zero_add, Nat.add_zero, Nat.reduceAdd, forall_const]
  exact hR _ _ ⟨rfl, rfl⟩
theorem duLong : cal P f_pack_Unpacker_Long [p] w fun v w' => v = .int .u64 0 ∧ w = w' := by
  refine s_pack_Unpacker_Long fun R hR => ?_
  unfold c_pack_Unpacker_Long
  refine cal_i (dtake hp _) ?_
  rintro _ _ ⟨rfl, rfl⟩
  refine cal_i (value_spec (RdB.nil _ _) (by simp)) ?_
  rintro _ _ ⟨rfl, rfl⟩
  exact hR _ _ ⟨rfl, rfl⟩
theorem duFixed (n : Value) : cal P f_pack_Unpacker_Fixed [p, n] w fun v w' => v = .slice none 0 0 ∧ w = w' := by
  refine s_pack_Unpacker_Fixed fun R hR => ?_
  unfold c_pack_Unpacker_Fixed
  exact cal_i (dtake hp _) hR
theorem duBytes (n : Value) : cal P f_pack_Unpacker_Bytes [p, n] w fun v w' => v = .slice none 0 0 ∧ w = w' := by
  refine s_pack_Unpacker_Bytes fun R hR => ?_
  unfold c_pack_Unpacker_Bytes
  exact cal_i (dcounted hp _ _) hR
theorem duText (n : Value) : cal P f_pack_Unpacker_Text [p, n] w fun v w' => v = .string ⟨([] : List UInt8).toArray⟩ ∧ w = w' := by
  refine s_pack_Unpacker_Text fun R hR => ?_
  unfold c_pack_Unpacker_Text
  refine cal_i (dcounted hp _ _) ?_
  rintro _ _ ⟨rfl, rfl⟩
  rw [rdP_eq (conv_str UT_bytes UT_uint8 UT_string (RdB.nil _ _))]
  exact hR _ _ ⟨rfl, rfl⟩
theorem duRest : cal P f_pack_Unpacker_Rest [p] w fun v w' => v = .int .i64 0 ∧ w = w' := by
  refine s_pack_Unpacker_Rest fun R hR => ?_
  unfold c_pack_Unpacker_Rest
  rcases hp with rfl | ⟨g, E, rfl, hg⟩
  · simp only [nilc_some, fad_mk, pik_true, pik_false, cnd_true, cnd_false, gif_same, gif_tf, gif_ft, gif_undef, bi_add, bi_sub, bi_mul, bi_eql, bi_neq, bi_lss, bi_leq, bi_gtr, bi_geq, notB_bool, cvi_int, lenS_mk, lenT_mk, ext0, ext1, ext2, nilP_mk, nilS_mk, fldv_agg, jn0_k, jn1_k, jn2_k, jn1_and, jn1_or, ex_some, Option.isNone_some, Option.isNone_none, Bool.false_bne, Bool.bne_true, Bool.bne_false, Bool.true_bne, Bool.not_true, Bool.not_false, Bool.and_true, Bool.true_and, Bool.and_false, Bool.false_and, Bool.or_true, Bool.true_or, Bool.or_false, Bool.false_or, cond_true, cond_false, List.getElem?_toArray, List.getElem?_cons_zero, List.getElem?_cons_succ, Nat.zero_add, Nat.add_zero, Nat.reduceAdd, forall_const]
    exact hR _ _ ⟨rfl, rfl⟩
  · simp only [nilc_some, fad_mk, pik_true, pik_false, cnd_true, cnd_false, gif_same, gif_tf, gif_ft, gif_undef, bi_add, bi_sub, bi_mul, bi_eql, bi_neq, bi_lss, bi_leq, bi_gtr, bi_geq, notB_bool, cvi_int, lenS_mk, lenT_mk, ext0, ext1, ext2, nilP_mk, nilS_mk, fldv_agg, jn0_k, jn1_k, jn2_k, jn1_and, jn1_or, ex_some, Option.isNone_some, Option.isNone_none, Bool.false_bne, Bool.bne_true, Bool.bne_false, Bool.true_bne, Bool.not_true, Bool.not_false, Bool.and_true, Bool.true_and, Bool.and_false, Bool.false_and, Bool.or_true, Bool.true_or, Bool.or_false, Bool.false_or, cond_true, cond_false, List.getElem?_toArray, List.getElem?_cons_zero, List.getElem?_cons_succ, Nat.zero_add, Nat.add_zero, Nat.reduceAdd, forall_const, ld1_eq hg]
    exact hR _ _ ⟨rfl, rfl⟩
theorem duErr : cal P f_pack_Unpacker_Err [p] w fun v w' => v = .int .i64 2 ∧ w = w' := by
  refine s_pack_Unpacker_Err fun R hR => ?_
  unfold c_pack_Unpacker_Err
  rcases hp with rfl | ⟨g, E, rfl, hg⟩
  · simp only [nilc_some, fad_mk, pik_true, pik_false, cnd_true, cnd_false, gif_same, gif_tf, gif_ft, gif_undef, bi_add, bi_sub, bi_mul, bi_eql, bi_neq, bi_lss, bi_leq, bi_gtr, bi_geq, notB_bool, cvi_int, lenS_mk, lenT_mk, ext0, ext1, ext2, nilP_mk, nilS_mk, fldv_agg, jn0_k, jn1_k, jn2_k, jn1_and, jn1_or, ex_some, Option.isNone_some, Option.isNone_none, Bool.false_bne, Bool.bne_true, Bool.bne_false, Bool.true_bne, Bool.not_true, Bool.not_false, Bool.and_true, Bool.true_and, Bool.and_false, Bool.false_and, Bool.or_true, Bool.true_or, Bool.or_false, Bool.false_or, cond_true, cond_false, List.getElem?_toArray, List.getElem?_cons_zero, List.getElem?_cons_succ, Nat.zero_add, Nat.add_zero, Nat.reduceAdd, forall_const]
    exact hR _ _ ⟨rfl, rfl⟩
  · simp only [nilc_some, fad_mk, pik_true, pik_false, cnd_true, cnd_false, gif_same, gif_tf, gif_ft, gif_undef, bi_add, bi_sub, bi_mul, bi_eql, bi_neq, bi_lss, bi_leq, bi_gtr, bi_geq, notB_bool, cvi_int, lenS_mk, lenT_mk, ext0, ext1, ext2, nilP_mk, nilS_mk, fldv_agg, jn0_k, jn1_k, jn2_k, jn1_and, jn1_or, ex_some, Option.isNone_some, Option.isNone_none, Bool.false_bne, Bool.bne_true, Bool.bne_false, Bool.true_bne, Bool.not_true, Bool.not_false, Bool.and_true, Bool.true_and, Bool.and_false, Bool.false_and, Bool.or_true, Bool.true_or, Bool.or_false, Bool.false_or, cond_true, cond_false, List.getElem?_toArray, List.getElem?_cons_zero, List.getElem?_cons_succ, Nat.zero_add, Nat.add_zero, Nat.reduceAdd, forall_const, ld1_eq hg]
    exact hR _ _ ⟨rfl, rfl⟩
theorem duEnd : cal P f_pack_Unpacker_End [p] w fun v w' => v = .int .i64 2 ∧ w = w' := by
  refine s_pack_Unpacker_End fun R hR => ?_
  unfold c_pack_Unpacker_End
  refine cal_i (duErr hp) ?_
  rintro _ _ ⟨rfl, rfl⟩
  simp only [nilc_some, fad_mk, pik_true, pik_false, cnd_true, cnd_false, gif_same, gif_tf, gif_ft, gif_undef, bi_add, bi_sub, bi_mul, bi_eql, bi_neq, bi_lss, bi_leq, bi_gtr, bi_geq, notB_bool, cvi_int, lenS_mk, lenT_mk, ext0, ext1, ext2, nilP_mk, nilS_mk, fldv_agg, jn0_k, jn1_k, jn2_k, jn1_and, jn1_or, ex_some, Option.isNone_some, Option.isNone_none, Bool.false_bne, Bool.bne_true, Bool.bne_false, Bool.true_bne, Bool.not_true, Bool.not_false, Bool.and_true, Bool.true_and, Bool.and_false, Bool.false_and, Bool.or_true, Bool.true_or, Bool.or_false, Bool.false_or, cond_true, cond_false, List.getElem?_toArray, List.getElem?_cons_zero, List.getElem?_cons_succ, Nat.zero_add, Nat.add_zero, Nat.reduceAdd, forall_const, show ((2 : Int) != 0) = true from rfl]
  exact hR _ _ ⟨rfl, rfl⟩
end
theorem dputs {w : World} {p q s : Value} {y : Pk} {G : List Nat} {i : It} (hp : DeadK w.heap p) (hq : IsRf w.heap q y G) (hy : y.Ok)
    (hs : RdB w.heap s i.b) (ho : Off s G) (hl : i.b.length ≤ 140737488355324) (hv : i.v < 18446744073709551616) :
    cal P f_law01_puts [p, q, .agg #[.int .i64 i.Do, .int .u64 i.v, s, .int .i64 i.n]] w fun v w' => v = .tuple #[] ∧ Fr G w w' := by
  refine s_law01_puts fun R hR => ?_
  unfold c_law01_puts
  refine bx_i fun w1 g hg hg1 hf1 => ?_
  have hp1 := hp.fr hf1 (by simp)
  have hq1 := hq.fr hf1 (by simp)
  have hs1 := hs.fr hf1 (off_nil _)
  have m1 : IntKind.u8.wrap (i.v : Int) = ((i.v % 256 : Nat) : Int) := wu8n _
  have m2 : IntKind.u16.wrap (i.v : Int) = ((i.v % 65536 : Nat) : Int) := wu16n _
  have m4 : IntKind.u32.wrap (i.v : Int) = ((i.v % 4294967296 : Nat) : Int) := wu32n _
  have n1 : (i.v : Int).tmod 256 = ((i.v % 256 : Nat) : Int) := tmodn _ 256
  have n2 : (i.v : Int).tmod 65536 = ((i.v % 65536 : Nat) : Int) := tmodn _ 65536
  have n4 : (i.v : Int).tmod 4294967296 = ((i.v % 4294967296 : Nat) : Int) := tmodn _ 4294967296
  have hend : ∀ w2 w3 G', Fr [] w1 w2 → Fr G w2 w3 → Grew w2 G G' → R (.tuple #[]) w3 := fun w2 w3 G' h2 h3 _ =>
    hR _ _ ⟨rfl, hf1.trans (h2.trans (H := G) h3 (by simp) (fun k hk => .inl hk)) (by simp) (fun k hk => .inl hk)⟩
  simp only [Value.cells] at hg1
  simp only [nilc_some, fad_mk, pik_true, pik_false, cnd_true, cnd_false, gif_same, gif_tf, gif_ft, gif_undef, bi_add, bi_sub, bi_mul, bi_eql, bi_neq, bi_lss, bi_leq, bi_gtr, bi_geq, notB_bool, cvi_int, lenS_mk, lenT_mk, ext0, ext1, ext2, nilP_mk, nilS_mk, fldv_agg, jn0_k, jn1_k, jn2_k, jn1_and, jn1_or, ex_some, Option.isNone_some, Option.isNone_none, Bool.false_bne, Bool.bne_true, Bool.bne_false, Bool.true_bne, Bool.not_true, Bool.not_false, Bool.and_true, Bool.true_and, Bool.and_false, Bool.false_and, Bool.or_true, Bool.true_or, Bool.or_false, Bool.false_or, cond_true, cond_false, List.getElem?_toArray, List.getElem?_cons_zero, List.getElem?_cons_succ, Nat.zero_add, Nat.add_zero, Nat.reduceAdd, forall_const, ld1_eq hg1]
  rw [cnd_bool]
  refine ⟨fun h => ?_, fun h0 => ?_⟩
  · refine cal_i (dFixed hp1 _) ?_
    rintro _ w2 ⟨rfl, e2⟩
    simp only [nilc_some, fad_mk, pik_true, pik_false, cnd_true, cnd_false, gif_same, gif_tf, gif_ft, gif_undef, bi_add, bi_sub, bi_mul, bi_eql, bi_neq, bi_lss, bi_leq, bi_gtr, bi_geq, notB_bool, cvi_int, lenS_mk, lenT_mk, ext0, ext1, ext2, nilP_mk, nilS_mk, fldv_agg, jn0_k, jn1_k, jn2_k, jn1_and, jn1_or, ex_some, Option.isNone_some, Option.isNone_none, Bool.false_bne, Bool.bne_true, Bool.bne_false, Bool.true_bne, Bool.not_true, Bool.not_false, Bool.and_true, Bool.true_and, Bool.and_false, Bool.false_and, Bool.or_true, Bool.true_or, Bool.or_false, Bool.false_or, cond_true, cond_false, List.getElem?_toArray, List.getElem?_cons_zero, List.getElem?_cons_succ, Nat.zero_add, Nat.add_zero, Nat.reduceAdd, forall_const, ld1_eq (e2.blk hg1 (by simp))]
    refine cal_i (rFixed_spec (hq1.fr e2 (by simp)) hy (hs1.fr e2 (off_nil _)) ho) ?_
    rintro _ w3 ⟨rfl, G', d1, d2, d3⟩
    exact hend _ _ _ e2 d2 d3
  rw [cnd_bool]
  refine ⟨fun h => ?_, fun h1 => ?_⟩
  · rw [m1]
    refine cal_i (dByte hp1 (by omega)) ?_
    rintro _ w2 ⟨rfl, e2⟩
    simp only [nilc_some, fad_mk, pik_true, pik_false, cnd_true, cnd_false, gif_same, gif_tf, gif_ft, gif_undef, bi_add, bi_sub, bi_mul, bi_eql, bi_neq, bi_lss, bi_leq, bi_gtr, bi_geq, notB_bool, cvi_int, lenS_mk, lenT_mk, ext0, ext1, ext2, nilP_mk, nilS_mk, fldv_agg, jn0_k, jn1_k, jn2_k, jn1_and, jn1_or, ex_some, Option.isNone_some, Option.isNone_none, Bool.false_bne, Bool.bne_true, Bool.bne_false, Bool.true_bne, Bool.not_true, Bool.not_false, Bool.and_true, Bool.true_and, Bool.and_false, Bool.false_and, Bool.or_true, Bool.true_or, Bool.or_false, Bool.false_or, cond_true, cond_false, List.getElem?_toArray, List.getElem?_cons_zero, List.getElem?_cons_succ, Nat.zero_add, Nat.add_zero, Nat.reduceAdd, forall_const, ld1_eq (e2.blk hg1 (by simp))]
    rw [bi_rem _ _ _ _ (by omega), n1]
    refine cal_i (rNumP_spec (n := 1) (hq1.fr e2 (by simp)) hy (by omega) (by omega)) ?_
    rintro _ w3 ⟨rfl, G', d1, d2, d3⟩
    exact hend _ _ _ e2 d2 d3
  rw [cnd_bool]
  refine ⟨fun h => ?_, fun h2 => ?_⟩
  · rw [m2]
    refine cal_i (dShort hp1 (by omega)) ?_
    rintro _ w2 ⟨rfl, e2⟩
    simp only [nilc_some, fad_mk, pik_true, pik_false, cnd_true, cnd_false, gif_same, gif_tf, gif_ft, gif_undef, bi_add, bi_sub, bi_mul, bi_eql, bi_neq, bi_lss, bi_leq, bi_gtr, bi_geq, notB_bool, cvi_int, lenS_mk, lenT_mk, ext0, ext1, ext2, nilP_mk, nilS_mk, fldv_agg, jn0_k, jn1_k, jn2_k, jn1_and, jn1_or, ex_some, Option.isNone_some, Option.isNone_none, Bool.false_bne, Bool.bne_true, Bool.bne_false, Bool.true_bne, Bool.not_true, Bool.not_false, Bool.and_true, Bool.true_and, Bool.and_false, Bool.false_and, Bool.or_true, Bool.true_or, Bool.or_false, Bool.false_or, cond_true, cond_false, List.getElem?_toArray, List.getElem?_cons_zero, List.getElem?_cons_succ, Nat.zero_add, Nat.add_zero, Nat.reduceAdd, forall_const, ld1_eq (e2.blk hg1 (by simp))]
    rw [bi_rem _ _ _ _ (by omega), n2]
    refine cal_i (rNumP_spec (n := 2) (hq1.fr e2 (by simp)) hy (by omega) (by omega)) ?_
    rintro _ w3 ⟨rfl, G', d1, d2, d3⟩
    exact hend _ _ _ e2 d2 d3
  rw [cnd_bool]
  refine ⟨fun h => ?_, fun h3 => ?_⟩
  · refine cal_i (dBytes hp1 hs1 (by omega)) ?_
    rintro _ w2 ⟨rfl, e2⟩
    simp only [nilc_some, fad_mk, pik_true, pik_false, cnd_true, cnd_false, gif_same, gif_tf, gif_ft, gif_undef, bi_add, bi_sub, bi_mul, bi_eql, bi_neq, bi_lss, bi_leq, bi_gtr, bi_geq, notB_bool, cvi_int, lenS_mk, lenT_mk, ext0, ext1, ext2, nilP_mk, nilS_mk, fldv_agg, jn0_k, jn1_k, jn2_k, jn1_and, jn1_or, ex_some, Option.isNone_some, Option.isNone_none, Bool.false_bne, Bool.bne_true, Bool.bne_false, Bool.true_bne, Bool.not_true, Bool.not_false, Bool.and_true, Bool.true_and, Bool.and_false, Bool.false_and, Bool.or_true, Bool.true_or, Bool.or_false, Bool.false_or, cond_true, cond_false, List.getElem?_toArray, List.getElem?_cons_zero, List.getElem?_cons_succ, Nat.zero_add, Nat.add_zero, Nat.reduceAdd, forall_const, ld1_eq (e2.blk hg1 (by simp))]
    refine cal_i (rBytes_spec (hq1.fr e2 (by simp)) hy (hs1.fr e2 (off_nil _)) hl) ?_
    rintro _ w3 ⟨rfl, G', d1, d2, d3⟩
    exact hend _ _ _ e2 d2 d3
  rw [cnd_bool]
  refine ⟨fun h => ?_, fun h4 => ?_⟩
  · rw [m4]
    refine cal_i (dInt hp1 (by omega)) ?_
    rintro _ w2 ⟨rfl, e2⟩
    simp only [nilc_some, fad_mk, pik_true, pik_false, cnd_true, cnd_false, gif_same, gif_tf, gif_ft, gif_undef, bi_add, bi_sub, bi_mul, bi_eql, bi_neq, bi_lss, bi_leq, bi_gtr, bi_geq, notB_bool, cvi_int, lenS_mk, lenT_mk, ext0, ext1, ext2, nilP_mk, nilS_mk, fldv_agg, jn0_k, jn1_k, jn2_k, jn1_and, jn1_or, ex_some, Option.isNone_some, Option.isNone_none, Bool.false_bne, Bool.bne_true, Bool.bne_false, Bool.true_bne, Bool.not_true, Bool.not_false, Bool.and_true, Bool.true_and, Bool.and_false, Bool.false_and, Bool.or_true, Bool.true_or, Bool.or_false, Bool.false_or, cond_true, cond_false, List.getElem?_toArray, List.getElem?_cons_zero, List.getElem?_cons_succ, Nat.zero_add, Nat.add_zero, Nat.reduceAdd, forall_const, ld1_eq (e2.blk hg1 (by simp))]
    rw [bi_rem _ _ _ _ (by omega), n4]
    refine cal_i (rNumP_spec (n := 4) (hq1.fr e2 (by simp)) hy (by omega) (by omega)) ?_
    rintro _ w3 ⟨rfl, G', d1, d2, d3⟩
    exact hend _ _ _ e2 d2 d3
  rw [cnd_bool]
  refine ⟨fun h => ?_, fun h5 => ?_⟩
  · rw [rdP_eq (conv_str UT_bytes UT_uint8 UT_string hs1)]
    refine cal_i (dText hp1 _) ?_
    rintro _ w2 ⟨rfl, e2⟩
    simp only [nilc_some, fad_mk, pik_true, pik_false, cnd_true, cnd_false, gif_same, gif_tf, gif_ft, gif_undef, bi_add, bi_sub, bi_mul, bi_eql, bi_neq, bi_lss, bi_leq, bi_gtr, bi_geq, notB_bool, cvi_int, lenS_mk, lenT_mk, ext0, ext1, ext2, nilP_mk, nilS_mk, fldv_agg, jn0_k, jn1_k, jn2_k, jn1_and, jn1_or, ex_some, Option.isNone_some, Option.isNone_none, Bool.false_bne, Bool.bne_true, Bool.bne_false, Bool.true_bne, Bool.not_true, Bool.not_false, Bool.and_true, Bool.true_and, Bool.and_false, Bool.false_and, Bool.or_true, Bool.true_or, Bool.or_false, Bool.false_or, cond_true, cond_false, List.getElem?_toArray, List.getElem?_cons_zero, List.getElem?_cons_succ, Nat.zero_add, Nat.add_zero, Nat.reduceAdd, forall_const, ld1_eq (e2.blk hg1 (by simp))]
    rw [rdP_eq (conv_str UT_bytes UT_uint8 UT_string (hs1.fr e2 (off_nil _)))]
    refine cal_i (rText_spec (hq1.fr e2 (by simp)) hy hl) ?_
    rintro _ w3 ⟨rfl, G', d1, d2, d3⟩
    exact hend _ _ _ e2 d2 d3
  rw [cnd_bool]
  refine ⟨fun h => ?_, fun h8 => ?_⟩
  · refine cal_i (dLong hp1 hv) ?_
    rintro _ w2 ⟨rfl, e2⟩
    simp only [nilc_some, fad_mk, pik_true, pik_false, cnd_true, cnd_false, gif_same, gif_tf, gif_ft, gif_undef, bi_add, bi_sub, bi_mul, bi_eql, bi_neq, bi_lss, bi_leq, bi_gtr, bi_geq, notB_bool, cvi_int, lenS_mk, lenT_mk, ext0, ext1, ext2, nilP_mk, nilS_mk, fldv_agg, jn0_k, jn1_k, jn2_k, jn1_and, jn1_or, ex_some, Option.isNone_some, Option.isNone_none, Bool.false_bne, Bool.bne_true, Bool.bne_false, Bool.true_bne, Bool.not_true, Bool.not_false, Bool.and_true, Bool.true_and, Bool.and_false, Bool.false_and, Bool.or_true, Bool.true_or, Bool.or_false, Bool.false_or, cond_true, cond_false, List.getElem?_toArray, List.getElem?_cons_zero, List.getElem?_cons_succ, Nat.zero_add, Nat.add_zero, Nat.reduceAdd, forall_const, ld1_eq (e2.blk hg1 (by simp))]
    refine cal_i (rNumP_spec (n := 8) (hq1.fr e2 (by simp)) hy (by omega) hv) ?_
    rintro _ w3 ⟨rfl, G', d1, d2, d3⟩
    exact hend _ _ _ e2 d2 d3
  exact hend _ _ _ (Fr.refl _ _) (Fr.refl _ _) (Grew.refl _ _)
theorem dput1 {w : World} {p s : Value} {i : It} (hp : DeadK w.heap p) (hs : RdB w.heap s i.b) (hl : i.b.length ≤ 140737488355324) (hv : i.v < 18446744073709551616) (h1 : s.oneCell' = true) :
    cal P f_law01_put [p, .agg #[.int .i64 i.Do, .int .u64 i.v, s, .int .i64 i.n]] w (NoQ w) := by
  refine s_law01_put fun R hR => ?_
  unfold c_law01_put
  refine bx_i fun w1 g hg hg1 hf1 => ?_
  simp only [Value.cells] at hg1
  refine ⟨fun w' => w'.heap[g]? = some (.cells #[.int .i64 i.Do, .int .u64 i.v, s, .int .i64 i.n] T_flurrylaw01_Item (0, 0)), hg1, ?_⟩
  refine ⟨.agg #[.int .i64 i.Do, .int .u64 i.v, s, .int .i64 i.n], fun w' hw' => ?_, ?_⟩
  · show ldN 4 (.pointer (some ⟨g, 0, none⟩)) w'.heap _
    rw [ldN_eq (show w'.heap[g]? = some (.cells #[.int .i64 i.Do, .int .u64 i.v, s, .int .i64 i.n] T_flurrylaw01_Item (0, 0)) from hw')]
    exact ⟨by simp, rfl⟩
  · unfold efS
    refine cal_i (rNew_spec (w := { w1 with drawn := _ }) 0) ?_
    rintro q w2 ⟨G, hq, hf2, hG⟩
    have hf2 : Fr [] w1 w2 := hf2.ofDrew
    have hf12 : Fr [] w w2 := hf1.trans hf2 (by simp) (by simp)
    have hG : ∀ k ∈ G, w1.heap.size ≤ k := hG
    have hs0 := hf1.size
    refine ⟨hf2.blk hg1 (by simp), ?_⟩
    refine cal_i (dputs (i := i) (hp.fr hf12 (by simp)) hq (Pk.new_ok 0) (hs.fr hf12 (off_nil _)) (hs.off fun k hk => by have := hG k hk; omega) hl hv) ?_
    rintro _ w3 ⟨rfl, h4⟩
    have hgG : g ∉ G := fun hm => by
      have h1 := lt_of_blk hg1
      have h2 := hG g hm
      omega
    exact ⟨h4.blk (hf2.blk hg1 (by simp)) hgG, hR _ _ ⟨rfl, hf12.trans h4 (by simp) fun k hk => .inr (by have := hG k hk; omega)⟩⟩
theorem trod_itemA {H : Type} {enc : TypeId × Value → H} {w : World} {sp : Nat → Bool} {held : Bool} {fuel : Nat} {cs : Array Value} {x : DataW H × List MemPlace} (h : DataW.trod enc P w 0 sp held fuel T_flurrylaw01_Item (Value.agg cs).cells.toList = some x) :
    ∃ p : It × Value, Value.agg cs = .agg (itc p).toArray ∧ ItOk w.heap p := by
  obtain ⟨p, h1, h2⟩ := trod_item h
  refine ⟨p, ?_, h2⟩
  have : cs.toList = itc p := h1
  rw [← this]
theorem PackNone_walk {w : World} {cs : Array Value} {it : It × Value} (hit : Value.agg cs = .agg (itc it).toArray ∧ ItOk w.heap it) : cal P f_law01_PackNone [.agg cs] w fun r w' => r = .bool true ∧ Fr [] w w' := by
  obtain ⟨hcs, hok⟩ := hit
  rw [hcs]
  refine s_law01_PackNone fun R hR => ?_
  unfold c_law01_PackNone
  refine bx_i fun w1 g hg hg1 hf1 => ?_
  have hg1 : w1.heap[g]? = some (.cells #[.int .i64 it.1.Do, .int .u64 it.1.v, it.2, .int .i64 it.1.n] T_flurrylaw01_Item (0, 0)) := hg1
  refine cal_i live_spec ?_
  rintro _ w2 ⟨rfl, hf2⟩
  have hf12 := hf1.trans (H := []) hf2 (by simp) (by simp)
  have hg2 := hf2.blk hg1 (by simp)
  have hok2 := hok.fr hf12
  simp only [nilc_some, fad_mk, pik_true, pik_false, cnd_true, cnd_false, gif_same, gif_tf, gif_ft, gif_undef, bi_add, bi_sub, bi_mul, bi_eql, bi_neq, bi_lss, bi_leq, bi_gtr, bi_geq, notB_bool, cvi_int, lenS_mk, lenT_mk, ext0, ext1, ext2, nilP_mk, nilS_mk, fldv_agg, jn0_k, jn1_k, jn2_k, jn1_and, jn1_or, ex_some, Option.isNone_some, Option.isNone_none, Bool.false_bne, Bool.bne_true, Bool.bne_false, Bool.true_bne, Bool.not_true, Bool.not_false, Bool.and_true, Bool.true_and, Bool.and_false, Bool.false_and, Bool.or_true, Bool.true_or, Bool.or_false, Bool.false_or, cond_true, cond_false, List.getElem?_toArray, List.getElem?_cons_zero, List.getElem?_cons_succ, Nat.zero_add, Nat.add_zero, Nat.reduceAdd, forall_const, ld1_eq hg2, hok2.1.len]
  rw [cnd_bool]
  refine ⟨fun h => ?_, fun h => ?_⟩
  · refine cal_i live_spec ?_
    rintro _ w3 ⟨rfl, hf3⟩
    exact hR _ _ ⟨rfl, hf12.trans hf3 (by simp) (by simp)⟩
  have hlen : it.1.b.length ≤ 100000 := by simp at h; omega
  have hb : (Instr.build T_pack_Packer #[]).run P w2 = .ok (.agg #[.bool false, .slice none 0 0, .int .i64 0, .int .i64 0]) w2 := by kernel_rfl
  rw [rdP_eq hb]
  refine bx_i fun w3 gp hgp hgp3 hf3 => ?_
  have hgp3 : w3.heap[gp]? = some (.cells #[.bool false, .slice none 0 0, .int .i64 0, .int .i64 0] T_pack_Packer (0, 0)) := hgp3
  have hr : (Instr.buildSlice T_sl_p_pack_Packer 2 #[(0, (Value.pointer none)), (1, (Value.pointer (some ⟨gp, 0, none⟩)))]).run P w3 =
      .ok (.slice (some ⟨w3.heap.size, 0, none⟩) 2 2) (w3.alloc (.cells [Value.pointer none, Value.pointer (some ⟨gp, 0, none⟩)].toArray T_p_pack_Packer)) := by kernel_rfl
  refine slice_i hr fun w4 gs hgs hb4 hf4 => ?_
  have ho4 := Own.of_blk (n := 2) (size := 1) hb4 rfl
  have hgp4 := hf4.blk hgp3 (by simp)
  have hf14 : Fr [] w w4 := (hf12.trans (H := []) hf3 (by simp) (by simp)).trans hf4 (by simp) (by simp)
  have hg4 := hf4.blk (hf3.blk hg2 (by simp)) (by simp)
  have hel : ∀ i, i < 2 → ∃ p, [Value.pointer none, Value.pointer (some ⟨gp, 0, none⟩)][i]? = some p ∧ DeadK w4.heap p := fun i hi => by
    match i, hi with
    | 0, _ => exact ⟨_, rfl, .inl rfl⟩
    | 1, _ => exact ⟨_, rfl, .inr ⟨gp, _, rfl, hgp4⟩⟩
  simp only [nilc_some, fad_mk, pik_true, pik_false, cnd_true, cnd_false, gif_same, gif_tf, gif_ft, gif_undef, bi_add, bi_sub, bi_mul, bi_eql, bi_neq, bi_lss, bi_leq, bi_gtr, bi_geq, notB_bool, cvi_int, lenS_mk, lenT_mk, ext0, ext1, ext2, nilP_mk, nilS_mk, fldv_agg, jn0_k, jn1_k, jn2_k, jn1_and, jn1_or, ex_some, Option.isNone_some, Option.isNone_none, Bool.false_bne, Bool.bne_true, Bool.bne_false, Bool.true_bne, Bool.not_true, Bool.not_false, Bool.and_true, Bool.true_and, Bool.and_false, Bool.false_and, Bool.or_true, Bool.true_or, Bool.or_false, Bool.false_or, cond_true, cond_false, List.getElem?_toArray, List.getElem?_cons_zero, List.getElem?_cons_succ, Nat.zero_add, Nat.add_zero, Nat.reduceAdd, forall_const]
  refine ⟨fun y w' => ∃ i : Nat, i ≤ 2 ∧ y = .int .i64 i ∧ Fr [] w4 w', fun y _ => (2 - RowKit.intOf y).toNat, ⟨0, by omega, rfl, Fr.refl _ _⟩, ?_⟩
  rintro _ w5 ⟨i, hi, rfl, hf5⟩ -
  simp only [nilc_some, fad_mk, pik_true, pik_false, cnd_true, cnd_false, gif_same, gif_tf, gif_ft, gif_undef, bi_add, bi_sub, bi_mul, bi_eql, bi_neq, bi_lss, bi_leq, bi_gtr, bi_geq, notB_bool, cvi_int, lenS_mk, lenT_mk, ext0, ext1, ext2, nilP_mk, nilS_mk, fldv_agg, jn0_k, jn1_k, jn2_k, jn1_and, jn1_or, ex_some, Option.isNone_some, Option.isNone_none, Bool.false_bne, Bool.bne_true, Bool.bne_false, Bool.true_bne, Bool.not_true, Bool.not_false, Bool.and_true, Bool.true_and, Bool.and_false, Bool.false_and, Bool.or_true, Bool.true_or, Bool.or_false, Bool.false_or, cond_true, cond_false, List.getElem?_toArray, List.getElem?_cons_zero, List.getElem?_cons_succ, Nat.zero_add, Nat.add_zero, Nat.reduceAdd, forall_const]
  rw [cnd_bool]
  refine ⟨fun h => ?_, fun h => ?_⟩
  · have hlt : i < 2 := by simp at h; omega
    obtain ⟨p, hp, hd⟩ := hel i hlt
    refine ldx (ho4.cel.fr hf5 (off_nil _)) hp ?_
    have hd5 := hd.fr hf5 (by simp)
    rw [ldN_eq (hf5.blk hg4 (by simp))]
    refine ⟨by simp, ?_⟩
    rw [show (#[.int .i64 it.1.Do, .int .u64 it.1.v, it.2, .int .i64 it.1.n] : Array Value).extract 0 (0 + 4) = #[.int .i64 it.1.Do, .int .u64 it.1.v, it.2, .int .i64 it.1.n] from rfl]
    have hok5 := hok.fr (hf14.trans (H := []) hf5 (by simp) (by simp))
    refine cal_i (dput1 (i := it.1) hd5 hok5.1 (by omega) hok5.2.1 hok5.2.2.1) ?_
    rintro _ w6 ⟨rfl, hf6⟩
    have hd6 := hd5.fr hf6 (by simp)
    refine cal_i (dOut hd6) ?_
    rintro _ _ ⟨rfl, rfl⟩
    simp only [nilc_some, fad_mk, pik_true, pik_false, cnd_true, cnd_false, gif_same, gif_tf, gif_ft, gif_undef, bi_add, bi_sub, bi_mul, bi_eql, bi_neq, bi_lss, bi_leq, bi_gtr, bi_geq, notB_bool, cvi_int, lenS_mk, lenT_mk, ext0, ext1, ext2, nilP_mk, nilS_mk, fldv_agg, jn0_k, jn1_k, jn2_k, jn1_and, jn1_or, ex_some, Option.isNone_some, Option.isNone_none, Bool.false_bne, Bool.bne_true, Bool.bne_false, Bool.true_bne, Bool.not_true, Bool.not_false, Bool.and_true, Bool.true_and, Bool.and_false, Bool.false_and, Bool.or_true, Bool.true_or, Bool.or_false, Bool.false_or, cond_true, cond_false, List.getElem?_toArray, List.getElem?_cons_zero, List.getElem?_cons_succ, Nat.zero_add, Nat.add_zero, Nat.reduceAdd, forall_const]
    refine cal_i (dLen hd6) ?_
    rintro _ _ ⟨rfl, rfl⟩
    simp only [nilc_some, fad_mk, pik_true, pik_false, cnd_true, cnd_false, gif_same, gif_tf, gif_ft, gif_undef, bi_add, bi_sub, bi_mul, bi_eql, bi_neq, bi_lss, bi_leq, bi_gtr, bi_geq, notB_bool, cvi_int, lenS_mk, lenT_mk, ext0, ext1, ext2, nilP_mk, nilS_mk, fldv_agg, jn0_k, jn1_k, jn2_k, jn1_and, jn1_or, ex_some, Option.isNone_some, Option.isNone_none, Bool.false_bne, Bool.bne_true, Bool.bne_false, Bool.true_bne, Bool.not_true, Bool.not_false, Bool.and_true, Bool.true_and, Bool.and_false, Bool.false_and, Bool.or_true, Bool.true_or, Bool.or_false, Bool.false_or, cond_true, cond_false, List.getElem?_toArray, List.getElem?_cons_zero, List.getElem?_cons_succ, Nat.zero_add, Nat.add_zero, Nat.reduceAdd, forall_const, show ((0 : Int) != 0) = false from rfl, show ((2 : Int) != 2) = false from rfl]
    refine jn1_dup ?_
    refine cal_i (dErr hd6) ?_
    rintro _ _ ⟨rfl, rfl⟩
    simp only [nilc_some, fad_mk, pik_true, pik_false, cnd_true, cnd_false, gif_same, gif_tf, gif_ft, gif_undef, bi_add, bi_sub, bi_mul, bi_eql, bi_neq, bi_lss, bi_leq, bi_gtr, bi_geq, notB_bool, cvi_int, lenS_mk, lenT_mk, ext0, ext1, ext2, nilP_mk, nilS_mk, fldv_agg, jn0_k, jn1_k, jn2_k, jn1_and, jn1_or, ex_some, Option.isNone_some, Option.isNone_none, Bool.false_bne, Bool.bne_true, Bool.bne_false, Bool.true_bne, Bool.not_true, Bool.not_false, Bool.and_true, Bool.true_and, Bool.and_false, Bool.false_and, Bool.or_true, Bool.true_or, Bool.or_false, Bool.false_or, cond_true, cond_false, List.getElem?_toArray, List.getElem?_cons_zero, List.getElem?_cons_succ, Nat.zero_add, Nat.add_zero, Nat.reduceAdd, forall_const, show ((2 : Int) != 2) = false from rfl, show (((0 : Nat) : Int) != 0) = false from rfl]
    rw [wi64 (by omega) (by omega)]
    exact ⟨⟨i + 1, by omega, by simp, hf5.trans hf6 (by simp) (by simp)⟩, by simp [RowKit.intOf]; omega⟩
  have hf15 := hf14.trans (H := []) hf5 (by simp) (by simp)
  have hg5 := hf5.blk hg4 (by simp)
  have hbu : (Instr.build T_pack_Unpacker #[]).run P w5 = .ok (.agg #[.bool false, .slice none 0 0, .int .i64 0]) w5 := by kernel_rfl
  rw [rdP_eq hbu]
  refine bx_i fun w6 gu hgu hgu6 hf6 => ?_
  have hgu6 : w6.heap[gu]? = some (.cells #[.bool false, .slice none 0 0, .int .i64 0] T_pack_Unpacker (0, 0)) := hgu6
  have hr : (Instr.buildSlice T_sl_p_pack_Unpacker 2 #[(0, (Value.pointer none)), (1, (Value.pointer (some ⟨gu, 0, none⟩)))]).run P w6 =
      .ok (.slice (some ⟨w6.heap.size, 0, none⟩) 2 2) (w6.alloc (.cells [Value.pointer none, Value.pointer (some ⟨gu, 0, none⟩)].toArray T_p_pack_Unpacker)) := by kernel_rfl
  refine slice_i hr fun w7 gt hgt hb7 hf7 => ?_
  have ho7 := Own.of_blk (n := 2) (size := 1) hb7 rfl
  have hgu7 := hf7.blk hgu6 (by simp)
  have hf17 : Fr [] w w7 := (hf15.trans (H := []) hf6 (by simp) (by simp)).trans hf7 (by simp) (by simp)
  have hg7 := hf7.blk (hf6.blk hg5 (by simp)) (by simp)
  have hel : ∀ i, i < 2 → ∃ p, [Value.pointer none, Value.pointer (some ⟨gu, 0, none⟩)][i]? = some p ∧ DeadU w7.heap p := fun i hi => by
    match i, hi with
    | 0, _ => exact ⟨_, rfl, .inl rfl⟩
    | 1, _ => exact ⟨_, rfl, .inr ⟨gu, _, rfl, hgu7⟩⟩
  simp only [nilc_some, fad_mk, pik_true, pik_false, cnd_true, cnd_false, gif_same, gif_tf, gif_ft, gif_undef, bi_add, bi_sub, bi_mul, bi_eql, bi_neq, bi_lss, bi_leq, bi_gtr, bi_geq, notB_bool, cvi_int, lenS_mk, lenT_mk, ext0, ext1, ext2, nilP_mk, nilS_mk, fldv_agg, jn0_k, jn1_k, jn2_k, jn1_and, jn1_or, ex_some, Option.isNone_some, Option.isNone_none, Bool.false_bne, Bool.bne_true, Bool.bne_false, Bool.true_bne, Bool.not_true, Bool.not_false, Bool.and_true, Bool.true_and, Bool.and_false, Bool.false_and, Bool.or_true, Bool.true_or, Bool.or_false, Bool.false_or, cond_true, cond_false, List.getElem?_toArray, List.getElem?_cons_zero, List.getElem?_cons_succ, Nat.zero_add, Nat.add_zero, Nat.reduceAdd, forall_const]
  refine ⟨fun y w' => ∃ i : Nat, i ≤ 2 ∧ y = .int .i64 i ∧ w' = w7, fun y _ => (2 - RowKit.intOf y).toNat, ⟨0, by omega, rfl, rfl⟩, ?_⟩
  rintro _ _ ⟨i, hi, rfl, rfl⟩ -
  simp only [nilc_some, fad_mk, pik_true, pik_false, cnd_true, cnd_false, gif_same, gif_tf, gif_ft, gif_undef, bi_add, bi_sub, bi_mul, bi_eql, bi_neq, bi_lss, bi_leq, bi_gtr, bi_geq, notB_bool, cvi_int, lenS_mk, lenT_mk, ext0, ext1, ext2, nilP_mk, nilS_mk, fldv_agg, jn0_k, jn1_k, jn2_k, jn1_and, jn1_or, ex_some, Option.isNone_some, Option.isNone_none, Bool.false_bne, Bool.bne_true, Bool.bne_false, Bool.true_bne, Bool.not_true, Bool.not_false, Bool.and_true, Bool.true_and, Bool.and_false, Bool.false_and, Bool.or_true, Bool.true_or, Bool.or_false, Bool.false_or, cond_true, cond_false, List.getElem?_toArray, List.getElem?_cons_zero, List.getElem?_cons_succ, Nat.zero_add, Nat.add_zero, Nat.reduceAdd, forall_const]
  rw [cnd_bool]
  refine ⟨fun h => ?_, fun h => hR _ _ ⟨rfl, hf17⟩⟩
  have hlt : i < 2 := by simp at h; omega
  obtain ⟨p, hp, hd⟩ := hel i hlt
  refine ldx ho7.cel hp ?_
  refine cal_i (duByte hd) ?_
  rintro _ _ ⟨rfl, rfl⟩
  simp only [nilc_some, fad_mk, pik_true, pik_false, cnd_true, cnd_false, gif_same, gif_tf, gif_ft, gif_undef, bi_add, bi_sub, bi_mul, bi_eql, bi_neq, bi_lss, bi_leq, bi_gtr, bi_geq, notB_bool, cvi_int, lenS_mk, lenT_mk, ext0, ext1, ext2, nilP_mk, nilS_mk, fldv_agg, jn0_k, jn1_k, jn2_k, jn1_and, jn1_or, ex_some, Option.isNone_some, Option.isNone_none, Bool.false_bne, Bool.bne_true, Bool.bne_false, Bool.true_bne, Bool.not_true, Bool.not_false, Bool.and_true, Bool.true_and, Bool.and_false, Bool.false_and, Bool.or_true, Bool.true_or, Bool.or_false, Bool.false_or, cond_true, cond_false, List.getElem?_toArray, List.getElem?_cons_zero, List.getElem?_cons_succ, Nat.zero_add, Nat.add_zero, Nat.reduceAdd, forall_const, show ((0 : Int) != 0) = false from rfl]
  refine jn1_dup ?_
  refine cal_i (duShort hd) ?_
  rintro _ _ ⟨rfl, rfl⟩
  simp only [nilc_some, fad_mk, pik_true, pik_false, cnd_true, cnd_false, gif_same, gif_tf, gif_ft, gif_undef, bi_add, bi_sub, bi_mul, bi_eql, bi_neq, bi_lss, bi_leq, bi_gtr, bi_geq, notB_bool, cvi_int, lenS_mk, lenT_mk, ext0, ext1, ext2, nilP_mk, nilS_mk, fldv_agg, jn0_k, jn1_k, jn2_k, jn1_and, jn1_or, ex_some, Option.isNone_some, Option.isNone_none, Bool.false_bne, Bool.bne_true, Bool.bne_false, Bool.true_bne, Bool.not_true, Bool.not_false, Bool.and_true, Bool.true_and, Bool.and_false, Bool.false_and, Bool.or_true, Bool.true_or, Bool.or_false, Bool.false_or, cond_true, cond_false, List.getElem?_toArray, List.getElem?_cons_zero, List.getElem?_cons_succ, Nat.zero_add, Nat.add_zero, Nat.reduceAdd, forall_const, show ((0 : Int) != 0) = false from rfl]
  refine jn1_dup ?_
  refine cal_i (duInt hd) ?_
  rintro _ _ ⟨rfl, rfl⟩
  simp only [nilc_some, fad_mk, pik_true, pik_false, cnd_true, cnd_false, gif_same, gif_tf, gif_ft, gif_undef, bi_add, bi_sub, bi_mul, bi_eql, bi_neq, bi_lss, bi_leq, bi_gtr, bi_geq, notB_bool, cvi_int, lenS_mk, lenT_mk, ext0, ext1, ext2, nilP_mk, nilS_mk, fldv_agg, jn0_k, jn1_k, jn2_k, jn1_and, jn1_or, ex_some, Option.isNone_some, Option.isNone_none, Bool.false_bne, Bool.bne_true, Bool.bne_false, Bool.true_bne, Bool.not_true, Bool.not_false, Bool.and_true, Bool.true_and, Bool.and_false, Bool.false_and, Bool.or_true, Bool.true_or, Bool.or_false, Bool.false_or, cond_true, cond_false, List.getElem?_toArray, List.getElem?_cons_zero, List.getElem?_cons_succ, Nat.zero_add, Nat.add_zero, Nat.reduceAdd, forall_const, show ((0 : Int) != 0) = false from rfl]
  refine jn1_dup ?_
  refine cal_i (duLong hd) ?_
  rintro _ _ ⟨rfl, rfl⟩
  simp only [nilc_some, fad_mk, pik_true, pik_false, cnd_true, cnd_false, gif_same, gif_tf, gif_ft, gif_undef, bi_add, bi_sub, bi_mul, bi_eql, bi_neq, bi_lss, bi_leq, bi_gtr, bi_geq, notB_bool, cvi_int, lenS_mk, lenT_mk, ext0, ext1, ext2, nilP_mk, nilS_mk, fldv_agg, jn0_k, jn1_k, jn2_k, jn1_and, jn1_or, ex_some, Option.isNone_some, Option.isNone_none, Bool.false_bne, Bool.bne_true, Bool.bne_false, Bool.true_bne, Bool.not_true, Bool.not_false, Bool.and_true, Bool.true_and, Bool.and_false, Bool.false_and, Bool.or_true, Bool.true_or, Bool.or_false, Bool.false_or, cond_true, cond_false, List.getElem?_toArray, List.getElem?_cons_zero, List.getElem?_cons_succ, Nat.zero_add, Nat.add_zero, Nat.reduceAdd, forall_const, show ((0 : Int) != 0) = false from rfl, ld1_eq hg7]
  refine jn1_dup ?_
  refine cal_i (duFixed hd _) ?_
  rintro _ _ ⟨rfl, rfl⟩
  simp only [nilc_some, fad_mk, pik_true, pik_false, cnd_true, cnd_false, gif_same, gif_tf, gif_ft, gif_undef, bi_add, bi_sub, bi_mul, bi_eql, bi_neq, bi_lss, bi_leq, bi_gtr, bi_geq, notB_bool, cvi_int, lenS_mk, lenT_mk, ext0, ext1, ext2, nilP_mk, nilS_mk, fldv_agg, jn0_k, jn1_k, jn2_k, jn1_and, jn1_or, ex_some, Option.isNone_some, Option.isNone_none, Bool.false_bne, Bool.bne_true, Bool.bne_false, Bool.true_bne, Bool.not_true, Bool.not_false, Bool.and_true, Bool.true_and, Bool.and_false, Bool.false_and, Bool.or_true, Bool.true_or, Bool.or_false, Bool.false_or, cond_true, cond_false, List.getElem?_toArray, List.getElem?_cons_zero, List.getElem?_cons_succ, Nat.zero_add, Nat.add_zero, Nat.reduceAdd, forall_const, show (((0 : Nat) : Int) != 0) = false from rfl, ld1_eq hg7]
  refine jn1_dup ?_
  refine cal_i (duBytes hd _) ?_
  rintro _ _ ⟨rfl, rfl⟩
  simp only [nilc_some, fad_mk, pik_true, pik_false, cnd_true, cnd_false, gif_same, gif_tf, gif_ft, gif_undef, bi_add, bi_sub, bi_mul, bi_eql, bi_neq, bi_lss, bi_leq, bi_gtr, bi_geq, notB_bool, cvi_int, lenS_mk, lenT_mk, ext0, ext1, ext2, nilP_mk, nilS_mk, fldv_agg, jn0_k, jn1_k, jn2_k, jn1_and, jn1_or, ex_some, Option.isNone_some, Option.isNone_none, Bool.false_bne, Bool.bne_true, Bool.bne_false, Bool.true_bne, Bool.not_true, Bool.not_false, Bool.and_true, Bool.true_and, Bool.and_false, Bool.false_and, Bool.or_true, Bool.true_or, Bool.or_false, Bool.false_or, cond_true, cond_false, List.getElem?_toArray, List.getElem?_cons_zero, List.getElem?_cons_succ, Nat.zero_add, Nat.add_zero, Nat.reduceAdd, forall_const, show (((0 : Nat) : Int) != 0) = false from rfl, ld1_eq hg7]
  refine jn1_dup ?_
  refine cal_i (duText hd _) ?_
  rintro _ _ ⟨rfl, rfl⟩
  have hne : ∀ (w7 : World) (K : Value → Prop), rdP P (eqS BinOp.neq T_string (Operand.tmp 98) (Operand.const (Value.string { data := #[] })) (Value.string { data := #[] }) (Value.string { data := #[] })) w7 K = K (.bool false) := fun w7 K => neS_str [] [] K
  simp only [hne, nilc_some, fad_mk, pik_true, pik_false, cnd_true, cnd_false, gif_same, gif_tf, gif_ft, gif_undef, bi_add, bi_sub, bi_mul, bi_eql, bi_neq, bi_lss, bi_leq, bi_gtr, bi_geq, notB_bool, cvi_int, lenS_mk, lenT_mk, ext0, ext1, ext2, nilP_mk, nilS_mk, fldv_agg, jn0_k, jn1_k, jn2_k, jn1_and, jn1_or, ex_some, Option.isNone_some, Option.isNone_none, Bool.false_bne, Bool.bne_true, Bool.bne_false, Bool.true_bne, Bool.not_true, Bool.not_false, Bool.and_true, Bool.true_and, Bool.and_false, Bool.false_and, Bool.or_true, Bool.true_or, Bool.or_false, Bool.false_or, cond_true, cond_false, List.getElem?_toArray, List.getElem?_cons_zero, List.getElem?_cons_succ, Nat.zero_add, Nat.add_zero, Nat.reduceAdd, forall_const]
  refine jn1_dup ?_
  refine cal_i (duRest hd) ?_
  rintro _ _ ⟨rfl, rfl⟩
  simp only [nilc_some, fad_mk, pik_true, pik_false, cnd_true, cnd_false, gif_same, gif_tf, gif_ft, gif_undef, bi_add, bi_sub, bi_mul, bi_eql, bi_neq, bi_lss, bi_leq, bi_gtr, bi_geq, notB_bool, cvi_int, lenS_mk, lenT_mk, ext0, ext1, ext2, nilP_mk, nilS_mk, fldv_agg, jn0_k, jn1_k, jn2_k, jn1_and, jn1_or, ex_some, Option.isNone_some, Option.isNone_none, Bool.false_bne, Bool.bne_true, Bool.bne_false, Bool.true_bne, Bool.not_true, Bool.not_false, Bool.and_true, Bool.true_and, Bool.and_false, Bool.false_and, Bool.or_true, Bool.true_or, Bool.or_false, Bool.false_or, cond_true, cond_false, List.getElem?_toArray, List.getElem?_cons_zero, List.getElem?_cons_succ, Nat.zero_add, Nat.add_zero, Nat.reduceAdd, forall_const, show ((0 : Int) != 0) = false from rfl]
  refine jn1_dup ?_
  refine cal_i (duErr hd) ?_
  rintro _ _ ⟨rfl, rfl⟩
  simp only [nilc_some, fad_mk, pik_true, pik_false, cnd_true, cnd_false, gif_same, gif_tf, gif_ft, gif_undef, bi_add, bi_sub, bi_mul, bi_eql, bi_neq, bi_lss, bi_leq, bi_gtr, bi_geq, notB_bool, cvi_int, lenS_mk, lenT_mk, ext0, ext1, ext2, nilP_mk, nilS_mk, fldv_agg, jn0_k, jn1_k, jn2_k, jn1_and, jn1_or, ex_some, Option.isNone_some, Option.isNone_none, Bool.false_bne, Bool.bne_true, Bool.bne_false, Bool.true_bne, Bool.not_true, Bool.not_false, Bool.and_true, Bool.true_and, Bool.and_false, Bool.false_and, Bool.or_true, Bool.true_or, Bool.or_false, Bool.false_or, cond_true, cond_false, List.getElem?_toArray, List.getElem?_cons_zero, List.getElem?_cons_succ, Nat.zero_add, Nat.add_zero, Nat.reduceAdd, forall_const, show ((2 : Int) != 2) = false from rfl]
  refine jn1_dup ?_
  refine cal_i (duEnd hd) ?_
  rintro _ _ ⟨rfl, rfl⟩
  simp only [nilc_some, fad_mk, pik_true, pik_false, cnd_true, cnd_false, gif_same, gif_tf, gif_ft, gif_undef, bi_add, bi_sub, bi_mul, bi_eql, bi_neq, bi_lss, bi_leq, bi_gtr, bi_geq, notB_bool, cvi_int, lenS_mk, lenT_mk, ext0, ext1, ext2, nilP_mk, nilS_mk, fldv_agg, jn0_k, jn1_k, jn2_k, jn1_and, jn1_or, ex_some, Option.isNone_some, Option.isNone_none, Bool.false_bne, Bool.bne_true, Bool.bne_false, Bool.true_bne, Bool.not_true, Bool.not_false, Bool.and_true, Bool.true_and, Bool.and_false, Bool.false_and, Bool.or_true, Bool.true_or, Bool.or_false, Bool.false_or, cond_true, cond_false, List.getElem?_toArray, List.getElem?_cons_zero, List.getElem?_cons_succ, Nat.zero_add, Nat.add_zero, Nat.reduceAdd, forall_const, show ((2 : Int) != 2) = false from rfl]
  rw [wi64 (by omega) (by omega)]
  exact ⟨⟨i + 1, by omega, by simp, trivial⟩, by simp [RowKit.intOf]; omega⟩
end Go.Fx
namespace Go.Proofs.Ytamjngkjpalchaa
open Go.ChangeShapes Go.WideShapes Go.ChangeAt Go.RowKit
set_option maxRecDepth 100000 in
theorem liftedPackNone (os : Os) (started : os.Started) (H : Type) (enc : TypeId × Value → H) :
    ReturnsInHanded {} Try.checked os 6 .any (Rows.packNoneSpec.pre6 enc Try.prog Try.f6 Rows.packNoneRow.domain false) (Rows.packNoneSpec.post enc Try.prog Try.f6 false true false false) := by
  refine returnsInHanded_of_change (C := Try.checked) own started (by kernel_rfl) Try.func6
    (ChangeSpec.witness6 (enc := enc) (C := Try.checked) false ⟨#[], #[.agg #[.int .i64 0,.int .u64 0,.slice none 0 0,.int .i64 0]], []⟩ 8 (by kernel_rfl) (by kernel_rfl) (by kernel_rfl) (by kernel_rfl)) ?_
  intro W base args ds gs before hval0 hW hcnd _
  have hval : ∀ (j : Nat) t v, Try.f6.params[j]? = some t → args[j]? = some v → Value.okWide Try.prog W .any base t v := hval0
  have hW' := hW
  obtain ⟨p, q, hA0, hV, rfl, hfz, hnd⟩ := hW
  have hA : DataW.TrodAll enc Try.prog W 0 (fun _ => true) true Try.f6.params.toList args.toList ds p := hA0
  rw [Try.params6] at hA hval
  obtain ⟨v0, vs0, d0, ds0, p0, q0, hargs, rfl, rfl, h0, r0⟩ := trodAll_cons hA
  obtain ⟨rfl, rfl, rfl⟩ := trodAll_nil r0
  obtain rfl : args = #[v0] := by cases args; simp_all
  obtain ⟨rfl, rfl⟩ := trodVars_none hV
  obtain ⟨cs0, rfl, sz0⟩ := okWide_struct Try.underlying30 (hval 0 30 v0 rfl rfl)
  have k0 := h0
  have lt0 : ∀ x ∈ p0, x.block < W.heap.size := by obtain ⟨m, hm⟩ := k0; exact DataW.trod_lt m _ _ _ hm
  obtain ⟨f0, hf0⟩ := h0
  obtain ⟨l0, rd0⟩ := Go.Fx.trod_itemA hf0
  clear hA0 hval0
  refine Calls.mono (Go.Fx.PackNone_walk rd0) fun e W' ⟨v, he, hv, hf⟩ => ?_
  subst hv
  subst he
  have bel : Below W.heap.size W W' := hf.below (by simp)
  exact ⟨_, rfl, _, _, _, [], _, [], hW', trodAll_mk1 (shut_bool Try.underlying4 _), (trodAll_cons_mk (Below.trod laidOut (by kernel_rfl) (of_decide_eq_true (by kernel_rfl)) k0 bel lt0) trodAll_mk0), rfl, bel.frame _, fun h => by cases h⟩
theorem packNone : Rows.PackNoneSaid :=
  OpenClaim.holds_of_wide 6 Try.f6 rfl rfl rfl rfl rfl rfl rfl ⟨rfl, rfl, rfl, rfl, rfl⟩ rfl rfl rfl rfl rfl (by kernel_rfl) Try.func6 (by kernel_rfl)
    (of_decide_eq_true (by kernel_rfl)) (by unfold Func.isWrapper; first | (rw [if_pos (by decide +kernel)]; kernel_rfl) | (rw [if_neg (by decide +kernel)]; exact ⟨rfl, rfl⟩))
    (fun os started H enc _ => liftedPackNone os started H enc)
#print axioms packNone
end Go.Proofs.Ytamjngkjpalchaa
