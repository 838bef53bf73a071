/-
  The reference's packer (flurryref01): the same in other memory.
-/
import Derived.Test.YtamjngkjpalchaaPkA
set_option linter.unusedVariables false
set_option linter.unusedSimpArgs false
namespace Go.Fx
def IsRf (h : Heap) (p : Value) (x : Pk) (F : List Nat) : Prop :=
  ∃ g s E G, p = .pointer (some ⟨g, 0, none⟩) ∧ h[g]? = some (.cells #[s, .int .i64 x.limit, .int .i64 x.e] E (0, 0)) ∧ OwnB h s x.b G ∧ g ∉ G ∧ F = g :: G ∧ x.made = true
theorem IsRf.lt {h : Heap} {p : Value} {x : Pk} {F : List Nat} (hp : IsRf h p x F) : ∀ k ∈ F, k < h.size := by
  obtain ⟨g, s, E, G, rfl, hg, ho, hn, rfl, hm⟩ := hp
  intro k hk
  rcases List.mem_cons.1 hk with rfl | hk
  · exact lt_of_blk hg
  · exact Own.lt ho k hk
theorem IsRf.fr {F G : List Nat} {w w' : World} {p : Value} {x : Pk} (hp : IsRf w.heap p x F) (hf : Fr G w w') (hd : ∀ k ∈ F, k ∉ G) : IsRf w'.heap p x F := by
  obtain ⟨g, s, E, G', rfl, hg, ho, hn, rfl, hm⟩ := hp
  exact ⟨g, s, E, G', rfl, hf.blk hg (hd g (by simp)), ho.fr hf fun k hk => hd k (by simp [hk]), hn, rfl, hm⟩
def RefQ (p : Value) (x : Pk) (F : List Nat) (w : World) (v : Value) (w' : World) : Prop := v = .tuple #[] ∧ ∃ F', IsRf w'.heap p x F' ∧ Fr F w w' ∧ Grew w F F'
theorem rNum_spec {w : World} {n v : Nat} (hn : n ≤ 8) (hv : v < 18446744073709551616) :
    cal P f_ref01_Num [.int .i64 n, .int .u64 v] w fun r w' => ∃ g, r = .slice (some ⟨g, 0, none⟩) n n ∧ OwnB w'.heap r (be n v) [g] ∧ Fr [] w w' ∧ w.heap.size ≤ g := by
  refine s_ref01_Num fun R hR => ?_
  unfold c_ref01_Num
  refine mkB ST_bytes ZC_uint8 (by omega) fun w1 g hg ho hf => ?_
  simp (disch := omega) only [nilc_some, fad_mk, pik_true, pik_false, cnd_true, cnd_false, gif_same, gif_tf, gif_ft, gif_undef, bi_add, bi_sub, bi_mul, bi_eql, bi_neq, bi_lss, bi_leq, bi_gtr, bi_geq, notB_bool, cvi_int, lenS_mk, lenT_mk, ext0, ext1, ext2, nilP_mk, nilS_mk, fldv_agg, jn0_k, jn1_k, jn2_k, jn1_and, jn1_or, ex_some, Option.isNone_some, Option.isNone_none, Bool.false_bne, Bool.bne_true, Bool.bne_false, Bool.true_bne, Bool.not_true, Bool.not_false, Bool.and_true, Bool.true_and, Bool.and_false, Bool.false_and, Bool.or_true, Bool.true_or, Bool.or_false, Bool.false_or, cond_true, cond_false, List.getElem?_toArray, List.getElem?_cons_zero, List.getElem?_cons_succ, Nat.zero_add, Nat.add_zero, Nat.reduceAdd, forall_const, wi64]
  refine ⟨fun a b w2 => ∃ i : Nat, i ≤ n ∧ a = .int .u64 ((v / 256 ^ i : Nat) : Int) ∧ b = .int .i64 ((n : Int) - 1 - i) ∧ OwnB w2.heap (.slice (some ⟨g, 0, none⟩) n n) (List.replicate (n - i) 0 ++ be i v) [g] ∧ Fr [] w w2,
    fun _ b _ => (RowKit.intOf b + 1).toNat, ⟨0, by omega, by simp, by simp, by simpa [be] using ho, hf⟩, ?_⟩
  rintro _ _ w2 ⟨i, hi, rfl, rfl, ho2, hf2⟩ -
  simp only [nilc_some, fad_mk, pik_true, pik_false, cnd_true, cnd_false, gif_same, gif_tf, gif_ft, gif_undef, bi_add, bi_sub, bi_mul, bi_eql, bi_neq, bi_lss, bi_leq, bi_gtr, bi_geq, notB_bool, cvi_int, lenS_mk, lenT_mk, ext0, ext1, ext2, nilP_mk, nilS_mk, fldv_agg, jn0_k, jn1_k, jn2_k, jn1_and, jn1_or, ex_some, Option.isNone_some, Option.isNone_none, Bool.false_bne, Bool.bne_true, Bool.bne_false, Bool.true_bne, Bool.not_true, Bool.not_false, Bool.and_true, Bool.true_and, Bool.and_false, Bool.false_and, Bool.or_true, Bool.true_or, Bool.or_false, Bool.false_or, cond_true, cond_false, List.getElem?_toArray, List.getElem?_cons_zero, List.getElem?_cons_succ, Nat.zero_add, Nat.add_zero, Nat.reduceAdd, forall_const]
  rw [cnd_bool]
  refine ⟨fun h => ?_, fun h => ?_⟩
  · have hlt : i < n := by simp at h; omega
    have hvi : v / 256 ^ i < 18446744073709551616 := Nat.lt_of_le_of_lt (Nat.div_le_self _ _) hv
    have e0 : (n : Int) - 1 - i = ((n - 1 - i : Nat) : Int) := by omega
    have e1 : ((v / 256 ^ i : Nat) : Int).tmod 256 = ((v / 256 ^ i % 256 : Nat) : Int) := tmodn _ 256
    have e2 : ((v / 256 ^ i : Nat) : Int).tdiv 256 = ((v / 256 ^ (i + 1) : Nat) : Int) := by
      rw [Nat.pow_succ, ← Nat.div_div_eq_div_mul]; exact tdivn _ 256
    rw [bi_rem _ _ _ _ (by omega), e1]
    simp only [cvi_int]
    rw [bv_of _ (by omega), Int.toNat_natCast, e0]
    have e4 : UInt8.ofNat (v / 256 ^ i % 256) = UInt8.ofNat (v / 256 ^ i) := by
      apply UInt8.toNat_inj.1
      simp
    rw [e4]
    refine stxB ho2 (by simp [be_length]; omega) _ fun w3 ho3 hf3 => ?_
    rw [bi_quo _ _ _ _ (by omega), e2]
    have hvi2 : v / 256 ^ (i + 1) < 18446744073709551616 := Nat.lt_of_le_of_lt (Nat.div_le_self _ _) hv
    rw [wu64i (Int.natCast_nonneg _) (by omega), wi64 (by omega) (by omega)]
    refine ⟨⟨i + 1, by omega, rfl, by simp; omega, ?_, hf2.trans hf3 (by simp) (by simp; omega)⟩, by simp [RowKit.intOf]⟩
    have e3 : (List.replicate (n - i) (0 : UInt8) ++ be i v).set (n - 1 - i) (UInt8.ofNat (v / 256 ^ i)) = List.replicate (n - (i + 1)) 0 ++ be (i + 1) v := by
      rw [show n - i = (n - (i + 1)) + 1 by omega, List.replicate_succ', List.append_assoc, List.set_append_right _ _ (by simp; omega), be_cons]
      congr 1
      rw [show n - 1 - i - (List.replicate (n - (i + 1)) (0 : UInt8)).length = 0 by simp; omega]
      rfl
    rw [← e3]
    exact ho3
  · have hlt : ¬ i < n := by simp at h; omega
    obtain rfl : i = n := by omega
    exact hR _ _ ⟨g, rfl, by simpa using ho2, hf2, by omega⟩

theorem rFixed_spec {w : World} {p hb : Value} {x : Pk} {F : List Nat} {b : List UInt8} (hp : IsRf w.heap p x F) (hok : x.Ok) (hrb : RdB w.heap hb b) (hob : Off hb F) : cal P f_ref01_Packer_Fixed [p, hb] w (RefQ p (x.add b) F w) := by
  refine s_ref01_Packer_Fixed fun R hR => ?_
  unfold c_ref01_Packer_Fixed
  obtain ⟨g, s, E, G, rfl, hg, ho, hn, rfl, hm⟩ := hp
  have hlt := lt_of_blk hg
  simp only [nilc_some, fad_mk, pik_true, pik_false, cnd_true, cnd_false, gif_same, gif_tf, gif_ft, gif_undef, bi_add, bi_sub, bi_mul, bi_eql, bi_neq, bi_lss, bi_leq, bi_gtr, bi_geq, notB_bool, cvi_int, lenS_mk, lenT_mk, ext0, ext1, ext2, nilP_mk, nilS_mk, fldv_agg, jn0_k, jn1_k, jn2_k, jn1_and, jn1_or, ex_some, Option.isNone_some, Option.isNone_none, Bool.false_bne, Bool.bne_true, Bool.bne_false, Bool.true_bne, Bool.not_true, Bool.not_false, Bool.and_true, Bool.true_and, Bool.and_false, Bool.false_and, Bool.or_true, Bool.true_or, Bool.or_false, Bool.false_or, cond_true, cond_false, List.getElem?_toArray, List.getElem?_cons_zero, List.getElem?_cons_succ, Nat.zero_add, Nat.add_zero, Nat.reduceAdd, forall_const, drw, ld1_eq hg, hrb.len, ho.rd.len]
  have hworks : x.works = (x.e == 0) := by simp [Pk.works, hm]
  cases he : (x.e == 0) with
  | false =>
    have he' : x.e ≠ 0 := by simpa using he
    simp only [nilc_some, fad_mk, pik_true, pik_false, cnd_true, cnd_false, gif_same, gif_tf, gif_ft, gif_undef, bi_add, bi_sub, bi_mul, bi_eql, bi_neq, bi_lss, bi_leq, bi_gtr, bi_geq, notB_bool, cvi_int, lenS_mk, lenT_mk, ext0, ext1, ext2, nilP_mk, nilS_mk, fldv_agg, jn0_k, jn1_k, jn2_k, jn1_and, jn1_or, ex_some, Option.isNone_some, Option.isNone_none, Bool.false_bne, Bool.bne_true, Bool.bne_false, Bool.true_bne, Bool.not_true, Bool.not_false, Bool.and_true, Bool.true_and, Bool.and_false, Bool.false_and, Bool.or_true, Bool.true_or, Bool.or_false, Bool.false_or, cond_true, cond_false, List.getElem?_toArray, List.getElem?_cons_zero, List.getElem?_cons_succ, Nat.zero_add, Nat.add_zero, Nat.reduceAdd, forall_const, ld1_eq hg]
    rw [cnd_bool]
    refine ⟨fun h => absurd (by simpa using h) he', fun _ => ?_⟩
    refine hR _ _ ⟨rfl, g :: G, ?_, (Fr.refl _ _).drew _, Grew.refl _ _⟩
    rw [Pk.add, hworks, he]
    exact ⟨g, s, E, G, rfl, hg, ho, hn, rfl, hm⟩
  | true =>
    have hw : x.works = true := by rw [hworks, he]
    have he' : x.e = 0 := by simpa using he
    obtain ⟨hl0, hl1, hl2⟩ := hok hw
    have hadd : x.add b = if x.limit - x.b.length < (b.length : Int) then { x with e := 10 } else { x with b := x.b ++ b } := by rw [Pk.add, if_pos hw]
    simp (disch := omega) only [nilc_some, fad_mk, pik_true, pik_false, cnd_true, cnd_false, gif_same, gif_tf, gif_ft, gif_undef, bi_add, bi_sub, bi_mul, bi_eql, bi_neq, bi_lss, bi_leq, bi_gtr, bi_geq, notB_bool, cvi_int, lenS_mk, lenT_mk, ext0, ext1, ext2, nilP_mk, nilS_mk, fldv_agg, jn0_k, jn1_k, jn2_k, jn1_and, jn1_or, ex_some, Option.isNone_some, Option.isNone_none, Bool.false_bne, Bool.bne_true, Bool.bne_false, Bool.true_bne, Bool.not_true, Bool.not_false, Bool.and_true, Bool.true_and, Bool.and_false, Bool.false_and, Bool.or_true, Bool.true_or, Bool.or_false, Bool.false_or, cond_true, cond_false, List.getElem?_toArray, List.getElem?_cons_zero, List.getElem?_cons_succ, Nat.zero_add, Nat.add_zero, Nat.reduceAdd, forall_const, wi64]
    by_cases h : x.limit - x.b.length < (b.length : Int)
    · simp only [h, decide_true, nilc_some, fad_mk, pik_true, pik_false, cnd_true, cnd_false, gif_same, gif_tf, gif_ft, gif_undef, bi_add, bi_sub, bi_mul, bi_eql, bi_neq, bi_lss, bi_leq, bi_gtr, bi_geq, notB_bool, cvi_int, lenS_mk, lenT_mk, ext0, ext1, ext2, nilP_mk, nilS_mk, fldv_agg, jn0_k, jn1_k, jn2_k, jn1_and, jn1_or, ex_some, Option.isNone_some, Option.isNone_none, Bool.false_bne, Bool.bne_true, Bool.bne_false, Bool.true_bne, Bool.not_true, Bool.not_false, Bool.and_true, Bool.true_and, Bool.and_false, Bool.false_and, Bool.or_true, Bool.true_or, Bool.or_false, Bool.false_or, cond_true, cond_false, List.getElem?_toArray, List.getElem?_cons_zero, List.getElem?_cons_succ, Nat.zero_add, Nat.add_zero, Nat.reduceAdd, forall_const]
      refine ⟨fun w' => ∃ w1 : World, w1.heap = w.heap ∧ Fr [] w w1 ∧ w'.heap[g]? = some (.cells #[s, .int .i64 x.limit, .int .i64 10] E (0, 0)) ∧ Fr [g] w w', ?_, ?_⟩
      · refine st1_i hg (by simp) rfl fun w' hg' hf => ⟨w, rfl, Fr.refl _ _, hg', hf.ofDrew⟩
      · rintro w' ⟨w1, -, -, hg', hf⟩ -
        simp only [nilc_some, fad_mk, pik_true, pik_false, cnd_true, cnd_false, gif_same, gif_tf, gif_ft, gif_undef, bi_add, bi_sub, bi_mul, bi_eql, bi_neq, bi_lss, bi_leq, bi_gtr, bi_geq, notB_bool, cvi_int, lenS_mk, lenT_mk, ext0, ext1, ext2, nilP_mk, nilS_mk, fldv_agg, jn0_k, jn1_k, jn2_k, jn1_and, jn1_or, ex_some, Option.isNone_some, Option.isNone_none, Bool.false_bne, Bool.bne_true, Bool.bne_false, Bool.true_bne, Bool.not_true, Bool.not_false, Bool.and_true, Bool.true_and, Bool.and_false, Bool.false_and, Bool.or_true, Bool.true_or, Bool.or_false, Bool.false_or, cond_true, cond_false, List.getElem?_toArray, List.getElem?_cons_zero, List.getElem?_cons_succ, Nat.zero_add, Nat.add_zero, Nat.reduceAdd, forall_const, ld1_eq hg', show ((10 : Int) == 0) = false from rfl]
        refine hR _ _ ⟨rfl, g :: G, ?_, hf.sub (by simp), Grew.refl _ _⟩
        rw [hadd, if_pos h]
        exact ⟨g, s, E, G, rfl, hg', ho.fr hf (by simpa using fun k hk (hh : k = g) => hn (hh ▸ hk)), hn, rfl, hm⟩
    · simp only [h, decide_false, nilc_some, fad_mk, pik_true, pik_false, cnd_true, cnd_false, gif_same, gif_tf, gif_ft, gif_undef, bi_add, bi_sub, bi_mul, bi_eql, bi_neq, bi_lss, bi_leq, bi_gtr, bi_geq, notB_bool, cvi_int, lenS_mk, lenT_mk, ext0, ext1, ext2, nilP_mk, nilS_mk, fldv_agg, jn0_k, jn1_k, jn2_k, jn1_and, jn1_or, ex_some, Option.isNone_some, Option.isNone_none, Bool.false_bne, Bool.bne_true, Bool.bne_false, Bool.true_bne, Bool.not_true, Bool.not_false, Bool.and_true, Bool.true_and, Bool.and_false, Bool.false_and, Bool.or_true, Bool.true_or, Bool.or_false, Bool.false_or, cond_true, cond_false, List.getElem?_toArray, List.getElem?_cons_zero, List.getElem?_cons_succ, Nat.zero_add, Nat.add_zero, Nat.reduceAdd, forall_const, ld1_eq hg, he]
      refine appB ST_bytes UT_bytes (by simp) (w := { w with drawn := _ }) ho hrb (by omega) fun s1 w1 G1 ho1 hf1 hG1 => ?_
      have hg1 := hf1.ofDrew.blk hg hn
      have hn1 : g ∉ G1 := hG1.not hn hlt
      have hs1 : s1.oneCell' = true := by obtain ⟨_, _, rfl⟩ := Own.slice ho1; rfl
      refine st1_i hg1 (by simp) hs1 fun w2 hg2 hf2 => ?_
      refine hR _ _ ⟨rfl, g :: G1, ?_, (hf1.ofDrew.sub (G := g :: G) (by simp +contextual)).trans hf2 (fun i hi => .inl hi) (by simp), Grew.cons (w := w) hG1 g⟩
      rw [hadd, if_neg h]
      exact ⟨g, s1, E, G1, rfl, hg2, ho1.fr hf2 (by simpa using fun k hk (hh : k = g) => hn1 (hh ▸ hk)), hn1, rfl, hm⟩
theorem rNumP_spec {w : World} {p : Value} {x : Pk} {F : List Nat} {n v : Nat} (hp : IsRf w.heap p x F) (hok : x.Ok) (hn : n ≤ 8) (hv : v < 18446744073709551616) :
    cal P f_ref01_Packer_Num [p, .int .i64 n, .int .u64 v] w (RefQ p (x.add (be n v)) F w) := by
  refine s_ref01_Packer_Num fun R hR => ?_
  unfold c_ref01_Packer_Num
  refine cal_i (rNum_spec hn hv) ?_
  rintro t w1 ⟨g, rfl, ho, hf, hg⟩
  refine cal_i (rFixed_spec (hp.fr hf (by simp)) hok ho.rd (Own.off ho ?_)) ?_
  · intro k hk hm
    have := hp.lt k hm
    simp at hk
    omega
  · rintro _ w2 ⟨rfl, F', h1, h2, h3⟩
    exact hR _ _ ⟨rfl, F', h1, hf.trans h2 (by simp) fun i hi => .inl hi, fun k hk => (h3 k hk).imp id fun hh => Nat.le_trans hf.size hh⟩
theorem rBytes_spec {w : World} {p hb : Value} {x : Pk} {F : List Nat} {b : List UInt8} (hp : IsRf w.heap p x F) (hok : x.Ok) (hrb : RdB w.heap hb b) (hl : b.length ≤ 140737488355324) :
    cal P f_ref01_Packer_Bytes [p, hb] w (RefQ p (x.add (be 4 b.length ++ b)) F w) := by
  refine s_ref01_Packer_Bytes fun R hR => ?_
  unfold c_ref01_Packer_Bytes
  simp (disch := omega) only [nilc_some, fad_mk, pik_true, pik_false, cnd_true, cnd_false, gif_same, gif_tf, gif_ft, gif_undef, bi_add, bi_sub, bi_mul, bi_eql, bi_neq, bi_lss, bi_leq, bi_gtr, bi_geq, notB_bool, cvi_int, lenS_mk, lenT_mk, ext0, ext1, ext2, nilP_mk, nilS_mk, fldv_agg, jn0_k, jn1_k, jn2_k, jn1_and, jn1_or, ex_some, Option.isNone_some, Option.isNone_none, Bool.false_bne, Bool.bne_true, Bool.bne_false, Bool.true_bne, Bool.not_true, Bool.not_false, Bool.and_true, Bool.true_and, Bool.and_false, Bool.false_and, Bool.or_true, Bool.true_or, Bool.or_false, Bool.false_or, cond_true, cond_false, List.getElem?_toArray, List.getElem?_cons_zero, List.getElem?_cons_succ, Nat.zero_add, Nat.add_zero, Nat.reduceAdd, forall_const, hrb.len, wu64i]
  refine cal_i (rNum_spec (n := 4) (by omega) (by omega)) ?_
  rintro t w1 ⟨g, rfl, ho, hf, hg⟩
  refine appB ST_bytes UT_bytes (by simp) ho (hrb.fr hf (off_nil _)) (by rw [be_length]; omega) fun s1 w2 G1 ho1 hf1 hG1 => ?_
  have hf2 : Fr [] w w2 := hf.trans hf1 (by simp) (by simp; omega)
  refine cal_i (rFixed_spec (hp.fr hf2 (by simp)) hok ho1.rd (Own.off ho1 ?_)) ?_
  · intro k hk hm
    have h1 := hp.lt k hm
    have h2 := hG1 k hk
    have h3 := hf.size
    simp at h2
    omega
  · rintro _ w3 ⟨rfl, F', h1, h2, h3⟩
    exact hR _ _ ⟨rfl, F', h1, hf2.trans h2 (by simp) fun i hi => .inl hi, fun k hk => (h3 k hk).imp id fun hh => Nat.le_trans hf2.size hh⟩
end Go.Fx
