/-
  The reference's unpacker.
-/
import Derived.Test.YtamjngkjpalchaaLwD
set_option linter.unusedVariables false
set_option linter.unusedSimpArgs false
namespace Go.Fx
theorem max_int {P : Program} {t : Array TypeId} {t' : TypeId} {w : World} {k : IntKind} (a b : Int) (K : Value → Prop) : rdP P (Builtin.max_ t t' #[.int k a, .int k b]) w K = K (.int k (max a b)) := by
  refine rdP_eq ?_ K
  simp [Builtin.max_, Builtin.max2]
  omega
def IsRu (h : Heap) (g : Nat) (x : Up) (G : List Nat) : Prop :=
  ∃ s E, h[g]? = some (.cells #[s, .int .i64 x.e] E (0, 0)) ∧ OwnB h s x.b G ∧ g ∉ G ∧ x.made = true ∧ x.b.length ≤ 281474976710656
theorem IsRu.lt {h : Heap} {g : Nat} {x : Up} {G : List Nat} (hp : IsRu h g x G) : ∀ k ∈ g :: G, k < h.size := by
  obtain ⟨s, E, hg, ho, hn, hm⟩ := hp
  intro k hk
  rcases List.mem_cons.1 hk with rfl | hk
  · exact lt_of_blk hg
  · exact Own.lt ho k hk
theorem IsRu.fr {G H : List Nat} {w w' : World} {g : Nat} {x : Up} (hp : IsRu w.heap g x G) (hf : Fr H w w') (hd : ∀ k ∈ g :: G, k ∉ H) : IsRu w'.heap g x G := by
  obtain ⟨s, E, hg, ho, hn, hm⟩ := hp
  exact ⟨s, E, hf.blk hg (hd g (by simp)), ho.fr hf fun k hk => hd k (by simp [hk]), hn, hm⟩
def RTakeQ (g : Nat) (r : Up × List UInt8) (G : List Nat) (w : World) (v : Value) (w' : World) : Prop := IsRu w'.heap g r.1 G ∧ Fr [g] w w' ∧ RdB w'.heap v r.2
theorem ruFixed_spec {w : World} {g : Nat} {x : Up} {G : List Nat} (hp : IsRu w.heap g x G) (n : Int) : cal P f_ref01_Unpacker_Fixed [.pointer (some ⟨g, 0, none⟩), .int .i64 n] w (RTakeQ g (x.take n) G w) := by
  refine s_ref01_Unpacker_Fixed fun R hR => ?_
  unfold c_ref01_Unpacker_Fixed
  obtain ⟨s, E, hg, ho, hn, hm, hbl⟩ := hp
  have hworks : x.works = (x.e == 0) := by simp [Up.works, hm]
  have hdG : ∀ k ∈ G, k ∉ [g] := by simpa using fun k hk (he : k = g) => hn (he ▸ hk)
  simp only [nilc_some, fad_mk, pik_true, pik_false, cnd_true, cnd_false, gif_same, gif_tf, gif_ft, gif_undef, bi_add, bi_sub, bi_mul, bi_eql, bi_neq, bi_lss, bi_leq, bi_gtr, bi_geq, notB_bool, cvi_int, lenS_mk, lenT_mk, ext0, ext1, ext2, nilP_mk, nilS_mk, fldv_agg, jn0_k, jn1_k, jn2_k, jn1_and, jn1_or, ex_some, Option.isNone_some, Option.isNone_none, Bool.false_bne, Bool.bne_true, Bool.bne_false, Bool.true_bne, Bool.not_true, Bool.not_false, Bool.and_true, Bool.true_and, Bool.and_false, Bool.false_and, Bool.or_true, Bool.true_or, Bool.or_false, Bool.false_or, cond_true, cond_false, List.getElem?_toArray, List.getElem?_cons_zero, List.getElem?_cons_succ, Nat.zero_add, Nat.add_zero, Nat.reduceAdd, forall_const, ld1_eq hg]
  cases he : (x.e == 0) with
  | false =>
    have he' : x.e ≠ 0 := by simpa using he
    have hne : (x.e != 0) = true := by simpa using he'
    simp only [nilc_some, fad_mk, pik_true, pik_false, cnd_true, cnd_false, gif_same, gif_tf, gif_ft, gif_undef, bi_add, bi_sub, bi_mul, bi_eql, bi_neq, bi_lss, bi_leq, bi_gtr, bi_geq, notB_bool, cvi_int, lenS_mk, lenT_mk, ext0, ext1, ext2, nilP_mk, nilS_mk, fldv_agg, jn0_k, jn1_k, jn2_k, jn1_and, jn1_or, ex_some, Option.isNone_some, Option.isNone_none, Bool.false_bne, Bool.bne_true, Bool.bne_false, Bool.true_bne, Bool.not_true, Bool.not_false, Bool.and_true, Bool.true_and, Bool.and_false, Bool.false_and, Bool.or_true, Bool.true_or, Bool.or_false, Bool.false_or, cond_true, cond_false, List.getElem?_toArray, List.getElem?_cons_zero, List.getElem?_cons_succ, Nat.zero_add, Nat.add_zero, Nat.reduceAdd, forall_const, ld1_eq hg, he, hne]
    refine hR _ _ ?_
    rw [Up.take, if_neg (by rw [hworks, he]; simp)]
    exact ⟨⟨s, E, hg, ho, hn, hm, hbl⟩, Fr.refl _ _, RdB.nil _ _⟩
  | true =>
    have he0 : x.e = 0 := by simpa using he
    have ht : x.take n = if n < 0 then ({ x with e := 1 }, []) else if (x.b.length : Int) < n then ({ x with e := 11 }, []) else ({ x with b := x.b.drop n.toNat }, x.b.take n.toNat) := by rw [Up.take, if_pos (by rw [hworks, he])]
    simp only [nilc_some, fad_mk, pik_true, pik_false, cnd_true, cnd_false, gif_same, gif_tf, gif_ft, gif_undef, bi_add, bi_sub, bi_mul, bi_eql, bi_neq, bi_lss, bi_leq, bi_gtr, bi_geq, notB_bool, cvi_int, lenS_mk, lenT_mk, ext0, ext1, ext2, nilP_mk, nilS_mk, fldv_agg, jn0_k, jn1_k, jn2_k, jn1_and, jn1_or, ex_some, Option.isNone_some, Option.isNone_none, Bool.false_bne, Bool.bne_true, Bool.bne_false, Bool.true_bne, Bool.not_true, Bool.not_false, Bool.and_true, Bool.true_and, Bool.and_false, Bool.false_and, Bool.or_true, Bool.true_or, Bool.or_false, Bool.false_or, cond_true, cond_false, List.getElem?_toArray, List.getElem?_cons_zero, List.getElem?_cons_succ, Nat.zero_add, Nat.add_zero, Nat.reduceAdd, forall_const]
    refine jn0_dup ?_
    rw [cnd_bool]
    refine ⟨fun h => ?_, fun h => ?_⟩
    · have h : n < 0 := by simpa using h
      refine st1_i hg (by simp) rfl fun w1 hg1 hf1 => ?_
      intro _
      have hg1 : w1.heap[g]? = some (.cells #[s, .int .i64 1] E (0, 0)) := hg1
      simp only [nilc_some, fad_mk, pik_true, pik_false, cnd_true, cnd_false, gif_same, gif_tf, gif_ft, gif_undef, bi_add, bi_sub, bi_mul, bi_eql, bi_neq, bi_lss, bi_leq, bi_gtr, bi_geq, notB_bool, cvi_int, lenS_mk, lenT_mk, ext0, ext1, ext2, nilP_mk, nilS_mk, fldv_agg, jn0_k, jn1_k, jn2_k, jn1_and, jn1_or, ex_some, Option.isNone_some, Option.isNone_none, Bool.false_bne, Bool.bne_true, Bool.bne_false, Bool.true_bne, Bool.not_true, Bool.not_false, Bool.and_true, Bool.true_and, Bool.and_false, Bool.false_and, Bool.or_true, Bool.true_or, Bool.or_false, Bool.false_or, cond_true, cond_false, List.getElem?_toArray, List.getElem?_cons_zero, List.getElem?_cons_succ, Nat.zero_add, Nat.add_zero, Nat.reduceAdd, forall_const, ld1_eq hg1, show ((1 : Int) == 0) = false from rfl, show ((1 : Int) != 0) = true from rfl]
      refine hR _ _ ?_
      rw [ht, if_pos h]
      exact ⟨⟨s, E, hg1, ho.fr hf1 hdG, hn, hm, hbl⟩, hf1, RdB.nil _ _⟩
    have h0 : ¬ n < 0 := by simpa using h
    intro _
    simp only [nilc_some, fad_mk, pik_true, pik_false, cnd_true, cnd_false, gif_same, gif_tf, gif_ft, gif_undef, bi_add, bi_sub, bi_mul, bi_eql, bi_neq, bi_lss, bi_leq, bi_gtr, bi_geq, notB_bool, cvi_int, lenS_mk, lenT_mk, ext0, ext1, ext2, nilP_mk, nilS_mk, fldv_agg, jn0_k, jn1_k, jn2_k, jn1_and, jn1_or, ex_some, Option.isNone_some, Option.isNone_none, Bool.false_bne, Bool.bne_true, Bool.bne_false, Bool.true_bne, Bool.not_true, Bool.not_false, Bool.and_true, Bool.true_and, Bool.and_false, Bool.false_and, Bool.or_true, Bool.true_or, Bool.or_false, Bool.false_or, cond_true, cond_false, List.getElem?_toArray, List.getElem?_cons_zero, List.getElem?_cons_succ, Nat.zero_add, Nat.add_zero, Nat.reduceAdd, forall_const, ld1_eq hg, he, ho.rd.len]
    refine jn0_dup ?_
    rw [cnd_bool]
    refine ⟨fun h => ?_, fun h => ?_⟩
    · have h : (x.b.length : Int) < n := by simpa using h
      refine st1_i hg (by simp) rfl fun w1 hg1 hf1 => ?_
      intro _
      have hg1 : w1.heap[g]? = some (.cells #[s, .int .i64 11] E (0, 0)) := hg1
      simp only [nilc_some, fad_mk, pik_true, pik_false, cnd_true, cnd_false, gif_same, gif_tf, gif_ft, gif_undef, bi_add, bi_sub, bi_mul, bi_eql, bi_neq, bi_lss, bi_leq, bi_gtr, bi_geq, notB_bool, cvi_int, lenS_mk, lenT_mk, ext0, ext1, ext2, nilP_mk, nilS_mk, fldv_agg, jn0_k, jn1_k, jn2_k, jn1_and, jn1_or, ex_some, Option.isNone_some, Option.isNone_none, Bool.false_bne, Bool.bne_true, Bool.bne_false, Bool.true_bne, Bool.not_true, Bool.not_false, Bool.and_true, Bool.true_and, Bool.and_false, Bool.false_and, Bool.or_true, Bool.true_or, Bool.or_false, Bool.false_or, cond_true, cond_false, List.getElem?_toArray, List.getElem?_cons_zero, List.getElem?_cons_succ, Nat.zero_add, Nat.add_zero, Nat.reduceAdd, forall_const, ld1_eq hg1, show ((11 : Int) != 0) = true from rfl]
      refine hR _ _ ?_
      rw [ht, if_neg h0, if_pos h]
      exact ⟨⟨s, E, hg1, ho.fr hf1 hdG, hn, hm, hbl⟩, hf1, RdB.nil _ _⟩
    have h1 : ¬ (x.b.length : Int) < n := by simpa using h
    intro _
    have hne : (x.e != 0) = false := by simp [he0]
    obtain ⟨k, rfl⟩ := Int.eq_ofNat_of_zero_le (show 0 ≤ n by omega)
    simp only [nilc_some, fad_mk, pik_true, pik_false, cnd_true, cnd_false, gif_same, gif_tf, gif_ft, gif_undef, bi_add, bi_sub, bi_mul, bi_eql, bi_neq, bi_lss, bi_leq, bi_gtr, bi_geq, notB_bool, cvi_int, lenS_mk, lenT_mk, ext0, ext1, ext2, nilP_mk, nilS_mk, fldv_agg, jn0_k, jn1_k, jn2_k, jn1_and, jn1_or, ex_some, Option.isNone_some, Option.isNone_none, Bool.false_bne, Bool.bne_true, Bool.bne_false, Bool.true_bne, Bool.not_true, Bool.not_false, Bool.and_true, Bool.true_and, Bool.and_false, Bool.false_and, Bool.or_true, Bool.true_or, Bool.or_false, Bool.false_or, cond_true, cond_false, List.getElem?_toArray, List.getElem?_cons_zero, List.getElem?_cons_succ, Nat.zero_add, Nat.add_zero, Nat.reduceAdd, forall_const, ld1_eq hg, hne]
    refine own_to ho (by omega) fun s1 hs1 hoff => ?_
    refine own_from ho (by omega) fun s2 hs2 hs2o => ?_
    refine st1_i hg (by simp) hs2o fun w1 hg1 hf1 => ?_
    refine hR _ _ ?_
    rw [ht, if_neg h0, if_neg h1, Int.toNat_natCast]
    exact ⟨⟨s2, E, hg1, hs2.fr hf1 hdG, hn, hm, by simp; omega⟩, hf1, hs1.fr hf1 (hoff _ hdG)⟩
theorem ruNum_spec {w : World} {g : Nat} {x : Up} {G : List Nat} (hp : IsRu w.heap g x G) {n : Int} (hn8 : n ≤ 8) : cal P f_ref01_Unpacker_Num [.pointer (some ⟨g, 0, none⟩), .int .i64 n] w fun v w' => v = .int .u64 (ofBe (x.take n).2) ∧ IsRu w'.heap g (x.take n).1 G ∧ Fr [g] w w' := by
  refine s_ref01_Unpacker_Num fun R hR => ?_
  unfold c_ref01_Unpacker_Num
  refine cal_i (ruFixed_spec hp n) ?_
  rintro v w1 ⟨h1, h2, h3⟩
  have hl := take_len x n
  refine cal_i (rVal_spec h3 (by omega)) ?_
  rintro _ _ ⟨rfl, rfl⟩
  exact hR _ _ ⟨rfl, h1, h2⟩
theorem rucounted_spec {w : World} {g : Nat} {x : Up} {G : List Nat} (hp : IsRu w.heap g x G) {head : Nat} (hh : head ≤ 4) {most : Int} (hm0 : most ≤ 9223372036854775807) (hm1 : -9223372036854775808 ≤ most) :
    cal P f_ref01_Unpacker_counted [.pointer (some ⟨g, 0, none⟩), .int .i64 head, .int .i64 most] w (RTakeQ g (x.counted head most) G w) := by
  refine s_ref01_Unpacker_counted fun R hR => ?_
  unfold c_ref01_Unpacker_counted
  have hp0 := hp
  obtain ⟨s, E, hg, ho, hn, hm, hbl⟩ := hp
  have hworks : x.works = (x.e == 0) := by simp [Up.works, hm]
  have hdG : ∀ k ∈ G, k ∉ [g] := by simpa using fun k hk (he : k = g) => hn (he ▸ hk)
  have hso : s.oneCell' = true := by obtain ⟨_, _, rfl⟩ := Own.slice ho; rfl
  -- the last part: bytes are taken, or all is as it was but for the error
  have hfix : ∀ (w2 : World) (y : Up) (n : Int), IsRu w2.heap g y G → Fr [g] w w2 → ((y.take n).1.e ≠ 0 → ({ (y.take n).1 with b := x.b }, ([] : List UInt8)) = x.counted head most) → ((y.take n).1.e = 0 → y.take n = x.counted head most) →
      cal P f_ref01_Unpacker_Fixed [.pointer (some ⟨g, 0, none⟩), .int .i64 n] w2 fun t47 w => ld1 (.pointer (some ⟨g, 1, none⟩)) w.heap fun t51 => bi BinOp.neq t51 (Value.int IntKind.i64 0) fun t52 => cnd t52
        (st1 (.pointer (some ⟨g, 0, none⟩)) s w fun w => R (Value.slice none 0 0) w) (R t47 w) := by
    intro w2 y n hy hfy c1 c2
    refine cal_i (ruFixed_spec hy n) ?_
    rintro v w3 ⟨h1, h2, h3⟩
    have hf3 : Fr [g] w w3 := hfy.trans h2 (fun k hk => .inl hk) (fun k hk => .inl hk)
    obtain ⟨s3, E3, hg3, ho3, hn3, hm3, hbl3⟩ := id h1
    simp only [nilc_some, fad_mk, pik_true, pik_false, cnd_true, cnd_false, gif_same, gif_tf, gif_ft, gif_undef, bi_add, bi_sub, bi_mul, bi_eql, bi_neq, bi_lss, bi_leq, bi_gtr, bi_geq, notB_bool, cvi_int, lenS_mk, lenT_mk, ext0, ext1, ext2, nilP_mk, nilS_mk, fldv_agg, jn0_k, jn1_k, jn2_k, jn1_and, jn1_or, ex_some, Option.isNone_some, Option.isNone_none, Bool.false_bne, Bool.bne_true, Bool.bne_false, Bool.true_bne, Bool.not_true, Bool.not_false, Bool.and_true, Bool.true_and, Bool.and_false, Bool.false_and, Bool.or_true, Bool.true_or, Bool.or_false, Bool.false_or, cond_true, cond_false, List.getElem?_toArray, List.getElem?_cons_zero, List.getElem?_cons_succ, Nat.zero_add, Nat.add_zero, Nat.reduceAdd, forall_const, ld1_eq hg3]
    rw [cnd_bool]
    refine ⟨fun h => ?_, fun h => ?_⟩
    · have h : (y.take n).1.e ≠ 0 := by simpa using h
      refine st1_i hg3 (by simp) hso fun w4 hg4 hf4 => ?_
      refine hR _ _ ?_
      rw [← c1 h]
      have hf4' : Fr [g] w w4 := hf3.trans hf4 (fun k hk => .inl hk) (fun k hk => .inl hk)
      exact ⟨⟨s, E3, hg4, ho.fr hf4' hdG, hn, hm3, hbl⟩, hf4', RdB.nil _ _⟩
    · have h : (y.take n).1.e = 0 := by simpa using h
      refine hR _ _ ?_
      rw [← c2 h]
      exact ⟨h1, hf3, h3⟩
  -- an unpacker with an error
  have hbad : ∀ (w1 : World) (y : Up), IsRu w1.heap g y G → Fr [g] w w1 → y.e ≠ 0 → y.b = x.b → (y, ([] : List UInt8)) = x.counted head most →
      cal P f_ref01_Unpacker_Num [.pointer (some ⟨g, 0, none⟩), .int .i64 head] w1 fun t28 w => jn0 (fun k2 => ld1 (.pointer (some ⟨g, 1, none⟩)) w.heap fun t32 => bi BinOp.eql t32 (Value.int IntKind.i64 0) fun t33 =>
        jn1 (fun k3 => gif t33 true (rdP P (Builtin.max_ #[T_int, T_int] T_int #[.int .i64 most, (Value.int IntKind.i64 0)]) w fun t37 => cvi IntKind.u64 t37 fun t38 => bi BinOp.gtr t28 t38 fun t39 => k3 t39 w) (k3 undef w)) fun _ t39_1 w =>
        pik t33 t39_1 (Value.bool false) fun t40 => cnd t40 (st1 (.pointer (some ⟨g, 1, none⟩)) (Value.int IntKind.i64 3) w fun w => k2 w) (k2 w)) fun _ w =>
        cvi IntKind.i64 t28 fun t46 => cal P f_ref01_Unpacker_Fixed [.pointer (some ⟨g, 0, none⟩), t46] w fun t47 w => ld1 (.pointer (some ⟨g, 1, none⟩)) w.heap fun t51 => bi BinOp.neq t51 (Value.int IntKind.i64 0) fun t52 => cnd t52
        (st1 (.pointer (some ⟨g, 0, none⟩)) s w fun w => R (Value.slice none 0 0) w) (R t47 w) := by
    intro w1 y hy hfy hye hyb hyr
    have hts : ∀ n, y.take n = (y, []) := fun n => by rw [Up.take, if_neg (by simp [Up.works, hye])]
    refine cal_i (ruNum_spec hy (by omega)) ?_
    rintro _ w2 ⟨rfl, h1, h2⟩
    rw [hts] at h1 ⊢
    obtain ⟨s3, E3, hg3, ho3, hn3, hm3, hbl3⟩ := id h1
    have hye' : (y.e == 0) = false := by simpa using hye
    simp only [nilc_some, fad_mk, pik_true, pik_false, cnd_true, cnd_false, gif_same, gif_tf, gif_ft, gif_undef, bi_add, bi_sub, bi_mul, bi_eql, bi_neq, bi_lss, bi_leq, bi_gtr, bi_geq, notB_bool, cvi_int, lenS_mk, lenT_mk, ext0, ext1, ext2, nilP_mk, nilS_mk, fldv_agg, jn0_k, jn1_k, jn2_k, jn1_and, jn1_or, ex_some, Option.isNone_some, Option.isNone_none, Bool.false_bne, Bool.bne_true, Bool.bne_false, Bool.true_bne, Bool.not_true, Bool.not_false, Bool.and_true, Bool.true_and, Bool.and_false, Bool.false_and, Bool.or_true, Bool.true_or, Bool.or_false, Bool.false_or, cond_true, cond_false, List.getElem?_toArray, List.getElem?_cons_zero, List.getElem?_cons_succ, Nat.zero_add, Nat.add_zero, Nat.reduceAdd, forall_const, ld1_eq hg3, hye']
    rw [wi64 (by simp [ofBe]) (by simp [ofBe])]
    refine hfix w2 y _ h1 (hfy.trans h2 (fun k hk => .inl hk) (fun k hk => .inl hk)) (fun _ => ?_) (fun h => ?_)
    · rw [hts, ← hyr, ← hyb]
    · rw [hts] at h
      exact absurd h hye
  simp only [nilc_some, fad_mk, pik_true, pik_false, cnd_true, cnd_false, gif_same, gif_tf, gif_ft, gif_undef, bi_add, bi_sub, bi_mul, bi_eql, bi_neq, bi_lss, bi_leq, bi_gtr, bi_geq, notB_bool, cvi_int, lenS_mk, lenT_mk, ext0, ext1, ext2, nilP_mk, nilS_mk, fldv_agg, jn0_k, jn1_k, jn2_k, jn1_and, jn1_or, ex_some, Option.isNone_some, Option.isNone_none, Bool.false_bne, Bool.bne_true, Bool.bne_false, Bool.true_bne, Bool.not_true, Bool.not_false, Bool.and_true, Bool.true_and, Bool.and_false, Bool.false_and, Bool.or_true, Bool.true_or, Bool.or_false, Bool.false_or, cond_true, cond_false, List.getElem?_toArray, List.getElem?_cons_zero, List.getElem?_cons_succ, Nat.zero_add, Nat.add_zero, Nat.reduceAdd, forall_const, ld1_eq hg]
  cases he : (x.e == 0) with
  | false =>
    have he' : x.e ≠ 0 := by simpa using he
    simp only [nilc_some, fad_mk, pik_true, pik_false, cnd_true, cnd_false, gif_same, gif_tf, gif_ft, gif_undef, bi_add, bi_sub, bi_mul, bi_eql, bi_neq, bi_lss, bi_leq, bi_gtr, bi_geq, notB_bool, cvi_int, lenS_mk, lenT_mk, ext0, ext1, ext2, nilP_mk, nilS_mk, fldv_agg, jn0_k, jn1_k, jn2_k, jn1_and, jn1_or, ex_some, Option.isNone_some, Option.isNone_none, Bool.false_bne, Bool.bne_true, Bool.bne_false, Bool.true_bne, Bool.not_true, Bool.not_false, Bool.and_true, Bool.true_and, Bool.and_false, Bool.false_and, Bool.or_true, Bool.true_or, Bool.or_false, Bool.false_or, cond_true, cond_false, List.getElem?_toArray, List.getElem?_cons_zero, List.getElem?_cons_succ, Nat.zero_add, Nat.add_zero, Nat.reduceAdd, forall_const, ld1_eq hg]
    have := hbad w x hp0 (Fr.refl _ _) he' rfl (by rw [Up.counted, if_neg (by rw [hworks, he]; simp)])
    try simp only [nilc_some, fad_mk, pik_true, pik_false, cnd_true, cnd_false, gif_same, gif_tf, gif_ft, gif_undef, bi_add, bi_sub, bi_mul, bi_eql, bi_neq, bi_lss, bi_leq, bi_gtr, bi_geq, notB_bool, cvi_int, lenS_mk, lenT_mk, ext0, ext1, ext2, nilP_mk, nilS_mk, fldv_agg, jn0_k, jn1_k, jn2_k, jn1_and, jn1_or, ex_some, Option.isNone_some, Option.isNone_none, Bool.false_bne, Bool.bne_true, Bool.bne_false, Bool.true_bne, Bool.not_true, Bool.not_false, Bool.and_true, Bool.true_and, Bool.and_false, Bool.false_and, Bool.or_true, Bool.true_or, Bool.or_false, Bool.false_or, cond_true, cond_false, List.getElem?_toArray, List.getElem?_cons_zero, List.getElem?_cons_succ, Nat.zero_add, Nat.add_zero, Nat.reduceAdd, forall_const] at this
    exact this
  | true =>
    have he0 : x.e = 0 := by simpa using he
    have hw : x.works = true := by rw [hworks, he]
    have ht := show x.counted head most = _ from by rw [Up.counted, if_pos hw]
    simp only [nilc_some, fad_mk, pik_true, pik_false, cnd_true, cnd_false, gif_same, gif_tf, gif_ft, gif_undef, bi_add, bi_sub, bi_mul, bi_eql, bi_neq, bi_lss, bi_leq, bi_gtr, bi_geq, notB_bool, cvi_int, lenS_mk, lenT_mk, ext0, ext1, ext2, nilP_mk, nilS_mk, fldv_agg, jn0_k, jn1_k, jn2_k, jn1_and, jn1_or, ex_some, Option.isNone_some, Option.isNone_none, Bool.false_bne, Bool.bne_true, Bool.bne_false, Bool.true_bne, Bool.not_true, Bool.not_false, Bool.and_true, Bool.true_and, Bool.and_false, Bool.false_and, Bool.or_true, Bool.true_or, Bool.or_false, Bool.false_or, cond_true, cond_false, List.getElem?_toArray, List.getElem?_cons_zero, List.getElem?_cons_succ, Nat.zero_add, Nat.add_zero, Nat.reduceAdd, forall_const]
    refine jn0_dup ?_
    rw [cnd_bool]
    refine ⟨fun h => ?_, fun h => ?_⟩
    · have h : most < 0 := by simpa using h
      refine st1_i hg (by simp) rfl fun w1 hg1 hf1 => ?_
      intro _
      have hg1 : w1.heap[g]? = some (.cells #[s, .int .i64 1] E (0, 0)) := hg1
      have hy : IsRu w1.heap g { x with e := 1 } G := ⟨s, E, hg1, ho.fr hf1 hdG, hn, hm, hbl⟩
      have := hbad w1 _ hy hf1 (by simp) rfl (by rw [ht, if_pos h])
      simp only [nilc_some, fad_mk, pik_true, pik_false, cnd_true, cnd_false, gif_same, gif_tf, gif_ft, gif_undef, bi_add, bi_sub, bi_mul, bi_eql, bi_neq, bi_lss, bi_leq, bi_gtr, bi_geq, notB_bool, cvi_int, lenS_mk, lenT_mk, ext0, ext1, ext2, nilP_mk, nilS_mk, fldv_agg, jn0_k, jn1_k, jn2_k, jn1_and, jn1_or, ex_some, Option.isNone_some, Option.isNone_none, Bool.false_bne, Bool.bne_true, Bool.bne_false, Bool.true_bne, Bool.not_true, Bool.not_false, Bool.and_true, Bool.true_and, Bool.and_false, Bool.false_and, Bool.or_true, Bool.true_or, Bool.or_false, Bool.false_or, cond_true, cond_false, List.getElem?_toArray, List.getElem?_cons_zero, List.getElem?_cons_succ, Nat.zero_add, Nat.add_zero, Nat.reduceAdd, forall_const, ld1_eq hg1] at this ⊢
      exact this
    have h0 : ¬ most < 0 := by simpa using h
    rw [if_neg h0] at ht
    intro _
    simp only [nilc_some, fad_mk, pik_true, pik_false, cnd_true, cnd_false, gif_same, gif_tf, gif_ft, gif_undef, bi_add, bi_sub, bi_mul, bi_eql, bi_neq, bi_lss, bi_leq, bi_gtr, bi_geq, notB_bool, cvi_int, lenS_mk, lenT_mk, ext0, ext1, ext2, nilP_mk, nilS_mk, fldv_agg, jn0_k, jn1_k, jn2_k, jn1_and, jn1_or, ex_some, Option.isNone_some, Option.isNone_none, Bool.false_bne, Bool.bne_true, Bool.bne_false, Bool.true_bne, Bool.not_true, Bool.not_false, Bool.and_true, Bool.true_and, Bool.and_false, Bool.false_and, Bool.or_true, Bool.true_or, Bool.or_false, Bool.false_or, cond_true, cond_false, List.getElem?_toArray, List.getElem?_cons_zero, List.getElem?_cons_succ, Nat.zero_add, Nat.add_zero, Nat.reduceAdd, forall_const, ld1_eq hg]
    refine cal_i (ruNum_spec hp0 (by omega)) ?_
    rintro _ w1 ⟨rfl, h1, h2⟩
    by_cases hlen : x.b.length < head
    · have e1 : x.take head = ({ x with e := 11 }, []) := by rw [Up.take, if_pos hw, if_neg (by omega), if_pos (by omega)]
      rw [e1] at h1 ⊢
      rw [if_pos hlen] at ht
      obtain ⟨s3, E3, hg3, ho3, hn3, hm3, hbl3⟩ := id h1
      simp only [nilc_some, fad_mk, pik_true, pik_false, cnd_true, cnd_false, gif_same, gif_tf, gif_ft, gif_undef, bi_add, bi_sub, bi_mul, bi_eql, bi_neq, bi_lss, bi_leq, bi_gtr, bi_geq, notB_bool, cvi_int, lenS_mk, lenT_mk, ext0, ext1, ext2, nilP_mk, nilS_mk, fldv_agg, jn0_k, jn1_k, jn2_k, jn1_and, jn1_or, ex_some, Option.isNone_some, Option.isNone_none, Bool.false_bne, Bool.bne_true, Bool.bne_false, Bool.true_bne, Bool.not_true, Bool.not_false, Bool.and_true, Bool.true_and, Bool.and_false, Bool.false_and, Bool.or_true, Bool.true_or, Bool.or_false, Bool.false_or, cond_true, cond_false, List.getElem?_toArray, List.getElem?_cons_zero, List.getElem?_cons_succ, Nat.zero_add, Nat.add_zero, Nat.reduceAdd, forall_const, ld1_eq hg3, show ((11 : Int) == 0) = false from rfl]
      rw [wi64 (by simp [ofBe]) (by simp [ofBe])]
      refine hfix w1 _ _ h1 h2 (fun _ => ?_) (fun h => ?_)
      · rw [Up.take, if_neg (by simp [Up.works]), ht]
      · rw [Up.take, if_neg (by simp [Up.works])] at h
        simp at h
    rw [if_neg hlen] at ht
    have e1 : x.take head = ({ x with b := x.b.drop head }, x.b.take head) := by rw [Up.take, if_pos hw, if_neg (by omega), if_neg (by omega), Int.toNat_natCast]
    rw [e1] at h1 ⊢
    have hv4 : ofBe (x.b.take head) < 4294967296 := ofBe_len (n := 4) (by simp; omega) (by decide)
    obtain ⟨s3, E3, hg3, ho3, hn3, hm3, hbl3⟩ := id h1
    have hdG' : ∀ k ∈ G, k ∉ [g] := hdG
    simp only [nilc_some, fad_mk, pik_true, pik_false, cnd_true, cnd_false, gif_same, gif_tf, gif_ft, gif_undef, bi_add, bi_sub, bi_mul, bi_eql, bi_neq, bi_lss, bi_leq, bi_gtr, bi_geq, notB_bool, cvi_int, lenS_mk, lenT_mk, ext0, ext1, ext2, nilP_mk, nilS_mk, fldv_agg, jn0_k, jn1_k, jn2_k, jn1_and, jn1_or, ex_some, Option.isNone_some, Option.isNone_none, Bool.false_bne, Bool.bne_true, Bool.bne_false, Bool.true_bne, Bool.not_true, Bool.not_false, Bool.and_true, Bool.true_and, Bool.and_false, Bool.false_and, Bool.or_true, Bool.true_or, Bool.or_false, Bool.false_or, cond_true, cond_false, List.getElem?_toArray, List.getElem?_cons_zero, List.getElem?_cons_succ, Nat.zero_add, Nat.add_zero, Nat.reduceAdd, forall_const, ld1_eq hg3, he, max_int]
    rw [show max most 0 = most by omega, wu64i (by omega) (by omega), wi64 (by omega) (by omega)]
    refine jn0_dup ?_
    rw [cnd_bool]
    refine ⟨fun h => ?_, fun h => ?_⟩
    · have h : most < (ofBe (x.b.take head) : Int) := by simpa using h
      rw [if_pos h] at ht
      refine st1_i hg3 (by simp) rfl fun w2 hg2 hf2 => ?_
      intro _
      have hy : IsRu w2.heap g { x with b := x.b.drop head, e := 3 } G := ⟨s3, E3, hg2, ho3.fr hf2 hdG, hn, hm, hbl3⟩
      refine hfix w2 _ _ hy (h2.trans hf2 (fun k hk => .inl hk) (fun k hk => .inl hk)) (fun _ => ?_) (fun h => ?_)
      · rw [Up.take, if_neg (by simp [Up.works]), ht]
      · rw [Up.take, if_neg (by simp [Up.works])] at h
        simp at h
    have h3 : ¬ most < (ofBe (x.b.take head) : Int) := by simpa using h
    rw [if_neg h3] at ht
    intro _
    have hwy : ({ x with b := x.b.drop head } : Up).works = true := hw
    by_cases hr : x.b.length - head < ofBe (x.b.take head)
    · rw [if_pos hr] at ht
      have e2 : ({ x with b := x.b.drop head } : Up).take (ofBe (x.b.take head) : Nat) = ({ x with b := x.b.drop head, e := 11 }, []) := by rw [Up.take, if_pos hwy, if_neg (by omega), if_pos (by simp; omega)]
      refine hfix w1 _ _ h1 h2 (fun _ => ?_) (fun h => ?_)
      · rw [e2, ht]
      · rw [e2] at h
        simp at h
    · rw [if_neg hr] at ht
      have e2 : ({ x with b := x.b.drop head } : Up).take (ofBe (x.b.take head) : Nat) = ({ x with b := (x.b.drop head).drop (ofBe (x.b.take head)) }, (x.b.drop head).take (ofBe (x.b.take head))) := by
        rw [Up.take, if_pos hwy, if_neg (by omega), if_neg (by simp; omega), Int.toNat_natCast]
      refine hfix w1 _ _ h1 h2 (fun h => ?_) (fun _ => ?_)
      · rw [e2] at h
        exact absurd he0 h
      · rw [e2, ht]
end Go.Fx
