/-
  Which messages may be (the document's); which two are the same: the program's and the document's.
-/
import Derived.Test.YtaodibbogbkgdaaMgB
set_option linter.unusedVariables false
set_option linter.unusedSimpArgs false
namespace Go.Fx
section
variable {w0 w : World} {As : List Asn} {iv bv iv' bv' u v : Value} {m n : Msg} {l l' : List (Sl UInt8)}
theorem mrCheck_spec (hr : MR w.heap m iv bv l) (hl : l.length ≤ 9223372036854775807) : cal P f_ref04_Check [mq m iv bv] w fun r w' => r = .int .i64 m.chk ∧ Fr [] w w' := by
  refine s_ref04_Check fun R hR => ?_
  unfold c_ref04_Check
  refine bxA (Sep.start w) fun g w1 hs => ?_
  simp only [nilc_some, fad_mk, pik_true, pik_false, cnd_true, cnd_false, gif_same, gif_tf, gif_ft, gif_undef, bi_add, bi_sub, bi_mul, bi_eql, bi_neq, bi_lss, bi_leq, bi_gtr, bi_geq, notB_bool, cvi_int, lenS_mk, lenT_mk, ext0, ext1, ext2, nilP_mk, nilS_mk, fldv_agg, jn0_k, jn1_k, jn2_k, jn1_and, jn1_or, ex_some, Option.isNone_some, Option.isNone_none, Bool.false_bne, Bool.bne_true, Bool.bne_false, Bool.true_bne, Bool.not_true, Bool.not_false, Bool.and_true, Bool.true_and, Bool.and_false, Bool.false_and, Bool.or_true, Bool.true_or, Bool.or_false, Bool.false_or, cond_true, cond_false, List.getElem?_toArray, List.getElem?_cons_zero, List.getElem?_cons_succ, Nat.zero_add, Nat.add_zero, Nat.reduceAdd, forall_const, L_api_Msg hs.blk, L_api_Msg__Kind hs.blk, L_api_Msg__Req hs.blk, L_api_Msg__IDs hs.blk, L_api_Msg__Blocks hs.blk]
  refine cal_i (rbears_spec m.k) ?_
  rintro _ _ ⟨rfl, rfl⟩
  have fin : ∀ (c : Int) (w' : World), Fr [] w w' → m.chk = c → R (.int .i64 c) w' := fun c w' hf hc => hR _ _ ⟨by rw [hc], hf⟩
  have bad : ∀ w' : World, Fr [] w w' → ¬ m.ok → R (.int .i64 40) w' := fun w' hf hn => fin 40 w' hf (by rw [Msg.chk, if_neg hn])
  by_cases h0 : (bearsR m.k).2.2 < 0
  · simp only [h0, decide_true, nilc_some, fad_mk, pik_true, pik_false, cnd_true, cnd_false, gif_same, gif_tf, gif_ft, gif_undef, bi_add, bi_sub, bi_mul, bi_eql, bi_neq, bi_lss, bi_leq, bi_gtr, bi_geq, notB_bool, cvi_int, lenS_mk, lenT_mk, ext0, ext1, ext2, nilP_mk, nilS_mk, fldv_agg, jn0_k, jn1_k, jn2_k, jn1_and, jn1_or, ex_some, Option.isNone_some, Option.isNone_none, Bool.false_bne, Bool.bne_true, Bool.bne_false, Bool.true_bne, Bool.not_true, Bool.not_false, Bool.and_true, Bool.true_and, Bool.and_false, Bool.false_and, Bool.or_true, Bool.true_or, Bool.or_false, Bool.false_or, cond_true, cond_false, List.getElem?_toArray, List.getElem?_cons_zero, List.getElem?_cons_succ, Nat.zero_add, Nat.add_zero, Nat.reduceAdd, forall_const]
    exact bad _ hs.fr0 fun hk => by have := hk.1; unfold Msg.how at this; omega
  by_cases h1 : m.q < 0
  · simp only [h0, h1, decide_true, decide_false, nilc_some, fad_mk, pik_true, pik_false, cnd_true, cnd_false, gif_same, gif_tf, gif_ft, gif_undef, bi_add, bi_sub, bi_mul, bi_eql, bi_neq, bi_lss, bi_leq, bi_gtr, bi_geq, notB_bool, cvi_int, lenS_mk, lenT_mk, ext0, ext1, ext2, nilP_mk, nilS_mk, fldv_agg, jn0_k, jn1_k, jn2_k, jn1_and, jn1_or, ex_some, Option.isNone_some, Option.isNone_none, Bool.false_bne, Bool.bne_true, Bool.bne_false, Bool.true_bne, Bool.not_true, Bool.not_false, Bool.and_true, Bool.true_and, Bool.and_false, Bool.false_and, Bool.or_true, Bool.true_or, Bool.or_false, Bool.false_or, cond_true, cond_false, List.getElem?_toArray, List.getElem?_cons_zero, List.getElem?_cons_succ, Nat.zero_add, Nat.add_zero, Nat.reduceAdd, forall_const, L_api_Msg hs.blk, L_api_Msg__Kind hs.blk, L_api_Msg__Req hs.blk, L_api_Msg__IDs hs.blk, L_api_Msg__Blocks hs.blk]
    exact bad _ hs.fr0 fun hk => by have := hk.2.1; omega
  by_cases h2 : 2147483647 < m.q
  · simp only [h0, h1, h2, decide_true, decide_false, nilc_some, fad_mk, pik_true, pik_false, cnd_true, cnd_false, gif_same, gif_tf, gif_ft, gif_undef, bi_add, bi_sub, bi_mul, bi_eql, bi_neq, bi_lss, bi_leq, bi_gtr, bi_geq, notB_bool, cvi_int, lenS_mk, lenT_mk, ext0, ext1, ext2, nilP_mk, nilS_mk, fldv_agg, jn0_k, jn1_k, jn2_k, jn1_and, jn1_or, ex_some, Option.isNone_some, Option.isNone_none, Bool.false_bne, Bool.bne_true, Bool.bne_false, Bool.true_bne, Bool.not_true, Bool.not_false, Bool.and_true, Bool.true_and, Bool.and_false, Bool.false_and, Bool.or_true, Bool.true_or, Bool.or_false, Bool.false_or, cond_true, cond_false, List.getElem?_toArray, List.getElem?_cons_zero, List.getElem?_cons_succ, Nat.zero_add, Nat.add_zero, Nat.reduceAdd, forall_const, L_api_Msg hs.blk, L_api_Msg__Kind hs.blk, L_api_Msg__Req hs.blk, L_api_Msg__IDs hs.blk, L_api_Msg__Blocks hs.blk]
    exact bad _ hs.fr0 fun hk => by have := hk.2.2.1; omega
  have hi := (hs.mr hr).ids.len
  have hb := (hs.mr hr).bl
  simp only [h0, h1, h2, decide_false, nilc_some, fad_mk, pik_true, pik_false, cnd_true, cnd_false, gif_same, gif_tf, gif_ft, gif_undef, bi_add, bi_sub, bi_mul, bi_eql, bi_neq, bi_lss, bi_leq, bi_gtr, bi_geq, notB_bool, cvi_int, lenS_mk, lenT_mk, ext0, ext1, ext2, nilP_mk, nilS_mk, fldv_agg, jn0_k, jn1_k, jn2_k, jn1_and, jn1_or, ex_some, Option.isNone_some, Option.isNone_none, Bool.false_bne, Bool.bne_true, Bool.bne_false, Bool.true_bne, Bool.not_true, Bool.not_false, Bool.and_true, Bool.true_and, Bool.and_false, Bool.false_and, Bool.or_true, Bool.true_or, Bool.or_false, Bool.false_or, cond_true, cond_false, List.getElem?_toArray, List.getElem?_cons_zero, List.getElem?_cons_succ, Nat.zero_add, Nat.add_zero, Nat.reduceAdd, forall_const, L_api_Msg hs.blk, L_api_Msg__Kind hs.blk, L_api_Msg__Req hs.blk, L_api_Msg__IDs hs.blk, L_api_Msg__Blocks hs.blk, hi, hb]
  obtain ⟨c, d, hcd⟩ : ∃ c d : Nat, (if 3 ≤ m.how then m.bs.length else m.ids.length) = c ∧ (if 3 ≤ m.how then m.ids.length else m.bs.length) = d := ⟨_, _, rfl, rfl⟩
  refine ⟨fun x y w' => x = .int .i64 c ∧ y = .int .i64 d ∧ w1 = w', ?_, ?_⟩
  · change cnd _ _ _
    rw [cnd_bool]
    refine ⟨fun h => ?_, fun h => ?_⟩
    · have h : 3 ≤ m.how := by unfold Msg.how; simpa using h
      rw [if_pos h, if_pos h] at hcd
      exact ⟨by rw [hcd.1], by rw [hcd.2], rfl⟩
    · have h : ¬ 3 ≤ m.how := by unfold Msg.how; simpa using h
      rw [if_neg h, if_neg h] at hcd
      exact ⟨by rw [hcd.1], by rw [hcd.2], rfl⟩
  · rintro _ _ _ ⟨rfl, rfl, rfl⟩ _
    have hfew : m.few ↔ (bearsR m.k).1 ≤ c ∧ c ≤ (bearsR m.k).2.1 ∧ d = 0 := by unfold Msg.few; rw [hcd.1, hcd.2]
    by_cases h3 : c < (bearsR m.k).1
    · have e : decide ((c : Int) < ((bearsR m.k).1 : Int)) = true := by simp; omega
      simp only [nilc_some, fad_mk, pik_true, pik_false, cnd_true, cnd_false, gif_same, gif_tf, gif_ft, gif_undef, bi_add, bi_sub, bi_mul, bi_eql, bi_neq, bi_lss, bi_leq, bi_gtr, bi_geq, notB_bool, cvi_int, lenS_mk, lenT_mk, ext0, ext1, ext2, nilP_mk, nilS_mk, fldv_agg, jn0_k, jn1_k, jn2_k, jn1_and, jn1_or, ex_some, Option.isNone_some, Option.isNone_none, Bool.false_bne, Bool.bne_true, Bool.bne_false, Bool.true_bne, Bool.not_true, Bool.not_false, Bool.and_true, Bool.true_and, Bool.and_false, Bool.false_and, Bool.or_true, Bool.true_or, Bool.or_false, Bool.false_or, cond_true, cond_false, List.getElem?_toArray, List.getElem?_cons_zero, List.getElem?_cons_succ, Nat.zero_add, Nat.add_zero, Nat.reduceAdd, forall_const, e]
      exact bad _ hs.fr0 fun hk => by have := hfew.1 hk.2.2.2.1; omega
    have e3 : decide ((c : Int) < ((bearsR m.k).1 : Int)) = false := by simp; omega
    by_cases h4 : (bearsR m.k).2.1 < c
    · have e : decide (((bearsR m.k).2.1 : Int) < (c : Int)) = true := by simp; omega
      simp only [nilc_some, fad_mk, pik_true, pik_false, cnd_true, cnd_false, gif_same, gif_tf, gif_ft, gif_undef, bi_add, bi_sub, bi_mul, bi_eql, bi_neq, bi_lss, bi_leq, bi_gtr, bi_geq, notB_bool, cvi_int, lenS_mk, lenT_mk, ext0, ext1, ext2, nilP_mk, nilS_mk, fldv_agg, jn0_k, jn1_k, jn2_k, jn1_and, jn1_or, ex_some, Option.isNone_some, Option.isNone_none, Bool.false_bne, Bool.bne_true, Bool.bne_false, Bool.true_bne, Bool.not_true, Bool.not_false, Bool.and_true, Bool.true_and, Bool.and_false, Bool.false_and, Bool.or_true, Bool.true_or, Bool.or_false, Bool.false_or, cond_true, cond_false, List.getElem?_toArray, List.getElem?_cons_zero, List.getElem?_cons_succ, Nat.zero_add, Nat.add_zero, Nat.reduceAdd, forall_const, e3, e]
      exact bad _ hs.fr0 fun hk => by have := hfew.1 hk.2.2.2.1; omega
    have e4 : decide (((bearsR m.k).2.1 : Int) < (c : Int)) = false := by simp; omega
    by_cases h5 : d ≠ 0
    · have e : ((d : Int) != 0) = true := by simp; omega
      simp only [nilc_some, fad_mk, pik_true, pik_false, cnd_true, cnd_false, gif_same, gif_tf, gif_ft, gif_undef, bi_add, bi_sub, bi_mul, bi_eql, bi_neq, bi_lss, bi_leq, bi_gtr, bi_geq, notB_bool, cvi_int, lenS_mk, lenT_mk, ext0, ext1, ext2, nilP_mk, nilS_mk, fldv_agg, jn0_k, jn1_k, jn2_k, jn1_and, jn1_or, ex_some, Option.isNone_some, Option.isNone_none, Bool.false_bne, Bool.bne_true, Bool.bne_false, Bool.true_bne, Bool.not_true, Bool.not_false, Bool.and_true, Bool.true_and, Bool.and_false, Bool.false_and, Bool.or_true, Bool.true_or, Bool.or_false, Bool.false_or, cond_true, cond_false, List.getElem?_toArray, List.getElem?_cons_zero, List.getElem?_cons_succ, Nat.zero_add, Nat.add_zero, Nat.reduceAdd, forall_const, e3, e4, e]
      exact bad _ hs.fr0 fun hk => by have := hfew.1 hk.2.2.2.1; omega
    have e5 : ((d : Int) != 0) = false := by simp; omega
    simp only [nilc_some, fad_mk, pik_true, pik_false, cnd_true, cnd_false, gif_same, gif_tf, gif_ft, gif_undef, bi_add, bi_sub, bi_mul, bi_eql, bi_neq, bi_lss, bi_leq, bi_gtr, bi_geq, notB_bool, cvi_int, lenS_mk, lenT_mk, ext0, ext1, ext2, nilP_mk, nilS_mk, fldv_agg, jn0_k, jn1_k, jn2_k, jn1_and, jn1_or, ex_some, Option.isNone_some, Option.isNone_none, Bool.false_bne, Bool.bne_true, Bool.bne_false, Bool.true_bne, Bool.not_true, Bool.not_false, Bool.and_true, Bool.true_and, Bool.and_false, Bool.false_and, Bool.or_true, Bool.true_or, Bool.or_false, Bool.false_or, cond_true, cond_false, List.getElem?_toArray, List.getElem?_cons_zero, List.getElem?_cons_succ, Nat.zero_add, Nat.add_zero, Nat.reduceAdd, forall_const, e3, e4, e5]
    refine ⟨fun x w' => ∃ i : Nat, x = .int .i64 i ∧ i ≤ l.length ∧ (∀ s ∈ l.take i, s.l.length ≤ 246) ∧ w1 = w', fun x _ => (l.length - RowKit.intOf x).toNat, ⟨0, rfl, by omega, by simp, rfl⟩, ?_⟩
    rintro _ _ ⟨i, rfl, hi, hall, rfl⟩ -
    have hbl : ∀ K, lenS bv K = K (.int .i64 l.length) := (hs.mr hr).bs.len
    simp only [nilc_some, fad_mk, pik_true, pik_false, cnd_true, cnd_false, gif_same, gif_tf, gif_ft, gif_undef, bi_add, bi_sub, bi_mul, bi_eql, bi_neq, bi_lss, bi_leq, bi_gtr, bi_geq, notB_bool, cvi_int, lenS_mk, lenT_mk, ext0, ext1, ext2, nilP_mk, nilS_mk, fldv_agg, jn0_k, jn1_k, jn2_k, jn1_and, jn1_or, ex_some, Option.isNone_some, Option.isNone_none, Bool.false_bne, Bool.bne_true, Bool.bne_false, Bool.true_bne, Bool.not_true, Bool.not_false, Bool.and_true, Bool.true_and, Bool.and_false, Bool.false_and, Bool.or_true, Bool.true_or, Bool.or_false, Bool.false_or, cond_true, cond_false, List.getElem?_toArray, List.getElem?_cons_zero, List.getElem?_cons_succ, Nat.zero_add, Nat.add_zero, Nat.reduceAdd, forall_const, L_api_Msg hs.blk, L_api_Msg__Kind hs.blk, L_api_Msg__Req hs.blk, L_api_Msg__IDs hs.blk, L_api_Msg__Blocks hs.blk, hbl]
    rw [cnd_bool]
    refine ⟨fun h => ?_, fun h => ?_⟩
    · have hlt : i < l.length := by simp at h; omega
      have hx := List.getElem?_eq_getElem hlt
      generalize l[i] = s at hx
      have hm := List.mem_of_getElem? hx
      refine (hs.mr hr).bs.ld hx .i64 ?_
      rw [((hs.mr hr).bs.2 s hm).len]
      simp only [nilc_some, fad_mk, pik_true, pik_false, cnd_true, cnd_false, gif_same, gif_tf, gif_ft, gif_undef, bi_add, bi_sub, bi_mul, bi_eql, bi_neq, bi_lss, bi_leq, bi_gtr, bi_geq, notB_bool, cvi_int, lenS_mk, lenT_mk, ext0, ext1, ext2, nilP_mk, nilS_mk, fldv_agg, jn0_k, jn1_k, jn2_k, jn1_and, jn1_or, ex_some, Option.isNone_some, Option.isNone_none, Bool.false_bne, Bool.bne_true, Bool.bne_false, Bool.true_bne, Bool.not_true, Bool.not_false, Bool.and_true, Bool.true_and, Bool.and_false, Bool.false_and, Bool.or_true, Bool.true_or, Bool.or_false, Bool.false_or, cond_true, cond_false, List.getElem?_toArray, List.getElem?_cons_zero, List.getElem?_cons_succ, Nat.zero_add, Nat.add_zero, Nat.reduceAdd, forall_const]
      rw [cnd_bool]
      refine ⟨fun h6 => ?_, fun h6 => ?_⟩
      · have h6 : 246 < s.l.length := by simp at h6; omega
        refine bad _ hs.fr0 fun hk => ?_
        have := hk.2.2.2.2 s.l (by rw [hr.eq]; exact List.mem_map.2 ⟨s, hm, rfl⟩)
        omega
      · have h6 : s.l.length ≤ 246 := by simp at h6; omega
        rw [wi64 (by omega) (by omega)]
        refine ⟨⟨i + 1, by simp, by omega, ?_, trivial⟩, by simp [RowKit.intOf]; omega⟩
        intro y hy
        rw [List.take_add_one, hx] at hy
        rcases List.mem_append.1 hy with hy | hy
        · exact hall y hy
        · simp at hy; subst hy; exact h6
    · have hge : i = l.length := by simp at h; omega
      subst hge
      rw [List.take_length] at hall
      refine fin 0 _ hs.fr0 (Msg.chk_ok.2 ⟨by unfold Msg.how; omega, by omega, by omega, hfew.2 ⟨by omega, by omega, by omega⟩, fun b hb => ?_⟩)
      rw [hr.eq] at hb
      obtain ⟨s, hs', rfl⟩ := List.mem_map.1 hb
      exact hall s hs'
theorem Equal_spec {l m : List (Vec 32)} (hl : Rows' (rVec 32) w.heap u l) (hm : Rows' (rVec 32) w.heap v m) (h63 : l.length ≤ 9223372036854775807) : cal P f_slices_Equal_api_ID_api_ID [u, v] w fun r w' => r = .bool (decide (l = m)) ∧ Fr [] w w' := by
  refine s_slices_Equal_api_ID_api_ID fun R hR => ?_
  unfold c_slices_Equal_api_ID_api_ID
  simp only [nilc_some, fad_mk, pik_true, pik_false, cnd_true, cnd_false, gif_same, gif_tf, gif_ft, gif_undef, bi_add, bi_sub, bi_mul, bi_eql, bi_neq, bi_lss, bi_leq, bi_gtr, bi_geq, notB_bool, cvi_int, lenS_mk, lenT_mk, ext0, ext1, ext2, nilP_mk, nilS_mk, fldv_agg, jn0_k, jn1_k, jn2_k, jn1_and, jn1_or, ex_some, Option.isNone_some, Option.isNone_none, Bool.false_bne, Bool.bne_true, Bool.bne_false, Bool.true_bne, Bool.not_true, Bool.not_false, Bool.and_true, Bool.true_and, Bool.and_false, Bool.false_and, Bool.or_true, Bool.true_or, Bool.or_false, Bool.false_or, cond_true, cond_false, List.getElem?_toArray, List.getElem?_cons_zero, List.getElem?_cons_succ, Nat.zero_add, Nat.add_zero, Nat.reduceAdd, forall_const, hl.len, hm.len]
  rw [cnd_bool]
  have fin : ∀ (c : Bool) (w' : World), Fr [] w w' → decide (l = m) = c → R (.bool c) w' := fun c w' hf hc => hR _ _ ⟨by rw [hc], hf⟩
  refine ⟨fun h => ?_, fun h => ?_⟩
  · have h : l.length ≠ m.length := by simp at h; omega
    exact fin false _ (Fr.refl _ _) (by simp; intro h'; exact h (by rw [h']))
  · have h : l.length = m.length := by simp at h; omega
    refine ⟨fun x w' => ∃ i : Nat, x = .int .i64 i ∧ i ≤ l.length ∧ l.take i = m.take i ∧ Fr [] w w', fun x _ => (l.length - RowKit.intOf x).toNat, ⟨0, rfl, by omega, by simp, Fr.refl _ _⟩, ?_⟩
    rintro _ w1 ⟨i, rfl, hi, ht, hf⟩ -
    simp only [nilc_some, fad_mk, pik_true, pik_false, cnd_true, cnd_false, gif_same, gif_tf, gif_ft, gif_undef, bi_add, bi_sub, bi_mul, bi_eql, bi_neq, bi_lss, bi_leq, bi_gtr, bi_geq, notB_bool, cvi_int, lenS_mk, lenT_mk, ext0, ext1, ext2, nilP_mk, nilS_mk, fldv_agg, jn0_k, jn1_k, jn2_k, jn1_and, jn1_or, ex_some, Option.isNone_some, Option.isNone_none, Bool.false_bne, Bool.bne_true, Bool.bne_false, Bool.true_bne, Bool.not_true, Bool.not_false, Bool.and_true, Bool.true_and, Bool.and_false, Bool.false_and, Bool.or_true, Bool.true_or, Bool.or_false, Bool.false_or, cond_true, cond_false, List.getElem?_toArray, List.getElem?_cons_zero, List.getElem?_cons_succ, Nat.zero_add, Nat.add_zero, Nat.reduceAdd, forall_const]
    rw [cnd_bool]
    refine ⟨fun hlt => ?_, fun hlt => ?_⟩
    · have hlt : i < l.length := by simp at hlt; omega
      have hs := (Sep.start w).old hf
      refine drw_s hs fun w2 hs2 _ => ?_
      have hx := List.getElem?_eq_getElem hlt
      have hy := List.getElem?_eq_getElem (show i < m.length by omega)
      generalize l[i] = a at hx
      generalize m[i]'(by omega) = b at hy
      refine Rows'.ldN (q := rVec 32) (by decide) (hl.fr hs2.fr0) hx .i64 ?_
      refine Rows'.ldN (q := rVec 32) (by decide) (hm.fr hs2.fr0) hy .i64 ?_
      rw [ne_api_ID, cnd_bool]
      refine ⟨fun h2 => fin false _ hs2.fr0 ?_, fun h2 => ?_⟩
      · have h2 : a ≠ b := by simpa using h2
        simp only [decide_eq_false_iff_not]
        exact take_ne (i := i) (by rw [hx, hy]; simpa using h2)
      · have h2 : a = b := by simpa using h2
        rw [wi64 (by omega) (by omega)]
        exact ⟨⟨i + 1, by simp, by omega, take_more ht (by rw [hx, hy, h2]), hs2.fr0⟩, by simp [RowKit.intOf]; omega⟩
    · have hge : i = l.length := by simp at hlt; omega
      subst hge
      rw [List.take_length, h, List.take_length] at ht
      exact fin true _ hf (by simp [ht])
theorem EqualFunc_spec (hl : BSl w.heap u l) (hm : BSl w.heap v l') (h63 : l.length ≤ 9223372036854775807) :
    cal P f_slices_EqualFunc_byte_byte_byte_byte [u, v, .func (.func f_bytes_Equal) #[] #[]] w fun r w' => r = .bool (decide (l.map (·.l) = l'.map (·.l))) ∧ Fr [] w w' := by
  refine s_slices_EqualFunc_byte_byte_byte_byte fun R hR => ?_
  unfold c_slices_EqualFunc_byte_byte_byte_byte
  simp only [nilc_some, fad_mk, pik_true, pik_false, cnd_true, cnd_false, gif_same, gif_tf, gif_ft, gif_undef, bi_add, bi_sub, bi_mul, bi_eql, bi_neq, bi_lss, bi_leq, bi_gtr, bi_geq, notB_bool, cvi_int, lenS_mk, lenT_mk, ext0, ext1, ext2, nilP_mk, nilS_mk, fldv_agg, jn0_k, jn1_k, jn2_k, jn1_and, jn1_or, ex_some, Option.isNone_some, Option.isNone_none, Bool.false_bne, Bool.bne_true, Bool.bne_false, Bool.true_bne, Bool.not_true, Bool.not_false, Bool.and_true, Bool.true_and, Bool.and_false, Bool.false_and, Bool.or_true, Bool.true_or, Bool.or_false, Bool.false_or, cond_true, cond_false, List.getElem?_toArray, List.getElem?_cons_zero, List.getElem?_cons_succ, Nat.zero_add, Nat.add_zero, Nat.reduceAdd, forall_const, hl.len, hm.len]
  rw [cnd_bool]
  have fin : ∀ (c : Bool) (w' : World), Fr [] w w' → decide (l.map (·.l) = l'.map (·.l)) = c → R (.bool c) w' := fun c w' hf hc => hR _ _ ⟨by rw [hc], hf⟩
  refine ⟨fun h => ?_, fun h => ?_⟩
  · have h : l.length ≠ l'.length := by simp at h; omega
    refine fin false _ (Fr.refl _ _) ?_
    simp only [decide_eq_false_iff_not]
    intro h'
    have := congrArg List.length h'
    simp only [List.length_map] at this
    exact h this
  · have h : l.length = l'.length := by simp at h; omega
    refine ⟨fun x w' => ∃ i : Nat, x = .int .i64 i ∧ i ≤ l.length ∧ (l.map (·.l)).take i = (l'.map (·.l)).take i ∧ w' = w, fun x _ => (l.length - RowKit.intOf x).toNat, ⟨0, rfl, by omega, by simp, rfl⟩, ?_⟩
    rintro _ w1 ⟨i, rfl, hi, ht, rfl⟩ -
    simp only [nilc_some, fad_mk, pik_true, pik_false, cnd_true, cnd_false, gif_same, gif_tf, gif_ft, gif_undef, bi_add, bi_sub, bi_mul, bi_eql, bi_neq, bi_lss, bi_leq, bi_gtr, bi_geq, notB_bool, cvi_int, lenS_mk, lenT_mk, ext0, ext1, ext2, nilP_mk, nilS_mk, fldv_agg, jn0_k, jn1_k, jn2_k, jn1_and, jn1_or, ex_some, Option.isNone_some, Option.isNone_none, Bool.false_bne, Bool.bne_true, Bool.bne_false, Bool.true_bne, Bool.not_true, Bool.not_false, Bool.and_true, Bool.true_and, Bool.and_false, Bool.false_and, Bool.or_true, Bool.true_or, Bool.or_false, Bool.false_or, cond_true, cond_false, List.getElem?_toArray, List.getElem?_cons_zero, List.getElem?_cons_succ, Nat.zero_add, Nat.add_zero, Nat.reduceAdd, forall_const]
    rw [cnd_bool]
    refine ⟨fun hlt => ?_, fun hlt => ?_⟩
    · have hlt : i < l.length := by simp at hlt; omega
      have hx := List.getElem?_eq_getElem hlt
      have hy := List.getElem?_eq_getElem (show i < l'.length by omega)
      generalize l[i] = a at hx
      generalize l'[i]'(by omega) = b at hy
      refine hl.ld hx .i64 ?_
      refine hm.ld hy .i64 ?_
      refine calV_i (first := []) (cap := []) (by kernel_rfl) (bEqual_spec (hl.2 a (List.mem_of_getElem? hx)) (hm.2 b (List.mem_of_getElem? hy))) ?_
      rintro _ _ ⟨rfl, rfl⟩
      simp only [nilc_some, fad_mk, pik_true, pik_false, cnd_true, cnd_false, gif_same, gif_tf, gif_ft, gif_undef, bi_add, bi_sub, bi_mul, bi_eql, bi_neq, bi_lss, bi_leq, bi_gtr, bi_geq, notB_bool, cvi_int, lenS_mk, lenT_mk, ext0, ext1, ext2, nilP_mk, nilS_mk, fldv_agg, jn0_k, jn1_k, jn2_k, jn1_and, jn1_or, ex_some, Option.isNone_some, Option.isNone_none, Bool.false_bne, Bool.bne_true, Bool.bne_false, Bool.true_bne, Bool.not_true, Bool.not_false, Bool.and_true, Bool.true_and, Bool.and_false, Bool.false_and, Bool.or_true, Bool.true_or, Bool.or_false, Bool.false_or, cond_true, cond_false, List.getElem?_toArray, List.getElem?_cons_zero, List.getElem?_cons_succ, Nat.zero_add, Nat.add_zero, Nat.reduceAdd, forall_const]
      rw [cnd_bool]
      refine ⟨fun h2 => fin false _ (Fr.refl _ _) ?_, fun h2 => ?_⟩
      · have h2 : a.l ≠ b.l := by simpa using h2
        simp only [decide_eq_false_iff_not]
        exact take_ne (i := i) (by rw [List.getElem?_map, List.getElem?_map, hx, hy]; simpa using h2)
      · have h2 : a.l = b.l := by simpa using h2
        rw [wi64 (by omega) (by omega)]
        exact ⟨⟨i + 1, by simp, by omega, take_more ht (by rw [List.getElem?_map, List.getElem?_map, hx, hy]; simp [h2]), trivial⟩, by simp [RowKit.intOf]; omega⟩
    · have hge : i = l.length := by simp at hlt; omega
      subst hge
      rw [List.take_of_length_le (by simp), List.take_of_length_le (by simp; omega)] at ht
      exact fin true _ (Fr.refl _ _) (by simp [ht])
end
end Go.Fx
