/-
  The records of blocks; what the statements about records share: the example, and whether blocks are few and short.
-/
import Derived.Test.YticmbeincpaaeaaDoorRcB
set_option linter.unusedVariables false
set_option linter.unusedSimpArgs false
namespace Go.Fx
/-- The records of blocks, if all of them may be. -/
def layOk (l : List Blk) : Prop := ∀ b ∈ l, b.chk = 0
instance (l : List Blk) : Decidable (layOk l) := by unfold layOk; infer_instance
def layL (l : List Blk) : List UInt8 := l.flatMap Blk.rcd
def layO (l : List Blk) : List UInt8 := if layOk l then layL l else []
def layE (l : List Blk) : Int := if layOk l then 0 else 30
theorem layL_len : ∀ l : List Blk, layOk l → (layL l).length ≤ 266 * l.length
  | [], _ => by simp [layL]
  | b :: l, h => by
    have h1 := layL_len l fun c hc => h c (by simp [hc])
    have h2 := b.recO_le
    rw [Blk.recO, if_pos (h b (by simp))] at h2
    unfold layL at *
    rw [List.flatMap_cons, List.length_append, List.length_cons]
    omega
theorem layL_take {l : List Blk} {i : Nat} {b : Blk} (h : l[i]? = some b) : layL (l.take (i + 1)) = layL (l.take i) ++ b.rcd := by
  unfold layL
  rw [List.take_add_one, h]
  simp
section
variable {w0 w : World} {As : List Asn} {v : Value} {l : List BV}
theorem BRows.get {h : Heap} (hr : BRows h v l) {j : Nat} {x : BV} (hj : l[j]? = some x) : RdB h x.2 x.1.d := hr.2 x (List.mem_of_getElem? hj)
theorem recLay_spec (hc : Cub w) (hr : BRows w.heap v l) (hn : l.length ≤ 1000) (hh : ∀ x ∈ l, x.1.h ≤ maxI) : cal P f_rec_Lay [v] w fun r w' => ∃ s, r = .tuple #[s, .int .i64 (layE (l.map (·.1)))] ∧ Sep w w' [ownB s (layO (l.map (·.1)))] := by
  refine s_rec_Lay fun R hR => ?_
  unfold c_rec_Lay
  simp only [hr.len]
  refine ⟨fun x y w' => ∃ i : Nat, y = .int .i64 i ∧ i ≤ l.length ∧ layOk ((l.map (·.1)).take i) ∧ Sep w w' [ownB x (layL ((l.map (·.1)).take i))], fun _ y _ => (l.length - RowKit.intOf y).toNat, ⟨0, rfl, by omega, by intro b hb; simp at hb, (Sep.start w).nil⟩, ?_⟩
  rintro s1 _ w1 ⟨i, rfl, hi, hok, hs1⟩ -
  have hll := layL_len _ hok
  have htl : ((l.map (·.1)).take i).length ≤ i := by simp; omega
  simp only [nilc_some, fad_mk, pik_true, pik_false, cnd_true, cnd_false, gif_same, gif_tf, gif_ft, gif_undef, bi_add, bi_sub, bi_mul, bi_eql, bi_neq, bi_lss, bi_leq, bi_gtr, bi_geq, notB_bool, cvi_int, lenS_mk, lenT_mk, ext0, ext1, ext2, nilP_mk, nilS_mk, fldv_agg, jn0_k, jn1_k, jn2_k, jn1_and, jn1_or, ex_some, Option.isNone_some, Option.isNone_none, Bool.false_bne, Bool.bne_true, Bool.bne_false, Bool.true_bne, Bool.not_true, Bool.not_false, Bool.and_true, Bool.true_and, Bool.and_false, Bool.false_and, Bool.or_true, Bool.true_or, Bool.or_false, Bool.false_or, cond_true, cond_false, List.getElem?_toArray, List.getElem?_cons_zero, List.getElem?_cons_succ, Nat.zero_add, Nat.add_zero, Nat.reduceAdd, forall_const]
  rw [cnd_bool]
  refine ⟨fun h => ?_, fun h => ?_⟩
  · have hlt : i < l.length := by simp at h; omega
    have hx := List.getElem?_eq_getElem hlt
    generalize l[i] = x at hx
    have hm := List.mem_of_getElem? hx
    have hx' : (l.map (·.1))[i]? = some x.1 := by rw [List.getElem?_map, hx]; rfl
    refine (hr.fr hs1.fr0).ld hx .i64 ?_
    refine alloc_s hs1 (A_api_Block w1) fun g w2 hs2 => ?_
    refine St_api_Block hs2 (one_api_Block (hr.get hx).one) fun w3 hs3 => ?_
    simp only [L_api_Block hs3.blk, L_api_Block__Parent hs3.blk, L_api_Block__Height hs3.blk, L_api_Block__Data hs3.blk]
    refine cal_i (recBytes_spec (b := x.1) (hc.fr hs3.fr0) (hs3.rdB (hr.get hx)) (hh x hm)) ?_
    rintro _ w4 ⟨s4, rfl, hs4⟩
    replace hs4 := hs3.join hs4
    simp only [nilc_some, fad_mk, pik_true, pik_false, cnd_true, cnd_false, gif_same, gif_tf, gif_ft, gif_undef, bi_add, bi_sub, bi_mul, bi_eql, bi_neq, bi_lss, bi_leq, bi_gtr, bi_geq, notB_bool, cvi_int, lenS_mk, lenT_mk, ext0, ext1, ext2, nilP_mk, nilS_mk, fldv_agg, jn0_k, jn1_k, jn2_k, jn1_and, jn1_or, ex_some, Option.isNone_some, Option.isNone_none, Bool.false_bne, Bool.bne_true, Bool.bne_false, Bool.true_bne, Bool.not_true, Bool.not_false, Bool.and_true, Bool.true_and, Bool.and_false, Bool.false_and, Bool.or_true, Bool.true_or, Bool.or_false, Bool.false_or, cond_true, cond_false, List.getElem?_toArray, List.getElem?_cons_zero, List.getElem?_cons_succ, Nat.zero_add, Nat.add_zero, Nat.reduceAdd, forall_const]
    rcases Blk.chk_or x.1 with h0 | h0
    · have ho : x.1.recO = x.1.rcd := if_pos h0
      have hle := x.1.recO_le
      rw [ho] at hs4 hle
      simp only [h0, nilc_some, fad_mk, pik_true, pik_false, cnd_true, cnd_false, gif_same, gif_tf, gif_ft, gif_undef, bi_add, bi_sub, bi_mul, bi_eql, bi_neq, bi_lss, bi_leq, bi_gtr, bi_geq, notB_bool, cvi_int, lenS_mk, lenT_mk, ext0, ext1, ext2, nilP_mk, nilS_mk, fldv_agg, jn0_k, jn1_k, jn2_k, jn1_and, jn1_or, ex_some, Option.isNone_some, Option.isNone_none, Bool.false_bne, Bool.bne_true, Bool.bne_false, Bool.true_bne, Bool.not_true, Bool.not_false, Bool.and_true, Bool.true_and, Bool.and_false, Bool.false_and, Bool.or_true, Bool.true_or, Bool.or_false, Bool.false_or, cond_true, cond_false, List.getElem?_toArray, List.getElem?_cons_zero, List.getElem?_cons_succ, Nat.zero_add, Nat.add_zero, Nat.reduceAdd, forall_const, show ((0 : Int) != 0) = false from rfl]
      refine appB_s S_sl_uint8 U_sl_uint8 (by simp) (hs4.pick [2, 0] 3) (Sep.rd hs4) (by omega) fun v5 w5 hs5 => ?_
      rw [wi64 (by omega) (by omega)]
      refine ⟨⟨i + 1, by simp, by omega, ?_, ?_⟩, by simp [RowKit.intOf]; omega⟩
      · intro b hb
        rw [List.take_add_one, hx'] at hb
        rcases List.mem_append.1 hb with hb | hb
        · exact hok b hb
        · obtain rfl : b = x.1 := by simpa using hb
          exact h0
      · rw [layL_take hx']
        exact Sep.dropR (As := [ownB v5 _]) hs5
    · simp only [h0, nilc_some, fad_mk, pik_true, pik_false, cnd_true, cnd_false, gif_same, gif_tf, gif_ft, gif_undef, bi_add, bi_sub, bi_mul, bi_eql, bi_neq, bi_lss, bi_leq, bi_gtr, bi_geq, notB_bool, cvi_int, lenS_mk, lenT_mk, ext0, ext1, ext2, nilP_mk, nilS_mk, fldv_agg, jn0_k, jn1_k, jn2_k, jn1_and, jn1_or, ex_some, Option.isNone_some, Option.isNone_none, Bool.false_bne, Bool.bne_true, Bool.bne_false, Bool.true_bne, Bool.not_true, Bool.not_false, Bool.and_true, Bool.true_and, Bool.and_false, Bool.false_and, Bool.or_true, Bool.true_or, Bool.or_false, Bool.false_or, cond_true, cond_false, List.getElem?_toArray, List.getElem?_cons_zero, List.getElem?_cons_succ, Nat.zero_add, Nat.add_zero, Nat.reduceAdd, forall_const, show ((30 : Int) != 0) = true from rfl]
      have hn : ¬ layOk (l.map (·.1)) := fun hk => by
        have := hk x.1 (List.mem_of_getElem? hx')
        omega
      refine hR _ _ ⟨_, by rw [layE, if_neg hn], ?_⟩
      rw [layO, if_neg hn]
      exact ((Sep.start w).old hs4.fr0).nil
  · have hge : i = l.length := by simp at h; omega
    subst hge
    rw [List.take_of_length_le (by simp)] at hok hs1
    refine hR _ _ ⟨s1, by rw [layE, if_pos hok], ?_⟩
    rw [layO, if_pos hok]
    exact hs1
theorem rRecLay_spec (hr : BRows w.heap v l) (hn : l.length ≤ 1000) (hh : ∀ x ∈ l, x.1.h ≤ maxI) : cal P f_ref09_Lay [v] w fun r w' => ∃ s, r = .tuple #[s, .int .i64 (layE (l.map (·.1)))] ∧ Sep w w' [ownB s (layO (l.map (·.1)))] := by
  refine s_ref09_Lay fun R hR => ?_
  unfold c_ref09_Lay
  simp only [hr.len]
  refine ⟨fun x y w' => ∃ i : Nat, y = .int .i64 i ∧ i ≤ l.length ∧ layOk ((l.map (·.1)).take i) ∧ Sep w w' [ownB x (layL ((l.map (·.1)).take i))], fun _ y _ => (l.length - RowKit.intOf y).toNat, ⟨0, rfl, by omega, by intro b hb; simp at hb, (Sep.start w).nil⟩, ?_⟩
  rintro s1 _ w1 ⟨i, rfl, hi, hok, hs1⟩ -
  have hll := layL_len _ hok
  have htl : ((l.map (·.1)).take i).length ≤ i := by simp; omega
  simp only [nilc_some, fad_mk, pik_true, pik_false, cnd_true, cnd_false, gif_same, gif_tf, gif_ft, gif_undef, bi_add, bi_sub, bi_mul, bi_eql, bi_neq, bi_lss, bi_leq, bi_gtr, bi_geq, notB_bool, cvi_int, lenS_mk, lenT_mk, ext0, ext1, ext2, nilP_mk, nilS_mk, fldv_agg, jn0_k, jn1_k, jn2_k, jn1_and, jn1_or, ex_some, Option.isNone_some, Option.isNone_none, Bool.false_bne, Bool.bne_true, Bool.bne_false, Bool.true_bne, Bool.not_true, Bool.not_false, Bool.and_true, Bool.true_and, Bool.and_false, Bool.false_and, Bool.or_true, Bool.true_or, Bool.or_false, Bool.false_or, cond_true, cond_false, List.getElem?_toArray, List.getElem?_cons_zero, List.getElem?_cons_succ, Nat.zero_add, Nat.add_zero, Nat.reduceAdd, forall_const]
  rw [cnd_bool]
  refine ⟨fun h => ?_, fun h => ?_⟩
  · have hlt : i < l.length := by simp at h; omega
    have hx := List.getElem?_eq_getElem hlt
    generalize l[i] = x at hx
    have hm := List.mem_of_getElem? hx
    have hx' : (l.map (·.1))[i]? = some x.1 := by rw [List.getElem?_map, hx]; rfl
    refine (hr.fr hs1.fr0).ld hx .i64 ?_
    refine cal_i (rRecBytes_spec (b := x.1) (hs1.rdB (hr.get hx)) (hh x hm)) ?_
    rintro _ w4 ⟨s4, rfl, hs4⟩
    replace hs4 := hs1.join hs4
    simp only [nilc_some, fad_mk, pik_true, pik_false, cnd_true, cnd_false, gif_same, gif_tf, gif_ft, gif_undef, bi_add, bi_sub, bi_mul, bi_eql, bi_neq, bi_lss, bi_leq, bi_gtr, bi_geq, notB_bool, cvi_int, lenS_mk, lenT_mk, ext0, ext1, ext2, nilP_mk, nilS_mk, fldv_agg, jn0_k, jn1_k, jn2_k, jn1_and, jn1_or, ex_some, Option.isNone_some, Option.isNone_none, Bool.false_bne, Bool.bne_true, Bool.bne_false, Bool.true_bne, Bool.not_true, Bool.not_false, Bool.and_true, Bool.true_and, Bool.and_false, Bool.false_and, Bool.or_true, Bool.true_or, Bool.or_false, Bool.false_or, cond_true, cond_false, List.getElem?_toArray, List.getElem?_cons_zero, List.getElem?_cons_succ, Nat.zero_add, Nat.add_zero, Nat.reduceAdd, forall_const]
    rcases Blk.chk_or x.1 with h0 | h0
    · have ho : x.1.recO = x.1.rcd := if_pos h0
      have hle := x.1.recO_le
      rw [ho] at hs4 hle
      simp only [h0, nilc_some, fad_mk, pik_true, pik_false, cnd_true, cnd_false, gif_same, gif_tf, gif_ft, gif_undef, bi_add, bi_sub, bi_mul, bi_eql, bi_neq, bi_lss, bi_leq, bi_gtr, bi_geq, notB_bool, cvi_int, lenS_mk, lenT_mk, ext0, ext1, ext2, nilP_mk, nilS_mk, fldv_agg, jn0_k, jn1_k, jn2_k, jn1_and, jn1_or, ex_some, Option.isNone_some, Option.isNone_none, Bool.false_bne, Bool.bne_true, Bool.bne_false, Bool.true_bne, Bool.not_true, Bool.not_false, Bool.and_true, Bool.true_and, Bool.and_false, Bool.false_and, Bool.or_true, Bool.true_or, Bool.or_false, Bool.false_or, cond_true, cond_false, List.getElem?_toArray, List.getElem?_cons_zero, List.getElem?_cons_succ, Nat.zero_add, Nat.add_zero, Nat.reduceAdd, forall_const, show ((0 : Int) != 0) = false from rfl]
      refine appB_s S_sl_uint8 U_sl_uint8 (by simp) (hs4.pick [1, 0] 2) (Sep.rd hs4) (by omega) fun v5 w5 hs5 => ?_
      rw [wi64 (by omega) (by omega)]
      refine ⟨⟨i + 1, by simp, by omega, ?_, ?_⟩, by simp [RowKit.intOf]; omega⟩
      · intro b hb
        rw [List.take_add_one, hx'] at hb
        rcases List.mem_append.1 hb with hb | hb
        · exact hok b hb
        · obtain rfl : b = x.1 := by simpa using hb
          exact h0
      · rw [layL_take hx']
        exact Sep.dropR (As := [ownB v5 _]) hs5
    · simp only [h0, nilc_some, fad_mk, pik_true, pik_false, cnd_true, cnd_false, gif_same, gif_tf, gif_ft, gif_undef, bi_add, bi_sub, bi_mul, bi_eql, bi_neq, bi_lss, bi_leq, bi_gtr, bi_geq, notB_bool, cvi_int, lenS_mk, lenT_mk, ext0, ext1, ext2, nilP_mk, nilS_mk, fldv_agg, jn0_k, jn1_k, jn2_k, jn1_and, jn1_or, ex_some, Option.isNone_some, Option.isNone_none, Bool.false_bne, Bool.bne_true, Bool.bne_false, Bool.true_bne, Bool.not_true, Bool.not_false, Bool.and_true, Bool.true_and, Bool.and_false, Bool.false_and, Bool.or_true, Bool.true_or, Bool.or_false, Bool.false_or, cond_true, cond_false, List.getElem?_toArray, List.getElem?_cons_zero, List.getElem?_cons_succ, Nat.zero_add, Nat.add_zero, Nat.reduceAdd, forall_const, show ((30 : Int) != 0) = true from rfl]
      have hn : ¬ layOk (l.map (·.1)) := fun hk => by
        have := hk x.1 (List.mem_of_getElem? hx')
        omega
      refine hR _ _ ⟨_, by rw [layE, if_neg hn], ?_⟩
      rw [layO, if_neg hn]
      exact ((Sep.start w).old hs4.fr0).nil
  · have hge : i = l.length := by simp at h; omega
    subst hge
    rw [List.take_of_length_le (by simp)] at hok hs1
    refine hR _ _ ⟨s1, by rw [layE, if_pos hok], ?_⟩
    rw [layO, if_pos hok]
    exact hs1
end
end Go.Fx
