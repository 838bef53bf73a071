/-
  RecOn and RecCut, walked.
-/
import Derived.Test.YticmbeincpaaeaaDoorRcF
import Derived.Test.YticmbeincpaaeaaDoorRwL
set_option linter.unusedVariables false
set_option linter.unusedSimpArgs false
namespace Go.Fx
theorem cap_of {a : Option Addr} {n c : Nat} (h : n ≤ c) : capOk (.slice a n c) := fun a' n' c' he => by
  simp only [Value.slice.injEq] at he
  obtain ⟨_, rfl, rfl⟩ := he
  exact h
theorem BRows.cutF {h : Heap} {a : Option Addr} {c k : Nat} {l : List BV} (hr : BRows h (.slice a l.length c) l) (hk : k ≤ l.length) (hc : l.length ≤ c) (c' : Nat) : BRows h (.slice (if c = k then a else a.map (·.add (k * 34))) (l.length - k) c') (l.drop k) := by
  refine ⟨?_, fun x hx => hr.2 x (List.mem_of_mem_drop hx)⟩
  have := Rows'.drop (q := Q_api_Block) hr.1 (k := k) (by simp; omega) (by simp; omega) c'
  rwa [← List.map_drop] at this
theorem goodB_of {l : List BV} (hh : ∀ x ∈ l, x.1.h ≤ maxI) (hok : layOk (l.map (·.1))) : goodB (l.map (·.1)) := fun b hb => by
  obtain ⟨x, hx, rfl⟩ := List.mem_map.1 hb
  exact ⟨hok _ hb, hh x hx⟩
theorem wOn9 {w : World} {v : Value} {d : List UInt8} {s : Sl (Vec 32 × Int × Sl UInt8)} (hc : Cub w) (hl : rBytes.ok w.heap ⟨v, d⟩) (hs0 : (rSl R_api_Block).ok w.heap s) : cal P f_law09_RecOn [v, s.v] w fun r w' => r = .bool true ∧ Fr [] w w' := by
  obtain ⟨l, hr, hcap, hl63, hh, _⟩ := rows_arg hs0
  generalize s.v = u at *
  have hrd : RdB w.heap v d := hl.1
  have hcd : capOk v := hl.2.2
  clear hs0 hl
  refine s_law09_RecOn fun R hR => ?_
  unfold c_law09_RecOn
  have lv : ∀ {z : World}, Fr [] w z → cal P f_law09_live [] z R := fun {z} hf => cal_i (live9_spec (hc.fr hf)) fun r w' hr => hR _ _ ⟨hr.1, hf.trans hr.2 (by simp) (by simp)⟩
  refine cal_i (live9_spec hc) ?_
  rintro _ w1 ⟨rfl, hf1⟩
  have hs1 := (Sep.start w).old hf1
  simp only [nilc_some, fad_mk, pik_true, pik_false, cnd_true, cnd_false, gif_same, gif_tf, gif_ft, gif_undef, bi_add, bi_sub, bi_mul, bi_eql, bi_neq, bi_lss, bi_leq, bi_gtr, bi_geq, notB_bool, cvi_int, lenS_mk, lenT_mk, ext0, ext1, ext2, nilP_mk, nilS_mk, fldv_agg, jn0_k, jn1_k, jn2_k, jn1_and, jn1_or, ex_some, Option.isNone_some, Option.isNone_none, Bool.false_bne, Bool.bne_true, Bool.bne_false, Bool.true_bne, Bool.not_true, Bool.not_false, Bool.and_true, Bool.true_and, Bool.and_false, Bool.false_and, Bool.or_true, Bool.true_or, Bool.or_false, Bool.false_or, cond_true, cond_false, List.getElem?_toArray, List.getElem?_cons_zero, List.getElem?_cons_succ, Nat.zero_add, Nat.add_zero, Nat.reduceAdd, forall_const]
  refine jn1_dup ?_
  refine cal_i (few9_spec (hr.fr hf1) hcap hl63) ?_
  rintro _ w2 ⟨hf2, t, rfl, ht⟩
  have hs2 := hs1.old hf2
  cases t with
  | false =>
    simp only [nilc_some, fad_mk, pik_true, pik_false, cnd_true, cnd_false, gif_same, gif_tf, gif_ft, gif_undef, bi_add, bi_sub, bi_mul, bi_eql, bi_neq, bi_lss, bi_leq, bi_gtr, bi_geq, notB_bool, cvi_int, lenS_mk, lenT_mk, ext0, ext1, ext2, nilP_mk, nilS_mk, fldv_agg, jn0_k, jn1_k, jn2_k, jn1_and, jn1_or, ex_some, Option.isNone_some, Option.isNone_none, Bool.false_bne, Bool.bne_true, Bool.bne_false, Bool.true_bne, Bool.not_true, Bool.not_false, Bool.and_true, Bool.true_and, Bool.and_false, Bool.false_and, Bool.or_true, Bool.true_or, Bool.or_false, Bool.false_or, cond_true, cond_false, List.getElem?_toArray, List.getElem?_cons_zero, List.getElem?_cons_succ, Nat.zero_add, Nat.add_zero, Nat.reduceAdd, forall_const]
    exact lv hs2.fr0
  | true =>
    obtain ⟨h30, hlen⟩ := ht rfl
    simp only [nilc_some, fad_mk, pik_true, pik_false, cnd_true, cnd_false, gif_same, gif_tf, gif_ft, gif_undef, bi_add, bi_sub, bi_mul, bi_eql, bi_neq, bi_lss, bi_leq, bi_gtr, bi_geq, notB_bool, cvi_int, lenS_mk, lenT_mk, ext0, ext1, ext2, nilP_mk, nilS_mk, fldv_agg, jn0_k, jn1_k, jn2_k, jn1_and, jn1_or, ex_some, Option.isNone_some, Option.isNone_none, Bool.false_bne, Bool.bne_true, Bool.bne_false, Bool.true_bne, Bool.not_true, Bool.not_false, Bool.and_true, Bool.true_and, Bool.and_false, Bool.false_and, Bool.or_true, Bool.true_or, Bool.or_false, Bool.false_or, cond_true, cond_false, List.getElem?_toArray, List.getElem?_cons_zero, List.getElem?_cons_succ, Nat.zero_add, Nat.add_zero, Nat.reduceAdd, forall_const, hrd.len]
    rw [cnd_bool]
    refine ⟨fun h => lv hs2.fr0, fun h => ?_⟩
    have hd : d.length ≤ 10000 := by simp at h; omega
    refine cal_i (Scan_spec (hc.fr hs2.fr0) (hs2.rdB hrd) hcd (by omega)) ?_
    rintro _ w3 ⟨x1, B1, rfl, hsc1, hs3⟩
    replace hs3 := hs2.join hs3
    simp only [nilc_some, fad_mk, pik_true, pik_false, cnd_true, cnd_false, gif_same, gif_tf, gif_ft, gif_undef, bi_add, bi_sub, bi_mul, bi_eql, bi_neq, bi_lss, bi_leq, bi_gtr, bi_geq, notB_bool, cvi_int, lenS_mk, lenT_mk, ext0, ext1, ext2, nilP_mk, nilS_mk, fldv_agg, jn0_k, jn1_k, jn2_k, jn1_and, jn1_or, ex_some, Option.isNone_some, Option.isNone_none, Bool.false_bne, Bool.bne_true, Bool.bne_false, Bool.true_bne, Bool.not_true, Bool.not_false, Bool.and_true, Bool.true_and, Bool.and_false, Bool.false_and, Bool.or_true, Bool.true_or, Bool.or_false, Bool.false_or, cond_true, cond_false, List.getElem?_toArray, List.getElem?_cons_zero, List.getElem?_cons_succ, Nat.zero_add, Nat.add_zero, Nat.reduceAdd, forall_const]
    refine cal_i (recLay_spec (hc.fr hs3.fr0) (hr.fr hs3.fr0) (by omega) hh) ?_
    rintro _ w4 ⟨s4, rfl, hs4⟩
    replace hs4 := hs3.join hs4
    have hle1 := hsc1.len
    simp only [nilc_some, fad_mk, pik_true, pik_false, cnd_true, cnd_false, gif_same, gif_tf, gif_ft, gif_undef, bi_add, bi_sub, bi_mul, bi_eql, bi_neq, bi_lss, bi_leq, bi_gtr, bi_geq, notB_bool, cvi_int, lenS_mk, lenT_mk, ext0, ext1, ext2, nilP_mk, nilS_mk, fldv_agg, jn0_k, jn1_k, jn2_k, jn1_and, jn1_or, ex_some, Option.isNone_some, Option.isNone_none, Bool.false_bne, Bool.bne_true, Bool.bne_false, Bool.true_bne, Bool.not_true, Bool.not_false, Bool.and_true, Bool.true_and, Bool.and_false, Bool.false_and, Bool.or_true, Bool.true_or, Bool.or_false, Bool.false_or, cond_true, cond_false, List.getElem?_toArray, List.getElem?_cons_zero, List.getElem?_cons_succ, Nat.zero_add, Nat.add_zero, Nat.reduceAdd, forall_const, hrd.len]
    by_cases hok : layOk (l.map (·.1))
    case neg =>
      have he : layE (l.map (·.1)) = 30 := if_neg hok
      simp only [he, nilc_some, fad_mk, pik_true, pik_false, cnd_true, cnd_false, gif_same, gif_tf, gif_ft, gif_undef, bi_add, bi_sub, bi_mul, bi_eql, bi_neq, bi_lss, bi_leq, bi_gtr, bi_geq, notB_bool, cvi_int, lenS_mk, lenT_mk, ext0, ext1, ext2, nilP_mk, nilS_mk, fldv_agg, jn0_k, jn1_k, jn2_k, jn1_and, jn1_or, ex_some, Option.isNone_some, Option.isNone_none, Bool.false_bne, Bool.bne_true, Bool.bne_false, Bool.true_bne, Bool.not_true, Bool.not_false, Bool.and_true, Bool.true_and, Bool.and_false, Bool.false_and, Bool.or_true, Bool.true_or, Bool.or_false, Bool.false_or, cond_true, cond_false, List.getElem?_toArray, List.getElem?_cons_zero, List.getElem?_cons_succ, Nat.zero_add, Nat.add_zero, Nat.reduceAdd, forall_const, show ((30 : Int) != 0) = true from rfl]
      exact hR _ _ ⟨rfl, hs4.fr0⟩
    have he : layE (l.map (·.1)) = 0 := if_pos hok
    have ho : layO (l.map (·.1)) = layL (l.map (·.1)) := if_pos hok
    rw [ho] at hs4
    obtain ⟨L1, hL1⟩ : ∃ L1, L1 = B1.map (·.1) := ⟨_, rfl⟩
    obtain ⟨L, hL⟩ : ∃ L, L = l.map (·.1) := ⟨_, rfl⟩
    have h66 := layL_ge L1
    have hB1l : L1.length = B1.length := by rw [hL1]; simp
    rw [← hL1] at hsc1 hle1 ⊢
    rw [← hL] at hs4 hok he ⊢
    have e1 : decide (((layL L1).length : Int) < 0) = false := by simp
    have e2 : decide ((d.length : Int) < ((layL L1).length : Int)) = false := by simp; omega
    simp only [he, e1, e2, nilc_some, fad_mk, pik_true, pik_false, cnd_true, cnd_false, gif_same, gif_tf, gif_ft, gif_undef, bi_add, bi_sub, bi_mul, bi_eql, bi_neq, bi_lss, bi_leq, bi_gtr, bi_geq, notB_bool, cvi_int, lenS_mk, lenT_mk, ext0, ext1, ext2, nilP_mk, nilS_mk, fldv_agg, jn0_k, jn1_k, jn2_k, jn1_and, jn1_or, ex_some, Option.isNone_some, Option.isNone_none, Bool.false_bne, Bool.bne_true, Bool.bne_false, Bool.true_bne, Bool.not_true, Bool.not_false, Bool.and_true, Bool.true_and, Bool.and_false, Bool.false_and, Bool.or_true, Bool.true_or, Bool.or_false, Bool.false_or, cond_true, cond_false, List.getElem?_toArray, List.getElem?_cons_zero, List.getElem?_cons_succ, Nat.zero_add, Nat.add_zero, Nat.reduceAdd, forall_const, show ((0 : Int) != 0) = false from rfl]
    obtain ⟨av, cv, rfl⟩ := hrd.form
    have hcv : d.length ≤ cv := hcd _ _ _ rfl
    rw [slc_to (by omega)]
    have hrt := (hs4.rdB hrd).take (k := (layL L1).length) hle1 cv
    rw [hsc1.take] at hrt
    refine cal_i (bClone_spec hrt (by omega)) ?_
    rintro c5 w5 hs5
    replace hs5 := hs4.join hs5
    have hgl : goodB L := by rw [hL]; exact goodB_of hh (by rw [← hL]; exact hok)
    have hLl : L.length = l.length := by rw [hL]; simp
    have hlb := layL_len L hok
    refine appB_s S_sl_uint8 U_sl_uint8 (by simp) hs5 (Sep.rd hs5.p1) (by omega) fun c6 w6 hs6 => ?_
    rw [← layL_append] at hs6
    obtain ⟨a6, cc6, rfl, hac6⟩ := Sep.form hs6
    have hgg : goodB (L1 ++ L) := fun b hb => by
      rcases List.mem_append.1 hb with hb | hb
      · exact hsc1.1 b hb
      · exact hgl b hb
    have hsc : IsScan (layL (L1 ++ L)) (L1 ++ L) := ⟨hgg, [], (List.append_nil _).symm, by rw [takeR_nil]; decide⟩
    have hll : (layL (L1 ++ L)).length = (layL L1).length + (layL L).length := by rw [layL_append, List.length_append]
    refine cal_i (Scan_spec (hc.fr hs6.fr0) (Sep.rd hs6) (cap_of hac6) (by omega)) ?_
    rintro _ w7 ⟨x7, B7, rfl, hsc7, hs7⟩
    have hB7 := hsc7.uniq hsc
    have hb7 : B7.length = B1.length + l.length := by
      have := congrArg List.length hB7
      rw [hL1, hL] at this
      simpa using this
    have hs67 := hs6.old hs7.fr0
    have hr7 : ∀ {z : World}, Fr [] w7 z → BRows z.heap x7 B7 := fun {z} hf => BRows.fr (brow_rd (Bs := []) (by rw [List.append_nil]; exact hs7)) hf
    have hr1 : ∀ {z : World}, Fr [] w7 z → BRows z.heap x1 B1 := fun {z} hf => BRows.fr (by
      have h1 : Sep w w7 (brow x1 B1 ++ []) := Sep.dropL (As := [_, _]) hs67
      exact brow_rd h1) hf
    obtain ⟨a7, c7, hx7, hac7⟩ := Sep.formR (l := B7.map BV.t) (show Sep w6 w7 (rows Q_api_Block x7 (B7.map BV.t) :: B7.map oV) from hs7)
    rw [List.length_map] at hx7 hac7
    have hl7 := (hr7 (Fr.refl _ _)).len
    have hl1 := (hr1 (Fr.refl _ _)).len
    have hls := (Sep.rd (hs67.pick [1] 2)).len
    have e3 : IntKind.i64.wrap (((layL L1).length : Int) + ((layL L).length : Int)) = ((layL (L1 ++ L)).length : Int) := by rw [hll, wi64 (by omega) (by omega)]; omega
    have e4 : IntKind.i64.wrap ((B1.length : Int) + (l.length : Int)) = (B7.length : Int) := by rw [hb7, wi64 (by omega) (by omega)]; omega
    rw [hB7]
    simp only [nilc_some, fad_mk, pik_true, pik_false, cnd_true, cnd_false, gif_same, gif_tf, gif_ft, gif_undef, bi_add, bi_sub, bi_mul, bi_eql, bi_neq, bi_lss, bi_leq, bi_gtr, bi_geq, notB_bool, cvi_int, lenS_mk, lenT_mk, ext0, ext1, ext2, nilP_mk, nilS_mk, fldv_agg, jn0_k, jn1_k, jn2_k, jn1_and, jn1_or, ex_some, Option.isNone_some, Option.isNone_none, Bool.false_bne, Bool.bne_true, Bool.bne_false, Bool.true_bne, Bool.not_true, Bool.not_false, Bool.and_true, Bool.true_and, Bool.and_false, Bool.false_and, Bool.or_true, Bool.true_or, Bool.or_false, Bool.false_or, cond_true, cond_false, List.getElem?_toArray, List.getElem?_cons_zero, List.getElem?_cons_succ, Nat.zero_add, Nat.add_zero, Nat.reduceAdd, forall_const, hls, e3, hl7, hl1, hr.len, e4, beq_self_eq_true, min_i64]
    have e5 : (if (B1.length : Int) < (B7.length : Int) then (B1.length : Int) else (B7.length : Int)) = ((B1.length : Nat) : Int) := by split <;> omega
    rw [e5, hx7]
    have hm1 : (B7.take B1.length).map (·.1) = B1.map (·.1) := by
      rw [List.map_take, hB7, ← hL1]
      have : B1.length = L1.length := by rw [hL1]; simp
      rw [this, List.take_left' rfl]
    have hm2 : (B7.drop B1.length).map (·.1) = l.map (·.1) := by
      rw [List.map_drop, hB7, ← hL]
      have : B1.length = L1.length := by rw [hL1]; simp
      rw [this, List.drop_left' rfl]
    rw [hx7] at hr7
    refine jn1_dup ?_
    rw [slc_to (by omega)]
    refine cal_i (SameAll_spec ((hr7 (Fr.refl _ _)).cut (k := B1.length) (by omega) c7) (hr1 (Fr.refl _ _)) (by simp; omega)) ?_
    rintro _ w8 ⟨rfl, hf8⟩
    have hs8 := hs67.old hf8
    rw [decide_eq_true hm1]
    simp only [nilc_some, fad_mk, pik_true, pik_false, cnd_true, cnd_false, gif_same, gif_tf, gif_ft, gif_undef, bi_add, bi_sub, bi_mul, bi_eql, bi_neq, bi_lss, bi_leq, bi_gtr, bi_geq, notB_bool, cvi_int, lenS_mk, lenT_mk, ext0, ext1, ext2, nilP_mk, nilS_mk, fldv_agg, jn0_k, jn1_k, jn2_k, jn1_and, jn1_or, ex_some, Option.isNone_some, Option.isNone_none, Bool.false_bne, Bool.bne_true, Bool.bne_false, Bool.true_bne, Bool.not_true, Bool.not_false, Bool.and_true, Bool.true_and, Bool.and_false, Bool.false_and, Bool.or_true, Bool.true_or, Bool.or_false, Bool.false_or, cond_true, cond_false, List.getElem?_toArray, List.getElem?_cons_zero, List.getElem?_cons_succ, Nat.zero_add, Nat.add_zero, Nat.reduceAdd, forall_const]
    refine jn1_dup ?_
    rw [slc_from (by omega)]
    refine cal_i (SameAll_spec ((hr7 hf8).cutF (k := B1.length) (by omega) hac7 _) (hr.fr hs8.fr0) (by simp; omega)) ?_
    rintro _ w9 ⟨rfl, hf9⟩
    rw [decide_eq_true hm2]
    simp only [nilc_some, fad_mk, pik_true, pik_false, cnd_true, cnd_false, gif_same, gif_tf, gif_ft, gif_undef, bi_add, bi_sub, bi_mul, bi_eql, bi_neq, bi_lss, bi_leq, bi_gtr, bi_geq, notB_bool, cvi_int, lenS_mk, lenT_mk, ext0, ext1, ext2, nilP_mk, nilS_mk, fldv_agg, jn0_k, jn1_k, jn2_k, jn1_and, jn1_or, ex_some, Option.isNone_some, Option.isNone_none, Bool.false_bne, Bool.bne_true, Bool.bne_false, Bool.true_bne, Bool.not_true, Bool.not_false, Bool.and_true, Bool.true_and, Bool.and_false, Bool.false_and, Bool.or_true, Bool.true_or, Bool.or_false, Bool.false_or, cond_true, cond_false, List.getElem?_toArray, List.getElem?_cons_zero, List.getElem?_cons_succ, Nat.zero_add, Nat.add_zero, Nat.reduceAdd, forall_const]
    exact hR _ _ ⟨rfl, (hs8.old hf9).fr0⟩
end Go.Fx
