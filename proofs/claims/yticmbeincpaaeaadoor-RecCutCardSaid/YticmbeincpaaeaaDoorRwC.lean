/-
  RecCut, walked.
-/
import Derived.Test.YticmbeincpaaeaaDoorRwO
set_option linter.unusedVariables false
set_option linter.unusedSimpArgs false
namespace Go.Fx
theorem wCut9 {w : World} {s : Sl (Vec 32 × Int × Sl UInt8)} {cut : Nat} (hc : Cub w) (hs0 : (rSl R_api_Block).ok w.heap s) (hcut : cut < 65536) : cal P f_law09_RecCut [s.v, .int .u16 cut] w fun r w' => r = .bool true ∧ Fr [] w w' := by
  obtain ⟨l, hr, hcap, hl63, hh, _⟩ := rows_arg hs0
  generalize s.v = u at *
  clear hs0
  refine s_law09_RecCut fun R hR => ?_
  unfold c_law09_RecCut
  have lv : ∀ {z : World}, Fr [] w z → cal P f_law09_live [] z R := fun {z} hf => cal_i (live9_spec (hc.fr hf)) fun r w' hr => hR _ _ ⟨hr.1, hf.trans hr.2 (by simp) (by simp)⟩
  refine cal_i (live9_spec hc) ?_
  rintro _ w1 ⟨rfl, hf1⟩
  have hs1 := (Sep.start w).old hf1
  simp only [nilc_some, fad_mk, pik_true, pik_false, cnd_true, cnd_false, gif_same, gif_tf, gif_ft, gif_undef, bi_add, bi_sub, bi_mul, bi_eql, bi_neq, bi_lss, bi_leq, bi_gtr, bi_geq, notB_bool, cvi_int, lenS_mk, lenT_mk, ext0, ext1, ext2, nilP_mk, nilS_mk, fldv_agg, jn0_k, jn1_k, jn2_k, jn1_and, jn1_or, ex_some, Option.isNone_some, Option.isNone_none, Bool.false_bne, Bool.bne_true, Bool.bne_false, Bool.true_bne, Bool.not_true, Bool.not_false, Bool.and_true, Bool.true_and, Bool.and_false, Bool.false_and, Bool.or_true, Bool.true_or, Bool.or_false, Bool.false_or, cond_true, cond_false, List.getElem?_toArray, List.getElem?_cons_zero, List.getElem?_cons_succ, Nat.zero_add, Nat.add_zero, Nat.reduceAdd, forall_const]
  refine jn1_dup ?_
  refine cal_i (few9_spec (hr.fr hf1) hcap hl63) ?_
  rintro _ w2 ⟨hf2, t, rfl, ht⟩
  have hs2 := hs1.old hf2
  cases t with
  | false =>
    simp only [nilc_some, fad_mk, pik_true, pik_false, cnd_true, cnd_false, gif_same, gif_tf, gif_ft, gif_undef, bi_add, bi_sub, bi_mul, bi_eql, bi_neq, bi_lss, bi_leq, bi_gtr, bi_geq, notB_bool, cvi_int, lenS_mk, lenT_mk, ext0, ext1, ext2, nilP_mk, nilS_mk, fldv_agg, jn0_k, jn1_k, jn2_k, jn1_and, jn1_or, ex_some, Option.isNone_some, Option.isNone_none, Bool.false_bne, Bool.bne_true, Bool.bne_false, Bool.true_bne, Bool.not_true, Bool.not_false, Bool.and_true, Bool.true_and, Bool.and_false, Bool.false_and, Bool.or_true, Bool.true_or, Bool.or_false, Bool.false_or, cond_true, cond_false, List.getElem?_toArray, List.getElem?_cons_zero, List.getElem?_cons_succ, Nat.zero_add, Nat.add_zero, Nat.reduceAdd, forall_const]
    exact lv hs2.fr0
  | true =>
    obtain ⟨h30, hlen⟩ := ht rfl
    simp only [nilc_some, fad_mk, pik_true, pik_false, cnd_true, cnd_false, gif_same, gif_tf, gif_ft, gif_undef, bi_add, bi_sub, bi_mul, bi_eql, bi_neq, bi_lss, bi_leq, bi_gtr, bi_geq, notB_bool, cvi_int, lenS_mk, lenT_mk, ext0, ext1, ext2, nilP_mk, nilS_mk, fldv_agg, jn0_k, jn1_k, jn2_k, jn1_and, jn1_or, ex_some, Option.isNone_some, Option.isNone_none, Bool.false_bne, Bool.bne_true, Bool.bne_false, Bool.true_bne, Bool.not_true, Bool.not_false, Bool.and_true, Bool.true_and, Bool.and_false, Bool.false_and, Bool.or_true, Bool.true_or, Bool.or_false, Bool.false_or, cond_true, cond_false, List.getElem?_toArray, List.getElem?_cons_zero, List.getElem?_cons_succ, Nat.zero_add, Nat.add_zero, Nat.reduceAdd, forall_const]
    refine cal_i (recLay_spec (hc.fr hs2.fr0) (hr.fr hs2.fr0) (by omega) hh) ?_
    rintro _ w3 ⟨s3, rfl, hs3⟩
    replace hs3 := hs2.join hs3
    by_cases hok : layOk (l.map (·.1))
    case neg =>
      have he : layE (l.map (·.1)) = 30 := if_neg hok
      have ho : layO (l.map (·.1)) = [] := if_neg hok
      rw [ho] at hs3
      simp only [he, nilc_some, fad_mk, pik_true, pik_false, cnd_true, cnd_false, gif_same, gif_tf, gif_ft, gif_undef, bi_add, bi_sub, bi_mul, bi_eql, bi_neq, bi_lss, bi_leq, bi_gtr, bi_geq, notB_bool, cvi_int, lenS_mk, lenT_mk, ext0, ext1, ext2, nilP_mk, nilS_mk, fldv_agg, jn0_k, jn1_k, jn2_k, jn1_and, jn1_or, ex_some, Option.isNone_some, Option.isNone_none, Bool.false_bne, Bool.bne_true, Bool.bne_false, Bool.true_bne, Bool.not_true, Bool.not_false, Bool.and_true, Bool.true_and, Bool.and_false, Bool.false_and, Bool.or_true, Bool.true_or, Bool.or_false, Bool.false_or, cond_true, cond_false, List.getElem?_toArray, List.getElem?_cons_zero, List.getElem?_cons_succ, Nat.zero_add, Nat.add_zero, Nat.reduceAdd, forall_const, show ((30 : Int) != 0) = true from rfl, (Sep.rd hs3).len]
      exact hR _ _ ⟨rfl, hs3.fr0⟩
    have he : layE (l.map (·.1)) = 0 := if_pos hok
    have ho : layO (l.map (·.1)) = layL (l.map (·.1)) := if_pos hok
    rw [ho] at hs3
    rw [he]
    obtain ⟨L, hL⟩ : ∃ L, L = l.map (·.1) := ⟨_, rfl⟩
    rw [← hL] at hs3 hok
    have hgl : goodB L := by rw [hL]; exact goodB_of hh (by rw [← hL]; exact hok)
    have hLl : L.length = l.length := by rw [hL]; simp
    have hlb := layL_len L hok
    have hg : ∀ {i : Nat} {x : BV}, l[i]? = some x → L[i]? = some x.1 := fun {i x} hx => by rw [hL, List.getElem?_map, hx]; rfl
    obtain ⟨k, hk⟩ : ∃ k, k = cut % ((layL L).length + 1) := ⟨_, rfl⟩
    have hkl : k ≤ (layL L).length := by rw [hk]; have := Nat.mod_lt cut (show (layL L).length + 1 > 0 by omega); omega
    have hn1 : IntKind.i64.wrap (((layL L).length : Int) + 1) ≠ 0 := by rw [wi64 (by omega) (by omega)]; omega
    have ek : Int.tmod (IntKind.i64.wrap (cut : Int)) (IntKind.i64.wrap (((layL L).length : Int) + 1)) = (k : Int) := by
      rw [wi64 (by omega) (by omega), wi64 (by omega) (by omega), hk]; rfl
    simp only [nilc_some, fad_mk, pik_true, pik_false, cnd_true, cnd_false, gif_same, gif_tf, gif_ft, gif_undef, bi_add, bi_sub, bi_mul, bi_eql, bi_neq, bi_lss, bi_leq, bi_gtr, bi_geq, notB_bool, cvi_int, lenS_mk, lenT_mk, ext0, ext1, ext2, nilP_mk, nilS_mk, fldv_agg, jn0_k, jn1_k, jn2_k, jn1_and, jn1_or, ex_some, Option.isNone_some, Option.isNone_none, Bool.false_bne, Bool.bne_true, Bool.bne_false, Bool.true_bne, Bool.not_true, Bool.not_false, Bool.and_true, Bool.true_and, Bool.and_false, Bool.false_and, Bool.or_true, Bool.true_or, Bool.or_false, Bool.false_or, cond_true, cond_false, List.getElem?_toArray, List.getElem?_cons_zero, List.getElem?_cons_succ, Nat.zero_add, Nat.add_zero, Nat.reduceAdd, forall_const, show ((0 : Int) != 0) = false from rfl, (Sep.rd hs3).len]
    rw [bi_rem .i64 _ _ _ hn1, ek]
    refine ⟨fun x y w' => ∃ n : Nat, x = .int .i64 n ∧ y = .int .i64 (layL (L.take n)).length ∧ n ≤ L.length ∧ (layL (L.take n)).length ≤ k ∧ Sep w w' [ownB s3 (layL L)], fun x _ _ => (L.length - RowKit.intOf x).toNat, ⟨0, rfl, by simp [layL], by omega, by simp [layL], hs3⟩, ?_⟩
    rintro _ _ w4 ⟨n, rfl, rfl, hn, hnk, hs4⟩ -
    have htk := layL_len (L.take n) (fun b hb => hok b (List.mem_of_mem_take hb))
    have htl : (L.take n).length ≤ 30 := by simp; omega
    simp only [hr.len, nilc_some, fad_mk, pik_true, pik_false, cnd_true, cnd_false, gif_same, gif_tf, gif_ft, gif_undef, bi_add, bi_sub, bi_mul, bi_eql, bi_neq, bi_lss, bi_leq, bi_gtr, bi_geq, notB_bool, cvi_int, lenS_mk, lenT_mk, ext0, ext1, ext2, nilP_mk, nilS_mk, fldv_agg, jn0_k, jn1_k, jn2_k, jn1_and, jn1_or, ex_some, Option.isNone_some, Option.isNone_none, Bool.false_bne, Bool.bne_true, Bool.bne_false, Bool.true_bne, Bool.not_true, Bool.not_false, Bool.and_true, Bool.true_and, Bool.and_false, Bool.false_and, Bool.or_true, Bool.true_or, Bool.or_false, Bool.false_or, cond_true, cond_false, List.getElem?_toArray, List.getElem?_cons_zero, List.getElem?_cons_succ, Nat.zero_add, Nat.add_zero, Nat.reduceAdd, forall_const]
    -- the end
    have fin : ∀ {z : World}, Sep w z [ownB s3 (layL L)] → (∀ b, L[n]? = some b → k - (layL (L.take n)).length < b.rcd.length) → slc 1 s3 none (some (.int .i64 (k : Int))) fun t63 => cal P f_rec_Scan [t63] z fun t64 w =>
        ext 0 t64 fun t65 => ext 1 t64 fun t66 => slc 1 s3 none (some (.int .i64 (k : Int))) fun t70 => cal P f_rec_Take [t70, t66] w fun t72 w =>
        ext 0 t72 fun t73 => ext 1 t72 fun t74 => ext 2 t72 fun t75 => slc 34 u none (some (.int .i64 (n : Int))) fun t79 => cal P f_ref09_SameAll [t65, t79] w fun t80 w =>
        jn1 (fun k3 => gif t80 true (bi BinOp.eql t66 (.int .i64 (layL (L.take n)).length) fun t84 => k3 t84 w) (k3 undef w)) fun _ t84_1 w =>
        pik t80 t84_1 (Value.bool false) fun t85 => jn1 (fun k4 => gif t85 true (bi BinOp.eql t75 (Value.int IntKind.i64 11) fun t88 => k4 t88 w) (k4 undef w)) fun _ t88_1 w => pik t85 t88_1 (Value.bool false) fun t89 => R t89 w := fun {z} hz hlast => by
      obtain ⟨a3, c3, rfl, hac⟩ := Sep.form hz
      rw [slc_to (by omega)]
      have hrk : ∀ {z' : World}, Sep w z' [ownB (.slice a3 (layL L).length c3) (layL L)] → RdB z'.heap (.slice a3 k c3) ((layL L).take k) := fun {z'} h => (Sep.rd h).take hkl c3
      obtain ⟨hscn, htake⟩ := scan_cut hgl hkl hn hnk hlast
      have hlk : ((layL L).take k).length = k := by simp; omega
      refine cal_i (Scan_spec (hc.fr hz.fr0) (hrk hz) (cap_of (by omega)) (by omega)) ?_
      rintro _ w5 ⟨x5, B5, rfl, hsc5, hs5⟩
      have hB5 := hsc5.uniq hscn
      have hs35 := hz.old hs5.fr0
      have hr5 : BRows w5.heap x5 B5 := brow_rd (Bs := []) (by rw [List.append_nil]; exact hs5)
      rw [hB5]
      simp only [nilc_some, fad_mk, pik_true, pik_false, cnd_true, cnd_false, gif_same, gif_tf, gif_ft, gif_undef, bi_add, bi_sub, bi_mul, bi_eql, bi_neq, bi_lss, bi_leq, bi_gtr, bi_geq, notB_bool, cvi_int, lenS_mk, lenT_mk, ext0, ext1, ext2, nilP_mk, nilS_mk, fldv_agg, jn0_k, jn1_k, jn2_k, jn1_and, jn1_or, ex_some, Option.isNone_some, Option.isNone_none, Bool.false_bne, Bool.bne_true, Bool.bne_false, Bool.true_bne, Bool.not_true, Bool.not_false, Bool.and_true, Bool.true_and, Bool.and_false, Bool.false_and, Bool.or_true, Bool.true_or, Bool.or_false, Bool.false_or, cond_true, cond_false, List.getElem?_toArray, List.getElem?_cons_zero, List.getElem?_cons_succ, Nat.zero_add, Nat.add_zero, Nat.reduceAdd, forall_const]
      rw [slc_to (by omega)]
      refine cal_i (recTake_spec (a := ((layL (L.take n)).length : Nat)) (hc.fr hs35.fr0) (hrk hs35) (cap_of (by omega)) (by omega) (by omega)) ?_
      rintro _ w6 ⟨v6, rfl, hs6⟩
      have hs36 := hs35.old hs6.fr0
      rw [takeX_at (by omega), htake]
      simp only [nilc_some, fad_mk, pik_true, pik_false, cnd_true, cnd_false, gif_same, gif_tf, gif_ft, gif_undef, bi_add, bi_sub, bi_mul, bi_eql, bi_neq, bi_lss, bi_leq, bi_gtr, bi_geq, notB_bool, cvi_int, lenS_mk, lenT_mk, ext0, ext1, ext2, nilP_mk, nilS_mk, fldv_agg, jn0_k, jn1_k, jn2_k, jn1_and, jn1_or, ex_some, Option.isNone_some, Option.isNone_none, Bool.false_bne, Bool.bne_true, Bool.bne_false, Bool.true_bne, Bool.not_true, Bool.not_false, Bool.and_true, Bool.true_and, Bool.and_false, Bool.false_and, Bool.or_true, Bool.true_or, Bool.or_false, Bool.false_or, cond_true, cond_false, List.getElem?_toArray, List.getElem?_cons_zero, List.getElem?_cons_succ, Nat.zero_add, Nat.add_zero, Nat.reduceAdd, forall_const]
      obtain ⟨av, cv, rfl⟩ : ∃ a c, u = .slice a l.length c := by
        obtain ⟨a, c, hv, _⟩ := hr.1
        rw [List.length_map] at hv
        exact ⟨a, c, hv⟩
      have hcv : l.length ≤ cv := hcap _ _ _ rfl
      rw [slc_to (by omega)]
      have hBl : B5.length ≤ 30 := by have := congrArg List.length hB5; simp at this; omega
      refine cal_i (SameAll_spec (hr5.fr hs6.fr0) ((hr.fr hs36.fr0).cut (k := n) (by omega) cv) (by omega)) ?_
      rintro _ w7 ⟨rfl, hf7⟩
      have e1 : B5.map (·.1) = (l.take n).map (·.1) := by rw [hB5, hL, List.map_take]
      rw [decide_eq_true e1]
      simp only [nilc_some, fad_mk, pik_true, pik_false, cnd_true, cnd_false, gif_same, gif_tf, gif_ft, gif_undef, bi_add, bi_sub, bi_mul, bi_eql, bi_neq, bi_lss, bi_leq, bi_gtr, bi_geq, notB_bool, cvi_int, lenS_mk, lenT_mk, ext0, ext1, ext2, nilP_mk, nilS_mk, fldv_agg, jn0_k, jn1_k, jn2_k, jn1_and, jn1_or, ex_some, Option.isNone_some, Option.isNone_none, Bool.false_bne, Bool.bne_true, Bool.bne_false, Bool.true_bne, Bool.not_true, Bool.not_false, Bool.and_true, Bool.true_and, Bool.and_false, Bool.false_and, Bool.or_true, Bool.true_or, Bool.or_false, Bool.false_or, cond_true, cond_false, List.getElem?_toArray, List.getElem?_cons_zero, List.getElem?_cons_succ, Nat.zero_add, Nat.add_zero, Nat.reduceAdd, forall_const, beq_self_eq_true]
      exact hR _ _ ⟨rfl, (hs36.old hf7).fr0⟩
    by_cases hlt : n < l.length
    · have e0 : decide ((n : Int) < (l.length : Int)) = true := by simp; omega
      have hx := List.getElem?_eq_getElem hlt
      generalize l[n] = x at hx
      have hm := List.mem_of_getElem? hx
      have hLx := hg hx
      have hxr : x.1.recO = x.1.rcd := if_pos (hok _ (List.mem_of_getElem? hLx))
      have hxl := x.1.recO_le
      rw [hxr] at hxl
      simp only [e0, nilc_some, fad_mk, pik_true, pik_false, cnd_true, cnd_false, gif_same, gif_tf, gif_ft, gif_undef, bi_add, bi_sub, bi_mul, bi_eql, bi_neq, bi_lss, bi_leq, bi_gtr, bi_geq, notB_bool, cvi_int, lenS_mk, lenT_mk, ext0, ext1, ext2, nilP_mk, nilS_mk, fldv_agg, jn0_k, jn1_k, jn2_k, jn1_and, jn1_or, ex_some, Option.isNone_some, Option.isNone_none, Bool.false_bne, Bool.bne_true, Bool.bne_false, Bool.true_bne, Bool.not_true, Bool.not_false, Bool.and_true, Bool.true_and, Bool.and_false, Bool.false_and, Bool.or_true, Bool.true_or, Bool.or_false, Bool.false_or, cond_true, cond_false, List.getElem?_toArray, List.getElem?_cons_zero, List.getElem?_cons_succ, Nat.zero_add, Nat.add_zero, Nat.reduceAdd, forall_const]
      refine jn1_dup ?_
      refine (hr.fr hs4.fr0).ld hx .i64 ?_
      refine cal_i (recSize_spec (b := x.1) (hs4.rdB (hr.get hx))) ?_
      rintro _ w5 ⟨rfl, hf5⟩
      have hs5 := hs4.old hf5
      rw [hxr]
      have e2 : IntKind.i64.wrap ((k : Int) - ((layL (L.take n)).length : Int)) = (k : Int) - ((layL (L.take n)).length : Int) := wi64 (by omega) (by omega)
      simp only [nilc_some, fad_mk, pik_true, pik_false, cnd_true, cnd_false, gif_same, gif_tf, gif_ft, gif_undef, bi_add, bi_sub, bi_mul, bi_eql, bi_neq, bi_lss, bi_leq, bi_gtr, bi_geq, notB_bool, cvi_int, lenS_mk, lenT_mk, ext0, ext1, ext2, nilP_mk, nilS_mk, fldv_agg, jn0_k, jn1_k, jn2_k, jn1_and, jn1_or, ex_some, Option.isNone_some, Option.isNone_none, Bool.false_bne, Bool.bne_true, Bool.bne_false, Bool.true_bne, Bool.not_true, Bool.not_false, Bool.and_true, Bool.true_and, Bool.and_false, Bool.false_and, Bool.or_true, Bool.true_or, Bool.or_false, Bool.false_or, cond_true, cond_false, List.getElem?_toArray, List.getElem?_cons_zero, List.getElem?_cons_succ, Nat.zero_add, Nat.add_zero, Nat.reduceAdd, forall_const, e2]
      rw [cnd_bool]
      refine ⟨fun hle => ?_, fun hgt => ?_⟩
      · have hle : x.1.rcd.length ≤ k - (layL (L.take n)).length := by simp at hle; omega
        refine (hr.fr hs5.fr0).ld hx .i64 ?_
        refine cal_i (recSize_spec (b := x.1) (hs5.rdB (hr.get hx))) ?_
        rintro _ w6 ⟨rfl, hf6⟩
        have hs6 := hs5.old hf6
        rw [hxr]
        simp only [nilc_some, fad_mk, pik_true, pik_false, cnd_true, cnd_false, gif_same, gif_tf, gif_ft, gif_undef, bi_add, bi_sub, bi_mul, bi_eql, bi_neq, bi_lss, bi_leq, bi_gtr, bi_geq, notB_bool, cvi_int, lenS_mk, lenT_mk, ext0, ext1, ext2, nilP_mk, nilS_mk, fldv_agg, jn0_k, jn1_k, jn2_k, jn1_and, jn1_or, ex_some, Option.isNone_some, Option.isNone_none, Bool.false_bne, Bool.bne_true, Bool.bne_false, Bool.true_bne, Bool.not_true, Bool.not_false, Bool.and_true, Bool.true_and, Bool.and_false, Bool.false_and, Bool.or_true, Bool.true_or, Bool.or_false, Bool.false_or, cond_true, cond_false, List.getElem?_toArray, List.getElem?_cons_zero, List.getElem?_cons_succ, Nat.zero_add, Nat.add_zero, Nat.reduceAdd, forall_const]
        rw [wi64 (x := (n : Int) + 1) (by omega) (by omega), wi64 (by omega) (by omega)]
        have ht := layL_take hLx
        have htl' := congrArg List.length ht
        rw [List.length_append] at htl'
        exact ⟨⟨n + 1, by simp, by congr 1; omega, by omega, by omega, hs6⟩, by simp [RowKit.intOf]; omega⟩
      · have hgt : k - (layL (L.take n)).length < x.1.rcd.length := by simp at hgt; omega
        exact fin hs5 fun b hb => by
          rw [hLx] at hb
          cases hb
          exact hgt
    · have e0 : decide ((n : Int) < (l.length : Int)) = false := by simp; omega
      simp only [e0, nilc_some, fad_mk, pik_true, pik_false, cnd_true, cnd_false, gif_same, gif_tf, gif_ft, gif_undef, bi_add, bi_sub, bi_mul, bi_eql, bi_neq, bi_lss, bi_leq, bi_gtr, bi_geq, notB_bool, cvi_int, lenS_mk, lenT_mk, ext0, ext1, ext2, nilP_mk, nilS_mk, fldv_agg, jn0_k, jn1_k, jn2_k, jn1_and, jn1_or, ex_some, Option.isNone_some, Option.isNone_none, Bool.false_bne, Bool.bne_true, Bool.bne_false, Bool.true_bne, Bool.not_true, Bool.not_false, Bool.and_true, Bool.true_and, Bool.and_false, Bool.false_and, Bool.or_true, Bool.true_or, Bool.or_false, Bool.false_or, cond_true, cond_false, List.getElem?_toArray, List.getElem?_cons_zero, List.getElem?_cons_succ, Nat.zero_add, Nat.add_zero, Nat.reduceAdd, forall_const]
      exact fin hs4 fun b hb => by
        have := (List.getElem?_eq_some_iff.1 hb).1
        omega
end Go.Fx
