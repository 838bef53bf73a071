/-
  What is proved: for every script the law TapeKeeps returns true, and its argument reads as it did. Conditions: none.
-/
import Derived.Test.YtiipcclmmhkggaaLw8C
import Derived.Test.YtiipcclmmhkggaaBase
set_option linter.unusedVariables false
set_option linter.unusedSimpArgs false
namespace Go.Fx
/-- What comes of a piece. -/
theorem Tp.append_comes {x : Tp} (hx : x.Ok) (hm : x.made = true) (a : List UInt8) : ∃ m, m ≤ a.length ∧ (x.append a).1.b = x.b ++ a.take m ∧
    (((x.append a).2 = 0 ∧ m = a.length) ∨ ((x.append a).2 = 5 ∧ (0 < a.length → m < a.length)) ∨ (x.append a).2 = 6) := by
  obtain ⟨h1, h2, h3⟩ := hx
  unfold Tp.append
  by_cases hmay : x.may = 0
  · rw [if_neg (by simpa using hmay)]
    split
    · exact ⟨0, by omega, by simp, .inr (.inr rfl)⟩
    · split
      · exact ⟨a.length, by omega, by simp, .inl ⟨rfl, rfl⟩⟩
      · split
        · exact ⟨a.length, by omega, by simp, .inl ⟨rfl, rfl⟩⟩
        · exact ⟨x.armed.toNat, by omega, rfl, .inr (.inl ⟨rfl, fun _ => by omega⟩)⟩
  · have h5 : x.may = 5 := by
      obtain ⟨b, armed, off, made⟩ := x
      simp only at hm
      subst hm
      cases off <;> simp [Tp.may] at hmay ⊢
    rw [if_pos hmay]
    exact ⟨0, by omega, by simp, .inr (.inl ⟨h5, id⟩)⟩
theorem joined_le {l : List (Sl UInt8)} {n : Nat} (h : ∀ b ∈ l, b.l.length ≤ n) : (joined l).length ≤ l.length * n := by
  induction l with
  | nil => simp [joined]
  | cons a l ih =>
    have h1 := h a (by simp)
    have h2 := ih fun b hb => h b (by simp [hb])
    have h3 : (joined (a :: l)).length = a.l.length + (joined l).length := by simp [joined]
    rw [h3, List.length_cons, Nat.succ_mul]
    omega
theorem TapeKeeps_walk {w : World} {s : Sl Op8} (hl : R_sl_flurrylaw08_Op.ok w.heap s) : cal P f_law08_TapeKeeps [s.v] w fun r w' => r = .bool true ∧ Fr [] w w' := by
  refine s_law08_TapeKeeps fun R hR => ?_
  unfold c_law08_TapeKeeps
  refine cal_i (few_spec hl) ?_
  rintro r w1 ⟨hf1, hfew⟩
  rcases hfew with rfl | ⟨lv, rfl, hlk, hbnd⟩
  · simp only [nilc_some, fad_mk, pik_true, pik_false, cnd_true, cnd_false, gif_same, gif_tf, gif_ft, gif_undef, bi_add, bi_sub, bi_mul, bi_eql, bi_neq, bi_lss, bi_leq, bi_gtr, bi_geq, notB_bool, cvi_int, lenS_mk, lenT_mk, ext0, ext1, ext2, nilP_mk, nilS_mk, fldv_agg, jn0_k, jn1_k, jn2_k, jn1_and, jn1_or, ex_some, Option.isNone_some, Option.isNone_none, Bool.false_bne, Bool.bne_true, Bool.bne_false, Bool.true_bne, Bool.not_true, Bool.not_false, Bool.and_true, Bool.true_and, Bool.and_false, Bool.false_and, Bool.or_true, Bool.true_or, Bool.or_false, Bool.false_or, cond_true, cond_false, List.getElem?_toArray, List.getElem?_cons_zero, List.getElem?_cons_succ, Nat.zero_add, Nat.add_zero, Nat.reduceAdd, forall_const]
    refine cal_i New_spec ?_
    rintro p w2 hs2
    have hs2 : Sep w w2 [tp p ⟨[], -1, false, true⟩] := ((Sep.start w).old hf1).join hs2
    refine cal_i begun_spec ?_
    rintro _ w3 ⟨rfl, hf3⟩
    have hs3 := hs2.old hf3
    simp only [nilc_some, fad_mk, pik_true, pik_false, cnd_true, cnd_false, gif_same, gif_tf, gif_ft, gif_undef, bi_add, bi_sub, bi_mul, bi_eql, bi_neq, bi_lss, bi_leq, bi_gtr, bi_geq, notB_bool, cvi_int, lenS_mk, lenT_mk, ext0, ext1, ext2, nilP_mk, nilS_mk, fldv_agg, jn0_k, jn1_k, jn2_k, jn1_and, jn1_or, ex_some, Option.isNone_some, Option.isNone_none, Bool.false_bne, Bool.bne_true, Bool.bne_false, Bool.true_bne, Bool.not_true, Bool.not_false, Bool.and_true, Bool.true_and, Bool.and_false, Bool.false_and, Bool.or_true, Bool.true_or, Bool.or_false, Bool.false_or, cond_true, cond_false, List.getElem?_toArray, List.getElem?_cons_zero, List.getElem?_cons_succ, Nat.zero_add, Nat.add_zero, Nat.reduceAdd, forall_const, tp_nilP hs3]
    refine cal_i begun_spec ?_
    rintro _ w4 ⟨rfl, hf4⟩
    simp only [nilc_some, fad_mk, pik_true, pik_false, cnd_true, cnd_false, gif_same, gif_tf, gif_ft, gif_undef, bi_add, bi_sub, bi_mul, bi_eql, bi_neq, bi_lss, bi_leq, bi_gtr, bi_geq, notB_bool, cvi_int, lenS_mk, lenT_mk, ext0, ext1, ext2, nilP_mk, nilS_mk, fldv_agg, jn0_k, jn1_k, jn2_k, jn1_and, jn1_or, ex_some, Option.isNone_some, Option.isNone_none, Bool.false_bne, Bool.bne_true, Bool.bne_false, Bool.true_bne, Bool.not_true, Bool.not_false, Bool.and_true, Bool.true_and, Bool.and_false, Bool.false_and, Bool.or_true, Bool.true_or, Bool.or_false, Bool.false_or, cond_true, cond_false, List.getElem?_toArray, List.getElem?_cons_zero, List.getElem?_cons_succ, Nat.zero_add, Nat.add_zero, Nat.reduceAdd, forall_const]
    exact hR _ _ ⟨rfl, (hs3.old hf4).fr0⟩
  simp only [nilc_some, fad_mk, pik_true, pik_false, cnd_true, cnd_false, gif_same, gif_tf, gif_ft, gif_undef, bi_add, bi_sub, bi_mul, bi_eql, bi_neq, bi_lss, bi_leq, bi_gtr, bi_geq, notB_bool, cvi_int, lenS_mk, lenT_mk, ext0, ext1, ext2, nilP_mk, nilS_mk, fldv_agg, jn0_k, jn1_k, jn2_k, jn1_and, jn1_or, ex_some, Option.isNone_some, Option.isNone_none, Bool.false_bne, Bool.bne_true, Bool.bne_false, Bool.true_bne, Bool.not_true, Bool.not_false, Bool.and_true, Bool.true_and, Bool.and_false, Bool.false_and, Bool.or_true, Bool.true_or, Bool.or_false, Bool.false_or, cond_true, cond_false, List.getElem?_toArray, List.getElem?_cons_zero, List.getElem?_cons_succ, Nat.zero_add, Nat.add_zero, Nat.reduceAdd, forall_const]
  refine cal_i New_spec ?_
  rintro p w2 hs2
  have hs2 : Sep w w2 [tp p ⟨[], -1, false, true⟩] := ((Sep.start w).old hf1).join hs2
  refine cal_i begun_spec ?_
  rintro _ w3 ⟨rfl, hf3⟩
  have hs3 := hs2.old hf3
  have hlw : ∀ w', Fr [] w w' → R_sl_flurrylaw08_Op.ok w'.heap ⟨lv, s.l.take 60⟩ := fun w' hf => R_sl_flurrylaw08_Op.fr hlk hf
  simp only [nilc_some, fad_mk, pik_true, pik_false, cnd_true, cnd_false, gif_same, gif_tf, gif_ft, gif_undef, bi_add, bi_sub, bi_mul, bi_eql, bi_neq, bi_lss, bi_leq, bi_gtr, bi_geq, notB_bool, cvi_int, lenS_mk, lenT_mk, ext0, ext1, ext2, nilP_mk, nilS_mk, fldv_agg, jn0_k, jn1_k, jn2_k, jn1_and, jn1_or, ex_some, Option.isNone_some, Option.isNone_none, Bool.false_bne, Bool.bne_true, Bool.bne_false, Bool.true_bne, Bool.not_true, Bool.not_false, Bool.and_true, Bool.true_and, Bool.and_false, Bool.false_and, Bool.or_true, Bool.true_or, Bool.or_false, Bool.false_or, cond_true, cond_false, List.getElem?_toArray, List.getElem?_cons_zero, List.getElem?_cons_succ, Nat.zero_add, Nat.add_zero, Nat.reduceAdd, forall_const, tp_nilP hs3, rSl_len (s := ⟨lv, s.l.take 60⟩) hlk]
  generalize hL : s.l.take 60 = L at *
  have hLl : L.length ≤ 60 := by rw [← hL]; simp; omega
  refine ⟨fun y j w' => ∃ (i : Nat) (x : Tp), i ≤ L.length ∧ j = .int .i64 i ∧ x.Ok ∧ x.made = true ∧ Sep w w' [tp p x, ownB y x.b], fun _ j _ => (L.length - RowKit.intOf j).toNat,
    ⟨0, _, by omega, rfl, ⟨by simp, by simp, by simp⟩, rfl, hs3.nil.p1⟩, ?_⟩
  rintro y _ w7 ⟨i, x, hi, rfl, hx, hm, hs7⟩ -
  simp only [nilc_some, fad_mk, pik_true, pik_false, cnd_true, cnd_false, gif_same, gif_tf, gif_ft, gif_undef, bi_add, bi_sub, bi_mul, bi_eql, bi_neq, bi_lss, bi_leq, bi_gtr, bi_geq, notB_bool, cvi_int, lenS_mk, lenT_mk, ext0, ext1, ext2, nilP_mk, nilS_mk, fldv_agg, jn0_k, jn1_k, jn2_k, jn1_and, jn1_or, ex_some, Option.isNone_some, Option.isNone_none, Bool.false_bne, Bool.bne_true, Bool.bne_false, Bool.true_bne, Bool.not_true, Bool.not_false, Bool.and_true, Bool.true_and, Bool.and_false, Bool.false_and, Bool.or_true, Bool.true_or, Bool.or_false, Bool.false_or, cond_true, cond_false, List.getElem?_toArray, List.getElem?_cons_zero, List.getElem?_cons_succ, Nat.zero_add, Nat.add_zero, Nat.reduceAdd, forall_const]
  rw [cnd_bool]
  refine ⟨fun h => ?_, fun h => hR _ _ ⟨rfl, hs7.fr0⟩⟩
  have hlt : i < L.length := by simpa using h
  obtain ⟨o, ho⟩ : ∃ o, L[i]? = some o := ⟨_, List.getElem?_eq_getElem hlt⟩
  obtain ⟨hb1, hb2⟩ := hbnd o (List.mem_of_getElem? ho)
  have hok7 := rSl_ok (hlw w7 hs7.fr0) ho
  refine rSl_ldN (r := R_flurrylaw08_Op) (s := ⟨lv, L⟩) (hlw w7 hs7.fr0) (by decide) ho ?_
  refine copy_s (r := R_flurrylaw08_Op) hs7 (al_flurrylaw08_Op w7) rfl rfl hok7 fun g w8 hs8 => ?_
  have hg : w8.heap[g]? = some (.cells #[.int .i64 o.1, .int .i64 o.2.1, o.2.2.v] T_flurrylaw08_Op (0, 0)) := hs8.blk
  have hon : o.2.1 ≤ 9223372036854775807 := (bounds_i64 hok7.2.1).2
  have hoL : ∀ w', Fr [] w w' → R_sl_sl_uint8.ok w'.heap o.2.2 := fun w' hf => (rSl_ok (hlw w' hf) ho).2.2
  have hjl := joined_le hb2
  have hjl2 : (joined o.2.2.l).length ≤ 4000 := Nat.le_trans hjl (by have := Nat.mul_le_mul_right 200 hb1; omega)
  refine ⟨fun y' w' => ∃ x' : Tp, x'.Ok ∧ x'.made = true ∧ Sep w w' [tp p x', ownB y' x'.b], ?_, ?_⟩
  · simp only [nilc_some, fad_mk, pik_true, pik_false, cnd_true, cnd_false, gif_same, gif_tf, gif_ft, gif_undef, bi_add, bi_sub, bi_mul, bi_eql, bi_neq, bi_lss, bi_leq, bi_gtr, bi_geq, notB_bool, cvi_int, lenS_mk, lenT_mk, ext0, ext1, ext2, nilP_mk, nilS_mk, fldv_agg, jn0_k, jn1_k, jn2_k, jn1_and, jn1_or, ex_some, Option.isNone_some, Option.isNone_none, Bool.false_bne, Bool.bne_true, Bool.bne_false, Bool.true_bne, Bool.not_true, Bool.not_false, Bool.and_true, Bool.true_and, Bool.and_false, Bool.false_and, Bool.or_true, Bool.true_or, Bool.or_false, Bool.false_or, cond_true, cond_false, List.getElem?_toArray, List.getElem?_cons_zero, List.getElem?_cons_succ, Nat.zero_add, Nat.add_zero, Nat.reduceAdd, forall_const, ld1_eq hg]
    rw [cnd_bool]
    refine ⟨fun h => ?_, fun h0 => ?_⟩
    · refine cal_i (Join_spec (hoL _ hs8.fr0) (by omega)) ?_
      rintro jv w9 hs9
      have hs9 := hs8.join hs9
      have hg9 : w9.heap[g]? = some (.cells #[.int .i64 o.1, .int .i64 o.2.1, o.2.2.v] T_flurrylaw08_Op (0, 0)) := (Sep.p1 hs9).blk
      simp only [nilc_some, fad_mk, pik_true, pik_false, cnd_true, cnd_false, gif_same, gif_tf, gif_ft, gif_undef, bi_add, bi_sub, bi_mul, bi_eql, bi_neq, bi_lss, bi_leq, bi_gtr, bi_geq, notB_bool, cvi_int, lenS_mk, lenT_mk, ext0, ext1, ext2, nilP_mk, nilS_mk, fldv_agg, jn0_k, jn1_k, jn2_k, jn1_and, jn1_or, ex_some, Option.isNone_some, Option.isNone_none, Bool.false_bne, Bool.bne_true, Bool.bne_false, Bool.true_bne, Bool.not_true, Bool.not_false, Bool.and_true, Bool.true_and, Bool.and_false, Bool.false_and, Bool.or_true, Bool.true_or, Bool.or_false, Bool.false_or, cond_true, cond_false, List.getElem?_toArray, List.getElem?_cons_zero, List.getElem?_cons_succ, Nat.zero_add, Nat.add_zero, Nat.reduceAdd, forall_const, ld1_eq hg9]
      refine cal_i (Append_spec (s := o.2.2) (Sep.p2 hs9) hx fun w' h => hoL w' h.fr0) ?_
      rintro _ w10 ⟨rfl, hs10⟩
      have hx' := Tp.append_ok hx (joined o.2.2.l)
      have hm' := (Tp.append_made x (joined o.2.2.l)).trans hm
      refine cal_i (Bytes_spec hs10 hx' hm') ?_
      rintro nv w11 hs11
      have hs11 := hs10.join hs11
      obtain ⟨m, hml, hxb, hcase⟩ := Tp.append_comes hx hm (joined o.2.2.l)
      generalize hX : x.append (joined o.2.2.l) = X at *
      obtain ⟨x', e⟩ := X
      simp only at hxb hcase hs11 hx' hm'
      have hyr := (Sep.p4 hs11).rd
      have hjr := (Sep.p2 hs11).rd
      have hjc := (Sep.p2 hs11).capB
      obtain ⟨na, nc, rfl, hnc⟩ := Sep.form hs11
      have hnr := Sep.rd hs11
      have hbl : x'.b.length = x.b.length + m := by rw [hxb]; simp; omega
      have e1 : decide (((x'.b.length : Nat) : Int) < x.b.length) = false := by simp; omega
      simp only [nilc_some, fad_mk, pik_true, pik_false, cnd_true, cnd_false, gif_same, gif_tf, gif_ft, gif_undef, bi_add, bi_sub, bi_mul, bi_eql, bi_neq, bi_lss, bi_leq, bi_gtr, bi_geq, notB_bool, cvi_int, lenS_mk, lenT_mk, ext0, ext1, ext2, nilP_mk, nilS_mk, fldv_agg, jn0_k, jn1_k, jn2_k, jn1_and, jn1_or, ex_some, Option.isNone_some, Option.isNone_none, Bool.false_bne, Bool.bne_true, Bool.bne_false, Bool.true_bne, Bool.not_true, Bool.not_false, Bool.and_true, Bool.true_and, Bool.and_false, Bool.false_and, Bool.or_true, Bool.true_or, Bool.or_false, Bool.false_or, cond_true, cond_false, List.getElem?_toArray, List.getElem?_cons_zero, List.getElem?_cons_succ, Nat.zero_add, Nat.add_zero, Nat.reduceAdd, forall_const, hyr.len, e1]
      refine jn1_dup ?_
      rw [slc_to (by omega)]
      refine (cal_i (Equal_spec (hnr.take (k := x.b.length) (by omega) nc) hyr) ?_)
      rintro _ _ ⟨rfl, rfl⟩
      have e2 : (List.take x.b.length x'.b == x.b) = true := by rw [hxb, List.take_left' rfl]; simp
      simp only [nilc_some, fad_mk, pik_true, pik_false, cnd_true, cnd_false, gif_same, gif_tf, gif_ft, gif_undef, bi_add, bi_sub, bi_mul, bi_eql, bi_neq, bi_lss, bi_leq, bi_gtr, bi_geq, notB_bool, cvi_int, lenS_mk, lenT_mk, ext0, ext1, ext2, nilP_mk, nilS_mk, fldv_agg, jn0_k, jn1_k, jn2_k, jn1_and, jn1_or, ex_some, Option.isNone_some, Option.isNone_none, Bool.false_bne, Bool.bne_true, Bool.bne_false, Bool.true_bne, Bool.not_true, Bool.not_false, Bool.and_true, Bool.true_and, Bool.and_false, Bool.false_and, Bool.or_true, Bool.true_or, Bool.or_false, Bool.false_or, cond_true, cond_false, List.getElem?_toArray, List.getElem?_cons_zero, List.getElem?_cons_succ, Nat.zero_add, Nat.add_zero, Nat.reduceAdd, forall_const, e2]
      rw [slc_from (by omega)]
      have hcame := hnr.drop (k := x.b.length) (by omega) hnc (nc - x.b.length)
      have e3 : List.drop x.b.length x'.b = (joined o.2.2.l).take m := by rw [hxb, List.drop_left' rfl]
      rw [e3] at hcame
      refine cal_i (HasPrefix_spec hjr hjc hcame) ?_
      rintro _ _ ⟨rfl, rfl⟩
      have e4 : (decide (((joined o.2.2.l).take m).length ≤ (joined o.2.2.l).length) && (joined o.2.2.l).take ((joined o.2.2.l).take m).length == (joined o.2.2.l).take m) = true := by
        rw [List.length_take, Nat.min_eq_left hml]
        simp [hml]
      have hfin : ∃ z : Tp, z.Ok ∧ z.made = true ∧ Sep w w11 [tp p z, ownB (.slice na x'.b.length nc) z.b] := ⟨x', hx', hm', (Sep.d2 (Sep.d2 hs11.d2)).p1⟩
      have e5 : x'.b.length - x.b.length = m := by omega
      rw [e4]
      rcases hcase with ⟨rfl, rfl⟩ | ⟨rfl, hlt5⟩ | rfl
      · simp only [nilc_some, fad_mk, pik_true, pik_false, cnd_true, cnd_false, gif_same, gif_tf, gif_ft, gif_undef, bi_add, bi_sub, bi_mul, bi_eql, bi_neq, bi_lss, bi_leq, bi_gtr, bi_geq, notB_bool, cvi_int, lenS_mk, lenT_mk, ext0, ext1, ext2, nilP_mk, nilS_mk, fldv_agg, jn0_k, jn1_k, jn2_k, jn1_and, jn1_or, ex_some, Option.isNone_some, Option.isNone_none, Bool.false_bne, Bool.bne_true, Bool.bne_false, Bool.true_bne, Bool.not_true, Bool.not_false, Bool.and_true, Bool.true_and, Bool.and_false, Bool.false_and, Bool.or_true, Bool.true_or, Bool.or_false, Bool.false_or, cond_true, cond_false, List.getElem?_toArray, List.getElem?_cons_zero, List.getElem?_cons_succ, Nat.zero_add, Nat.add_zero, Nat.reduceAdd, forall_const, hjr.len, e5, show ((0 : Int) == 0) = true from rfl, show ((0 : Int) == 5) = false from rfl, bne_self_eq_false]
        exact hfin
      · simp only [nilc_some, fad_mk, pik_true, pik_false, cnd_true, cnd_false, gif_same, gif_tf, gif_ft, gif_undef, bi_add, bi_sub, bi_mul, bi_eql, bi_neq, bi_lss, bi_leq, bi_gtr, bi_geq, notB_bool, cvi_int, lenS_mk, lenT_mk, ext0, ext1, ext2, nilP_mk, nilS_mk, fldv_agg, jn0_k, jn1_k, jn2_k, jn1_and, jn1_or, ex_some, Option.isNone_some, Option.isNone_none, Bool.false_bne, Bool.bne_true, Bool.bne_false, Bool.true_bne, Bool.not_true, Bool.not_false, Bool.and_true, Bool.true_and, Bool.and_false, Bool.false_and, Bool.or_true, Bool.true_or, Bool.or_false, Bool.false_or, cond_true, cond_false, List.getElem?_toArray, List.getElem?_cons_zero, List.getElem?_cons_succ, Nat.zero_add, Nat.add_zero, Nat.reduceAdd, forall_const, hjr.len, e5, show ((5 : Int) == 0) = false from rfl, show ((5 : Int) == 5) = true from rfl]
        by_cases hpos : 0 < (joined o.2.2.l).length
        · have := hlt5 hpos
          have e6 : decide ((0 : Int) < ((joined o.2.2.l).length : Int)) = true := by simp; omega
          have e7 : ((m : Int) == ((joined o.2.2.l).length : Int)) = false := by simp; omega
          simp only [nilc_some, fad_mk, pik_true, pik_false, cnd_true, cnd_false, gif_same, gif_tf, gif_ft, gif_undef, bi_add, bi_sub, bi_mul, bi_eql, bi_neq, bi_lss, bi_leq, bi_gtr, bi_geq, notB_bool, cvi_int, lenS_mk, lenT_mk, ext0, ext1, ext2, nilP_mk, nilS_mk, fldv_agg, jn0_k, jn1_k, jn2_k, jn1_and, jn1_or, ex_some, Option.isNone_some, Option.isNone_none, Bool.false_bne, Bool.bne_true, Bool.bne_false, Bool.true_bne, Bool.not_true, Bool.not_false, Bool.and_true, Bool.true_and, Bool.and_false, Bool.false_and, Bool.or_true, Bool.true_or, Bool.or_false, Bool.false_or, cond_true, cond_false, List.getElem?_toArray, List.getElem?_cons_zero, List.getElem?_cons_succ, Nat.zero_add, Nat.add_zero, Nat.reduceAdd, forall_const, e6, e7]
          exact hfin
        · have e6 : decide ((0 : Int) < ((joined o.2.2.l).length : Int)) = false := decide_eq_false (by omega)
          simp only [nilc_some, fad_mk, pik_true, pik_false, cnd_true, cnd_false, gif_same, gif_tf, gif_ft, gif_undef, bi_add, bi_sub, bi_mul, bi_eql, bi_neq, bi_lss, bi_leq, bi_gtr, bi_geq, notB_bool, cvi_int, lenS_mk, lenT_mk, ext0, ext1, ext2, nilP_mk, nilS_mk, fldv_agg, jn0_k, jn1_k, jn2_k, jn1_and, jn1_or, ex_some, Option.isNone_some, Option.isNone_none, Bool.false_bne, Bool.bne_true, Bool.bne_false, Bool.true_bne, Bool.not_true, Bool.not_false, Bool.and_true, Bool.true_and, Bool.and_false, Bool.false_and, Bool.or_true, Bool.true_or, Bool.or_false, Bool.false_or, cond_true, cond_false, List.getElem?_toArray, List.getElem?_cons_zero, List.getElem?_cons_succ, Nat.zero_add, Nat.add_zero, Nat.reduceAdd, forall_const, e6]
          exact hfin
      · simp only [nilc_some, fad_mk, pik_true, pik_false, cnd_true, cnd_false, gif_same, gif_tf, gif_ft, gif_undef, bi_add, bi_sub, bi_mul, bi_eql, bi_neq, bi_lss, bi_leq, bi_gtr, bi_geq, notB_bool, cvi_int, lenS_mk, lenT_mk, ext0, ext1, ext2, nilP_mk, nilS_mk, fldv_agg, jn0_k, jn1_k, jn2_k, jn1_and, jn1_or, ex_some, Option.isNone_some, Option.isNone_none, Bool.false_bne, Bool.bne_true, Bool.bne_false, Bool.true_bne, Bool.not_true, Bool.not_false, Bool.and_true, Bool.true_and, Bool.and_false, Bool.false_and, Bool.or_true, Bool.true_or, Bool.or_false, Bool.false_or, cond_true, cond_false, List.getElem?_toArray, List.getElem?_cons_zero, List.getElem?_cons_succ, Nat.zero_add, Nat.add_zero, Nat.reduceAdd, forall_const, hjr.len, e5, show ((6 : Int) == 0) = false from rfl, show ((6 : Int) == 5) = false from rfl]
        exact hfin
    rw [cnd_bool]
    refine ⟨fun h => ?_, fun h1 => ?_⟩
    · refine cal_i (Truncate_spec hs8.p1 hx) ?_
      rintro _ w9 ⟨rfl, hs9⟩
      have hx' := Tp.truncate_ok hx o.2.1
      have hg9 : w9.heap[g]? = some (.cells #[.int .i64 o.1, .int .i64 o.2.1, o.2.2.v] T_flurrylaw08_Op (0, 0)) := hs9.p1.blk
      simp only [nilc_some, fad_mk, pik_true, pik_false, cnd_true, cnd_false, gif_same, gif_tf, gif_ft, gif_undef, bi_add, bi_sub, bi_mul, bi_eql, bi_neq, bi_lss, bi_leq, bi_gtr, bi_geq, notB_bool, cvi_int, lenS_mk, lenT_mk, ext0, ext1, ext2, nilP_mk, nilS_mk, fldv_agg, jn0_k, jn1_k, jn2_k, jn1_and, jn1_or, ex_some, Option.isNone_some, Option.isNone_none, Bool.false_bne, Bool.bne_true, Bool.bne_false, Bool.true_bne, Bool.not_true, Bool.not_false, Bool.and_true, Bool.true_and, Bool.and_false, Bool.false_and, Bool.or_true, Bool.true_or, Bool.or_false, Bool.false_or, cond_true, cond_false, List.getElem?_toArray, List.getElem?_cons_zero, List.getElem?_cons_succ, Nat.zero_add, Nat.add_zero, Nat.reduceAdd, forall_const]
      rw [cnd_bool]
      have hm' : (x.truncate o.2.1).1.made = true := by
        refine Eq.trans (b := x.made) ?_ hm
        unfold Tp.truncate
        repeat' split
        all_goals rfl
      refine ⟨fun h => ?_, fun h => ?_⟩
      · have h : (x.truncate o.2.1).2 = 0 := by simpa using h
        have hok : ¬ (o.2.1 < 0 ∨ (x.b.length : Int) < o.2.1) ∧ (x.truncate o.2.1).1.b = x.b.take o.2.1.toNat := by
          have hmay : x.may = 0 := by
            rcases Classical.em (x.may = 0) with h' | h'
            · exact h'
            · rw [Tp.truncate, if_pos h'] at h; exact absurd h h'
          by_cases hr : o.2.1 < 0 ∨ (x.b.length : Int) < o.2.1
          · rw [Tp.truncate, if_neg (by simpa using hmay), if_pos hr] at h; cases h
          · exact ⟨hr, by rw [Tp.truncate, if_neg (by simpa using hmay), if_neg hr]⟩
        obtain ⟨hok, hb⟩ := hok
        have hyl := (hs9.p2).rd.len
        have e1 : decide (o.2.1 < 0) = false := by simp; omega
        have e2 : decide ((x.b.length : Int) < o.2.1) = false := by simp; omega
        simp only [nilc_some, fad_mk, pik_true, pik_false, cnd_true, cnd_false, gif_same, gif_tf, gif_ft, gif_undef, bi_add, bi_sub, bi_mul, bi_eql, bi_neq, bi_lss, bi_leq, bi_gtr, bi_geq, notB_bool, cvi_int, lenS_mk, lenT_mk, ext0, ext1, ext2, nilP_mk, nilS_mk, fldv_agg, jn0_k, jn1_k, jn2_k, jn1_and, jn1_or, ex_some, Option.isNone_some, Option.isNone_none, Bool.false_bne, Bool.bne_true, Bool.bne_false, Bool.true_bne, Bool.not_true, Bool.not_false, Bool.and_true, Bool.true_and, Bool.and_false, Bool.false_and, Bool.or_true, Bool.true_or, Bool.or_false, Bool.false_or, cond_true, cond_false, List.getElem?_toArray, List.getElem?_cons_zero, List.getElem?_cons_succ, Nat.zero_add, Nat.add_zero, Nat.reduceAdd, forall_const, ld1_eq hg9, hyl, e1, e2]
        obtain ⟨n, hn⟩ := Int.eq_ofNat_of_zero_le (show 0 ≤ o.2.1 by omega)
        obtain ⟨a, c, rfl, hc⟩ := hs9.p2.form
        rw [hn, slc_to (by omega)]
        refine ⟨_, hx', hm', ?_⟩
        have := Sep.takeB (k := n) hs9.p2 (by omega)
        have e8 : x.b.take n = (x.truncate o.2.1).1.b := by rw [hb, hn, Int.toNat_natCast]
        rw [e8] at this
        exact (this.d2).p1
      · have h : (x.truncate o.2.1).2 ≠ 0 := by simpa using h
        have hb : (x.truncate o.2.1).1 = x := by
          unfold Tp.truncate at h ⊢
          repeat' split
          all_goals first | rfl | simp_all
        rw [hb] at hs9
        exact ⟨x, hx, hm, hs9.d1⟩
    rw [cnd_bool]
    refine ⟨fun h => ?_, fun h2 => ?_⟩
    · refine cal_i (Arm_spec hs8.p1) ?_
      rintro _ w9 ⟨rfl, hs9⟩
      have hb : (x.arm o.2.1).1.b = x.b ∧ (x.arm o.2.1).1.made = x.made := by unfold Tp.arm; repeat' split
                                                                              all_goals exact ⟨rfl, rfl⟩
      exact ⟨_, Tp.arm_ok hx hon, hb.2.trans hm, by rw [hb.1]; exact hs9.d1⟩
    rw [cnd_bool]
    refine ⟨fun h => ?_, fun h4 => ?_⟩
    · refine cal_i (Crash_spec hs8.p1) ?_
      rintro _ w9 ⟨rfl, hs9⟩
      have hb : x.crash.1.b = x.b ∧ x.crash.1.made = x.made := by unfold Tp.crash Tp.goes; split <;> exact ⟨rfl, rfl⟩
      exact ⟨_, Tp.crash_ok hx, hb.2.trans hm, by rw [hb.1]; exact hs9.d1⟩
    rw [cnd_bool]
    refine ⟨fun h => ?_, fun h5 => ?_⟩
    · refine cal_i (Restart_spec hs8.p1) ?_
      rintro _ w9 ⟨rfl, hs9⟩
      have hb : x.restart.1.b = x.b ∧ x.restart.1.made = x.made := by unfold Tp.restart; repeat' split
                                                                      all_goals exact ⟨rfl, rfl⟩
      exact ⟨_, Tp.restart_ok hx, hb.2.trans hm, by rw [hb.1]; exact hs9.d1⟩
    · exact ⟨x, hx, hm, hs8.tail⟩
  · rintro y' w9 ⟨x', hx', hm', hs9⟩ -
    refine cal_i (Bytes_spec hs9 hx' hm') ?_
    rintro v w10 hs10
    have hs10 := hs9.join hs10
    refine cal_i (Equal_spec (Sep.rd hs10) (Sep.p2 hs10).rd) ?_
    rintro _ _ ⟨rfl, rfl⟩
    rw [beq_self_eq_true]
    simp only [nilc_some, fad_mk, pik_true, pik_false, cnd_true, cnd_false, gif_same, gif_tf, gif_ft, gif_undef, bi_add, bi_sub, bi_mul, bi_eql, bi_neq, bi_lss, bi_leq, bi_gtr, bi_geq, notB_bool, cvi_int, lenS_mk, lenT_mk, ext0, ext1, ext2, nilP_mk, nilS_mk, fldv_agg, jn0_k, jn1_k, jn2_k, jn1_and, jn1_or, ex_some, Option.isNone_some, Option.isNone_none, Bool.false_bne, Bool.bne_true, Bool.bne_false, Bool.true_bne, Bool.not_true, Bool.not_false, Bool.and_true, Bool.true_and, Bool.and_false, Bool.false_and, Bool.or_true, Bool.true_or, Bool.or_false, Bool.false_or, cond_true, cond_false, List.getElem?_toArray, List.getElem?_cons_zero, List.getElem?_cons_succ, Nat.zero_add, Nat.add_zero, Nat.reduceAdd, forall_const]
    rw [wi64 (by omega) (by omega)]
    exact ⟨⟨i + 1, x', by omega, by simp, hx', hm', hs10.tail⟩, by simp [RowKit.intOf]; omega⟩
end Go.Fx
namespace Go.Proofs.Ytiipcclmmhkggaa
open Go.ChangeShapes Go.WideShapes Go.ChangeAt Go.RowKit
set_option maxRecDepth 100000 in
theorem liftedTapeKeeps (os : Os) (started : os.Started) (H : Type) (enc : TypeId × Value → H) :
    ReturnsInHanded {} Try.checked os 6 .any (Rows.tapeKeepsSpec.pre6 enc Try.prog Try.f6 Rows.tapeKeepsRow.domain false) (Rows.tapeKeepsSpec.post enc Try.prog Try.f6 false true false false) := by
  refine returnsInHanded_of_change (C := Try.checked) own started (by kernel_rfl) Try.func6
    (ChangeSpec.witness6 (enc := enc) (C := Try.checked) false ⟨#[], #[.slice none 0 0], []⟩ 8 (by kernel_rfl) (by kernel_rfl) (by kernel_rfl) (by kernel_rfl)) ?_
  intro W base args ds gs before hval0 hW hcnd _
  have hval : ∀ (j : Nat) t v, Try.f6.params[j]? = some t → args[j]? = some v → Value.okWide Try.prog W .any base t v := hval0
  have hW' := hW
  obtain ⟨p, q, hA0, hV, rfl, hfz, hnd⟩ := hW
  have hA : DataW.TrodAll enc Try.prog W 0 (fun _ => true) true Try.f6.params.toList args.toList ds p := hA0
  rw [Try.params6] at hA hval
  obtain ⟨v0, vs0, d0, ds0, p0, q0, hargs, rfl, rfl, h0, r0⟩ := trodAll_cons hA
  obtain ⟨rfl, rfl, rfl⟩ := trodAll_nil r0
  obtain rfl : args = #[v0] := by cases args; simp_all
  obtain ⟨rfl, rfl⟩ := trodVars_none hV
  obtain ⟨a0, len0, cap0, rfl⟩ := okWide_slice Try.underlying44 (hval 0 44 v0 rfl rfl)
  have k0 := h0
  have lt0 : ∀ x ∈ p0, x.block < W.heap.size := by obtain ⟨m, hm⟩ := k0; exact DataW.trod_lt m _ _ _ hm
  obtain ⟨f0, hf0⟩ := h0
  have hx0 := Go.Fx.O_sl_flurrylaw08_Op hf0
  obtain ⟨l0, rd0⟩ := hx0
  clear hA0 hval0
  have hcal := Go.Fx.TapeKeeps_walk rd0
  refine Calls.mono hcal fun e W' ⟨v, he, hv, hf⟩ => ?_
  subst hv
  subst he
  have bel : Below W.heap.size W W' := hf.below (by simp)
  exact ⟨_, rfl, _, _, _, [], _, [], hW', trodAll_mk1 (shut_bool Try.underlying4 _), (trodAll_cons_mk (Below.trod laidOut (by kernel_rfl) (of_decide_eq_true (by kernel_rfl)) k0 bel lt0) trodAll_mk0), rfl, bel.frame _, fun h => by cases h⟩
theorem tapeKeeps : Rows.TapeKeepsSaid :=
  OpenClaim.holds_of_wide 6 Try.f6 rfl rfl rfl rfl rfl rfl rfl ⟨rfl, rfl, rfl, rfl, rfl⟩ rfl rfl rfl rfl rfl (by kernel_rfl) Try.func6 (by kernel_rfl)
    (of_decide_eq_true (by kernel_rfl)) (by unfold Func.isWrapper; first | (rw [if_pos (by decide +kernel)]; kernel_rfl) | (rw [if_neg (by decide +kernel)]; exact ⟨rfl, rfl⟩))
    (fun os started H enc _ => liftedTapeKeeps os started H enc)
#print axioms tapeKeeps
end Go.Proofs.Ytiipcclmmhkggaa
