/-
  What is proved: for every bytes and every script the law TapeDoes returns true, and its arguments read as they did. Conditions: none.
-/
import Derived.Test.YtiipcclmmhkggaaLw8C
import Derived.Test.YtiipcclmmhkggaaBase
set_option linter.unusedVariables false
set_option linter.unusedSimpArgs false
namespace Go.Fx
theorem TapeDoes_walk {w : World} {b : Sl UInt8} {s : Sl Op8} (hb : R_sl_uint8.ok w.heap b) (hl : R_sl_flurrylaw08_Op.ok w.heap s) : cal P f_law08_TapeDoes [b.v, s.v] w fun r w' => r = .bool true ∧ Fr [] w w' := by
  refine s_law08_TapeDoes fun R hR => ?_
  unfold c_law08_TapeDoes
  refine cal_i (few_spec hl) ?_
  rintro r w1 ⟨hf1, hfew⟩
  have hend : ∀ w1, Fr [] w w1 → cal P f_law08_begun [] w1 fun t w => R t w := fun w1 hf1 => by
    refine cal_i begun_spec ?_
    rintro _ w3 ⟨rfl, hf3⟩
    exact hR _ _ ⟨rfl, hf1.trans hf3 (by simp) (by simp)⟩
  rcases hfew with rfl | ⟨lv, rfl, hlk, hbnd⟩
  · simp only [nilc_some, fad_mk, pik_true, pik_false, cnd_true, cnd_false, gif_same, gif_tf, gif_ft, gif_undef, bi_add, bi_sub, bi_mul, bi_eql, bi_neq, bi_lss, bi_leq, bi_gtr, bi_geq, notB_bool, cvi_int, lenS_mk, lenT_mk, ext0, ext1, ext2, nilP_mk, nilS_mk, fldv_agg, jn0_k, jn1_k, jn2_k, jn1_and, jn1_or, ex_some, Option.isNone_some, Option.isNone_none, Bool.false_bne, Bool.bne_true, Bool.bne_false, Bool.true_bne, Bool.not_true, Bool.not_false, Bool.and_true, Bool.true_and, Bool.and_false, Bool.false_and, Bool.or_true, Bool.true_or, Bool.or_false, Bool.false_or, cond_true, cond_false, List.getElem?_toArray, List.getElem?_cons_zero, List.getElem?_cons_succ, Nat.zero_add, Nat.add_zero, Nat.reduceAdd, forall_const]
    refine cal_i begun_spec ?_
    rintro _ w2 ⟨rfl, hf2⟩
    simp only [nilc_some, fad_mk, pik_true, pik_false, cnd_true, cnd_false, gif_same, gif_tf, gif_ft, gif_undef, bi_add, bi_sub, bi_mul, bi_eql, bi_neq, bi_lss, bi_leq, bi_gtr, bi_geq, notB_bool, cvi_int, lenS_mk, lenT_mk, ext0, ext1, ext2, nilP_mk, nilS_mk, fldv_agg, jn0_k, jn1_k, jn2_k, jn1_and, jn1_or, ex_some, Option.isNone_some, Option.isNone_none, Bool.false_bne, Bool.bne_true, Bool.bne_false, Bool.true_bne, Bool.not_true, Bool.not_false, Bool.and_true, Bool.true_and, Bool.and_false, Bool.false_and, Bool.or_true, Bool.true_or, Bool.or_false, Bool.false_or, cond_true, cond_false, List.getElem?_toArray, List.getElem?_cons_zero, List.getElem?_cons_succ, Nat.zero_add, Nat.add_zero, Nat.reduceAdd, forall_const]
    exact hend _ (hf1.trans hf2 (by simp) (by simp))
  simp only [nilc_some, fad_mk, pik_true, pik_false, cnd_true, cnd_false, gif_same, gif_tf, gif_ft, gif_undef, bi_add, bi_sub, bi_mul, bi_eql, bi_neq, bi_lss, bi_leq, bi_gtr, bi_geq, notB_bool, cvi_int, lenS_mk, lenT_mk, ext0, ext1, ext2, nilP_mk, nilS_mk, fldv_agg, jn0_k, jn1_k, jn2_k, jn1_and, jn1_or, ex_some, Option.isNone_some, Option.isNone_none, Bool.false_bne, Bool.bne_true, Bool.bne_false, Bool.true_bne, Bool.not_true, Bool.not_false, Bool.and_true, Bool.true_and, Bool.and_false, Bool.false_and, Bool.or_true, Bool.true_or, Bool.or_false, Bool.false_or, cond_true, cond_false, List.getElem?_toArray, List.getElem?_cons_zero, List.getElem?_cons_succ, Nat.zero_add, Nat.add_zero, Nat.reduceAdd, forall_const]
  refine cal_i begun_spec ?_
  rintro _ w2 ⟨rfl, hf2⟩
  have hf12 := hf1.trans (H := []) hf2 (by simp) (by simp)
  simp only [nilc_some, fad_mk, pik_true, pik_false, cnd_true, cnd_false, gif_same, gif_tf, gif_ft, gif_undef, bi_add, bi_sub, bi_mul, bi_eql, bi_neq, bi_lss, bi_leq, bi_gtr, bi_geq, notB_bool, cvi_int, lenS_mk, lenT_mk, ext0, ext1, ext2, nilP_mk, nilS_mk, fldv_agg, jn0_k, jn1_k, jn2_k, jn1_and, jn1_or, ex_some, Option.isNone_some, Option.isNone_none, Bool.false_bne, Bool.bne_true, Bool.bne_false, Bool.true_bne, Bool.not_true, Bool.not_false, Bool.and_true, Bool.true_and, Bool.and_false, Bool.false_and, Bool.or_true, Bool.true_or, Bool.or_false, Bool.false_or, cond_true, cond_false, List.getElem?_toArray, List.getElem?_cons_zero, List.getElem?_cons_succ, Nat.zero_add, Nat.add_zero, Nat.reduceAdd, forall_const, rBytes_len hb]
  rw [cnd_bool]
  refine ⟨fun h => hend _ hf12, fun h => ?_⟩
  have hbl : b.l.length ≤ 1000 := by simp at h; omega
  refine cal_i (bClone_spec (hb.1.fr hf12 (off_nil _)) (by omega)) ?_
  rintro ov w3 hs3
  have hs3 : Sep w w3 [ownB ov b.l] := ((Sep.start w).old hf12).join hs3
  refine cal_i (Of_spec hs3.rd) ?_
  rintro r w4 (⟨h, _⟩ | ⟨_, p, rfl, hs4⟩)
  · omega
  have hs4 := hs3.join hs4
  simp only [nilc_some, fad_mk, pik_true, pik_false, cnd_true, cnd_false, gif_same, gif_tf, gif_ft, gif_undef, bi_add, bi_sub, bi_mul, bi_eql, bi_neq, bi_lss, bi_leq, bi_gtr, bi_geq, notB_bool, cvi_int, lenS_mk, lenT_mk, ext0, ext1, ext2, nilP_mk, nilS_mk, fldv_agg, jn0_k, jn1_k, jn2_k, jn1_and, jn1_or, ex_some, Option.isNone_some, Option.isNone_none, Bool.false_bne, Bool.bne_true, Bool.bne_false, Bool.true_bne, Bool.not_true, Bool.not_false, Bool.and_true, Bool.true_and, Bool.and_false, Bool.false_and, Bool.or_true, Bool.true_or, Bool.or_false, Bool.false_or, cond_true, cond_false, List.getElem?_toArray, List.getElem?_cons_zero, List.getElem?_cons_succ, Nat.zero_add, Nat.add_zero, Nat.reduceAdd, forall_const]
  refine cal_i (rOf_spec (hs4.rdB hb.1)) ?_
  rintro r w5 (⟨h, _⟩ | ⟨_, q, rfl, hs5⟩)
  · omega
  have hs5 := hs4.join hs5
  simp only [List.cons_append, List.nil_append] at hs5
  simp only [nilc_some, fad_mk, pik_true, pik_false, cnd_true, cnd_false, gif_same, gif_tf, gif_ft, gif_undef, bi_add, bi_sub, bi_mul, bi_eql, bi_neq, bi_lss, bi_leq, bi_gtr, bi_geq, notB_bool, cvi_int, lenS_mk, lenT_mk, ext0, ext1, ext2, nilP_mk, nilS_mk, fldv_agg, jn0_k, jn1_k, jn2_k, jn1_and, jn1_or, ex_some, Option.isNone_some, Option.isNone_none, Bool.false_bne, Bool.bne_true, Bool.bne_false, Bool.true_bne, Bool.not_true, Bool.not_false, Bool.and_true, Bool.true_and, Bool.and_false, Bool.false_and, Bool.or_true, Bool.true_or, Bool.or_false, Bool.false_or, cond_true, cond_false, List.getElem?_toArray, List.getElem?_cons_zero, List.getElem?_cons_succ, Nat.zero_add, Nat.add_zero, Nat.reduceAdd, forall_const, tp_nilP hs5.p1, rt_nilP hs5, show ((0 : Int) != 0) = false from rfl]
  obtain ⟨oa, oc, rfl, hoc⟩ := hs5.p2.form
  simp only [lenS_mk]
  refine ⟨fun y w' => ∃ (i : Nat) (m : List UInt8), i ≤ b.l.length ∧ m.length = b.l.length ∧ y = .int .i64 i ∧ Sep w w' [ownB (.slice oa b.l.length oc) m, rt q ⟨b.l, -1, false, true⟩, tp p ⟨b.l, -1, false, true⟩],
    fun y _ => (b.l.length - RowKit.intOf y).toNat, ⟨0, _, by omega, rfl, rfl, hs5.p2⟩, ?_⟩
  rintro _ w6 ⟨i, m, hi, hm, rfl, hs6⟩ -
  simp only [nilc_some, fad_mk, pik_true, pik_false, cnd_true, cnd_false, gif_same, gif_tf, gif_ft, gif_undef, bi_add, bi_sub, bi_mul, bi_eql, bi_neq, bi_lss, bi_leq, bi_gtr, bi_geq, notB_bool, cvi_int, lenS_mk, lenT_mk, ext0, ext1, ext2, nilP_mk, nilS_mk, fldv_agg, jn0_k, jn1_k, jn2_k, jn1_and, jn1_or, ex_some, Option.isNone_some, Option.isNone_none, Bool.false_bne, Bool.bne_true, Bool.bne_false, Bool.true_bne, Bool.not_true, Bool.not_false, Bool.and_true, Bool.true_and, Bool.and_false, Bool.false_and, Bool.or_true, Bool.true_or, Bool.or_false, Bool.false_or, cond_true, cond_false, List.getElem?_toArray, List.getElem?_cons_zero, List.getElem?_cons_succ, Nat.zero_add, Nat.add_zero, Nat.reduceAdd, forall_const]
  rw [cnd_bool]
  refine ⟨fun h => ?_, fun h => ?_⟩
  · have hlt : i < m.length := by simp at h; omega
    refine ldxB_s hs6 hlt ?_
    rw [bv, bi_xor, bv_of _ (Int.natCast_nonneg _)]
    refine stxB_s hs6 hlt _ fun w7 hs7 => ?_
    rw [wi64 (by omega) (by omega)]
    exact ⟨⟨i + 1, _, by omega, by simpa using hm, by simp, hs7⟩, by simp [RowKit.intOf]; omega⟩
  clear hs5 hs4 hs3
  have hlw : ∀ w', Fr [] w w' → R_sl_flurrylaw08_Op.ok w'.heap ⟨lv, s.l.take 60⟩ := fun w' hf => R_sl_flurrylaw08_Op.fr hlk hf
  have hx0 : (⟨b.l, -1, false, true⟩ : Tp).Ok := ⟨by show b.l.length ≤ 262144; omega, by simp, by simp⟩
  simp only [rSl_len (s := ⟨lv, s.l.take 60⟩) hlk]
  generalize hL : s.l.take 60 = L at *
  have hLl : L.length ≤ 60 := by rw [← hL]; simp; omega
  refine ⟨fun c y w' => ∃ (i : Nat) (x : Tp), i ≤ L.length ∧ y = .int .i64 i ∧ x.Ok ∧ x.made = true ∧ Sep w w' [tp c x, rt q x], fun _ y _ => (L.length - RowKit.intOf y).toNat,
    ⟨0, _, by omega, rfl, hx0, rfl, hs6.tail.p1⟩, ?_⟩
  rintro c _ w7 ⟨i, x, hi, rfl, hx, hm, hs7⟩ -
  simp only [nilc_some, fad_mk, pik_true, pik_false, cnd_true, cnd_false, gif_same, gif_tf, gif_ft, gif_undef, bi_add, bi_sub, bi_mul, bi_eql, bi_neq, bi_lss, bi_leq, bi_gtr, bi_geq, notB_bool, cvi_int, lenS_mk, lenT_mk, ext0, ext1, ext2, nilP_mk, nilS_mk, fldv_agg, jn0_k, jn1_k, jn2_k, jn1_and, jn1_or, ex_some, Option.isNone_some, Option.isNone_none, Bool.false_bne, Bool.bne_true, Bool.bne_false, Bool.true_bne, Bool.not_true, Bool.not_false, Bool.and_true, Bool.true_and, Bool.and_false, Bool.false_and, Bool.or_true, Bool.true_or, Bool.or_false, Bool.false_or, cond_true, cond_false, List.getElem?_toArray, List.getElem?_cons_zero, List.getElem?_cons_succ, Nat.zero_add, Nat.add_zero, Nat.reduceAdd, forall_const]
  rw [cnd_bool]
  refine ⟨fun h => ?_, fun h => ?_⟩
  · have hlt : i < L.length := by simpa using h
    obtain ⟨o, ho⟩ : ∃ o, L[i]? = some o := ⟨_, List.getElem?_eq_getElem hlt⟩
    refine ⟨fun c' w' => ∃ x' : Tp, x'.Ok ∧ x'.made = true ∧ Sep w w' [tp c' x', rt q x'], ?_, ?_⟩
    · have hok7 := rSl_ok (hlw w7 hs7.fr0) ho
      refine rSl_ldN (r := R_flurrylaw08_Op) (s := ⟨lv, L⟩) (hlw w7 hs7.fr0) (by decide) ho ?_
      refine copy_s (r := R_flurrylaw08_Op) hs7 (al_flurrylaw08_Op w7) rfl rfl hok7 fun g w8 hs8 => ?_
      have hg : w8.heap[g]? = some (.cells #[.int .i64 o.1, .int .i64 o.2.1, o.2.2.v] T_flurrylaw08_Op (0, 0)) := hs8.blk
      rw [ldN_eq hg]
      refine ⟨by simp, ?_⟩
      have e1 : (#[.int .i64 o.1, .int .i64 o.2.1, o.2.2.v] : Array Value).extract 0 (0 + 3) = #[.int .i64 o.1, .int .i64 o.2.1, o.2.2.v] := rfl
      rw [e1]
      have hon : o.2.1 ≤ 9223372036854775807 := (bounds_i64 hok7.2.1).2
      refine cal_i (does_spec (o := o) hs8.q2 hx fun w' h => rSl_ok (hlw w' h.fr0) ho) ?_
      rintro _ w9 ⟨rfl, hs9⟩
      have hx' := Tp.does_ok hx hon (o := o)
      have hm' := (Tp.does_made x o).trans hm
      simp only [nilc_some, fad_mk, pik_true, pik_false, cnd_true, cnd_false, gif_same, gif_tf, gif_ft, gif_undef, bi_add, bi_sub, bi_mul, bi_eql, bi_neq, bi_lss, bi_leq, bi_gtr, bi_geq, notB_bool, cvi_int, lenS_mk, lenT_mk, ext0, ext1, ext2, nilP_mk, nilS_mk, fldv_agg, jn0_k, jn1_k, jn2_k, jn1_and, jn1_or, ex_some, Option.isNone_some, Option.isNone_none, Bool.false_bne, Bool.bne_true, Bool.bne_false, Bool.true_bne, Bool.not_true, Bool.not_false, Bool.and_true, Bool.true_and, Bool.and_false, Bool.false_and, Bool.or_true, Bool.true_or, Bool.or_false, Bool.false_or, cond_true, cond_false, List.getElem?_toArray, List.getElem?_cons_zero, List.getElem?_cons_succ, Nat.zero_add, Nat.add_zero, Nat.reduceAdd, forall_const]
      refine jn1_dup (cal_i (same_spec hs9 hx') ?_)
      rintro _ w10 ⟨rfl, hs10⟩
      have hg10 : w10.heap[g]? = some (.cells #[.int .i64 o.1, .int .i64 o.2.1, o.2.2.v] T_flurrylaw08_Op (0, 0)) := hs10.p2.blk
      simp only [nilc_some, fad_mk, pik_true, pik_false, cnd_true, cnd_false, gif_same, gif_tf, gif_ft, gif_undef, bi_add, bi_sub, bi_mul, bi_eql, bi_neq, bi_lss, bi_leq, bi_gtr, bi_geq, notB_bool, cvi_int, lenS_mk, lenT_mk, ext0, ext1, ext2, nilP_mk, nilS_mk, fldv_agg, jn0_k, jn1_k, jn2_k, jn1_and, jn1_or, ex_some, Option.isNone_some, Option.isNone_none, Bool.false_bne, Bool.bne_true, Bool.bne_false, Bool.true_bne, Bool.not_true, Bool.not_false, Bool.and_true, Bool.true_and, Bool.and_false, Bool.false_and, Bool.or_true, Bool.true_or, Bool.or_false, Bool.false_or, cond_true, cond_false, List.getElem?_toArray, List.getElem?_cons_zero, List.getElem?_cons_succ, Nat.zero_add, Nat.add_zero, Nat.reduceAdd, forall_const, ld1_eq hg10]
      rw [cnd_bool]
      refine ⟨fun h => ⟨_, hx', hm', hs10.d2⟩, fun h => ?_⟩
      refine cal_i (Clone_spec hs10 hx' hm') ?_
      rintro c' w11 hs11
      have hs11 := hs10.join hs11
      rw [tp_nilP hs11]
      simp only [nilc_some, fad_mk, pik_true, pik_false, cnd_true, cnd_false, gif_same, gif_tf, gif_ft, gif_undef, bi_add, bi_sub, bi_mul, bi_eql, bi_neq, bi_lss, bi_leq, bi_gtr, bi_geq, notB_bool, cvi_int, lenS_mk, lenT_mk, ext0, ext1, ext2, nilP_mk, nilS_mk, fldv_agg, jn0_k, jn1_k, jn2_k, jn1_and, jn1_or, ex_some, Option.isNone_some, Option.isNone_none, Bool.false_bne, Bool.bne_true, Bool.bne_false, Bool.true_bne, Bool.not_true, Bool.not_false, Bool.and_true, Bool.true_and, Bool.and_false, Bool.false_and, Bool.or_true, Bool.true_or, Bool.or_false, Bool.false_or, cond_true, cond_false, List.getElem?_toArray, List.getElem?_cons_zero, List.getElem?_cons_succ, Nat.zero_add, Nat.add_zero, Nat.reduceAdd, forall_const]
      refine jn1_dup (cal_i (same_spec (p := c') (q := q) (hs11.under (List.Perm.swap ..)) hx') ?_)
      rintro _ w12 ⟨rfl, hs12⟩
      simp only [nilc_some, fad_mk, pik_true, pik_false, cnd_true, cnd_false, gif_same, gif_tf, gif_ft, gif_undef, bi_add, bi_sub, bi_mul, bi_eql, bi_neq, bi_lss, bi_leq, bi_gtr, bi_geq, notB_bool, cvi_int, lenS_mk, lenT_mk, ext0, ext1, ext2, nilP_mk, nilS_mk, fldv_agg, jn0_k, jn1_k, jn2_k, jn1_and, jn1_or, ex_some, Option.isNone_some, Option.isNone_none, Bool.false_bne, Bool.bne_true, Bool.bne_false, Bool.true_bne, Bool.not_true, Bool.not_false, Bool.and_true, Bool.true_and, Bool.and_false, Bool.false_and, Bool.or_true, Bool.true_or, Bool.or_false, Bool.false_or, cond_true, cond_false, List.getElem?_toArray, List.getElem?_cons_zero, List.getElem?_cons_succ, Nat.zero_add, Nat.add_zero, Nat.reduceAdd, forall_const]
      have hb1 : ∀ w : World, (Instr.buildSlice T_sl_uint8 3 #[(0, (Value.int IntKind.u8 1)), (1, (Value.int IntKind.u8 2)), (2, (Value.int IntKind.u8 3))]).run P w = .ok (.slice (some ⟨w.heap.size, 0, none⟩) 3 3) (w.alloc (.cells (bvs [1, 2, 3]).toArray T_uint8)) := fun w => by kernel_rfl
      refine buildB_s (l := [1, 2, 3]) hs12 rfl (hb1 _) fun g1 w13 hs13 => ?_
      have hb2 : ∀ (w : World) (a : Nat), (Instr.buildSlice T_sl_sl_uint8 1 #[(0, .slice (some ⟨a, 0, none⟩) 3 3)]).run P w = .ok (.slice (some ⟨w.heap.size, 0, none⟩) 1 1) (w.alloc (.cells ([.slice (some ⟨a, 0, none⟩) 3 3] : List Value).toArray T_sl_uint8)) := fun w a => by kernel_rfl
      refine build_s (cs := [.slice (some ⟨g1, 0, none⟩) 3 3]) (size := 1) hs13 rfl (hb2 _ _) fun g2 w14 hs14 => ?_
      refine cal_i (Append_spec (s := ⟨.slice (some ⟨g2, 0, none⟩) 1 1, [⟨.slice (some ⟨g1, 0, none⟩) 3 3, [1, 2, 3]⟩]⟩) hs14.p4 hx' fun w' h => ?_) ?_
      · refine ok_of_own h.cel h.capN (by simp) fun a ha => ?_
        simp at ha
        rw [ha]
        exact h.p1.rb (by simp)
      rintro _ w15 ⟨rfl, hs15⟩
      refine cal_i (Crash_spec hs15) ?_
      rintro _ w16 ⟨rfl, hs16⟩
      exact ⟨_, hx', hm', hs16.tail.tail.tail.d2⟩
    · rintro c' w8 ⟨x', hx', hm', hs8⟩ -
      rw [wi64 (by omega) (by omega)]
      exact ⟨⟨i + 1, x', by omega, by simp, hx', hm', hs8⟩, by simp [RowKit.intOf]; omega⟩
  · refine cal_i (same_spec hs7 hx) ?_
    rintro _ w8 ⟨rfl, hs8⟩
    exact hR _ _ ⟨rfl, hs8.fr0⟩
end Go.Fx
namespace Go.Proofs.Ytiipcclmmhkggaa
open Go.ChangeShapes Go.WideShapes Go.ChangeAt Go.RowKit
set_option maxRecDepth 100000 in
theorem liftedTapeDoes (os : Os) (started : os.Started) (H : Type) (enc : TypeId × Value → H) :
    ReturnsInHanded {} Try.checked os 7 .any (Rows.tapeDoesSpec.pre6 enc Try.prog Try.f7 Rows.tapeDoesRow.domain false) (Rows.tapeDoesSpec.post enc Try.prog Try.f7 false true false false) := by
  refine returnsInHanded_of_change (C := Try.checked) own started (by kernel_rfl) Try.func7
    (ChangeSpec.witness6 (enc := enc) (C := Try.checked) false ⟨#[], #[.slice none 0 0, .slice none 0 0], []⟩ 8 (by kernel_rfl) (by kernel_rfl) (by kernel_rfl) (by kernel_rfl)) ?_
  intro W base args ds gs before hval0 hW hcnd _
  have hval : ∀ (j : Nat) t v, Try.f7.params[j]? = some t → args[j]? = some v → Value.okWide Try.prog W .any base t v := hval0
  have hW' := hW
  obtain ⟨p, q, hA0, hV, rfl, hfz, hnd⟩ := hW
  have hA : DataW.TrodAll enc Try.prog W 0 (fun _ => true) true Try.f7.params.toList args.toList ds p := hA0
  rw [Try.params7] at hA hval
  obtain ⟨v0, vs0, d0, ds0, p0, q0, hargs, rfl, rfl, h0, r0⟩ := trodAll_cons hA
  obtain ⟨v1, vs1, d1, ds1, p1, q1, rfl, rfl, rfl, h1, r1⟩ := trodAll_cons r0
  obtain ⟨rfl, rfl, rfl⟩ := trodAll_nil r1
  obtain rfl : args = #[v0, v1] := by cases args; simp_all
  obtain ⟨rfl, rfl⟩ := trodVars_none hV
  obtain ⟨a0, len0, cap0, rfl⟩ := okWide_slice Try.underlying23 (hval 0 23 v0 rfl rfl)
  have k0 := h0
  have lt0 : ∀ x ∈ p0, x.block < W.heap.size := by obtain ⟨m, hm⟩ := k0; exact DataW.trod_lt m _ _ _ hm
  obtain ⟨f0, hf0⟩ := h0
  have hx0 := Go.Fx.O_sl_uint8 hf0
  obtain ⟨l0, rd0⟩ := hx0
  obtain ⟨a1, len1, cap1, rfl⟩ := okWide_slice Try.underlying44 (hval 1 44 v1 rfl rfl)
  have k1 := h1
  have lt1 : ∀ x ∈ p1, x.block < W.heap.size := by obtain ⟨m, hm⟩ := k1; exact DataW.trod_lt m _ _ _ hm
  obtain ⟨f1, hf1⟩ := h1
  have hx1 := Go.Fx.O_sl_flurrylaw08_Op hf1
  obtain ⟨l1, rd1⟩ := hx1
  clear hA0 hval0
  have hcal := Go.Fx.TapeDoes_walk rd0 rd1
  refine Calls.mono hcal fun e W' ⟨v, he, hv, hf⟩ => ?_
  subst hv
  subst he
  have bel : Below W.heap.size W W' := hf.below (by simp)
  exact ⟨_, rfl, _, _, _, [], _, [], hW', trodAll_mk1 (shut_bool Try.underlying4 _), (trodAll_cons_mk (Below.trod laidOut (by kernel_rfl) (of_decide_eq_true (by kernel_rfl)) k0 bel lt0) (trodAll_cons_mk (Below.trod laidOut (by kernel_rfl) (of_decide_eq_true (by kernel_rfl)) k1 bel lt1) trodAll_mk0)), rfl, bel.frame _, fun h => by cases h⟩
theorem tapeDoes : Rows.TapeDoesSaid :=
  OpenClaim.holds_of_wide 7 Try.f7 rfl rfl rfl rfl rfl rfl rfl ⟨rfl, rfl, rfl, rfl, rfl⟩ rfl rfl rfl rfl rfl (by kernel_rfl) Try.func7 (by kernel_rfl)
    (of_decide_eq_true (by kernel_rfl)) (by unfold Func.isWrapper; first | (rw [if_pos (by decide +kernel)]; kernel_rfl) | (rw [if_neg (by decide +kernel)]; exact ⟨rfl, rfl⟩))
    (fun os started H enc _ => liftedTapeDoes os started H enc)
#print axioms tapeDoes
end Go.Proofs.Ytiipcclmmhkggaa
