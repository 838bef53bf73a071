/-
  Law 8: an act on both tapes; whether they are the same.
-/
import Derived.Test.YtiipcclmmhkggaaLw8B
set_option linter.unusedVariables false
set_option linter.unusedSimpArgs false
namespace Go.Fx
abbrev Op8 := Int × Int × Sl (Sl UInt8)
def Tp.does (x : Tp) (o : Op8) : Tp :=
  if o.1 = 0 then (x.append (joined o.2.2.l)).1 else if o.1 = 1 then (x.truncate o.2.1).1 else if o.1 = 2 then (x.arm o.2.1).1 else if o.1 = 3 then x.calm.1 else if o.1 = 4 then x.crash.1 else if o.1 = 5 then x.restart.1 else x
theorem Tp.does_ok {x : Tp} (h : x.Ok) {o : Op8} (hn : o.2.1 ≤ 9223372036854775807) : (x.does o).Ok := by
  unfold Tp.does
  repeat' split
  all_goals first | exact Tp.append_ok h _ | exact Tp.truncate_ok h _ | exact Tp.arm_ok h hn | exact Tp.calm_ok h | exact Tp.crash_ok h | exact Tp.restart_ok h | exact h
theorem Tp.append_made (x : Tp) (a : List UInt8) : (x.append a).1.made = x.made := by unfold Tp.append; repeat' split
                                                                                      all_goals rfl
theorem Tp.does_made (x : Tp) (o : Op8) : (x.does o).made = x.made := by
  unfold Tp.does Tp.append Tp.truncate Tp.arm Tp.calm Tp.crash Tp.restart Tp.goes
  repeat' split
  all_goals rfl
section
variable {w0 w : World} {As : List Asn} {p q : Value} {x : Tp}
theorem does_spec {o : Op8} (hs : Sep w0 w (tp p x :: rt q x :: As)) (hx : x.Ok) (hv : ∀ w', Sep w0 w' As → R_flurrylaw08_Op.ok w'.heap o) :
    cal P f_law08_does [p, q, .agg #[.int .i64 o.1, .int .i64 o.2.1, o.2.2.v]] w fun v w' => v = .bool true ∧ Sep w0 w' (tp p (x.does o) :: rt q (x.does o) :: As) := by
  refine s_law08_does fun R hR => ?_
  unfold c_law08_does
  refine bx_s hs fun g w1 hs1 => ?_
  simp only [Value.cells] at hs1
  have hend : ∀ w', Sep w0 w' (rt q (x.does o) :: blk g #[.int .i64 o.1, .int .i64 o.2.1, o.2.2.v] T_flurrylaw08_Op :: tp p (x.does o) :: As) → R (.bool true) w' := fun w' h => hR _ _ ⟨rfl, h.p2.p2.tail⟩
  simp only [nilc_some, fad_mk, pik_true, pik_false, cnd_true, cnd_false, gif_same, gif_tf, gif_ft, gif_undef, bi_add, bi_sub, bi_mul, bi_eql, bi_neq, bi_lss, bi_leq, bi_gtr, bi_geq, notB_bool, cvi_int, lenS_mk, lenT_mk, ext0, ext1, ext2, nilP_mk, nilS_mk, fldv_agg, jn0_k, jn1_k, jn2_k, jn1_and, jn1_or, ex_some, Option.isNone_some, Option.isNone_none, Bool.false_bne, Bool.bne_true, Bool.bne_false, Bool.true_bne, Bool.not_true, Bool.not_false, Bool.and_true, Bool.true_and, Bool.and_false, Bool.false_and, Bool.or_true, Bool.true_or, Bool.or_false, Bool.false_or, cond_true, cond_false, List.getElem?_toArray, List.getElem?_cons_zero, List.getElem?_cons_succ, Nat.zero_add, Nat.add_zero, Nat.reduceAdd, forall_const, ld1_eq hs1.blk]
  rw [cnd_bool]
  refine ⟨fun h => ?_, fun h0 => ?_⟩
  · have h : o.1 = 0 := by simpa using h
    refine ⟨fun u => u.heap[g]? = some (.cells #[.int .i64 o.1, .int .i64 o.2.1, o.2.2.v] T_flurrylaw08_Op (0, 0)), hs1.blk, ?_⟩
    have hs2 := hs1.drew (w1.drawn + 1)
    refine rdS_i (fun u hu => hu) rfl ?_
    refine rdS_i (fun u hu => hu) rfl ?_
    refine efS_i (cal_i (Append_spec (s := o.2.2) hs2.p1 hx fun w' h => (hv w' h.tail.tail).2.2) ?_)
    rintro _ w3 ⟨rfl, hs3⟩
    refine ⟨hs3.p1.blk, efC_cal (cal_i (rAppend_spec (s := o.2.2) hs3.p2 hx fun w' h => (hv w' h.tail.tail).2.2) ?_)⟩
    rintro _ w4 ⟨rfl, hs4⟩
    rw [bi_eql, beq_self_eq_true]
    exact hend _ (by simpa [Tp.does, h] using hs4.under (List.Perm.swap ..))
  rw [cnd_bool]
  refine ⟨fun h => ?_, fun h1 => ?_⟩
  · have h : o.1 = 1 := by simpa using h
    refine ⟨fun u => u.heap[g]? = some (.cells #[.int .i64 o.1, .int .i64 o.2.1, o.2.2.v] T_flurrylaw08_Op (0, 0)), hs1.blk, ?_⟩
    have hs2 := hs1.drew (w1.drawn + 1)
    refine rdS_i (fun u hu => hu) rfl ?_
    refine rdS_i (fun u hu => hu) rfl ?_
    refine efS_i (cal_i (Truncate_spec hs2.p1 hx) ?_)
    rintro _ w3 ⟨rfl, hs3⟩
    refine ⟨hs3.p1.blk, efC_cal (cal_i (rTruncate_spec hs3.p2 hx) ?_)⟩
    rintro _ w4 ⟨rfl, hs4⟩
    rw [bi_eql, beq_self_eq_true]
    exact hend _ (by simpa [Tp.does, h] using hs4.under (List.Perm.swap ..))
  rw [cnd_bool]
  refine ⟨fun h => ?_, fun h2 => ?_⟩
  · have h : o.1 = 2 := by simpa using h
    refine ⟨fun u => u.heap[g]? = some (.cells #[.int .i64 o.1, .int .i64 o.2.1, o.2.2.v] T_flurrylaw08_Op (0, 0)), hs1.blk, ?_⟩
    have hs2 := hs1.drew (w1.drawn + 1)
    refine rdS_i (fun u hu => hu) rfl ?_
    refine rdS_i (fun u hu => hu) rfl ?_
    refine efS_i (cal_i (Arm_spec hs2.p1) ?_)
    rintro _ w3 ⟨rfl, hs3⟩
    refine ⟨hs3.p1.blk, efC_cal (cal_i (rArm_spec hs3.p2) ?_)⟩
    rintro _ w4 ⟨rfl, hs4⟩
    rw [bi_eql, beq_self_eq_true]
    exact hend _ (by simpa [Tp.does, h] using hs4.under (List.Perm.swap ..))
  rw [cnd_bool]
  refine ⟨fun h => ?_, fun h3 => ?_⟩
  · have h : o.1 = 3 := by simpa using h
    refine cal_i (Calm_spec hs1.p1) ?_
    rintro _ w3 ⟨rfl, hs3⟩
    refine cal_i (rCalm_spec hs3.p2) ?_
    rintro _ w4 ⟨rfl, hs4⟩
    simp only [nilc_some, fad_mk, pik_true, pik_false, cnd_true, cnd_false, gif_same, gif_tf, gif_ft, gif_undef, bi_add, bi_sub, bi_mul, bi_eql, bi_neq, bi_lss, bi_leq, bi_gtr, bi_geq, notB_bool, cvi_int, lenS_mk, lenT_mk, ext0, ext1, ext2, nilP_mk, nilS_mk, fldv_agg, jn0_k, jn1_k, jn2_k, jn1_and, jn1_or, ex_some, Option.isNone_some, Option.isNone_none, Bool.false_bne, Bool.bne_true, Bool.bne_false, Bool.true_bne, Bool.not_true, Bool.not_false, Bool.and_true, Bool.true_and, Bool.and_false, Bool.false_and, Bool.or_true, Bool.true_or, Bool.or_false, Bool.false_or, cond_true, cond_false, List.getElem?_toArray, List.getElem?_cons_zero, List.getElem?_cons_succ, Nat.zero_add, Nat.add_zero, Nat.reduceAdd, forall_const, beq_self_eq_true]
    exact hend _ (by simpa [Tp.does, h] using hs4.under (List.Perm.swap ..))
  rw [cnd_bool]
  refine ⟨fun h => ?_, fun h4 => ?_⟩
  · have h : o.1 = 4 := by simpa using h
    refine cal_i (Crash_spec hs1.p1) ?_
    rintro _ w3 ⟨rfl, hs3⟩
    refine cal_i (rCrash_spec hs3.p2) ?_
    rintro _ w4 ⟨rfl, hs4⟩
    simp only [nilc_some, fad_mk, pik_true, pik_false, cnd_true, cnd_false, gif_same, gif_tf, gif_ft, gif_undef, bi_add, bi_sub, bi_mul, bi_eql, bi_neq, bi_lss, bi_leq, bi_gtr, bi_geq, notB_bool, cvi_int, lenS_mk, lenT_mk, ext0, ext1, ext2, nilP_mk, nilS_mk, fldv_agg, jn0_k, jn1_k, jn2_k, jn1_and, jn1_or, ex_some, Option.isNone_some, Option.isNone_none, Bool.false_bne, Bool.bne_true, Bool.bne_false, Bool.true_bne, Bool.not_true, Bool.not_false, Bool.and_true, Bool.true_and, Bool.and_false, Bool.false_and, Bool.or_true, Bool.true_or, Bool.or_false, Bool.false_or, cond_true, cond_false, List.getElem?_toArray, List.getElem?_cons_zero, List.getElem?_cons_succ, Nat.zero_add, Nat.add_zero, Nat.reduceAdd, forall_const, beq_self_eq_true]
    exact hend _ (by simpa [Tp.does, h] using hs4.under (List.Perm.swap ..))
  rw [cnd_bool]
  refine ⟨fun h => ?_, fun h5 => ?_⟩
  · have h : o.1 = 5 := by simpa using h
    refine cal_i (Restart_spec hs1.p1) ?_
    rintro _ w3 ⟨rfl, hs3⟩
    refine cal_i (rRestart_spec hs3.p2) ?_
    rintro _ w4 ⟨rfl, hs4⟩
    simp only [nilc_some, fad_mk, pik_true, pik_false, cnd_true, cnd_false, gif_same, gif_tf, gif_ft, gif_undef, bi_add, bi_sub, bi_mul, bi_eql, bi_neq, bi_lss, bi_leq, bi_gtr, bi_geq, notB_bool, cvi_int, lenS_mk, lenT_mk, ext0, ext1, ext2, nilP_mk, nilS_mk, fldv_agg, jn0_k, jn1_k, jn2_k, jn1_and, jn1_or, ex_some, Option.isNone_some, Option.isNone_none, Bool.false_bne, Bool.bne_true, Bool.bne_false, Bool.true_bne, Bool.not_true, Bool.not_false, Bool.and_true, Bool.true_and, Bool.and_false, Bool.false_and, Bool.or_true, Bool.true_or, Bool.or_false, Bool.false_or, cond_true, cond_false, List.getElem?_toArray, List.getElem?_cons_zero, List.getElem?_cons_succ, Nat.zero_add, Nat.add_zero, Nat.reduceAdd, forall_const, beq_self_eq_true]
    exact hend _ (by simpa [Tp.does, h] using hs4.under (List.Perm.swap ..))
  have hno : x.does o = x := by
    simp at h0 h1 h2 h3 h4 h5
    simp [Tp.does, h0, h1, h2, h3, h4, h5]
  rw [hno] at hend
  rw [cnd_bool]
  refine ⟨fun h => ?_, fun h7 => ?_⟩
  · have hm : x.made = true := by
      have := hs1.p2
      rw [rt_open] at this
      obtain ⟨_, _, ⟨_, hm⟩, _⟩ := this
      exact hm
    refine cal_i (Bytes_spec hs1.p1 hx hm) ?_
    rintro v w3 hs3
    have hs3 := hs1.join hs3
    obtain ⟨a, c, rfl, hc⟩ := Sep.form hs3
    simp only [lenS_mk]
    refine ⟨fun y w' => ∃ (i : Nat) (b : List UInt8), i ≤ x.b.length ∧ b.length = x.b.length ∧ y = .int .i64 i ∧ Sep w0 w' (ownB (.slice a x.b.length c) b :: blk g #[.int .i64 o.1, .int .i64 o.2.1, o.2.2.v] T_flurrylaw08_Op :: tp p x :: rt q x :: As),
      fun y _ => (x.b.length - RowKit.intOf y).toNat, ⟨0, _, by omega, rfl, rfl, hs3⟩, ?_⟩
    rintro _ w4 ⟨i, b, hi, hb, rfl, hs4⟩ -
    obtain ⟨hx1, _, _⟩ := hx
    simp only [nilc_some, fad_mk, pik_true, pik_false, cnd_true, cnd_false, gif_same, gif_tf, gif_ft, gif_undef, bi_add, bi_sub, bi_mul, bi_eql, bi_neq, bi_lss, bi_leq, bi_gtr, bi_geq, notB_bool, cvi_int, lenS_mk, lenT_mk, ext0, ext1, ext2, nilP_mk, nilS_mk, fldv_agg, jn0_k, jn1_k, jn2_k, jn1_and, jn1_or, ex_some, Option.isNone_some, Option.isNone_none, Bool.false_bne, Bool.bne_true, Bool.bne_false, Bool.true_bne, Bool.not_true, Bool.not_false, Bool.and_true, Bool.true_and, Bool.and_false, Bool.false_and, Bool.or_true, Bool.true_or, Bool.or_false, Bool.false_or, cond_true, cond_false, List.getElem?_toArray, List.getElem?_cons_zero, List.getElem?_cons_succ, Nat.zero_add, Nat.add_zero, Nat.reduceAdd, forall_const]
    rw [cnd_bool]
    refine ⟨fun h => ?_, fun h => ?_⟩
    · have hlt : i < b.length := by simp at h; omega
      refine ldxB_s hs4 hlt ?_
      rw [bv, bi_xor, bv_of _ (Int.natCast_nonneg _)]
      refine stxB_s hs4 hlt _ fun w5 hs5 => ?_
      rw [wi64 (by omega) (by omega)]
      exact ⟨⟨i + 1, _, by omega, by simpa using hb, by simp, hs5⟩, by simp [RowKit.intOf]; omega⟩
    · exact hend _ (hs4.tail.p2.under (List.Perm.refl _))
  · exact hend _ hs1.p2
theorem same_spec (hs : Sep w0 w (tp p x :: rt q x :: As)) (hx : x.Ok) : cal P f_law08_same [p, q] w fun v w' => v = .bool true ∧ Sep w0 w' (tp p x :: rt q x :: As) := by
  refine s_law08_same fun R hR => ?_
  unfold c_law08_same
  replace hs := hs.p1
  rw [rt_open] at hs
  obtain ⟨g, s, ⟨rfl, hm⟩, hs⟩ := hs
  refine drH_S hs fun w1 hs1 _ => ?_
  simp only [nilc_some, fad_mk, pik_true, pik_false, cnd_true, cnd_false, gif_same, gif_tf, gif_ft, gif_undef, bi_add, bi_sub, bi_mul, bi_eql, bi_neq, bi_lss, bi_leq, bi_gtr, bi_geq, notB_bool, cvi_int, lenS_mk, lenT_mk, ext0, ext1, ext2, nilP_mk, nilS_mk, fldv_agg, jn0_k, jn1_k, jn2_k, jn1_and, jn1_or, ex_some, Option.isNone_some, Option.isNone_none, Bool.false_bne, Bool.bne_true, Bool.bne_false, Bool.true_bne, Bool.not_true, Bool.not_false, Bool.and_true, Bool.true_and, Bool.and_false, Bool.false_and, Bool.or_true, Bool.true_or, Bool.or_false, Bool.false_or, cond_true, cond_false, List.getElem?_toArray, List.getElem?_cons_zero, List.getElem?_cons_succ, Nat.zero_add, Nat.add_zero, Nat.reduceAdd, forall_const]
  refine rdS_i (v := .bool x.off) (fun u hu => Sep.blk hu) rfl ?_
  rw [notB_bool]
  refine efS_i (cal_i (On_spec hs1.p2) ?_)
  rintro _ _ ⟨rfl, rfl⟩
  refine ⟨hs1, rdSP_i (v := .bool true) (fun u hu => ?_) ?_⟩
  · have := eqS_bool (P := P) (t := T_bool) (x := Operand.tmp 6) (y := Operand.tmp 11) (w := u) (x.made && !x.off) (!x.off) UT_bool (fun v => v = .bool true)
    have h2 : rdP P (eqS .eql T_bool (Operand.tmp 6) (Operand.tmp 11) (.bool (x.made && !x.off)) (.bool (!x.off))) u (fun v => v = .bool true) := by rw [this, hm]; simp
    obtain ⟨v, h3, rfl⟩ := h2
    exact h3
  simp only [nilc_some, fad_mk, pik_true, pik_false, cnd_true, cnd_false, gif_same, gif_tf, gif_ft, gif_undef, bi_add, bi_sub, bi_mul, bi_eql, bi_neq, bi_lss, bi_leq, bi_gtr, bi_geq, notB_bool, cvi_int, lenS_mk, lenT_mk, ext0, ext1, ext2, nilP_mk, nilS_mk, fldv_agg, jn0_k, jn1_k, jn2_k, jn1_and, jn1_or, ex_some, Option.isNone_some, Option.isNone_none, Bool.false_bne, Bool.bne_true, Bool.bne_false, Bool.true_bne, Bool.not_true, Bool.not_false, Bool.and_true, Bool.true_and, Bool.and_false, Bool.false_and, Bool.or_true, Bool.true_or, Bool.or_false, Bool.false_or, cond_true, cond_false, List.getElem?_toArray, List.getElem?_cons_zero, List.getElem?_cons_succ, Nat.zero_add, Nat.add_zero, Nat.reduceAdd, forall_const]
  refine jn1_dup (rdS_i (v := s) (fun u hu => Sep.blk hu) rfl ?_)
  rw [hs1.p1.rd.len]
  refine efS_i (cal_i (Len_spec hs1.p2 hm) ?_)
  rintro _ _ ⟨rfl, rfl⟩
  refine ⟨hs1, ?_⟩
  simp only [nilc_some, fad_mk, pik_true, pik_false, cnd_true, cnd_false, gif_same, gif_tf, gif_ft, gif_undef, bi_add, bi_sub, bi_mul, bi_eql, bi_neq, bi_lss, bi_leq, bi_gtr, bi_geq, notB_bool, cvi_int, lenS_mk, lenT_mk, ext0, ext1, ext2, nilP_mk, nilS_mk, fldv_agg, jn0_k, jn1_k, jn2_k, jn1_and, jn1_or, ex_some, Option.isNone_some, Option.isNone_none, Bool.false_bne, Bool.bne_true, Bool.bne_false, Bool.true_bne, Bool.not_true, Bool.not_false, Bool.and_true, Bool.true_and, Bool.and_false, Bool.false_and, Bool.or_true, Bool.true_or, Bool.or_false, Bool.false_or, cond_true, cond_false, List.getElem?_toArray, List.getElem?_cons_zero, List.getElem?_cons_succ, Nat.zero_add, Nat.add_zero, Nat.reduceAdd, forall_const, beq_self_eq_true]
  refine jn1_dup (rdS_i (v := s) (fun u hu => Sep.blk hu) rfl ?_)
  refine efS_i (cal_i (Bytes_spec hs1.p2 hx hm) ?_)
  rintro v w2 hs2
  have hs3 := hs1.join hs2
  refine ⟨hs3.tail, efS_i (cal_i (Equal_spec (Sep.rd hs3) hs3.p2.rd) ?_)⟩
  rintro _ _ ⟨rfl, rfl⟩
  refine ⟨hs3.tail, ?_⟩
  rw [beq_self_eq_true]
  exact fun _ => hR _ _ ⟨rfl, (rt_i hm hs3.tail).p1⟩
end
end Go.Fx
