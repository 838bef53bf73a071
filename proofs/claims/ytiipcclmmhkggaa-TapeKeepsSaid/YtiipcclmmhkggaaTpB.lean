/-
  Package tape: the other functions' contracts; a tape that no call made.
-/
import Derived.Test.YtiipcclmmhkggaaTpA
set_option linter.unusedVariables false
set_option linter.unusedSimpArgs false
namespace Go.Fx
theorem Tp.may_zero {x : Tp} : x.may = 0 ↔ x.made = true ∧ x.off = false := by
  obtain ⟨b, armed, off, made⟩ := x
  cases made <;> cases off <;> simp [Tp.may]
theorem Tp.may_five {x : Tp} : x.may = 5 ↔ x.made = true ∧ x.off = true := by
  obtain ⟨b, armed, off, made⟩ := x
  cases made <;> cases off <;> simp [Tp.may]
theorem Tp.may_two {x : Tp} : x.may = 2 ↔ x.made = false := by
  obtain ⟨b, armed, off, made⟩ := x
  cases made <;> cases off <;> simp [Tp.may]
theorem Tp.append_ok {x : Tp} (h : x.Ok) (a : List UInt8) : (x.append a).1.Ok := by
  unfold Tp.append
  obtain ⟨h1, h2, h3⟩ := h
  repeat' split
  all_goals first | exact ⟨h1, h2, h3⟩ | (refine ⟨?_, ?_, ?_⟩ <;> simp <;> omega)
theorem Tp.truncate_ok {x : Tp} (h : x.Ok) (n : Int) : (x.truncate n).1.Ok := by
  unfold Tp.truncate
  obtain ⟨h1, h2, h3⟩ := h
  repeat' split
  all_goals first | exact ⟨h1, h2, h3⟩ | (refine ⟨?_, ?_, ?_⟩ <;> simp <;> omega)
theorem Tp.arm_ok {x : Tp} (h : x.Ok) {n : Int} (hn : n ≤ 9223372036854775807) : (x.arm n).1.Ok := by
  unfold Tp.arm
  obtain ⟨h1, h2, h3⟩ := h
  repeat' split
  all_goals first | exact ⟨h1, h2, h3⟩ | (refine ⟨?_, ?_, ?_⟩ <;> simp <;> omega)
theorem Tp.calm_ok {x : Tp} (h : x.Ok) : x.calm.1.Ok := by
  unfold Tp.calm
  obtain ⟨h1, h2, h3⟩ := h
  split
  all_goals first | exact ⟨h1, h2, h3⟩ | exact ⟨h1, by simp, by simp⟩
theorem Tp.crash_ok {x : Tp} (h : x.Ok) : x.crash.1.Ok := by
  unfold Tp.crash Tp.goes
  obtain ⟨h1, h2, h3⟩ := h
  split
  all_goals first | exact ⟨h1, h2, h3⟩ | exact ⟨h1, by simp, by simp⟩
theorem Tp.restart_ok {x : Tp} (h : x.Ok) : x.restart.1.Ok := by
  unfold Tp.restart
  obtain ⟨h1, h2, h3⟩ := h
  repeat' split
  all_goals exact ⟨h1, h2, h3⟩
section
variable {w0 w : World} {As : List Asn} {p : Value} {x : Tp}
theorem Truncate_spec {n : Int} (hs : Sep w0 w (tp p x :: As)) (hx : x.Ok) : cal P f_tape_Tape_Truncate [p, .int .i64 n] w fun v w' => v = .int .i64 (x.truncate n).2 ∧ Sep w0 w' (tp p (x.truncate n).1 :: As) := by
  refine s_tape_Tape_Truncate fun R hR => ?_
  unfold c_tape_Tape_Truncate
  refine cal_i (may_spec hs) ?_
  rintro _ _ ⟨rfl, rfl⟩
  simp only [nilc_some, fad_mk, pik_true, pik_false, cnd_true, cnd_false, gif_same, gif_tf, gif_ft, gif_undef, bi_add, bi_sub, bi_mul, bi_eql, bi_neq, bi_lss, bi_leq, bi_gtr, bi_geq, notB_bool, cvi_int, lenS_mk, lenT_mk, ext0, ext1, ext2, nilP_mk, nilS_mk, fldv_agg, jn0_k, jn1_k, jn2_k, jn1_and, jn1_or, ex_some, Option.isNone_some, Option.isNone_none, Bool.false_bne, Bool.bne_true, Bool.bne_false, Bool.true_bne, Bool.not_true, Bool.not_false, Bool.and_true, Bool.true_and, Bool.and_false, Bool.false_and, Bool.or_true, Bool.true_or, Bool.or_false, Bool.false_or, cond_true, cond_false, List.getElem?_toArray, List.getElem?_cons_zero, List.getElem?_cons_succ, Nat.zero_add, Nat.add_zero, Nat.reduceAdd, forall_const]
  rw [cnd_bool]
  refine ⟨fun h => ?_, fun h => ?_⟩
  · have h : x.may ≠ 0 := by simpa using h
    exact hR _ _ ⟨by simp [Tp.truncate, h], by simpa [Tp.truncate, h] using hs⟩
  have hmay : x.may = 0 := by simpa using h
  obtain ⟨hx1, hx2, hx3⟩ := hx
  rw [tp_open] at hs
  obtain ⟨g, sv, rfl, hs⟩ := hs
  have hg := hs.blk
  simp only [nilc_some, fad_mk, pik_true, pik_false, cnd_true, cnd_false, gif_same, gif_tf, gif_ft, gif_undef, bi_add, bi_sub, bi_mul, bi_eql, bi_neq, bi_lss, bi_leq, bi_gtr, bi_geq, notB_bool, cvi_int, lenS_mk, lenT_mk, ext0, ext1, ext2, nilP_mk, nilS_mk, fldv_agg, jn0_k, jn1_k, jn2_k, jn1_and, jn1_or, ex_some, Option.isNone_some, Option.isNone_none, Bool.false_bne, Bool.bne_true, Bool.bne_false, Bool.true_bne, Bool.not_true, Bool.not_false, Bool.and_true, Bool.true_and, Bool.and_false, Bool.false_and, Bool.or_true, Bool.true_or, Bool.or_false, Bool.false_or, cond_true, cond_false, List.getElem?_toArray, List.getElem?_cons_zero, List.getElem?_cons_succ, Nat.zero_add, Nat.add_zero, Nat.reduceAdd, forall_const, ld1_eq hg, hs.p1.rd.len]
  rw [cnd_bool]
  refine ⟨fun h => ?_, fun h => ?_⟩
  · have h : n < 0 ∨ (x.b.length : Int) < n := by simpa using h
    exact hR _ _ ⟨by simp [Tp.truncate, hmay, h], by simpa [Tp.truncate, hmay, h] using tp_i hs⟩
  · have h : ¬ (n < 0 ∨ (x.b.length : Int) < n) := by simpa using h
    obtain ⟨m, rfl⟩ := Int.eq_ofNat_of_zero_le (show 0 ≤ n by omega)
    obtain ⟨a, c, rfl, hc⟩ := hs.p1.form
    have hm : m ≤ x.b.length := by omega
    rw [slc_to (by omega)]
    refine cal_i (told_spec (hs.p1.rd.take hm c) (by simp; omega)) ?_
    rintro r w1 hs1
    replace hs := (hs.join hs1).p1
    refine st1_s hs (by simp) hs.p1.one fun w2 hs2 => ?_
    have ht : x.truncate m = ({ x with b := x.b.take m }, 0) := by rw [Tp.truncate, if_neg (by simp [hmay]), if_neg (by omega)]; simp
    exact hR _ _ ⟨by rw [ht], by rw [ht]; exact tp_i (x := { x with b := x.b.take m }) hs2.d2⟩
theorem Arm_spec {n : Int} (hs : Sep w0 w (tp p x :: As)) : cal P f_tape_Tape_Arm [p, .int .i64 n] w fun v w' => v = .int .i64 (x.arm n).2 ∧ Sep w0 w' (tp p (x.arm n).1 :: As) := by
  refine s_tape_Tape_Arm fun R hR => ?_
  unfold c_tape_Tape_Arm
  refine cal_i (may_spec hs) ?_
  rintro _ _ ⟨rfl, rfl⟩
  simp only [nilc_some, fad_mk, pik_true, pik_false, cnd_true, cnd_false, gif_same, gif_tf, gif_ft, gif_undef, bi_add, bi_sub, bi_mul, bi_eql, bi_neq, bi_lss, bi_leq, bi_gtr, bi_geq, notB_bool, cvi_int, lenS_mk, lenT_mk, ext0, ext1, ext2, nilP_mk, nilS_mk, fldv_agg, jn0_k, jn1_k, jn2_k, jn1_and, jn1_or, ex_some, Option.isNone_some, Option.isNone_none, Bool.false_bne, Bool.bne_true, Bool.bne_false, Bool.true_bne, Bool.not_true, Bool.not_false, Bool.and_true, Bool.true_and, Bool.and_false, Bool.false_and, Bool.or_true, Bool.true_or, Bool.or_false, Bool.false_or, cond_true, cond_false, List.getElem?_toArray, List.getElem?_cons_zero, List.getElem?_cons_succ, Nat.zero_add, Nat.add_zero, Nat.reduceAdd, forall_const]
  rw [cnd_bool]
  refine ⟨fun h => ?_, fun h => ?_⟩
  · have h : x.may ≠ 0 := by simpa using h
    exact hR _ _ ⟨by simp [Tp.arm, h], by simpa [Tp.arm, h] using hs⟩
  have hmay : x.may = 0 := by simpa using h
  rw [cnd_bool]
  refine ⟨fun h => ?_, fun h => ?_⟩
  · have h : n < 0 := by simpa using h
    exact hR _ _ ⟨by simp [Tp.arm, hmay, h], by simpa [Tp.arm, hmay, h] using hs⟩
  · have h : ¬ n < 0 := by simpa using h
    rw [tp_open] at hs
    obtain ⟨g, sv, rfl, hs⟩ := hs
    simp only [nilc_some, fad_mk, pik_true, pik_false, cnd_true, cnd_false, gif_same, gif_tf, gif_ft, gif_undef, bi_add, bi_sub, bi_mul, bi_eql, bi_neq, bi_lss, bi_leq, bi_gtr, bi_geq, notB_bool, cvi_int, lenS_mk, lenT_mk, ext0, ext1, ext2, nilP_mk, nilS_mk, fldv_agg, jn0_k, jn1_k, jn2_k, jn1_and, jn1_or, ex_some, Option.isNone_some, Option.isNone_none, Bool.false_bne, Bool.bne_true, Bool.bne_false, Bool.true_bne, Bool.not_true, Bool.not_false, Bool.and_true, Bool.true_and, Bool.and_false, Bool.false_and, Bool.or_true, Bool.true_or, Bool.or_false, Bool.false_or, cond_true, cond_false, List.getElem?_toArray, List.getElem?_cons_zero, List.getElem?_cons_succ, Nat.zero_add, Nat.add_zero, Nat.reduceAdd, forall_const]
    refine st1_s hs (by simp) rfl fun w2 hs2 => ?_
    exact hR _ _ ⟨by simp [Tp.arm, hmay, h], by simpa [Tp.arm, hmay, h] using tp_i (x := { x with armed := n }) hs2⟩
theorem Calm_spec (hs : Sep w0 w (tp p x :: As)) : cal P f_tape_Tape_Calm [p] w fun v w' => v = .int .i64 x.calm.2 ∧ Sep w0 w' (tp p x.calm.1 :: As) := by
  refine s_tape_Tape_Calm fun R hR => ?_
  unfold c_tape_Tape_Calm
  refine cal_i (may_spec hs) ?_
  rintro _ _ ⟨rfl, rfl⟩
  simp only [nilc_some, fad_mk, pik_true, pik_false, cnd_true, cnd_false, gif_same, gif_tf, gif_ft, gif_undef, bi_add, bi_sub, bi_mul, bi_eql, bi_neq, bi_lss, bi_leq, bi_gtr, bi_geq, notB_bool, cvi_int, lenS_mk, lenT_mk, ext0, ext1, ext2, nilP_mk, nilS_mk, fldv_agg, jn0_k, jn1_k, jn2_k, jn1_and, jn1_or, ex_some, Option.isNone_some, Option.isNone_none, Bool.false_bne, Bool.bne_true, Bool.bne_false, Bool.true_bne, Bool.not_true, Bool.not_false, Bool.and_true, Bool.true_and, Bool.and_false, Bool.false_and, Bool.or_true, Bool.true_or, Bool.or_false, Bool.false_or, cond_true, cond_false, List.getElem?_toArray, List.getElem?_cons_zero, List.getElem?_cons_succ, Nat.zero_add, Nat.add_zero, Nat.reduceAdd, forall_const]
  rw [cnd_bool]
  refine ⟨fun h => ?_, fun h => ?_⟩
  · have hmay : x.may = 0 := by simpa using h
    rw [tp_open] at hs
    obtain ⟨g, sv, rfl, hs⟩ := hs
    simp only [nilc_some, fad_mk, pik_true, pik_false, cnd_true, cnd_false, gif_same, gif_tf, gif_ft, gif_undef, bi_add, bi_sub, bi_mul, bi_eql, bi_neq, bi_lss, bi_leq, bi_gtr, bi_geq, notB_bool, cvi_int, lenS_mk, lenT_mk, ext0, ext1, ext2, nilP_mk, nilS_mk, fldv_agg, jn0_k, jn1_k, jn2_k, jn1_and, jn1_or, ex_some, Option.isNone_some, Option.isNone_none, Bool.false_bne, Bool.bne_true, Bool.bne_false, Bool.true_bne, Bool.not_true, Bool.not_false, Bool.and_true, Bool.true_and, Bool.and_false, Bool.false_and, Bool.or_true, Bool.true_or, Bool.or_false, Bool.false_or, cond_true, cond_false, List.getElem?_toArray, List.getElem?_cons_zero, List.getElem?_cons_succ, Nat.zero_add, Nat.add_zero, Nat.reduceAdd, forall_const]
    refine st1_s hs (by simp) rfl fun w2 hs2 => ?_
    exact hR _ _ ⟨by simp [Tp.calm, hmay], by simpa [Tp.calm, hmay] using tp_i (x := { x with armed := -1 }) hs2⟩
  · have h : x.may ≠ 0 := by simpa using h
    exact hR _ _ ⟨by simp [Tp.calm, h], by simpa [Tp.calm, h] using hs⟩
theorem Crash_spec (hs : Sep w0 w (tp p x :: As)) : cal P f_tape_Tape_Crash [p] w fun v w' => v = .int .i64 x.crash.2 ∧ Sep w0 w' (tp p x.crash.1 :: As) := by
  refine s_tape_Tape_Crash fun R hR => ?_
  unfold c_tape_Tape_Crash
  refine cal_i (may_spec hs) ?_
  rintro _ _ ⟨rfl, rfl⟩
  simp only [nilc_some, fad_mk, pik_true, pik_false, cnd_true, cnd_false, gif_same, gif_tf, gif_ft, gif_undef, bi_add, bi_sub, bi_mul, bi_eql, bi_neq, bi_lss, bi_leq, bi_gtr, bi_geq, notB_bool, cvi_int, lenS_mk, lenT_mk, ext0, ext1, ext2, nilP_mk, nilS_mk, fldv_agg, jn0_k, jn1_k, jn2_k, jn1_and, jn1_or, ex_some, Option.isNone_some, Option.isNone_none, Bool.false_bne, Bool.bne_true, Bool.bne_false, Bool.true_bne, Bool.not_true, Bool.not_false, Bool.and_true, Bool.true_and, Bool.and_false, Bool.false_and, Bool.or_true, Bool.true_or, Bool.or_false, Bool.false_or, cond_true, cond_false, List.getElem?_toArray, List.getElem?_cons_zero, List.getElem?_cons_succ, Nat.zero_add, Nat.add_zero, Nat.reduceAdd, forall_const]
  rw [cnd_bool]
  refine ⟨fun h => ?_, fun h => ?_⟩
  · have hmay : x.may = 0 := by simpa using h
    refine cal_i (goes_spec hs) ?_
    rintro _ w1 ⟨rfl, hs⟩
    exact hR _ _ ⟨by simp [Tp.crash, hmay], by simpa [Tp.crash, hmay] using hs⟩
  · have h : x.may ≠ 0 := by simpa using h
    exact hR _ _ ⟨by simp [Tp.crash, h], by simpa [Tp.crash, h] using hs⟩
theorem Restart_spec (hs : Sep w0 w (tp p x :: As)) : cal P f_tape_Tape_Restart [p] w fun v w' => v = .int .i64 x.restart.2 ∧ Sep w0 w' (tp p x.restart.1 :: As) := by
  refine s_tape_Tape_Restart fun R hR => ?_
  unfold c_tape_Tape_Restart
  refine cal_i (may_spec hs) ?_
  rintro _ _ ⟨rfl, rfl⟩
  simp only [nilc_some, fad_mk, pik_true, pik_false, cnd_true, cnd_false, gif_same, gif_tf, gif_ft, gif_undef, bi_add, bi_sub, bi_mul, bi_eql, bi_neq, bi_lss, bi_leq, bi_gtr, bi_geq, notB_bool, cvi_int, lenS_mk, lenT_mk, ext0, ext1, ext2, nilP_mk, nilS_mk, fldv_agg, jn0_k, jn1_k, jn2_k, jn1_and, jn1_or, ex_some, Option.isNone_some, Option.isNone_none, Bool.false_bne, Bool.bne_true, Bool.bne_false, Bool.true_bne, Bool.not_true, Bool.not_false, Bool.and_true, Bool.true_and, Bool.and_false, Bool.false_and, Bool.or_true, Bool.true_or, Bool.or_false, Bool.false_or, cond_true, cond_false, List.getElem?_toArray, List.getElem?_cons_zero, List.getElem?_cons_succ, Nat.zero_add, Nat.add_zero, Nat.reduceAdd, forall_const]
  rw [cnd_bool]
  refine ⟨fun h => ?_, fun h => ?_⟩
  · have hmay : x.may = 0 := by simpa using h
    exact hR _ _ ⟨by simp [Tp.restart, hmay], by simpa [Tp.restart, hmay] using hs⟩
  have h0 : x.may ≠ 0 := by simpa using h
  rw [cnd_bool]
  refine ⟨fun h => ?_, fun h => ?_⟩
  · have h : x.may = 5 := by simpa using h
    rw [tp_open] at hs
    obtain ⟨g, sv, rfl, hs⟩ := hs
    simp only [nilc_some, fad_mk, pik_true, pik_false, cnd_true, cnd_false, gif_same, gif_tf, gif_ft, gif_undef, bi_add, bi_sub, bi_mul, bi_eql, bi_neq, bi_lss, bi_leq, bi_gtr, bi_geq, notB_bool, cvi_int, lenS_mk, lenT_mk, ext0, ext1, ext2, nilP_mk, nilS_mk, fldv_agg, jn0_k, jn1_k, jn2_k, jn1_and, jn1_or, ex_some, Option.isNone_some, Option.isNone_none, Bool.false_bne, Bool.bne_true, Bool.bne_false, Bool.true_bne, Bool.not_true, Bool.not_false, Bool.and_true, Bool.true_and, Bool.and_false, Bool.false_and, Bool.or_true, Bool.true_or, Bool.or_false, Bool.false_or, cond_true, cond_false, List.getElem?_toArray, List.getElem?_cons_zero, List.getElem?_cons_succ, Nat.zero_add, Nat.add_zero, Nat.reduceAdd, forall_const]
    refine st1_s hs (by simp) rfl fun w2 hs2 => ?_
    exact hR _ _ ⟨by simp [Tp.restart, h], by simpa [Tp.restart, h] using tp_i (x := { x with off := false }) hs2⟩
  · have h : x.may ≠ 5 := by simpa using h
    exact hR _ _ ⟨by simp [Tp.restart, h, h0], by simpa [Tp.restart, h, h0] using hs⟩
theorem On_spec (hs : Sep w0 w (tp p x :: As)) : cal P f_tape_Tape_On [p] w fun v w' => v = .bool (x.made && !x.off) ∧ w = w' := by
  refine s_tape_Tape_On fun R hR => ?_
  unfold c_tape_Tape_On
  refine cal_i (may_spec hs) ?_
  rintro _ _ ⟨rfl, rfl⟩
  simp only [nilc_some, fad_mk, pik_true, pik_false, cnd_true, cnd_false, gif_same, gif_tf, gif_ft, gif_undef, bi_add, bi_sub, bi_mul, bi_eql, bi_neq, bi_lss, bi_leq, bi_gtr, bi_geq, notB_bool, cvi_int, lenS_mk, lenT_mk, ext0, ext1, ext2, nilP_mk, nilS_mk, fldv_agg, jn0_k, jn1_k, jn2_k, jn1_and, jn1_or, ex_some, Option.isNone_some, Option.isNone_none, Bool.false_bne, Bool.bne_true, Bool.bne_false, Bool.true_bne, Bool.not_true, Bool.not_false, Bool.and_true, Bool.true_and, Bool.and_false, Bool.false_and, Bool.or_true, Bool.true_or, Bool.or_false, Bool.false_or, cond_true, cond_false, List.getElem?_toArray, List.getElem?_cons_zero, List.getElem?_cons_succ, Nat.zero_add, Nat.add_zero, Nat.reduceAdd, forall_const]
  refine hR _ _ ⟨?_, rfl⟩
  obtain ⟨b, armed, off, made⟩ := x
  cases made <;> cases off <;> rfl
theorem Bytes_spec (hs : Sep w0 w (tp p x :: As)) (hx : x.Ok) (hm : x.made = true) : cal P f_tape_Tape_Bytes [p] w fun v w' => Sep w w' [ownB v x.b] := by
  refine s_tape_Tape_Bytes fun R hR => ?_
  unfold c_tape_Tape_Bytes
  refine cal_i (may_spec hs) ?_
  rintro _ _ ⟨rfl, rfl⟩
  have h2 : (x.may == 2) = false := by cases h : x.off <;> simp [Tp.may, hm, h]
  simp only [nilc_some, fad_mk, pik_true, pik_false, cnd_true, cnd_false, gif_same, gif_tf, gif_ft, gif_undef, bi_add, bi_sub, bi_mul, bi_eql, bi_neq, bi_lss, bi_leq, bi_gtr, bi_geq, notB_bool, cvi_int, lenS_mk, lenT_mk, ext0, ext1, ext2, nilP_mk, nilS_mk, fldv_agg, jn0_k, jn1_k, jn2_k, jn1_and, jn1_or, ex_some, Option.isNone_some, Option.isNone_none, Bool.false_bne, Bool.bne_true, Bool.bne_false, Bool.true_bne, Bool.not_true, Bool.not_false, Bool.and_true, Bool.true_and, Bool.and_false, Bool.false_and, Bool.or_true, Bool.true_or, Bool.or_false, Bool.false_or, cond_true, cond_false, List.getElem?_toArray, List.getElem?_cons_zero, List.getElem?_cons_succ, Nat.zero_add, Nat.add_zero, Nat.reduceAdd, forall_const, h2]
  rw [tp_open] at hs
  obtain ⟨g, sv, rfl, hs⟩ := hs
  simp only [nilc_some, fad_mk, pik_true, pik_false, cnd_true, cnd_false, gif_same, gif_tf, gif_ft, gif_undef, bi_add, bi_sub, bi_mul, bi_eql, bi_neq, bi_lss, bi_leq, bi_gtr, bi_geq, notB_bool, cvi_int, lenS_mk, lenT_mk, ext0, ext1, ext2, nilP_mk, nilS_mk, fldv_agg, jn0_k, jn1_k, jn2_k, jn1_and, jn1_or, ex_some, Option.isNone_some, Option.isNone_none, Bool.false_bne, Bool.bne_true, Bool.bne_false, Bool.true_bne, Bool.not_true, Bool.not_false, Bool.and_true, Bool.true_and, Bool.and_false, Bool.false_and, Bool.or_true, Bool.true_or, Bool.or_false, Bool.false_or, cond_true, cond_false, List.getElem?_toArray, List.getElem?_cons_zero, List.getElem?_cons_succ, Nat.zero_add, Nat.add_zero, Nat.reduceAdd, forall_const, ld1_eq hs.blk]
  obtain ⟨hx1, hx2, hx3⟩ := hx
  exact cal_i (told_spec hs.p1.rd (by omega)) fun v w' h => hR _ _ h
theorem Len_spec (hs : Sep w0 w (tp p x :: As)) (hm : x.made = true) : cal P f_tape_Tape_Len [p] w fun v w' => v = .int .i64 x.b.length ∧ w = w' := by
  refine s_tape_Tape_Len fun R hR => ?_
  unfold c_tape_Tape_Len
  refine cal_i (may_spec hs) ?_
  rintro _ _ ⟨rfl, rfl⟩
  have h2 : (x.may == 2) = false := by cases h : x.off <;> simp [Tp.may, hm, h]
  simp only [nilc_some, fad_mk, pik_true, pik_false, cnd_true, cnd_false, gif_same, gif_tf, gif_ft, gif_undef, bi_add, bi_sub, bi_mul, bi_eql, bi_neq, bi_lss, bi_leq, bi_gtr, bi_geq, notB_bool, cvi_int, lenS_mk, lenT_mk, ext0, ext1, ext2, nilP_mk, nilS_mk, fldv_agg, jn0_k, jn1_k, jn2_k, jn1_and, jn1_or, ex_some, Option.isNone_some, Option.isNone_none, Bool.false_bne, Bool.bne_true, Bool.bne_false, Bool.true_bne, Bool.not_true, Bool.not_false, Bool.and_true, Bool.true_and, Bool.and_false, Bool.false_and, Bool.or_true, Bool.true_or, Bool.or_false, Bool.false_or, cond_true, cond_false, List.getElem?_toArray, List.getElem?_cons_zero, List.getElem?_cons_succ, Nat.zero_add, Nat.add_zero, Nat.reduceAdd, forall_const, h2]
  rw [tp_open] at hs
  obtain ⟨g, sv, rfl, hs⟩ := hs
  simp only [nilc_some, fad_mk, pik_true, pik_false, cnd_true, cnd_false, gif_same, gif_tf, gif_ft, gif_undef, bi_add, bi_sub, bi_mul, bi_eql, bi_neq, bi_lss, bi_leq, bi_gtr, bi_geq, notB_bool, cvi_int, lenS_mk, lenT_mk, ext0, ext1, ext2, nilP_mk, nilS_mk, fldv_agg, jn0_k, jn1_k, jn2_k, jn1_and, jn1_or, ex_some, Option.isNone_some, Option.isNone_none, Bool.false_bne, Bool.bne_true, Bool.bne_false, Bool.true_bne, Bool.not_true, Bool.not_false, Bool.and_true, Bool.true_and, Bool.and_false, Bool.false_and, Bool.or_true, Bool.true_or, Bool.or_false, Bool.false_or, cond_true, cond_false, List.getElem?_toArray, List.getElem?_cons_zero, List.getElem?_cons_succ, Nat.zero_add, Nat.add_zero, Nat.reduceAdd, forall_const, ld1_eq hs.blk, hs.p1.rd.len]
  exact hR _ _ ⟨rfl, rfl⟩
theorem Clone_spec (hs : Sep w0 w (tp p x :: As)) (hx : x.Ok) (hm : x.made = true) : cal P f_tape_Tape_Clone [p] w fun v w' => Sep w w' [tp v x] := by
  refine s_tape_Tape_Clone fun R hR => ?_
  unfold c_tape_Tape_Clone
  refine cal_i (may_spec hs) ?_
  rintro _ _ ⟨rfl, rfl⟩
  have h2 : (x.may == 2) = false := by cases h : x.off <;> simp [Tp.may, hm, h]
  simp only [nilc_some, fad_mk, pik_true, pik_false, cnd_true, cnd_false, gif_same, gif_tf, gif_ft, gif_undef, bi_add, bi_sub, bi_mul, bi_eql, bi_neq, bi_lss, bi_leq, bi_gtr, bi_geq, notB_bool, cvi_int, lenS_mk, lenT_mk, ext0, ext1, ext2, nilP_mk, nilS_mk, fldv_agg, jn0_k, jn1_k, jn2_k, jn1_and, jn1_or, ex_some, Option.isNone_some, Option.isNone_none, Bool.false_bne, Bool.bne_true, Bool.bne_false, Bool.true_bne, Bool.not_true, Bool.not_false, Bool.and_true, Bool.true_and, Bool.and_false, Bool.false_and, Bool.or_true, Bool.true_or, Bool.or_false, Bool.false_or, cond_true, cond_false, List.getElem?_toArray, List.getElem?_cons_zero, List.getElem?_cons_succ, Nat.zero_add, Nat.add_zero, Nat.reduceAdd, forall_const, h2]
  rw [tp_open] at hs
  obtain ⟨g, sv, rfl, hs⟩ := hs
  obtain ⟨hx1, hx2, hx3⟩ := hx
  have hr := hs.p1.rd
  have h1 := hs.p1.one
  simp only [nilc_some, fad_mk, pik_true, pik_false, cnd_true, cnd_false, gif_same, gif_tf, gif_ft, gif_undef, bi_add, bi_sub, bi_mul, bi_eql, bi_neq, bi_lss, bi_leq, bi_gtr, bi_geq, notB_bool, cvi_int, lenS_mk, lenT_mk, ext0, ext1, ext2, nilP_mk, nilS_mk, fldv_agg, jn0_k, jn1_k, jn2_k, jn1_and, jn1_or, ex_some, Option.isNone_some, Option.isNone_none, Bool.false_bne, Bool.bne_true, Bool.bne_false, Bool.true_bne, Bool.not_true, Bool.not_false, Bool.and_true, Bool.true_and, Bool.and_false, Bool.false_and, Bool.or_true, Bool.true_or, Bool.or_false, Bool.false_or, cond_true, cond_false, List.getElem?_toArray, List.getElem?_cons_zero, List.getElem?_cons_succ, Nat.zero_add, Nat.add_zero, Nat.reduceAdd, forall_const, ldN_eq hs.blk]
  refine ⟨by simp, ?_⟩
  refine alloc_s (Sep.start w) (al_tape_Tape w) fun g1 w1 hs1 => ?_
  refine stN_s hs1 (by simp) (by simp) (by simp; exact ⟨h1, rfl, rfl, rfl⟩) fun w2 hs2 => ?_
  have hfr := hs2.fr0
  have hg := hfr.blk hs.blk (by simp)
  simp only [nilc_some, fad_mk, pik_true, pik_false, cnd_true, cnd_false, gif_same, gif_tf, gif_ft, gif_undef, bi_add, bi_sub, bi_mul, bi_eql, bi_neq, bi_lss, bi_leq, bi_gtr, bi_geq, notB_bool, cvi_int, lenS_mk, lenT_mk, ext0, ext1, ext2, nilP_mk, nilS_mk, fldv_agg, jn0_k, jn1_k, jn2_k, jn1_and, jn1_or, ex_some, Option.isNone_some, Option.isNone_none, Bool.false_bne, Bool.bne_true, Bool.bne_false, Bool.true_bne, Bool.not_true, Bool.not_false, Bool.and_true, Bool.true_and, Bool.and_false, Bool.false_and, Bool.or_true, Bool.true_or, Bool.or_false, Bool.false_or, cond_true, cond_false, List.getElem?_toArray, List.getElem?_cons_zero, List.getElem?_cons_succ, Nat.zero_add, Nat.add_zero, Nat.reduceAdd, forall_const, ld1_eq hg]
  refine cal_i (told_spec (hs2.rdB hr) (by omega)) ?_
  rintro r w3 hs3
  replace hs2 := (hs2.join hs3).p1
  clear hs3
  refine st1_s hs2 (by simp [splice]) hs2.p1.one fun w4 hs4 => ?_
  exact hR _ _ (tp_i hs4)
end
/-! ### One that no call made -/
section
variable {w : World} {p : Value} (hm : ∀ w', w' = w → cal P f_tape_Tape_may [p] w' fun v w'' => v = .int .i64 2 ∧ w' = w'')
include hm
theorem Append_none (v : Value) : cal P f_tape_Tape_Append [p, v] w fun v w' => v = .int .i64 2 ∧ w = w' := by
  refine s_tape_Tape_Append fun R hR => ?_
  unfold c_tape_Tape_Append
  refine cal_i (hm w rfl) ?_
  rintro _ _ ⟨rfl, rfl⟩
  simp only [nilc_some, fad_mk, pik_true, pik_false, cnd_true, cnd_false, gif_same, gif_tf, gif_ft, gif_undef, bi_add, bi_sub, bi_mul, bi_eql, bi_neq, bi_lss, bi_leq, bi_gtr, bi_geq, notB_bool, cvi_int, lenS_mk, lenT_mk, ext0, ext1, ext2, nilP_mk, nilS_mk, fldv_agg, jn0_k, jn1_k, jn2_k, jn1_and, jn1_or, ex_some, Option.isNone_some, Option.isNone_none, Bool.false_bne, Bool.bne_true, Bool.bne_false, Bool.true_bne, Bool.not_true, Bool.not_false, Bool.and_true, Bool.true_and, Bool.and_false, Bool.false_and, Bool.or_true, Bool.true_or, Bool.or_false, Bool.false_or, cond_true, cond_false, List.getElem?_toArray, List.getElem?_cons_zero, List.getElem?_cons_succ, Nat.zero_add, Nat.add_zero, Nat.reduceAdd, forall_const, show ((2 : Int) != 0) = true from rfl]
  exact hR _ _ ⟨rfl, rfl⟩
theorem Truncate_none (v : Value) : cal P f_tape_Tape_Truncate [p, v] w fun v w' => v = .int .i64 2 ∧ w = w' := by
  refine s_tape_Tape_Truncate fun R hR => ?_
  unfold c_tape_Tape_Truncate
  refine cal_i (hm w rfl) ?_
  rintro _ _ ⟨rfl, rfl⟩
  simp only [nilc_some, fad_mk, pik_true, pik_false, cnd_true, cnd_false, gif_same, gif_tf, gif_ft, gif_undef, bi_add, bi_sub, bi_mul, bi_eql, bi_neq, bi_lss, bi_leq, bi_gtr, bi_geq, notB_bool, cvi_int, lenS_mk, lenT_mk, ext0, ext1, ext2, nilP_mk, nilS_mk, fldv_agg, jn0_k, jn1_k, jn2_k, jn1_and, jn1_or, ex_some, Option.isNone_some, Option.isNone_none, Bool.false_bne, Bool.bne_true, Bool.bne_false, Bool.true_bne, Bool.not_true, Bool.not_false, Bool.and_true, Bool.true_and, Bool.and_false, Bool.false_and, Bool.or_true, Bool.true_or, Bool.or_false, Bool.false_or, cond_true, cond_false, List.getElem?_toArray, List.getElem?_cons_zero, List.getElem?_cons_succ, Nat.zero_add, Nat.add_zero, Nat.reduceAdd, forall_const, show ((2 : Int) != 0) = true from rfl]
  exact hR _ _ ⟨rfl, rfl⟩
theorem Arm_none (v : Value) : cal P f_tape_Tape_Arm [p, v] w fun v w' => v = .int .i64 2 ∧ w = w' := by
  refine s_tape_Tape_Arm fun R hR => ?_
  unfold c_tape_Tape_Arm
  refine cal_i (hm w rfl) ?_
  rintro _ _ ⟨rfl, rfl⟩
  simp only [nilc_some, fad_mk, pik_true, pik_false, cnd_true, cnd_false, gif_same, gif_tf, gif_ft, gif_undef, bi_add, bi_sub, bi_mul, bi_eql, bi_neq, bi_lss, bi_leq, bi_gtr, bi_geq, notB_bool, cvi_int, lenS_mk, lenT_mk, ext0, ext1, ext2, nilP_mk, nilS_mk, fldv_agg, jn0_k, jn1_k, jn2_k, jn1_and, jn1_or, ex_some, Option.isNone_some, Option.isNone_none, Bool.false_bne, Bool.bne_true, Bool.bne_false, Bool.true_bne, Bool.not_true, Bool.not_false, Bool.and_true, Bool.true_and, Bool.and_false, Bool.false_and, Bool.or_true, Bool.true_or, Bool.or_false, Bool.false_or, cond_true, cond_false, List.getElem?_toArray, List.getElem?_cons_zero, List.getElem?_cons_succ, Nat.zero_add, Nat.add_zero, Nat.reduceAdd, forall_const, show ((2 : Int) != 0) = true from rfl]
  exact hR _ _ ⟨rfl, rfl⟩
theorem Calm_none : cal P f_tape_Tape_Calm [p] w fun v w' => v = .int .i64 2 ∧ w = w' := by
  refine s_tape_Tape_Calm fun R hR => ?_
  unfold c_tape_Tape_Calm
  refine cal_i (hm w rfl) ?_
  rintro _ _ ⟨rfl, rfl⟩
  simp only [nilc_some, fad_mk, pik_true, pik_false, cnd_true, cnd_false, gif_same, gif_tf, gif_ft, gif_undef, bi_add, bi_sub, bi_mul, bi_eql, bi_neq, bi_lss, bi_leq, bi_gtr, bi_geq, notB_bool, cvi_int, lenS_mk, lenT_mk, ext0, ext1, ext2, nilP_mk, nilS_mk, fldv_agg, jn0_k, jn1_k, jn2_k, jn1_and, jn1_or, ex_some, Option.isNone_some, Option.isNone_none, Bool.false_bne, Bool.bne_true, Bool.bne_false, Bool.true_bne, Bool.not_true, Bool.not_false, Bool.and_true, Bool.true_and, Bool.and_false, Bool.false_and, Bool.or_true, Bool.true_or, Bool.or_false, Bool.false_or, cond_true, cond_false, List.getElem?_toArray, List.getElem?_cons_zero, List.getElem?_cons_succ, Nat.zero_add, Nat.add_zero, Nat.reduceAdd, forall_const, show ((2 : Int) == 0) = false from rfl]
  exact hR _ _ ⟨rfl, rfl⟩
theorem Crash_none : cal P f_tape_Tape_Crash [p] w fun v w' => v = .int .i64 2 ∧ w = w' := by
  refine s_tape_Tape_Crash fun R hR => ?_
  unfold c_tape_Tape_Crash
  refine cal_i (hm w rfl) ?_
  rintro _ _ ⟨rfl, rfl⟩
  simp only [nilc_some, fad_mk, pik_true, pik_false, cnd_true, cnd_false, gif_same, gif_tf, gif_ft, gif_undef, bi_add, bi_sub, bi_mul, bi_eql, bi_neq, bi_lss, bi_leq, bi_gtr, bi_geq, notB_bool, cvi_int, lenS_mk, lenT_mk, ext0, ext1, ext2, nilP_mk, nilS_mk, fldv_agg, jn0_k, jn1_k, jn2_k, jn1_and, jn1_or, ex_some, Option.isNone_some, Option.isNone_none, Bool.false_bne, Bool.bne_true, Bool.bne_false, Bool.true_bne, Bool.not_true, Bool.not_false, Bool.and_true, Bool.true_and, Bool.and_false, Bool.false_and, Bool.or_true, Bool.true_or, Bool.or_false, Bool.false_or, cond_true, cond_false, List.getElem?_toArray, List.getElem?_cons_zero, List.getElem?_cons_succ, Nat.zero_add, Nat.add_zero, Nat.reduceAdd, forall_const, show ((2 : Int) == 0) = false from rfl]
  exact hR _ _ ⟨rfl, rfl⟩
theorem Restart_none : cal P f_tape_Tape_Restart [p] w fun v w' => v = .int .i64 2 ∧ w = w' := by
  refine s_tape_Tape_Restart fun R hR => ?_
  unfold c_tape_Tape_Restart
  refine cal_i (hm w rfl) ?_
  rintro _ _ ⟨rfl, rfl⟩
  simp only [nilc_some, fad_mk, pik_true, pik_false, cnd_true, cnd_false, gif_same, gif_tf, gif_ft, gif_undef, bi_add, bi_sub, bi_mul, bi_eql, bi_neq, bi_lss, bi_leq, bi_gtr, bi_geq, notB_bool, cvi_int, lenS_mk, lenT_mk, ext0, ext1, ext2, nilP_mk, nilS_mk, fldv_agg, jn0_k, jn1_k, jn2_k, jn1_and, jn1_or, ex_some, Option.isNone_some, Option.isNone_none, Bool.false_bne, Bool.bne_true, Bool.bne_false, Bool.true_bne, Bool.not_true, Bool.not_false, Bool.and_true, Bool.true_and, Bool.and_false, Bool.false_and, Bool.or_true, Bool.true_or, Bool.or_false, Bool.false_or, cond_true, cond_false, List.getElem?_toArray, List.getElem?_cons_zero, List.getElem?_cons_succ, Nat.zero_add, Nat.add_zero, Nat.reduceAdd, forall_const, show ((2 : Int) == 0) = false from rfl, show ((2 : Int) == 5) = false from rfl]
  exact hR _ _ ⟨rfl, rfl⟩
theorem On_none : cal P f_tape_Tape_On [p] w fun v w' => v = .bool false ∧ w = w' := by
  refine s_tape_Tape_On fun R hR => ?_
  unfold c_tape_Tape_On
  refine cal_i (hm w rfl) ?_
  rintro _ _ ⟨rfl, rfl⟩
  simp only [nilc_some, fad_mk, pik_true, pik_false, cnd_true, cnd_false, gif_same, gif_tf, gif_ft, gif_undef, bi_add, bi_sub, bi_mul, bi_eql, bi_neq, bi_lss, bi_leq, bi_gtr, bi_geq, notB_bool, cvi_int, lenS_mk, lenT_mk, ext0, ext1, ext2, nilP_mk, nilS_mk, fldv_agg, jn0_k, jn1_k, jn2_k, jn1_and, jn1_or, ex_some, Option.isNone_some, Option.isNone_none, Bool.false_bne, Bool.bne_true, Bool.bne_false, Bool.true_bne, Bool.not_true, Bool.not_false, Bool.and_true, Bool.true_and, Bool.and_false, Bool.false_and, Bool.or_true, Bool.true_or, Bool.or_false, Bool.false_or, cond_true, cond_false, List.getElem?_toArray, List.getElem?_cons_zero, List.getElem?_cons_succ, Nat.zero_add, Nat.add_zero, Nat.reduceAdd, forall_const, show ((2 : Int) == 0) = false from rfl]
  exact hR _ _ ⟨rfl, rfl⟩
theorem Bytes_none : cal P f_tape_Tape_Bytes [p] w fun v w' => v = .slice none 0 0 ∧ w = w' := by
  refine s_tape_Tape_Bytes fun R hR => ?_
  unfold c_tape_Tape_Bytes
  refine cal_i (hm w rfl) ?_
  rintro _ _ ⟨rfl, rfl⟩
  simp only [nilc_some, fad_mk, pik_true, pik_false, cnd_true, cnd_false, gif_same, gif_tf, gif_ft, gif_undef, bi_add, bi_sub, bi_mul, bi_eql, bi_neq, bi_lss, bi_leq, bi_gtr, bi_geq, notB_bool, cvi_int, lenS_mk, lenT_mk, ext0, ext1, ext2, nilP_mk, nilS_mk, fldv_agg, jn0_k, jn1_k, jn2_k, jn1_and, jn1_or, ex_some, Option.isNone_some, Option.isNone_none, Bool.false_bne, Bool.bne_true, Bool.bne_false, Bool.true_bne, Bool.not_true, Bool.not_false, Bool.and_true, Bool.true_and, Bool.and_false, Bool.false_and, Bool.or_true, Bool.true_or, Bool.or_false, Bool.false_or, cond_true, cond_false, List.getElem?_toArray, List.getElem?_cons_zero, List.getElem?_cons_succ, Nat.zero_add, Nat.add_zero, Nat.reduceAdd, forall_const, show ((2 : Int) == 2) = true from rfl]
  exact hR _ _ ⟨rfl, rfl⟩
theorem Len_none : cal P f_tape_Tape_Len [p] w fun v w' => v = .int .i64 0 ∧ w = w' := by
  refine s_tape_Tape_Len fun R hR => ?_
  unfold c_tape_Tape_Len
  refine cal_i (hm w rfl) ?_
  rintro _ _ ⟨rfl, rfl⟩
  simp only [nilc_some, fad_mk, pik_true, pik_false, cnd_true, cnd_false, gif_same, gif_tf, gif_ft, gif_undef, bi_add, bi_sub, bi_mul, bi_eql, bi_neq, bi_lss, bi_leq, bi_gtr, bi_geq, notB_bool, cvi_int, lenS_mk, lenT_mk, ext0, ext1, ext2, nilP_mk, nilS_mk, fldv_agg, jn0_k, jn1_k, jn2_k, jn1_and, jn1_or, ex_some, Option.isNone_some, Option.isNone_none, Bool.false_bne, Bool.bne_true, Bool.bne_false, Bool.true_bne, Bool.not_true, Bool.not_false, Bool.and_true, Bool.true_and, Bool.and_false, Bool.false_and, Bool.or_true, Bool.true_or, Bool.or_false, Bool.false_or, cond_true, cond_false, List.getElem?_toArray, List.getElem?_cons_zero, List.getElem?_cons_succ, Nat.zero_add, Nat.add_zero, Nat.reduceAdd, forall_const, show ((2 : Int) == 2) = true from rfl]
  exact hR _ _ ⟨rfl, rfl⟩
theorem Clone_none : cal P f_tape_Tape_Clone [p] w fun v w' => v = .pointer none ∧ w = w' := by
  refine s_tape_Tape_Clone fun R hR => ?_
  unfold c_tape_Tape_Clone
  refine cal_i (hm w rfl) ?_
  rintro _ _ ⟨rfl, rfl⟩
  simp only [nilc_some, fad_mk, pik_true, pik_false, cnd_true, cnd_false, gif_same, gif_tf, gif_ft, gif_undef, bi_add, bi_sub, bi_mul, bi_eql, bi_neq, bi_lss, bi_leq, bi_gtr, bi_geq, notB_bool, cvi_int, lenS_mk, lenT_mk, ext0, ext1, ext2, nilP_mk, nilS_mk, fldv_agg, jn0_k, jn1_k, jn2_k, jn1_and, jn1_or, ex_some, Option.isNone_some, Option.isNone_none, Bool.false_bne, Bool.bne_true, Bool.bne_false, Bool.true_bne, Bool.not_true, Bool.not_false, Bool.and_true, Bool.true_and, Bool.and_false, Bool.false_and, Bool.or_true, Bool.true_or, Bool.or_false, Bool.false_or, cond_true, cond_false, List.getElem?_toArray, List.getElem?_cons_zero, List.getElem?_cons_succ, Nat.zero_add, Nat.add_zero, Nat.reduceAdd, forall_const, show ((2 : Int) == 2) = true from rfl]
  exact hR _ _ ⟨rfl, rfl⟩
end
end Go.Fx
