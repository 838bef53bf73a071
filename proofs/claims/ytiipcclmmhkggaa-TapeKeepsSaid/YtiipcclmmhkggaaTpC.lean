/-
  The reference's tape (flurryref08).
-/
import Derived.Test.YtiipcclmmhkggaaTpB
set_option linter.unusedVariables false
set_option linter.unusedSimpArgs false
namespace Go.Fx
def rt (p : Value) (x : Tp) : Asn :=
  .ex fun g => .ex fun s => .star (.pr (p = .pointer (some ⟨g, 0, none⟩) ∧ x.made = true)) (.star (blk g #[s, .bool x.off, .int .i64 x.armed] T_flurryref08_Tape) (ownB s x.b))
section
variable {w0 w : World} {As : List Asn} {p : Value} {x : Tp}
theorem rt_open : Sep w0 w (rt p x :: As) = ∃ g s, (p = .pointer (some ⟨g, 0, none⟩) ∧ x.made = true) ∧ Sep w0 w (blk g #[s, .bool x.off, .int .i64 x.armed] T_flurryref08_Tape :: ownB s x.b :: As) := by
  simp only [rt, Sep_ex, Sep_star, Sep_pr]
theorem rt_i {g : Nat} {s : Value} (hm : x.made = true) (hs : Sep w0 w (blk g #[s, .bool x.off, .int .i64 x.armed] T_flurryref08_Tape :: ownB s x.b :: As)) : Sep w0 w (rt (.pointer (some ⟨g, 0, none⟩)) x :: As) := by
  rw [rt_open]; exact ⟨g, s, ⟨rfl, hm⟩, hs⟩
theorem rt_nilP (hs : Sep w0 w (rt p x :: As)) (b : Bool) (K : Value → Prop) : nilP b p K = K (.bool b) := by
  rw [rt_open] at hs
  obtain ⟨g, s, ⟨rfl, hm⟩, hs⟩ := hs
  rw [nilP_mk]
  cases b <;> rfl
theorem rOf_spec {v : Value} {l : List UInt8} (hb : RdB w.heap v l) : cal P f_ref08_Of [v] w fun r w' =>
    (262144 < l.length ∧ r = .tuple #[.pointer none, .int .i64 3] ∧ w = w') ∨ (l.length ≤ 262144 ∧ ∃ p, r = .tuple #[p, .int .i64 0] ∧ Sep w w' [rt p ⟨l, -1, false, true⟩]) := by
  refine s_ref08_Of fun R hR => ?_
  unfold c_ref08_Of
  simp only [nilc_some, fad_mk, pik_true, pik_false, cnd_true, cnd_false, gif_same, gif_tf, gif_ft, gif_undef, bi_add, bi_sub, bi_mul, bi_eql, bi_neq, bi_lss, bi_leq, bi_gtr, bi_geq, notB_bool, cvi_int, lenS_mk, lenT_mk, ext0, ext1, ext2, nilP_mk, nilS_mk, fldv_agg, jn0_k, jn1_k, jn2_k, jn1_and, jn1_or, ex_some, Option.isNone_some, Option.isNone_none, Bool.false_bne, Bool.bne_true, Bool.bne_false, Bool.true_bne, Bool.not_true, Bool.not_false, Bool.and_true, Bool.true_and, Bool.and_false, Bool.false_and, Bool.or_true, Bool.true_or, Bool.or_false, Bool.false_or, cond_true, cond_false, List.getElem?_toArray, List.getElem?_cons_zero, List.getElem?_cons_succ, Nat.zero_add, Nat.add_zero, Nat.reduceAdd, forall_const, hb.len]
  rw [cnd_bool]
  refine ⟨fun h => ?_, fun h => ?_⟩
  · exact hR _ _ (.inl ⟨by simp at h; omega, rfl, rfl⟩)
  · have h : l.length ≤ 262144 := by simp at h; omega
    refine appB_s ST_bytes UT_bytes (by simp) (Sep.start w).nil hb (by simp; omega) fun v' w1 hs => ?_
    have hb2 : (Instr.build T_flurryref08_Tape #[(0, v'), (2, .int .i64 (-1))]).run P w1 = .ok (.agg #[v', .bool false, .int .i64 (-1)]) w1 := by
      obtain ⟨a, c, rfl⟩ := hs.sl
      kernel_rfl
    rw [rdP_eq hb2]
    refine bx_s hs fun g w2 hs => ?_
    exact hR _ _ (.inr ⟨h, _, rfl, rt_i (x := ⟨l, -1, false, true⟩) rfl hs⟩)
theorem rTruncate_spec {n : Int} (hs : Sep w0 w (rt p x :: As)) (hx : x.Ok) : cal P f_ref08_Tape_Truncate [p, .int .i64 n] w fun v w' => v = .int .i64 (x.truncate n).2 ∧ Sep w0 w' (rt p (x.truncate n).1 :: As) := by
  refine s_ref08_Tape_Truncate fun R hR => ?_
  unfold c_ref08_Tape_Truncate
  have hs' := hs
  rw [rt_open] at hs
  obtain ⟨g, sv, ⟨rfl, hm⟩, hs⟩ := hs
  simp only [nilc_some, fad_mk, pik_true, pik_false, cnd_true, cnd_false, gif_same, gif_tf, gif_ft, gif_undef, bi_add, bi_sub, bi_mul, bi_eql, bi_neq, bi_lss, bi_leq, bi_gtr, bi_geq, notB_bool, cvi_int, lenS_mk, lenT_mk, ext0, ext1, ext2, nilP_mk, nilS_mk, fldv_agg, jn0_k, jn1_k, jn2_k, jn1_and, jn1_or, ex_some, Option.isNone_some, Option.isNone_none, Bool.false_bne, Bool.bne_true, Bool.bne_false, Bool.true_bne, Bool.not_true, Bool.not_false, Bool.and_true, Bool.true_and, Bool.and_false, Bool.false_and, Bool.or_true, Bool.true_or, Bool.or_false, Bool.false_or, cond_true, cond_false, List.getElem?_toArray, List.getElem?_cons_zero, List.getElem?_cons_succ, Nat.zero_add, Nat.add_zero, Nat.reduceAdd, forall_const, ld1_eq hs.blk, hs.p1.rd.len]
  rw [cnd_bool]
  refine ⟨fun h => ?_, fun h => ?_⟩
  · have h5 : x.may = 5 := Tp.may_five.2 ⟨hm, h⟩
    exact hR _ _ ⟨by simp [Tp.truncate, h5], by simpa [Tp.truncate, h5] using hs'⟩
  have hmay : x.may = 0 := Tp.may_zero.2 ⟨hm, h⟩
  obtain ⟨hx1, hx2, hx3⟩ := hx
  rw [cnd_bool]
  refine ⟨fun h => ?_, fun h => ?_⟩
  · have h : n < 0 ∨ (x.b.length : Int) < n := by simpa using h
    exact hR _ _ ⟨by simp [Tp.truncate, hmay, h], by simpa [Tp.truncate, hmay, h] using hs'⟩
  · have h : ¬ (n < 0 ∨ (x.b.length : Int) < n) := by simpa using h
    obtain ⟨m, rfl⟩ := Int.eq_ofNat_of_zero_le (show 0 ≤ n by omega)
    obtain ⟨a, c, rfl, hc⟩ := hs.p1.form
    have hm' : m ≤ x.b.length := by omega
    rw [slc_to (by omega)]
    refine appB_s ST_bytes UT_bytes (by simp) hs.nil (hs.p1.rd.take hm' c) (by simp; omega) fun v' w1 hs1 => ?_
    have ht : x.truncate m = ({ x with b := x.b.take m }, 0) := by rw [Tp.truncate, if_neg (by simp [hmay]), if_neg (by omega)]; simp
    refine st1_s hs1.p1 (by simp) hs1.one fun w2 hs2 => ?_
    exact hR _ _ ⟨by rw [ht], by rw [ht]; exact rt_i (x := { x with b := x.b.take m }) hm hs2.d2⟩
theorem rArm_spec {n : Int} (hs : Sep w0 w (rt p x :: As)) : cal P f_ref08_Tape_Arm [p, .int .i64 n] w fun v w' => v = .int .i64 (x.arm n).2 ∧ Sep w0 w' (rt p (x.arm n).1 :: As) := by
  refine s_ref08_Tape_Arm fun R hR => ?_
  unfold c_ref08_Tape_Arm
  have hs' := hs
  rw [rt_open] at hs
  obtain ⟨g, sv, ⟨rfl, hm⟩, hs⟩ := hs
  simp only [nilc_some, fad_mk, pik_true, pik_false, cnd_true, cnd_false, gif_same, gif_tf, gif_ft, gif_undef, bi_add, bi_sub, bi_mul, bi_eql, bi_neq, bi_lss, bi_leq, bi_gtr, bi_geq, notB_bool, cvi_int, lenS_mk, lenT_mk, ext0, ext1, ext2, nilP_mk, nilS_mk, fldv_agg, jn0_k, jn1_k, jn2_k, jn1_and, jn1_or, ex_some, Option.isNone_some, Option.isNone_none, Bool.false_bne, Bool.bne_true, Bool.bne_false, Bool.true_bne, Bool.not_true, Bool.not_false, Bool.and_true, Bool.true_and, Bool.and_false, Bool.false_and, Bool.or_true, Bool.true_or, Bool.or_false, Bool.false_or, cond_true, cond_false, List.getElem?_toArray, List.getElem?_cons_zero, List.getElem?_cons_succ, Nat.zero_add, Nat.add_zero, Nat.reduceAdd, forall_const, ld1_eq hs.blk]
  rw [cnd_bool]
  refine ⟨fun h => ?_, fun h => ?_⟩
  · have h5 : x.may = 5 := Tp.may_five.2 ⟨hm, h⟩
    exact hR _ _ ⟨by simp [Tp.arm, h5], by simpa [Tp.arm, h5] using hs'⟩
  have hmay : x.may = 0 := Tp.may_zero.2 ⟨hm, h⟩
  rw [cnd_bool]
  refine ⟨fun h => ?_, fun h => ?_⟩
  · have h : n < 0 := by simpa using h
    exact hR _ _ ⟨by simp [Tp.arm, hmay, h], by simpa [Tp.arm, hmay, h] using hs'⟩
  · have h : ¬ n < 0 := by simpa using h
    refine st1_s hs (by simp) rfl fun w2 hs2 => ?_
    exact hR _ _ ⟨by simp [Tp.arm, hmay, h], by simpa [Tp.arm, hmay, h] using rt_i (x := { x with armed := n }) hm hs2⟩
theorem rCalm_spec (hs : Sep w0 w (rt p x :: As)) : cal P f_ref08_Tape_Calm [p] w fun v w' => v = .int .i64 x.calm.2 ∧ Sep w0 w' (rt p x.calm.1 :: As) := by
  refine s_ref08_Tape_Calm fun R hR => ?_
  unfold c_ref08_Tape_Calm
  have hs' := hs
  rw [rt_open] at hs
  obtain ⟨g, sv, ⟨rfl, hm⟩, hs⟩ := hs
  simp only [nilc_some, fad_mk, pik_true, pik_false, cnd_true, cnd_false, gif_same, gif_tf, gif_ft, gif_undef, bi_add, bi_sub, bi_mul, bi_eql, bi_neq, bi_lss, bi_leq, bi_gtr, bi_geq, notB_bool, cvi_int, lenS_mk, lenT_mk, ext0, ext1, ext2, nilP_mk, nilS_mk, fldv_agg, jn0_k, jn1_k, jn2_k, jn1_and, jn1_or, ex_some, Option.isNone_some, Option.isNone_none, Bool.false_bne, Bool.bne_true, Bool.bne_false, Bool.true_bne, Bool.not_true, Bool.not_false, Bool.and_true, Bool.true_and, Bool.and_false, Bool.false_and, Bool.or_true, Bool.true_or, Bool.or_false, Bool.false_or, cond_true, cond_false, List.getElem?_toArray, List.getElem?_cons_zero, List.getElem?_cons_succ, Nat.zero_add, Nat.add_zero, Nat.reduceAdd, forall_const, ld1_eq hs.blk]
  rw [cnd_bool]
  refine ⟨fun h => ?_, fun h => ?_⟩
  · have h5 : x.may = 5 := Tp.may_five.2 ⟨hm, h⟩
    exact hR _ _ ⟨by simp [Tp.calm, h5], by simpa [Tp.calm, h5] using hs'⟩
  have hmay : x.may = 0 := Tp.may_zero.2 ⟨hm, h⟩
  refine st1_s hs (by simp) rfl fun w2 hs2 => ?_
  exact hR _ _ ⟨by simp [Tp.calm, hmay], by simpa [Tp.calm, hmay] using rt_i (x := { x with armed := -1 }) hm hs2⟩
theorem rCrash_spec (hs : Sep w0 w (rt p x :: As)) : cal P f_ref08_Tape_Crash [p] w fun v w' => v = .int .i64 x.crash.2 ∧ Sep w0 w' (rt p x.crash.1 :: As) := by
  refine s_ref08_Tape_Crash fun R hR => ?_
  unfold c_ref08_Tape_Crash
  have hs' := hs
  rw [rt_open] at hs
  obtain ⟨g, sv, ⟨rfl, hm⟩, hs⟩ := hs
  simp only [nilc_some, fad_mk, pik_true, pik_false, cnd_true, cnd_false, gif_same, gif_tf, gif_ft, gif_undef, bi_add, bi_sub, bi_mul, bi_eql, bi_neq, bi_lss, bi_leq, bi_gtr, bi_geq, notB_bool, cvi_int, lenS_mk, lenT_mk, ext0, ext1, ext2, nilP_mk, nilS_mk, fldv_agg, jn0_k, jn1_k, jn2_k, jn1_and, jn1_or, ex_some, Option.isNone_some, Option.isNone_none, Bool.false_bne, Bool.bne_true, Bool.bne_false, Bool.true_bne, Bool.not_true, Bool.not_false, Bool.and_true, Bool.true_and, Bool.and_false, Bool.false_and, Bool.or_true, Bool.true_or, Bool.or_false, Bool.false_or, cond_true, cond_false, List.getElem?_toArray, List.getElem?_cons_zero, List.getElem?_cons_succ, Nat.zero_add, Nat.add_zero, Nat.reduceAdd, forall_const, ld1_eq hs.blk]
  rw [cnd_bool]
  refine ⟨fun h => ?_, fun h => ?_⟩
  · have h5 : x.may = 5 := Tp.may_five.2 ⟨hm, h⟩
    exact hR _ _ ⟨by simp [Tp.crash, h5], by simpa [Tp.crash, h5] using hs'⟩
  have hmay : x.may = 0 := Tp.may_zero.2 ⟨hm, h⟩
  refine st1_s hs (by simp) rfl fun w2 hs2 => ?_
  refine st1_s hs2 (by simp) rfl fun w3 hs3 => ?_
  exact hR _ _ ⟨by simp [Tp.crash, hmay], by simpa [Tp.crash, hmay] using rt_i (x := x.goes) hm hs3⟩
theorem rRestart_spec (hs : Sep w0 w (rt p x :: As)) : cal P f_ref08_Tape_Restart [p] w fun v w' => v = .int .i64 x.restart.2 ∧ Sep w0 w' (rt p x.restart.1 :: As) := by
  refine s_ref08_Tape_Restart fun R hR => ?_
  unfold c_ref08_Tape_Restart
  have hs' := hs
  rw [rt_open] at hs
  obtain ⟨g, sv, ⟨rfl, hm⟩, hs⟩ := hs
  simp only [nilc_some, fad_mk, pik_true, pik_false, cnd_true, cnd_false, gif_same, gif_tf, gif_ft, gif_undef, bi_add, bi_sub, bi_mul, bi_eql, bi_neq, bi_lss, bi_leq, bi_gtr, bi_geq, notB_bool, cvi_int, lenS_mk, lenT_mk, ext0, ext1, ext2, nilP_mk, nilS_mk, fldv_agg, jn0_k, jn1_k, jn2_k, jn1_and, jn1_or, ex_some, Option.isNone_some, Option.isNone_none, Bool.false_bne, Bool.bne_true, Bool.bne_false, Bool.true_bne, Bool.not_true, Bool.not_false, Bool.and_true, Bool.true_and, Bool.and_false, Bool.false_and, Bool.or_true, Bool.true_or, Bool.or_false, Bool.false_or, cond_true, cond_false, List.getElem?_toArray, List.getElem?_cons_zero, List.getElem?_cons_succ, Nat.zero_add, Nat.add_zero, Nat.reduceAdd, forall_const, ld1_eq hs.blk]
  rw [cnd_bool]
  refine ⟨fun h => ?_, fun h => ?_⟩
  · have h0 : x.may = 0 := Tp.may_zero.2 ⟨hm, by simpa using h⟩
    exact hR _ _ ⟨by simp [Tp.restart, h0], by simpa [Tp.restart, h0] using hs'⟩
  have hmay : x.may = 5 := Tp.may_five.2 ⟨hm, by simpa using h⟩
  refine st1_s hs (by simp) rfl fun w2 hs2 => ?_
  exact hR _ _ ⟨by simp [Tp.restart, hmay], by simpa [Tp.restart, hmay] using rt_i (x := { x with off := false }) hm hs2⟩
theorem rAppend_spec {s : Sl (Sl UInt8)} (hs : Sep w0 w (rt p x :: As)) (hx : x.Ok) (hv : ∀ w', Sep w0 w' As → R_sl_sl_uint8.ok w'.heap s) :
    cal P f_ref08_Tape_Append [p, s.v] w fun v w' => v = .int .i64 (x.append (joined s.l)).2 ∧ Sep w0 w' (rt p (x.append (joined s.l)).1 :: As) := by
  refine s_ref08_Tape_Append fun R hR => ?_
  unfold c_ref08_Tape_Append
  have hs' := hs
  rw [rt_open] at hs
  obtain ⟨g, sv, ⟨rfl, hm⟩, hs⟩ := hs
  simp only [nilc_some, fad_mk, pik_true, pik_false, cnd_true, cnd_false, gif_same, gif_tf, gif_ft, gif_undef, bi_add, bi_sub, bi_mul, bi_eql, bi_neq, bi_lss, bi_leq, bi_gtr, bi_geq, notB_bool, cvi_int, lenS_mk, lenT_mk, ext0, ext1, ext2, nilP_mk, nilS_mk, fldv_agg, jn0_k, jn1_k, jn2_k, jn1_and, jn1_or, ex_some, Option.isNone_some, Option.isNone_none, Bool.false_bne, Bool.bne_true, Bool.bne_false, Bool.true_bne, Bool.not_true, Bool.not_false, Bool.and_true, Bool.true_and, Bool.and_false, Bool.false_and, Bool.or_true, Bool.true_or, Bool.or_false, Bool.false_or, cond_true, cond_false, List.getElem?_toArray, List.getElem?_cons_zero, List.getElem?_cons_succ, Nat.zero_add, Nat.add_zero, Nat.reduceAdd, forall_const, ld1_eq hs.blk]
  rw [cnd_bool]
  refine ⟨fun h => ?_, fun hoff => ?_⟩
  · have h5 : x.may = 5 := Tp.may_five.2 ⟨hm, h⟩
    exact hR _ _ ⟨by simp [Tp.append, h5], by simpa [Tp.append, h5] using hs'⟩
  have hmay : x.may = 0 := Tp.may_zero.2 ⟨hm, hoff⟩
  obtain ⟨hx1, hx2, hx3⟩ := hx
  clear hs'
  have hlen := (hv w hs.tail.tail).2.1
  refine ⟨fun y i w' => ∃ k : Nat, k ≤ s.l.length ∧ i = .int .i64 k ∧ x.b.length + (joined (s.l.take k)).length ≤ 262144 ∧ Sep w0 w' (ownB y (joined (s.l.take k)) :: blk g #[sv, .bool x.off, .int .i64 x.armed] T_flurryref08_Tape :: ownB sv x.b :: As),
    fun _ i _ => (s.l.length - RowKit.intOf i).toNat, ⟨0, by omega, rfl, by simp [joined]; omega, by simpa [joined] using hs.nil⟩, ?_⟩
  rintro y _ w1 ⟨k, hk, rfl, hsum, hs1⟩ -
  have hok1 := hv w1 hs1.tail.tail.tail
  simp only [nilc_some, fad_mk, pik_true, pik_false, cnd_true, cnd_false, gif_same, gif_tf, gif_ft, gif_undef, bi_add, bi_sub, bi_mul, bi_eql, bi_neq, bi_lss, bi_leq, bi_gtr, bi_geq, notB_bool, cvi_int, lenS_mk, lenT_mk, ext0, ext1, ext2, nilP_mk, nilS_mk, fldv_agg, jn0_k, jn1_k, jn2_k, jn1_and, jn1_or, ex_some, Option.isNone_some, Option.isNone_none, Bool.false_bne, Bool.bne_true, Bool.bne_false, Bool.true_bne, Bool.not_true, Bool.not_false, Bool.and_true, Bool.true_and, Bool.and_false, Bool.false_and, Bool.or_true, Bool.true_or, Bool.or_false, Bool.false_or, cond_true, cond_false, List.getElem?_toArray, List.getElem?_cons_zero, List.getElem?_cons_succ, Nat.zero_add, Nat.add_zero, Nat.reduceAdd, forall_const, rSl_len hok1]
  rw [cnd_bool]
  refine ⟨fun h => ?_, fun h => ?_⟩
  · have hlt : k < s.l.length := by simpa using h
    obtain ⟨a, ha⟩ : ∃ a, s.l[k]? = some a := ⟨_, List.getElem?_eq_getElem hlt⟩
    refine drw_s hs1 fun w1 hs1 _ => ?_
    replace hok1 := hv _ hs1.tail.tail.tail
    have hak := rSl_ok hok1 ha
    have hj := joined_take_succ ha
    have hjl := congrArg List.length hj
    rw [List.length_append] at hjl
    have hal := hak.2.1
    refine rSl_ld1 hok1 ha rfl ?_
    simp only [nilc_some, fad_mk, pik_true, pik_false, cnd_true, cnd_false, gif_same, gif_tf, gif_ft, gif_undef, bi_add, bi_sub, bi_mul, bi_eql, bi_neq, bi_lss, bi_leq, bi_gtr, bi_geq, notB_bool, cvi_int, lenS_mk, lenT_mk, ext0, ext1, ext2, nilP_mk, nilS_mk, fldv_agg, jn0_k, jn1_k, jn2_k, jn1_and, jn1_or, ex_some, Option.isNone_some, Option.isNone_none, Bool.false_bne, Bool.bne_true, Bool.bne_false, Bool.true_bne, Bool.not_true, Bool.not_false, Bool.and_true, Bool.true_and, Bool.and_false, Bool.false_and, Bool.or_true, Bool.true_or, Bool.or_false, Bool.false_or, cond_true, cond_false, List.getElem?_toArray, List.getElem?_cons_zero, List.getElem?_cons_succ, Nat.zero_add, Nat.add_zero, Nat.reduceAdd, forall_const, rBytes_len hak, ld1_eq hs1.p1.blk, hs1.p2.rd.len, hs1.rd.len]
    simp (disch := omega) only [wi64]
    rw [cnd_bool]
    refine ⟨fun h => ?_, fun h => ?_⟩
    · have hle := joined_take_le s.l (k + 1)
      have h6 : 262144 < x.b.length + (joined s.l).length := by simp at h; omega
      exact hR _ _ ⟨by simp [Tp.append, hmay, h6], by simpa [Tp.append, hmay, h6] using rt_i hm hs1.tail⟩
    · have h : a.l.length ≤ 262144 - x.b.length - (joined (s.l.take k)).length := by simp at h; omega
      refine rSl_ld1 hok1 ha rfl ?_
      refine appB_s ST_bytes UT_bytes (by simp) hs1 hak.1 (by omega) fun v' w2 hs2 => ?_
      exact ⟨⟨k + 1, by omega, by simp, by omega, by rw [hj]; exact hs2⟩, by simp [RowKit.intOf]; omega⟩
  have hkl : k = s.l.length := by simp at h; omega
  subst hkl
  rw [List.take_length] at hsum hs1
  have h6 : ¬ 262144 < x.b.length + (joined s.l).length := by omega
  generalize hall : joined s.l = all at *
  refine ⟨fun i w' => ∃ (k : Nat) (sv : Value) (arm : Int), k ≤ all.length ∧ i = .int .i64 k ∧ (x.armed = -1 → arm = -1) ∧ (x.armed ≠ -1 → arm = x.armed - k ∧ 0 ≤ arm) ∧
      Sep w0 w' (blk g #[sv, .bool x.off, .int .i64 arm] T_flurryref08_Tape :: ownB sv (x.b ++ all.take k) :: ownB y all :: As),
    fun i _ => (all.length - RowKit.intOf i).toNat, ⟨0, sv, x.armed, by omega, rfl, id, fun h => ⟨by simp, by omega⟩, by simpa using hs1.q2⟩, ?_⟩
  rintro _ w2 ⟨k, sv2, arm, hk, rfl, hm1, hm2, hs2⟩ -
  simp only [nilc_some, fad_mk, pik_true, pik_false, cnd_true, cnd_false, gif_same, gif_tf, gif_ft, gif_undef, bi_add, bi_sub, bi_mul, bi_eql, bi_neq, bi_lss, bi_leq, bi_gtr, bi_geq, notB_bool, cvi_int, lenS_mk, lenT_mk, ext0, ext1, ext2, nilP_mk, nilS_mk, fldv_agg, jn0_k, jn1_k, jn2_k, jn1_and, jn1_or, ex_some, Option.isNone_some, Option.isNone_none, Bool.false_bne, Bool.bne_true, Bool.bne_false, Bool.true_bne, Bool.not_true, Bool.not_false, Bool.and_true, Bool.true_and, Bool.and_false, Bool.false_and, Bool.or_true, Bool.true_or, Bool.or_false, Bool.false_or, cond_true, cond_false, List.getElem?_toArray, List.getElem?_cons_zero, List.getElem?_cons_succ, Nat.zero_add, Nat.add_zero, Nat.reduceAdd, forall_const, hs2.p2.rd.len, ld1_eq hs2.blk]
  rw [cnd_bool]
  refine ⟨fun h => ?_, fun h => ?_⟩
  · have hlt : k < all.length := by simpa using h
    rw [cnd_bool]
    refine ⟨fun h => ?_, fun h => ?_⟩
    · have h0 : arm = 0 := by simpa using h
      have hne : x.armed ≠ -1 := fun h => by have := hm1 h; omega
      obtain ⟨e1, e2⟩ := hm2 hne
      refine cal_i (rCrash_spec (rt_i (x := ⟨x.b ++ all.take k, arm, x.off, x.made⟩) hm hs2)) ?_
      rintro _ w3 ⟨rfl, hs3⟩
      have h7 : ¬ (all.length : Int) ≤ x.armed := by omega
      have e3 : x.armed.toNat = k := by omega
      refine hR _ _ ⟨by simp [Tp.append, hmay, h6, hne, h7], ?_⟩
      have hc : (⟨x.b ++ all.take k, arm, x.off, x.made⟩ : Tp).crash = ({ x with b := x.b ++ all.take k, off := true, armed := -1 }, 0) := by
        simp [Tp.crash, Tp.may, hm, hoff, Tp.goes]
      rw [hc] at hs3
      simpa [Tp.append, hmay, h6, hne, h7, e3] using hs3.d1
    · have h0 : arm ≠ 0 := by simpa using h
      refine ⟨fun w' => Sep w0 w' (blk g #[sv2, .bool x.off, .int .i64 (if x.armed = -1 then -1 else x.armed - (k + 1 : Nat))] T_flurryref08_Tape :: ownB sv2 (x.b ++ all.take k) :: ownB y all :: As), ?_, ?_⟩
      · change cnd _ _ _
        rw [cnd_bool]
        refine ⟨fun h => ?_, fun h => ?_⟩
        · have h1 : 0 < arm := by simpa using h
          have hne : x.armed ≠ -1 := fun h => by have := hm1 h; omega
          obtain ⟨e1, e2⟩ := hm2 hne
          rw [wi64 (by omega) (by omega)]
          refine st1_s hs2 (by simp) rfl fun w3 hs3 => ?_
          rw [if_neg hne, show x.armed - ((k + 1 : Nat) : Int) = arm - 1 by omega]
          exact hs3
        · have h1 : ¬ 0 < arm := by simpa using h
          have hne : x.armed = -1 := by
            rcases Classical.em (x.armed = -1) with h | h
            · exact h
            · have := hm2 h; omega
          rw [if_pos hne]
          have := hm1 hne
          subst this
          exact hs2
      · intro w3 hs3 _
        refine drH_S hs3 fun w3 hs3 _ => ?_
        refine rdS_i (fun u hu => Sep.blk hu) rfl ?_
        obtain ⟨u, hu⟩ : ∃ u, all[k]? = some u := ⟨_, List.getElem?_eq_getElem hlt⟩
        have hul : all[k] = u := by rw [List.getElem?_eq_getElem hlt] at hu; simpa using hu
        refine ldxB_S hs3 (fun u hu => hu.p2.rd) hlt ?_
        rw [hul]
        have hb : ∀ w : World, (Instr.buildSlice T_sl_uint8 1 #[(0, bv u)]).run P w = .ok (.slice (some ⟨w.heap.size, 0, none⟩) 1 1) (w.alloc (.cells (bvs [u]).toArray T_uint8)) := fun w => by kernel_rfl
        refine efS_i (buildB_s (l := [u]) hs3 rfl (hb _) fun g4 w4 hs4 => ⟨hs4.tail, ?_⟩)
        refine efC_efP (appB_s ST_bytes UT_bytes (by simp) hs4.p2 hs4.rd (by simp; omega) fun v' w5 hs5 => ?_)
        refine efC_st1 (st1_s hs5.p2 (by simp) hs5.one fun w6 hs6 => ?_)
        rw [wi64 (by omega) (by omega)]
        refine ⟨⟨k + 1, v', (if x.armed = -1 then -1 else x.armed - ((k + 1 : Nat) : Int)), by omega, by simp, fun h => by rw [if_pos h], fun h => by rw [if_neg h]; have := hm2 h; exact ⟨rfl, by omega⟩, ?_⟩, by simp [RowKit.intOf]; omega⟩
        have e4 : x.b ++ all.take (k + 1) = x.b ++ all.take k ++ [u] := by rw [List.take_add_one, hu]; simp
        rw [e4]
        exact hs6.d2
  · have hkl : k = all.length := by simp at h; omega
    subst hkl
    rw [List.take_length] at hs2
    by_cases hne : x.armed = -1
    · have e1 := hm1 hne
      have e : arm = x.armed := by omega
      have ha : x.append all = ({ x with b := x.b ++ all }, 0) := by simp [Tp.append, hmay, h6, hne]
      rw [e] at hs2
      exact hR _ _ ⟨by rw [ha], by rw [ha]; exact rt_i (x := { x with b := x.b ++ all }) hm hs2.d2⟩
    · obtain ⟨e1, e2⟩ := hm2 hne
      have h7 : (all.length : Int) ≤ x.armed := by omega
      exact hR _ _ ⟨by simp [Tp.append, hmay, h6, hne, h7], by simpa [Tp.append, hmay, h6, hne, h7, e1] using rt_i (x := { x with b := x.b ++ all, armed := arm }) hm hs2.d2⟩
end
end Go.Fx
