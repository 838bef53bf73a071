/-
  What is proved: for every number and every pieces the law TapeArmed returns true, and its arguments read as they did. Conditions: none.
-/
import Derived.Test.YtiipcclmmhkggaaLw8B
import Derived.Test.YtiipcclmmhkggaaBase
set_option linter.unusedVariables false
set_option linter.unusedSimpArgs false
namespace Go.Fx
/-- A tape behind so many bytes, n armed. -/
def Tp.armed_ (n : Nat) (a : List UInt8) : Tp := if a.length ≤ n then ⟨a, (n : Int) - a.length, false, true⟩ else ⟨a.take n, -1, true, true⟩
theorem Tp.armed_ok (n : Nat) (a : List UInt8) (hn : n < 65536) (ha : a.length ≤ 262144) : (Tp.armed_ n a).Ok := by
  unfold Tp.armed_
  split
  · exact ⟨ha, by show (-1 : Int) ≤ (n : Int) - a.length; omega, by show (n : Int) - a.length ≤ _; omega⟩
  · exact ⟨by simp; omega, by simp, by simp⟩
theorem Tp.armed_step (n : Nat) (a b : List UInt8) (h : a.length + b.length ≤ 262144) : ((Tp.armed_ n a).append b).1 = Tp.armed_ n (a ++ b) := by
  unfold Tp.armed_
  by_cases ha : a.length ≤ n
  · rw [if_pos ha, Tp.append, if_neg (by simp [Tp.may]), if_neg (by simp; omega), if_neg (by show ¬ (n : Int) - a.length = -1; omega)]
    by_cases hb : (a ++ b).length ≤ n
    · have hb' := hb
      rw [List.length_append] at hb'
      rw [if_pos (by show (b.length : Int) ≤ (n : Int) - a.length; omega), if_pos hb]
      simp only [List.length_append, Tp.mk.injEq, and_true, true_and]
      omega
    · have hb' := hb
      rw [List.length_append] at hb'
      rw [if_neg (by show ¬ (b.length : Int) ≤ (n : Int) - a.length; omega), if_neg hb]
      have e : ((n : Int) - a.length).toNat = n - a.length := by omega
      simp only [e, Tp.mk.injEq, and_true]
      rw [List.take_append, List.take_of_length_le ha]
  · have hb : ¬ (a ++ b).length ≤ n := by simp; omega
    rw [if_neg ha, if_neg hb, Tp.append, if_pos (by simp [Tp.may])]
    simp only [Tp.mk.injEq, and_true]
    rw [List.take_append_of_le_length (by omega)]
theorem TapeArmed_walk {w : World} {n : Nat} (hn : n < 65536) {s : Sl (Sl UInt8)} (hl : R_sl_sl_uint8.ok w.heap s) : cal P f_law08_TapeArmed [.int .u16 n, s.v] w fun r w' => r = .bool true ∧ Fr [] w w' := by
  refine s_law08_TapeArmed fun R hR => ?_
  unfold c_law08_TapeArmed
  have hlen := hl.2.1
  have e1 : IntKind.i64.wrap (n : Int) = (n : Int) := wi64 (by omega) (by omega)
  refine cal_i New_spec ?_
  rintro p w1 hs1
  refine cal_i begun_spec ?_
  rintro _ w2 ⟨rfl, hf2⟩
  have hs2 := hs1.old hf2
  simp only [nilc_some, fad_mk, pik_true, pik_false, cnd_true, cnd_false, gif_same, gif_tf, gif_ft, gif_undef, bi_add, bi_sub, bi_mul, bi_eql, bi_neq, bi_lss, bi_leq, bi_gtr, bi_geq, notB_bool, cvi_int, lenS_mk, lenT_mk, ext0, ext1, ext2, nilP_mk, nilS_mk, fldv_agg, jn0_k, jn1_k, jn2_k, jn1_and, jn1_or, ex_some, Option.isNone_some, Option.isNone_none, Bool.false_bne, Bool.bne_true, Bool.bne_false, Bool.true_bne, Bool.not_true, Bool.not_false, Bool.and_true, Bool.true_and, Bool.and_false, Bool.false_and, Bool.or_true, Bool.true_or, Bool.or_false, Bool.false_or, cond_true, cond_false, List.getElem?_toArray, List.getElem?_cons_zero, List.getElem?_cons_succ, Nat.zero_add, Nat.add_zero, Nat.reduceAdd, forall_const, tp_nilP hs2, rSl_len hl, e1]
  rw [cnd_bool]
  refine ⟨fun h => ?_, fun h => ?_⟩
  · refine cal_i begun_spec ?_
    rintro _ w4 ⟨rfl, hf4⟩
    simp only [nilc_some, fad_mk, pik_true, pik_false, cnd_true, cnd_false, gif_same, gif_tf, gif_ft, gif_undef, bi_add, bi_sub, bi_mul, bi_eql, bi_neq, bi_lss, bi_leq, bi_gtr, bi_geq, notB_bool, cvi_int, lenS_mk, lenT_mk, ext0, ext1, ext2, nilP_mk, nilS_mk, fldv_agg, jn0_k, jn1_k, jn2_k, jn1_and, jn1_or, ex_some, Option.isNone_some, Option.isNone_none, Bool.false_bne, Bool.bne_true, Bool.bne_false, Bool.true_bne, Bool.not_true, Bool.not_false, Bool.and_true, Bool.true_and, Bool.and_false, Bool.false_and, Bool.or_true, Bool.true_or, Bool.or_false, Bool.false_or, cond_true, cond_false, List.getElem?_toArray, List.getElem?_cons_zero, List.getElem?_cons_succ, Nat.zero_add, Nat.add_zero, Nat.reduceAdd, forall_const]
    exact hR _ _ ⟨rfl, (hs2.old hf4).fr0⟩
  have hll : s.l.length ≤ 40 := by simp at h; omega
  refine ⟨fun y i w' => ∃ k : Nat, w' = w2 ∧ k ≤ s.l.length ∧ i = .int .i64 k ∧ y = .int .i64 (joined (s.l.take k)).length ∧ (joined (s.l.take k)).length ≤ 500 * k, fun _ i _ => (s.l.length - RowKit.intOf i).toNat, ⟨0, rfl, by omega, rfl, by simp [joined], by simp [joined]⟩, ?_⟩
  rintro _ _ w2 ⟨k, rfl, hk, rfl, rfl, hsum⟩ -
  simp only [nilc_some, fad_mk, pik_true, pik_false, cnd_true, cnd_false, gif_same, gif_tf, gif_ft, gif_undef, bi_add, bi_sub, bi_mul, bi_eql, bi_neq, bi_lss, bi_leq, bi_gtr, bi_geq, notB_bool, cvi_int, lenS_mk, lenT_mk, ext0, ext1, ext2, nilP_mk, nilS_mk, fldv_agg, jn0_k, jn1_k, jn2_k, jn1_and, jn1_or, ex_some, Option.isNone_some, Option.isNone_none, Bool.false_bne, Bool.bne_true, Bool.bne_false, Bool.true_bne, Bool.not_true, Bool.not_false, Bool.and_true, Bool.true_and, Bool.and_false, Bool.false_and, Bool.or_true, Bool.true_or, Bool.or_false, Bool.false_or, cond_true, cond_false, List.getElem?_toArray, List.getElem?_cons_zero, List.getElem?_cons_succ, Nat.zero_add, Nat.add_zero, Nat.reduceAdd, forall_const]
  rw [cnd_bool]
  refine ⟨fun h => ?_, fun h => ?_⟩
  · have hlt : k < s.l.length := by simpa using h
    obtain ⟨a, ha⟩ : ∃ a, s.l[k]? = some a := ⟨_, List.getElem?_eq_getElem hlt⟩
    have hl2 := R_sl_sl_uint8.fr hl hs2.fr0
    have hak := rSl_ok hl2 ha
    refine rSl_ld1 hl2 ha rfl ?_
    have hj := joined_take_succ ha
    have hjl := congrArg List.length hj
    rw [List.length_append] at hjl
    simp only [nilc_some, fad_mk, pik_true, pik_false, cnd_true, cnd_false, gif_same, gif_tf, gif_ft, gif_undef, bi_add, bi_sub, bi_mul, bi_eql, bi_neq, bi_lss, bi_leq, bi_gtr, bi_geq, notB_bool, cvi_int, lenS_mk, lenT_mk, ext0, ext1, ext2, nilP_mk, nilS_mk, fldv_agg, jn0_k, jn1_k, jn2_k, jn1_and, jn1_or, ex_some, Option.isNone_some, Option.isNone_none, Bool.false_bne, Bool.bne_true, Bool.bne_false, Bool.true_bne, Bool.not_true, Bool.not_false, Bool.and_true, Bool.true_and, Bool.and_false, Bool.false_and, Bool.or_true, Bool.true_or, Bool.or_false, Bool.false_or, cond_true, cond_false, List.getElem?_toArray, List.getElem?_cons_zero, List.getElem?_cons_succ, Nat.zero_add, Nat.add_zero, Nat.reduceAdd, forall_const, rBytes_len hak]
    rw [cnd_bool]
    refine ⟨fun h => hR _ _ ⟨rfl, hs2.fr0⟩, fun h => ?_⟩
    have hal : a.l.length ≤ 500 := by simp at h; omega
    rw [wi64 (by omega) (by omega), wi64 (by omega) (by omega)]
    exact ⟨⟨k + 1, by simp, by omega, by simp, by congr 1; omega, by omega⟩, by simp [RowKit.intOf]; omega⟩
  have hkl : k = s.l.length := by simp at h; omega
  subst hkl
  rw [List.take_length] at hsum ⊢
  refine cal_i (Arm_spec hs2) ?_
  rintro _ w3 ⟨rfl, hs3⟩
  have harm : (⟨[], -1, false, true⟩ : Tp).arm (n : Int) = (Tp.armed_ n [], 0) := by
    rw [Tp.arm, if_neg (by simp [Tp.may]), if_neg (by omega)]
    simp [Tp.armed_]
  rw [harm] at hs3 ⊢
  simp only [nilc_some, fad_mk, pik_true, pik_false, cnd_true, cnd_false, gif_same, gif_tf, gif_ft, gif_undef, bi_add, bi_sub, bi_mul, bi_eql, bi_neq, bi_lss, bi_leq, bi_gtr, bi_geq, notB_bool, cvi_int, lenS_mk, lenT_mk, ext0, ext1, ext2, nilP_mk, nilS_mk, fldv_agg, jn0_k, jn1_k, jn2_k, jn1_and, jn1_or, ex_some, Option.isNone_some, Option.isNone_none, Bool.false_bne, Bool.bne_true, Bool.bne_false, Bool.true_bne, Bool.not_true, Bool.not_false, Bool.and_true, Bool.true_and, Bool.and_false, Bool.false_and, Bool.or_true, Bool.true_or, Bool.or_false, Bool.false_or, cond_true, cond_false, List.getElem?_toArray, List.getElem?_cons_zero, List.getElem?_cons_succ, Nat.zero_add, Nat.add_zero, Nat.reduceAdd, forall_const, show ((0 : Int) != 0) = false from rfl]
  have hl3 : ∀ w', Fr [] w w' → R_sl_sl_uint8.ok w'.heap s := fun w' h => R_sl_sl_uint8.fr hl h
  refine ⟨fun i w' => ∃ k : Nat, k ≤ s.l.length ∧ i = .int .i64 k ∧ Sep w w' [tp p (Tp.armed_ n (joined (s.l.take k)))], fun i _ => (s.l.length - RowKit.intOf i).toNat, ⟨0, by omega, rfl, hs3⟩, ?_⟩
  rintro _ w4 ⟨k, hk, rfl, hs4⟩ -
  simp only [nilc_some, fad_mk, pik_true, pik_false, cnd_true, cnd_false, gif_same, gif_tf, gif_ft, gif_undef, bi_add, bi_sub, bi_mul, bi_eql, bi_neq, bi_lss, bi_leq, bi_gtr, bi_geq, notB_bool, cvi_int, lenS_mk, lenT_mk, ext0, ext1, ext2, nilP_mk, nilS_mk, fldv_agg, jn0_k, jn1_k, jn2_k, jn1_and, jn1_or, ex_some, Option.isNone_some, Option.isNone_none, Bool.false_bne, Bool.bne_true, Bool.bne_false, Bool.true_bne, Bool.not_true, Bool.not_false, Bool.and_true, Bool.true_and, Bool.and_false, Bool.false_and, Bool.or_true, Bool.true_or, Bool.or_false, Bool.false_or, cond_true, cond_false, List.getElem?_toArray, List.getElem?_cons_zero, List.getElem?_cons_succ, Nat.zero_add, Nat.add_zero, Nat.reduceAdd, forall_const]
  rw [cnd_bool]
  refine ⟨fun h => ?_, fun h => ?_⟩
  · have hlt : k < s.l.length := by simpa using h
    obtain ⟨a, ha⟩ : ∃ a, s.l[k]? = some a := ⟨_, List.getElem?_eq_getElem hlt⟩
    have hl4 := hl3 _ hs4.fr0
    have hak := rSl_ok hl ha
    refine rSl_ld1 hl4 ha rfl ?_
    have hb5 : ∀ w : World, (Instr.buildSlice T_sl_sl_uint8 1 #[(0, a.v)]).run P w = .ok (.slice (some ⟨w.heap.size, 0, none⟩) 1 1) (w.alloc (.cells ([a.v] : List Value).toArray T_sl_uint8)) := fun w => by
      obtain ⟨x, c, hv⟩ := hak.1.form
      rw [hv]
      kernel_rfl
    refine build_s (cs := [a.v]) (size := 1) hs4 rfl (hb5 _) fun g5 w5 hs5 => ?_
    have hle := joined_take_le s.l (k + 1)
    have hj := joined_take_succ ha
    have hjl := congrArg List.length hj
    rw [List.length_append] at hjl
    refine cal_i (Append_spec (s := ⟨.slice (some ⟨g5, 0, none⟩) 1 1, [a]⟩) hs5.p1 (Tp.armed_ok n _ hn (by omega)) fun w' h => ?_) ?_
    · refine ok_of_own h.cel h.capN (by simp) fun b hb => ?_
      simp at hb
      rw [hb]
      exact rBytes.fr hak h.fr0
    rintro _ w6 ⟨rfl, hs6⟩
    have hj1 : joined [a] = a.l := by simp [joined]
    rw [hj1, Tp.armed_step n _ _ (by omega), ← hj] at hs6
    rw [wi64 (by omega) (by omega)]
    exact ⟨⟨k + 1, by omega, by simp, hs6.d1⟩, by simp [RowKit.intOf]; omega⟩
  have hkl : k = s.l.length := by simp at h; omega
  subst hkl
  rw [List.take_length] at hs4
  have hx := Tp.armed_ok n (joined s.l) hn (by omega)
  have hm : (Tp.armed_ n (joined s.l)).made = true := by unfold Tp.armed_; split <;> rfl
  have hb : (Tp.armed_ n (joined s.l)).b = (joined s.l).take (min (joined s.l).length n) := by
    unfold Tp.armed_
    split
    · rename_i h; rw [Nat.min_eq_left h, List.take_length]
    · rename_i h; rw [Nat.min_eq_right (by omega)]
  have hon : (!(Tp.armed_ n (joined s.l)).off) = decide ((joined s.l).length ≤ n) := by
    unfold Tp.armed_
    split
    · rename_i h; simp [h]
    · rename_i h; simp [h]
  refine cal_i (Len_spec hs4 hm) ?_
  rintro _ _ ⟨rfl, rfl⟩
  rw [min_int, bi_eql, hb]
  have e2 : min ((joined s.l).length : Int) (n : Int) = ((min (joined s.l).length n : Nat) : Int) := by omega
  have e3 : (((joined s.l).take (min (joined s.l).length n)).length) = min (joined s.l).length n := by rw [List.length_take]; omega
  rw [e2, e3, beq_self_eq_true]
  simp only [nilc_some, fad_mk, pik_true, pik_false, cnd_true, cnd_false, gif_same, gif_tf, gif_ft, gif_undef, bi_add, bi_sub, bi_mul, bi_eql, bi_neq, bi_lss, bi_leq, bi_gtr, bi_geq, notB_bool, cvi_int, lenS_mk, lenT_mk, ext0, ext1, ext2, nilP_mk, nilS_mk, fldv_agg, jn0_k, jn1_k, jn2_k, jn1_and, jn1_or, ex_some, Option.isNone_some, Option.isNone_none, Bool.false_bne, Bool.bne_true, Bool.bne_false, Bool.true_bne, Bool.not_true, Bool.not_false, Bool.and_true, Bool.true_and, Bool.and_false, Bool.false_and, Bool.or_true, Bool.true_or, Bool.or_false, Bool.false_or, cond_true, cond_false, List.getElem?_toArray, List.getElem?_cons_zero, List.getElem?_cons_succ, Nat.zero_add, Nat.add_zero, Nat.reduceAdd, forall_const]
  refine jn1_dup (cal_i (On_spec hs4) ?_)
  rintro _ _ ⟨rfl, rfl⟩
  have e4 : decide (((joined s.l).length : Int) ≤ n) = decide ((joined s.l).length ≤ n) := by simp
  rw [hm, hon, e4, Bool.true_and, eqS_bool _ _ UT_bool, beq_self_eq_true]
  simp only [nilc_some, fad_mk, pik_true, pik_false, cnd_true, cnd_false, gif_same, gif_tf, gif_ft, gif_undef, bi_add, bi_sub, bi_mul, bi_eql, bi_neq, bi_lss, bi_leq, bi_gtr, bi_geq, notB_bool, cvi_int, lenS_mk, lenT_mk, ext0, ext1, ext2, nilP_mk, nilS_mk, fldv_agg, jn0_k, jn1_k, jn2_k, jn1_and, jn1_or, ex_some, Option.isNone_some, Option.isNone_none, Bool.false_bne, Bool.bne_true, Bool.bne_false, Bool.true_bne, Bool.not_true, Bool.not_false, Bool.and_true, Bool.true_and, Bool.and_false, Bool.false_and, Bool.or_true, Bool.true_or, Bool.or_false, Bool.false_or, cond_true, cond_false, List.getElem?_toArray, List.getElem?_cons_zero, List.getElem?_cons_succ, Nat.zero_add, Nat.add_zero, Nat.reduceAdd, forall_const]
  refine jn1_dup (cal_i (Bytes_spec hs4 hx hm) ?_)
  rintro v w5 hs5
  have hs5 := hs4.join hs5
  refine cal_i (Join_spec (hl3 _ hs5.fr0) (by omega)) ?_
  rintro u w6 hs6
  have hs6 := hs5.join hs6
  obtain ⟨a, c, rfl, hc⟩ := Sep.form hs6
  rw [min_int, e2, slc_to (by omega)]
  refine cal_i (Equal_spec (Sep.rd (Sep.p1 hs6)) ((Sep.rd hs6).take (k := min (joined s.l).length n) (by omega) c)) ?_
  rintro _ _ ⟨rfl, rfl⟩
  rw [hb, beq_self_eq_true]
  exact fun _ => hR _ _ ⟨rfl, hs6.fr0⟩
end Go.Fx
namespace Go.Proofs.Ytiipcclmmhkggaa
open Go.ChangeShapes Go.WideShapes Go.ChangeAt Go.RowKit
set_option maxRecDepth 100000 in
theorem liftedTapeArmed (os : Os) (started : os.Started) (H : Type) (enc : TypeId × Value → H) :
    ReturnsInHanded {} Try.checked os 4 .any (Rows.tapeArmedSpec.pre6 enc Try.prog Try.f4 Rows.tapeArmedRow.domain false) (Rows.tapeArmedSpec.post enc Try.prog Try.f4 false true false false) := by
  refine returnsInHanded_of_change (C := Try.checked) own started (by kernel_rfl) Try.func4
    (ChangeSpec.witness6 (enc := enc) (C := Try.checked) false ⟨#[], #[.int .u16 0, .slice none 0 0], []⟩ 8 (by kernel_rfl) (by kernel_rfl) (by kernel_rfl) (by kernel_rfl)) ?_
  intro W base args ds gs before hval0 hW hcnd _
  have hval : ∀ (j : Nat) t v, Try.f4.params[j]? = some t → args[j]? = some v → Value.okWide Try.prog W .any base t v := hval0
  have hW' := hW
  obtain ⟨p, q, hA0, hV, rfl, hfz, hnd⟩ := hW
  have hA : DataW.TrodAll enc Try.prog W 0 (fun _ => true) true Try.f4.params.toList args.toList ds p := hA0
  rw [Try.params4] at hA hval
  obtain ⟨v0, vs0, d0, ds0, p0, q0, hargs, rfl, rfl, h0, r0⟩ := trodAll_cons hA
  obtain ⟨v1, vs1, d1, ds1, p1, q1, rfl, rfl, rfl, h1, r1⟩ := trodAll_cons r0
  obtain ⟨rfl, rfl, rfl⟩ := trodAll_nil r1
  obtain rfl : args = #[v0, v1] := by cases args; simp_all
  obtain ⟨rfl, rfl⟩ := trodVars_none hV
  obtain ⟨a0, rfl, rfl, rfl, w0⟩ := open_int Try.underlying22 (hval 0 22 v0 rfl rfl) h0
  have b0 := bounds_u16 w0
  obtain ⟨n0, rfl⟩ := Int.eq_ofNat_of_zero_le b0.1
  have b0 : n0 < 65536 := by omega
  obtain ⟨a1, len1, cap1, rfl⟩ := okWide_slice Try.underlying34 (hval 1 34 v1 rfl rfl)
  have k1 := h1
  have lt1 : ∀ x ∈ p1, x.block < W.heap.size := by obtain ⟨m, hm⟩ := k1; exact DataW.trod_lt m _ _ _ hm
  obtain ⟨f1, hf1⟩ := h1
  have hx1 := Go.Fx.O_sl_sl_uint8 hf1
  obtain ⟨l1, rd1⟩ := hx1
  clear hA0 hval0
  have hcal := Go.Fx.TapeArmed_walk b0 rd1
  refine Calls.mono hcal fun e W' ⟨v, he, hv, hf⟩ => ?_
  subst hv
  subst he
  have bel : Below W.heap.size W W' := hf.below (by simp)
  exact ⟨_, rfl, _, _, _, [], _, [], hW', trodAll_mk1 (shut_bool Try.underlying4 _), (trodAll_cons_mk (shut_int Try.underlying22 w0) (trodAll_cons_mk (Below.trod laidOut (by kernel_rfl) (of_decide_eq_true (by kernel_rfl)) k1 bel lt1) trodAll_mk0)), rfl, bel.frame _, fun h => by cases h⟩
theorem tapeArmed : Rows.TapeArmedSaid :=
  OpenClaim.holds_of_wide 4 Try.f4 rfl rfl rfl rfl rfl rfl rfl ⟨rfl, rfl, rfl, rfl, rfl⟩ rfl rfl rfl rfl rfl (by kernel_rfl) Try.func4 (by kernel_rfl)
    (of_decide_eq_true (by kernel_rfl)) (by unfold Func.isWrapper; first | (rw [if_pos (by decide +kernel)]; kernel_rfl) | (rw [if_neg (by decide +kernel)]; exact ⟨rfl, rfl⟩))
    (fun os started H enc _ => liftedTapeArmed os started H enc)
#print axioms tapeArmed
end Go.Proofs.Ytiipcclmmhkggaa
