/-
  MsgReads, walked.
-/
import Derived.Test.YtaodibbogbkgdaaMgP
set_option linter.unusedVariables false
set_option linter.unusedSimpArgs false
namespace Go.Fx
theorem wReads4 {w : World} {v : Value} {l : List UInt8} (hl : rBytes.ok w.heap ⟨v, l⟩) : cal P f_law04_MsgReads [v] w fun r w' => r = .bool true ∧ Fr [] w w' := by
  have hrd : RdB w.heap v l := hl.1
  have hll : l.length ≤ 9223372036854775807 := hl.2.1
  have hcap : capOk v := hl.2.2
  clear hl
  refine s_law04_MsgReads fun R hR => ?_
  unfold c_law04_MsgReads
  have lv : ∀ {z : World}, Fr [] w z → cal P f_law04_begun [] z R := fun {z} hf => cal_i (begun_spec z) fun r w' hr => hR _ _ ⟨hr.1, hf.trans hr.2 (by simp) (by simp)⟩
  refine cal_i (begun_spec _) ?_
  rintro _ w1 ⟨rfl, hf1⟩
  have hs1 := (Sep.start w).old hf1
  simp only [nilc_some, fad_mk, pik_true, pik_false, cnd_true, cnd_false, gif_same, gif_tf, gif_ft, gif_undef, bi_add, bi_sub, bi_mul, bi_eql, bi_neq, bi_lss, bi_leq, bi_gtr, bi_geq, notB_bool, cvi_int, lenS_mk, lenT_mk, ext0, ext1, ext2, nilP_mk, nilS_mk, fldv_agg, jn0_k, jn1_k, jn2_k, jn1_and, jn1_or, ex_some, Option.isNone_some, Option.isNone_none, Bool.false_bne, Bool.bne_true, Bool.bne_false, Bool.true_bne, Bool.not_true, Bool.not_false, Bool.and_true, Bool.true_and, Bool.and_false, Bool.false_and, Bool.or_true, Bool.true_or, Bool.or_false, Bool.false_or, cond_true, cond_false, List.getElem?_toArray, List.getElem?_cons_zero, List.getElem?_cons_succ, Nat.zero_add, Nat.add_zero, Nat.reduceAdd, forall_const, hrd.len]
  rw [cnd_bool]
  refine ⟨fun h => lv hs1.fr0, fun h => ?_⟩
  have hl3 : l.length ≤ 10000 := by simp at h; omega
  refine cal_i (bClone_spec (hs1.rdB hrd) (by omega)) ?_
  rintro vc w2 hs2
  replace hs2 := hs1.join hs2
  refine cal_i (mParse_spec (Sep.rd hs2) (by omega)) ?_
  rintro _ w3 ⟨m, e, iv, bv, L, rfl, hp, hL, hs3⟩
  replace hs3 : Sep w w3 (rows (rVec 32) iv m.ids :: rows qv bv (L.map (·.v)) :: (L.map oB ++ [ownB vc l])) := hs2.join hs3
  simp only [nilc_some, fad_mk, pik_true, pik_false, cnd_true, cnd_false, gif_same, gif_tf, gif_ft, gif_undef, bi_add, bi_sub, bi_mul, bi_eql, bi_neq, bi_lss, bi_leq, bi_gtr, bi_geq, notB_bool, cvi_int, lenS_mk, lenT_mk, ext0, ext1, ext2, nilP_mk, nilS_mk, fldv_agg, jn0_k, jn1_k, jn2_k, jn1_and, jn1_or, ex_some, Option.isNone_some, Option.isNone_none, Bool.false_bne, Bool.bne_true, Bool.bne_false, Bool.true_bne, Bool.not_true, Bool.not_false, Bool.and_true, Bool.true_and, Bool.and_false, Bool.false_and, Bool.or_true, Bool.true_or, Bool.or_false, Bool.false_or, cond_true, cond_false, List.getElem?_toArray, List.getElem?_cons_zero, List.getElem?_cons_succ, Nat.zero_add, Nat.add_zero, Nat.reduceAdd, forall_const]
  refine alloc_s hs3 (A_api_Msg w3) fun g4 w4 hs4 => ?_
  refine St_api_Msg (b := (m.k, m.q, iv, bv)) hs4 (one_api_Msg (Sep.oneR hs4.p1) (Sep.oneR hs4.p2)) fun w5 hs5 => ?_
  have hs6 := Sep.mid (As := mb g4 m iv bv :: rows (rVec 32) iv m.ids :: rows qv bv (L.map fun s : Sl UInt8 => s.v) :: L.map oB) (A := ownB vc l) (Bs := []) hs5
  simp only [(Sep.rd hs6).len]
  refine flip_loop hs6 (by omega) fun w7 hs7 => ?_
  replace hs7 := Sep.tail hs7
  refine cal_i (mrParse_spec (hs7.rdB hrd) hcap (by omega)) ?_
  rintro _ w8 ⟨n, f, iv', bv', L', rfl, hq, hL', hs8⟩
  obtain ⟨hmn, hef⟩ := hp.uniq hq
  subst hmn
  subst hef
  replace hs8 := hs7.join hs8
  simp only [nilc_some, fad_mk, pik_true, pik_false, cnd_true, cnd_false, gif_same, gif_tf, gif_ft, gif_undef, bi_add, bi_sub, bi_mul, bi_eql, bi_neq, bi_lss, bi_leq, bi_gtr, bi_geq, notB_bool, cvi_int, lenS_mk, lenT_mk, ext0, ext1, ext2, nilP_mk, nilS_mk, fldv_agg, jn0_k, jn1_k, jn2_k, jn1_and, jn1_or, ex_some, Option.isNone_some, Option.isNone_none, Bool.false_bne, Bool.bne_true, Bool.bne_false, Bool.true_bne, Bool.not_true, Bool.not_false, Bool.and_true, Bool.true_and, Bool.and_false, Bool.false_and, Bool.or_true, Bool.true_or, Bool.or_false, Bool.false_or, cond_true, cond_false, List.getElem?_toArray, List.getElem?_cons_zero, List.getElem?_cons_succ, Nat.zero_add, Nat.add_zero, Nat.reduceAdd, forall_const]
  refine alloc_s hs8 (A_api_Msg w8) fun g9 w9 hs9 => ?_
  refine St_api_Msg (b := (m.k, m.q, iv', bv')) hs9 (one_api_Msg (Sep.oneR hs9.p1) (Sep.oneR hs9.p2)) fun w10 hs10 => ?_
  have hs11 : Sep w w10 (mb g4 m iv bv :: rows (rVec 32) iv m.ids :: rows qv bv (L.map fun s : Sl UInt8 => s.v) :: (L.map oB ++ [])) := Sep.dropL (As := mb g9 m iv' bv' :: rows (rVec 32) iv' m.ids :: rows qv bv' (L'.map fun s : Sl UInt8 => s.v) :: L'.map oB) hs10
  simp only [L_api_Msg hs10.blk, L_api_Msg__Kind hs10.blk, L_api_Msg__Req hs10.blk, L_api_Msg__IDs hs10.blk, L_api_Msg__Blocks hs10.blk, L_api_Msg hs11.blk, L_api_Msg__Kind hs11.blk, L_api_Msg__Req hs11.blk, L_api_Msg__IDs hs11.blk, L_api_Msg__Blocks hs11.blk]
  have hLl : L.length ≤ 9223372036854775807 := by
    have h1 := congrArg List.length hL
    rw [List.length_map] at h1
    rcases hp with ⟨_, hok, _⟩ | ⟨_, rfl, _⟩
    · have := Msg.ok_cases hok; omega
    · have h0 : Msg.zero.bs.length = 0 := rfl
      omega
  have hil : m.ids.length ≤ 9223372036854775807 := by
    rcases hp with ⟨_, hok, _⟩ | ⟨_, rfl, _⟩
    · have := Msg.ok_cases hok; omega
    · simp [Msg.zero]
  refine cal_i (mrSame_spec (m := m) (n := m) (mown_rd (Bs := []) (Sep.tail hs11) hL.symm) (mown_rd (Bs := _) (Sep.tail hs10) hL'.symm) hLl hil) ?_
  rintro _ w12 ⟨rfl, hf12⟩
  simp only [decide_true, nilc_some, fad_mk, pik_true, pik_false, cnd_true, cnd_false, gif_same, gif_tf, gif_ft, gif_undef, bi_add, bi_sub, bi_mul, bi_eql, bi_neq, bi_lss, bi_leq, bi_gtr, bi_geq, notB_bool, cvi_int, lenS_mk, lenT_mk, ext0, ext1, ext2, nilP_mk, nilS_mk, fldv_agg, jn0_k, jn1_k, jn2_k, jn1_and, jn1_or, ex_some, Option.isNone_some, Option.isNone_none, Bool.false_bne, Bool.bne_true, Bool.bne_false, Bool.true_bne, Bool.not_true, Bool.not_false, Bool.and_true, Bool.true_and, Bool.and_false, Bool.false_and, Bool.or_true, Bool.true_or, Bool.or_false, Bool.false_or, cond_true, cond_false, List.getElem?_toArray, List.getElem?_cons_zero, List.getElem?_cons_succ, Nat.zero_add, Nat.add_zero, Nat.reduceAdd, forall_const, beq_self_eq_true]
  exact hR _ _ ⟨rfl, (hs10.old hf12).fr0⟩
end Go.Fx
