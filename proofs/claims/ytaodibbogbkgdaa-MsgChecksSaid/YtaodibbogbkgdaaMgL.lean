/-
  The message of bytes: the program's, walked.
-/
import Derived.Test.YtaodibbogbkgdaaMgK
set_option linter.unusedVariables false
set_option linter.unusedSimpArgs false
namespace Go.Fx
theorem rd_isParse {l : List UInt8} : IsParse l (if uend (RD l).2.1 (RD l).2.2 = 0 ∧ (RD l).1.ok then (RD l).1 else Msg.zero) (if uend (RD l).2.1 (RD l).2.2 = 0 ∧ (RD l).1.ok then 0 else 40) := by
  by_cases h : uend (RD l).2.1 (RD l).2.2 = 0 ∧ (RD l).1.ok
  · rw [if_pos h, if_pos h]
    exact .inl ⟨rfl, h.2, rd_sound h.1 h.2⟩
  · rw [if_neg h, if_neg h]
    refine .inr ⟨rfl, rfl, fun n hn hb => h ?_⟩
    rw [← hb, rd_complete hn]
    exact ⟨rfl, hn⟩
theorem rd_len (l : List UInt8) : (RD l).1.bs.length ≤ 32 := by
  unfold RD readM
  generalize ((ofBe (K0 l).1 : Nat) : Int) = k
  cases kbody k with
  | nil => simp
  | nothing => simp
  | some n => simp
  | names => simp only; split <;> simp [Msg.zero]
  | blocks o =>
    cases o
    · simp only
      split
      · simp [Msg.zero]
      · simp only [stB_len]; omega
    · simp only [stB_len]; omega
section
variable {w0 w : World} {As : List Asn} {v : Value} {l : List UInt8}
theorem mParse_spec (hb : RdB w.heap v l) (hl : l.length ≤ 100000) : cal P f_msg_Parse [v] w fun r w' => ∃ m e iv bv L, r = .tuple #[mq m iv bv, .int .i64 e] ∧ IsParse l m e ∧ L.map (·.l) = m.bs ∧ Sep w w' (mown m iv bv L) := by
  refine s_msg_Parse fun R hR => ?_
  unfold c_msg_Parse
  refine alloc_s (Sep.start w) (A_api_Msg w) fun g2 w1 hs1 => ?_
  refine cal_i (ReadS (hs1.rdB hb) (by omega)) ?_
  rintro _ w2 ⟨gu, s2, rfl, hs2⟩
  replace hs2 := hs1.join hs2
  refine cal_i (uByteS hs2) ?_
  rintro v3 w3 ⟨hv3, s3, hs3⟩
  obtain rfl : v3 = .int .u8 ((ofBe (K0 l).1 : Nat) : Int) := hv3
  have h0l : (K0 l).1.length ≤ 1 := by unfold K0 tk; split <;> (try split) <;> simp; omega
  have h0v := ofBe_lt (K0 l).1
  have h0p : 256 ^ (K0 l).1.length ≤ 256 ^ 1 := Nat.pow_le_pow_right (by omega) h0l
  simp only [nilc_some, fad_mk, pik_true, pik_false, cnd_true, cnd_false, gif_same, gif_tf, gif_ft, gif_undef, bi_add, bi_sub, bi_mul, bi_eql, bi_neq, bi_lss, bi_leq, bi_gtr, bi_geq, notB_bool, cvi_int, lenS_mk, lenT_mk, ext0, ext1, ext2, nilP_mk, nilS_mk, fldv_agg, jn0_k, jn1_k, jn2_k, jn1_and, jn1_or, ex_some, Option.isNone_some, Option.isNone_none, Bool.false_bne, Bool.bne_true, Bool.bne_false, Bool.true_bne, Bool.not_true, Bool.not_false, Bool.and_true, Bool.true_and, Bool.and_false, Bool.false_and, Bool.or_true, Bool.true_or, Bool.or_false, Bool.false_or, cond_true, cond_false, List.getElem?_toArray, List.getElem?_cons_zero, List.getElem?_cons_succ, Nat.zero_add, Nat.add_zero, Nat.reduceAdd, forall_const]
  rw [wi64 (by omega) (by omega)]
  refine cal_i (uIntS hs3) ?_
  rintro v4 w4 ⟨hv4, s4, hs4⟩
  obtain rfl : v4 = .int .u32 ((ofBe (K1 l).1 : Nat) : Int) := hv4
  have h1l : (K1 l).1.length ≤ 4 := by unfold K1 tk; split <;> (try split) <;> simp; omega
  have h1v := ofBe_lt (K1 l).1
  have h1p : 256 ^ (K1 l).1.length ≤ 256 ^ 4 := Nat.pow_le_pow_right (by omega) h1l
  simp only [nilc_some, fad_mk, pik_true, pik_false, cnd_true, cnd_false, gif_same, gif_tf, gif_ft, gif_undef, bi_add, bi_sub, bi_mul, bi_eql, bi_neq, bi_lss, bi_leq, bi_gtr, bi_geq, notB_bool, cvi_int, lenS_mk, lenT_mk, ext0, ext1, ext2, nilP_mk, nilS_mk, fldv_agg, jn0_k, jn1_k, jn2_k, jn1_and, jn1_or, ex_some, Option.isNone_some, Option.isNone_none, Bool.false_bne, Bool.bne_true, Bool.bne_false, Bool.true_bne, Bool.not_true, Bool.not_false, Bool.and_true, Bool.true_and, Bool.and_false, Bool.false_and, Bool.or_true, Bool.true_or, Bool.or_false, Bool.false_or, cond_true, cond_false, List.getElem?_toArray, List.getElem?_cons_zero, List.getElem?_cons_succ, Nat.zero_add, Nat.add_zero, Nat.reduceAdd, forall_const]
  rw [wi64 (by omega) (by omega), B_api_Msg_0_1]
  replace hs4 : Sep w w4 (uk gu s4 (K1 l).2.2 :: ownB s4 (K1 l).2.1 :: [blk g2 (Rdr.cells Q_api_Msg ((0 : Int), (0 : Int), Value.slice none 0 0, Value.slice none 0 0)).toArray T_api_Msg]) := hs4
  refine alloc_s hs4 (A_api_Msg w4) fun g5 w5 hs5 => ?_
  refine St_api_Msg (b := ((ofBe (K0 l).1 : Nat), (ofBe (K1 l).1 : Nat), Value.slice none 0 0, Value.slice none 0 0)) hs5 (one_api_Msg rfl rfl) fun w6 hs6 => ?_
  simp only [L_api_Msg hs6.blk, L_api_Msg__Kind hs6.blk, L_api_Msg__Req hs6.blk, L_api_Msg__IDs hs6.blk, L_api_Msg__Blocks hs6.blk]
  have hrest : (K1 l).2.1.length ≤ 100000 := Nat.le_trans (tk_rest _ _ _) (Nat.le_trans (tk_rest _ _ _) hl)
  refine cal_i (mRead_spec (k := (ofBe (K0 l).1 : Nat)) (q := (ofBe (K1 l).1 : Nat)) (hs6.pick [1, 2, 0, 3] 4) hrest) ?_
  rintro r7 w7 ⟨iv, bv, L, s7, hr7, hL, hs7⟩
  obtain rfl : r7 = mq (RD l).1 iv bv := hr7
  replace hL : L.map (·.l) = (RD l).1.bs := hL
  replace hs7 : Sep w w7 (rows (rVec 32) iv (RD l).1.ids :: rows qv bv (L.map (·.v)) :: (L.map oB ++ (uk gu s7 (RD l).2.2 :: ownB s7 (RD l).2.1 :: blk g5 (Rdr.cells Q_api_Msg (((ofBe (K0 l).1 : Nat) : Int), ((ofBe (K1 l).1 : Nat) : Int), Value.slice none 0 0, Value.slice none 0 0)).toArray T_api_Msg ::
    [blk g2 (Rdr.cells Q_api_Msg ((0 : Int), (0 : Int), Value.slice none 0 0, Value.slice none 0 0)).toArray T_api_Msg]))) := hs7
  have hp := @rd_isParse l
  have hrl := rd_len l
  generalize RD l = d at *
  -- all that is owned, what is fixed first
  have hs8 : Sep w w7 (blk g5 (Rdr.cells Q_api_Msg (((ofBe (K0 l).1 : Nat) : Int), ((ofBe (K1 l).1 : Nat) : Int), Value.slice none 0 0, Value.slice none 0 0)).toArray T_api_Msg :: blk g2 (Rdr.cells Q_api_Msg ((0 : Int), (0 : Int), Value.slice none 0 0, Value.slice none 0 0)).toArray T_api_Msg ::
      uk gu s7 d.2.2 :: ownB s7 d.2.1 :: rows (rVec 32) iv d.1.ids :: rows qv bv (L.map (·.v)) :: L.map oB) := by
    refine hs7.perm ?_
    refine (List.perm_append_comm (l₁ := rows (rVec 32) iv d.1.ids :: rows qv bv (L.map (·.v)) :: L.map oB)).trans ?_
    refine ((List.Perm.swap ..).cons _).trans ?_
    refine (List.Perm.swap ..).trans (List.Perm.cons _ ?_)
    refine (((List.Perm.swap ..).cons _).trans (List.Perm.swap ..))
  refine St_api_Msg (b := (d.1.k, d.1.q, iv, bv)) hs8 (one_api_Msg (Sep.oneR (hs8.pick [4] 5)) (Sep.oneR (hs8.pick [5] 6))) fun w8 hs9 => ?_
  refine cal_i (EndS (hs9.pick [2, 3, 0, 1] 4)) ?_
  rintro _ _ ⟨rfl, rfl⟩
  have bad : ∀ (w' : World) (_ : IsParse l Msg.zero 40), Fr [] w8 w' → stN 4 (.pointer (some ⟨g2, 0, none⟩)) (.agg (Rdr.cells Q_api_Msg ((0 : Int), (0 : Int), Value.slice none 0 0, Value.slice none 0 0)).toArray) w' fun w => ldN 4 (.pointer (some ⟨g2, 0, none⟩)) w.heap fun r1 => R (.tuple #[r1, .int .i64 40]) w := fun w' hp hf => by
    have h := (hs9.old hf).p1
    refine St_api_Msg h (one_api_Msg rfl rfl) fun w10 hs10 => ?_
    simp only [L_api_Msg hs10.blk, L_api_Msg__Kind hs10.blk, L_api_Msg__Req hs10.blk, L_api_Msg__IDs hs10.blk, L_api_Msg__Blocks hs10.blk]
    exact hR _ _ ⟨Msg.zero, 40, _, _, [], rfl, hp, rfl, ((Sep.start w).old hs10.fr0).nilR.nilR⟩
  rw [bi_neq]
  by_cases he : uend d.2.1 d.2.2 = 0
  case neg =>
    have e : (uend d.2.1 d.2.2 != 0) = true := by simpa using he
    rw [if_neg (fun h => he h.1), if_neg (fun h => he h.1)] at hp
    simp only [e, nilc_some, fad_mk, pik_true, pik_false, cnd_true, cnd_false, gif_same, gif_tf, gif_ft, gif_undef, bi_add, bi_sub, bi_mul, bi_eql, bi_neq, bi_lss, bi_leq, bi_gtr, bi_geq, notB_bool, cvi_int, lenS_mk, lenT_mk, ext0, ext1, ext2, nilP_mk, nilS_mk, fldv_agg, jn0_k, jn1_k, jn2_k, jn1_and, jn1_or, ex_some, Option.isNone_some, Option.isNone_none, Bool.false_bne, Bool.bne_true, Bool.bne_false, Bool.true_bne, Bool.not_true, Bool.not_false, Bool.and_true, Bool.true_and, Bool.and_false, Bool.false_and, Bool.or_true, Bool.true_or, Bool.or_false, Bool.false_or, cond_true, cond_false, List.getElem?_toArray, List.getElem?_cons_zero, List.getElem?_cons_succ, Nat.zero_add, Nat.add_zero, Nat.reduceAdd, forall_const, B_api_Msg]
    exact bad _ hp (Fr.refl _ _)
  simp only [he, nilc_some, fad_mk, pik_true, pik_false, cnd_true, cnd_false, gif_same, gif_tf, gif_ft, gif_undef, bi_add, bi_sub, bi_mul, bi_eql, bi_neq, bi_lss, bi_leq, bi_gtr, bi_geq, notB_bool, cvi_int, lenS_mk, lenT_mk, ext0, ext1, ext2, nilP_mk, nilS_mk, fldv_agg, jn0_k, jn1_k, jn2_k, jn1_and, jn1_or, ex_some, Option.isNone_some, Option.isNone_none, Bool.false_bne, Bool.bne_true, Bool.bne_false, Bool.true_bne, Bool.not_true, Bool.not_false, Bool.and_true, Bool.true_and, Bool.and_false, Bool.false_and, Bool.or_true, Bool.true_or, Bool.or_false, Bool.false_or, cond_true, cond_false, List.getElem?_toArray, List.getElem?_cons_zero, List.getElem?_cons_succ, Nat.zero_add, Nat.add_zero, Nat.reduceAdd, forall_const, show ((0 : Int) != 0) = false from rfl, L_api_Msg hs9.blk, L_api_Msg__Kind hs9.blk, L_api_Msg__Req hs9.blk, L_api_Msg__IDs hs9.blk, L_api_Msg__Blocks hs9.blk]
  have hmr : ∀ {z : World}, Fr [] w8 z → MR z.heap d.1 iv bv L := fun {z} hf => by
    have h := hs9.tail.tail.tail.tail
    exact MR.fr (mown_rd (Bs := []) (by rw [List.append_nil]; exact h) hL.symm) hf
  have hLl : L.length ≤ 9223372036854775807 := by
    have := congrArg List.length hL
    rw [List.length_map] at this
    omega
  refine jn1_dup ?_
  refine cal_i (mCheck_spec (hmr (Fr.refl _ _)) hLl) ?_
  rintro _ w9 ⟨rfl, hf9⟩
  by_cases hok : d.1.ok
  · have h0 : d.1.chk = 0 := Msg.chk_ok.2 hok
    rw [if_pos ⟨he, hok⟩, if_pos ⟨he, hok⟩] at hp
    have hs10 := hs9.old hf9
    simp only [h0, nilc_some, fad_mk, pik_true, pik_false, cnd_true, cnd_false, gif_same, gif_tf, gif_ft, gif_undef, bi_add, bi_sub, bi_mul, bi_eql, bi_neq, bi_lss, bi_leq, bi_gtr, bi_geq, notB_bool, cvi_int, lenS_mk, lenT_mk, ext0, ext1, ext2, nilP_mk, nilS_mk, fldv_agg, jn0_k, jn1_k, jn2_k, jn1_and, jn1_or, ex_some, Option.isNone_some, Option.isNone_none, Bool.false_bne, Bool.bne_true, Bool.bne_false, Bool.true_bne, Bool.not_true, Bool.not_false, Bool.and_true, Bool.true_and, Bool.and_false, Bool.false_and, Bool.or_true, Bool.true_or, Bool.or_false, Bool.false_or, cond_true, cond_false, List.getElem?_toArray, List.getElem?_cons_zero, List.getElem?_cons_succ, Nat.zero_add, Nat.add_zero, Nat.reduceAdd, forall_const, show ((0 : Int) != 0) = false from rfl, L_api_Msg hs10.blk, L_api_Msg__Kind hs10.blk, L_api_Msg__Req hs10.blk, L_api_Msg__IDs hs10.blk, L_api_Msg__Blocks hs10.blk]
    refine St_api_Msg (b := (d.1.k, d.1.q, iv, bv)) hs10.p1 (one_api_Msg (Sep.oneR (hs10.pick [4] 5)) (Sep.oneR (hs10.pick [5] 6))) fun w11 hs11 => ?_
    simp only [L_api_Msg hs11.blk, L_api_Msg__Kind hs11.blk, L_api_Msg__Req hs11.blk, L_api_Msg__IDs hs11.blk, L_api_Msg__Blocks hs11.blk]
    exact hR _ _ ⟨d.1, 0, iv, bv, L, rfl, hp, hL, hs11.tail.tail.tail.tail⟩
  · have h0 : d.1.chk = 40 := by rw [Msg.chk, if_neg hok]
    rw [if_neg (fun h => hok h.2), if_neg (fun h => hok h.2)] at hp
    simp only [h0, nilc_some, fad_mk, pik_true, pik_false, cnd_true, cnd_false, gif_same, gif_tf, gif_ft, gif_undef, bi_add, bi_sub, bi_mul, bi_eql, bi_neq, bi_lss, bi_leq, bi_gtr, bi_geq, notB_bool, cvi_int, lenS_mk, lenT_mk, ext0, ext1, ext2, nilP_mk, nilS_mk, fldv_agg, jn0_k, jn1_k, jn2_k, jn1_and, jn1_or, ex_some, Option.isNone_some, Option.isNone_none, Bool.false_bne, Bool.bne_true, Bool.bne_false, Bool.true_bne, Bool.not_true, Bool.not_false, Bool.and_true, Bool.true_and, Bool.and_false, Bool.false_and, Bool.or_true, Bool.true_or, Bool.or_false, Bool.false_or, cond_true, cond_false, List.getElem?_toArray, List.getElem?_cons_zero, List.getElem?_cons_succ, Nat.zero_add, Nat.add_zero, Nat.reduceAdd, forall_const, show ((40 : Int) != 0) = true from rfl, B_api_Msg]
    exact bad _ hp hf9
end
end Go.Fx
