/-
  A message's bytes: the program's and the document's.
-/
import Derived.Test.YtaodibbogbkgdaaMgE
set_option linter.unusedVariables false
set_option linter.unusedSimpArgs false
namespace Go.Fx
theorem rd_vec {w0 z : World} {As : List Asn} {g n c : Nat} {a : Vec n} {T : TypeId} (h : Sep w0 z (blk g (Rdr.cells (rVec n) a).toArray T :: As)) : RdB z.heap (.slice (some ⟨g, 0, none⟩) n c) a.1 := by
  have hat : At z.heap g 0 (bvs a.1) := At.blk (cs := Rdr.cells (rVec n) a) h.blk
  have := At.rd (c := c) hat
  rwa [a.2] at this
theorem encI_take {l : List (Vec 32)} {i : Nat} {x : Vec 32} (h : l[i]? = some x) : encI (l.take (i + 1)) = encI (l.take i) ++ x.1 := by
  unfold encI
  rw [List.take_add_one, h, List.flatMap_append]
  simp
theorem encB_take {l : List (List UInt8)} {i : Nat} {x : List UInt8} (h : l[i]? = some x) : encB (l.take (i + 1)) = encB (l.take i) ++ (be 4 x.length ++ x) := by
  unfold encB
  rw [List.take_add_one, h, List.flatMap_append]
  simp
theorem encB_take_le (l : List (List UInt8)) (i : Nat) : (encB (l.take i)).length ≤ (encB l).length := by
  conv => rhs; rw [← List.take_append_drop i l]
  unfold encB
  rw [List.flatMap_append, List.length_append]
  omega
def Msg.head (m : Msg) : List UInt8 := be 1 m.k.toNat ++ be 4 m.q.toNat ++ m.num
theorem Msg.bytes_eq (m : Msg) : m.bytes = m.head ++ encI m.ids ++ encB m.bs := by simp [Msg.bytes, Msg.head]
theorem Msg.head_len {m : Msg} : m.head.length ≤ 9 := by
  unfold Msg.head Msg.num
  split <;> simp [be_length]
theorem counts_body (k : Int) : ((kbody k).isNames || ((kbody k).isBlocks && !(kbody k).one)) = ((bearsR k).2.2 == 2 || (bearsR k).2.2 == 4) := by
  by_cases h : 1 ≤ k ∧ k ≤ 11
  · rcases k11 h with rfl | rfl | rfl | rfl | rfl | rfl | rfl | rfl | rfl | rfl | rfl <;> rfl
  · rw [kbody_no h, bearsR_no h]; rfl
section
variable {w0 w : World} {As : List Asn} {iv bv u v : Value} {m : Msg} {l : List (Sl UInt8)}
theorem mBytes_spec (hr : MR w.heap m iv bv l) (hl : l.length ≤ 9223372036854775807) : cal P f_msg_Bytes [mq m iv bv] w fun r w' => ∃ s, r = .tuple #[s, .int .i64 m.chk] ∧ Sep w w' [ownB s m.out] := by
  refine s_msg_Bytes fun R hR => ?_
  unfold c_msg_Bytes
  refine bxA (Sep.start w) fun g w1 hs => ?_
  simp only [L_api_Msg hs.blk, L_api_Msg__Kind hs.blk, L_api_Msg__Req hs.blk, L_api_Msg__IDs hs.blk, L_api_Msg__Blocks hs.blk]
  refine cal_i (mCheck_spec (hs.mr hr) hl) ?_
  rintro _ w2 ⟨rfl, hf2⟩
  have hs2 := hs.old hf2
  by_cases hok : m.ok
  case neg =>
    have h0 : m.chk = 40 := by rw [Msg.chk, if_neg hok]
    have ho : m.out = [] := by rw [Msg.out, if_neg hok]
    rw [h0, ho] at hR
    simp only [h0, nilc_some, fad_mk, pik_true, pik_false, cnd_true, cnd_false, gif_same, gif_tf, gif_ft, gif_undef, bi_add, bi_sub, bi_mul, bi_eql, bi_neq, bi_lss, bi_leq, bi_gtr, bi_geq, notB_bool, cvi_int, lenS_mk, lenT_mk, ext0, ext1, ext2, nilP_mk, nilS_mk, fldv_agg, jn0_k, jn1_k, jn2_k, jn1_and, jn1_or, ex_some, Option.isNone_some, Option.isNone_none, Bool.false_bne, Bool.bne_true, Bool.bne_false, Bool.true_bne, Bool.not_true, Bool.not_false, Bool.and_true, Bool.true_and, Bool.and_false, Bool.false_and, Bool.or_true, Bool.true_or, Bool.or_false, Bool.false_or, cond_true, cond_false, List.getElem?_toArray, List.getElem?_cons_zero, List.getElem?_cons_succ, Nat.zero_add, Nat.add_zero, Nat.reduceAdd, forall_const, show ((40 : Int) != 0) = true from rfl]
    exact hR _ _ ⟨_, rfl, hs2.tail.nil⟩
  have h0 : m.chk = 0 := by rw [Msg.chk, if_pos hok]
  have ho : m.out = m.bytes := by rw [Msg.out, if_pos hok]
  have hk := Msg.kinds hok.1
  have hq := hok.2.1
  have hq2 := hok.2.2.1
  have hcs := Msg.ok_cases hok
  have hlen := Msg.bytes_len hok
  rw [Msg.bytes_eq, List.length_append, List.length_append, encI_len] at hlen
  rw [h0, ho] at hR
  simp only [h0, nilc_some, fad_mk, pik_true, pik_false, cnd_true, cnd_false, gif_same, gif_tf, gif_ft, gif_undef, bi_add, bi_sub, bi_mul, bi_eql, bi_neq, bi_lss, bi_leq, bi_gtr, bi_geq, notB_bool, cvi_int, lenS_mk, lenT_mk, ext0, ext1, ext2, nilP_mk, nilS_mk, fldv_agg, jn0_k, jn1_k, jn2_k, jn1_and, jn1_or, ex_some, Option.isNone_some, Option.isNone_none, Bool.false_bne, Bool.bne_true, Bool.bne_false, Bool.true_bne, Bool.not_true, Bool.not_false, Bool.and_true, Bool.true_and, Bool.and_false, Bool.false_and, Bool.or_true, Bool.true_or, Bool.or_false, Bool.false_or, cond_true, cond_false, List.getElem?_toArray, List.getElem?_cons_zero, List.getElem?_cons_succ, Nat.zero_add, Nat.add_zero, Nat.reduceAdd, forall_const, show ((0 : Int) != 0) = false from rfl]
  refine cal_i (NewS 4009 (by omega)) ?_
  rintro _ w3 ⟨gp, rfl, hs3⟩
  replace hs3 := hs2.join hs3
  simp only [nilc_some, fad_mk, pik_true, pik_false, cnd_true, cnd_false, gif_same, gif_tf, gif_ft, gif_undef, bi_add, bi_sub, bi_mul, bi_eql, bi_neq, bi_lss, bi_leq, bi_gtr, bi_geq, notB_bool, cvi_int, lenS_mk, lenT_mk, ext0, ext1, ext2, nilP_mk, nilS_mk, fldv_agg, jn0_k, jn1_k, jn2_k, jn1_and, jn1_or, ex_some, Option.isNone_some, Option.isNone_none, Bool.false_bne, Bool.bne_true, Bool.bne_false, Bool.true_bne, Bool.not_true, Bool.not_false, Bool.and_true, Bool.true_and, Bool.and_false, Bool.false_and, Bool.or_true, Bool.true_or, Bool.or_false, Bool.false_or, cond_true, cond_false, List.getElem?_toArray, List.getElem?_cons_zero, List.getElem?_cons_succ, Nat.zero_add, Nat.add_zero, Nat.reduceAdd, forall_const, L_api_Msg (Sep.p2 hs3).blk, L_api_Msg__Kind (Sep.p2 hs3).blk, L_api_Msg__Req (Sep.p2 hs3).blk, L_api_Msg__IDs (Sep.p2 hs3).blk, L_api_Msg__Blocks (Sep.p2 hs3).blk]
  have e1 : IntKind.u8.wrap m.k = (m.k.toNat : Int) := by rw [wu8i (by omega) (by omega)]; omega
  have e2 : IntKind.u32.wrap m.q = (m.q.toNat : Int) := by rw [wu32i (by omega) (by omega)]; omega
  rw [e1]
  refine cal_i (ByteS hs3 (by omega) (by omega) (by simp)) ?_
  rintro _ w4 ⟨rfl, s4, hs4⟩
  simp only [nilc_some, fad_mk, pik_true, pik_false, cnd_true, cnd_false, gif_same, gif_tf, gif_ft, gif_undef, bi_add, bi_sub, bi_mul, bi_eql, bi_neq, bi_lss, bi_leq, bi_gtr, bi_geq, notB_bool, cvi_int, lenS_mk, lenT_mk, ext0, ext1, ext2, nilP_mk, nilS_mk, fldv_agg, jn0_k, jn1_k, jn2_k, jn1_and, jn1_or, ex_some, Option.isNone_some, Option.isNone_none, Bool.false_bne, Bool.bne_true, Bool.bne_false, Bool.true_bne, Bool.not_true, Bool.not_false, Bool.and_true, Bool.true_and, Bool.and_false, Bool.false_and, Bool.or_true, Bool.true_or, Bool.or_false, Bool.false_or, cond_true, cond_false, List.getElem?_toArray, List.getElem?_cons_zero, List.getElem?_cons_succ, Nat.zero_add, Nat.add_zero, Nat.reduceAdd, forall_const, L_api_Msg (Sep.p2 hs4).blk, L_api_Msg__Kind (Sep.p2 hs4).blk, L_api_Msg__Req (Sep.p2 hs4).blk, L_api_Msg__IDs (Sep.p2 hs4).blk, L_api_Msg__Blocks (Sep.p2 hs4).blk, e2]
  refine cal_i (IntS hs4 (by omega) (by omega) (by simp [be_length])) ?_
  rintro _ w5 ⟨rfl, s5, hs5⟩
  replace hs5 : Sep w w5 (pk gp s5 4009 :: ownB s5 (be 1 m.k.toNat ++ be 4 m.q.toNat) :: [mb g m iv bv]) := hs5
  refine ⟨fun w' => ∃ s, Sep w w' (pk gp s 4009 :: ownB s m.head :: [mb g m iv bv]), ?_, ?_⟩
  · change ld1 _ _ _
    simp only [nilc_some, fad_mk, pik_true, pik_false, cnd_true, cnd_false, gif_same, gif_tf, gif_ft, gif_undef, bi_add, bi_sub, bi_mul, bi_eql, bi_neq, bi_lss, bi_leq, bi_gtr, bi_geq, notB_bool, cvi_int, lenS_mk, lenT_mk, ext0, ext1, ext2, nilP_mk, nilS_mk, fldv_agg, jn0_k, jn1_k, jn2_k, jn1_and, jn1_or, ex_some, Option.isNone_some, Option.isNone_none, Bool.false_bne, Bool.bne_true, Bool.bne_false, Bool.true_bne, Bool.not_true, Bool.not_false, Bool.and_true, Bool.true_and, Bool.and_false, Bool.false_and, Bool.or_true, Bool.true_or, Bool.or_false, Bool.false_or, cond_true, cond_false, List.getElem?_toArray, List.getElem?_cons_zero, List.getElem?_cons_succ, Nat.zero_add, Nat.add_zero, Nat.reduceAdd, forall_const, L_api_Msg (Sep.p2 hs5).blk, L_api_Msg__Kind (Sep.p2 hs5).blk, L_api_Msg__Req (Sep.p2 hs5).blk, L_api_Msg__IDs (Sep.p2 hs5).blk, L_api_Msg__Blocks (Sep.p2 hs5).blk]
    refine cal_i (bears_spec m.k) ?_
    rintro _ _ ⟨rfl, rfl⟩
    refine cal_i (counts_spec (kbody m.k)) ?_
    rintro _ w6 ⟨rfl, hf6⟩
    have hs6 := hs5.old hf6
    rw [counts_body]
    cases hcn : ((bearsR m.k).2.2 == 2 || (bearsR m.k).2.2 == 4) with
    | true =>
      have hi := (hs6.mr hr).ids.len
      have hb := (hs6.mr hr).bl
      have e3 : IntKind.u32.wrap (IntKind.i64.wrap ((m.ids.length : Int) + (m.bs.length : Int))) = ((m.ids.length + m.bs.length : Nat) : Int) := by
        rw [wi64 (by omega) (by omega), wu32i (by omega) (by omega)]; omega
      simp only [nilc_some, fad_mk, pik_true, pik_false, cnd_true, cnd_false, gif_same, gif_tf, gif_ft, gif_undef, bi_add, bi_sub, bi_mul, bi_eql, bi_neq, bi_lss, bi_leq, bi_gtr, bi_geq, notB_bool, cvi_int, lenS_mk, lenT_mk, ext0, ext1, ext2, nilP_mk, nilS_mk, fldv_agg, jn0_k, jn1_k, jn2_k, jn1_and, jn1_or, ex_some, Option.isNone_some, Option.isNone_none, Bool.false_bne, Bool.bne_true, Bool.bne_false, Bool.true_bne, Bool.not_true, Bool.not_false, Bool.and_true, Bool.true_and, Bool.and_false, Bool.false_and, Bool.or_true, Bool.true_or, Bool.or_false, Bool.false_or, cond_true, cond_false, List.getElem?_toArray, List.getElem?_cons_zero, List.getElem?_cons_succ, Nat.zero_add, Nat.add_zero, Nat.reduceAdd, forall_const, L_api_Msg (Sep.p2 hs6).blk, L_api_Msg__Kind (Sep.p2 hs6).blk, L_api_Msg__Req (Sep.p2 hs6).blk, L_api_Msg__IDs (Sep.p2 hs6).blk, L_api_Msg__Blocks (Sep.p2 hs6).blk, hi, hb, e3]
      refine cal_i (IntS hs6 (by omega) (by omega) (by simp [be_length])) ?_
      rintro _ w7 ⟨rfl, s7, hs7⟩
      refine ⟨s7, ?_⟩
      have : m.counts = true := hcn
      have e4 : m.head = be 1 m.k.toNat ++ be 4 m.q.toNat ++ be 4 (m.ids.length + m.bs.length) := by unfold Msg.head Msg.num; rw [if_pos this]
      rw [e4]
      exact hs7
    | false =>
      rw [cnd_false]
      have : m.counts = false := hcn
      have e4 : m.head = be 1 m.k.toNat ++ be 4 m.q.toNat := by unfold Msg.head Msg.num; rw [if_neg (by rw [this]; simp), List.append_nil]
      exact ⟨s5, by rw [e4]; exact hs6⟩
  · rintro w6 ⟨s6, hs6⟩ _
    have hi := (hs6.mr hr).ids.len
    simp only [nilc_some, fad_mk, pik_true, pik_false, cnd_true, cnd_false, gif_same, gif_tf, gif_ft, gif_undef, bi_add, bi_sub, bi_mul, bi_eql, bi_neq, bi_lss, bi_leq, bi_gtr, bi_geq, notB_bool, cvi_int, lenS_mk, lenT_mk, ext0, ext1, ext2, nilP_mk, nilS_mk, fldv_agg, jn0_k, jn1_k, jn2_k, jn1_and, jn1_or, ex_some, Option.isNone_some, Option.isNone_none, Bool.false_bne, Bool.bne_true, Bool.bne_false, Bool.true_bne, Bool.not_true, Bool.not_false, Bool.and_true, Bool.true_and, Bool.and_false, Bool.false_and, Bool.or_true, Bool.true_or, Bool.or_false, Bool.false_or, cond_true, cond_false, List.getElem?_toArray, List.getElem?_cons_zero, List.getElem?_cons_succ, Nat.zero_add, Nat.add_zero, Nat.reduceAdd, forall_const, L_api_Msg (Sep.p2 hs6).blk, L_api_Msg__Kind (Sep.p2 hs6).blk, L_api_Msg__Req (Sep.p2 hs6).blk, L_api_Msg__IDs (Sep.p2 hs6).blk, L_api_Msg__Blocks (Sep.p2 hs6).blk, hi]
    refine ⟨fun x w' => ∃ (i : Nat) (s : Value), x = .int .i64 i ∧ i ≤ m.ids.length ∧ Sep w w' (pk gp s 4009 :: ownB s (m.head ++ encI (m.ids.take i)) :: [mb g m iv bv]), fun x _ => (m.ids.length - RowKit.intOf x).toNat, ⟨0, s6, rfl, by omega, by simpa [encI] using hs6⟩, ?_⟩
    rintro _ w7 ⟨i, s7, rfl, hii, hs7⟩ -
    simp only [nilc_some, fad_mk, pik_true, pik_false, cnd_true, cnd_false, gif_same, gif_tf, gif_ft, gif_undef, bi_add, bi_sub, bi_mul, bi_eql, bi_neq, bi_lss, bi_leq, bi_gtr, bi_geq, notB_bool, cvi_int, lenS_mk, lenT_mk, ext0, ext1, ext2, nilP_mk, nilS_mk, fldv_agg, jn0_k, jn1_k, jn2_k, jn1_and, jn1_or, ex_some, Option.isNone_some, Option.isNone_none, Bool.false_bne, Bool.bne_true, Bool.bne_false, Bool.true_bne, Bool.not_true, Bool.not_false, Bool.and_true, Bool.true_and, Bool.and_false, Bool.false_and, Bool.or_true, Bool.true_or, Bool.or_false, Bool.false_or, cond_true, cond_false, List.getElem?_toArray, List.getElem?_cons_zero, List.getElem?_cons_succ, Nat.zero_add, Nat.add_zero, Nat.reduceAdd, forall_const]
    rw [cnd_bool]
    refine ⟨fun h => ?_, fun h => ?_⟩
    · have hlt : i < m.ids.length := by simp at h; omega
      have hx := List.getElem?_eq_getElem hlt
      generalize m.ids[i] = x at hx
      refine Rows'.ldN (q := rVec 32) (by decide) (hs7.mr hr).ids hx .i64 ?_
      refine alloc_s hs7 (A_api_ID w7) fun g8 w8 hs8 => ?_
      refine St_api_ID hs8 fun w9 hs9 => ?_
      rw [sla_all]
      have hil := encI_len (m.ids.take i)
      rw [List.length_take, Nat.min_eq_left (by omega)] at hil
      refine cal_i (FixedS (c := x.1) (hs9.pick [1, 2, 0] 3) (by omega) (fun z hz => rd_vec hz) (by rw [List.length_append, hil, x.2]; omega)) ?_
      rintro _ w10 ⟨rfl, s10, hs10⟩
      rw [wi64 (by omega) (by omega)]
      refine ⟨⟨i + 1, s10, by simp, by omega, ?_⟩, by simp [RowKit.intOf]; omega⟩
      rw [encI_take hx, ← List.append_assoc]
      exact hs10.d2
    · have hge : i = m.ids.length := by simp at h; omega
      subst hge
      rw [List.take_length] at hs7
      have hb := (hs7.mr hr).bs.len
      have hbl : m.bs.length = l.length := by rw [hr.eq, List.length_map]
      simp only [nilc_some, fad_mk, pik_true, pik_false, cnd_true, cnd_false, gif_same, gif_tf, gif_ft, gif_undef, bi_add, bi_sub, bi_mul, bi_eql, bi_neq, bi_lss, bi_leq, bi_gtr, bi_geq, notB_bool, cvi_int, lenS_mk, lenT_mk, ext0, ext1, ext2, nilP_mk, nilS_mk, fldv_agg, jn0_k, jn1_k, jn2_k, jn1_and, jn1_or, ex_some, Option.isNone_some, Option.isNone_none, Bool.false_bne, Bool.bne_true, Bool.bne_false, Bool.true_bne, Bool.not_true, Bool.not_false, Bool.and_true, Bool.true_and, Bool.and_false, Bool.false_and, Bool.or_true, Bool.true_or, Bool.or_false, Bool.false_or, cond_true, cond_false, List.getElem?_toArray, List.getElem?_cons_zero, List.getElem?_cons_succ, Nat.zero_add, Nat.add_zero, Nat.reduceAdd, forall_const, L_api_Msg (Sep.p2 hs7).blk, L_api_Msg__Kind (Sep.p2 hs7).blk, L_api_Msg__Req (Sep.p2 hs7).blk, L_api_Msg__IDs (Sep.p2 hs7).blk, L_api_Msg__Blocks (Sep.p2 hs7).blk, hb]
      refine ⟨fun x w' => ∃ (i : Nat) (s : Value), x = .int .i64 i ∧ i ≤ l.length ∧ Sep w w' (pk gp s 4009 :: ownB s (m.head ++ encI m.ids ++ encB (m.bs.take i)) :: [mb g m iv bv]), fun x _ => (l.length - RowKit.intOf x).toNat, ⟨0, s7, rfl, by omega, by simpa [encB] using hs7⟩, ?_⟩
      rintro _ w8 ⟨i, s8, rfl, hii, hs8⟩ -
      simp only [nilc_some, fad_mk, pik_true, pik_false, cnd_true, cnd_false, gif_same, gif_tf, gif_ft, gif_undef, bi_add, bi_sub, bi_mul, bi_eql, bi_neq, bi_lss, bi_leq, bi_gtr, bi_geq, notB_bool, cvi_int, lenS_mk, lenT_mk, ext0, ext1, ext2, nilP_mk, nilS_mk, fldv_agg, jn0_k, jn1_k, jn2_k, jn1_and, jn1_or, ex_some, Option.isNone_some, Option.isNone_none, Bool.false_bne, Bool.bne_true, Bool.bne_false, Bool.true_bne, Bool.not_true, Bool.not_false, Bool.and_true, Bool.true_and, Bool.and_false, Bool.false_and, Bool.or_true, Bool.true_or, Bool.or_false, Bool.false_or, cond_true, cond_false, List.getElem?_toArray, List.getElem?_cons_zero, List.getElem?_cons_succ, Nat.zero_add, Nat.add_zero, Nat.reduceAdd, forall_const]
      rw [cnd_bool]
      refine ⟨fun h => ?_, fun h => ?_⟩
      · have hlt : i < l.length := by simp at h; omega
        have hx := List.getElem?_eq_getElem hlt
        generalize l[i] = x at hx
        have hxm : m.bs[i]? = some x.l := by rw [hr.eq, List.getElem?_map, hx]; rfl
        have h1 := encB_take_le m.bs (i + 1)
        have hxl := hok.2.2.2.2 x.l (List.mem_of_getElem? hxm)
        rw [encB_take hxm, List.length_append, List.length_append, be_length] at h1
        refine (hs8.mr hr).bs.ld hx .i64 ?_
        refine cal_i (BytesS (c := x.l) hs8 (by omega) (fun z hz => (hz.mr hr).bs.2 x (List.mem_of_getElem? hx)) (by simp only [List.length_append, encI_len]; omega)) ?_
        rintro _ w9 ⟨rfl, s9, hs9⟩
        rw [wi64 (by omega) (by omega)]
        refine ⟨⟨i + 1, s9, by simp, by omega, ?_⟩, by simp [RowKit.intOf]; omega⟩
        rw [encB_take hxm, ← List.append_assoc]
        exact hs9
      · have hge : i = l.length := by simp at h; omega
        subst hge
        rw [List.take_of_length_le (by omega), ← Msg.bytes_eq] at hs8
        have hbl' := Msg.bytes_len hok
        refine cal_i (OutS hs8 (by omega)) ?_
        rintro _ w9 ⟨r, rfl, hs9⟩
        simp only [nilc_some, fad_mk, pik_true, pik_false, cnd_true, cnd_false, gif_same, gif_tf, gif_ft, gif_undef, bi_add, bi_sub, bi_mul, bi_eql, bi_neq, bi_lss, bi_leq, bi_gtr, bi_geq, notB_bool, cvi_int, lenS_mk, lenT_mk, ext0, ext1, ext2, nilP_mk, nilS_mk, fldv_agg, jn0_k, jn1_k, jn2_k, jn1_and, jn1_or, ex_some, Option.isNone_some, Option.isNone_none, Bool.false_bne, Bool.bne_true, Bool.bne_false, Bool.true_bne, Bool.not_true, Bool.not_false, Bool.and_true, Bool.true_and, Bool.and_false, Bool.false_and, Bool.or_true, Bool.true_or, Bool.or_false, Bool.false_or, cond_true, cond_false, List.getElem?_toArray, List.getElem?_cons_zero, List.getElem?_cons_succ, Nat.zero_add, Nat.add_zero, Nat.reduceAdd, forall_const]
        exact hR _ _ ⟨r, rfl, hs9.d1.d1.d1⟩
theorem Size_spec (hr : MR w.heap m iv bv l) (hl : l.length ≤ 9223372036854775807) : cal P f_msg_Size [mq m iv bv] w fun r w' => r = .int .i64 m.out.length ∧ Fr [] w w' := by
  refine s_msg_Size fun R hR => ?_
  unfold c_msg_Size
  refine bxA (Sep.start w) fun g w1 hs => ?_
  simp only [L_api_Msg hs.blk, L_api_Msg__Kind hs.blk, L_api_Msg__Req hs.blk, L_api_Msg__IDs hs.blk, L_api_Msg__Blocks hs.blk]
  refine cal_i (mBytes_spec (hs.mr hr) hl) ?_
  rintro _ w2 ⟨s, rfl, hs2⟩
  have hs3 := hs.join hs2
  simp only [nilc_some, fad_mk, pik_true, pik_false, cnd_true, cnd_false, gif_same, gif_tf, gif_ft, gif_undef, bi_add, bi_sub, bi_mul, bi_eql, bi_neq, bi_lss, bi_leq, bi_gtr, bi_geq, notB_bool, cvi_int, lenS_mk, lenT_mk, ext0, ext1, ext2, nilP_mk, nilS_mk, fldv_agg, jn0_k, jn1_k, jn2_k, jn1_and, jn1_or, ex_some, Option.isNone_some, Option.isNone_none, Bool.false_bne, Bool.bne_true, Bool.bne_false, Bool.true_bne, Bool.not_true, Bool.not_false, Bool.and_true, Bool.true_and, Bool.and_false, Bool.false_and, Bool.or_true, Bool.true_or, Bool.or_false, Bool.false_or, cond_true, cond_false, List.getElem?_toArray, List.getElem?_cons_zero, List.getElem?_cons_succ, Nat.zero_add, Nat.add_zero, Nat.reduceAdd, forall_const, (Sep.rd hs3).len]
  exact hR _ _ ⟨rfl, hs3.fr0⟩
end
end Go.Fx
