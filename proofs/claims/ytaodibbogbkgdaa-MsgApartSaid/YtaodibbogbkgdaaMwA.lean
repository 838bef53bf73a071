/-
  MsgApart, walked.
-/
import Derived.Test.YtaodibbogbkgdaaMwB
set_option linter.unusedVariables false
set_option linter.unusedSimpArgs false
namespace Go.Fx
theorem bytes_eq_iff {m n : Msg} (hm : m.ok) (hn : n.ok) : (m.bytes == n.bytes) = decide (m = n) := by
  by_cases h : m = n
  · subst h; simp
  · rw [decide_eq_false h]
    refine beq_eq_false_iff_ne.2 fun hb => h ?_
    exact (Msg.bytes_inj (r := []) (s := []) hm hn (by rw [hb])).1
theorem parse_tail {m n : Msg} {d : List UInt8} {e : Int} (hm : m.ok) (hp : IsParse (m.bytes ++ d) n e) : (e == 0) = ((d.length : Int) == 0) := by
  rcases hp with ⟨rfl, hn, hb⟩ | ⟨rfl, _, hno⟩
  · have := (Msg.bytes_inj (r := []) (s := d) hn hm (by rw [List.append_nil]; exact hb)).2
    rw [← this]
    rfl
  · cases d with
    | nil => exact absurd (List.append_nil _).symm (hno m hm)
    | cons a d => simp; omega
theorem parse_short {m n : Msg} {k : Nat} {e : Int} (hm : m.ok) (hk : k < m.bytes.length) (hp : IsParse (m.bytes.take k) n e) : e = 40 := by
  rcases hp with ⟨_, hn, hb⟩ | ⟨rfl, _⟩
  · have h := (Msg.bytes_inj (r := m.bytes.drop k) (s := []) hn hm (by rw [hb, List.take_append_drop, List.append_nil])).2
    have := congrArg List.length h
    simp at this
    omega
  · rfl
theorem wApart4 {w : World} {x y : Int × Int × Sl (Vec 32) × Sl (Sl UInt8)} {v : Value} {d : List UInt8} {c : Nat} (hx : Rdr.ok R_api_Msg w.heap x) (hy : Rdr.ok R_api_Msg w.heap y) (hl : rBytes.ok w.heap ⟨v, d⟩) (hc : c < 65536) :
    cal P f_law04_MsgApart [.agg (Rdr.cells R_api_Msg x).toArray, .agg (Rdr.cells R_api_Msg y).toArray, v, .int .u16 c] w fun r w' => r = .bool true ∧ Fr [] w w' := by
  obtain ⟨m, iv, bv, l, e, ha⟩ := msg_arg hx
  obtain ⟨n, iv', bv', l', e', ha'⟩ := msg_arg hy
  rw [e, e']
  have hrd : RdB w.heap v d := hl.1
  have hll : d.length ≤ 9223372036854775807 := hl.2.1
  clear hl hx hy e e'
  refine s_law04_MsgApart fun R hR => ?_
  unfold c_law04_MsgApart
  refine bxA (Sep.start w) fun g w1 hs1 => ?_
  refine bxA hs1 fun g' w2 hs2 => ?_
  have lv : ∀ {z : World}, Fr [] w z → cal P f_law04_begun [] z R := fun {z} hf => cal_i (begun_spec z) fun r w' hr => hR _ _ ⟨hr.1, hf.trans hr.2 (by simp) (by simp)⟩
  refine cal_i (begun_spec _) ?_
  rintro _ w3 ⟨rfl, hf3⟩
  have hs3 := hs2.old hf3
  simp only [nilc_some, fad_mk, pik_true, pik_false, cnd_true, cnd_false, gif_same, gif_tf, gif_ft, gif_undef, bi_add, bi_sub, bi_mul, bi_eql, bi_neq, bi_lss, bi_leq, bi_gtr, bi_geq, notB_bool, cvi_int, lenS_mk, lenT_mk, ext0, ext1, ext2, nilP_mk, nilS_mk, fldv_agg, jn0_k, jn1_k, jn2_k, jn1_and, jn1_or, ex_some, Option.isNone_some, Option.isNone_none, Bool.false_bne, Bool.bne_true, Bool.bne_false, Bool.true_bne, Bool.not_true, Bool.not_false, Bool.and_true, Bool.true_and, Bool.and_false, Bool.false_and, Bool.or_true, Bool.true_or, Bool.or_false, Bool.false_or, cond_true, cond_false, List.getElem?_toArray, List.getElem?_cons_zero, List.getElem?_cons_succ, Nat.zero_add, Nat.add_zero, Nat.reduceAdd, forall_const, L_api_Msg hs3.p1.blk, L_api_Msg__Kind hs3.p1.blk, L_api_Msg__Req hs3.p1.blk, L_api_Msg__IDs hs3.p1.blk, L_api_Msg__Blocks hs3.p1.blk]
  refine jn1_dup ?_
  refine cal_i (few_spec (hs3.mr ha.mr) ha.bl) ?_
  rintro _ w4 ⟨hf4, t, rfl, ht⟩
  have hs4 := hs3.old hf4
  cases t with
  | false =>
    simp only [nilc_some, fad_mk, pik_true, pik_false, cnd_true, cnd_false, gif_same, gif_tf, gif_ft, gif_undef, bi_add, bi_sub, bi_mul, bi_eql, bi_neq, bi_lss, bi_leq, bi_gtr, bi_geq, notB_bool, cvi_int, lenS_mk, lenT_mk, ext0, ext1, ext2, nilP_mk, nilS_mk, fldv_agg, jn0_k, jn1_k, jn2_k, jn1_and, jn1_or, ex_some, Option.isNone_some, Option.isNone_none, Bool.false_bne, Bool.bne_true, Bool.bne_false, Bool.true_bne, Bool.not_true, Bool.not_false, Bool.and_true, Bool.true_and, Bool.and_false, Bool.false_and, Bool.or_true, Bool.true_or, Bool.or_false, Bool.false_or, cond_true, cond_false, List.getElem?_toArray, List.getElem?_cons_zero, List.getElem?_cons_succ, Nat.zero_add, Nat.add_zero, Nat.reduceAdd, forall_const]
    exact lv hs4.fr0
  | true =>
    simp only [nilc_some, fad_mk, pik_true, pik_false, cnd_true, cnd_false, gif_same, gif_tf, gif_ft, gif_undef, bi_add, bi_sub, bi_mul, bi_eql, bi_neq, bi_lss, bi_leq, bi_gtr, bi_geq, notB_bool, cvi_int, lenS_mk, lenT_mk, ext0, ext1, ext2, nilP_mk, nilS_mk, fldv_agg, jn0_k, jn1_k, jn2_k, jn1_and, jn1_or, ex_some, Option.isNone_some, Option.isNone_none, Bool.false_bne, Bool.bne_true, Bool.bne_false, Bool.true_bne, Bool.not_true, Bool.not_false, Bool.and_true, Bool.true_and, Bool.and_false, Bool.false_and, Bool.or_true, Bool.true_or, Bool.or_false, Bool.false_or, cond_true, cond_false, List.getElem?_toArray, List.getElem?_cons_zero, List.getElem?_cons_succ, Nat.zero_add, Nat.add_zero, Nat.reduceAdd, forall_const, L_api_Msg hs4.blk, L_api_Msg__Kind hs4.blk, L_api_Msg__Req hs4.blk, L_api_Msg__IDs hs4.blk, L_api_Msg__Blocks hs4.blk]
    refine jn1_dup ?_
    refine cal_i (few_spec (hs4.mr ha'.mr) ha'.bl) ?_
    rintro _ w5 ⟨hf5, t, rfl, ht'⟩
    have hs5 := hs4.old hf5
    cases t with
    | false =>
      simp only [nilc_some, fad_mk, pik_true, pik_false, cnd_true, cnd_false, gif_same, gif_tf, gif_ft, gif_undef, bi_add, bi_sub, bi_mul, bi_eql, bi_neq, bi_lss, bi_leq, bi_gtr, bi_geq, notB_bool, cvi_int, lenS_mk, lenT_mk, ext0, ext1, ext2, nilP_mk, nilS_mk, fldv_agg, jn0_k, jn1_k, jn2_k, jn1_and, jn1_or, ex_some, Option.isNone_some, Option.isNone_none, Bool.false_bne, Bool.bne_true, Bool.bne_false, Bool.true_bne, Bool.not_true, Bool.not_false, Bool.and_true, Bool.true_and, Bool.and_false, Bool.false_and, Bool.or_true, Bool.true_or, Bool.or_false, Bool.false_or, cond_true, cond_false, List.getElem?_toArray, List.getElem?_cons_zero, List.getElem?_cons_succ, Nat.zero_add, Nat.add_zero, Nat.reduceAdd, forall_const]
      exact lv hs5.fr0
    | true =>
      simp only [nilc_some, fad_mk, pik_true, pik_false, cnd_true, cnd_false, gif_same, gif_tf, gif_ft, gif_undef, bi_add, bi_sub, bi_mul, bi_eql, bi_neq, bi_lss, bi_leq, bi_gtr, bi_geq, notB_bool, cvi_int, lenS_mk, lenT_mk, ext0, ext1, ext2, nilP_mk, nilS_mk, fldv_agg, jn0_k, jn1_k, jn2_k, jn1_and, jn1_or, ex_some, Option.isNone_some, Option.isNone_none, Bool.false_bne, Bool.bne_true, Bool.bne_false, Bool.true_bne, Bool.not_true, Bool.not_false, Bool.and_true, Bool.true_and, Bool.and_false, Bool.false_and, Bool.or_true, Bool.true_or, Bool.or_false, Bool.false_or, cond_true, cond_false, List.getElem?_toArray, List.getElem?_cons_zero, List.getElem?_cons_succ, Nat.zero_add, Nat.add_zero, Nat.reduceAdd, forall_const, hrd.len]
      rw [cnd_bool]
      refine ⟨fun h => lv hs5.fr0, fun h => ?_⟩
      have hl3 : d.length ≤ 1000 := by simp at h; omega
      simp only [nilc_some, fad_mk, pik_true, pik_false, cnd_true, cnd_false, gif_same, gif_tf, gif_ft, gif_undef, bi_add, bi_sub, bi_mul, bi_eql, bi_neq, bi_lss, bi_leq, bi_gtr, bi_geq, notB_bool, cvi_int, lenS_mk, lenT_mk, ext0, ext1, ext2, nilP_mk, nilS_mk, fldv_agg, jn0_k, jn1_k, jn2_k, jn1_and, jn1_or, ex_some, Option.isNone_some, Option.isNone_none, Bool.false_bne, Bool.bne_true, Bool.bne_false, Bool.true_bne, Bool.not_true, Bool.not_false, Bool.and_true, Bool.true_and, Bool.and_false, Bool.false_and, Bool.or_true, Bool.true_or, Bool.or_false, Bool.false_or, cond_true, cond_false, List.getElem?_toArray, List.getElem?_cons_zero, List.getElem?_cons_succ, Nat.zero_add, Nat.add_zero, Nat.reduceAdd, forall_const, L_api_Msg hs5.p1.blk, L_api_Msg__Kind hs5.p1.blk, L_api_Msg__Req hs5.p1.blk, L_api_Msg__IDs hs5.p1.blk, L_api_Msg__Blocks hs5.p1.blk]
      refine cal_i (mBytes_spec (hs5.mr ha.mr) ha.bl) ?_
      rintro _ w6 ⟨s6, rfl, hs6⟩
      replace hs6 := hs5.join hs6
      simp only [nilc_some, fad_mk, pik_true, pik_false, cnd_true, cnd_false, gif_same, gif_tf, gif_ft, gif_undef, bi_add, bi_sub, bi_mul, bi_eql, bi_neq, bi_lss, bi_leq, bi_gtr, bi_geq, notB_bool, cvi_int, lenS_mk, lenT_mk, ext0, ext1, ext2, nilP_mk, nilS_mk, fldv_agg, jn0_k, jn1_k, jn2_k, jn1_and, jn1_or, ex_some, Option.isNone_some, Option.isNone_none, Bool.false_bne, Bool.bne_true, Bool.bne_false, Bool.true_bne, Bool.not_true, Bool.not_false, Bool.and_true, Bool.true_and, Bool.and_false, Bool.false_and, Bool.or_true, Bool.true_or, Bool.or_false, Bool.false_or, cond_true, cond_false, List.getElem?_toArray, List.getElem?_cons_zero, List.getElem?_cons_succ, Nat.zero_add, Nat.add_zero, Nat.reduceAdd, forall_const, L_api_Msg (Sep.p1 hs6).blk, L_api_Msg__Kind (Sep.p1 hs6).blk, L_api_Msg__Req (Sep.p1 hs6).blk, L_api_Msg__IDs (Sep.p1 hs6).blk, L_api_Msg__Blocks (Sep.p1 hs6).blk]
      refine cal_i (mBytes_spec (hs6.mr ha'.mr) ha'.bl) ?_
      rintro _ w7 ⟨s7, rfl, hs7⟩
      replace hs7 := hs6.join hs7
      simp only [nilc_some, fad_mk, pik_true, pik_false, cnd_true, cnd_false, gif_same, gif_tf, gif_ft, gif_undef, bi_add, bi_sub, bi_mul, bi_eql, bi_neq, bi_lss, bi_leq, bi_gtr, bi_geq, notB_bool, cvi_int, lenS_mk, lenT_mk, ext0, ext1, ext2, nilP_mk, nilS_mk, fldv_agg, jn0_k, jn1_k, jn2_k, jn1_and, jn1_or, ex_some, Option.isNone_some, Option.isNone_none, Bool.false_bne, Bool.bne_true, Bool.bne_false, Bool.true_bne, Bool.not_true, Bool.not_false, Bool.and_true, Bool.true_and, Bool.and_false, Bool.false_and, Bool.or_true, Bool.true_or, Bool.or_false, Bool.false_or, cond_true, cond_false, List.getElem?_toArray, List.getElem?_cons_zero, List.getElem?_cons_succ, Nat.zero_add, Nat.add_zero, Nat.reduceAdd, forall_const]
      rcases m.chk_or with h0 | h0
      case inr =>
        rw [h0]
        simp only [nilc_some, fad_mk, pik_true, pik_false, cnd_true, cnd_false, gif_same, gif_tf, gif_ft, gif_undef, bi_add, bi_sub, bi_mul, bi_eql, bi_neq, bi_lss, bi_leq, bi_gtr, bi_geq, notB_bool, cvi_int, lenS_mk, lenT_mk, ext0, ext1, ext2, nilP_mk, nilS_mk, fldv_agg, jn0_k, jn1_k, jn2_k, jn1_and, jn1_or, ex_some, Option.isNone_some, Option.isNone_none, Bool.false_bne, Bool.bne_true, Bool.bne_false, Bool.true_bne, Bool.not_true, Bool.not_false, Bool.and_true, Bool.true_and, Bool.and_false, Bool.false_and, Bool.or_true, Bool.true_or, Bool.or_false, Bool.false_or, cond_true, cond_false, List.getElem?_toArray, List.getElem?_cons_zero, List.getElem?_cons_succ, Nat.zero_add, Nat.add_zero, Nat.reduceAdd, forall_const, show ((40 : Int) != 0) = true from rfl]
        exact hR _ _ ⟨rfl, hs7.fr0⟩
      rcases n.chk_or with h0' | h0'
      case inr =>
        rw [h0, h0']
        simp only [nilc_some, fad_mk, pik_true, pik_false, cnd_true, cnd_false, gif_same, gif_tf, gif_ft, gif_undef, bi_add, bi_sub, bi_mul, bi_eql, bi_neq, bi_lss, bi_leq, bi_gtr, bi_geq, notB_bool, cvi_int, lenS_mk, lenT_mk, ext0, ext1, ext2, nilP_mk, nilS_mk, fldv_agg, jn0_k, jn1_k, jn2_k, jn1_and, jn1_or, ex_some, Option.isNone_some, Option.isNone_none, Bool.false_bne, Bool.bne_true, Bool.bne_false, Bool.true_bne, Bool.not_true, Bool.not_false, Bool.and_true, Bool.true_and, Bool.and_false, Bool.false_and, Bool.or_true, Bool.true_or, Bool.or_false, Bool.false_or, cond_true, cond_false, List.getElem?_toArray, List.getElem?_cons_zero, List.getElem?_cons_succ, Nat.zero_add, Nat.add_zero, Nat.reduceAdd, forall_const, show ((40 : Int) != 0) = true from rfl, show ((0 : Int) != 0) = false from rfl]
        exact hR _ _ ⟨rfl, hs7.fr0⟩
      have hok := Msg.chk_ok.1 h0
      have hok' := Msg.chk_ok.1 h0'
      have eo : m.out = m.bytes := if_pos hok
      have eo' : n.out = n.bytes := if_pos hok'
      rw [eo, eo'] at hs7
      rw [h0, h0']
      have hml := Msg.bytes_len hok
      have hmg := Msg.bytes_ge m
      simp only [nilc_some, fad_mk, pik_true, pik_false, cnd_true, cnd_false, gif_same, gif_tf, gif_ft, gif_undef, bi_add, bi_sub, bi_mul, bi_eql, bi_neq, bi_lss, bi_leq, bi_gtr, bi_geq, notB_bool, cvi_int, lenS_mk, lenT_mk, ext0, ext1, ext2, nilP_mk, nilS_mk, fldv_agg, jn0_k, jn1_k, jn2_k, jn1_and, jn1_or, ex_some, Option.isNone_some, Option.isNone_none, Bool.false_bne, Bool.bne_true, Bool.bne_false, Bool.true_bne, Bool.not_true, Bool.not_false, Bool.and_true, Bool.true_and, Bool.and_false, Bool.false_and, Bool.or_true, Bool.true_or, Bool.or_false, Bool.false_or, cond_true, cond_false, List.getElem?_toArray, List.getElem?_cons_zero, List.getElem?_cons_succ, Nat.zero_add, Nat.add_zero, Nat.reduceAdd, forall_const, show ((0 : Int) != 0) = false from rfl]
      replace hs7 : Sep w w7 [ownB s7 n.bytes, ownB s6 m.bytes, mb g' n iv' bv', mb g m iv bv] := hs7
      obtain ⟨As, hAs⟩ : ∃ As, As = [ownB s7 n.bytes, ownB s6 m.bytes, mb g' n iv' bv', mb g m iv bv] := ⟨_, rfl⟩
      have q : ∀ {z : World}, Sep w z As → z.heap[g]? = some (.cells (Rdr.cells Q_api_Msg (m.k, m.q, iv, bv)).toArray T_api_Msg (0, 0)) := fun {z} h => h.memB (by rw [hAs]; simp)
      have q' : ∀ {z : World}, Sep w z As → z.heap[g']? = some (.cells (Rdr.cells Q_api_Msg (n.k, n.q, iv', bv')).toArray T_api_Msg (0, 0)) := fun {z} h => h.memB (by rw [hAs]; simp)
      have r6 : ∀ {z : World}, Sep w z As → RdB z.heap s6 m.bytes := fun {z} h => Sep.rd (by rw [hAs] at h; exact h.p1)
      have r7 : ∀ {z : World}, Sep w z As → RdB z.heap s7 n.bytes := fun {z} h => Sep.rd (by rw [hAs] at h; exact h)
      rw [← hAs] at hs7
      refine drH_S hs7 fun w8 hs8 _ => ?_
      refine ⟨mq m iv bv, fun u hu => (L_api_Msg (q hu) _).mpr rfl, ?_⟩
      refine ⟨mq n iv' bv', fun u hu => (L_api_Msg (q' hu) _).mpr rfl, ?_⟩
      refine efS_i (cal_i (bEqual_spec (r6 hs8) (r7 hs8)) ?_)
      rintro _ w9 ⟨rfl, rfl⟩
      refine ⟨hs8, ?_⟩
      refine efC_calA (w0 := w) (As := As) (cal_i (mSame_spec (hs8.mr ha.mr) (hs8.mr ha'.mr) ha.bl ha.ids) ?_)
      rintro _ w10 ⟨rfl, hf10⟩
      have hs10 := hs8.old hf10
      refine ⟨hs10, ⟨_, fun u _ => (neS_bool (m.bytes == n.bytes) (decide (m = n)) UT_bool _).mpr rfl, ?_⟩⟩
      rw [bytes_eq_iff hok hok', bne_self_eq_false]
      simp only [nilc_some, fad_mk, pik_true, pik_false, cnd_true, cnd_false, gif_same, gif_tf, gif_ft, gif_undef, bi_add, bi_sub, bi_mul, bi_eql, bi_neq, bi_lss, bi_leq, bi_gtr, bi_geq, notB_bool, cvi_int, lenS_mk, lenT_mk, ext0, ext1, ext2, nilP_mk, nilS_mk, fldv_agg, jn0_k, jn1_k, jn2_k, jn1_and, jn1_or, ex_some, Option.isNone_some, Option.isNone_none, Bool.false_bne, Bool.bne_true, Bool.bne_false, Bool.true_bne, Bool.not_true, Bool.not_false, Bool.and_true, Bool.true_and, Bool.and_false, Bool.false_and, Bool.or_true, Bool.true_or, Bool.or_false, Bool.false_or, cond_true, cond_false, List.getElem?_toArray, List.getElem?_cons_zero, List.getElem?_cons_succ, Nat.zero_add, Nat.add_zero, Nat.reduceAdd, forall_const]
      refine cal_i (bClone_spec (r6 hs10) (by omega)) ?_
      rintro s11 w11 hs11
      replace hs11 := hs10.join hs11
      refine appB_s S_sl_uint8 U_sl_uint8 (by simp) hs11 (hs11.rdB hrd) (by omega) fun s12 w12 hs12 => ?_
      refine cal_i (mParse_spec (Sep.rd hs12) (by simp; omega)) ?_
      rintro _ w13 ⟨m1, e1, iv1, bv1, L1, rfl, hp1, hL1, hs13⟩
      have hs14 := hs12.tail.old hs13.fr0
      have r14 := r6 hs14
      obtain ⟨a6, c6, rfl⟩ := r14.form
      have hk : c % m.bytes.length < m.bytes.length := Nat.mod_lt _ (by omega)
      have ek : Int.tmod (IntKind.i64.wrap (c : Int)) (m.bytes.length : Int) = ((c % m.bytes.length : Nat) : Int) := by rw [wi64 (by omega) (by omega)]; rfl
      simp only [nilc_some, fad_mk, pik_true, pik_false, cnd_true, cnd_false, gif_same, gif_tf, gif_ft, gif_undef, bi_add, bi_sub, bi_mul, bi_eql, bi_neq, bi_lss, bi_leq, bi_gtr, bi_geq, notB_bool, cvi_int, lenS_mk, lenT_mk, ext0, ext1, ext2, nilP_mk, nilS_mk, fldv_agg, jn0_k, jn1_k, jn2_k, jn1_and, jn1_or, ex_some, Option.isNone_some, Option.isNone_none, Bool.false_bne, Bool.bne_true, Bool.bne_false, Bool.true_bne, Bool.not_true, Bool.not_false, Bool.and_true, Bool.true_and, Bool.and_false, Bool.false_and, Bool.or_true, Bool.true_or, Bool.or_false, Bool.false_or, cond_true, cond_false, List.getElem?_toArray, List.getElem?_cons_zero, List.getElem?_cons_succ, Nat.zero_add, Nat.add_zero, Nat.reduceAdd, forall_const, r14.len]
      have hne : (m.bytes.length : Int) ≠ 0 := by omega
      rw [bi_rem .i64 _ _ _ hne, ek]
      obtain ⟨a', c', hv', hlc⟩ : ∃ a' c', Value.slice a6 m.bytes.length c6 = .slice a' m.bytes.length c' ∧ m.bytes.length ≤ c' := by
        have := hs14
        rw [hAs] at this
        exact Sep.form this.p1
      cases hv'
      rw [slc_to (by omega)]
      refine cal_i (mParse_spec (r14.take (k := c % m.bytes.length) (by omega) c6) (by simp; omega)) ?_
      rintro _ w15 ⟨m2, e2, iv2, bv2, L2, rfl, hp2, hL2, hs15⟩
      have hs16 := hs14.old hs15.fr0
      have he2 := parse_short hok hk hp2
      subst he2
      simp only [nilc_some, fad_mk, pik_true, pik_false, cnd_true, cnd_false, gif_same, gif_tf, gif_ft, gif_undef, bi_add, bi_sub, bi_mul, bi_eql, bi_neq, bi_lss, bi_leq, bi_gtr, bi_geq, notB_bool, cvi_int, lenS_mk, lenT_mk, ext0, ext1, ext2, nilP_mk, nilS_mk, fldv_agg, jn0_k, jn1_k, jn2_k, jn1_and, jn1_or, ex_some, Option.isNone_some, Option.isNone_none, Bool.false_bne, Bool.bne_true, Bool.bne_false, Bool.true_bne, Bool.not_true, Bool.not_false, Bool.and_true, Bool.true_and, Bool.and_false, Bool.false_and, Bool.or_true, Bool.true_or, Bool.or_false, Bool.false_or, cond_true, cond_false, List.getElem?_toArray, List.getElem?_cons_zero, List.getElem?_cons_succ, Nat.zero_add, Nat.add_zero, Nat.reduceAdd, forall_const, eqS_bool _ _ UT_bool, parse_tail hok hp1, beq_self_eq_true]
      exact hR _ _ ⟨rfl, hs16.fr0⟩
end Go.Fx
