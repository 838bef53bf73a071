/-
  What the statements about messages share: the example, and whether a message is small.
-/
import Derived.Test.YtaodibbogbkgdaaMgO
set_option linter.unusedVariables false
set_option linter.unusedSimpArgs false
namespace Go.Fx
/-- A message that is handed in. -/
structure MA (h : Heap) (m : Msg) (iv bv : Value) (l : List (Sl UInt8)) : Prop where
  mr : MR h m iv bv l
  ids : m.ids.length ≤ 9223372036854775807
  bl : l.length ≤ 9223372036854775807
  each : ∀ s ∈ l, s.l.length ≤ 9223372036854775807
theorem msg_arg {h : Heap} {x : Int × Int × Sl (Vec 32) × Sl (Sl UInt8)} (hx : Rdr.ok R_api_Msg h x) : ∃ m iv bv l, Value.agg (Rdr.cells R_api_Msg x).toArray = mq m iv bv ∧ MA h m iv bv l := by
  obtain ⟨h1, h2, h3, h4⟩ := hx
  exact ⟨⟨x.1, x.2.1, x.2.2.1.l, x.2.2.2.l.map (·.l)⟩, x.2.2.1.v, x.2.2.2.v, x.2.2.2.l, rfl, ⟨h3.1, BSl.of h4, rfl⟩, h3.2.1, h4.2.1, fun s hs => (h4.2.2.2 s hs).2.1⟩
/-- Few names, few blocks, and they are short. -/
def Few (m : Msg) (l : List (Sl UInt8)) : Prop := m.ids.length ≤ 100 ∧ l.length ≤ 40 ∧ ∀ s ∈ l, s.l.length ≤ 600
def m8 : Msg := ⟨8, 258, [], [[9]]⟩
section
variable {w0 w : World} {As : List Asn} {v iv bv : Value} {m : Msg} {l : List (Sl UInt8)}
theorem few_spec (hr : MR w.heap m iv bv l) (hl : l.length ≤ 9223372036854775807) : cal P f_law04_few [mq m iv bv] w fun r w' => Fr [] w w' ∧ ∃ t, r = .bool t ∧ (t = true → Few m l) := by
  refine s_law04_few fun R hR => ?_
  unfold c_law04_few
  refine bxA (Sep.start w) fun g w1 hs1 => ?_
  have hr1 := hs1.mr hr
  simp only [nilc_some, fad_mk, pik_true, pik_false, cnd_true, cnd_false, gif_same, gif_tf, gif_ft, gif_undef, bi_add, bi_sub, bi_mul, bi_eql, bi_neq, bi_lss, bi_leq, bi_gtr, bi_geq, notB_bool, cvi_int, lenS_mk, lenT_mk, ext0, ext1, ext2, nilP_mk, nilS_mk, fldv_agg, jn0_k, jn1_k, jn2_k, jn1_and, jn1_or, ex_some, Option.isNone_some, Option.isNone_none, Bool.false_bne, Bool.bne_true, Bool.bne_false, Bool.true_bne, Bool.not_true, Bool.not_false, Bool.and_true, Bool.true_and, Bool.and_false, Bool.false_and, Bool.or_true, Bool.true_or, Bool.or_false, Bool.false_or, cond_true, cond_false, List.getElem?_toArray, List.getElem?_cons_zero, List.getElem?_cons_succ, Nat.zero_add, Nat.add_zero, Nat.reduceAdd, forall_const, L_api_Msg hs1.blk, L_api_Msg__Kind hs1.blk, L_api_Msg__Req hs1.blk, L_api_Msg__IDs hs1.blk, L_api_Msg__Blocks hs1.blk, hr1.ids.len, hr1.bs.len]
  rw [cnd_bool]
  refine ⟨fun h => hR _ _ ⟨hs1.fr0, false, rfl, fun h => by cases h⟩, fun h => ?_⟩
  simp only [Bool.or_eq_false_iff, decide_eq_false_iff_not] at h
  refine ⟨fun y w' => ∃ i : Nat, y = .int .i64 i ∧ i ≤ l.length ∧ (∀ s ∈ l.take i, s.l.length ≤ 600) ∧ Sep w w' [mb g m iv bv], fun y _ => (l.length - RowKit.intOf y).toNat, ⟨0, rfl, by omega, by simp, hs1⟩, ?_⟩
  rintro _ w2 ⟨i, rfl, hi, hall, hs2⟩ -
  simp only [nilc_some, fad_mk, pik_true, pik_false, cnd_true, cnd_false, gif_same, gif_tf, gif_ft, gif_undef, bi_add, bi_sub, bi_mul, bi_eql, bi_neq, bi_lss, bi_leq, bi_gtr, bi_geq, notB_bool, cvi_int, lenS_mk, lenT_mk, ext0, ext1, ext2, nilP_mk, nilS_mk, fldv_agg, jn0_k, jn1_k, jn2_k, jn1_and, jn1_or, ex_some, Option.isNone_some, Option.isNone_none, Bool.false_bne, Bool.bne_true, Bool.bne_false, Bool.true_bne, Bool.not_true, Bool.not_false, Bool.and_true, Bool.true_and, Bool.and_false, Bool.false_and, Bool.or_true, Bool.true_or, Bool.or_false, Bool.false_or, cond_true, cond_false, List.getElem?_toArray, List.getElem?_cons_zero, List.getElem?_cons_succ, Nat.zero_add, Nat.add_zero, Nat.reduceAdd, forall_const]
  rw [cnd_bool]
  refine ⟨fun hlt => ?_, fun hlt => ?_⟩
  · have hlt : i < l.length := by simp at hlt; omega
    have hx := List.getElem?_eq_getElem hlt
    generalize l[i] = s at hx
    refine (hs2.mr hr).bs.ld hx .i64 ?_
    simp only [((hs2.mr hr).bs.2 s (List.mem_of_getElem? hx)).len, nilc_some, fad_mk, pik_true, pik_false, cnd_true, cnd_false, gif_same, gif_tf, gif_ft, gif_undef, bi_add, bi_sub, bi_mul, bi_eql, bi_neq, bi_lss, bi_leq, bi_gtr, bi_geq, notB_bool, cvi_int, lenS_mk, lenT_mk, ext0, ext1, ext2, nilP_mk, nilS_mk, fldv_agg, jn0_k, jn1_k, jn2_k, jn1_and, jn1_or, ex_some, Option.isNone_some, Option.isNone_none, Bool.false_bne, Bool.bne_true, Bool.bne_false, Bool.true_bne, Bool.not_true, Bool.not_false, Bool.and_true, Bool.true_and, Bool.and_false, Bool.false_and, Bool.or_true, Bool.true_or, Bool.or_false, Bool.false_or, cond_true, cond_false, List.getElem?_toArray, List.getElem?_cons_zero, List.getElem?_cons_succ, Nat.zero_add, Nat.add_zero, Nat.reduceAdd, forall_const]
    rw [cnd_bool]
    refine ⟨fun h6 => hR _ _ ⟨hs2.fr0, false, rfl, fun h => by cases h⟩, fun h6 => ?_⟩
    rw [wi64 (by omega) (by omega)]
    refine ⟨⟨i + 1, by simp, by omega, fun z hz => ?_, hs2⟩, by simp [RowKit.intOf]; omega⟩
    rw [List.take_add_one, hx] at hz
    rcases List.mem_append.1 hz with hz | hz
    · exact hall z hz
    · obtain rfl : z = s := by simpa using hz
      simp at h6
      omega
  · have hge : i = l.length := by simp at hlt; omega
    subst hge
    rw [List.take_length] at hall
    exact hR _ _ ⟨hs2.fr0, true, rfl, fun _ => ⟨by omega, by omega, hall⟩⟩
theorem m8_ok : m8.ok := by decide
theorem m8_bytes : m8.bytes = [8, 0, 0, 1, 2, 0, 0, 0, 1, 9] := by decide
theorem begun_spec (w : World) : cal P f_law04_begun [] w fun r w' => r = .bool true ∧ Fr [] w w' := by
  refine s_law04_begun fun R hR => ?_
  unfold c_law04_begun
  have h1 : ∀ w : World, (Instr.buildSlice T_sl_uint8 1 #[(0, .int .u8 9)]).run P w = .ok (.slice (some ⟨w.heap.size, 0, none⟩) 1 1) (w.alloc (.cells (bvs [9]).toArray T_uint8)) := fun w => by kernel_rfl
  refine buildB_s (l := [9]) (Sep.start w) rfl (h1 w) fun g1 w1 hs1 => ?_
  refine rows_build (q := qv) (l := [.slice (some ⟨g1, 0, none⟩) 1 1]) hs1 rfl (one_build w1 _ rfl) fun g2 w2 hs2 => ?_
  rw [B_api_Msg_0_1_3 rfl]
  refine alloc_s hs2 (A_api_Msg w2) fun g3 w3 hs3 => ?_
  refine St_api_Msg (b := (8, 258, .slice none 0 0, .slice (some ⟨g2, 0, none⟩) 1 1)) hs3 (one_api_Msg rfl rfl) fun w4 hs4 => ?_
  simp only [L_api_Msg hs4.blk, L_api_Msg__Kind hs4.blk, L_api_Msg__Req hs4.blk, L_api_Msg__IDs hs4.blk, L_api_Msg__Blocks hs4.blk]
  obtain ⟨v1, hv1⟩ : ∃ v1, v1 = Value.slice (some ⟨g1, 0, none⟩) 1 1 := ⟨_, rfl⟩
  obtain ⟨v2, hv2⟩ : ∃ v2, v2 = Value.slice (some ⟨g2, 0, none⟩) 1 1 := ⟨_, rfl⟩
  replace hs4 : Sep w w4 [blk g3 (Rdr.cells Q_api_Msg (m8.k, m8.q, Value.slice none 0 0, v2)).toArray T_api_Msg, rows qv v2 [v1], ownB v1 [9]] := by rw [hv1, hv2]; exact hs4
  rw [← hv2]
  clear hv1 hv2
  have rd8 : ∀ {z : World}, Sep w z [blk g3 (Rdr.cells Q_api_Msg (m8.k, m8.q, Value.slice none 0 0, v2)).toArray T_api_Msg, rows qv v2 [v1], ownB v1 [9]] → MR z.heap m8 (.slice none 0 0) v2 [⟨v1, [9]⟩] := fun {z} hf => by
    have h4 := hf.p1
    exact ⟨Sep.rows h4.nilR, ⟨Sep.rows h4, fun s hs => by
      obtain rfl : s = ⟨v1, [9]⟩ := by simpa using hs
      exact Sep.rd (l := [9]) h4.p2⟩, rfl⟩
  refine cal_i (mBytes_spec (m := m8) (rd8 hs4) (by simp)) ?_
  rintro _ w5 ⟨s5, rfl, hs5⟩
  replace hs5 := hs4.join hs5
  have e5 : m8.out = m8.bytes := if_pos m8_ok
  have c5 : m8.chk = 0 := Msg.chk_ok.2 m8_ok
  rw [e5] at hs5
  rw [c5]
  simp only [nilc_some, fad_mk, pik_true, pik_false, cnd_true, cnd_false, gif_same, gif_tf, gif_ft, gif_undef, bi_add, bi_sub, bi_mul, bi_eql, bi_neq, bi_lss, bi_leq, bi_gtr, bi_geq, notB_bool, cvi_int, lenS_mk, lenT_mk, ext0, ext1, ext2, nilP_mk, nilS_mk, fldv_agg, jn0_k, jn1_k, jn2_k, jn1_and, jn1_or, ex_some, Option.isNone_some, Option.isNone_none, Bool.false_bne, Bool.bne_true, Bool.bne_false, Bool.true_bne, Bool.not_true, Bool.not_false, Bool.and_true, Bool.true_and, Bool.and_false, Bool.false_and, Bool.or_true, Bool.true_or, Bool.or_false, Bool.false_or, cond_true, cond_false, List.getElem?_toArray, List.getElem?_cons_zero, List.getElem?_cons_succ, Nat.zero_add, Nat.add_zero, Nat.reduceAdd, forall_const]
  refine cal_i (mParse_spec hs5.rd (by rw [m8_bytes]; decide)) ?_
  rintro _ w6 ⟨m, e, iv, bv, L, rfl, hp, hL, hs6⟩
  obtain ⟨hm8, he8⟩ := IsParse.uniq (n := m8) (f := 0) hp (Or.inl ⟨rfl, m8_ok, rfl⟩)
  subst hm8
  subst he8
  replace hs6 : Sep w w6 (rows (rVec 32) iv m8.ids :: rows qv bv (L.map (·.v)) :: (L.map oB ++ [ownB s5 m8.bytes, blk g3 (Rdr.cells Q_api_Msg (m8.k, m8.q, Value.slice none 0 0, v2)).toArray T_api_Msg, rows qv v2 [v1], ownB v1 [9]])) := hs5.join hs6
  simp only [nilc_some, fad_mk, pik_true, pik_false, cnd_true, cnd_false, gif_same, gif_tf, gif_ft, gif_undef, bi_add, bi_sub, bi_mul, bi_eql, bi_neq, bi_lss, bi_leq, bi_gtr, bi_geq, notB_bool, cvi_int, lenS_mk, lenT_mk, ext0, ext1, ext2, nilP_mk, nilS_mk, fldv_agg, jn0_k, jn1_k, jn2_k, jn1_and, jn1_or, ex_some, Option.isNone_some, Option.isNone_none, Bool.false_bne, Bool.bne_true, Bool.bne_false, Bool.true_bne, Bool.not_true, Bool.not_false, Bool.and_true, Bool.true_and, Bool.and_false, Bool.false_and, Bool.or_true, Bool.true_or, Bool.or_false, Bool.false_or, cond_true, cond_false, List.getElem?_toArray, List.getElem?_cons_zero, List.getElem?_cons_succ, Nat.zero_add, Nat.add_zero, Nat.reduceAdd, forall_const]
  refine alloc_s hs6 (A_api_Msg w6) fun g7 w7 hs7 => ?_
  refine St_api_Msg (b := (m8.k, m8.q, iv, bv)) hs7 (one_api_Msg (Sep.oneR hs7.p1) (Sep.oneR hs7.p2)) fun w8 hs8 => ?_
  simp only [nilc_some, fad_mk, pik_true, pik_false, cnd_true, cnd_false, gif_same, gif_tf, gif_ft, gif_undef, bi_add, bi_sub, bi_mul, bi_eql, bi_neq, bi_lss, bi_leq, bi_gtr, bi_geq, notB_bool, cvi_int, lenS_mk, lenT_mk, ext0, ext1, ext2, nilP_mk, nilS_mk, fldv_agg, jn0_k, jn1_k, jn2_k, jn1_and, jn1_or, ex_some, Option.isNone_some, Option.isNone_none, Bool.false_bne, Bool.bne_true, Bool.bne_false, Bool.true_bne, Bool.not_true, Bool.not_false, Bool.and_true, Bool.true_and, Bool.and_false, Bool.false_and, Bool.or_true, Bool.true_or, Bool.or_false, Bool.false_or, cond_true, cond_false, List.getElem?_toArray, List.getElem?_cons_zero, List.getElem?_cons_succ, Nat.zero_add, Nat.add_zero, Nat.reduceAdd, forall_const, show ((0 : Int) == 0) = true from rfl]
  refine jn1_dup ?_
  have h3 : ∀ w : World, (Instr.buildSlice T_sl_uint8 10 #[(0, .int .u8 8), (1, .int .u8 0), (2, .int .u8 0), (3, .int .u8 1), (4, .int .u8 2), (5, .int .u8 0), (6, .int .u8 0), (7, .int .u8 0), (8, .int .u8 1), (9, .int .u8 9)]).run P w = .ok (.slice (some ⟨w.heap.size, 0, none⟩) 10 10) (w.alloc (.cells (bvs [8, 0, 0, 1, 2, 0, 0, 0, 1, 9]).toArray T_uint8)) := fun w => by kernel_rfl
  refine buildB_s (l := [8, 0, 0, 1, 2, 0, 0, 0, 1, 9]) hs8 rfl (h3 _) fun g9 w9 hs9 => ?_
  have hx := Sep.mid (As := ownB (.slice (some ⟨g9, 0, none⟩) 10 10) [8, 0, 0, 1, 2, 0, 0, 0, 1, 9] :: mb g7 m8 iv bv :: rows (rVec 32) iv m8.ids :: rows qv bv (L.map fun s : Sl UInt8 => s.v) :: L.map oB) (A := ownB s5 m8.bytes) (Bs := [blk g3 (Rdr.cells Q_api_Msg (m8.k, m8.q, Value.slice none 0 0, v2)).toArray T_api_Msg, rows qv v2 [v1], ownB v1 [9]]) hs9
  refine cal_i (bEqual_spec hx.rd (Sep.rd (hs9))) ?_
  rintro _ _ ⟨rfl, rfl⟩ _
  have e9 : (m8.bytes == [8, 0, 0, 1, 2, 0, 0, 0, 1, 9]) = true := by rw [m8_bytes]; rfl
  have q3 := hs9.memB (g := g3) (o := .cells (Rdr.cells Q_api_Msg (m8.k, m8.q, Value.slice none 0 0, v2)).toArray T_api_Msg (0, 0)) (by simp)
  simp only [e9, nilc_some, fad_mk, pik_true, pik_false, cnd_true, cnd_false, gif_same, gif_tf, gif_ft, gif_undef, bi_add, bi_sub, bi_mul, bi_eql, bi_neq, bi_lss, bi_leq, bi_gtr, bi_geq, notB_bool, cvi_int, lenS_mk, lenT_mk, ext0, ext1, ext2, nilP_mk, nilS_mk, fldv_agg, jn0_k, jn1_k, jn2_k, jn1_and, jn1_or, ex_some, Option.isNone_some, Option.isNone_none, Bool.false_bne, Bool.bne_true, Bool.bne_false, Bool.true_bne, Bool.not_true, Bool.not_false, Bool.and_true, Bool.true_and, Bool.and_false, Bool.false_and, Bool.or_true, Bool.true_or, Bool.or_false, Bool.false_or, cond_true, cond_false, List.getElem?_toArray, List.getElem?_cons_zero, List.getElem?_cons_succ, Nat.zero_add, Nat.add_zero, Nat.reduceAdd, forall_const, L_api_Msg hs9.p1.blk, L_api_Msg__Kind hs9.p1.blk, L_api_Msg__Req hs9.p1.blk, L_api_Msg__IDs hs9.p1.blk, L_api_Msg__Blocks hs9.p1.blk, L_api_Msg q3, L_api_Msg__Kind q3, L_api_Msg__Req q3, L_api_Msg__IDs q3, L_api_Msg__Blocks q3]
  have hLl : L.length = 1 := by have := congrArg List.length hL; rwa [List.length_map] at this
  refine jn1_dup ?_
  refine cal_i (mrSame_spec (m := m8) (n := m8) (MR.fr (mown_rd (Bs := _) (Sep.tail (Sep.tail hs9)) hL.symm) (Fr.refl _ _)) (rd8 (Sep.dropL (As := ownB (.slice (some ⟨g9, 0, none⟩) 10 10) [8, 0, 0, 1, 2, 0, 0, 0, 1, 9] :: mb g7 m8 iv bv :: rows (rVec 32) iv m8.ids :: rows qv bv (L.map fun s : Sl UInt8 => s.v) :: (L.map oB ++ [ownB s5 m8.bytes])) (by simpa using hs9))) (by omega) (by decide)) ?_
  rintro _ w10 ⟨rfl, hf10⟩ _
  simp only [decide_true, nilc_some, fad_mk, pik_true, pik_false, cnd_true, cnd_false, gif_same, gif_tf, gif_ft, gif_undef, bi_add, bi_sub, bi_mul, bi_eql, bi_neq, bi_lss, bi_leq, bi_gtr, bi_geq, notB_bool, cvi_int, lenS_mk, lenT_mk, ext0, ext1, ext2, nilP_mk, nilS_mk, fldv_agg, jn0_k, jn1_k, jn2_k, jn1_and, jn1_or, ex_some, Option.isNone_some, Option.isNone_none, Bool.false_bne, Bool.bne_true, Bool.bne_false, Bool.true_bne, Bool.not_true, Bool.not_false, Bool.and_true, Bool.true_and, Bool.and_false, Bool.false_and, Bool.or_true, Bool.true_or, Bool.or_false, Bool.false_or, cond_true, cond_false, List.getElem?_toArray, List.getElem?_cons_zero, List.getElem?_cons_succ, Nat.zero_add, Nat.add_zero, Nat.reduceAdd, forall_const]
  exact hR _ _ ⟨rfl, (hs9.old hf10).fr0⟩
end
end Go.Fx
