/-
  What a message bears, read.
-/
import Derived.Test.YtaodibbogbkgdaaMgI
set_option linter.unusedVariables false
set_option linter.unusedSimpArgs false
namespace Go.Fx
section
variable {w0 w : World} {As : List Asn} {iv bv u v s : Value} {g : Nat} {b : List UInt8} {e : Int} {n : Nat} {k q : Int}
theorem as_someF (n : Int) (K : Value → Prop) : rdP P (Instr.typeAssert (Body.some n).v T_msg_body T_msg_some false) w K = K (.agg #[.int .i64 n]) := rdP_eq (by kernel_rfl) K
theorem as_blocksF (o : Bool) (K : Value → Prop) : rdP P (Instr.typeAssert (Body.blocks o).v T_msg_body T_msg_blocks false) w K = K (.agg #[.bool o]) := rdP_eq (by kernel_rfl) K
theorem fld1 (x : Value) (K : Value → Prop) : cellOf false #[x] 0 1 K = K x := by
  rw [cellOf_false]
  simp
/-- The loop that takes blocks. -/
theorem blk_loop {g3 : Nat} {T : List Asn} {Kend : World → Prop} (hs : Sep w0 w (rows qv (.slice none 0 0) [] :: ([blk g3 (Rdr.cells Q_api_Msg (k, q, Value.slice none 0 0, Value.slice none 0 0)).toArray T_api_Msg, uk g s e, ownB s b] ++ T))) (hn : n ≤ 100) (hb : b.length ≤ 100000)
    (h : ∀ (L : List (Sl UInt8)) bv' s' w', L.map (·.l) = (stB b e n).1 → Sep w0 w' (rows qv bv' (L.map (·.v)) :: ([blk g3 (Rdr.cells Q_api_Msg (k, q, Value.slice none 0 0, bv')).toArray T_api_Msg, uk g s' (stB b e n).2.2, ownB s' (stB b e n).2.1] ++ (L.map oB ++ T))) → Kend w') :
    lp1 (Value.int IntKind.i64 0) w fun _ t42 w again4 =>
  bi BinOp.lss t42 (.int .i64 n) fun t43 =>
  cnd t43
  (drH w fun S w =>
  rdS S (fun w => ld1 (.pointer (some ⟨g3, 3, none⟩)) w.heap) fun t45 =>
  efS S (cal P f_pack_Unpacker_Bytes [.pointer (some ⟨g, 0, none⟩), (Value.int IntKind.i64 246)]) w fun t47 w =>
  efS S (efP P (Instr.buildSlice T_sl_sl_uint8 1 #[(0, t47)])) w fun t48 w =>
  efC (efP P (Builtin.append_ #[T_sl_sl_uint8, T_sl_sl_uint8] T_sl_sl_uint8 #[t45, t48])) w fun S t49 w =>
  efC (fun w K => st1 (.pointer (some ⟨g3, 3, none⟩)) t49 w (K undef)) w fun S _ w =>
  bi BinOp.add t42 (Value.int IntKind.i64 1) fun t51 =>
  again4 t51 w)
  (Kend w) := by
  refine ⟨fun x w' => ∃ (i : Nat) (L : List (Sl UInt8)) (bv' s' : Value), x = .int .i64 i ∧ i ≤ n ∧ L.map (·.l) = (stB b e i).1 ∧ Sep w0 w' (rows qv bv' (L.map (·.v)) :: ([blk g3 (Rdr.cells Q_api_Msg (k, q, Value.slice none 0 0, bv')).toArray T_api_Msg, uk g s' (stB b e i).2.2, ownB s' (stB b e i).2.1] ++ (L.map oB ++ T))),
    fun x _ => (n - RowKit.intOf x).toNat, ⟨0, [], _, s, rfl, by omega, rfl, hs⟩, ?_⟩
  rintro _ w1 ⟨i, L, bv', s1, rfl, hi, hL, hs1⟩ -
  have hLl : L.length = i := by have := congrArg List.length hL; rw [stB_len, List.length_map] at this; exact this
  have hrest := stB_rest b e i
  simp only [nilc_some, fad_mk, pik_true, pik_false, cnd_true, cnd_false, gif_same, gif_tf, gif_ft, gif_undef, bi_add, bi_sub, bi_mul, bi_eql, bi_neq, bi_lss, bi_leq, bi_gtr, bi_geq, notB_bool, cvi_int, lenS_mk, lenT_mk, ext0, ext1, ext2, nilP_mk, nilS_mk, fldv_agg, jn0_k, jn1_k, jn2_k, jn1_and, jn1_or, ex_some, Option.isNone_some, Option.isNone_none, Bool.false_bne, Bool.bne_true, Bool.bne_false, Bool.true_bne, Bool.not_true, Bool.not_false, Bool.and_true, Bool.true_and, Bool.and_false, Bool.false_and, Bool.or_true, Bool.true_or, Bool.or_false, Bool.false_or, cond_true, cond_false, List.getElem?_toArray, List.getElem?_cons_zero, List.getElem?_cons_succ, Nat.zero_add, Nat.add_zero, Nat.reduceAdd, forall_const]
  rw [cnd_bool]
  refine ⟨fun h => ?_, fun hq => ?_⟩
  · have hlt : i < n := by simpa using h
    have q3 : ∀ {z : World} {X Bs}, Sep w0 z (X :: blk g3 (Rdr.cells Q_api_Msg (k, q, Value.slice none 0 0, bv')).toArray T_api_Msg :: Bs) → z.heap[g3]? = some (.cells (Rdr.cells Q_api_Msg (k, q, Value.slice none 0 0, bv')).toArray T_api_Msg (0, 0)) := fun {z X Bs} h => h.p1.blk
    refine ⟨fun u => u.heap[g3]? = some (.cells (Rdr.cells Q_api_Msg (k, q, Value.slice none 0 0, bv')).toArray T_api_Msg (0, 0)), q3 (hs1.drew _), ?_⟩
    have hs2 : Sep w0 { w1 with drawn := w1.drawn + 1 } _ := hs1.drew _
    refine rdS_ld (v := bv') (fun u hu K hk => (L_api_Msg__Blocks hu K).mpr hk) ?_
    refine efS_i (cal_i (uBytesS (n := 246) (hs2.pick [2, 3, 0, 1] 4) (by omega) (by omega)) ?_)
    rintro v3 w3 ⟨s3, hs3⟩
    have hs3' : Sep w0 w3 (ownB v3 (ct 246 (stB b e i).2.1 (stB b e i).2.2).1 :: blk g3 (Rdr.cells Q_api_Msg (k, q, Value.slice none 0 0, bv')).toArray T_api_Msg :: rows qv bv' (L.map (·.v)) :: uk g s3 (ct 246 (stB b e i).2.1 (stB b e i).2.2).2.2 :: ownB s3 (ct 246 (stB b e i).2.1 (stB b e i).2.2).2.1 :: (L.map oB ++ T)) := hs3.pick [0, 4, 3, 1, 2] 5
    refine ⟨q3 hs3', ?_⟩
    have hbd := one_build w3 v3 (Sep.one hs3')
    refine efS_i (rows_build (q := qv) (l := [v3]) hs3' rfl hbd fun g4 w4 hs4 => ⟨hs4.p2.blk, ?_⟩)
    refine efC_efP (rows_app S_sl_sl_uint8 U_sl_sl_uint8 (by simp) hs4.p3 (Sep.rows hs4) ?_ (by simp; omega) (by simp; omega) fun v5 w5 hs5 => ?_)
    · simp only [List.flatMap_cons, List.flatMap_nil, List.append_nil]
      exact oneV (Sep.one hs4.p1)
    refine efC_st1 (St_api_Msg__Blocks (b := v5) (hs5.pick [3, 0, 2, 4, 5] 6) (Sep.oneR hs5) fun w6 hs6 => ?_)
    rw [wi64 (by omega) (by omega)]
    refine ⟨⟨i + 1, L ++ [⟨v3, (ct 246 (stB b e i).2.1 (stB b e i).2.2).1⟩], v5, s3, by simp, by omega, ?_, ?_⟩, by simp [RowKit.intOf]; omega⟩
    · rw [List.map_append, hL, stB]
      rfl
    · have h1 := hs6.pick [2, 1, 0, 3, 4] 5
      have := Sep.put (f := oB) (s := ⟨v3, (ct 246 (stB b e i).2.1 (stB b e i).2.2).1⟩) (Xs := [rows qv v5 (L.map (·.v) ++ [v3]), blk g3 (Rdr.cells Q_api_Msg (k, q, Value.slice none 0 0, v5)).toArray T_api_Msg, uk g s3 (ct 246 (stB b e i).2.1 (stB b e i).2.2).2.2, ownB s3 (ct 246 (stB b e i).2.1 (stB b e i).2.2).2.1]) (L := L) (T := T) h1
      rw [List.map_append]
      exact this
  · have hge : i = n := by simp at hq; omega
    subst hge
    exact h L bv' s1 w1 hL hs1
theorem blk_end {g3 : Nat} {z4 : Asn} {bs : List (List UInt8)} {L : List (Sl UInt8)} (hs : Sep w0 w (rows qv bv (L.map (·.v)) :: ([blk g3 (Rdr.cells Q_api_Msg (k, q, Value.slice none 0 0, bv)).toArray T_api_Msg, uk g s e, ownB s b] ++ (L.map oB ++ (z4 :: As))))) :
    Sep w0 w (rows (rVec 32) (.slice none 0 0) [] :: rows qv bv (L.map (·.v)) :: mb g3 ⟨k, q, [], bs⟩ (.slice none 0 0) bv :: z4 :: uk g s e :: ownB s b :: (L.map oB ++ As)) := by
  have h1 := Sep.mid (As := rows qv bv (L.map (·.v)) :: blk g3 (Rdr.cells Q_api_Msg (k, q, Value.slice none 0 0, bv)).toArray T_api_Msg :: uk g s e :: ownB s b :: L.map oB) (A := z4) (Bs := As) (by simpa using hs)
  exact (h1.pick [1, 2, 0, 3, 4] 5).nilR
theorem mRead_spec (hs : Sep w0 w (uk g s e :: ownB s b :: As)) (hb : b.length ≤ 100000) : cal P f_msg_read [.pointer (some ⟨g, 0, none⟩), mq ⟨k, q, [], []⟩ (.slice none 0 0) (.slice none 0 0)] w fun r w' =>
    ∃ iv' bv' L s', r = mq (readM k q b e).1 iv' bv' ∧ L.map (·.l) = (readM k q b e).1.bs ∧ Sep w0 w' (mown (readM k q b e).1 iv' bv' L ++ (uk g s' (readM k q b e).2.2 :: ownB s' (readM k q b e).2.1 :: As)) := by
  refine s_msg_read fun R hR => ?_
  unfold c_msg_read
  refine bxA hs fun g3 w1 hs1 => ?_
  refine alloc_s hs1 (A_api_Msg w1) fun g4 w2 hs2 => ?_
  simp only [nilc_some, fad_mk, pik_true, pik_false, cnd_true, cnd_false, gif_same, gif_tf, gif_ft, gif_undef, bi_add, bi_sub, bi_mul, bi_eql, bi_neq, bi_lss, bi_leq, bi_gtr, bi_geq, notB_bool, cvi_int, lenS_mk, lenT_mk, ext0, ext1, ext2, nilP_mk, nilS_mk, fldv_agg, jn0_k, jn1_k, jn2_k, jn1_and, jn1_or, ex_some, Option.isNone_some, Option.isNone_none, Bool.false_bne, Bool.bne_true, Bool.bne_false, Bool.true_bne, Bool.not_true, Bool.not_false, Bool.and_true, Bool.true_and, Bool.and_false, Bool.false_and, Bool.or_true, Bool.true_or, Bool.or_false, Bool.false_or, cond_true, cond_false, List.getElem?_toArray, List.getElem?_cons_zero, List.getElem?_cons_succ, Nat.zero_add, Nat.add_zero, Nat.reduceAdd, forall_const, L_api_Msg (Sep.p1 hs2).blk, L_api_Msg__Kind (Sep.p1 hs2).blk, L_api_Msg__Req (Sep.p1 hs2).blk, L_api_Msg__IDs (Sep.p1 hs2).blk, L_api_Msg__Blocks (Sep.p1 hs2).blk]
  refine cal_i (bears_spec k) ?_
  rintro _ _ ⟨rfl, rfl⟩
  obtain ⟨z4, hz4⟩ : ∃ z, z = blk g4 (Rdr.cells Q_api_Msg ((0 : Int), (0 : Int), Value.slice none 0 0, Value.slice none 0 0)).toArray T_api_Msg := ⟨_, rfl⟩
  -- the end: what is read is handed back
  have fin : ∀ (m : Msg) (b' : List UInt8) (e' : Int) (iv' bv' s' : Value) (L : List (Sl UInt8)) (w' : World), readM k q b e = (m, b', e') → L.map (·.l) = m.bs →
      Sep w0 w' (rows (rVec 32) iv' m.ids :: rows qv bv' (L.map (·.v)) :: mb g3 m iv' bv' :: z4 :: uk g s' e' :: ownB s' b' :: (L.map oB ++ As)) →
      ldN 4 (.pointer (some ⟨g3, 0, none⟩)) w'.heap fun t52 => stN 4 (.pointer (some ⟨g4, 0, none⟩)) t52 w' fun w => ldN 4 (.pointer (some ⟨g4, 0, none⟩)) w.heap fun r5 => R r5 w := fun m b' e' iv' bv' s' L w' hm hL hs' => by
    rw [hz4] at hs'
    rw [hm] at hR
    simp only [L_api_Msg (Sep.p2 hs').blk, L_api_Msg__Kind (Sep.p2 hs').blk, L_api_Msg__Req (Sep.p2 hs').blk, L_api_Msg__IDs (Sep.p2 hs').blk, L_api_Msg__Blocks (Sep.p2 hs').blk]
    refine St_api_Msg hs'.p3 (one_api_Msg (Sep.oneR hs') (Sep.oneR hs'.p1)) fun w6 hs6 => ?_
    simp only [L_api_Msg hs6.blk, L_api_Msg__Kind hs6.blk, L_api_Msg__Req hs6.blk, L_api_Msg__IDs hs6.blk, L_api_Msg__Blocks hs6.blk]
    refine hR _ _ ⟨iv', bv', L, s', rfl, hL, ?_⟩
    have h1 : Sep w0 w6 (rows (rVec 32) iv' m.ids :: rows qv bv' (L.map (·.v)) :: uk g s' e' :: ownB s' b' :: (L.map oB ++ As)) := hs6.pick [1, 2, 4, 5] 6
    refine h1.perm ?_
    show (rows (rVec 32) iv' m.ids :: rows qv bv' (L.map (·.v)) :: ([uk g s' e', ownB s' b'] ++ (L.map oB ++ As))).Perm (rows (rVec 32) iv' m.ids :: rows qv bv' (L.map (·.v)) :: (L.map oB ++ ([uk g s' e', ownB s' b'] ++ As)))
    refine List.Perm.cons _ (List.Perm.cons _ ?_)
    rw [← List.append_assoc, ← List.append_assoc]
    exact List.Perm.append_right _ List.perm_append_comm
  -- a message that has nothing
  have zero : ∀ (b' : List UInt8) (e' : Int) (s' : Value) (w' : World), readM k q b e = (Msg.zero, b', e') → Sep w0 w' (uk g s' e' :: ownB s' b' :: mb g3 ⟨k, q, [], []⟩ (.slice none 0 0) (.slice none 0 0) :: z4 :: As) →
      rdP P (Instr.build T_api_Msg #[]) w' fun t17 => stN 4 (.pointer (some ⟨g4, 0, none⟩)) t17 w' fun w => ldN 4 (.pointer (some ⟨g4, 0, none⟩)) w.heap fun r1 => R r1 w := fun b' e' s' w' hm hs' => by
    rw [hz4] at hs'
    rw [hm] at hR
    rw [B_api_Msg]
    refine St_api_Msg hs'.p3 (one_api_Msg rfl rfl) fun w6 hs6 => ?_
    simp only [L_api_Msg hs6.blk, L_api_Msg__Kind hs6.blk, L_api_Msg__Req hs6.blk, L_api_Msg__IDs hs6.blk, L_api_Msg__Blocks hs6.blk]
    refine hR _ _ ⟨.slice none 0 0, .slice none 0 0, [], s', rfl, rfl, ?_⟩
    exact (hs6.pick [1, 2] 4).nilR.nilR
  replace hs2 : Sep w0 w2 (uk g s e :: ownB s b :: mb g3 ⟨k, q, [], []⟩ (.slice none 0 0) (.slice none 0 0) :: z4 :: As) := by
    rw [hz4]
    exact hs2.pick [2, 3, 1, 0] 4
  cases hk : kbody k with
  | nil =>
    have hm : readM k q b e = (⟨k, q, [], []⟩, b, e) := by unfold readM; rw [hk]
    refine jn1_dup ?_
    refine cal_i (counts_spec Body.nil) ?_
    rintro _ w3 ⟨rfl, hf3⟩
    have hs3 := hs2.old hf3
    simp only [Body.isNames, Body.isBlocks, Body.isSome, nilc_some, fad_mk, pik_true, pik_false, cnd_true, cnd_false, gif_same, gif_tf, gif_ft, gif_undef, bi_add, bi_sub, bi_mul, bi_eql, bi_neq, bi_lss, bi_leq, bi_gtr, bi_geq, notB_bool, cvi_int, lenS_mk, lenT_mk, ext0, ext1, ext2, nilP_mk, nilS_mk, fldv_agg, jn0_k, jn1_k, jn2_k, jn1_and, jn1_or, ex_some, Option.isNone_some, Option.isNone_none, Bool.false_bne, Bool.bne_true, Bool.bne_false, Bool.true_bne, Bool.not_true, Bool.not_false, Bool.and_true, Bool.true_and, Bool.and_false, Bool.false_and, Bool.or_true, Bool.true_or, Bool.or_false, Bool.false_or, cond_true, cond_false, List.getElem?_toArray, List.getElem?_cons_zero, List.getElem?_cons_succ, Nat.zero_add, Nat.add_zero, Nat.reduceAdd, forall_const, as_some, as_names, as_blocks]
    exact fin ⟨k, q, [], []⟩ b e _ _ s [] w3 hm rfl ((hs3.pick [2, 3, 0, 1] 4).nilR.nilR)
  | nothing =>
    have hm : readM k q b e = (⟨k, q, [], []⟩, b, e) := by unfold readM; rw [hk]
    refine jn1_dup ?_
    refine cal_i (counts_spec Body.nothing) ?_
    rintro _ w3 ⟨rfl, hf3⟩
    have hs3 := hs2.old hf3
    simp only [Body.isNames, Body.isBlocks, Body.isSome, nilc_some, fad_mk, pik_true, pik_false, cnd_true, cnd_false, gif_same, gif_tf, gif_ft, gif_undef, bi_add, bi_sub, bi_mul, bi_eql, bi_neq, bi_lss, bi_leq, bi_gtr, bi_geq, notB_bool, cvi_int, lenS_mk, lenT_mk, ext0, ext1, ext2, nilP_mk, nilS_mk, fldv_agg, jn0_k, jn1_k, jn2_k, jn1_and, jn1_or, ex_some, Option.isNone_some, Option.isNone_none, Bool.false_bne, Bool.bne_true, Bool.bne_false, Bool.true_bne, Bool.not_true, Bool.not_false, Bool.and_true, Bool.true_and, Bool.and_false, Bool.false_and, Bool.or_true, Bool.true_or, Bool.or_false, Bool.false_or, cond_true, cond_false, List.getElem?_toArray, List.getElem?_cons_zero, List.getElem?_cons_succ, Nat.zero_add, Nat.add_zero, Nat.reduceAdd, forall_const, as_some, as_names, as_blocks]
    exact fin ⟨k, q, [], []⟩ b e _ _ s [] w3 hm rfl ((hs3.pick [2, 3, 0, 1] 4).nilR.nilR)
  | some n =>
    have hm : readM k q b e = (⟨k, q, (stI b e n.toNat).1, []⟩, (stI b e n.toNat).2) := by unfold readM; rw [hk]
    have hn := kbody_n hk
    have en : (Value.int .i64 n) = .int .i64 ((n.toNat : Nat) : Int) := by congr 1; omega
    refine jn1_dup ?_
    refine cal_i (counts_spec (Body.some n)) ?_
    rintro _ w3 ⟨rfl, hf3⟩
    have hs3 := hs2.old hf3
    simp only [Body.isNames, Body.isBlocks, Body.isSome, nilc_some, fad_mk, pik_true, pik_false, cnd_true, cnd_false, gif_same, gif_tf, gif_ft, gif_undef, bi_add, bi_sub, bi_mul, bi_eql, bi_neq, bi_lss, bi_leq, bi_gtr, bi_geq, notB_bool, cvi_int, lenS_mk, lenT_mk, ext0, ext1, ext2, nilP_mk, nilS_mk, fldv_agg, jn0_k, jn1_k, jn2_k, jn1_and, jn1_or, ex_some, Option.isNone_some, Option.isNone_none, Bool.false_bne, Bool.bne_true, Bool.bne_false, Bool.true_bne, Bool.not_true, Bool.not_false, Bool.and_true, Bool.true_and, Bool.and_false, Bool.false_and, Bool.or_true, Bool.true_or, Bool.or_false, Bool.false_or, cond_true, cond_false, List.getElem?_toArray, List.getElem?_cons_zero, List.getElem?_cons_succ, Nat.zero_add, Nat.add_zero, Nat.reduceAdd, forall_const, as_some, as_someF]
    refine jn0_dup ?_
    rw [fld1, en]
    refine cal_i (mTake_spec hs3 (by omega)) ?_
    rintro r4 w4 ⟨s4, hs4⟩
    refine St_api_Msg__IDs (b := r4) (hs4.pick [3, 0, 1, 2] 4) (Sep.oneR hs4) fun w5 hs5 => ?_
    intro _
    exact fin ⟨k, q, (stI b e n.toNat).1, []⟩ _ _ r4 _ s4 [] w5 hm rfl (Sep.p1 (Sep.nilR (hs5.pick [1, 0, 4, 2, 3] 5)))
  | names =>
    refine jn1_dup ?_
    refine cal_i (counts_spec Body.names) ?_
    rintro _ w3 ⟨rfl, hf3⟩
    have hs3 := hs2.old hf3
    simp only [Body.isNames, Body.isBlocks, Body.isSome, nilc_some, fad_mk, pik_true, pik_false, cnd_true, cnd_false, gif_same, gif_tf, gif_ft, gif_undef, bi_add, bi_sub, bi_mul, bi_eql, bi_neq, bi_lss, bi_leq, bi_gtr, bi_geq, notB_bool, cvi_int, lenS_mk, lenT_mk, ext0, ext1, ext2, nilP_mk, nilS_mk, fldv_agg, jn0_k, jn1_k, jn2_k, jn1_and, jn1_or, ex_some, Option.isNone_some, Option.isNone_none, Bool.false_bne, Bool.bne_true, Bool.bne_false, Bool.true_bne, Bool.not_true, Bool.not_false, Bool.and_true, Bool.true_and, Bool.and_false, Bool.false_and, Bool.or_true, Bool.true_or, Bool.or_false, Bool.false_or, cond_true, cond_false, List.getElem?_toArray, List.getElem?_cons_zero, List.getElem?_cons_succ, Nat.zero_add, Nat.add_zero, Nat.reduceAdd, forall_const]
    refine cal_i (uIntS hs3) ?_
    rintro _ w4 ⟨rfl, s4, hs4⟩
    have h4l : (tk 4 b e).1.length ≤ 4 := by unfold tk; split <;> (try split) <;> simp; omega
    have h4v := ofBe_lt (tk 4 b e).1
    have h4p : 256 ^ (tk 4 b e).1.length ≤ 256 ^ 4 := Nat.pow_le_pow_right (by omega) h4l
    simp only [nilc_some, fad_mk, pik_true, pik_false, cnd_true, cnd_false, gif_same, gif_tf, gif_ft, gif_undef, bi_add, bi_sub, bi_mul, bi_eql, bi_neq, bi_lss, bi_leq, bi_gtr, bi_geq, notB_bool, cvi_int, lenS_mk, lenT_mk, ext0, ext1, ext2, nilP_mk, nilS_mk, fldv_agg, jn0_k, jn1_k, jn2_k, jn1_and, jn1_or, ex_some, Option.isNone_some, Option.isNone_none, Bool.false_bne, Bool.bne_true, Bool.bne_false, Bool.true_bne, Bool.not_true, Bool.not_false, Bool.and_true, Bool.true_and, Bool.and_false, Bool.false_and, Bool.or_true, Bool.true_or, Bool.or_false, Bool.false_or, cond_true, cond_false, List.getElem?_toArray, List.getElem?_cons_zero, List.getElem?_cons_succ, Nat.zero_add, Nat.add_zero, Nat.reduceAdd, forall_const]
    rw [wi64 (by omega) (by omega), cnd_bool]
    refine ⟨fun h => ?_, fun h => ?_⟩
    · have h : 32 < ofBe (tk 4 b e).1 := by simp at h; omega
      have hm : readM k q b e = (Msg.zero, (tk 4 b e).2) := by unfold readM; rw [hk]; simp only [if_pos h]
      exact zero _ _ s4 w4 hm hs4
    · have h : ¬ 32 < ofBe (tk 4 b e).1 := by simp at h; omega
      have hm : readM k q b e = (⟨k, q, (stI (tk 4 b e).2.1 (tk 4 b e).2.2 (ofBe (tk 4 b e).1)).1, []⟩, (stI (tk 4 b e).2.1 (tk 4 b e).2.2 (ofBe (tk 4 b e).1)).2) := by unfold readM; rw [hk]; simp only [if_neg h]
      generalize tk 4 b e = c at *
      simp only [Body.isNames, Body.isSome, nilc_some, fad_mk, pik_true, pik_false, cnd_true, cnd_false, gif_same, gif_tf, gif_ft, gif_undef, bi_add, bi_sub, bi_mul, bi_eql, bi_neq, bi_lss, bi_leq, bi_gtr, bi_geq, notB_bool, cvi_int, lenS_mk, lenT_mk, ext0, ext1, ext2, nilP_mk, nilS_mk, fldv_agg, jn0_k, jn1_k, jn2_k, jn1_and, jn1_or, ex_some, Option.isNone_some, Option.isNone_none, Bool.false_bne, Bool.bne_true, Bool.bne_false, Bool.true_bne, Bool.not_true, Bool.not_false, Bool.and_true, Bool.true_and, Bool.and_false, Bool.false_and, Bool.or_true, Bool.true_or, Bool.or_false, Bool.false_or, cond_true, cond_false, List.getElem?_toArray, List.getElem?_cons_zero, List.getElem?_cons_succ, Nat.zero_add, Nat.add_zero, Nat.reduceAdd, forall_const, as_some, as_names]
      refine jn0_dup ?_
      refine cal_i (mTake_spec hs4 (by omega)) ?_
      rintro r5 w5 ⟨s5, hs5⟩
      refine St_api_Msg__IDs (b := r5) (hs5.pick [3, 0, 1, 2] 4) (Sep.oneR hs5) fun w6 hs6 => ?_
      intro _
      exact fin ⟨k, q, (stI c.2.1 c.2.2 (ofBe c.1)).1, []⟩ _ _ r5 _ s5 [] w6 hm rfl (Sep.p1 (Sep.nilR (hs6.pick [1, 0, 4, 2, 3] 5)))
  | blocks o =>
    cases o with
    | true =>
      have hm : readM k q b e = (⟨k, q, [], (stB b e 1).1⟩, (stB b e 1).2) := by unfold readM; rw [hk]
      refine jn1_dup ?_
      refine cal_i (counts_spec (Body.blocks true)) ?_
      rintro _ w3 ⟨rfl, hf3⟩
      have hs3 := hs2.old hf3
      simp only [Body.isNames, Body.isBlocks, Body.isSome, Body.one, nilc_some, fad_mk, pik_true, pik_false, cnd_true, cnd_false, gif_same, gif_tf, gif_ft, gif_undef, bi_add, bi_sub, bi_mul, bi_eql, bi_neq, bi_lss, bi_leq, bi_gtr, bi_geq, notB_bool, cvi_int, lenS_mk, lenT_mk, ext0, ext1, ext2, nilP_mk, nilS_mk, fldv_agg, jn0_k, jn1_k, jn2_k, jn1_and, jn1_or, ex_some, Option.isNone_some, Option.isNone_none, Bool.false_bne, Bool.bne_true, Bool.bne_false, Bool.true_bne, Bool.not_true, Bool.not_false, Bool.and_true, Bool.true_and, Bool.and_false, Bool.false_and, Bool.or_true, Bool.true_or, Bool.or_false, Bool.false_or, cond_true, cond_false, List.getElem?_toArray, List.getElem?_cons_zero, List.getElem?_cons_succ, Nat.zero_add, Nat.add_zero, Nat.reduceAdd, forall_const, as_some, as_names, as_blocks, as_blocksF, fld1]
      refine jn0_dup ?_
      refine blk_loop (n := 1) (g3 := g3) (T := z4 :: As) (k := k) (q := q) ((hs3.pick [2, 0, 1, 3] 4).nilR) (by omega) hb fun L bv' s' w4 hL hs4 => ?_
      intro _
      exact fin ⟨k, q, [], (stB b e 1).1⟩ _ _ _ bv' s' L w4 hm hL (blk_end hs4)
    | false =>
      refine jn1_dup ?_
      refine cal_i (counts_spec (Body.blocks false)) ?_
      rintro _ w3 ⟨rfl, hf3⟩
      have hs3 := hs2.old hf3
      simp only [Body.isNames, Body.isBlocks, Body.isSome, Body.one, nilc_some, fad_mk, pik_true, pik_false, cnd_true, cnd_false, gif_same, gif_tf, gif_ft, gif_undef, bi_add, bi_sub, bi_mul, bi_eql, bi_neq, bi_lss, bi_leq, bi_gtr, bi_geq, notB_bool, cvi_int, lenS_mk, lenT_mk, ext0, ext1, ext2, nilP_mk, nilS_mk, fldv_agg, jn0_k, jn1_k, jn2_k, jn1_and, jn1_or, ex_some, Option.isNone_some, Option.isNone_none, Bool.false_bne, Bool.bne_true, Bool.bne_false, Bool.true_bne, Bool.not_true, Bool.not_false, Bool.and_true, Bool.true_and, Bool.and_false, Bool.false_and, Bool.or_true, Bool.true_or, Bool.or_false, Bool.false_or, cond_true, cond_false, List.getElem?_toArray, List.getElem?_cons_zero, List.getElem?_cons_succ, Nat.zero_add, Nat.add_zero, Nat.reduceAdd, forall_const]
      refine cal_i (uIntS hs3) ?_
      rintro _ w4 ⟨rfl, s4, hs4⟩
      have h4l : (tk 4 b e).1.length ≤ 4 := by unfold tk; split <;> (try split) <;> simp; omega
      have h4v := ofBe_lt (tk 4 b e).1
      have h4p : 256 ^ (tk 4 b e).1.length ≤ 256 ^ 4 := Nat.pow_le_pow_right (by omega) h4l
      have h4r := tk_rest 4 b e
      simp only [nilc_some, fad_mk, pik_true, pik_false, cnd_true, cnd_false, gif_same, gif_tf, gif_ft, gif_undef, bi_add, bi_sub, bi_mul, bi_eql, bi_neq, bi_lss, bi_leq, bi_gtr, bi_geq, notB_bool, cvi_int, lenS_mk, lenT_mk, ext0, ext1, ext2, nilP_mk, nilS_mk, fldv_agg, jn0_k, jn1_k, jn2_k, jn1_and, jn1_or, ex_some, Option.isNone_some, Option.isNone_none, Bool.false_bne, Bool.bne_true, Bool.bne_false, Bool.true_bne, Bool.not_true, Bool.not_false, Bool.and_true, Bool.true_and, Bool.and_false, Bool.false_and, Bool.or_true, Bool.true_or, Bool.or_false, Bool.false_or, cond_true, cond_false, List.getElem?_toArray, List.getElem?_cons_zero, List.getElem?_cons_succ, Nat.zero_add, Nat.add_zero, Nat.reduceAdd, forall_const]
      rw [wi64 (by omega) (by omega), cnd_bool]
      refine ⟨fun h => ?_, fun h => ?_⟩
      · have h : 32 < ofBe (tk 4 b e).1 := by simp at h; omega
        have hm : readM k q b e = (Msg.zero, (tk 4 b e).2) := by unfold readM; rw [hk]; simp only [if_pos h]
        exact zero _ _ s4 w4 hm hs4
      · have h : ¬ 32 < ofBe (tk 4 b e).1 := by simp at h; omega
        have hm : readM k q b e = (⟨k, q, [], (stB (tk 4 b e).2.1 (tk 4 b e).2.2 (ofBe (tk 4 b e).1)).1⟩, (stB (tk 4 b e).2.1 (tk 4 b e).2.2 (ofBe (tk 4 b e).1)).2) := by unfold readM; rw [hk]; simp only [if_neg h]
        generalize tk 4 b e = c at *
        simp only [Body.isNames, Body.isSome, Body.isBlocks, nilc_some, fad_mk, pik_true, pik_false, cnd_true, cnd_false, gif_same, gif_tf, gif_ft, gif_undef, bi_add, bi_sub, bi_mul, bi_eql, bi_neq, bi_lss, bi_leq, bi_gtr, bi_geq, notB_bool, cvi_int, lenS_mk, lenT_mk, ext0, ext1, ext2, nilP_mk, nilS_mk, fldv_agg, jn0_k, jn1_k, jn2_k, jn1_and, jn1_or, ex_some, Option.isNone_some, Option.isNone_none, Bool.false_bne, Bool.bne_true, Bool.bne_false, Bool.true_bne, Bool.not_true, Bool.not_false, Bool.and_true, Bool.true_and, Bool.and_false, Bool.false_and, Bool.or_true, Bool.true_or, Bool.or_false, Bool.false_or, cond_true, cond_false, List.getElem?_toArray, List.getElem?_cons_zero, List.getElem?_cons_succ, Nat.zero_add, Nat.add_zero, Nat.reduceAdd, forall_const, as_some, as_names, as_blocks, as_blocksF, fld1]
        refine jn0_dup ?_
        refine blk_loop (n := ofBe c.1) (g3 := g3) (T := z4 :: As) (k := k) (q := q) ((hs4.pick [2, 0, 1, 3] 4).nilR) (by omega) (by omega) fun L bv' s' w5 hL hs5 => ?_
        intro _
        exact fin ⟨k, q, [], (stB c.2.1 c.2.2 (ofBe c.1)).1⟩ _ _ _ bv' s' L w5 hm hL (blk_end hs5)
end
end Go.Fx
