/-
  MsgChecks, walked.
-/
import Derived.Test.YtaodibbogbkgdaaMgP
set_option linter.unusedVariables false
set_option linter.unusedSimpArgs false
namespace Go.Fx
section
variable {w0 w : World} {As T : List Asn} {v : Value}
/-- A slice of names, taken as bytes. -/
theorem wide_bytes {g o n c : Nat} {l : List UInt8} (hl : l.length = n * 32) (h : Sep w0 w (own (.slice (some ⟨g, o, none⟩) n c) 32 n (bvs l) :: As)) : n ≤ c ∧ Sep w0 w (ownB (.slice (some ⟨g, o, none⟩) (n * 32) (c * 32)) l :: As) := by
  obtain ⟨F, hA, hk⟩ := h.upd
  obtain ⟨hc, ⟨hv, _⟩ | ⟨g', o', cap, cur, E, hv, hn, hg, hfit, hcs, rfl⟩⟩ := hA
  · cases hv
  · cases hv
    refine ⟨hn, hk w [g] _ ?_ (Fr.refl _ _) (Grew.refl _ _)⟩
    refine ⟨by rw [hc]; omega, .inr ⟨g, o, c * 32, cur, E, by rw [hl], by omega, hg, by omega, ?_, rfl⟩⟩
    rw [hl, Nat.mul_one]
    exact hcs
theorem wide_names {g o n c : Nat} {l : List UInt8} (hl : l.length = n * 32) (hnc : n ≤ c) (h : Sep w0 w (ownB (.slice (some ⟨g, o, none⟩) (n * 32) (c * 32)) l :: As)) : Sep w0 w (own (.slice (some ⟨g, o, none⟩) n c) 32 n (bvs l) :: As) := by
  obtain ⟨F, hA, hk⟩ := h.upd
  obtain ⟨hc, ⟨hv, _⟩ | ⟨g', o', cap, cur, E, hv, hn, hg, hfit, hcs, rfl⟩⟩ := hA
  · cases hv
  · simp only [Value.slice.injEq, Option.some.injEq, Addr.mk.injEq] at hv
    obtain ⟨⟨rfl, rfl, _⟩, _, rfl⟩ := hv
    refine hk w [g] _ ?_ (Fr.refl _ _) (Grew.refl _ _)
    refine ⟨by rw [hc, hl]; omega, .inr ⟨g, o, c, cur, E, rfl, hnc, hg, by omega, ?_, rfl⟩⟩
    rw [hl, Nat.mul_one] at hcs
    exact hcs
theorem cells_bvs (l : List (Vec 32)) : l.flatMap (rVec 32).cells = bvs (encI l) := by
  induction l with
  | nil => rfl
  | cons a l ih => rw [List.flatMap_cons, ih]; unfold encI; rw [List.flatMap_cons]; simp [bvs, rVec]
/-- The first byte of a name is turned. -/
theorem turn_name {n j : Nat} {l : List UInt8} (hs : Sep w0 w (own v 32 n (bvs l) :: As)) (hl : l.length = n * 32) (hj : j < n) :
    ∃ p, (∀ K' : Value → Prop, K' p → ixs 32 v (.int .i64 (j : Int)) fun t => ixa 32 1 t (.int .i64 0) K') ∧ ∃ b, (∀ u, Sep w0 u (own v 32 n (bvs l) :: As) → ∀ K' : Value → Prop, K' (bv b) → ld1 p u.heap K') ∧ ∀ (b' : UInt8) (K : World → Prop), (∀ (l' : List UInt8) w', l'.length = n * 32 → Sep w0 w' (own v 32 n (bvs l') :: As) → K w') → st1 p (bv b') w K := by
  have hh := hs.head
  obtain ⟨F, hc, ⟨_, h0, _⟩ | ⟨g, o, c, cur, E, hv, _⟩⟩ := hh
  · omega
  subst hv
  obtain ⟨hnc, hs1⟩ := wide_bytes hl hs
  have hj32 : j * 32 < l.length := by omega
  refine ⟨.pointer (some ⟨g, o + j * 32, none⟩), fun K' hk => ?_, l[j * 32], fun u hu K' hk => ?_, fun b' K h => ?_⟩
  · rw [ixs_mk _ _ _ _ _ _ _ _ (by omega) (by omega), Int.toNat_natCast, ixa_mk _ _ _ _ _ _ _ (by omega) (by omega)]
    simpa using hk
  · have h1 := ldxB_s (k := .i64) (K := K') (wide_bytes hl hu).2 hj32 hk
    rw [ixs_mk _ _ _ _ _ _ _ _ (by omega) (by omega), Int.toNat_natCast, Nat.mul_one] at h1
    exact h1
  · have h1 := stxB_s (k := .i64) (K := K) hs1 hj32 b' fun w' hs' => h _ w' (by simpa using hl) (wide_names (by simpa using hl) hnc hs')
    rw [ixs_mk _ _ _ _ _ _ _ _ (by omega) (by omega), Int.toNat_natCast, Nat.mul_one] at h1
    exact h1
/-- One slice out of many. -/
theorem Sep.nth {X T : List Asn} {L : List (Sl UInt8)} {j : Nat} {s : Sl UInt8} (hs : Sep w0 w (X ++ (L.map oB ++ T))) (hj : L[j]? = some s) :
    Sep w0 w (oB s :: (X ++ ((L.take j ++ L.drop (j + 1)).map oB ++ T))) ∧ ∀ (z : World) (l' : List UInt8), Sep w0 z (ownB s.v l' :: (X ++ ((L.take j ++ L.drop (j + 1)).map oB ++ T))) → Sep w0 z (X ++ ((L.set j ⟨s.v, l'⟩).map oB ++ T)) := by
  obtain ⟨hlt, hjs⟩ := List.getElem?_eq_some_iff.1 hj
  have e : L = L.take j ++ s :: L.drop (j + 1) := by
    conv => lhs; rw [← List.take_append_drop j L]
    rw [List.drop_eq_getElem_cons hlt, hjs]
  have pm : ∀ s' : Sl UInt8, (X ++ ((L.take j ++ s' :: L.drop (j + 1)).map oB ++ T)).Perm (oB s' :: (X ++ ((L.take j ++ L.drop (j + 1)).map oB ++ T))) := fun s' => by
    rw [List.map_append, List.map_append, List.map_cons]
    have h1 : ((L.take j).map oB ++ oB s' :: (L.drop (j + 1)).map oB ++ T).Perm (oB s' :: ((L.take j).map oB ++ (L.drop (j + 1)).map oB ++ T)) := by
      rw [List.append_assoc, List.cons_append, List.append_assoc]
      exact List.perm_middle
    exact (List.Perm.append_left X h1).trans List.perm_middle
  refine ⟨?_, fun z l' hz => ?_⟩
  · rw [e] at hs
    exact hs.perm (pm s)
  · have h2 := hz.perm (pm ⟨s.v, l'⟩).symm
    have e2 : L.set j ⟨s.v, l'⟩ = L.take j ++ ⟨s.v, l'⟩ :: L.drop (j + 1) := by
      rw [List.set_eq_take_append_cons_drop, if_pos hlt]
    rw [e2]
    exact h2
theorem wChecks {w : World} {x y : Int × Int × Sl (Vec 32) × Sl (Sl UInt8)} (hx : Rdr.ok R_api_Msg w.heap x) (hy : Rdr.ok R_api_Msg w.heap y) :
    cal P f_law04_MsgChecks [.agg (Rdr.cells R_api_Msg x).toArray, .agg (Rdr.cells R_api_Msg y).toArray] w fun r w' => r = .bool true ∧ Fr [] w w' := by
  obtain ⟨m, iv, bv, l, e, ha⟩ := msg_arg hx
  obtain ⟨n, iv', bv', l', e', ha'⟩ := msg_arg hy
  rw [e, e']
  clear hx hy e e'
  refine s_law04_MsgChecks fun R hR => ?_
  unfold c_law04_MsgChecks
  refine bxA (Sep.start w) fun g w1 hs1 => ?_
  refine bxA hs1 fun g' w2 hs2 => ?_
  have lv : ∀ {z : World}, Fr [] w z → cal P f_law04_begun [] z R := fun {z} hf => cal_i (begun_spec z) fun r w' hr => hR _ _ ⟨hr.1, hf.trans hr.2 (by simp) (by simp)⟩
  refine cal_i (begun_spec _) ?_
  rintro _ w3 ⟨rfl, hf3⟩
  have hs3 := hs2.old hf3
  simp only [nilc_some, fad_mk, pik_true, pik_false, cnd_true, cnd_false, gif_same, gif_tf, gif_ft, gif_undef, bi_add, bi_sub, bi_mul, bi_eql, bi_neq, bi_lss, bi_leq, bi_gtr, bi_geq, notB_bool, cvi_int, lenS_mk, lenT_mk, ext0, ext1, ext2, nilP_mk, nilS_mk, fldv_agg, jn0_k, jn1_k, jn2_k, jn1_and, jn1_or, ex_some, Option.isNone_some, Option.isNone_none, Bool.false_bne, Bool.bne_true, Bool.bne_false, Bool.true_bne, Bool.not_true, Bool.not_false, Bool.and_true, Bool.true_and, Bool.and_false, Bool.false_and, Bool.or_true, Bool.true_or, Bool.or_false, Bool.false_or, cond_true, cond_false, List.getElem?_toArray, List.getElem?_cons_zero, List.getElem?_cons_succ, Nat.zero_add, Nat.add_zero, Nat.reduceAdd, forall_const, L_api_Msg hs3.p1.blk, L_api_Msg__Kind hs3.p1.blk, L_api_Msg__Req hs3.p1.blk, L_api_Msg__IDs hs3.p1.blk, L_api_Msg__Blocks hs3.p1.blk]
  refine jn1_dup ?_
  refine cal_i (few_spec (hs3.mr ha.mr) ha.bl) ?_
  rintro _ w4 ⟨hf4, t, rfl, ht⟩
  have hs4 := hs3.old hf4
  cases t with
  | false =>
    simp only [nilc_some, fad_mk, pik_true, pik_false, cnd_true, cnd_false, gif_same, gif_tf, gif_ft, gif_undef, bi_add, bi_sub, bi_mul, bi_eql, bi_neq, bi_lss, bi_leq, bi_gtr, bi_geq, notB_bool, cvi_int, lenS_mk, lenT_mk, ext0, ext1, ext2, nilP_mk, nilS_mk, fldv_agg, jn0_k, jn1_k, jn2_k, jn1_and, jn1_or, ex_some, Option.isNone_some, Option.isNone_none, Bool.false_bne, Bool.bne_true, Bool.bne_false, Bool.true_bne, Bool.not_true, Bool.not_false, Bool.and_true, Bool.true_and, Bool.and_false, Bool.false_and, Bool.or_true, Bool.true_or, Bool.or_false, Bool.false_or, cond_true, cond_false, List.getElem?_toArray, List.getElem?_cons_zero, List.getElem?_cons_succ, Nat.zero_add, Nat.add_zero, Nat.reduceAdd, forall_const]
    exact lv hs4.fr0
  | true =>
    obtain ⟨hi, hbl, hea⟩ := ht rfl
    simp only [nilc_some, fad_mk, pik_true, pik_false, cnd_true, cnd_false, gif_same, gif_tf, gif_ft, gif_undef, bi_add, bi_sub, bi_mul, bi_eql, bi_neq, bi_lss, bi_leq, bi_gtr, bi_geq, notB_bool, cvi_int, lenS_mk, lenT_mk, ext0, ext1, ext2, nilP_mk, nilS_mk, fldv_agg, jn0_k, jn1_k, jn2_k, jn1_and, jn1_or, ex_some, Option.isNone_some, Option.isNone_none, Bool.false_bne, Bool.bne_true, Bool.bne_false, Bool.true_bne, Bool.not_true, Bool.not_false, Bool.and_true, Bool.true_and, Bool.and_false, Bool.false_and, Bool.or_true, Bool.true_or, Bool.or_false, Bool.false_or, cond_true, cond_false, List.getElem?_toArray, List.getElem?_cons_zero, List.getElem?_cons_succ, Nat.zero_add, Nat.add_zero, Nat.reduceAdd, forall_const, L_api_Msg hs4.blk, L_api_Msg__Kind hs4.blk, L_api_Msg__Req hs4.blk, L_api_Msg__IDs hs4.blk, L_api_Msg__Blocks hs4.blk]
    refine jn1_dup ?_
    refine cal_i (few_spec (hs4.mr ha'.mr) ha'.bl) ?_
    rintro _ w5 ⟨hf5, t, rfl, ht'⟩
    have hs5 := hs4.old hf5
    cases t with
    | false =>
      simp only [nilc_some, fad_mk, pik_true, pik_false, cnd_true, cnd_false, gif_same, gif_tf, gif_ft, gif_undef, bi_add, bi_sub, bi_mul, bi_eql, bi_neq, bi_lss, bi_leq, bi_gtr, bi_geq, notB_bool, cvi_int, lenS_mk, lenT_mk, ext0, ext1, ext2, nilP_mk, nilS_mk, fldv_agg, jn0_k, jn1_k, jn2_k, jn1_and, jn1_or, ex_some, Option.isNone_some, Option.isNone_none, Bool.false_bne, Bool.bne_true, Bool.bne_false, Bool.true_bne, Bool.not_true, Bool.not_false, Bool.and_true, Bool.true_and, Bool.and_false, Bool.false_and, Bool.or_true, Bool.true_or, Bool.or_false, Bool.false_or, cond_true, cond_false, List.getElem?_toArray, List.getElem?_cons_zero, List.getElem?_cons_succ, Nat.zero_add, Nat.add_zero, Nat.reduceAdd, forall_const]
      exact lv hs5.fr0
    | true =>
      simp only [nilc_some, fad_mk, pik_true, pik_false, cnd_true, cnd_false, gif_same, gif_tf, gif_ft, gif_undef, bi_add, bi_sub, bi_mul, bi_eql, bi_neq, bi_lss, bi_leq, bi_gtr, bi_geq, notB_bool, cvi_int, lenS_mk, lenT_mk, ext0, ext1, ext2, nilP_mk, nilS_mk, fldv_agg, jn0_k, jn1_k, jn2_k, jn1_and, jn1_or, ex_some, Option.isNone_some, Option.isNone_none, Bool.false_bne, Bool.bne_true, Bool.bne_false, Bool.true_bne, Bool.not_true, Bool.not_false, Bool.and_true, Bool.true_and, Bool.and_false, Bool.false_and, Bool.or_true, Bool.true_or, Bool.or_false, Bool.false_or, cond_true, cond_false, List.getElem?_toArray, List.getElem?_cons_zero, List.getElem?_cons_succ, Nat.zero_add, Nat.add_zero, Nat.reduceAdd, forall_const, L_api_Msg hs5.p1.blk, L_api_Msg__Kind hs5.p1.blk, L_api_Msg__Req hs5.p1.blk, L_api_Msg__IDs hs5.p1.blk, L_api_Msg__Blocks hs5.p1.blk]
      have hea' : ∀ s ∈ l, s.l.length ≤ 1000000 := fun s hs => by have := hea s hs; omega
      refine cal_i (mrClone_spec (hs5.mr ha.mr) (by omega) (by omega) hea') ?_
      rintro _ w6 ⟨iv5, bv5, L5, rfl, hL5, hs6⟩
      replace hs6 := hs5.join hs6
      refine alloc_s hs6 (A_api_Msg w6) fun g5 w7 hs7 => ?_
      refine St_api_Msg (b := (m.k, m.q, iv5, bv5)) hs7 (one_api_Msg (Sep.oneR hs7.p1) (Sep.oneR hs7.p2)) fun w8 hs8 => ?_
      obtain ⟨T, hT⟩ : ∃ T, T = mb g5 m iv5 bv5 :: (mown m iv5 bv5 L5 ++ [mb g' n iv' bv', mb g m iv bv]) := ⟨_, rfl⟩
      have t5 : ∀ {z : World}, Sep w z T → z.heap[g5]? = some (.cells (Rdr.cells Q_api_Msg (m.k, m.q, iv5, bv5)).toArray T_api_Msg (0, 0)) := fun {z} h => h.memB (by rw [hT]; simp)
      have t2 : ∀ {z : World}, Sep w z T → z.heap[g]? = some (.cells (Rdr.cells Q_api_Msg (m.k, m.q, iv, bv)).toArray T_api_Msg (0, 0)) := fun {z} h => h.memB (by rw [hT]; simp)
      have t3 : ∀ {z : World}, Sep w z T → z.heap[g']? = some (.cells (Rdr.cells Q_api_Msg (n.k, n.q, iv', bv')).toArray T_api_Msg (0, 0)) := fun {z} h => h.memB (by rw [hT]; simp)
      have r5 : ∀ {z : World}, Sep w z T → MR z.heap m iv5 bv5 L5 := fun {z} h => by
        rw [hT] at h
        exact mown_rd (Bs := [mb g' n iv' bv', mb g m iv bv]) h.tail hL5.symm
      replace hs8 : Sep w w8 T := by rw [hT]; exact hs8
      clear hT
      simp only [L_api_Msg (t2 hs8), L_api_Msg__Kind (t2 hs8), L_api_Msg__Req (t2 hs8), L_api_Msg__IDs (t2 hs8), L_api_Msg__Blocks (t2 hs8)]
      refine cal_i (mClone_spec (hs8.mr ha.mr) (by omega) (by omega) hea') ?_
      rintro _ w9 ⟨iv6, bv6, L6, rfl, hL6, hs9⟩
      replace hs9 : Sep w w9 (rows (rVec 32) iv6 m.ids :: rows qv bv6 (L6.map (·.v)) :: (L6.map oB ++ T)) := hs8.join hs9
      refine alloc_s hs9 (A_api_Msg w9) fun g6 w10 hs10 => ?_
      refine St_api_Msg (b := (m.k, m.q, iv6, bv6)) hs10 (one_api_Msg (Sep.oneR hs10.p1) (Sep.oneR hs10.p2)) fun w11 hs11 => ?_
      have tT : ∀ {z : World} {X : List Asn}, Sep w z (X ++ (L6.map oB ++ T)) → Sep w z T := fun {z X} h => Sep.dropL (As := L6.map oB) (Sep.dropL h)
      have hsT := tT (X := [_, _, _]) hs11
      simp only [L_api_Msg (t2 hsT), L_api_Msg__Kind (t2 hsT), L_api_Msg__Req (t2 hsT), L_api_Msg__IDs (t2 hsT), L_api_Msg__Blocks (t2 hsT)]
      refine cal_i (mrBytes_spec (hsT.mr ha.mr) ha.bl) ?_
      rintro _ w12 ⟨s, rfl, hs12⟩
      replace hs12 : Sep w w12 ([ownB s m.out, mb g6 m iv6 bv6, rows (rVec 32) iv6 m.ids, rows qv bv6 (L6.map (·.v))] ++ (L6.map oB ++ T)) := hs11.join hs12
      simp only [nilc_some, fad_mk, pik_true, pik_false, cnd_true, cnd_false, gif_same, gif_tf, gif_ft, gif_undef, bi_add, bi_sub, bi_mul, bi_eql, bi_neq, bi_lss, bi_leq, bi_gtr, bi_geq, notB_bool, cvi_int, lenS_mk, lenT_mk, ext0, ext1, ext2, nilP_mk, nilS_mk, fldv_agg, jn0_k, jn1_k, jn2_k, jn1_and, jn1_or, ex_some, Option.isNone_some, Option.isNone_none, Bool.false_bne, Bool.bne_true, Bool.bne_false, Bool.true_bne, Bool.not_true, Bool.not_false, Bool.and_true, Bool.true_and, Bool.and_false, Bool.false_and, Bool.or_true, Bool.true_or, Bool.or_false, Bool.false_or, cond_true, cond_false, List.getElem?_toArray, List.getElem?_cons_zero, List.getElem?_cons_succ, Nat.zero_add, Nat.add_zero, Nat.reduceAdd, forall_const]
      obtain ⟨Bs, hBs⟩ : ∃ Bs, Bs = [ownB s m.out, mb g6 m iv6 bv6, rows (rVec 32) iv6 m.ids, rows qv bv6 (L6.map (·.v))] ++ (L6.map oB ++ T) := ⟨_, rfl⟩
      have bT : ∀ {z : World}, Sep w z Bs → Sep w z T := fun {z} h => tT (by rw [hBs] at h; exact h)
      have b6 : ∀ {z : World}, Sep w z Bs → z.heap[g6]? = some (.cells (Rdr.cells Q_api_Msg (m.k, m.q, iv6, bv6)).toArray T_api_Msg (0, 0)) := fun {z} h => h.memB (by rw [hBs]; simp)
      have r6 : ∀ {z : World}, Sep w z Bs → MR z.heap m iv6 bv6 L6 := fun {z} h => by
        rw [hBs] at h
        exact mown_rd (Bs := T) h.tail.tail hL6.symm
      have rs : ∀ {z : World}, Sep w z Bs → RdB z.heap s m.out := fun {z} h => by rw [hBs] at h; exact Sep.rd h
      have hL6l : L6.length ≤ 40 := by
        have h1 := congrArg List.length hL6
        rw [List.length_map, ha.mr.eq, List.length_map] at h1
        omega
      have hs12B : Sep w w12 Bs := by rw [hBs]; exact hs12
      have e2 : ∀ {S : World → Prop} {K : Value → Prop}, (∀ u, S u → Sep w u Bs) → K (mq m iv bv) → rdS S (fun w => ldN 4 (.pointer (some ⟨g, 0, none⟩)) w.heap) K := fun {S K} hS hk => ⟨mq m iv bv, fun u hu => (L_api_Msg (t2 (bT (hS u hu))) _).mpr rfl, hk⟩
      have e3 : ∀ {S : World → Prop} {K : Value → Prop}, (∀ u, S u → Sep w u Bs) → K (mq n iv' bv') → rdS S (fun w => ldN 4 (.pointer (some ⟨g', 0, none⟩)) w.heap) K := fun {S K} hS hk => ⟨mq n iv' bv', fun u hu => (L_api_Msg (t3 (bT (hS u hu))) _).mpr rfl, hk⟩
      have e6 : ∀ {S : World → Prop} {K : Value → Prop}, (∀ u, S u → Sep w u Bs) → K (mq m iv6 bv6) → rdS S (fun w => ldN 4 (.pointer (some ⟨g6, 0, none⟩)) w.heap) K := fun {S K} hS hk => ⟨mq m iv6 bv6, fun u hu => (L_api_Msg (b6 (hS u hu)) _).mpr rfl, hk⟩
      have idS : ∀ u, Sep w u Bs → Sep w u Bs := fun u h => h
      refine drH_S hs12B fun w13 hs13 _ => ?_
      refine e2 idS ?_
      refine e2 idS ?_
      refine efS_i (cal_i (mCheck_spec (hs13.mr ha.mr) ha.bl) ?_)
      rintro _ w14 ⟨rfl, hf14⟩
      have hs14 := hs13.old hf14
      refine ⟨hs14, ?_⟩
      refine efC_calA (w0 := w) (As := Bs) (cal_i (mrCheck_spec (hs14.mr ha.mr) ha.bl) ?_)
      rintro _ w15 ⟨rfl, hf15⟩
      have hs15 := hs14.old hf15
      refine ⟨hs15, ?_⟩
      simp only [nilc_some, fad_mk, pik_true, pik_false, cnd_true, cnd_false, gif_same, gif_tf, gif_ft, gif_undef, bi_add, bi_sub, bi_mul, bi_eql, bi_neq, bi_lss, bi_leq, bi_gtr, bi_geq, notB_bool, cvi_int, lenS_mk, lenT_mk, ext0, ext1, ext2, nilP_mk, nilS_mk, fldv_agg, jn0_k, jn1_k, jn2_k, jn1_and, jn1_or, ex_some, Option.isNone_some, Option.isNone_none, Bool.false_bne, Bool.bne_true, Bool.bne_false, Bool.true_bne, Bool.not_true, Bool.not_false, Bool.and_true, Bool.true_and, Bool.and_false, Bool.false_and, Bool.or_true, Bool.true_or, Bool.or_false, Bool.false_or, cond_true, cond_false, List.getElem?_toArray, List.getElem?_cons_zero, List.getElem?_cons_succ, Nat.zero_add, Nat.add_zero, Nat.reduceAdd, forall_const, bne_self_eq_false]
      refine jn1_dup ?_
      refine e2 idS (e3 idS (e2 idS (e3 idS ?_)))
      refine efS_i (cal_i (mSame_spec (hs15.mr ha.mr) (hs15.mr ha'.mr) ha.bl ha.ids) ?_)
      rintro _ w16 ⟨rfl, hf16⟩
      have hs16 := hs15.old hf16
      refine ⟨hs16, efS_i (cal_i (mrSame_spec (hs16.mr ha.mr) (hs16.mr ha'.mr) ha.bl ha.ids) ?_)⟩
      rintro _ w17 ⟨rfl, hf17⟩
      have hs17 := hs16.old hf17
      refine ⟨hs17, ⟨_, fun u _ => (neS_bool (decide (m = n)) (decide (m = n)) UT_bool _).mpr rfl, ?_⟩⟩
      rw [bne_self_eq_false]
      simp only [nilc_some, fad_mk, pik_true, pik_false, cnd_true, cnd_false, gif_same, gif_tf, gif_ft, gif_undef, bi_add, bi_sub, bi_mul, bi_eql, bi_neq, bi_lss, bi_leq, bi_gtr, bi_geq, notB_bool, cvi_int, lenS_mk, lenT_mk, ext0, ext1, ext2, nilP_mk, nilS_mk, fldv_agg, jn0_k, jn1_k, jn2_k, jn1_and, jn1_or, ex_some, Option.isNone_some, Option.isNone_none, Bool.false_bne, Bool.bne_true, Bool.bne_false, Bool.true_bne, Bool.not_true, Bool.not_false, Bool.and_true, Bool.true_and, Bool.and_false, Bool.false_and, Bool.or_true, Bool.true_or, Bool.or_false, Bool.false_or, cond_true, cond_false, List.getElem?_toArray, List.getElem?_cons_zero, List.getElem?_cons_succ, Nat.zero_add, Nat.add_zero, Nat.reduceAdd, forall_const]
      refine jn1_dup ?_
      refine e2 idS (e2 idS ?_)
      refine efS_i (cal_i (mSame_spec (hs17.mr ha.mr) (hs17.mr ha.mr) ha.bl ha.ids) ?_)
      rintro _ w18 ⟨rfl, hf18⟩
      have hs18 := hs17.old hf18
      refine ⟨hs18, ?_⟩
      simp only [decide_true, nilc_some, fad_mk, pik_true, pik_false, cnd_true, cnd_false, gif_same, gif_tf, gif_ft, gif_undef, bi_add, bi_sub, bi_mul, bi_eql, bi_neq, bi_lss, bi_leq, bi_gtr, bi_geq, notB_bool, cvi_int, lenS_mk, lenT_mk, ext0, ext1, ext2, nilP_mk, nilS_mk, fldv_agg, jn0_k, jn1_k, jn2_k, jn1_and, jn1_or, ex_some, Option.isNone_some, Option.isNone_none, Bool.false_bne, Bool.bne_true, Bool.bne_false, Bool.true_bne, Bool.not_true, Bool.not_false, Bool.and_true, Bool.true_and, Bool.and_false, Bool.false_and, Bool.or_true, Bool.true_or, Bool.or_false, Bool.false_or, cond_true, cond_false, List.getElem?_toArray, List.getElem?_cons_zero, List.getElem?_cons_succ, Nat.zero_add, Nat.add_zero, Nat.reduceAdd, forall_const]
      refine jn1_dup ?_
      refine e6 idS (e2 idS ?_)
      refine efS_i (cal_i (mrSame_spec (m := m) (n := m) (r6 hs18) (hs18.mr ha.mr) (by omega) ha.ids) ?_)
      rintro _ w19 ⟨rfl, hf19⟩
      have hs19 := hs18.old hf19
      refine ⟨hs19, ?_⟩
      simp only [decide_true, nilc_some, fad_mk, pik_true, pik_false, cnd_true, cnd_false, gif_same, gif_tf, gif_ft, gif_undef, bi_add, bi_sub, bi_mul, bi_eql, bi_neq, bi_lss, bi_leq, bi_gtr, bi_geq, notB_bool, cvi_int, lenS_mk, lenT_mk, ext0, ext1, ext2, nilP_mk, nilS_mk, fldv_agg, jn0_k, jn1_k, jn2_k, jn1_and, jn1_or, ex_some, Option.isNone_some, Option.isNone_none, Bool.false_bne, Bool.bne_true, Bool.bne_false, Bool.true_bne, Bool.not_true, Bool.not_false, Bool.and_true, Bool.true_and, Bool.and_false, Bool.false_and, Bool.or_true, Bool.true_or, Bool.or_false, Bool.false_or, cond_true, cond_false, List.getElem?_toArray, List.getElem?_cons_zero, List.getElem?_cons_succ, Nat.zero_add, Nat.add_zero, Nat.reduceAdd, forall_const]
      refine jn1_dup ?_
      refine e2 idS ?_
      simp only [(rs hs19).len]
      refine efS_i (cal_i (Size_spec (hs19.mr ha.mr) ha.bl) ?_)
      rintro _ w20 ⟨rfl, hf20⟩
      have hs20 := hs19.old hf20
      refine ⟨hs20, ?_⟩
      simp only [nilc_some, fad_mk, pik_true, pik_false, cnd_true, cnd_false, gif_same, gif_tf, gif_ft, gif_undef, bi_add, bi_sub, bi_mul, bi_eql, bi_neq, bi_lss, bi_leq, bi_gtr, bi_geq, notB_bool, cvi_int, lenS_mk, lenT_mk, ext0, ext1, ext2, nilP_mk, nilS_mk, fldv_agg, jn0_k, jn1_k, jn2_k, jn1_and, jn1_or, ex_some, Option.isNone_some, Option.isNone_none, Bool.false_bne, Bool.bne_true, Bool.bne_false, Bool.true_bne, Bool.not_true, Bool.not_false, Bool.and_true, Bool.true_and, Bool.and_false, Bool.false_and, Bool.or_true, Bool.true_or, Bool.or_false, Bool.false_or, cond_true, cond_false, List.getElem?_toArray, List.getElem?_cons_zero, List.getElem?_cons_succ, Nat.zero_add, Nat.add_zero, Nat.reduceAdd, forall_const, bne_self_eq_false, L_api_Msg (b6 hs20), L_api_Msg__Kind (b6 hs20), L_api_Msg__Req (b6 hs20), L_api_Msg__IDs (b6 hs20), L_api_Msg__Blocks (b6 hs20), (r6 hs20).ids.len]
      rw [hBs] at hs20
      clear hs19 hs18 hs17 hs16 hs15 hs14 hs13 hs12B e2 e3 e6 rs r6 b6 bT hBs idS
      have hle : ∀ s ∈ L6, s.l.length ≤ 600 := fun s hs => by
        have h1 : s.l ∈ l.map (·.l) := by rw [← ha.mr.eq, ← hL6]; exact List.mem_map_of_mem hs
        obtain ⟨s', hs', he⟩ := List.mem_map.1 h1
        rw [← he]
        exact hea s' hs'
      refine ⟨fun y w' => ∃ (j : Nat) (d : List UInt8), y = .int .i64 j ∧ j ≤ m.ids.length ∧ d.length = m.ids.length * 32 ∧ Sep w w' ([own iv6 32 m.ids.length (bvs d), mb g6 m iv6 bv6, rows qv bv6 (L6.map (·.v))] ++ (L6.map oB ++ T)), fun y _ => (m.ids.length - RowKit.intOf y).toNat,
        ⟨0, encI m.ids, rfl, by omega, by rw [encI_len]; omega, ?_⟩, ?_⟩
      · have h := hs20.pick [2, 1, 3] 4
        rw [← cells_bvs]
        exact h
      rintro _ w21 ⟨j, d, rfl, hj, hd, hs21⟩ -
      simp only [nilc_some, fad_mk, pik_true, pik_false, cnd_true, cnd_false, gif_same, gif_tf, gif_ft, gif_undef, bi_add, bi_sub, bi_mul, bi_eql, bi_neq, bi_lss, bi_leq, bi_gtr, bi_geq, notB_bool, cvi_int, lenS_mk, lenT_mk, ext0, ext1, ext2, nilP_mk, nilS_mk, fldv_agg, jn0_k, jn1_k, jn2_k, jn1_and, jn1_or, ex_some, Option.isNone_some, Option.isNone_none, Bool.false_bne, Bool.bne_true, Bool.bne_false, Bool.true_bne, Bool.not_true, Bool.not_false, Bool.and_true, Bool.true_and, Bool.and_false, Bool.false_and, Bool.or_true, Bool.true_or, Bool.or_false, Bool.false_or, cond_true, cond_false, List.getElem?_toArray, List.getElem?_cons_zero, List.getElem?_cons_succ, Nat.zero_add, Nat.add_zero, Nat.reduceAdd, forall_const]
      rw [cnd_bool]
      refine ⟨fun h => ?_, fun h => ?_⟩
      · have hlt : j < m.ids.length := by simp at h; omega
        refine drH_S hs21 fun w22 hs22 _ => ?_
        refine rdS_ld (v := iv6) (fun u hu K hk => (L_api_Msg__IDs (hu.p1.blk) K).mpr hk) ?_
        obtain ⟨p, hp, b, hr, hst⟩ := turn_name hs22 hd hlt
        refine hp _ ?_
        refine rdS_ld (v := Go.Fx.bv b) (fun u hu K hk => hr u hu K hk) ?_
        rw [xor255]
        refine hp _ ?_
        refine efC_st1 (hst _ _ fun d' w23 hd' hs23 => ?_)
        rw [wi64 (by omega) (by omega)]
        exact ⟨⟨j + 1, d', by simp, by omega, hd', hs23⟩, by simp [RowKit.intOf]; omega⟩
      · have hrw : ∀ {z : World} {L : List Asn}, Sep w z ([own iv6 32 m.ids.length (bvs d), mb g6 m iv6 bv6, rows qv bv6 (L6.map (·.v))] ++ L) → Rows' qv z.heap bv6 (L6.map (·.v)) := fun {z L} h => Sep.rows (Sep.pick h [2, 0, 1] 3)
        simp only [L_api_Msg hs21.p1.blk, L_api_Msg__Kind hs21.p1.blk, L_api_Msg__Req hs21.p1.blk, L_api_Msg__IDs hs21.p1.blk, L_api_Msg__Blocks hs21.p1.blk, (hrw hs21).len, List.length_map]
        obtain ⟨X, hX⟩ : ∃ X, X = [own iv6 32 m.ids.length (bvs d), mb g6 m iv6 bv6, rows qv bv6 (L6.map (·.v))] := ⟨_, rfl⟩
        rw [← hX] at hs21 hrw
        refine ⟨fun y w' => ∃ (i : Nat) (L : List (Sl UInt8)), y = .int .i64 i ∧ i ≤ L6.length ∧ L.map (fun s => (s.v, s.l.length)) = L6.map (fun s => (s.v, s.l.length)) ∧ Sep w w' (X ++ (L.map oB ++ T)), fun y _ => (L6.length - RowKit.intOf y).toNat, ⟨0, L6, rfl, by omega, rfl, hs21⟩, ?_⟩
        rintro _ w24 ⟨i, L, rfl, hi', hL, hs24⟩ -
        simp only [nilc_some, fad_mk, pik_true, pik_false, cnd_true, cnd_false, gif_same, gif_tf, gif_ft, gif_undef, bi_add, bi_sub, bi_mul, bi_eql, bi_neq, bi_lss, bi_leq, bi_gtr, bi_geq, notB_bool, cvi_int, lenS_mk, lenT_mk, ext0, ext1, ext2, nilP_mk, nilS_mk, fldv_agg, jn0_k, jn1_k, jn2_k, jn1_and, jn1_or, ex_some, Option.isNone_some, Option.isNone_none, Bool.false_bne, Bool.bne_true, Bool.bne_false, Bool.true_bne, Bool.not_true, Bool.not_false, Bool.and_true, Bool.true_and, Bool.and_false, Bool.false_and, Bool.or_true, Bool.true_or, Bool.or_false, Bool.false_or, cond_true, cond_false, List.getElem?_toArray, List.getElem?_cons_zero, List.getElem?_cons_succ, Nat.zero_add, Nat.add_zero, Nat.reduceAdd, forall_const]
        rw [cnd_bool]
        refine ⟨fun h => ?_, fun h => ?_⟩
        · have hlt : i < L6.length := by simp at h; omega
          have hx := List.getElem?_eq_getElem hlt
          generalize L6[i] = s6 at hx
          have hg : (L.map (fun s => (s.v, s.l.length)))[i]? = some (s6.v, s6.l.length) := by rw [hL, List.getElem?_map, hx]; rfl
          rw [List.getElem?_map] at hg
          obtain ⟨s', hs', he⟩ := Option.map_eq_some_iff.1 hg
          have hev : s'.v = s6.v := congrArg Prod.fst he
          have hel : s'.l.length = s6.l.length := congrArg Prod.snd he
          refine Rows'.ld1 (q := qv) (hrw hs24) (a := s'.v) (by rw [List.getElem?_map, hx, hev]; rfl) .i64 ?_
          obtain ⟨hs25, back⟩ := hs24.nth hs'
          simp only [(Sep.rd hs25).len]
          have h600 := hle s6 (List.mem_of_getElem? hx)
          refine flip_loop hs25 (by omega) fun w26 hs26 => ?_
          rw [wi64 (by omega) (by omega)]
          refine ⟨⟨i + 1, L.set i ⟨s'.v, flip s'.l s'.l.length⟩, by simp, by omega, ?_, back _ _ hs26⟩, by simp [RowKit.intOf]; omega⟩
          rw [← hL, List.map_set]
          apply List.ext_getElem?
          intro k
          rw [List.getElem?_set]
          split
          · rename_i hik
            subst hik
            simp only [List.length_map, flip_len]
            rw [List.getElem?_map, hs', if_pos (List.getElem?_eq_some_iff.1 hs').1]
            rfl
          · rfl
        · have hsT := Sep.dropL (As := L.map oB) (Sep.dropL hs24)
          simp only [L_api_Msg (t2 hsT), L_api_Msg__Kind (t2 hsT), L_api_Msg__Req (t2 hsT), L_api_Msg__IDs (t2 hsT), L_api_Msg__Blocks (t2 hsT), L_api_Msg (t5 hsT), L_api_Msg__Kind (t5 hsT), L_api_Msg__Req (t5 hsT), L_api_Msg__IDs (t5 hsT), L_api_Msg__Blocks (t5 hsT)]
          refine cal_i (mrSame_spec (m := m) (n := m) (hsT.mr ha.mr) (r5 hsT) ha.bl ha.ids) ?_
          rintro _ w27 ⟨rfl, hf27⟩
          simp only [decide_true]
          exact hR _ _ ⟨rfl, (hsT.old hf27).fr0⟩
end
end Go.Fx
