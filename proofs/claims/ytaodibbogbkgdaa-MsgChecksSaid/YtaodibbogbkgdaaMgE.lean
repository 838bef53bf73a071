/-
  A message in memory of its own: the program's and the document's.
-/
import Derived.Test.YtaodibbogbkgdaaMgD
set_option linter.unusedVariables false
set_option linter.unusedSimpArgs false
namespace Go.Fx
theorem Sep.memB {w0 w : World} {As : List Asn} {g : Nat} {o : Obj} (h : Sep w0 w As) (hm : Asn.obj g o ∈ As) : w.heap[g]? = some o := by
  obtain ⟨F, hF, _⟩ := h.onL hm
  exact hF
/-- One more behind the last one. -/
theorem Sep.put {w0 w : World} {α : Type} {f : α → Asn} {Xs T : List Asn} {L : List α} {s : α} (h : Sep w0 w (f s :: (Xs ++ (L.map f ++ T)))) : Sep w0 w (Xs ++ ((L ++ [s]).map f ++ T)) := by
  refine h.perm ?_
  rw [List.map_append, List.append_assoc, ← List.append_assoc, ← List.append_assoc]
  exact List.perm_middle.symm
theorem Sep.dropR {w0 w : World} {As Bs : List Asn} (h : Sep w0 w (As ++ Bs)) : Sep w0 w As := (h.perm List.perm_append_comm).dropL
/-- One out of the middle. -/
theorem Sep.mid {w0 w : World} {As Bs : List Asn} {A : Asn} (h : Sep w0 w (As ++ A :: Bs)) : Sep w0 w (A :: (As ++ Bs)) := h.perm List.perm_middle
abbrev oB (s : Sl UInt8) : Asn := ownB s.v s.l
theorem rdS_ld {S : World → Prop} {p v : Value} {K : Value → Prop} (hS : ∀ u, S u → ∀ K : Value → Prop, K v → ld1 p u.heap K) (hk : K v) : rdS S (fun w => ld1 p w.heap) K := ⟨v, fun u hu => hS u hu _ rfl, hk⟩
section
variable {w0 w : World} {As : List Asn} {iv bv u v : Value} {m : Msg} {l : List (Sl UInt8)}
theorem sClone_spec {l : List (Vec 32)} (hl : Rows' (rVec 32) w.heap u l) (hn : l.length ≤ 1000000) : cal P f_slices_Clone_api_ID_api_ID [u] w fun r w' => Sep w w' [rows (rVec 32) r l] := by
  refine s_slices_Clone_api_ID_api_ID fun R hR => ?_
  unfold c_slices_Clone_api_ID_api_ID
  obtain ⟨a, c, hv, hl', hh⟩ := id hl
  subst hv
  cases a with
  | none =>
    have h0 : l = [] := by
      rcases hh with h0 | ⟨_, _, _, _, _, h, _⟩
      · have h0 : l.length * 32 = 0 := h0
        exact List.eq_nil_of_length_eq_zero (by omega)
      · cases h
    subst h0
    simp only [nilc_some, fad_mk, pik_true, pik_false, cnd_true, cnd_false, gif_same, gif_tf, gif_ft, gif_undef, bi_add, bi_sub, bi_mul, bi_eql, bi_neq, bi_lss, bi_leq, bi_gtr, bi_geq, notB_bool, cvi_int, lenS_mk, lenT_mk, ext0, ext1, ext2, nilP_mk, nilS_mk, fldv_agg, jn0_k, jn1_k, jn2_k, jn1_and, jn1_or, ex_some, Option.isNone_some, Option.isNone_none, Bool.false_bne, Bool.bne_true, Bool.bne_false, Bool.true_bne, Bool.not_true, Bool.not_false, Bool.and_true, Bool.true_and, Bool.and_false, Bool.false_and, Bool.or_true, Bool.true_or, Bool.or_false, Bool.false_or, cond_true, cond_false, List.getElem?_toArray, List.getElem?_cons_zero, List.getElem?_cons_succ, Nat.zero_add, Nat.add_zero, Nat.reduceAdd, forall_const]
    exact hR _ _ (Sep.start w).nilR
  | some a =>
    simp only [nilc_some, fad_mk, pik_true, pik_false, cnd_true, cnd_false, gif_same, gif_tf, gif_ft, gif_undef, bi_add, bi_sub, bi_mul, bi_eql, bi_neq, bi_lss, bi_leq, bi_gtr, bi_geq, notB_bool, cvi_int, lenS_mk, lenT_mk, ext0, ext1, ext2, nilP_mk, nilS_mk, fldv_agg, jn0_k, jn1_k, jn2_k, jn1_and, jn1_or, ex_some, Option.isNone_some, Option.isNone_none, Bool.false_bne, Bool.bne_true, Bool.bne_false, Bool.true_bne, Bool.not_true, Bool.not_false, Bool.and_true, Bool.true_and, Bool.and_false, Bool.false_and, Bool.or_true, Bool.true_or, Bool.or_false, Bool.false_or, cond_true, cond_false, List.getElem?_toArray, List.getElem?_cons_zero, List.getElem?_cons_succ, Nat.zero_add, Nat.add_zero, Nat.reduceAdd, forall_const]
    have hb : ∀ w : World, (Instr.buildSlice T_sl_api_ID 0 #[]).run P w = .ok (.slice (some ⟨w.heap.size, 0, none⟩) 0 0) (w.alloc (.cells ([] : List Value).toArray T_api_ID)) := fun w => by kernel_rfl
    refine rows_build (q := rVec 32) (l := []) (Sep.start w) rfl (hb w) fun g w1 hs => ?_
    refine rows_app S_sl_api_ID U_sl_api_ID (by simp) hs (hl.fr hs.fr0) ?_ (by simp; omega) (by simp; omega) fun v' w2 hs2 => ?_
    · intro x hx
      obtain ⟨y, hy, hx⟩ := List.mem_flatMap.1 hx
      exact oneVec (a := y) x hx
    · exact hR _ _ (by simpa using hs2)
theorem one_build (w : World) (v : Value) (h : v.oneCell' = true) : (Instr.buildSlice T_sl_sl_uint8 1 #[(0, v)]).run P w = .ok (.slice (some ⟨w.heap.size, 0, none⟩) 1 1) (w.alloc (.cells ([v] : List Value).toArray T_sl_uint8)) := by
  cases v <;> first | (simp [Value.oneCell'] at h; done) | kernel_rfl
/-- 'append(x, y)', x and y slices of bytes' slices. -/
theorem app_bls {s : Sl UInt8} {L : List (Sl UInt8)} {Xs T : List Asn} {K : Value → World → Prop} (hs : Sep w0 w (oB s :: rows qv u (L.map (·.v)) :: (Xs ++ (L.map oB ++ T)))) (hL : L.length ≤ 1000000)
    (h : ∀ v' w', Sep w0 w' (rows qv v' ((L ++ [s]).map (·.v)) :: (Xs ++ ((L ++ [s]).map oB ++ T))) → K v' w') :
    efP P (Instr.buildSlice T_sl_sl_uint8 1 #[(0, s.v)]) w fun t w => efP P (Builtin.append_ #[T_sl_sl_uint8, T_sl_sl_uint8] T_sl_sl_uint8 #[u, t]) w K := by
  have hb := one_build w s.v (Sep.one hs)
  refine rows_build (q := qv) (l := [s.v]) hs rfl hb fun g w1 hs1 => ?_
  refine rows_app S_sl_sl_uint8 U_sl_sl_uint8 (by simp) hs1.p2 (Sep.rows hs1) ?_ (by simp; omega) (by simp; omega) fun v' w2 hs2 => ?_
  · simp only [List.flatMap_cons, List.flatMap_nil, List.append_nil]
    exact oneV (Sep.one hs1.p1)
  · refine h v' w2 ?_
    rw [List.map_append]
    exact Sep.put (Xs := rows qv v' (L.map (·.v) ++ [s].map (·.v)) :: Xs) (hs2.d1.p1)
theorem one_blank (v : Value) : ∀ u ∈ qv.cells v, u = v := by simp [qv]
theorem mClone_spec (hr : MR w.heap m iv bv l) (hi : m.ids.length ≤ 1000) (hl : l.length ≤ 1000) (hb : ∀ s ∈ l, s.l.length ≤ 1000000) :
    cal P f_msg_Clone [mq m iv bv] w fun r w' => ∃ iv' bv' L, r = mq m iv' bv' ∧ L.map (·.l) = m.bs ∧ Sep w w' (mown m iv' bv' L) := by
  refine s_msg_Clone fun R hR => ?_
  unfold c_msg_Clone
  refine bxA (Sep.start w) fun g w1 hs => ?_
  refine alloc_s hs (A_api_Msg w1) fun g2 w2 hs2 => ?_
  obtain ⟨T, hT⟩ : ∃ T, T = [blk g2 (Rdr.cells Q_api_Msg ((0 : Int), (0 : Int), Value.slice none 0 0, Value.slice none 0 0)).toArray T_api_Msg, mb g m iv bv] := ⟨_, rfl⟩
  replace hs2 : Sep w w2 T := by rw [hT]; exact hs2
  have qg : ∀ {z : World} {Bs}, Sep w z (Bs ++ T) → z.heap[g]? = some (.cells (Rdr.cells Q_api_Msg (m.k, m.q, iv, bv)).toArray T_api_Msg (0, 0)) := fun {z Bs} h => h.memB (by rw [hT]; simp)
  refine drH_S hs2 fun w3 hs3 _ => ?_
  refine ⟨fun t w' => ∃ g3 iv', t = .pointer (some ⟨g3, 0, none⟩) ∧ Sep w w' (rows qv (.slice none 0 0) [] :: blk g3 (Rdr.cells Q_api_Msg (m.k, m.q, iv', Value.slice none 0 0)).toArray T_api_Msg :: rows (rVec 32) iv' m.ids :: T), ?_, ?_⟩
  · have rd : ∀ {K : Value → Prop}, K (.int .i64 m.k) → rdS (fun u => Sep w u T) (fun w => ld1 (.pointer (some ⟨g, 0 + 0, none⟩)) w.heap) K := fun hk => rdS_ld (fun u hu K hk => (L_api_Msg__Kind (qg (Bs := []) hu) K).mpr hk) hk
    have rd1 : ∀ {K : Value → Prop}, K (.int .i64 m.q) → rdS (fun u => Sep w u T) (fun w => ld1 (.pointer (some ⟨g, 0 + 1, none⟩)) w.heap) K := fun hk => rdS_ld (fun u hu K hk => (L_api_Msg__Req (qg (Bs := []) hu) K).mpr hk) hk
    have rd2 : ∀ {K : Value → Prop}, K iv → rdS (fun u => Sep w u T) (fun w => ld1 (.pointer (some ⟨g, 0 + 2, none⟩)) w.heap) K := fun hk => rdS_ld (fun u hu K hk => (L_api_Msg__IDs (qg (Bs := []) hu) K).mpr hk) hk
    change fad _ _ _
    rw [fad_mk]
    refine rd ?_
    rw [fad_mk]
    refine rd1 ?_
    rw [fad_mk]
    refine rd2 ?_
    refine ⟨efS_i (cal_i (sClone_spec (hs3.mr hr).ids (by omega)) ?_), efS_i (alloc_s hs3 (A_api_Msg w3) fun g4 w4 hs4 => ⟨hs4.tail, efS_i (cal_i (sClone_spec (hs4.mr hr).ids (by omega)) ?_)⟩), trivial⟩
    · rintro iv' w4 hs4
      replace hs4 := hs3.join hs4
      refine ⟨hs4.tail, ⟨_, fun u _ => (B_api_Msg_0_1_2 (Sep.oneR hs4) _).mpr rfl, ?_⟩⟩
      refine efS_i (alloc_s hs4 (A_api_Msg w4) fun g5 w5 hs5 => ⟨hs5.tail.tail, ?_⟩)
      refine efC_stN (St_api_Msg hs5 (one_api_Msg (Sep.oneR hs5.p1) rfl) fun w6 hs6 => ⟨g5, iv', rfl, hs6.nilR⟩)
    · rintro iv' w5 hs5
      replace hs5 := hs4.join hs5
      refine ⟨hs5.tail.tail, ⟨_, fun u _ => (B_api_Msg_0_1_2 (Sep.oneR hs5) _).mpr rfl, ?_⟩⟩
      refine efC_stN (St_api_Msg hs5.p1 (one_api_Msg (Sep.oneR hs5) rfl) fun w6 hs6 => ⟨g4, iv', rfl, hs6.nilR⟩)
  · rintro _ w4 ⟨g3, iv', rfl, hs4⟩ _
    have hlb := (hs4.mr hr).bs.len
    simp only [nilc_some, fad_mk, pik_true, pik_false, cnd_true, cnd_false, gif_same, gif_tf, gif_ft, gif_undef, bi_add, bi_sub, bi_mul, bi_eql, bi_neq, bi_lss, bi_leq, bi_gtr, bi_geq, notB_bool, cvi_int, lenS_mk, lenT_mk, ext0, ext1, ext2, nilP_mk, nilS_mk, fldv_agg, jn0_k, jn1_k, jn2_k, jn1_and, jn1_or, ex_some, Option.isNone_some, Option.isNone_none, Bool.false_bne, Bool.bne_true, Bool.bne_false, Bool.true_bne, Bool.not_true, Bool.not_false, Bool.and_true, Bool.true_and, Bool.and_false, Bool.false_and, Bool.or_true, Bool.true_or, Bool.or_false, Bool.false_or, cond_true, cond_false, List.getElem?_toArray, List.getElem?_cons_zero, List.getElem?_cons_succ, Nat.zero_add, Nat.add_zero, Nat.reduceAdd, forall_const, L_api_Msg (qg (Bs := [_, _, _]) hs4), L_api_Msg__Kind (qg (Bs := [_, _, _]) hs4), L_api_Msg__Req (qg (Bs := [_, _, _]) hs4), L_api_Msg__IDs (qg (Bs := [_, _, _]) hs4), L_api_Msg__Blocks (qg (Bs := [_, _, _]) hs4), hlb]
    refine ⟨fun x w' => ∃ (i : Nat) (L : List (Sl UInt8)) (bv' : Value), x = .int .i64 i ∧ i ≤ l.length ∧ L.map (·.l) = (l.take i).map (·.l) ∧ Sep w w' (rows qv bv' (L.map (·.v)) :: ([mb g3 m iv' bv', rows (rVec 32) iv' m.ids] ++ (L.map oB ++ T))), fun x _ => (l.length - RowKit.intOf x).toNat,
      ⟨0, [], _, rfl, by omega, rfl, hs4⟩, ?_⟩
    rintro _ w5 ⟨i, L, bv', rfl, hi, hL, hs5⟩ -
    have hLl : L.length = i := by have := congrArg List.length hL; simp only [List.length_map, List.length_take] at this; omega
    simp only [nilc_some, fad_mk, pik_true, pik_false, cnd_true, cnd_false, gif_same, gif_tf, gif_ft, gif_undef, bi_add, bi_sub, bi_mul, bi_eql, bi_neq, bi_lss, bi_leq, bi_gtr, bi_geq, notB_bool, cvi_int, lenS_mk, lenT_mk, ext0, ext1, ext2, nilP_mk, nilS_mk, fldv_agg, jn0_k, jn1_k, jn2_k, jn1_and, jn1_or, ex_some, Option.isNone_some, Option.isNone_none, Bool.false_bne, Bool.bne_true, Bool.bne_false, Bool.true_bne, Bool.not_true, Bool.not_false, Bool.and_true, Bool.true_and, Bool.and_false, Bool.false_and, Bool.or_true, Bool.true_or, Bool.or_false, Bool.false_or, cond_true, cond_false, List.getElem?_toArray, List.getElem?_cons_zero, List.getElem?_cons_succ, Nat.zero_add, Nat.add_zero, Nat.reduceAdd, forall_const]
    rw [cnd_bool]
    refine ⟨fun h => ?_, fun h => ?_⟩
    · have hlt : i < l.length := by simp at h; omega
      have hx := List.getElem?_eq_getElem hlt
      generalize l[i] = s at hx
      have hm := List.mem_of_getElem? hx
      refine (hs5.mr hr).bs.ld hx .i64 ?_
      obtain ⟨Bs, hBs⟩ : ∃ Bs, Bs = rows qv bv' (L.map (·.v)) :: ([mb g3 m iv' bv', rows (rVec 32) iv' m.ids] ++ (L.map oB ++ T)) := ⟨_, rfl⟩
      have q3 : ∀ {z : World}, Sep w z Bs → z.heap[g3]? = some (.cells (Rdr.cells Q_api_Msg (m.k, m.q, iv', bv')).toArray T_api_Msg (0, 0)) := fun {z} h => h.memB (by rw [hBs]; simp)
      rw [← hBs] at hs5
      refine drH_S hs5 fun w6 hs6 _ => ?_
      refine rdS_ld (v := bv') (fun u hu K hk => (L_api_Msg__Blocks (q3 hu) K).mpr hk) ?_
      refine efS_i (cal_i (bClone_spec ((hs6.mr hr).bs.2 s hm) (by have := hb s hm; omega)) ?_)
      rintro v7 w7 hs7
      replace hs7 := hs6.join hs7
      refine ⟨hs7.tail, ?_⟩
      have hbd := one_build w7 v7 (Sep.one hs7)
      refine efS_i (rows_build (q := qv) (l := [v7]) hs7 rfl hbd fun g8 w8 hs8 => ⟨hs8.tail.tail, ?_⟩)
      rw [hBs] at hs8
      refine efC_efP (rows_app S_sl_sl_uint8 U_sl_sl_uint8 (by simp) (hs8.p2) (Sep.rows hs8) ?_ (by simp; omega) (by simp; omega) fun v9 w9 hs9 => ?_)
      · simp only [List.flatMap_cons, List.flatMap_nil, List.append_nil]
        exact oneV (Sep.one hs8.p1)
      refine efC_st1 (St_api_Msg__Blocks (b := v9) hs9.p3 (Sep.oneR hs9) fun w10 hs10 => ?_)
      rw [wi64 (by omega) (by omega)]
      refine ⟨⟨i + 1, L ++ [⟨v7, s.l⟩], v9, by simp, by omega, ?_, ?_⟩, by simp [RowKit.intOf]; omega⟩
      · rw [List.map_append, hL, List.take_add_one, hx]
        simp
      · have h1 := hs10.pick [3, 1, 0, 4] 5
        have := Sep.put (f := oB) (s := ⟨v7, s.l⟩) (Xs := [rows qv v9 (L.map (·.v) ++ [v7]), mb g3 m iv' v9, rows (rVec 32) iv' m.ids]) (L := L) (T := T) h1
        simpa using this
    · have hge : i = l.length := by simp at h; omega
      subst hge
      rw [List.take_length, ← hr.eq] at hL
      have q3 : w5.heap[g3]? = some (.cells (Rdr.cells Q_api_Msg (m.k, m.q, iv', bv')).toArray T_api_Msg (0, 0)) := hs5.memB (by simp)
      simp only [L_api_Msg q3, L_api_Msg__Kind q3, L_api_Msg__Req q3, L_api_Msg__IDs q3, L_api_Msg__Blocks q3]
      rw [hT] at hs5
      have h1 := Sep.mid (As := rows qv bv' (L.map (·.v)) :: mb g3 m iv' bv' :: rows (rVec 32) iv' m.ids :: L.map oB) (Bs := [mb g m iv bv]) (by simpa using hs5)
      refine St_api_Msg h1 (one_api_Msg (Sep.oneR (h1.pick [3] 4)) (Sep.oneR h1.p1)) fun w6 hs6 => ?_
      simp only [L_api_Msg hs6.blk, L_api_Msg__Kind hs6.blk, L_api_Msg__Req hs6.blk, L_api_Msg__IDs hs6.blk, L_api_Msg__Blocks hs6.blk]
      refine hR _ _ ⟨iv', bv', L, rfl, hL, ?_⟩
      exact Sep.dropR (As := rows (rVec 32) iv' m.ids :: rows qv bv' (L.map (·.v)) :: L.map oB) (Bs := [mb g m iv bv]) (hs6.pick [3, 1] 4)
/-- 'x[j]', read in a region that draws. -/
theorem rdS_el {S : World → Prop} {v : Value} {l : List (Sl UInt8)} {j : Nat} {s : Sl UInt8} {k : IntKind} {K : Value → Prop} (hS : ∀ u, S u → BSl u.heap v l) (hw : S w) (hj : l[j]? = some s) (hk : K s.v) :
    ixs 1 v (.int k (j : Int)) fun t => rdS S (fun w => ld1 t w.heap) K := by
  have hj' : (l.map (·.v))[j]? = some s.v := by rw [List.getElem?_map, hj]; rfl
  obtain ⟨g, o, c, rfl⟩ := (hS w hw).1.form (by decide) hj'
  have hlt := (List.getElem?_eq_some_iff.1 hj').1
  rw [ixs_mk _ _ _ _ _ _ _ _ (by omega) (by omega), Int.toNat_natCast]
  refine ⟨s.v, fun z hz => ?_, hk⟩
  have hat := At.of (q := qv) (by decide) (hS z hz).1 hj'
  exact (At.ld1 hat _).mpr rfl
theorem mrClone_spec (hr : MR w.heap m iv bv l) (hi : m.ids.length ≤ 1000) (hl : l.length ≤ 1000) (hb : ∀ s ∈ l, s.l.length ≤ 1000000) :
    cal P f_ref04_Clone [mq m iv bv] w fun r w' => ∃ iv' bv' L, r = mq m iv' bv' ∧ L.map (·.l) = m.bs ∧ Sep w w' (mown m iv' bv' L) := by
  refine s_ref04_Clone fun R hR => ?_
  unfold c_ref04_Clone
  refine bxA (Sep.start w) fun g w1 hs => ?_
  refine alloc_s hs (A_api_Msg w1) fun g2 w2 hs2 => ?_
  obtain ⟨T, hT⟩ : ∃ T, T = [blk g2 (Rdr.cells Q_api_Msg ((0 : Int), (0 : Int), Value.slice none 0 0, Value.slice none 0 0)).toArray T_api_Msg, mb g m iv bv] := ⟨_, rfl⟩
  replace hs2 : Sep w w2 T := by rw [hT]; exact hs2
  have qg : ∀ {z : World} {Bs}, Sep w z (Bs ++ T) → z.heap[g]? = some (.cells (Rdr.cells Q_api_Msg (m.k, m.q, iv, bv)).toArray T_api_Msg (0, 0)) := fun {z Bs} h => h.memB (by rw [hT]; simp)
  refine drH_S hs2 fun w3 hs3 _ => ?_
  refine ⟨fun t w' => ∃ g3 iv', t = .pointer (some ⟨g3, 0, none⟩) ∧ Sep w w' (rows qv (.slice none 0 0) [] :: blk g3 (Rdr.cells Q_api_Msg (m.k, m.q, iv', Value.slice none 0 0)).toArray T_api_Msg :: rows (rVec 32) iv' m.ids :: T), ?_, ?_⟩
  · have rd : ∀ {K : Value → Prop}, K (.int .i64 m.k) → rdS (fun u => Sep w u T) (fun w => ld1 (.pointer (some ⟨g, 0 + 0, none⟩)) w.heap) K := fun hk => rdS_ld (fun u hu K hk => (L_api_Msg__Kind (qg (Bs := []) hu) K).mpr hk) hk
    have rd1 : ∀ {K : Value → Prop}, K (.int .i64 m.q) → rdS (fun u => Sep w u T) (fun w => ld1 (.pointer (some ⟨g, 0 + 1, none⟩)) w.heap) K := fun hk => rdS_ld (fun u hu K hk => (L_api_Msg__Req (qg (Bs := []) hu) K).mpr hk) hk
    have rd2 : ∀ {K : Value → Prop}, K iv → rdS (fun u => Sep w u T) (fun w => ld1 (.pointer (some ⟨g, 0 + 2, none⟩)) w.heap) K := fun hk => rdS_ld (fun u hu K hk => (L_api_Msg__IDs (qg (Bs := []) hu) K).mpr hk) hk
    change fad _ _ _
    rw [fad_mk]
    refine rd ?_
    rw [fad_mk]
    refine rd1 ?_
    rw [fad_mk]
    refine rd2 ?_
    have one : ∀ x ∈ m.ids.flatMap (rVec 32).cells, x.oneCell' = true := fun x hx => by
      obtain ⟨y, hy, hx⟩ := List.mem_flatMap.1 hx
      exact oneVec (a := y) x hx
    refine ⟨efS_i (rows_app S_sl_api_ID U_sl_api_ID (by simp) hs3.nilR (hs3.mr hr).ids one (by simp; omega) (by simp; omega) fun iv' w4 hs4 => ?_), efS_i (alloc_s hs3 (A_api_Msg w3) fun g4 w4 hs4 => ⟨hs4.tail, efS_i (rows_app S_sl_api_ID U_sl_api_ID (by simp) hs4.nilR (hs4.mr hr).ids one (by simp; omega) (by simp; omega) fun iv' w5 hs5 => ?_)⟩), trivial⟩
    · rw [List.nil_append] at hs4
      refine ⟨hs4.tail, ⟨_, fun u _ => (B_api_Msg_0_1_2 (Sep.oneR hs4) _).mpr rfl, ?_⟩⟩
      refine efS_i (alloc_s hs4 (A_api_Msg w4) fun g5 w5 hs5 => ⟨hs5.tail.tail, ?_⟩)
      refine efC_stN (St_api_Msg hs5 (one_api_Msg (Sep.oneR hs5.p1) rfl) fun w6 hs6 => ⟨g5, iv', rfl, hs6.nilR⟩)
    · rw [List.nil_append] at hs5
      refine ⟨hs5.tail.tail, ⟨_, fun u _ => (B_api_Msg_0_1_2 (Sep.oneR hs5) _).mpr rfl, ?_⟩⟩
      refine efC_stN (St_api_Msg hs5.p1 (one_api_Msg (Sep.oneR hs5) rfl) fun w6 hs6 => ⟨g4, iv', rfl, hs6.nilR⟩)
  · rintro _ w4 ⟨g3, iv', rfl, hs4⟩ _
    refine ⟨fun x w' => ∃ (i : Nat) (L : List (Sl UInt8)) (bv' : Value), x = .int .i64 i ∧ i ≤ l.length ∧ L.map (·.l) = (l.take i).map (·.l) ∧ Sep w w' (rows qv bv' (L.map (·.v)) :: ([mb g3 m iv' bv', rows (rVec 32) iv' m.ids] ++ (L.map oB ++ T))), fun x _ => (l.length - RowKit.intOf x).toNat,
      ⟨0, [], _, rfl, by omega, rfl, hs4⟩, ?_⟩
    rintro _ w5 ⟨i, L, bv', rfl, hi, hL, hs5⟩ -
    have hLl : L.length = i := by have := congrArg List.length hL; simp only [List.length_map, List.length_take] at this; omega
    have hlb := (hs5.mr hr).bs.len
    have qg5 := hs5.memB (g := g) (o := .cells (Rdr.cells Q_api_Msg (m.k, m.q, iv, bv)).toArray T_api_Msg (0, 0)) (by rw [hT]; simp)
    simp only [nilc_some, fad_mk, pik_true, pik_false, cnd_true, cnd_false, gif_same, gif_tf, gif_ft, gif_undef, bi_add, bi_sub, bi_mul, bi_eql, bi_neq, bi_lss, bi_leq, bi_gtr, bi_geq, notB_bool, cvi_int, lenS_mk, lenT_mk, ext0, ext1, ext2, nilP_mk, nilS_mk, fldv_agg, jn0_k, jn1_k, jn2_k, jn1_and, jn1_or, ex_some, Option.isNone_some, Option.isNone_none, Bool.false_bne, Bool.bne_true, Bool.bne_false, Bool.true_bne, Bool.not_true, Bool.not_false, Bool.and_true, Bool.true_and, Bool.and_false, Bool.false_and, Bool.or_true, Bool.true_or, Bool.or_false, Bool.false_or, cond_true, cond_false, List.getElem?_toArray, List.getElem?_cons_zero, List.getElem?_cons_succ, Nat.zero_add, Nat.add_zero, Nat.reduceAdd, forall_const, L_api_Msg qg5, L_api_Msg__Kind qg5, L_api_Msg__Req qg5, L_api_Msg__IDs qg5, L_api_Msg__Blocks qg5, hlb]
    rw [cnd_bool]
    refine ⟨fun h => ?_, fun h => ?_⟩
    · have hlt : i < l.length := by simp at h; omega
      have hx := List.getElem?_eq_getElem hlt
      generalize l[i] = s at hx
      have hm := List.mem_of_getElem? hx
      obtain ⟨Bs, hBs⟩ : ∃ Bs, Bs = rows qv bv' (L.map (·.v)) :: ([mb g3 m iv' bv', rows (rVec 32) iv' m.ids] ++ (L.map oB ++ T)) := ⟨_, rfl⟩
      have q3 : ∀ {z : World}, Sep w z Bs → z.heap[g3]? = some (.cells (Rdr.cells Q_api_Msg (m.k, m.q, iv', bv')).toArray T_api_Msg (0, 0)) := fun {z} h => h.memB (by rw [hBs]; simp)
      rw [← hBs] at hs5
      refine drH_S hs5 fun w6 hs6 _ => ?_
      refine rdS_ld (v := bv') (fun u hu K hk => (L_api_Msg__Blocks (q3 hu) K).mpr hk) ?_
      have qg6 : ∀ {z : World}, Sep w z Bs → z.heap[g]? = some (.cells (Rdr.cells Q_api_Msg (m.k, m.q, iv, bv)).toArray T_api_Msg (0, 0)) := fun {z} h => h.memB (by rw [hBs, hT]; simp)
      refine rdS_ld (v := bv) (fun u hu K hk => (L_api_Msg__Blocks (qg6 hu) K).mpr hk) ?_
      refine rdS_el (v := bv) (hS := fun u hu => (hu.mr hr).bs) hs6 hx ?_
      refine efS_i (appB_s S_sl_uint8 U_sl_uint8 (by simp) hs6.nil ((hs6.mr hr).bs.2 s hm) (by have := hb s hm; simp; omega) fun v7 w7 hs7 => ?_)
      rw [List.nil_append] at hs7
      refine ⟨hs7.tail, ?_⟩
      have hbd := one_build w7 v7 (Sep.one hs7)
      refine efS_i (rows_build (q := qv) (l := [v7]) hs7 rfl hbd fun g8 w8 hs8 => ⟨hs8.tail.tail, ?_⟩)
      rw [hBs] at hs8
      refine efC_efP (rows_app S_sl_sl_uint8 U_sl_sl_uint8 (by simp) (hs8.p2) (Sep.rows hs8) ?_ (by simp; omega) (by simp; omega) fun v9 w9 hs9 => ?_)
      · simp only [List.flatMap_cons, List.flatMap_nil, List.append_nil]
        exact oneV (Sep.one hs8.p1)
      refine efC_st1 (St_api_Msg__Blocks (b := v9) hs9.p3 (Sep.oneR hs9) fun w10 hs10 => ?_)
      rw [wi64 (by omega) (by omega)]
      refine ⟨⟨i + 1, L ++ [⟨v7, s.l⟩], v9, by simp, by omega, ?_, ?_⟩, by simp [RowKit.intOf]; omega⟩
      · rw [List.map_append, hL, List.take_add_one, hx]
        simp
      · have h1 := hs10.pick [3, 1, 0, 4] 5
        have := Sep.put (f := oB) (s := ⟨v7, s.l⟩) (Xs := [rows qv v9 (L.map (·.v) ++ [v7]), mb g3 m iv' v9, rows (rVec 32) iv' m.ids]) (L := L) (T := T) h1
        simpa using this
    · have hge : i = l.length := by simp at h; omega
      subst hge
      rw [List.take_length, ← hr.eq] at hL
      have q3 : w5.heap[g3]? = some (.cells (Rdr.cells Q_api_Msg (m.k, m.q, iv', bv')).toArray T_api_Msg (0, 0)) := hs5.memB (by simp)
      simp only [L_api_Msg q3, L_api_Msg__Kind q3, L_api_Msg__Req q3, L_api_Msg__IDs q3, L_api_Msg__Blocks q3]
      rw [hT] at hs5
      have h1 := Sep.mid (As := rows qv bv' (L.map (·.v)) :: mb g3 m iv' bv' :: rows (rVec 32) iv' m.ids :: L.map oB) (Bs := [mb g m iv bv]) (by simpa using hs5)
      refine St_api_Msg h1 (one_api_Msg (Sep.oneR (h1.pick [3] 4)) (Sep.oneR h1.p1)) fun w6 hs6 => ?_
      simp only [L_api_Msg hs6.blk, L_api_Msg__Kind hs6.blk, L_api_Msg__Req hs6.blk, L_api_Msg__IDs hs6.blk, L_api_Msg__Blocks hs6.blk]
      refine hR _ _ ⟨iv', bv', L, rfl, hL, ?_⟩
      exact Sep.dropR (As := rows (rVec 32) iv' m.ids :: rows qv bv' (L.map (·.v)) :: L.map oB) (Bs := [mb g m iv bv]) (hs6.pick [3, 1] 4)
end
end Go.Fx
