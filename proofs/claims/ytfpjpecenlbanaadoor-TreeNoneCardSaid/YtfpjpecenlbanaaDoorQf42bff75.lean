/-
  What is proved: for all arguments the law TreeNone returns true, and its arguments read as they did. Conditions: none.
-/
import Derived.KernelRfl
import Derived.Test.YtfpjpecenlbanaaDoorRows
import Derived.WalkKit
import Derived.ProofKit
import Derived.OpenShut
import Derived.ChangeOld
import Derived.Below
import Derived.Carry
import Derived.Test.YtfpjpecenlbanaaDoorCards
import Derived.Test.YtfpjpecenlbanaaDoorTie
import Derived.LaidMore
import Derived.Stop.Joined
import Derived.Test.YtfpjpecenlbanaaDoorQfc7f34f2
import Derived.Test.YtfpjpecenlbanaaDoorQ29331318
import Derived.Test.YtfpjpecenlbanaaDoorQ51bd8519
import Derived.Test.YtfpjpecenlbanaaDoorQ38683303
import Derived.Test.YtfpjpecenlbanaaDoorQ7ac55a2a
set_option linter.unusedVariables false
set_option linter.unusedSimpArgs false
namespace Go.Fx
section
variable {w0 w w' : World} {As : List Asn} {g : Nat} {lv : Value} {t : Tr} {N : List TN}
theorem under_mem (hw : TrW t N) {a b : Vec 32} (ha : has t N a = true) : under t N a b = (decide (b ∈ pathOf t N a) || decide (b = t.root)) := by
  by_cases hb : has t N b = true
  · rw [under_path ha hb, Bool.or_comm]
  · have hb' : has t N b = false := by simpa using hb
    have h1 : b ∉ pathOf t N a := fun hm => by
      obtain ⟨j, hj⟩ := List.mem_iff_getElem?.1 hm
      exact hb (path_at hw a ha j b hj).1
    have h2 : b ≠ t.root := fun he => hb (mem_has (.inl he))
    unfold under
    rw [hb', decide_eq_false h1, decide_eq_false h2]
    simp
theorem mem_blk' {N : List TN} {k : Vec 32} {x : TN} (h : nodeOf k N = some x) : blkOf k N = some x.2.1 := by unfold blkOf; rw [h]; rfl
theorem WithinR_spec (hr : RfR w.heap g lv t N) (hw : TrW t N) (hn : N.length ≤ 1000000) (a b : Vec 32) (hh : hgt t N a ≤ 1000000) : cal P f_ref11_Tree_Within [.pointer (some ⟨g, 0, none⟩), kv a, kv b] w fun r w' => r = .bool (under t N a b) ∧ Fr [] w w' := by
  refine s_ref11_Tree_Within fun R hR => ?_
  unfold c_ref11_Tree_Within
  refine bxQ (Sep.start w) fun g3 w1 hs1 => ?_
  refine bxQ hs1 fun g4 w2 hs2 => ?_
  simp only [L_api_ID (Sep.p1 hs2).blk]
  refine cal_i (HasR_spec (hs2.rf hr) hn a) ?_
  rintro _ w3 ⟨rfl, hf3⟩
  have hs3 := hs2.old hf3
  simp only [nilc_some, fad_mk, pik_true, pik_false, cnd_true, cnd_false, gif_same, gif_tf, gif_ft, gif_undef, bi_add, bi_sub, bi_mul, bi_eql, bi_neq, bi_lss, bi_leq, bi_gtr, bi_geq, notB_bool, cvi_int, lenS_mk, lenT_mk, ext0, ext1, ext2, nilP_mk, nilS_mk, fldv_agg, jn0_k, jn1_k, jn2_k, jn1_and, jn1_or, ex_some, Option.isNone_some, Option.isNone_none, Bool.false_bne, Bool.bne_true, Bool.bne_false, Bool.true_bne, Bool.not_true, Bool.not_false, Bool.and_true, Bool.true_and, Bool.and_false, Bool.false_and, Bool.or_true, Bool.true_or, Bool.or_false, Bool.false_or, cond_true, cond_false, List.getElem?_toArray, List.getElem?_cons_zero, List.getElem?_cons_succ, Nat.zero_add, Nat.add_zero, Nat.reduceAdd, forall_const]
  rw [cnd_bool]
  refine ⟨fun h => ?_, fun h => ?_⟩
  · have ha : has t N a = false := by simpa using h
    exact hR _ _ ⟨by unfold under; rw [ha]; rfl, hs3.fr0⟩
  have ha : has t N a = true := by simpa using h
  rw [under_mem hw ha] at hR
  simp only [L_api_ID (Sep.p1 hs3).blk]
  refine cal_i (PathR_spec (hs3.rf hr) hw hn a hh) ?_
  intro pv w4 hs4
  replace hs4 := hs3.join hs4
  have hpl := path_len hw a ha
  refine ⟨fun y z => ∃ i : Nat, y = .int .i64 i ∧ i ≤ (pathOf t N a).length ∧ b ∉ (pathOf t N a).take i ∧ Sep w z [rows (rVec 32) pv (pathOf t N a), blk g4 (Rdr.cells (rVec 32) b).toArray T_api_ID, blk g3 (Rdr.cells (rVec 32) a).toArray T_api_ID], fun y _ => ((pathOf t N a).length - RowKit.intOf y).toNat, ⟨0, rfl, by omega, by simp, hs4⟩, ?_⟩
  rintro _ w5 ⟨i, rfl, hi, hnm, hs5⟩ -
  simp only [(Sep.rows hs5).len, nilc_some, fad_mk, pik_true, pik_false, cnd_true, cnd_false, gif_same, gif_tf, gif_ft, gif_undef, bi_add, bi_sub, bi_mul, bi_eql, bi_neq, bi_lss, bi_leq, bi_gtr, bi_geq, notB_bool, cvi_int, lenS_mk, lenT_mk, ext0, ext1, ext2, nilP_mk, nilS_mk, fldv_agg, jn0_k, jn1_k, jn2_k, jn1_and, jn1_or, ex_some, Option.isNone_some, Option.isNone_none, Bool.false_bne, Bool.bne_true, Bool.bne_false, Bool.true_bne, Bool.not_true, Bool.not_false, Bool.and_true, Bool.true_and, Bool.and_false, Bool.false_and, Bool.or_true, Bool.true_or, Bool.or_false, Bool.false_or, cond_true, cond_false, List.getElem?_toArray, List.getElem?_cons_zero, List.getElem?_cons_succ, Nat.zero_add, Nat.add_zero, Nat.reduceAdd, forall_const]
  rw [cnd_bool]
  refine ⟨fun h => ?_, fun h => ?_⟩
  · have hlt : i < (pathOf t N a).length := by simp at h; omega
    obtain ⟨x, hx⟩ : ∃ x, (pathOf t N a)[i]? = some x := ⟨_, List.getElem?_eq_getElem hlt⟩
    refine drw_s hs5 fun w6 hs6 _ => ?_
    change ixs 32 _ _ _
    refine Rows'.ldN (q := rVec 32) (by decide) (Sep.rows hs6) hx .i64 ?_
    simp only [L_api_ID (Sep.blk (Sep.p1 hs6)), eq_api_ID]
    rw [cnd_bool]
    refine ⟨fun h => ?_, fun h => ?_⟩
    · have h : x = b := of_decide_eq_true h
      exact hR _ _ ⟨by rw [decide_eq_true (h ▸ List.mem_of_getElem? hx)]; rfl, hs6.fr0⟩
    · have h : ¬ x = b := of_decide_eq_false h
      rw [wi64 (by omega) (by omega)]
      refine ⟨⟨i + 1, by simp, by omega, ?_, hs6⟩, by simp [RowKit.intOf]; omega⟩
      rw [List.take_add_one, hx, List.mem_append]
      rintro (hm | hm)
      · exact hnm hm
      · have hm : b = x := by simpa using hm
        exact h hm.symm
  · have hge : i = (pathOf t N a).length := by simp at h; omega
    rw [hge, List.take_of_length_le (Nat.le_refl _)] at hnm
    refine drw_s hs5 fun w6 hs6 _ => ?_
    obtain ⟨T, fr, hc⟩ := (hs6.rf hr).cell
    simp only [nilc_some, fad_mk, pik_true, pik_false, cnd_true, cnd_false, gif_same, gif_tf, gif_ft, gif_undef, bi_add, bi_sub, bi_mul, bi_eql, bi_neq, bi_lss, bi_leq, bi_gtr, bi_geq, notB_bool, cvi_int, lenS_mk, lenT_mk, ext0, ext1, ext2, nilP_mk, nilS_mk, fldv_agg, jn0_k, jn1_k, jn2_k, jn1_and, jn1_or, ex_some, Option.isNone_some, Option.isNone_none, Bool.false_bne, Bool.bne_true, Bool.bne_false, Bool.true_bne, Bool.not_true, Bool.not_false, Bool.and_true, Bool.true_and, Bool.and_false, Bool.false_and, Bool.or_true, Bool.true_or, Bool.or_false, Bool.false_or, cond_true, cond_false, List.getElem?_toArray, List.getElem?_cons_zero, List.getElem?_cons_succ, Nat.zero_add, Nat.add_zero, Nat.reduceAdd, forall_const, L_api_ID (Sep.blk (Sep.p1 hs6)), L_flurryref11_Tree hc, L_flurryref11_Tree__R hc, L_flurryref11_Tree__H hc, L_flurryref11_Tree__Most hc, L_flurryref11_Tree__L hc, eq_api_ID]
    exact hR _ _ ⟨by rw [decide_eq_false hnm, Bool.false_or], hs6.fr0⟩
theorem UnderR_spec (hr : RfR w.heap g lv t N) (hw : TrW t N) (hn : N.length ≤ 1000000) (k : Vec 32) (hh : ∀ a, has t N a = true → hgt t N a ≤ 1000000) : cal P f_ref11_Tree_Under [.pointer (some ⟨g, 0, none⟩), kv k] w fun r w' => Sep w w' [rows (rVec 32) r ((nms N).filter fun x => under t N x k)] := by
  refine s_ref11_Tree_Under fun R hR => ?_
  unfold c_ref11_Tree_Under
  refine bxQ (Sep.start w) fun g3 w1 hs1 => ?_
  refine ⟨fun x y z => ∃ i : Nat, y = .int .i64 i ∧ i ≤ N.length ∧ Sep w z [rows (rVec 32) x (((nms N).take i).filter fun x => under t N x k), blk g3 (Rdr.cells (rVec 32) k).toArray T_api_ID], fun _ y _ => (N.length - RowKit.intOf y).toNat, ⟨0, rfl, by omega, hs1.nilR⟩, ?_⟩
  rintro x _ w2 ⟨i, rfl, hi, hs2⟩ -
  have hr2 := hs2.rf hr
  obtain ⟨T, fr, hc⟩ := hr2.cell
  simp only [nilc_some, fad_mk, pik_true, pik_false, cnd_true, cnd_false, gif_same, gif_tf, gif_ft, gif_undef, bi_add, bi_sub, bi_mul, bi_eql, bi_neq, bi_lss, bi_leq, bi_gtr, bi_geq, notB_bool, cvi_int, lenS_mk, lenT_mk, ext0, ext1, ext2, nilP_mk, nilS_mk, fldv_agg, jn0_k, jn1_k, jn2_k, jn1_and, jn1_or, ex_some, Option.isNone_some, Option.isNone_none, Bool.false_bne, Bool.bne_true, Bool.bne_false, Bool.true_bne, Bool.not_true, Bool.not_false, Bool.and_true, Bool.true_and, Bool.and_false, Bool.false_and, Bool.or_true, Bool.true_or, Bool.or_false, Bool.false_or, cond_true, cond_false, List.getElem?_toArray, List.getElem?_cons_zero, List.getElem?_cons_succ, Nat.zero_add, Nat.add_zero, Nat.reduceAdd, forall_const, L_flurryref11_Tree hc, L_flurryref11_Tree__R hc, L_flurryref11_Tree__H hc, L_flurryref11_Tree__Most hc, L_flurryref11_Tree__L hc, hr2.len]
  rw [cnd_bool]
  refine ⟨fun h => ?_, fun h => ?_⟩
  · have hlt : i < N.length := by simp at h; omega
    obtain ⟨x1, hx⟩ : ∃ x, N[i]? = some x := ⟨_, List.getElem?_eq_getElem hlt⟩
    have hxn : (nms N)[i]? = some x1.1 := by rw [List.getElem?_map, hx]; rfl
    have hxh : has t N x1.1 = true := mem_has (.inr (List.mem_of_getElem? hxn))
    have e : ((nms N).take (i + 1)).filter (fun x => under t N x k) = ((nms N).take i).filter (fun x => under t N x k) ++ (if under t N x1.1 k = true then [x1.1] else []) := by
      rw [List.take_add_one, hxn, List.filter_append, filter_opt]
    refine ⟨fun y z => Sep w z [rows (rVec 32) y (((nms N).take (i + 1)).filter fun x => under t N x k), blk g3 (Rdr.cells (rVec 32) k).toArray T_api_ID], ?_, ?_⟩
    · refine drH_S hs2 fun w4 hs4 _ => ?_
      refine rdS_ld (v := lv) (fun u hu K hk => by obtain ⟨T, fr, hc⟩ := (hu.rf hr).cell; exact (L_flurryref11_Tree__L hc K).mpr hk) ?_
      obtain ⟨g2, o, ha, hix⟩ := (hs4.rf hr).ix hx
      rw [hix, fad_mk]
      refine ⟨kv x1.1, fun u hu => ?_, ?_⟩
      · obtain ⟨g2', o', ha', hix'⟩ := (hu.rf hr).ix hx
        have h1 := hix .i64 (fun p => p = .pointer (some ⟨g2, o, none⟩))
        have h2 := hix' .i64 (fun p => p = .pointer (some ⟨g2, o, none⟩))
        have h3 : (Value.pointer (some ⟨g2', o', none⟩) = Value.pointer (some ⟨g2, o, none⟩)) := by rw [← h2, h1]
        simp only [Value.pointer.injEq, Option.some.injEq, Addr.mk.injEq, and_true] at h3
        obtain ⟨rfl, rfl⟩ := h3
        exact (LA_flurryref11_Node__ID ha' _).mpr rfl
      refine ⟨kv k, fun u hu => (L_api_ID (Sep.blk (Sep.p1 hu)) _).mpr rfl, ?_⟩
      refine efC_cut (cal_i (WithinR_spec (hs4.rf hr) hw hn x1.1 k (hh _ hxh)) ?_)
      rintro _ w5 ⟨rfl, hf5⟩
      have hs5 := hs4.old hf5
      refine ⟨fun u => Sep w u _, hs5, ?_⟩
      rw [cnd_bool]
      refine ⟨fun h => ?_, fun h => ?_⟩
      · have hr5 := hs5.rf hr
        obtain ⟨T, fr, hc⟩ := hr5.cell
        obtain ⟨g2, o, ha, hix⟩ := hr5.ix hx
        simp only [nilc_some, fad_mk, pik_true, pik_false, cnd_true, cnd_false, gif_same, gif_tf, gif_ft, gif_undef, bi_add, bi_sub, bi_mul, bi_eql, bi_neq, bi_lss, bi_leq, bi_gtr, bi_geq, notB_bool, cvi_int, lenS_mk, lenT_mk, ext0, ext1, ext2, nilP_mk, nilS_mk, fldv_agg, jn0_k, jn1_k, jn2_k, jn1_and, jn1_or, ex_some, Option.isNone_some, Option.isNone_none, Bool.false_bne, Bool.bne_true, Bool.bne_false, Bool.true_bne, Bool.not_true, Bool.not_false, Bool.and_true, Bool.true_and, Bool.and_false, Bool.false_and, Bool.or_true, Bool.true_or, Bool.or_false, Bool.false_or, cond_true, cond_false, List.getElem?_toArray, List.getElem?_cons_zero, List.getElem?_cons_succ, Nat.zero_add, Nat.add_zero, Nat.reduceAdd, forall_const, L_flurryref11_Tree hc, L_flurryref11_Tree__R hc, L_flurryref11_Tree__H hc, L_flurryref11_Tree__Most hc, L_flurryref11_Tree__L hc, hix]
        rw [LA_flurryref11_Node__ID ha]
        have htl : (((nms N).take i).filter fun x => under t N x k).length ≤ 1000000 := Nat.le_trans (List.length_filter_le _ _) (Nat.le_trans (List.length_take_le _ _) (by omega))
        refine bldI hs5 fun a z hz => ?_
        refine appI hz.p1 (Sep.rows hz) htl fun x' z' hz' => ?_
        rw [e, if_pos h]
        exact Sep.pick hz' [0, 2] 3
      · rw [e, h]
        simp only [Bool.false_eq_true, if_false, List.append_nil]
        exact hs5
    · rintro y z hz _
      rw [wi64 (by omega) (by omega)]
      exact ⟨⟨i + 1, by simp, by omega, hz⟩, by simp [RowKit.intOf]; omega⟩
  · have hge : i = N.length := by simp at h; omega
    rw [List.take_of_length_le (by simp; omega)] at hs2
    exact hR _ _ (Sep.dropR (As := [_]) hs2)
theorem CloneR_spec (hr : RfR w.heap g lv t N) (hn : N.length ≤ 1000000) : cal P f_ref11_Tree_Clone [.pointer (some ⟨g, 0, none⟩)] w fun r w' => ∃ g' lv', r = .pointer (some ⟨g', 0, none⟩) ∧ Sep w w' (rfH g' lv' t N) := by
  refine s_ref11_Tree_Clone fun R hR => ?_
  unfold c_ref11_Tree_Clone
  refine drH_S (Sep.start w) fun w1 hs1 _ => ?_
  have rd : ∀ {u : World}, Sep w u [] → ∃ T fr, u.heap[g]? = some (.cells (Rdr.cells Q_flurryref11_Tree (t.root, t.ht, t.most, lv)).toArray T fr) := fun hu => (hu.rf hr).cell
  simp only [nilc_some, fad_mk, pik_true, pik_false, cnd_true, cnd_false, gif_same, gif_tf, gif_ft, gif_undef, bi_add, bi_sub, bi_mul, bi_eql, bi_neq, bi_lss, bi_leq, bi_gtr, bi_geq, notB_bool, cvi_int, lenS_mk, lenT_mk, ext0, ext1, ext2, nilP_mk, nilS_mk, fldv_agg, jn0_k, jn1_k, jn2_k, jn1_and, jn1_or, ex_some, Option.isNone_some, Option.isNone_none, Bool.false_bne, Bool.bne_true, Bool.bne_false, Bool.true_bne, Bool.not_true, Bool.not_false, Bool.and_true, Bool.true_and, Bool.and_false, Bool.false_and, Bool.or_true, Bool.true_or, Bool.or_false, Bool.false_or, cond_true, cond_false, List.getElem?_toArray, List.getElem?_cons_zero, List.getElem?_cons_succ, Nat.zero_add, Nat.add_zero, Nat.reduceAdd, forall_const]
  refine ⟨kv t.root, fun u hu => by obtain ⟨T, fr, hc⟩ := rd hu; exact (L_flurryref11_Tree__R hc _).mpr rfl, ?_⟩
  refine rdS_ld (v := .int .i64 t.ht) (fun u hu K hk => by obtain ⟨T, fr, hc⟩ := rd hu; exact (L_flurryref11_Tree__H hc K).mpr hk) ?_
  refine rdS_ld (v := .int .i64 t.most) (fun u hu K hk => by obtain ⟨T, fr, hc⟩ := rd hu; exact (L_flurryref11_Tree__Most hc K).mpr hk) ?_
  refine ⟨.agg (Rdr.cells Q_flurryref11_Tree (t.root, t.ht, t.most, .slice none 0 0)).toArray, fun u hu => by rw [B_flurryref11_Tree_0_1_2], ?_⟩
  refine efC_bx (bxQ hs1 fun g' w2 hs2 => ?_)
  have hs3 := Sep.nilR (q := Q_flurryref11_Node) hs2
  refine drH_S hs3 fun w4 hs4 _ => ?_
  simp only [nilc_some, fad_mk, pik_true, pik_false, cnd_true, cnd_false, gif_same, gif_tf, gif_ft, gif_undef, bi_add, bi_sub, bi_mul, bi_eql, bi_neq, bi_lss, bi_leq, bi_gtr, bi_geq, notB_bool, cvi_int, lenS_mk, lenT_mk, ext0, ext1, ext2, nilP_mk, nilS_mk, fldv_agg, jn0_k, jn1_k, jn2_k, jn1_and, jn1_or, ex_some, Option.isNone_some, Option.isNone_none, Bool.false_bne, Bool.bne_true, Bool.bne_false, Bool.true_bne, Bool.not_true, Bool.not_false, Bool.and_true, Bool.true_and, Bool.and_false, Bool.false_and, Bool.or_true, Bool.true_or, Bool.or_false, Bool.false_or, cond_true, cond_false, List.getElem?_toArray, List.getElem?_cons_zero, List.getElem?_cons_succ, Nat.zero_add, Nat.add_zero, Nat.reduceAdd, forall_const]
  refine rdS_ld (v := .slice none 0 0) (fun u hu K hk => (L_flurryref11_Tree__L (Sep.blk (Sep.p1 hu)) K).mpr hk) ?_
  refine rdS_ld (v := lv) (fun u hu K hk => by obtain ⟨T, fr, hc⟩ := (hu.rf hr).cell; exact (L_flurryref11_Tree__L hc K).mpr hk) ?_
  refine efC_efP (rows_app (q := Q_flurryref11_Node) S_sl_flurryref11_Node U_sl_flurryref11_Node (by simp) hs4 (hr.rw.fr hs4.fr0) ?_ (by simp; omega) (by simp; omega) fun v5 w5 hs5 => ?_)
  · intro u hu
    obtain ⟨y, hy, hu⟩ := List.mem_flatMap.1 hu
    obtain ⟨x, hx, rfl⟩ := List.mem_map.1 hy
    exact onePair oneVec (onePair oneVec (onePair oneI (oneV (hr.dat x hx).one))) u hu
  refine efC_st1 (St_flurryref11_Tree__L hs5.p1 (Sep.oneR hs5) fun w6 hs6 => ?_)
  exact hR _ _ ⟨g', v5, rfl, by simpa [rfH] using hs6⟩
theorem MoveR_spec (hs : Sep w0 w (rfH g lv t N ++ As)) (hd : Dat N As) (hw : TrW t N) (hu : (N.map (·.1)).Nodup) (hn : N.length ≤ 1000000) (hh : ∀ a, has t N a = true → hgt t N a ≤ 1000000) (k : Vec 32) :
    cal P f_ref11_Tree_Move [.pointer (some ⟨g, 0, none⟩), kv k] w fun r w' =>
      (mvOk t N k = false ∧ r = .tuple #[.slice none 0 0, .int .i64 4] ∧ Sep w0 w' (rfH g lv t N ++ As)) ∨
      (mvOk t N k = true ∧ ∃ gv lv', r = .tuple #[gv, .int .i64 0] ∧ Sep w0 w' (rfH g lv' (mvT t N k) (mvN t N k) ++ (rows (rVec 32) gv (mvGone t N k) :: As))) := by
  have hr := rfH_rd hs hd
  refine s_ref11_Tree_Move fun R hR => ?_
  unfold c_ref11_Tree_Move
  refine bxQ (Sep.start w) fun g3 w1 hs1 => ?_
  simp only [L_api_ID hs1.blk]
  refine cal_i (placeR_spec (hs1.rf hr) hn k) ?_
  rintro _ w2 ⟨rfl, hf2⟩
  have hs2 := hs1.old hf2
  refine drw_s hs2 fun w3 hs3 _ => ?_
  simp only [nilc_some, fad_mk, pik_true, pik_false, cnd_true, cnd_false, gif_same, gif_tf, gif_ft, gif_undef, bi_add, bi_sub, bi_mul, bi_eql, bi_neq, bi_lss, bi_leq, bi_gtr, bi_geq, notB_bool, cvi_int, lenS_mk, lenT_mk, ext0, ext1, ext2, nilP_mk, nilS_mk, fldv_agg, jn0_k, jn1_k, jn2_k, jn1_and, jn1_or, ex_some, Option.isNone_some, Option.isNone_none, Bool.false_bne, Bool.bne_true, Bool.bne_false, Bool.true_bne, Bool.not_true, Bool.not_false, Bool.and_true, Bool.true_and, Bool.and_false, Bool.false_and, Bool.or_true, Bool.true_or, Bool.or_false, Bool.false_or, cond_true, cond_false, List.getElem?_toArray, List.getElem?_cons_zero, List.getElem?_cons_succ, Nat.zero_add, Nat.add_zero, Nat.reduceAdd, forall_const]
  cases hno : nodeOf k N with
  | none =>
    rw [place_none hno]
    simp only [nilc_some, fad_mk, pik_true, pik_false, cnd_true, cnd_false, gif_same, gif_tf, gif_ft, gif_undef, bi_add, bi_sub, bi_mul, bi_eql, bi_neq, bi_lss, bi_leq, bi_gtr, bi_geq, notB_bool, cvi_int, lenS_mk, lenT_mk, ext0, ext1, ext2, nilP_mk, nilS_mk, fldv_agg, jn0_k, jn1_k, jn2_k, jn1_and, jn1_or, ex_some, Option.isNone_some, Option.isNone_none, Bool.false_bne, Bool.bne_true, Bool.bne_false, Bool.true_bne, Bool.not_true, Bool.not_false, Bool.and_true, Bool.true_and, Bool.and_false, Bool.false_and, Bool.or_true, Bool.true_or, Bool.or_false, Bool.false_or, cond_true, cond_false, List.getElem?_toArray, List.getElem?_cons_zero, List.getElem?_cons_succ, Nat.zero_add, Nat.add_zero, Nat.reduceAdd, forall_const, show decide ((-1 : Int) < 0) = true from rfl]
    refine hR _ _ (.inl ⟨?_, rfl, hs.old hs3.fr0⟩)
    unfold mvOk blkOf
    rw [hno]
    rfl
  | some x0 =>
  obtain ⟨i0, hi0, hx0, hx01⟩ := place_node hno
  rw [hi0]
  have e0 : decide ((i0 : Int) < 0) = false := by simp
  have hr3 := hs3.rf hr
  obtain ⟨T, fr, hc⟩ := hr3.cell
  obtain ⟨g2, o, ha, hix⟩ := hr3.ix hx0
  simp only [nilc_some, fad_mk, pik_true, pik_false, cnd_true, cnd_false, gif_same, gif_tf, gif_ft, gif_undef, bi_add, bi_sub, bi_mul, bi_eql, bi_neq, bi_lss, bi_leq, bi_gtr, bi_geq, notB_bool, cvi_int, lenS_mk, lenT_mk, ext0, ext1, ext2, nilP_mk, nilS_mk, fldv_agg, jn0_k, jn1_k, jn2_k, jn1_and, jn1_or, ex_some, Option.isNone_some, Option.isNone_none, Bool.false_bne, Bool.bne_true, Bool.bne_false, Bool.true_bne, Bool.not_true, Bool.not_false, Bool.and_true, Bool.true_and, Bool.and_false, Bool.false_and, Bool.or_true, Bool.true_or, Bool.or_false, Bool.false_or, cond_true, cond_false, List.getElem?_toArray, List.getElem?_cons_zero, List.getElem?_cons_succ, Nat.zero_add, Nat.add_zero, Nat.reduceAdd, forall_const, e0, L_flurryref11_Tree hc, L_flurryref11_Tree__R hc, L_flurryref11_Tree__H hc, L_flurryref11_Tree__Most hc, L_flurryref11_Tree__L hc, hix]
  refine jn1_dup ?_
  rw [LA_flurryref11_Node__B_Parent ha]
  simp only [ne_api_ID, nilc_some, fad_mk, pik_true, pik_false, cnd_true, cnd_false, gif_same, gif_tf, gif_ft, gif_undef, bi_add, bi_sub, bi_mul, bi_eql, bi_neq, bi_lss, bi_leq, bi_gtr, bi_geq, notB_bool, cvi_int, lenS_mk, lenT_mk, ext0, ext1, ext2, nilP_mk, nilS_mk, fldv_agg, jn0_k, jn1_k, jn2_k, jn1_and, jn1_or, ex_some, Option.isNone_some, Option.isNone_none, Bool.false_bne, Bool.bne_true, Bool.bne_false, Bool.true_bne, Bool.not_true, Bool.not_false, Bool.and_true, Bool.true_and, Bool.and_false, Bool.false_and, Bool.or_true, Bool.true_or, Bool.or_false, Bool.false_or, cond_true, cond_false, List.getElem?_toArray, List.getElem?_cons_zero, List.getElem?_cons_succ, Nat.zero_add, Nat.add_zero, Nat.reduceAdd, forall_const]
  have hnbk : (nb k N).1 = x0.2.1 := by unfold nb; rw [hno]; rfl
  have hmv : mvOk t N k = decide (x0.2.1.p = t.root) := by
    unfold mvOk blkOf
    rw [hno, hnbk]
    simp
  rw [cnd_bool]
  refine ⟨fun h => ?_, fun h => ?_⟩
  · have h : ¬ x0.2.1.p = t.root := of_decide_eq_false (by have h' : (!decide (x0.2.1.p = t.root)) = true := h; simpa using h')
    exact hR _ _ (.inl ⟨by rw [hmv, decide_eq_false h], rfl, hs.old hs3.fr0⟩)
  have h : x0.2.1.p = t.root := of_decide_eq_true (by have h' : (!decide (x0.2.1.p = t.root)) = false := h; simpa using h')
  have hok : mvOk t N k = true := by rw [hmv, decide_eq_true h]
  have hkm : k ∈ nms N := by rw [← hx01]; exact List.mem_map_of_mem (List.mem_of_getElem? hx0)
  have hkh : has t N k = true := mem_has (.inr hkm)
  have hkr : k ≠ t.root := blk_nroot hw (mem_blk' hno)
  have hkk : under t N k k = true := by
    rw [under_mem hw hkh, path_step hw hkh hkr]
    simp
  have goneE : ∀ (x : TN), x ∈ N → (x.1 = k → under t N x.1 k = true) := fun x hx he => by rw [he]; exact hkk
  -- the loop
  refine ⟨fun x y z u => ∃ i : Nat, z = .int .i64 i ∧ i ≤ N.length ∧ Sep w u [rows (rVec 32) x (nms ((N.take i).filter fun x => !under t N x.1 k)), rows Q_flurryref11_Node y (((N.take i).filter fun x => !decide (x.1 = k) && under t N x.1 k).map TN.nd), blk g3 (Rdr.cells (rVec 32) k).toArray T_api_ID],
    fun _ _ z _ => (N.length - RowKit.intOf z).toNat, ⟨0, rfl, by omega, Sep.nilR (Sep.nilR hs3)⟩, ?_⟩
  rintro x y _ w4 ⟨i, rfl, hi, hs4⟩ -
  have hr4 := hs4.rf hr
  obtain ⟨T, fr, hc⟩ := hr4.cell
  simp only [nilc_some, fad_mk, pik_true, pik_false, cnd_true, cnd_false, gif_same, gif_tf, gif_ft, gif_undef, bi_add, bi_sub, bi_mul, bi_eql, bi_neq, bi_lss, bi_leq, bi_gtr, bi_geq, notB_bool, cvi_int, lenS_mk, lenT_mk, ext0, ext1, ext2, nilP_mk, nilS_mk, fldv_agg, jn0_k, jn1_k, jn2_k, jn1_and, jn1_or, ex_some, Option.isNone_some, Option.isNone_none, Bool.false_bne, Bool.bne_true, Bool.bne_false, Bool.true_bne, Bool.not_true, Bool.not_false, Bool.and_true, Bool.true_and, Bool.and_false, Bool.false_and, Bool.or_true, Bool.true_or, Bool.or_false, Bool.false_or, cond_true, cond_false, List.getElem?_toArray, List.getElem?_cons_zero, List.getElem?_cons_succ, Nat.zero_add, Nat.add_zero, Nat.reduceAdd, forall_const, L_flurryref11_Tree hc, L_flurryref11_Tree__R hc, L_flurryref11_Tree__H hc, L_flurryref11_Tree__Most hc, L_flurryref11_Tree__L hc, hr4.len]
  rw [cnd_bool]
  refine ⟨fun h => ?_, fun h => ?_⟩
  · have hlt : i < N.length := by simp at h; omega
    obtain ⟨x1, hx⟩ : ∃ x, N[i]? = some x := ⟨_, List.getElem?_eq_getElem hlt⟩
    have hxm := List.mem_of_getElem? hx
    have hxh : has t N x1.1 = true := mem_has (.inr (List.mem_map_of_mem hxm))
    have htk : N.take (i + 1) = N.take i ++ [x1] := by rw [List.take_add_one, hx]; rfl
    have hii : (i = i0) ↔ x1.1 = k := by
      constructor
      · intro he
        rw [he, hx0] at hx
        simp only [Option.some.injEq] at hx
        rw [← hx, hx01]
      · intro he
        have h1 : (nms N)[i]? = some k := by rw [List.getElem?_map, hx]; simp [he]
        have h2 : (nms N)[i0]? = some k := by rw [List.getElem?_map, hx0]; simp [hx01]
        have hi0l := (List.getElem?_eq_some_iff.1 hx0).1
        exact (List.getElem?_inj (by simpa using hlt) hu).1 (h1.trans h2.symm)
    have htl1 : (nms ((N.take i).filter fun x => !under t N x.1 k)).length ≤ 1000000 := by
      rw [List.length_map]
      exact Nat.le_trans (List.length_filter_le _ _) (Nat.le_trans (List.length_take_le _ _) (by omega))
    have htl2 : (((N.take i).filter fun x => !decide (x.1 = k) && under t N x.1 k).map TN.nd).length ≤ 1000000 := by
      rw [List.length_map]
      exact Nat.le_trans (List.length_filter_le _ _) (Nat.le_trans (List.length_take_le _ _) (by omega))
    refine ⟨fun x y u => Sep w u [rows (rVec 32) x (nms ((N.take (i + 1)).filter fun x => !under t N x.1 k)), rows Q_flurryref11_Node y (((N.take (i + 1)).filter fun x => !decide (x.1 = k) && under t N x.1 k).map TN.nd), blk g3 (Rdr.cells (rVec 32) k).toArray T_api_ID], ?_, ?_⟩
    case refine_2 =>
      rintro x' y' z hz _
      rw [wi64 (by omega) (by omega)]
      exact ⟨⟨i + 1, by simp, by omega, hz⟩, by simp [RowKit.intOf]; omega⟩
    simp only [htk, List.filter_append]
    rw [cnd_bool]
    refine ⟨fun he => ?_, fun he => ?_⟩
    · have he : x1.1 = k := hii.1 (by have := eq_of_beq he; omega)
      have f1 : [x1].filter (fun x => !under t N x.1 k) = [] := by
        rw [List.filter_cons_of_neg (by rw [he, hkk]; simp)]; rfl
      have f2 : [x1].filter (fun x => !decide (x.1 = k) && under t N x.1 k) = [] := by
        rw [List.filter_cons_of_neg (by simp [he])]; rfl
      rw [f1, f2, List.append_nil, List.append_nil]
      exact hs4
    have he : ¬ x1.1 = k := fun hc => by
      have := hii.2 hc
      rw [this] at he
      simp at he
    refine drH_S hs4 fun w5 hs5 _ => ?_
    refine rdS_ld (v := lv) (fun u hu K hk => by obtain ⟨T, fr, hc⟩ := (hu.rf hr).cell; exact (L_flurryref11_Tree__L hc K).mpr hk) ?_
    obtain ⟨g2, o, ha, hix⟩ := (hs5.rf hr).ix hx
    rw [hix, fad_mk]
    refine ⟨kv x1.1, fun u hu => ?_, ?_⟩
    · obtain ⟨g2', o', ha', hix'⟩ := (hu.rf hr).ix hx
      have h1 := hix .i64 (fun p => p = .pointer (some ⟨g2, o, none⟩))
      have h2 := hix' .i64 (fun p => p = .pointer (some ⟨g2, o, none⟩))
      have h3 : (Value.pointer (some ⟨g2', o', none⟩) = Value.pointer (some ⟨g2, o, none⟩)) := by rw [← h2, h1]
      simp only [Value.pointer.injEq, Option.some.injEq, Addr.mk.injEq, and_true] at h3
      obtain ⟨rfl, rfl⟩ := h3
      exact (LA_flurryref11_Node__ID ha' _).mpr rfl
    refine ⟨kv k, fun u hu => (L_api_ID (Sep.blk (Sep.p2 hu)) _).mpr rfl, ?_⟩
    refine efC_cut (cal_i (WithinR_spec (hs5.rf hr) hw hn x1.1 k (hh _ hxh)) ?_)
    rintro _ w6 ⟨rfl, hf6⟩
    have hs6 := hs5.old hf6
    refine ⟨fun u => Sep w u _, hs6, ?_⟩
    have hr6 := hs6.rf hr
    obtain ⟨T, fr, hc⟩ := hr6.cell
    obtain ⟨g2, o, ha, hix⟩ := hr6.ix hx
    rw [cnd_bool]
    refine ⟨fun hun => ?_, fun hun => ?_⟩
    · simp only [nilc_some, fad_mk, pik_true, pik_false, cnd_true, cnd_false, gif_same, gif_tf, gif_ft, gif_undef, bi_add, bi_sub, bi_mul, bi_eql, bi_neq, bi_lss, bi_leq, bi_gtr, bi_geq, notB_bool, cvi_int, lenS_mk, lenT_mk, ext0, ext1, ext2, nilP_mk, nilS_mk, fldv_agg, jn0_k, jn1_k, jn2_k, jn1_and, jn1_or, ex_some, Option.isNone_some, Option.isNone_none, Bool.false_bne, Bool.bne_true, Bool.bne_false, Bool.true_bne, Bool.not_true, Bool.not_false, Bool.and_true, Bool.true_and, Bool.and_false, Bool.false_and, Bool.or_true, Bool.true_or, Bool.or_false, Bool.false_or, cond_true, cond_false, List.getElem?_toArray, List.getElem?_cons_zero, List.getElem?_cons_succ, Nat.zero_add, Nat.add_zero, Nat.reduceAdd, forall_const, L_flurryref11_Tree hc, L_flurryref11_Tree__R hc, L_flurryref11_Tree__H hc, L_flurryref11_Tree__Most hc, L_flurryref11_Tree__L hc, hix]
      rw [LA_flurryref11_Node ha]
      have hxd := (hr.dat x1 hxm).one
      refine rows_lit (q := Q_flurryref11_Node) hs6 S_sl_flurryref11_Node (l := [x1.nd]) (V := fun a => .agg (Rdr.cells Q_flurryref11_Node a).toArray) (fun a => rfl) rfl rfl (by decide) (by decide) fun g7 w13 hs13 => ?_
      refine rows_app (q := Q_flurryref11_Node) S_sl_flurryref11_Node U_sl_flurryref11_Node (by simp) hs13.p2 (Sep.rows hs13) ?_ (by simp at htl2 ⊢; omega) (by simp at htl2 ⊢; omega) fun v14 w14 hs14 => ?_
      · simp only [List.flatMap_cons, List.flatMap_nil, List.append_nil]
        exact onePair oneVec (onePair oneVec (onePair oneI (oneV hxd)))
      have f1 : [x1].filter (fun x => !under t N x.1 k) = [] := by
        rw [List.filter_cons_of_neg (by rw [hun]; simp)]; rfl
      have f2 : [x1].filter (fun x => !decide (x.1 = k) && under t N x.1 k) = [x1] := by
        rw [List.filter_cons_of_pos (by simp [he, hun])]; rfl
      rw [f1, f2, List.append_nil, List.map_append]
      exact Sep.pick hs14 [2, 0, 3] 4
    · simp only [nilc_some, fad_mk, pik_true, pik_false, cnd_true, cnd_false, gif_same, gif_tf, gif_ft, gif_undef, bi_add, bi_sub, bi_mul, bi_eql, bi_neq, bi_lss, bi_leq, bi_gtr, bi_geq, notB_bool, cvi_int, lenS_mk, lenT_mk, ext0, ext1, ext2, nilP_mk, nilS_mk, fldv_agg, jn0_k, jn1_k, jn2_k, jn1_and, jn1_or, ex_some, Option.isNone_some, Option.isNone_none, Bool.false_bne, Bool.bne_true, Bool.bne_false, Bool.true_bne, Bool.not_true, Bool.not_false, Bool.and_true, Bool.true_and, Bool.and_false, Bool.false_and, Bool.or_true, Bool.true_or, Bool.or_false, Bool.false_or, cond_true, cond_false, List.getElem?_toArray, List.getElem?_cons_zero, List.getElem?_cons_succ, Nat.zero_add, Nat.add_zero, Nat.reduceAdd, forall_const, L_flurryref11_Tree hc, L_flurryref11_Tree__R hc, L_flurryref11_Tree__H hc, L_flurryref11_Tree__Most hc, L_flurryref11_Tree__L hc, hix]
      rw [LA_flurryref11_Node__ID ha]
      refine bldI hs6 fun a z hz => ?_
      refine appI hz.p1 (Sep.rows hz) htl1 fun x' z' hz' => ?_
      have f1 : [x1].filter (fun x => !under t N x.1 k) = [x1] := by
        rw [List.filter_cons_of_pos (by rw [hun]; rfl)]; rfl
      have f2 : [x1].filter (fun x => !decide (x.1 = k) && under t N x.1 k) = [] := by
        rw [List.filter_cons_of_neg (by simp [hun])]; rfl
      rw [f1, f2, List.append_nil, show nms ((N.take i).filter (fun x => !under t N x.1 k) ++ [x1]) = nms ((N.take i).filter fun x => !under t N x.1 k) ++ [x1.1] from List.map_append]
      exact Sep.pick hz' [0, 2, 3] 4
  · have hge : i = N.length := by simp at h; omega
    rw [hge, List.take_of_length_le (Nat.le_refl _)] at hs4
    have hsA := hs.join hs4
    have hs5 := Sep.pick hsA [3, 4, 0, 1, 2] 5
    refine drH_S hs5 fun w6 hs6 _ => ?_
    refine ⟨kv k, fun u hu => (L_api_ID (Sep.blk (Sep.p4 hu)) _).mpr rfl, ?_⟩
    refine rdS_ld (v := lv) (fun u hu K hk => (L_flurryref11_Tree__L (Sep.blk hu) K).mpr hk) ?_
    have hixr : ∀ {u : World}, Sep w0 u (blk g (Rdr.cells Q_flurryref11_Tree (t.root, t.ht, t.most, lv)).toArray T_flurryref11_Tree :: rows Q_flurryref11_Node lv (N.map TN.nd) :: rows (rVec 32) x (nms (N.filter fun x => !under t N x.1 k)) :: rows Q_flurryref11_Node y ((N.filter fun x => !decide (x.1 = k) && under t N x.1 k).map TN.nd) :: blk g3 (Rdr.cells (rVec 32) k).toArray T_api_ID :: As) → ∃ g2 o, At u.heap g2 o (Rdr.cells Q_flurryref11_Node x0.nd) ∧ ∀ (k : IntKind) (K : Value → Prop), ixs 66 lv (.int k (i0 : Int)) K = K (.pointer (some ⟨g2, o, none⟩)) := fun hz =>
      Rows'.ix (q := Q_flurryref11_Node) (by decide) (Sep.rows (Sep.tail hz)) (by rw [List.getElem?_map, hx0]; rfl)
    obtain ⟨g2, o, ha, hix⟩ := hixr hs6
    rw [hix]
    simp only [nilc_some, fad_mk, pik_true, pik_false, cnd_true, cnd_false, gif_same, gif_tf, gif_ft, gif_undef, bi_add, bi_sub, bi_mul, bi_eql, bi_neq, bi_lss, bi_leq, bi_gtr, bi_geq, notB_bool, cvi_int, lenS_mk, lenT_mk, ext0, ext1, ext2, nilP_mk, nilS_mk, fldv_agg, jn0_k, jn1_k, jn2_k, jn1_and, jn1_or, ex_some, Option.isNone_some, Option.isNone_none, Bool.false_bne, Bool.bne_true, Bool.bne_false, Bool.true_bne, Bool.not_true, Bool.not_false, Bool.and_true, Bool.true_and, Bool.and_false, Bool.false_and, Bool.or_true, Bool.true_or, Bool.or_false, Bool.false_or, cond_true, cond_false, List.getElem?_toArray, List.getElem?_cons_zero, List.getElem?_cons_succ, Nat.zero_add, Nat.add_zero, Nat.reduceAdd, forall_const, Nat.add_assoc]
    refine rdS_ld (v := .int .i64 x0.2.1.h) (fun u hu K hk => ?_) ?_
    · obtain ⟨g2', o', ha', hix'⟩ := hixr hu
      have h1 := hix .i64 (fun p => p = .pointer (some ⟨g2, o, none⟩))
      have h2 := hix' .i64 (fun p => p = .pointer (some ⟨g2, o, none⟩))
      have h3 : (Value.pointer (some ⟨g2', o', none⟩) = Value.pointer (some ⟨g2, o, none⟩)) := by rw [← h2, h1]
      simp only [Value.pointer.injEq, Option.some.injEq, Addr.mk.injEq, and_true] at h3
      obtain ⟨rfl, rfl⟩ := h3
      exact (LA_flurryref11_Node__B_Height ha' _).mpr hk
    refine efC_stN (St_flurryref11_Tree__R hs6 oneVec fun w7 hs7 => ?_)
    refine efC_st1 (St_flurryref11_Tree__H hs7 fun w8 hs8 => ?_)
    refine efC_st1 (St_flurryref11_Tree__L hs8 (Sep.oneR (Sep.p3 hs8)) fun w9 hs9 => ?_)
    refine hR _ _ (.inr ⟨hok, x, y, rfl, ?_⟩)
    have e1 : nms (N.filter fun x => !under t N x.1 k) = mvGone t N k := by
      unfold mvGone nms
      rw [List.filter_map]
      rfl
    have e2 : (nb k N).1.h = x0.2.1.h := by rw [hnbk]
    have := Sep.pick hs9 [0, 3, 2] 5
    unfold rfH mvT
    rw [e2, ← e1]
    exact this
end
end Go.Fx
set_option linter.unusedVariables false
set_option linter.unusedSimpArgs false
namespace Go.Fx
theorem sha_one (l : List UInt8) (h : l.length ≤ 55) : shaL l = mixM firstL (padT l l.length) := by
  have hl : (padT l l.length).length = 64 := by
    unfold padT
    simp only [List.length_append, List.length_replicate, List.length_singleton, be_length]
    unfold zer
    omega
  unfold shaL
  rw [foldM_step (by omega), foldM_end (by simp; omega), List.take_of_length_le (by omega)]
def m9 : Vec 32 := ⟨9 :: List.replicate 31 0, by decide⟩
def lvA : Blk := ⟨m9, 6, [97]⟩
def idA : Vec 32 := ⟨[67, 39, 141, 81, 246, 83, 79, 6, 40, 223, 135, 236, 211, 115, 176, 19, 55, 210, 91, 149, 6, 245, 200, 180, 169, 100, 228, 135, 198, 24, 95, 43], by decide⟩
def lvB : Blk := ⟨idA, 7, [98]⟩
def lvC : Blk := ⟨idA, 7, [99]⟩
def idB : Vec 32 := ⟨[147, 119, 58, 83, 182, 167, 131, 124, 211, 15, 112, 102, 130, 220, 165, 59, 169, 25, 175, 45, 116, 77, 28, 179, 5, 86, 188, 71, 13, 37, 213, 167], by decide⟩
def idC : Vec 32 := ⟨[150, 100, 167, 111, 206, 192, 32, 21, 224, 157, 217, 164, 220, 246, 33, 96, 27, 245, 88, 202, 230, 34, 255, 189, 35, 20, 103, 102, 42, 175, 17, 156], by decide⟩
set_option maxRecDepth 1000000 in
theorem idA_eq : lvA.id = idA := by
  apply Subtype.ext
  show (shaL lvA.bytes).flatMap wOut = _
  rw [sha_one _ (by decide +kernel)]
  decide +kernel
set_option maxRecDepth 1000000 in
theorem idB_eq : lvB.id = idB := by
  apply Subtype.ext
  show (shaL lvB.bytes).flatMap wOut = _
  rw [sha_one _ (by decide +kernel)]
  decide +kernel
set_option maxRecDepth 1000000 in
theorem idC_eq : lvC.id = idC := by
  apply Subtype.ext
  show (shaL lvC.bytes).flatMap wOut = _
  rw [sha_one _ (by decide +kernel)]
  decide +kernel
/-- An Add's error, by the name. -/
def addV (t : Tr) (N : List TN) (b : Blk) (k : Vec 32) : Int :=
  if b.chk ≠ 0 then b.chk else if has t N k = true then 110 else if has t N b.p = false ∨ b.h < 1 ∨ b.h - 1 ≠ levH t N b.p then 31 else if t.most ≤ N.length then 6 else 0
theorem addE_V {t : Tr} {N : List TN} {b : Blk} {k : Vec 32} (h : b.id = k) : addE t N b = addV t N b k := by subst h; rfl
def lvT : Tr := ⟨m9, 5, 9⟩
theorem lv1 : addV lvT [] lvA idA = 0 := by kernel_rfl
theorem lv2 (v1 : Value) (c1 : Nat) : addV lvT [(idA, lvA, v1, c1)] lvB idB = 0 := by kernel_rfl
theorem lv3 (v1 v2 : Value) (c1 c2 : Nat) : addV lvT [(idA, lvA, v1, c1), (idB, lvB, v2, c2)] lvC idC = 0 := by kernel_rfl
abbrev lvN (v1 v2 v3 : Value) (c1 c2 c3 : Nat) : List TN := [(idA, lvA, v1, c1), (idB, lvB, v2, c2), (idC, lvC, v3, c3)]
theorem lvPath (v1 v2 v3 : Value) (c1 c2 c3 : Nat) : pathOf lvT (lvN v1 v2 v3 c1 c2 c3) idB = [idA, idB] := by kernel_rfl
theorem lvUnder (v1 v2 v3 : Value) (c1 c2 c3 : Nat) : (nms (lvN v1 v2 v3 c1 c2 c3)).filter (fun x => under lvT (lvN v1 v2 v3 c1 c2 c3) x idA) = [idA, idB, idC] := by kernel_rfl
theorem lvOk (v1 v2 v3 : Value) (c1 c2 c3 : Nat) : mvOk lvT (lvN v1 v2 v3 c1 c2 c3) idA = true := by kernel_rfl
theorem lvGone (v1 v2 v3 : Value) (c1 c2 c3 : Nat) : mvGone lvT (lvN v1 v2 v3 c1 c2 c3) idA = [] := by kernel_rfl
theorem lvMv (v1 v2 v3 : Value) (c1 c2 c3 : Nat) : mvN lvT (lvN v1 v2 v3 c1 c2 c3) idA = [(idB, lvB, v2, c2), (idC, lvC, v3, c3)] := by kernel_rfl
def lvX (k : Nat) (d : List UInt8) (v : Value) : GA := ⟨k, d, v, false, Blk.none, .slice none 0 0⟩
theorem lvX_ok {k : Nat} {d : List UInt8} {v : Value} (hk : k < 256) (hd : d.length ≤ 100) : (lvX k d v).k < 256 ∧ (lvX k d v).b.h ≤ maxI ∧ (lvX k d v).d.length ≤ 9223372036854775807 ∧ (lvX k d v).b.d.length ≤ 9223372036854775807 :=
  ⟨hk, (by decide : (0 : Int) ≤ maxI), Nat.le_trans hd (by decide), Nat.zero_le _⟩
theorem lv_grown {a b c : Value} {N : List TN} (h : GrownTo lvT [lvX 0 [97] a, lvX 1 [98] b, lvX 1 [99] c] N) : ∃ v1 v2 v3 c1 c2 c3, N = lvN v1 v2 v3 c1 c2 c3 := by
  obtain ⟨N2, h2, hs3⟩ := GrownTo.inv (l := [lvX 0 [97] a, lvX 1 [98] b]) h
  obtain ⟨N1, h1, hs2⟩ := GrownTo.inv (l := [lvX 0 [97] a]) h2
  obtain ⟨N0, h0, hs1⟩ := GrownTo.inv (l := []) h1
  have hN0 : N0 = [] := by
    generalize hm : ([] : List GA) = m at h0
    cases h0 with
    | nil => rfl
    | snoc => simp at hm
  subst hN0
  have b1 : bG (idsT lvT []) (htsT lvT []) (lvX 0 [97] a) = lvA := rfl
  unfold growStep at hs1
  rw [b1, addE_V idA_eq, lv1, idA_eq] at hs1
  obtain ⟨v1, c1, rfl⟩ := (hs1.resolve_right fun h => h.1 rfl).2
  have b2 : bG (idsT lvT ([] ++ [(idA, lvA, v1, c1)])) (htsT lvT ([] ++ [(idA, lvA, v1, c1)])) (lvX 1 [98] b) = lvB := rfl
  unfold growStep at hs2
  rw [b2, addE_V idB_eq, idB_eq] at hs2
  simp only [List.nil_append, lv2] at hs2
  obtain ⟨v2, c2, rfl⟩ := (hs2.resolve_right fun h => h.1 rfl).2
  have b3 : bG (idsT lvT ([(idA, lvA, v1, c1)] ++ [(idB, lvB, v2, c2)])) (htsT lvT ([(idA, lvA, v1, c1)] ++ [(idB, lvB, v2, c2)])) (lvX 1 [99] c) = lvC := rfl
  unfold growStep at hs3
  rw [b3, addE_V idC_eq, idC_eq] at hs3
  simp only [List.cons_append, List.nil_append, lv3] at hs3
  obtain ⟨v3, c3, rfl⟩ := (hs3.resolve_right fun h => h.1 rfl).2
  exact ⟨v1, v2, v3, c1, c2, c3, rfl⟩
section
variable {w0 w : World} {As : List Asn}
theorem B_ID9 {w : World} (K : Value → Prop) : rdP P (Instr.build T_api_ID #[(0, .int .u8 9)]) w K = K (kv m9) := rd_build (r := rVec 32) (a := m9) (by kernel_rfl) K
theorem Rows'.sub {α : Type} {q : Rdr α} {h : Heap} {a : Option Addr} {n c i j : Nat} {l : List α} (hr : Rows' q h (.slice a n c) l) (hi : i ≤ j) (hj : j ≤ l.length) (hc : l.length ≤ c) (c' : Nat) : Rows' q h (.slice (if c = i then a else a.map (·.add (i * q.size))) (j - i) c') ((l.drop i).take (j - i)) := by
  have h1 := Rows'.drop hr (k := i) (by omega) hc (c - i)
  exact Rows'.take h1 (k := j - i) (by simp; omega) c'
theorem live11_spec (hC : Cub w) : cal P f_law11_live [] w fun r w' => r = .bool true ∧ Fr [] w w' := by
  refine s_law11_live fun R hR => ?_
  unfold c_law11_live
  rw [B_ID9, B_flurrylaw11_Start_0_1_2]
  have hb : ∀ (x : UInt8) (w : World), (Instr.buildSlice T_sl_uint8 1 #[(0, bv x)]).run P w = .ok (.slice (some ⟨w.heap.size, 0, none⟩) 1 1) (w.alloc (.cells (bvs [x]).toArray T_uint8)) := fun x w => by kernel_rfl
  refine lit_s (l := [97]) (Sep.start w) U_sl_uint8 U_uint8 rfl (hb 97 w) fun g1 w1 hs1 => ?_
  rw [B_flurrylaw11_Grow_1 rfl]
  refine lit_s (l := [98]) hs1 U_sl_uint8 U_uint8 rfl (hb 98 w1) fun g2 w2 hs2 => ?_
  rw [B_flurrylaw11_Grow_0_1 rfl]
  refine lit_s (l := [99]) hs2 U_sl_uint8 U_uint8 rfl (hb 99 w2) fun g3 w3 hs3 => ?_
  rw [B_flurrylaw11_Grow_0_1 rfl]
  obtain ⟨x1, hx1⟩ : ∃ x1, x1 = lvX 0 [97] (.slice (some ⟨g1, 0, none⟩) 1 1) := ⟨_, rfl⟩
  obtain ⟨x2, hx2⟩ : ∃ x2, x2 = lvX 1 [98] (.slice (some ⟨g2, 0, none⟩) 1 1) := ⟨_, rfl⟩
  obtain ⟨x3, hx3⟩ : ∃ x3, x3 = lvX 1 [99] (.slice (some ⟨g3, 0, none⟩) 1 1) := ⟨_, rfl⟩
  refine rows_lit (q := Q_flurrylaw11_Grow) hs3 S_sl_flurrylaw11_Grow (l := [x1.t, x2.t, x3.t]) (V := fun a => .agg (Rdr.cells Q_flurrylaw11_Grow a).toArray) (fun a => rfl) (by rw [hx1, hx2, hx3]; rfl) rfl (by decide) (by decide) fun g4 w4 hs4 => ?_
  have hG : GRows w4.heap (.slice (some ⟨g4, 0, none⟩) 3 3) [x1, x2, x3] := by
    refine ⟨Sep.rows hs4, fun x hx => ?_⟩
    rcases List.mem_cons.1 hx with rfl | hx
    · rw [hx1]; exact ⟨Sep.rda hs4.p3, RdB.nil _ 0⟩
    rcases List.mem_cons.1 hx with rfl | hx
    · rw [hx2]; exact ⟨Sep.rda hs4.p2, RdB.nil _ 0⟩
    · obtain rfl : x = x3 := by simpa using hx
      rw [hx3]; exact ⟨Sep.rda hs4.p1, RdB.nil _ 0⟩
  have hok : GOk [x1, x2, x3] := fun x hx => by
    rcases List.mem_cons.1 hx with rfl | hx
    · rw [hx1]; exact lvX_ok (by decide) (by decide)
    rcases List.mem_cons.1 hx with rfl | hx
    · rw [hx2]; exact lvX_ok (by decide) (by decide)
    · obtain rfl : x = x3 := by simpa using hx
      rw [hx3]; exact lvX_ok (by decide) (by decide)
  refine cal_i (grown_spec (q := (m9, 5, 9)) (hC.fr hs4.fr0) hG hok (by simp)) ?_
  rintro _ w5 (⟨_, hno, _⟩ | ⟨_, g, gm, x, y, rfl, N, ov, c, Ds, hTI, hGr, _, hD, hs5⟩)
  · exact absurd (by decide) hno
  rw [hx1, hx2, hx3] at hGr
  obtain ⟨v1, v2, v3, c1, c2, c3, hN⟩ := lv_grown hGr
  change TI lvT N at hTI
  change Sep w4 w5 (trH g gm ov lvT N c ++ (rows (rVec 32) x (idsT lvT N) :: rows (rInt .i64) y (htsT lvT N) :: Ds)) at hs5
  have eN : idsT lvT N = [m9, idA, idB, idC] := by rw [hN]; rfl
  rw [eN] at hs5
  obtain ⟨a, cp, hx, hac⟩ := Sep.formR (Sep.p3 hs5)
  simp only [List.length_cons, List.length_nil, Nat.zero_add, Nat.reduceAdd] at hx hac
  have hlen : lenS x = fun K => K (.int .i64 4) := by
    funext K
    have := (Sep.rows (Sep.p3 hs5)).len K
    simpa using this
  have hD' : Dat N (rows (rVec 32) x [m9, idA, idB, idC] :: rows (rInt .i64) y (htsT lvT N) :: Ds) := fun z hz => List.mem_cons_of_mem _ (List.mem_cons_of_mem _ (hD z hz))
  simp only [nilc_some, fad_mk, pik_true, pik_false, cnd_true, cnd_false, gif_same, gif_tf, gif_ft, gif_undef, bi_add, bi_sub, bi_mul, bi_eql, bi_neq, bi_lss, bi_leq, bi_gtr, bi_geq, notB_bool, cvi_int, lenS_mk, lenT_mk, ext0, ext1, ext2, nilP_mk, nilS_mk, fldv_agg, jn0_k, jn1_k, jn2_k, jn1_and, jn1_or, ex_some, Option.isNone_some, Option.isNone_none, Bool.false_bne, Bool.bne_true, Bool.bne_false, Bool.true_bne, Bool.not_true, Bool.not_false, Bool.and_true, Bool.true_and, Bool.and_false, Bool.false_and, Bool.or_true, Bool.true_or, Bool.or_false, Bool.false_or, cond_true, cond_false, List.getElem?_toArray, List.getElem?_cons_zero, List.getElem?_cons_succ, Nat.zero_add, Nat.add_zero, Nat.reduceAdd, forall_const, Option.isNone_some]
  refine drH_S hs5 fun w6 hs6 _ => ?_
  simp only [nilc_some, fad_mk, pik_true, pik_false, cnd_true, cnd_false, gif_same, gif_tf, gif_ft, gif_undef, bi_add, bi_sub, bi_mul, bi_eql, bi_neq, bi_lss, bi_leq, bi_gtr, bi_geq, notB_bool, cvi_int, lenS_mk, lenT_mk, ext0, ext1, ext2, nilP_mk, nilS_mk, fldv_agg, jn0_k, jn1_k, jn2_k, jn1_and, jn1_or, ex_some, Option.isNone_some, Option.isNone_none, Bool.false_bne, Bool.bne_true, Bool.bne_false, Bool.true_bne, Bool.not_true, Bool.not_false, Bool.and_true, Bool.true_and, Bool.and_false, Bool.false_and, Bool.or_true, Bool.true_or, Bool.or_false, Bool.false_or, cond_true, cond_false, List.getElem?_toArray, List.getElem?_cons_zero, List.getElem?_cons_succ, Nat.zero_add, Nat.add_zero, Nat.reduceAdd, forall_const, hlen, show ((4 : Int) != 4) = false from rfl]
  refine jn1_dup ?_
  have hxr : ∀ {z : World}, Sep w4 z (trH g gm ov lvT N c ++ (rows (rVec 32) x [m9, idA, idB, idC] :: rows (rInt .i64) y (htsT lvT N) :: Ds)) → Rows' (rVec 32) z.heap x [m9, idA, idB, idC] := fun {z} hz => Sep.rows (Sep.p3 hz)
  change ixs 32 _ (.int .i64 ((2 : Nat) : Int)) _
  refine rdS_rowV (q := rVec 32) (by decide) hs6 (fun u hu => hxr hu) (j := 2) (a := idB) rfl .i64 ?_
  have e13 : ∀ K, slc 32 x (some (.int .i64 1)) (some (.int .i64 3)) K = K (.slice (if cp = 1 then a else a.map (·.add (1 * 32))) 2 (cp - 1)) := fun K => by
    rw [hx]; exact slc_mid (i := 1) (j := 3) (by omega) (by omega) K
  have e1 : ∀ K, slc 32 x (some (.int .i64 1)) none K = K (.slice (if cp = 1 then a else a.map (·.add (1 * 32))) 3 (cp - 1)) := fun K => by
    rw [hx]; exact slc_from (j := 1) (by omega) K
  rw [e13]
  have r13 : ∀ {z : World}, Sep w4 z (trH g gm ov lvT N c ++ (rows (rVec 32) x [m9, idA, idB, idC] :: rows (rInt .i64) y (htsT lvT N) :: Ds)) → Rows' (rVec 32) z.heap (.slice (if cp = 1 then a else a.map (·.add (1 * 32))) 2 (cp - 1)) [idA, idB] := fun {z} hz => by
    have h1 := hxr hz
    rw [hx] at h1
    exact Rows'.sub h1 (i := 1) (j := 3) (by omega) (by simp) (by simp; omega) (cp - 1)
  have r1 : ∀ {z : World}, Sep w4 z (trH g gm ov lvT N c ++ (rows (rVec 32) x [m9, idA, idB, idC] :: rows (rInt .i64) y (htsT lvT N) :: Ds)) → Rows' (rVec 32) z.heap (.slice (if cp = 1 then a else a.map (·.add (1 * 32))) 3 (cp - 1)) [idA, idB, idC] := fun {z} hz => by
    have h1 := hxr hz
    rw [hx] at h1
    exact Rows'.drop h1 (k := 1) (by simp) (by simp; omega) (cp - 1)
  have hhb : hgt lvT N idB ≤ 1000000 := by
    have h1 := hTI.hb idB (mem_has (.inr (by rw [hN]; simp [lvN])))
    have h2 : N.length = 3 := by rw [hN]; rfl
    omega
  refine efS_i (cal_i (Path_spec (trH_rd hs6 hD') hTI.w idB hhb) ?_)
  rintro pv w7 hs7
  have hpb : pathOf lvT N idB = [idA, idB] := by rw [hN]; exact lvPath _ _ _ _ _ _
  rw [hpb] at hs7
  have hs7' := hs6.join hs7
  refine ⟨Sep.tail hs7', ?_⟩
  refine efS_i (cal_i (idsEqual_spec (Sep.rows hs7') (r13 (Sep.tail hs7')) (by simp)) ?_)
  rintro _ w8 ⟨rfl, hf8⟩
  have hs8 := (Sep.tail hs7').old hf8
  refine ⟨hs8, ?_⟩
  simp only [nilc_some, fad_mk, pik_true, pik_false, cnd_true, cnd_false, gif_same, gif_tf, gif_ft, gif_undef, bi_add, bi_sub, bi_mul, bi_eql, bi_neq, bi_lss, bi_leq, bi_gtr, bi_geq, notB_bool, cvi_int, lenS_mk, lenT_mk, ext0, ext1, ext2, nilP_mk, nilS_mk, fldv_agg, jn0_k, jn1_k, jn2_k, jn1_and, jn1_or, ex_some, Option.isNone_some, Option.isNone_none, Bool.false_bne, Bool.bne_true, Bool.bne_false, Bool.true_bne, Bool.not_true, Bool.not_false, Bool.and_true, Bool.true_and, Bool.and_false, Bool.false_and, Bool.or_true, Bool.true_or, Bool.or_false, Bool.false_or, cond_true, cond_false, List.getElem?_toArray, List.getElem?_cons_zero, List.getElem?_cons_succ, Nat.zero_add, Nat.add_zero, Nat.reduceAdd, forall_const, decide_true]
  refine jn1_dup ?_
  change ixs 32 _ (.int .i64 ((1 : Nat) : Int)) _
  refine rdS_rowV (q := rVec 32) (by decide) hs8 (fun u hu => hxr hu) (j := 1) (a := idA) rfl .i64 ?_
  rw [e1]
  refine efS_i (cal_i (Under_spec (trH_rd hs8 hD') hTI.w (by rw [hN]; simp) idA) ?_)
  rintro uv w9 hs9
  have hub : (N.map (·.1)).filter (fun x => under lvT N x idA) = [idA, idB, idC] := by rw [hN]; exact lvUnder _ _ _ _ _ _
  rw [hub] at hs9
  have hs9' := hs8.join hs9
  refine ⟨Sep.tail hs9', ?_⟩
  refine efS_i (cal_i (idsEqual_spec (Sep.rows hs9') (r1 (Sep.tail hs9')) (by simp)) ?_)
  rintro _ w10 ⟨rfl, hf10⟩
  have hs10 := (Sep.tail hs9').old hf10
  refine ⟨hs10, ?_⟩
  simp only [nilc_some, fad_mk, pik_true, pik_false, cnd_true, cnd_false, gif_same, gif_tf, gif_ft, gif_undef, bi_add, bi_sub, bi_mul, bi_eql, bi_neq, bi_lss, bi_leq, bi_gtr, bi_geq, notB_bool, cvi_int, lenS_mk, lenT_mk, ext0, ext1, ext2, nilP_mk, nilS_mk, fldv_agg, jn0_k, jn1_k, jn2_k, jn1_and, jn1_or, ex_some, Option.isNone_some, Option.isNone_none, Bool.false_bne, Bool.bne_true, Bool.bne_false, Bool.true_bne, Bool.not_true, Bool.not_false, Bool.and_true, Bool.true_and, Bool.and_false, Bool.false_and, Bool.or_true, Bool.true_or, Bool.or_false, Bool.false_or, cond_true, cond_false, List.getElem?_toArray, List.getElem?_cons_zero, List.getElem?_cons_succ, Nat.zero_add, Nat.add_zero, Nat.reduceAdd, forall_const, decide_true]
  change ixs 32 _ (.int .i64 ((1 : Nat) : Int)) _
  refine Rows'.ldN (q := rVec 32) (by decide) (hxr hs10) (j := 1) (a := idA) rfl .i64 ?_
  refine cal_i (Move_spec hs10 hD' hTI.w hTI.nd (by rw [hN]; simp) idA) ?_
  have hok2 : mvOk lvT N idA = true := by rw [hN]; exact lvOk _ _ _ _ _ _
  rintro _ w11 (⟨hno, _, _⟩ | ⟨_, gv, ov', rfl, hs11⟩)
  · rw [hok2] at hno; cases hno
  have eg : mvGone lvT N idA = [] := by rw [hN]; exact lvGone _ _ _ _ _ _
  rw [eg] at hs11
  have hglen : lenS gv = fun K => K (.int .i64 0) := by
    funext K
    have := (Sep.rows (Sep.p3 hs11)).len K
    simpa using this
  simp only [nilc_some, fad_mk, pik_true, pik_false, cnd_true, cnd_false, gif_same, gif_tf, gif_ft, gif_undef, bi_add, bi_sub, bi_mul, bi_eql, bi_neq, bi_lss, bi_leq, bi_gtr, bi_geq, notB_bool, cvi_int, lenS_mk, lenT_mk, ext0, ext1, ext2, nilP_mk, nilS_mk, fldv_agg, jn0_k, jn1_k, jn2_k, jn1_and, jn1_or, ex_some, Option.isNone_some, Option.isNone_none, Bool.false_bne, Bool.bne_true, Bool.bne_false, Bool.true_bne, Bool.not_true, Bool.not_false, Bool.and_true, Bool.true_and, Bool.and_false, Bool.false_and, Bool.or_true, Bool.true_or, Bool.or_false, Bool.false_or, cond_true, cond_false, List.getElem?_toArray, List.getElem?_cons_zero, List.getElem?_cons_succ, Nat.zero_add, Nat.add_zero, Nat.reduceAdd, forall_const, hglen, show ((0 : Int) == 0) = true from rfl]
  refine jn1_dup ?_
  have eM : (mvN lvT N idA).length = 2 := by rw [hN, lvMv]; rfl
  have hDM : Dat (mvN lvT N idA) (rows (rVec 32) gv [] :: rows (rVec 32) x [m9, idA, idB, idC] :: rows (rInt .i64) y (htsT lvT N) :: Ds) := fun z hz => by
    have hz' := (List.mem_filter.1 hz).1
    exact List.mem_cons_of_mem _ (hD' z hz')
  refine cal_i (Len_spec (trH_rd hs11 hDM) (by rw [eM]; omega)) ?_
  rintro _ _ ⟨rfl, rfl⟩
  rw [eM]
  simp only [nilc_some, fad_mk, pik_true, pik_false, cnd_true, cnd_false, gif_same, gif_tf, gif_ft, gif_undef, bi_add, bi_sub, bi_mul, bi_eql, bi_neq, bi_lss, bi_leq, bi_gtr, bi_geq, notB_bool, cvi_int, lenS_mk, lenT_mk, ext0, ext1, ext2, nilP_mk, nilS_mk, fldv_agg, jn0_k, jn1_k, jn2_k, jn1_and, jn1_or, ex_some, Option.isNone_some, Option.isNone_none, Bool.false_bne, Bool.bne_true, Bool.bne_false, Bool.true_bne, Bool.not_true, Bool.not_false, Bool.and_true, Bool.true_and, Bool.and_false, Bool.false_and, Bool.or_true, Bool.true_or, Bool.or_false, Bool.false_or, cond_true, cond_false, List.getElem?_toArray, List.getElem?_cons_zero, List.getElem?_cons_succ, Nat.zero_add, Nat.add_zero, Nat.reduceAdd, forall_const, show (((2 : Nat) : Int) == 2) = true from rfl]
  exact hR _ _ ⟨rfl, hs4.fr0.trans hs11.fr0 (by simp) (by simp)⟩
end
end Go.Fx
set_option linter.unusedVariables false
set_option linter.unusedSimpArgs false
namespace Go.Fx
/-- What is kept beside the tree: each name's block as it was handed in. -/
def HadOk (h : Heap) (N : List TN) (H : List (Ent 32)) : Prop := H.map (·.1) = nms N ∧ ∀ k b, blkOf k N = some b → ∃ v, getE k H = some (bq b v) ∧ RdB h v b.d
theorem HadOk.add {h : Heap} {t : Tr} {N : List TN} {H : List (Ent 32)} {b : Blk} {v vd : Value} {c c' : Nat} (hk : HadOk h N H) (hn : has t N b.id = false) (hv : RdB h v b.d) : HadOk h (N ++ [(b.id, b, vd, c)]) (H ++ [(b.id, bq b v, c')]) := by
  have hnm : b.id ∉ nms N := fun hm => by rw [mem_has (.inr hm)] at hn; cases hn
  refine ⟨by simp [hk.1], fun k b' hb => ?_⟩
  rw [blkOf_snoc] at hb
  cases hk2 : blkOf k N with
  | some y =>
    rw [hk2] at hb
    simp only [Option.some_or, Option.some.injEq] at hb
    subst hb
    obtain ⟨v', h1, h2⟩ := hk.2 k y hk2
    exact ⟨v', by rw [getE_snoc, h1]; rfl, h2⟩
  | none =>
    rw [hk2] at hb
    by_cases he : k = b.id
    · subst he
      have : b = b' := by simpa using hb
      subst this
      exact ⟨v, by rw [getE_snoc, getE_nin (by rw [hk.1]; exact hnm)]; simp, hv⟩
    · simp [he] at hb
theorem HadOk.fr {w w' : World} {N : List TN} {H : List (Ent 32)} (h : HadOk w.heap N H) (hf : Fr [] w w') : HadOk w'.heap N H := ⟨h.1, fun k b hb => by
  obtain ⟨v, h1, h2⟩ := h.2 k b hb
  exact ⟨v, h1, h2.fr hf (off_nil _)⟩⟩
section
variable {w : World}
/-- Which names are there behind a move. -/
theorem mv_left {t : Tr} {N : List TN} {k id : Vec 32} (hid : id ∈ nms N) : (id = k ∨ id ∈ mvGone t N k → blkOf id (mvN t N k) = none) ∧ (¬ (id = k ∨ id ∈ mvGone t N k) → blkOf id (mvN t N k) = blkOf id N) := by
  have hg : id ∈ mvGone t N k ↔ under t N id k = false := by
    unfold mvGone
    rw [List.mem_filter]
    simp only [Bool.not_eq_true']
    exact ⟨fun h => h.2, fun h => ⟨hid, h⟩⟩
  rw [mv_blk, hg]
  refine ⟨fun h => if_neg ?_, fun h => if_pos ?_⟩
  · rintro ⟨h1, h2⟩
    rcases h with h | h
    · exact h1 h
    · rw [h] at h2; cases h2
  · refine ⟨fun he => h (.inl he), ?_⟩
    cases hu : under t N id k with
    | true => rfl
    | false => exact absurd (.inr hu) h
theorem mem_blk {N : List TN} {k : Vec 32} (h : k ∈ nms N) : blkOf k N = some (nb k N).1 := by
  rcases nb_blk (k := k) (N := N) with ⟨h1, _⟩ | h1
  · obtain ⟨z, hz, rfl⟩ := List.mem_map.1 h
    unfold blkOf nodeOf at h1
    rw [Option.map_eq_none_iff, List.find?_eq_none] at h1
    exact absurd (by simp) (h1 z hz)
  · exact h1
theorem wKeeps {q : Vec 32 × Int × Int} {s : Sl (Nat × Sl UInt8 × Bool × (Vec 32 × Int × Sl UInt8))} {kid : Nat} (hc : Cub w) (hs0 : (rSl R_flurrylaw11_Grow).ok w.heap s) (hkid : kid < 256) :
    cal P f_law11_TreeKeeps [.agg (Rdr.cells Q_flurrylaw11_Start q).toArray, s.v, .int .u8 kid] w fun r w' => r = .bool true ∧ Fr [] w w' := by
  obtain ⟨l, hr, hcap, hl63, hok⟩ := grows_arg hs0
  generalize s.v = v at *
  clear hs0
  refine s_law11_TreeKeeps fun R hR => ?_
  unfold c_law11_TreeKeeps
  refine bxQ (Sep.start w) fun g3 w0 hs0 => ?_
  have lv : ∀ {z : World}, Fr [] w z → cal P f_law11_live [] z R := fun {z} hf => cal_i (live11_spec (hc.fr hf)) fun r w' hr => hR _ _ ⟨hr.1, hf.trans hr.2 (by simp) (by simp)⟩
  refine cal_i (live11_spec (hc.fr hs0.fr0)) ?_
  rintro _ w1 ⟨rfl, hf1⟩
  have hs1 := hs0.old hf1
  simp only [nilc_some, fad_mk, pik_true, pik_false, cnd_true, cnd_false, gif_same, gif_tf, gif_ft, gif_undef, bi_add, bi_sub, bi_mul, bi_eql, bi_neq, bi_lss, bi_leq, bi_gtr, bi_geq, notB_bool, cvi_int, lenS_mk, lenT_mk, ext0, ext1, ext2, nilP_mk, nilS_mk, fldv_agg, jn0_k, jn1_k, jn2_k, jn1_and, jn1_or, ex_some, Option.isNone_some, Option.isNone_none, Bool.false_bne, Bool.bne_true, Bool.bne_false, Bool.true_bne, Bool.not_true, Bool.not_false, Bool.and_true, Bool.true_and, Bool.and_false, Bool.false_and, Bool.or_true, Bool.true_or, Bool.or_false, Bool.false_or, cond_true, cond_false, List.getElem?_toArray, List.getElem?_cons_zero, List.getElem?_cons_succ, Nat.zero_add, Nat.add_zero, Nat.reduceAdd, forall_const]
  refine jn1_dup ?_
  refine cal_i (few11_spec (hr.fr hs1.fr0) hcap hl63 hok) ?_
  rintro _ w2 ⟨hf2, b, rfl, hb⟩
  have hs2 := hs1.old hf2
  cases b with
  | false => simp only [nilc_some, fad_mk, pik_true, pik_false, cnd_true, cnd_false, gif_same, gif_tf, gif_ft, gif_undef, bi_add, bi_sub, bi_mul, bi_eql, bi_neq, bi_lss, bi_leq, bi_gtr, bi_geq, notB_bool, cvi_int, lenS_mk, lenT_mk, ext0, ext1, ext2, nilP_mk, nilS_mk, fldv_agg, jn0_k, jn1_k, jn2_k, jn1_and, jn1_or, ex_some, Option.isNone_some, Option.isNone_none, Bool.false_bne, Bool.bne_true, Bool.bne_false, Bool.true_bne, Bool.not_true, Bool.not_false, Bool.and_true, Bool.true_and, Bool.and_false, Bool.false_and, Bool.or_true, Bool.true_or, Bool.or_false, Bool.false_or, cond_true, cond_false, List.getElem?_toArray, List.getElem?_cons_zero, List.getElem?_cons_succ, Nat.zero_add, Nat.add_zero, Nat.reduceAdd, forall_const]; exact lv hs2.fr0
  | true =>
  have hl : l.length ≤ 40 := hb rfl
  simp only [nilc_some, fad_mk, pik_true, pik_false, cnd_true, cnd_false, gif_same, gif_tf, gif_ft, gif_undef, bi_add, bi_sub, bi_mul, bi_eql, bi_neq, bi_lss, bi_leq, bi_gtr, bi_geq, notB_bool, cvi_int, lenS_mk, lenT_mk, ext0, ext1, ext2, nilP_mk, nilS_mk, fldv_agg, jn0_k, jn1_k, jn2_k, jn1_and, jn1_or, ex_some, Option.isNone_some, Option.isNone_none, Bool.false_bne, Bool.bne_true, Bool.bne_false, Bool.true_bne, Bool.not_true, Bool.not_false, Bool.and_true, Bool.true_and, Bool.and_false, Bool.false_and, Bool.or_true, Bool.true_or, Bool.or_false, Bool.false_or, cond_true, cond_false, List.getElem?_toArray, List.getElem?_cons_zero, List.getElem?_cons_succ, Nat.zero_add, Nat.add_zero, Nat.reduceAdd, forall_const, L_flurrylaw11_Start hs2.blk, L_flurrylaw11_Start__Root hs2.blk, L_flurrylaw11_Start__Height hs2.blk, L_flurrylaw11_Start__Most hs2.blk]
  refine cal_i (tNew_spec q.1 q.2.1 q.2.2) ?_
  rintro _ w3 (⟨hno, rfl, hf3⟩ | ⟨hq, g, gm, rfl, hs3⟩)
  · simp only [nilc_some, fad_mk, pik_true, pik_false, cnd_true, cnd_false, gif_same, gif_tf, gif_ft, gif_undef, bi_add, bi_sub, bi_mul, bi_eql, bi_neq, bi_lss, bi_leq, bi_gtr, bi_geq, notB_bool, cvi_int, lenS_mk, lenT_mk, ext0, ext1, ext2, nilP_mk, nilS_mk, fldv_agg, jn0_k, jn1_k, jn2_k, jn1_and, jn1_or, ex_some, Option.isNone_some, Option.isNone_none, Bool.false_bne, Bool.bne_true, Bool.bne_false, Bool.true_bne, Bool.not_true, Bool.not_false, Bool.and_true, Bool.true_and, Bool.and_false, Bool.false_and, Bool.or_true, Bool.true_or, Bool.or_false, Bool.false_or, cond_true, cond_false, List.getElem?_toArray, List.getElem?_cons_zero, List.getElem?_cons_succ, Nat.zero_add, Nat.add_zero, Nat.reduceAdd, forall_const, show ((1 : Int) != 0) = true from rfl, Option.isNone_none]
    exact hR _ _ ⟨rfl, (hs2.old hf3).fr0⟩
  replace hs3 := hs2.join hs3
  obtain ⟨t, ht⟩ : ∃ t : Tr, t = ⟨q.1, q.2.1, q.2.2⟩ := ⟨_, rfl⟩
  rw [← ht] at hs3
  have e1 : q.1 = t.root := by rw [ht]
  have e2 : q.2.1 = t.ht := by rw [ht]
  have ht0 : 0 ≤ t.ht := by rw [← e2]; exact hq.1
  clear ht
  simp only [nilc_some, fad_mk, pik_true, pik_false, cnd_true, cnd_false, gif_same, gif_tf, gif_ft, gif_undef, bi_add, bi_sub, bi_mul, bi_eql, bi_neq, bi_lss, bi_leq, bi_gtr, bi_geq, notB_bool, cvi_int, lenS_mk, lenT_mk, ext0, ext1, ext2, nilP_mk, nilS_mk, fldv_agg, jn0_k, jn1_k, jn2_k, jn1_and, jn1_or, ex_some, Option.isNone_some, Option.isNone_none, Bool.false_bne, Bool.bne_true, Bool.bne_false, Bool.true_bne, Bool.not_true, Bool.not_false, Bool.and_true, Bool.true_and, Bool.and_false, Bool.false_and, Bool.or_true, Bool.true_or, Bool.or_false, Bool.false_or, cond_true, cond_false, List.getElem?_toArray, List.getElem?_cons_zero, List.getElem?_cons_succ, Nat.zero_add, Nat.add_zero, Nat.reduceAdd, forall_const, show ((0 : Int) != 0) = false from rfl, Option.isNone_some]
  obtain ⟨B3, hB3⟩ : ∃ B3, B3 = blk g3 (Rdr.cells Q_flurrylaw11_Start q).toArray T_flurrylaw11_Start := ⟨_, rfl⟩
  have hB3' : ∀ {z : World} {As : List Asn}, Sep w z (B3 :: As) → z.heap[g3]? = some (.cells (Rdr.cells Q_flurrylaw11_Start q).toArray T_flurrylaw11_Start (0, 0)) := fun h => by rw [hB3] at h; exact Sep.blk h
  replace hs3 : Sep w w3 (trH g gm (.slice none 0 0) t [] 0 ++ [B3]) := by rw [hB3]; exact hs3
  refine drH_S hs3 fun w4 hs4 _ => ?_
  refine ⟨fun x y z => Sep w z (trH g gm (.slice none 0 0) t [] 0 ++ [rows (rVec 32) x (idsT t []), rows (rInt .i64) y (htsT t []), B3]), ?_, ?_⟩
  · refine ⟨kv t.root, fun u hu => by rw [← e1]; exact (L_flurrylaw11_Start__Root (hB3' (Sep.p3 hu)) _).mpr rfl, ?_⟩
    refine rdS_ld (v := .int .i64 t.ht) (fun u hu K hk => by rw [← e2] at hk; exact (L_flurrylaw11_Start__Height (hB3' (Sep.p3 hu)) K).mpr hk) ?_
    refine two_lit hs4 fun x y z hz => Sep.pick hz [2, 3, 4, 0, 1, 5] 6
  rintro x0 y0 w5 hs5 _
  refine makeMap_s (n := 32) hs5 fun gh w6 hs6 => ?_
  simp only [hr.len]
  refine ⟨fun x y z w' => ∃ i N ov c c2 H Ds, z = .int .i64 ((i : Nat) : Int) ∧ i ≤ l.length ∧ TI t N ∧ N.length ≤ i ∧ Dat N Ds ∧ HadOk w.heap N H ∧ Sep w w' (trH g gm ov t N c ++ (rows (rVec 32) x (idsT t N) :: rows (rInt .i64) y (htsT t N) :: mp gh H c2 :: B3 :: Ds)),
    fun _ _ z _ => (l.length - RowKit.intOf z).toNat, ⟨0, [], .slice none 0 0, 0, 0, [], [], rfl, by omega, TI.nil ht0, by simp, Dat.nil _, ⟨rfl, fun k b h => by cases h⟩, Sep.pick hs6 [1, 2, 3, 4, 5, 0, 6] 7⟩, ?_⟩
  rintro x y _ w7 ⟨i, N, ov, c, c2, H, Ds, rfl, hi, hTI, hN, hD, hH, hs7⟩ -
  clear hs6 hs5 hs4 hs3
  simp only [nilc_some, fad_mk, pik_true, pik_false, cnd_true, cnd_false, gif_same, gif_tf, gif_ft, gif_undef, bi_add, bi_sub, bi_mul, bi_eql, bi_neq, bi_lss, bi_leq, bi_gtr, bi_geq, notB_bool, cvi_int, lenS_mk, lenT_mk, ext0, ext1, ext2, nilP_mk, nilS_mk, fldv_agg, jn0_k, jn1_k, jn2_k, jn1_and, jn1_or, ex_some, Option.isNone_some, Option.isNone_none, Bool.false_bne, Bool.bne_true, Bool.bne_false, Bool.true_bne, Bool.not_true, Bool.not_false, Bool.and_true, Bool.true_and, Bool.and_false, Bool.false_and, Bool.or_true, Bool.true_or, Bool.or_false, Bool.false_or, cond_true, cond_false, List.getElem?_toArray, List.getElem?_cons_zero, List.getElem?_cons_succ, Nat.zero_add, Nat.add_zero, Nat.reduceAdd, forall_const]
  rw [cnd_bool]
  refine ⟨fun h => ?_, fun h => ?_⟩
  · have hlt : i < l.length := by simp at h; omega
    obtain ⟨a, ha⟩ : ∃ a, l[i]? = some a := ⟨_, List.getElem?_eq_getElem hlt⟩
    have ham := List.mem_of_getElem? ha
    have hak := hok a ham
    have ha' : (l.map GA.t)[i]? = some a.t := by rw [List.getElem?_map, ha]; rfl
    refine ⟨fun x y w' => ∃ N ov c c2 H Ds, TI t N ∧ N.length ≤ i + 1 ∧ Dat N Ds ∧ HadOk w.heap N H ∧ Sep w w' (trH g gm ov t N c ++ (rows (rVec 32) x (idsT t N) :: rows (rInt .i64) y (htsT t N) :: mp gh H c2 :: B3 :: Ds)), ?_, ?_⟩
    case refine_2 =>
      rintro x' y' w8 ⟨N', ov', c', c2', H', Ds', h1, h2, h3, h4, h5⟩ _
      rw [wi64 (by omega) (by omega)]
      exact ⟨⟨i + 1, N', ov', c', c2', H', Ds', by simp, by omega, h1, h2, h3, h4, h5⟩, by simp [RowKit.intOf]; omega⟩
    change ixs 37 _ _ _
    refine Rows'.ldN (q := Q_flurrylaw11_Grow) (by decide) (hr.rw.fr hs7.fr0) ha' .i64 ?_
    refine alloc_s hs7 (A_flurrylaw11_Grow w7) fun g13 w8 hs8 => ?_
    have hd8 := (hr.fr hs8.fr0).d a ham
    refine St_flurrylaw11_Grow hs8 (one_flurrylaw11_Grow hd8.1.one hd8.2.one) fun w9 hs9 => ?_
    have hd9 := (hr.fr hs9.fr0).d a ham
    have hb3 := hB3' (Sep.pick hs9 [7, 0, 1, 2, 3, 4, 5, 6] 8)
    simp only [L_flurrylaw11_Start hb3, L_flurrylaw11_Start__Root hb3, L_flurrylaw11_Start__Height hb3, L_flurrylaw11_Start__Most hb3, L_flurrylaw11_Grow (Sep.blk hs9), L_flurrylaw11_Grow__K (Sep.blk hs9), L_flurrylaw11_Grow__Data (Sep.blk hs9), L_flurrylaw11_Grow__Raw (Sep.blk hs9), L_flurrylaw11_Grow__B (Sep.blk hs9), L_flurrylaw11_Grow__B_Parent (Sep.blk hs9), L_flurrylaw11_Grow__B_Height (Sep.blk hs9), L_flurrylaw11_Grow__B_Data (Sep.blk hs9)]
    obtain ⟨b, hb⟩ : ∃ b, b = bG (idsT t N) (htsT t N) a := ⟨_, rfl⟩
    refine cal_i (block11_spec (ids := idsT t N) (hs := htsT t N) (Sep.rows (Sep.p4 hs9)) (Sep.rows (Sep.p5 hs9)) (by simp) (by simp) (by simp; omega) hd9 (hts_nonneg hTI) hak.1) ?_
    rintro _ w10 ⟨rfl, hf10⟩
    have hs10 := hs9.old hf10
    rw [← hb]
    have hbw : RdB w.heap a.v b.d := by rw [hb]; exact bG_rd (hr.d a ham)
    have hbh : b.h ≤ maxI := by rw [hb]; exact bG_h hak.2.1
    refine alloc_s hs10 (A_api_Block w10) fun g14 w11 hs11 => ?_
    refine St_api_Block hs11 (one_api_Block hbw.one) fun w12 hs12 => ?_
    simp only [L_api_Block (Sep.blk hs12), L_api_Block__Parent (Sep.blk hs12), L_api_Block__Height (Sep.blk hs12), L_api_Block__Data (Sep.blk hs12)]
    refine cal_i (Add_spec (Sep.pick hs12 [2, 3, 4, 0, 1, 5, 6, 7, 8] 9) (hD.sub (Bs := _ :: _ :: _ :: _ :: _ :: _ :: Ds) fun A hA => by simp [hA]) hTI.w (hc.fr hs12.fr0) (hbw.fr hs12.fr0 (off_nil _)) hbh (by omega)) ?_
    rintro _ w13 (⟨he, rfl, hs13⟩ | ⟨he, rfl, ov', vd, hs13⟩)
    · have he' : (addE t N b != 0) = true := bne_iff_ne.2 he
      simp only [nilc_some, fad_mk, pik_true, pik_false, cnd_true, cnd_false, gif_same, gif_tf, gif_ft, gif_undef, bi_add, bi_sub, bi_mul, bi_eql, bi_neq, bi_lss, bi_leq, bi_gtr, bi_geq, notB_bool, cvi_int, lenS_mk, lenT_mk, ext0, ext1, ext2, nilP_mk, nilS_mk, fldv_agg, jn0_k, jn1_k, jn2_k, jn1_and, jn1_or, ex_some, Option.isNone_some, Option.isNone_none, Bool.false_bne, Bool.bne_true, Bool.bne_false, Bool.true_bne, Bool.not_true, Bool.not_false, Bool.and_true, Bool.true_and, Bool.and_false, Bool.false_and, Bool.or_true, Bool.true_or, Bool.or_false, Bool.false_or, cond_true, cond_false, List.getElem?_toArray, List.getElem?_cons_zero, List.getElem?_cons_succ, Nat.zero_add, Nat.add_zero, Nat.reduceAdd, forall_const, he']
      refine alloc_s hs13 (A_api_ID w13) fun g15 w14 hs14 => ?_
      refine St_api_ID hs14 fun w15 hs15 => ?_
      exact ⟨N, ov, c, c2, H, Ds, hTI, by omega, hD, hH, Sep.pick hs15 [1, 2, 3, 6, 7, 8, 9] 10⟩
    · simp only [nilc_some, fad_mk, pik_true, pik_false, cnd_true, cnd_false, gif_same, gif_tf, gif_ft, gif_undef, bi_add, bi_sub, bi_mul, bi_eql, bi_neq, bi_lss, bi_leq, bi_gtr, bi_geq, notB_bool, cvi_int, lenS_mk, lenT_mk, ext0, ext1, ext2, nilP_mk, nilS_mk, fldv_agg, jn0_k, jn1_k, jn2_k, jn1_and, jn1_or, ex_some, Option.isNone_some, Option.isNone_none, Bool.false_bne, Bool.bne_true, Bool.bne_false, Bool.true_bne, Bool.not_true, Bool.not_false, Bool.and_true, Bool.true_and, Bool.and_false, Bool.false_and, Bool.or_true, Bool.true_or, Bool.or_false, Bool.false_or, cond_true, cond_false, List.getElem?_toArray, List.getElem?_cons_zero, List.getElem?_cons_succ, Nat.zero_add, Nat.add_zero, Nat.reduceAdd, forall_const, show ((0 : Int) != 0) = false from rfl]
      refine alloc_s hs13 (A_api_ID w13) fun g15 w14 hs14 => ?_
      refine St_api_ID hs14 fun w15 hs15 => ?_
      simp only [L_api_ID (Sep.blk hs15)]
      obtain ⟨a1, a2, a3, a4, a5, a6⟩ := addE_ok he
      have hnH : getE b.id H = none := getE_nin (by rw [hH.1]; exact fun hm => by rw [mem_has (.inr hm)] at a2; cases a2)
      have hmpH := Sep.map (Sep.pick hs15 [9, 0, 1, 2, 3, 4, 5, 6, 7, 8, 10] 11)
      rw [lookup_map U_map_api_ID_api_Block KT (zB w15) hmpH b.id, hnH]
      simp only [nilc_some, fad_mk, pik_true, pik_false, cnd_true, cnd_false, gif_same, gif_tf, gif_ft, gif_undef, bi_add, bi_sub, bi_mul, bi_eql, bi_neq, bi_lss, bi_leq, bi_gtr, bi_geq, notB_bool, cvi_int, lenS_mk, lenT_mk, ext0, ext1, ext2, nilP_mk, nilS_mk, fldv_agg, jn0_k, jn1_k, jn2_k, jn1_and, jn1_or, ex_some, Option.isNone_some, Option.isNone_none, Bool.false_bne, Bool.bne_true, Bool.bne_false, Bool.true_bne, Bool.not_true, Bool.not_false, Bool.and_true, Bool.true_and, Bool.and_false, Bool.false_and, Bool.or_true, Bool.true_or, Bool.or_false, Bool.false_or, cond_true, cond_false, List.getElem?_toArray, List.getElem?_cons_zero, List.getElem?_cons_succ, Nat.zero_add, Nat.add_zero, Nat.reduceAdd, forall_const, Option.getD_none]
      refine alloc_s hs15 (A_api_Block w15) fun g17 w16 hs16 => ?_
      refine St_api_Block (b := (vz 32, 0, .slice none 0 0)) hs16 (one_api_Block rfl) fun w17 hs17 => ?_
      simp only [Option.isSome_none, cnd_false]
      have hs18 := Sep.pick hs17 [8, 9, 1, 6, 2, 3, 4, 10, 11, 5] 12
      refine ⟨fun u => Sep w u _, (hs18.drew _).tail.tail, ?_⟩
      refine jn2_dup ?_
      refine ⟨kv b.id, fun u hu => (L_api_ID (Sep.blk hu) _).mpr rfl, ?_⟩
      refine rdS_ld (v := .int .i64 b.h) (fun u hu K hk => (L_api_Block__Height (Sep.blk (Sep.p1 hu)) K).mpr hk) ?_
      refine three_app (hs18.drew _) (by simp; omega) (by simp; omega) fun x' y' w18 hs19 _ => ?_
      simp only [L_api_ID (Sep.blk (Sep.p2 hs19)), L_api_Block (Sep.blk (Sep.p3 hs19)), L_api_Block__Parent (Sep.blk (Sep.p3 hs19)), L_api_Block__Height (Sep.blk (Sep.p3 hs19)), L_api_Block__Data (Sep.blk (Sep.p3 hs19))]
      refine putNew_s (c := c2) (v := bq b a.v) U_map_api_ID_api_Block KT (Sep.pick hs19 [7, 0, 1, 2, 3, 4, 5, 6, 8] 9) hnH fun w19 hs20 => ?_
      refine ⟨N ++ [(b.id, b, vd, c)], ov', c + 1, c2 + 1, _, ownB vd b.d :: Ds, hTI.add he hbh, by simp; omega, hD.add, hH.add (c' := c2) a2 hbw, ?_⟩
      have e3 : idsT t (N ++ [(b.id, b, vd, c)]) = idsT t N ++ [b.id] := by simp [idsT, nms]
      have e4 : htsT t (N ++ [(b.id, b, vd, c)]) = htsT t N ++ [b.h] := by simp [htsT, hts]
      rw [e3, e4]
      exact Sep.pick hs20 [5, 6, 7, 1, 2, 0, 8, 9] 10
  have hNl : (idsT t N).length = N.length + 1 := by simp
  obtain ⟨a, cp, hx, hac⟩ := Sep.formR (Sep.p3 hs7)
  have hlenx : ∀ K, lenS x K = K (.int .i64 ((N.length + 1 : Nat) : Int)) := fun K => by rw [(Sep.rows (Sep.p3 hs7)).len K, hNl]
  have hlt := Nat.mod_lt kid (show 0 < N.length + 1 by omega)
  obtain ⟨k, hk⟩ : ∃ k, (idsT t N)[kid % (N.length + 1)]? = some k := ⟨_, List.getElem?_eq_getElem (by omega)⟩
  simp only [nilc_some, fad_mk, pik_true, pik_false, cnd_true, cnd_false, gif_same, gif_tf, gif_ft, gif_undef, bi_add, bi_sub, bi_mul, bi_eql, bi_neq, bi_lss, bi_leq, bi_gtr, bi_geq, notB_bool, cvi_int, lenS_mk, lenT_mk, ext0, ext1, ext2, nilP_mk, nilS_mk, fldv_agg, jn0_k, jn1_k, jn2_k, jn1_and, jn1_or, ex_some, Option.isNone_some, Option.isNone_none, Bool.false_bne, Bool.bne_true, Bool.bne_false, Bool.true_bne, Bool.not_true, Bool.not_false, Bool.and_true, Bool.true_and, Bool.and_false, Bool.false_and, Bool.or_true, Bool.true_or, Bool.or_false, Bool.false_or, cond_true, cond_false, List.getElem?_toArray, List.getElem?_cons_zero, List.getElem?_cons_succ, Nat.zero_add, Nat.add_zero, Nat.reduceAdd, forall_const, hlenx]
  rw [wi64 (by omega) (by omega), bi_rem _ _ _ _ (by omega), tmodn]
  change ixs 32 _ _ _
  refine Rows'.ldN (q := rVec 32) (by decide) (Sep.rows (Sep.p3 hs7)) hk .i64 ?_
  have hD0 : Dat N (rows (rVec 32) x (idsT t N) :: rows (rInt .i64) y (htsT t N) :: mp gh H c2 :: B3 :: Ds) := hD.sub fun A hA => by simp [hA]
  refine cal_i (Move_spec hs7 hD0 hTI.w hTI.nd (by omega) k) ?_
  intro r w8 hmv
  obtain ⟨t', N', gv, e, G, ov', hr8, hw', hGl, hleft, hD', hs8⟩ : ∃ (t' : Tr) (N' : List TN) (gv : Value) (e : Int) (G : List (Vec 32)) (ov' : Value), r = .tuple #[gv, .int .i64 e] ∧ TrW t' N' ∧ G.length ≤ 1000000 ∧
      (∀ id ∈ nms N, (id = t'.root ∨ id ∈ G → blkOf id N' = none) ∧ (¬ (id = t'.root ∨ id ∈ G) → blkOf id N' = blkOf id N)) ∧ Dat N' (rows (rVec 32) gv G :: rows (rVec 32) x (idsT t N) :: rows (rInt .i64) y (htsT t N) :: mp gh H c2 :: B3 :: Ds) ∧
      Sep w w8 (trH g gm ov' t' N' c ++ (rows (rVec 32) gv G :: rows (rVec 32) x (idsT t N) :: rows (rInt .i64) y (htsT t N) :: mp gh H c2 :: B3 :: Ds)) := by
    rcases hmv with ⟨_, rfl, h3⟩ | ⟨h1, gv, ov', rfl, h3⟩
    · refine ⟨t, N, .slice none 0 0, 4, [], ov, rfl, hTI.w, by simp, fun id hid => ⟨fun h => ?_, fun _ => rfl⟩, hD0.sub fun A hA => List.mem_cons_of_mem _ hA, Sep.pick (Sep.nilR (q := rVec 32) h3) [1, 2, 3, 0] 4⟩
      have h := h.resolve_right (by simp)
      rw [h]
      exact hTI.w.noroot
    · refine ⟨mvT t N k, mvN t N k, gv, 0, mvGone t N k, ov', rfl, (hTI.tm.move h1).w, ?_, fun id hid => mv_left hid, fun z hz => List.mem_cons_of_mem _ (hD0 z (List.mem_filter.1 hz).1), h3⟩
      have := List.length_filter_le (fun x => !under t N x k) (N.map (·.1))
      rw [List.length_map] at this
      unfold mvGone
      omega
  subst hr8
  clear hmv hs7 hD0
  simp only [nilc_some, fad_mk, pik_true, pik_false, cnd_true, cnd_false, gif_same, gif_tf, gif_ft, gif_undef, bi_add, bi_sub, bi_mul, bi_eql, bi_neq, bi_lss, bi_leq, bi_gtr, bi_geq, notB_bool, cvi_int, lenS_mk, lenT_mk, ext0, ext1, ext2, nilP_mk, nilS_mk, fldv_agg, jn0_k, jn1_k, jn2_k, jn1_and, jn1_or, ex_some, Option.isNone_some, Option.isNone_none, Bool.false_bne, Bool.bne_true, Bool.bne_false, Bool.true_bne, Bool.not_true, Bool.not_false, Bool.and_true, Bool.true_and, Bool.and_false, Bool.false_and, Bool.or_true, Bool.true_or, Bool.or_false, Bool.false_or, cond_true, cond_false, List.getElem?_toArray, List.getElem?_cons_zero, List.getElem?_cons_succ, Nat.zero_add, Nat.add_zero, Nat.reduceAdd, forall_const]
  obtain ⟨L, hL⟩ : ∃ L, L = trH g gm ov' t' N' c ++ (rows (rVec 32) gv G :: rows (rVec 32) x (idsT t N) :: rows (rInt .i64) y (htsT t N) :: mp gh H c2 :: B3 :: Ds) := ⟨_, rfl⟩
  rw [← hL] at hs8
  have fT : ∀ {z : World}, Sep w z L → TrR z.heap g gm ov' t' N' c := fun {z} hz => by rw [hL] at hz; exact trH_rd hz hD'
  have fG : ∀ {z : World}, Sep w z L → Rows' (rVec 32) z.heap gv G := fun {z} hz => by rw [hL] at hz; exact Sep.rows (Sep.p3 hz)
  have fx : ∀ {z : World}, Sep w z L → Rows' (rVec 32) z.heap x (idsT t N) := fun {z} hz => by rw [hL] at hz; exact Sep.rows (Sep.p4 hz)
  have fH : ∀ {z : World}, Sep w z L → z.heap[gh]? = some (.map (ents H) c2) := fun {z} hz => by
    rw [hL] at hz
    exact Sep.map (Sep.pick hz [6, 0, 1, 2, 3, 4, 5, 7] 8)
  clear hL
  refine cal_i (Root_spec (fT hs8)) ?_
  rintro _ w9 ⟨rfl, hf9⟩
  have hs9 := hs8.old hf9
  simp only [nilc_some, fad_mk, pik_true, pik_false, cnd_true, cnd_false, gif_same, gif_tf, gif_ft, gif_undef, bi_add, bi_sub, bi_mul, bi_eql, bi_neq, bi_lss, bi_leq, bi_gtr, bi_geq, notB_bool, cvi_int, lenS_mk, lenT_mk, ext0, ext1, ext2, nilP_mk, nilS_mk, fldv_agg, jn0_k, jn1_k, jn2_k, jn1_and, jn1_or, ex_some, Option.isNone_some, Option.isNone_none, Bool.false_bne, Bool.bne_true, Bool.bne_false, Bool.true_bne, Bool.not_true, Bool.not_false, Bool.and_true, Bool.true_and, Bool.and_false, Bool.false_and, Bool.or_true, Bool.true_or, Bool.or_false, Bool.false_or, cond_true, cond_false, List.getElem?_toArray, List.getElem?_cons_zero, List.getElem?_cons_succ, Nat.zero_add, Nat.add_zero, Nat.reduceAdd, forall_const]
  refine alloc_s hs9 (A_api_ID w9) fun g21 w10 hs10 => ?_
  refine St_api_ID (b := t'.root) hs10 fun w11 hs11 => ?_
  have e11 : ∀ K, slc 32 x (some (.int .i64 1)) none K = K (.slice (if cp = 1 then a else a.map (·.add (1 * 32))) N.length (cp - 1)) := fun K => by
    rw [hx, hNl]; exact slc_from (j := 1) (by omega) K
  have r1 : ∀ {z : World}, Sep w z L → Rows' (rVec 32) z.heap (.slice (if cp = 1 then a else a.map (·.add (1 * 32))) N.length (cp - 1)) (nms N) := fun {z} hz => by
    have h1 := fx hz
    rw [hx] at h1
    have := Rows'.drop h1 (k := 1) (by simp) hac (cp - 1)
    rw [hNl] at this
    exact this
  rw [e11]
  simp only [nilc_some, fad_mk, pik_true, pik_false, cnd_true, cnd_false, gif_same, gif_tf, gif_ft, gif_undef, bi_add, bi_sub, bi_mul, bi_eql, bi_neq, bi_lss, bi_leq, bi_gtr, bi_geq, notB_bool, cvi_int, lenS_mk, lenT_mk, ext0, ext1, ext2, nilP_mk, nilS_mk, fldv_agg, jn0_k, jn1_k, jn2_k, jn1_and, jn1_or, ex_some, Option.isNone_some, Option.isNone_none, Bool.false_bne, Bool.bne_true, Bool.bne_false, Bool.true_bne, Bool.not_true, Bool.not_false, Bool.and_true, Bool.true_and, Bool.and_false, Bool.false_and, Bool.or_true, Bool.true_or, Bool.or_false, Bool.false_or, cond_true, cond_false, List.getElem?_toArray, List.getElem?_cons_zero, List.getElem?_cons_succ, Nat.zero_add, Nat.add_zero, Nat.reduceAdd, forall_const]
  refine ⟨fun y z => ∃ i : Nat, y = .int .i64 i ∧ i ≤ N.length ∧ Sep w z (blk g21 (Rdr.cells (rVec 32) t'.root).toArray T_api_ID :: L), fun y _ => (N.length - RowKit.intOf y).toNat, ⟨0, rfl, by omega, hs11⟩, ?_⟩
  rintro _ w12 ⟨i, rfl, hi, hs12⟩ -
  simp only [nilc_some, fad_mk, pik_true, pik_false, cnd_true, cnd_false, gif_same, gif_tf, gif_ft, gif_undef, bi_add, bi_sub, bi_mul, bi_eql, bi_neq, bi_lss, bi_leq, bi_gtr, bi_geq, notB_bool, cvi_int, lenS_mk, lenT_mk, ext0, ext1, ext2, nilP_mk, nilS_mk, fldv_agg, jn0_k, jn1_k, jn2_k, jn1_and, jn1_or, ex_some, Option.isNone_some, Option.isNone_none, Bool.false_bne, Bool.bne_true, Bool.bne_false, Bool.true_bne, Bool.not_true, Bool.not_false, Bool.and_true, Bool.true_and, Bool.and_false, Bool.false_and, Bool.or_true, Bool.true_or, Bool.or_false, Bool.false_or, cond_true, cond_false, List.getElem?_toArray, List.getElem?_cons_zero, List.getElem?_cons_succ, Nat.zero_add, Nat.add_zero, Nat.reduceAdd, forall_const]
  rw [cnd_bool]
  refine ⟨fun h => ?_, fun h => hR _ _ ⟨rfl, hs12.fr0⟩⟩
  have hlt : i < N.length := by simp at h; omega
  obtain ⟨id, hid⟩ : ∃ id, (nms N)[i]? = some id := ⟨_, List.getElem?_eq_getElem (by simpa using hlt)⟩
  have hidm : id ∈ nms N := List.mem_of_getElem? hid
  refine ⟨fun z => Sep w z (blk g21 (Rdr.cells (rVec 32) t'.root).toArray T_api_ID :: L), ?_, fun w13 hs13 _ => ?_⟩
  case refine_2 =>
    rw [wi64 (by omega) (by omega)]
    exact ⟨⟨i + 1, by simp, by omega, hs13⟩, by simp [RowKit.intOf]; omega⟩
  change ixs 32 _ _ _
  refine Rows'.ldN (q := rVec 32) (by decide) (r1 hs12.tail) hid .i64 ?_
  refine alloc_s hs12 (A_api_ID w12) fun g24 w13 hs13 => ?_
  refine St_api_ID (b := id) hs13 fun w14 hs14 => ?_
  simp only [L_api_ID (Sep.blk hs14)]
  refine cal_i (Get_spec (fT hs14.tail.tail) hw' id) ?_
  rintro _ w15 ⟨v15, rfl, hs15⟩
  have hs15' := hs14.join hs15
  simp only [nilc_some, fad_mk, pik_true, pik_false, cnd_true, cnd_false, gif_same, gif_tf, gif_ft, gif_undef, bi_add, bi_sub, bi_mul, bi_eql, bi_neq, bi_lss, bi_leq, bi_gtr, bi_geq, notB_bool, cvi_int, lenS_mk, lenT_mk, ext0, ext1, ext2, nilP_mk, nilS_mk, fldv_agg, jn0_k, jn1_k, jn2_k, jn1_and, jn1_or, ex_some, Option.isNone_some, Option.isNone_none, Bool.false_bne, Bool.bne_true, Bool.bne_false, Bool.true_bne, Bool.not_true, Bool.not_false, Bool.and_true, Bool.true_and, Bool.and_false, Bool.false_and, Bool.or_true, Bool.true_or, Bool.or_false, Bool.false_or, cond_true, cond_false, List.getElem?_toArray, List.getElem?_cons_zero, List.getElem?_cons_succ, Nat.zero_add, Nat.add_zero, Nat.reduceAdd, forall_const]
  refine alloc_s hs15' (A_api_Block w15) fun g25 w16 hs16 => ?_
  refine St_api_Block hs16 (one_api_Block (Sep.one (Sep.p1 hs16))) fun w17 hs17 => ?_
  simp only [L_api_ID (Sep.blk (Sep.p2 hs17)), L_api_ID (Sep.blk (Sep.p3 hs17)), eq_api_ID]
  have hs17' : Sep w w17 (blk g25 _ T_api_Block :: ownB v15 (nb id N').1.d :: blk g24 (Rdr.cells (rVec 32) id).toArray T_api_ID :: blk g21 (Rdr.cells (rVec 32) t'.root).toArray T_api_ID :: L) := hs17
  refine ⟨fun y z => (decide (id = t'.root) = false → y = .bool (decide (id ∈ G))) ∧ Sep w z (blk g25 (Rdr.cells Q_api_Block ((nb id N').1.p, (nb id N').1.h, v15)).toArray T_api_Block :: ownB v15 (nb id N').1.d :: blk g24 (Rdr.cells (rVec 32) id).toArray T_api_ID :: blk g21 (Rdr.cells (rVec 32) t'.root).toArray T_api_ID :: L), ?_, ?_⟩
  · show gif _ _ _ _
    rw [gif_bool]
    refine ⟨fun h => ?_, fun h => ⟨fun h2 => absurd h2 h, hs17'⟩⟩
    refine cal_i (idsContains_spec (fG hs17'.tail.tail.tail.tail) hGl id) ?_
    rintro _ w18 ⟨rfl, hf18⟩
    exact ⟨fun _ => rfl, hs17'.old hf18⟩
  rintro y8 w18 ⟨hy, hs18⟩ _
  have hpk : ∀ K : Value → Prop, pik (.bool (decide (id = t'.root))) (.bool true) y8 K = K (.bool (decide (id = t'.root) || decide (id ∈ G))) := fun K => by
    cases hd : decide (id = t'.root) with
    | true => rw [pik_true, Bool.true_or]
    | false => rw [pik_false, hy hd, Bool.false_or]
  rw [hpk, cnd_bool]
  refine ⟨fun h => ?_, fun h => ?_⟩
  · have h : id = t'.root ∨ id ∈ G := by simpa using h
    have hno : (blkOf id N').isSome = false := by rw [(hleft id hidm).1 h]; rfl
    simp only [hno, nilc_some, fad_mk, pik_true, pik_false, cnd_true, cnd_false, gif_same, gif_tf, gif_ft, gif_undef, bi_add, bi_sub, bi_mul, bi_eql, bi_neq, bi_lss, bi_leq, bi_gtr, bi_geq, notB_bool, cvi_int, lenS_mk, lenT_mk, ext0, ext1, ext2, nilP_mk, nilS_mk, fldv_agg, jn0_k, jn1_k, jn2_k, jn1_and, jn1_or, ex_some, Option.isNone_some, Option.isNone_none, Bool.false_bne, Bool.bne_true, Bool.bne_false, Bool.true_bne, Bool.not_true, Bool.not_false, Bool.and_true, Bool.true_and, Bool.and_false, Bool.false_and, Bool.or_true, Bool.true_or, Bool.or_false, Bool.false_or, cond_true, cond_false, List.getElem?_toArray, List.getElem?_cons_zero, List.getElem?_cons_succ, Nat.zero_add, Nat.add_zero, Nat.reduceAdd, forall_const, show ((4 : Int) != 4) = false from rfl, if_neg Bool.false_ne_true]
    exact hs18.tail.tail.tail
  · have h : ¬ (id = t'.root ∨ id ∈ G) := by
      simp only [Bool.or_eq_false_iff, decide_eq_false_iff_not] at h
      rintro (h1 | h1)
      · exact h.1 h1
      · exact h.2 h1
    have hbk := (hleft id hidm).2 h
    have hbN := mem_blk hidm
    obtain ⟨v9, hv9, hrd9⟩ := hH.2 id _ hbN
    have hsome : (blkOf id N').isSome = true := by rw [hbk, hbN]; rfl
    have hnb : (nb id N').1 = (nb id N).1 := by
      rcases nb_blk (k := id) (N := N') with ⟨h1, _⟩ | h1
      · rw [h1] at hsome; cases hsome
      · rw [hbk, hbN] at h1; simpa using h1.symm
    refine drH_S hs18 fun w19 hs19 _ => ?_
    simp only [hsome, nilc_some, fad_mk, pik_true, pik_false, cnd_true, cnd_false, gif_same, gif_tf, gif_ft, gif_undef, bi_add, bi_sub, bi_mul, bi_eql, bi_neq, bi_lss, bi_leq, bi_gtr, bi_geq, notB_bool, cvi_int, lenS_mk, lenT_mk, ext0, ext1, ext2, nilP_mk, nilS_mk, fldv_agg, jn0_k, jn1_k, jn2_k, jn1_and, jn1_or, ex_some, Option.isNone_some, Option.isNone_none, Bool.false_bne, Bool.bne_true, Bool.bne_false, Bool.true_bne, Bool.not_true, Bool.not_false, Bool.and_true, Bool.true_and, Bool.and_false, Bool.false_and, Bool.or_true, Bool.true_or, Bool.or_false, Bool.false_or, cond_true, cond_false, List.getElem?_toArray, List.getElem?_cons_zero, List.getElem?_cons_succ, Nat.zero_add, Nat.add_zero, Nat.reduceAdd, forall_const, show ((0 : Int) != 0) = false from rfl, if_pos]
    refine jn1_dup ?_
    refine ⟨bq (nb id N').1 v15, fun u hu => (L_api_Block (Sep.blk hu) _).mpr rfl, ?_⟩
    refine ⟨kv id, fun u hu => (L_api_ID (Sep.blk (Sep.p2 hu)) _).mpr rfl, ?_⟩
    refine ⟨bq (nb id N).1 v9, fun u hu => by rw [lookup_map1 U_map_api_ID_api_Block KT (zB u) (fH hu.tail.tail.tail.tail) id, hv9]; rfl, ?_⟩
    refine efS_i (cal_i (rSame_spec (Sep.rd hs19.p1) (hrd9.fr hs19.fr0 (off_nil _))) ?_)
    rintro _ w20 ⟨rfl, hf20⟩
    have hs20 := hs19.old hf20
    refine ⟨hs20, ?_⟩
    rw [hnb, decide_eq_true rfl]
    simp only [nilc_some, fad_mk, pik_true, pik_false, cnd_true, cnd_false, gif_same, gif_tf, gif_ft, gif_undef, bi_add, bi_sub, bi_mul, bi_eql, bi_neq, bi_lss, bi_leq, bi_gtr, bi_geq, notB_bool, cvi_int, lenS_mk, lenT_mk, ext0, ext1, ext2, nilP_mk, nilS_mk, fldv_agg, jn0_k, jn1_k, jn2_k, jn1_and, jn1_or, ex_some, Option.isNone_some, Option.isNone_none, Bool.false_bne, Bool.bne_true, Bool.bne_false, Bool.true_bne, Bool.not_true, Bool.not_false, Bool.and_true, Bool.true_and, Bool.and_false, Bool.false_and, Bool.or_true, Bool.true_or, Bool.or_false, Bool.false_or, cond_true, cond_false, List.getElem?_toArray, List.getElem?_cons_zero, List.getElem?_cons_succ, Nat.zero_add, Nat.add_zero, Nat.reduceAdd, forall_const]
    exact hs20.tail.tail.tail
end
end Go.Fx
set_option linter.unusedVariables false
set_option linter.unusedSimpArgs false
namespace Go.Fx
def argD (xs : List (Vec 32)) (i : Nat) (_ : World) (args : List Value) : Prop := ∃ x, xs[i]? = some x ∧ args = [kv x]
section
variable {w0 w : World} {As : List Asn} {g gm c : Nat} {ov : Value} {t : Tr} {N : List TN}
theorem nilFnD {f : FuncId} {cap : Array Value} {w : World} (K : Value → Prop) : rdP P (eqS .eql T_iter_Seq_api_ID (.tmp 7) (.const Value.nilFunc) (.func (.func f) #[] cap) Value.nilFunc) w K = K (.bool false) := rdP_eq (by kernel_rfl) K
theorem al_slD (w : World) : (Instr.alloc T_sl_api_ID true (.tuple #[])).run P w = .ok (.pointer (some ⟨w.heap.size, 0, none⟩)) (w.alloc (.cells #[.slice none 0 0] T_sl_api_ID)) := by kernel_rfl
/-- What a slice's names, told one by one, are. -/
theorem told1_iter {v : Value} {xs : List (Vec 32)} {g1 : Nat} (hl : xs.length ≤ 1000000) : Iter P (.func (.func f_tree_told_1) #[] #[.pointer (some ⟨g1, 0, none⟩)])
    (fun h => (∃ T fr, h[g1]? = some (.cells #[v] T fr)) ∧ Rows' (rVec 32) h v xs) xs.length (argD xs) := by
  refine ⟨_, _, rfl, by kernel_rfl, fun y w0 w J X As h1 h0 hs hM hst => ?_⟩
  show cal P f_tree_told_1 [y, .pointer (some ⟨g1, 0, none⟩)] w _
  refine s_tree_told_1 fun R hR => ?_
  unfold c_tree_told_1
  obtain ⟨⟨T, fr, hc⟩, hv⟩ := hM 0 As [] w h0 (by rwa [List.append_nil])
  refine ld1_i (v := v) hc rfl ?_
  rw [hv.len]
  refine ⟨fun t z => ∃ (i : Nat) (Bs : List Asn), t = .int .i64 i ∧ i ≤ xs.length ∧ J i Bs ∧ Sep w0 z Bs, fun t _ => (xs.length - RowKit.intOf t).toNat, ⟨0, As, rfl, by omega, h0, hs⟩, ?_⟩
  rintro _ z ⟨i, Bs, rfl, hi, hJ, hz⟩ -
  simp only [nilc_some, fad_mk, pik_true, pik_false, cnd_true, cnd_false, gif_same, gif_tf, gif_ft, gif_undef, bi_add, bi_sub, bi_mul, bi_eql, bi_neq, bi_lss, bi_leq, bi_gtr, bi_geq, notB_bool, cvi_int, lenS_mk, lenT_mk, ext0, ext1, ext2, nilP_mk, nilS_mk, fldv_agg, jn0_k, jn1_k, jn2_k, jn1_and, jn1_or, ex_some, Option.isNone_some, Option.isNone_none, Bool.false_bne, Bool.bne_true, Bool.bne_false, Bool.true_bne, Bool.not_true, Bool.not_false, Bool.and_true, Bool.true_and, Bool.and_false, Bool.false_and, Bool.or_true, Bool.true_or, Bool.or_false, Bool.false_or, cond_true, cond_false, List.getElem?_toArray, List.getElem?_cons_zero, List.getElem?_cons_succ, Nat.zero_add, Nat.add_zero, Nat.reduceAdd, forall_const]
  rw [cnd_bool]
  refine ⟨fun h => ?_, fun h => ?_⟩
  · have hlt : i < xs.length := by simp at h; omega
    obtain ⟨x, hx⟩ : ∃ x, xs[i]? = some x := ⟨_, List.getElem?_eq_getElem hlt⟩
    have hv' := (hM i Bs [] z hJ (by rwa [List.append_nil])).2
    change ixs 32 _ _ _
    refine Rows'.ldN (q := rVec 32) (by decide) hv' hx .i64 ?_
    refine alloc_s hz (A_api_ID z) fun g4 z2 hz2 => ?_
    refine St_api_ID (b := x) hz2 fun z3 hz3 => ?_
    simp only [L_api_ID hz3.blk]
    refine calY_i (hst i [kv x] z3 Bs [_] hlt ⟨x, hx, rfl⟩ hJ (Sep.rot (As := [_]) hz3)) ?_
    rintro r z' (⟨rfl, Cs, hJ', hz'⟩ | ⟨rfl, Cs, hX', hz'⟩)
    · simp only [nilc_some, fad_mk, pik_true, pik_false, cnd_true, cnd_false, gif_same, gif_tf, gif_ft, gif_undef, bi_add, bi_sub, bi_mul, bi_eql, bi_neq, bi_lss, bi_leq, bi_gtr, bi_geq, notB_bool, cvi_int, lenS_mk, lenT_mk, ext0, ext1, ext2, nilP_mk, nilS_mk, fldv_agg, jn0_k, jn1_k, jn2_k, jn1_and, jn1_or, ex_some, Option.isNone_some, Option.isNone_none, Bool.false_bne, Bool.bne_true, Bool.bne_false, Bool.true_bne, Bool.not_true, Bool.not_false, Bool.and_true, Bool.true_and, Bool.and_false, Bool.false_and, Bool.or_true, Bool.true_or, Bool.or_false, Bool.false_or, cond_true, cond_false, List.getElem?_toArray, List.getElem?_cons_zero, List.getElem?_cons_succ, Nat.zero_add, Nat.add_zero, Nat.reduceAdd, forall_const]
      rw [wi64 (by omega) (by omega)]
      exact ⟨⟨i + 1, Cs, by simp, by omega, hJ', hz'.dropR⟩, by simp [RowKit.intOf]; omega⟩
    · simp only [nilc_some, fad_mk, pik_true, pik_false, cnd_true, cnd_false, gif_same, gif_tf, gif_ft, gif_undef, bi_add, bi_sub, bi_mul, bi_eql, bi_neq, bi_lss, bi_leq, bi_gtr, bi_geq, notB_bool, cvi_int, lenS_mk, lenT_mk, ext0, ext1, ext2, nilP_mk, nilS_mk, fldv_agg, jn0_k, jn1_k, jn2_k, jn1_and, jn1_or, ex_some, Option.isNone_some, Option.isNone_none, Bool.false_bne, Bool.bne_true, Bool.bne_false, Bool.true_bne, Bool.not_true, Bool.not_false, Bool.and_true, Bool.true_and, Bool.and_false, Bool.false_and, Bool.or_true, Bool.true_or, Bool.or_false, Bool.false_or, cond_true, cond_false, List.getElem?_toArray, List.getElem?_cons_zero, List.getElem?_cons_succ, Nat.zero_add, Nat.add_zero, Nat.reduceAdd, forall_const]
      exact hR _ _ ⟨rfl, .inr ⟨Cs, hX', hz'.dropR⟩⟩
  · have hge : i = xs.length := by simp at h; omega
    subst hge
    exact hR _ _ ⟨rfl, .inl ⟨Bs, hJ, hz⟩⟩
theorem told11_spec {g : Value} {M : Heap → Prop} {xs : List (Vec 32)} {most : Nat} (hit : Iter P g M xs.length (argD xs)) (hM : ∀ z, Fr [] w z → M z.heap) (hl : xs.length ≤ 1000000) (hm : most ≤ 2000000) :
    cal P f_law11_told [g, .int .i64 most] w fun r w' => Sep w w' [rows (rVec 32) r (xs.take most)] := by
  refine s_law11_told fun R hR => ?_
  unfold c_law11_told
  have hit' := hit
  obtain ⟨gf, cap, rfl, _, _⟩ := hit
  refine bx_s (Sep.start w) fun g3 w1 hs1 => ?_
  replace hs1 : Sep w w1 [blk g3 #[.int .i64 most] T_int] := hs1
  refine alloc_s hs1 (al_slD w1) fun g5 w2 hs2 => ?_
  rw [nilFnD, cnd_false]
  have hs3 := (Sep.nilR (q := rVec 32) hs2).p1
  refine rng_s hs3 hit' (fun i z args ⟨x, _, h⟩ => by rw [h]; rfl) (fun i Bs => i ≤ most ∧ ∃ v, Bs = [blk g5 #[v] T_sl_api_ID, rows (rVec 32) v (xs.take i), blk g3 #[.int .i64 most] T_int])
    (fun c Bs => c = .exit 0 ∧ ∃ v, Bs = [blk g5 #[v] T_sl_api_ID, rows (rVec 32) v (xs.take most), blk g3 #[.int .i64 most] T_int]) ⟨Nat.zero_le _, _, rfl⟩ (fun i Bs Ls z _ hz => hM z hz.fr0) ?_ ?_ ?_
  · rintro i _ z _ LR LB bg fin hi ⟨hle, v, rfl⟩ ⟨x, hx, rfl⟩ hz hbg hfn hfx
    refine alloc_s hz (A_api_ID z) fun g6 za hza => ?_
    simp only [List.getD_cons_zero]
    refine St_api_ID (b := x) hza fun zb hzb => ?_
    refine hbg zb [_, _, _, _] _ hzb fun z1 hz1 => ?_
    simp only [List.cons_append, List.nil_append] at hz1
    have htl : (xs.take i).length = i := by rw [List.length_take]; omega
    refine ld1_i (v := v) (Sep.blk hz1.p1) rfl ?_
    rw [(Sep.rows hz1.p2).len, htl]
    refine ld1_i (v := .int .i64 most) (Sep.blk hz1.p3) rfl ?_
    simp only [nilc_some, fad_mk, pik_true, pik_false, cnd_true, cnd_false, gif_same, gif_tf, gif_ft, gif_undef, bi_add, bi_sub, bi_mul, bi_eql, bi_neq, bi_lss, bi_leq, bi_gtr, bi_geq, notB_bool, cvi_int, lenS_mk, lenT_mk, ext0, ext1, ext2, nilP_mk, nilS_mk, fldv_agg, jn0_k, jn1_k, jn2_k, jn1_and, jn1_or, ex_some, Option.isNone_some, Option.isNone_none, Bool.false_bne, Bool.bne_true, Bool.bne_false, Bool.true_bne, Bool.not_true, Bool.not_false, Bool.and_true, Bool.true_and, Bool.and_false, Bool.false_and, Bool.or_true, Bool.true_or, Bool.or_false, Bool.false_or, cond_true, cond_false, List.getElem?_toArray, List.getElem?_cons_zero, List.getElem?_cons_succ, Nat.zero_add, Nat.add_zero, Nat.reduceAdd, forall_const]
    rw [cnd_bool]
    refine ⟨fun h => ?_, fun h => ?_⟩
    · have h : most ≤ i := by simp at h; omega
      obtain rfl : i = most := by omega
      exact hfx _ z1 _ ⟨rfl, v, rfl⟩ hz1.tail
    · have h : i < most := by simp at h; omega
      refine ld1_i (v := v) (Sep.blk hz1.p1) rfl ?_
      simp only [L_api_ID hz1.blk]
      refine bldI hz1 fun a z2 hz2 => ?_
      refine appI hz2.p3 (Sep.rows hz2) (by omega) fun v' z3 hz3 => ?_
      have hz4 := Sep.pick hz3 [3, 0, 4] 5
      refine st1_s hz4 (by simp) (Sep.oneR hz3) fun z5 hz5 => ?_
      refine hfn z5 _ ⟨h, v', rfl⟩ ?_
      have e : xs.take (i + 1) = xs.take i ++ [x] := by rw [List.take_add_one, hx]; rfl
      rw [e]
      exact hz5
  · rintro D _ z ⟨hle, v, rfl⟩ hz
    refine .inl ⟨rfl, ?_⟩
    refine ld1_i (v := v) (Sep.blk hz.p1) rfl ?_
    refine takeD_s hz fun w' hw' => hR _ _ ?_
    rw [List.take_of_length_le (Nat.le_refl _)] at hw'
    rw [List.take_of_length_le hle]
    exact Sep.dropR (As := [rows (rVec 32) v xs]) hw'.tail
  · rintro D _ _ z ⟨rfl, v, rfl⟩ hz
    refine .inr (.inl ⟨rfl, ?_⟩)
    refine ld1_i (v := v) (Sep.blk hz.p1) rfl ?_
    refine takeD_s hz fun w' hw' => hR _ _ ?_
    exact Sep.dropR (As := [rows (rVec 32) v (xs.take most)]) hw'.tail
/-- What goes through the names xs, as tree.told makes it. -/
def Goes (w0 w : World) (r : Value) (xs : List (Vec 32)) : Prop := ∃ g1 v, r = .func (.func f_tree_told_1) #[] #[.pointer (some ⟨g1, 0, none⟩)] ∧ Sep w0 w [blk g1 #[v] T_sl_api_ID, rows (rVec 32) v xs]
theorem Goes.told {r : Value} {xs : List (Vec 32)} {most : Nat} (h : Goes w0 w r xs) (hl : xs.length ≤ 1000000) (hm : most ≤ 2000000) : cal P f_law11_told [r, .int .i64 most] w fun r w' => Sep w w' [rows (rVec 32) r (xs.take most)] := by
  obtain ⟨g1, v, rfl, hs⟩ := h
  exact told11_spec (told1_iter hl) (fun z hz => ⟨⟨_, _, (hs.old hz).blk⟩, Sep.rows (hs.old hz).p1⟩) hl hm
theorem ttold_spec {v : Value} {xs : List (Vec 32)} (hs : Sep w0 w [rows (rVec 32) v xs]) : cal P f_tree_told [v] w fun r w' => Goes w0 w' r xs := by
  refine s_tree_told fun R hR => ?_
  unfold c_tree_told
  refine bx_s hs fun g1 w1 hs1 => ?_
  have hv := Sep.oneR hs
  have ev : v.cells = #[v] := by cases v <;> simp_all [Value.cells, Value.oneCell']
  rw [ev] at hs1
  exact hR _ _ ⟨g1, v, rfl, hs1⟩
theorem All_spec (hr : TrR w.heap g gm ov t N c) (hn : N.length ≤ 1000000) : cal P f_tree_Tree_All [.pointer (some ⟨g, 0, none⟩)] w fun r w' => Goes w w' r (nms N) := by
  refine s_tree_Tree_All fun R hR => ?_
  unfold c_tree_Tree_All
  refine cal_i (those_spec (f := f_tree_Tree_All_1) (cap := []) (so := fun _ => true) hr hn (by kernel_rfl) ?_) ?_
  · intro z x hz
    refine s_tree_Tree_All_1 fun R hR => ?_
    unfold c_tree_Tree_All_1
    refine bxQ (Sep.start z) fun g5 w5 hs5 => ?_
    exact hR _ _ ⟨rfl, hs5.fr0⟩
  · rintro r w3 hs3
    rw [List.filter_eq_self.2 (fun _ _ => rfl)] at hs3
    refine cal_i (ttold_spec hs3) ?_
    rintro r' w4 hg
    exact hR _ _ hg
theorem node_mem : ∀ {N : List TN} (_ : (nms N).Nodup) {x : TN} (_ : x ∈ N), nodeOf x.1 N = some x
  | [], _, x, hx => by cases hx
  | y :: N, hu, x, hx => by
    have h1 : y.1 ∉ nms N ∧ (nms N).Nodup := List.nodup_cons.1 hu
    unfold nodeOf
    rw [List.find?_cons]
    rcases List.mem_cons.1 hx with rfl | hx
    · simp
    · have hne : ¬ x.1 = y.1 := fun he => h1.1 (he ▸ List.mem_map.2 ⟨x, hx, rfl⟩)
      rw [decide_eq_false hne]
      exact node_mem h1.2 hx
theorem kid_names (hu : (nms N).Nodup) (k : Vec 32) : (nms N).filter (fun x => decide (upOf x N = k)) = nms (N.filter fun x => decide (x.2.1.p = k)) := by
  have h : ∀ x ∈ N, upOf x.1 N = x.2.1.p := fun x hx => by
    unfold upOf nb
    rw [node_mem hu hx]
    rfl
  show (N.map (·.1)).filter _ = (N.filter _).map (·.1)
  rw [List.filter_map]
  congr 1
  refine List.filter_congr fun x hx => ?_
  show decide (upOf x.1 N = k) = _
  rw [h x hx]
theorem Kids_spec (hr : TrR w.heap g gm ov t N c) (hn : N.length ≤ 1000000) (hu : (nms N).Nodup) (k : Vec 32) : cal P f_tree_Tree_Kids [.pointer (some ⟨g, 0, none⟩), kv k] w fun r w' => Goes w w' r (if has t N k = true then nms (N.filter fun x => decide (x.2.1.p = k)) else []) := by
  refine s_tree_Tree_Kids fun R hR => ?_
  unfold c_tree_Tree_Kids
  refine bx_s (Sep.start w) fun g2 w1 hs1 => ?_
  replace hs1 : Sep w w1 [blk g2 #[.pointer (some ⟨g, 0, none⟩)] T_p_tree_Tree] := hs1
  refine bxQ hs1 fun g3 w2 hs2 => ?_
  refine ld1_i (Sep.p1 hs2).blk rfl ?_
  simp only [L_api_ID hs2.blk]
  refine cal_i (Has_spec (hs2.tr hr) k) ?_
  rintro _ w3 ⟨rfl, hf3⟩
  have hs3 := hs2.old hf3
  simp only [nilc_some, fad_mk, pik_true, pik_false, cnd_true, cnd_false, gif_same, gif_tf, gif_ft, gif_undef, bi_add, bi_sub, bi_mul, bi_eql, bi_neq, bi_lss, bi_leq, bi_gtr, bi_geq, notB_bool, cvi_int, lenS_mk, lenT_mk, ext0, ext1, ext2, nilP_mk, nilS_mk, fldv_agg, jn0_k, jn1_k, jn2_k, jn1_and, jn1_or, ex_some, Option.isNone_some, Option.isNone_none, Bool.false_bne, Bool.bne_true, Bool.bne_false, Bool.true_bne, Bool.not_true, Bool.not_false, Bool.and_true, Bool.true_and, Bool.and_false, Bool.false_and, Bool.or_true, Bool.true_or, Bool.or_false, Bool.false_or, cond_true, cond_false, List.getElem?_toArray, List.getElem?_cons_zero, List.getElem?_cons_succ, Nat.zero_add, Nat.add_zero, Nat.reduceAdd, forall_const]
  cases hk : has t N k with
  | false =>
    simp only [nilc_some, fad_mk, pik_true, pik_false, cnd_true, cnd_false, gif_same, gif_tf, gif_ft, gif_undef, bi_add, bi_sub, bi_mul, bi_eql, bi_neq, bi_lss, bi_leq, bi_gtr, bi_geq, notB_bool, cvi_int, lenS_mk, lenT_mk, ext0, ext1, ext2, nilP_mk, nilS_mk, fldv_agg, jn0_k, jn1_k, jn2_k, jn1_and, jn1_or, ex_some, Option.isNone_some, Option.isNone_none, Bool.false_bne, Bool.bne_true, Bool.bne_false, Bool.true_bne, Bool.not_true, Bool.not_false, Bool.and_true, Bool.true_and, Bool.and_false, Bool.false_and, Bool.or_true, Bool.true_or, Bool.or_false, Bool.false_or, cond_true, cond_false, List.getElem?_toArray, List.getElem?_cons_zero, List.getElem?_cons_succ, Nat.zero_add, Nat.add_zero, Nat.reduceAdd, forall_const]
    have hs4 : Sep w w3 [rows (rVec 32) (.slice none 0 0) []] := Sep.dropR (As := [_]) hs3.nilR
    refine cal_i (ttold_spec hs4) ?_
    rintro r' w4 hg
    exact hR _ _ (by rw [if_neg (by rw [hk]; simp)]; exact hg)
  | true =>
    simp only [nilc_some, fad_mk, pik_true, pik_false, cnd_true, cnd_false, gif_same, gif_tf, gif_ft, gif_undef, bi_add, bi_sub, bi_mul, bi_eql, bi_neq, bi_lss, bi_leq, bi_gtr, bi_geq, notB_bool, cvi_int, lenS_mk, lenT_mk, ext0, ext1, ext2, nilP_mk, nilS_mk, fldv_agg, jn0_k, jn1_k, jn2_k, jn1_and, jn1_or, ex_some, Option.isNone_some, Option.isNone_none, Bool.false_bne, Bool.bne_true, Bool.bne_false, Bool.true_bne, Bool.not_true, Bool.not_false, Bool.and_true, Bool.true_and, Bool.and_false, Bool.false_and, Bool.or_true, Bool.true_or, Bool.or_false, Bool.false_or, cond_true, cond_false, List.getElem?_toArray, List.getElem?_cons_zero, List.getElem?_cons_succ, Nat.zero_add, Nat.add_zero, Nat.reduceAdd, forall_const]
    refine ld1_i (Sep.p1 hs3).blk rfl ?_
    refine cal_i (those_spec (f := f_tree_Tree_Kids_1) (cap := [.pointer (some ⟨g2, 0, none⟩), .pointer (some ⟨g3, 0, none⟩)]) (so := fun x => decide (upOf x N = k)) (hs3.tr hr) hn (by kernel_rfl) ?_) ?_
    · intro z x hz
      have hsz := hs3.old hz
      refine s_tree_Tree_Kids_1 fun R hR => ?_
      unfold c_tree_Tree_Kids_1
      have hs0 : Sep z z [] := Sep.start z
      refine bxQ hs0 fun g5 w5 hs5 => ?_
      refine drw_s hs5 fun w6 hs6 _ => ?_
      have h2 := hs6.fr0.blk (Sep.p1 hsz).blk (by simp)
      have h3 := hs6.fr0.blk hsz.blk (by simp)
      refine ld1_i (v := .pointer (some ⟨g, 0, none⟩)) h2 rfl ?_
      have hr6 := TrR.fr (hsz.tr hr) hs6.fr0
      obtain ⟨T, fr, hc⟩ := hr6.cell
      simp only [nilc_some, fad_mk, pik_true, pik_false, cnd_true, cnd_false, gif_same, gif_tf, gif_ft, gif_undef, bi_add, bi_sub, bi_mul, bi_eql, bi_neq, bi_lss, bi_leq, bi_gtr, bi_geq, notB_bool, cvi_int, lenS_mk, lenT_mk, ext0, ext1, ext2, nilP_mk, nilS_mk, fldv_agg, jn0_k, jn1_k, jn2_k, jn1_and, jn1_or, ex_some, Option.isNone_some, Option.isNone_none, Bool.false_bne, Bool.bne_true, Bool.bne_false, Bool.true_bne, Bool.not_true, Bool.not_false, Bool.and_true, Bool.true_and, Bool.and_false, Bool.false_and, Bool.or_true, Bool.true_or, Bool.or_false, Bool.false_or, cond_true, cond_false, List.getElem?_toArray, List.getElem?_cons_zero, List.getElem?_cons_succ, Nat.zero_add, Nat.add_zero, Nat.reduceAdd, forall_const, L_tree_Tree hc, L_tree_Tree__made hc, L_tree_Tree__root hc, L_tree_Tree__height hc, L_tree_Tree__most hc, L_tree_Tree__blocks hc, L_tree_Tree__order hc, L_api_ID hs6.blk]
      rw [hr6.look1, nb_get]
      change fldv _ _ _ _ _
      rw [fldv_par]
      simp only [L_api_ID h3, eq_api_ID]
      exact hR _ _ ⟨rfl, hs6.fr0⟩
    · rintro r w4 hs4
      rw [kid_names hu] at hs4
      have hs5 : Sep w w4 [rows (rVec 32) r (nms (N.filter fun x => decide (x.2.1.p = k)))] := Sep.dropR (As := [_]) (hs3.join hs4)
      refine cal_i (ttold_spec hs5) ?_
      rintro r' w5 hg
      exact hR _ _ (by rw [if_pos hk]; exact hg)
end
end Go.Fx
set_option linter.unusedVariables false
set_option linter.unusedSimpArgs false
namespace Go.Fx
def TN.kb (x : TN) : Vec 32 × Blk := (x.1, x.2.1)
abbrev kbs (N : List TN) : List (Vec 32 × Blk) := N.map TN.kb
section
variable {N M : List TN} {t : Tr}
theorem kb_blk : ∀ {N M : List TN} (_ : kbs N = kbs M) (k : Vec 32), blkOf k N = blkOf k M
  | [], [], _, k => rfl
  | [], y :: M, h, k => by simp at h
  | x :: N, [], h, k => by simp at h
  | x :: N, y :: M, h, k => by
    have h1 : x.kb = y.kb ∧ kbs N = kbs M := List.cons.inj h
    have h2 : x.1 = y.1 := by show x.kb.1 = y.kb.1; rw [h1.1]
    have h3 : x.2.1 = y.2.1 := by show x.kb.2 = y.kb.2; rw [h1.1]
    have ih := kb_blk h1.2 k
    unfold blkOf nodeOf at ih ⊢
    rw [List.find?_cons, List.find?_cons, h2]
    by_cases hk : k = y.1
    · simp [hk, h3]
    · simpa [hk] using ih
theorem nb_eq (k : Vec 32) (N : List TN) : (nb k N).1 = (blkOf k N).getD Blk.none := by
  unfold nb blkOf
  cases nodeOf k N <;> rfl
theorem kb_nb (h : kbs N = kbs M) (k : Vec 32) : (nb k N).1 = (nb k M).1 := by rw [nb_eq, nb_eq, kb_blk h]
theorem kb_has (h : kbs N = kbs M) (k : Vec 32) : has t N k = has t M k := by unfold has; rw [kb_blk h]
theorem kb_lev (h : kbs N = kbs M) (k : Vec 32) : levH t N k = levH t M k := by unfold levH; rw [kb_blk h]
theorem kb_hgt (h : kbs N = kbs M) (k : Vec 32) : hgt t N k = hgt t M k := by unfold hgt; rw [kb_lev h]
theorem kb_up (h : kbs N = kbs M) (k : Vec 32) : upOf k N = upOf k M := by unfold upOf; rw [kb_nb h]
theorem kb_way (h : kbs N = kbs M) : ∀ (n : Nat) (k : Vec 32), wayUp t N n k = wayUp t M n k
  | 0, k => rfl
  | n + 1, k => by unfold wayUp; rw [kb_up h, kb_way h n]
theorem kb_path (h : kbs N = kbs M) (k : Vec 32) : pathOf t N k = pathOf t M k := by unfold pathOf; rw [kb_has h, kb_hgt h, kb_way h]
theorem kb_under (h : kbs N = kbs M) (a b : Vec 32) : under t N a b = under t M a b := by unfold under; rw [kb_has h, kb_has h, kb_hgt h, kb_way h]
theorem kb_nms (h : kbs N = kbs M) : nms N = nms M := by
  have h1 := congrArg (List.map Prod.fst) h
  rw [List.map_map, List.map_map] at h1
  exact h1
theorem kb_len (h : kbs N = kbs M) : N.length = M.length := by
  have h1 := congrArg List.length h
  simpa using h1
theorem kb_filter (p : Vec 32 × Blk → Bool) (h : kbs N = kbs M) : kbs (N.filter fun x => p x.kb) = kbs (M.filter fun x => p x.kb) := by
  have e : ∀ N : List TN, kbs (N.filter fun x => p x.kb) = (kbs N).filter p := fun N => by rw [kbs, List.filter_map]; rfl
  rw [e, e, h]
theorem kb_kids (h : kbs N = kbs M) (k : Vec 32) : nms (N.filter fun x => decide (x.2.1.p = k)) = nms (M.filter fun x => decide (x.2.1.p = k)) := kb_nms (kb_filter (fun y => decide (y.2.p = k)) h)
theorem hgt_none {m : Nat} (hi : TM t N m) (k : Vec 32) : hgt t N k ≤ m := by
  cases hk : has t N k with
  | true => exact hi.hb k hk
  | false =>
    have h1 : ¬ k = t.root ∧ (blkOf k N).isSome = false := by
      unfold has at hk
      simpa using hk
    have h2 : blkOf k N = none := by simpa using h1.2
    have := hi.ht
    unfold hgt levH
    rw [if_neg h1.1, h2]
    simp only
    omega
theorem TM.kb {m : Nat} (hi : TM t N m) (h : kbs N = kbs M) : TM t M m := by
  have hn := kb_nms h
  refine ⟨⟨fun k b hb => ?_, fun k b hb => ?_, ?_, fun x hx => ?_⟩, ?_, fun k hk => ?_, fun x hx => ?_, hi.ht⟩
  · rw [← kb_blk h] at hb
    rw [← kb_has h, ← kb_lev h]
    exact hi.w.up k b hb
  · rw [← kb_blk h] at hb
    exact hi.w.above k b hb
  · rw [← kb_blk h]; exact hi.w.noroot
  · have : x.kb ∈ kbs N := by rw [h]; exact List.mem_map.2 ⟨x, hx, rfl⟩
    obtain ⟨y, hy, he⟩ := List.mem_map.1 this
    have := hi.w.small y hy
    rw [show y.2.1 = x.2.1 from congrArg Prod.snd he] at this
    exact this
  · show (nms M).Nodup
    rw [← hn]; exact hi.nd
  · rw [← kb_hgt h]; exact hi.hb k (by rw [kb_has h]; exact hk)
  · have : x.kb ∈ kbs N := by rw [h]; exact List.mem_map.2 ⟨x, hx, rfl⟩
    obtain ⟨y, hy, he⟩ := List.mem_map.1 this
    have := hi.hi y hy
    rw [show y.2.1 = x.2.1 from congrArg Prod.snd he] at this
    exact this
end
/-- A pair of trees that hold the same, and the names that were told. -/
structure BothR (h : Heap) (gx g gm gr : Nat) (ov lv x : Value) (t : Tr) (N M : List TN) (c : Nat) (ids : List (Vec 32)) : Prop where
  cell : ∃ T fr, h[gx]? = some (.cells (Rdr.cells Q_flurrylaw11_both (.pointer (some ⟨g, 0, none⟩), .pointer (some ⟨gr, 0, none⟩), x)).toArray T fr)
  tr : TrR h g gm ov t N c
  rf : RfR h gr lv t M
  ids : Rows' (rVec 32) h x ids
section
variable {w0 w w' : World} {As : List Asn} {gx g gm gr c : Nat} {ov lv x : Value} {t : Tr} {N M : List TN} {ids : List (Vec 32)}
theorem BothR.fr (h : BothR w.heap gx g gm gr ov lv x t N M c ids) (hf : Fr [] w w') : BothR w'.heap gx g gm gr ov lv x t N M c ids := by
  obtain ⟨⟨T, fr, hc⟩, h2, h3, h4⟩ := h
  exact ⟨⟨T, fr, hf.blk hc (by simp)⟩, h2.fr hf, h3.fr hf, h4.fr hf⟩
theorem BothR.ldt {h : Heap} (hb : BothR h gx g gm gr ov lv x t N M c ids) {K : Value → Prop} (hk : K (.pointer (some ⟨g, 0, none⟩))) : ld1 (.pointer (some ⟨gx, 0, none⟩)) h K := by
  obtain ⟨T, fr, hc⟩ := hb.cell
  exact (L_flurrylaw11_both__t hc K).mpr hk
theorem BothR.ldr {h : Heap} (hb : BothR h gx g gm gr ov lv x t N M c ids) {K : Value → Prop} (hk : K (.pointer (some ⟨gr, 0, none⟩))) : ld1 (.pointer (some ⟨gx, 1, none⟩)) h K := by
  obtain ⟨T, fr, hc⟩ := hb.cell
  exact (L_flurrylaw11_both__r hc K).mpr hk
theorem BothR.ldi {h : Heap} (hb : BothR h gx g gm gr ov lv x t N M c ids) {K : Value → Prop} (hk : K x) : ld1 (.pointer (some ⟨gx, 2, none⟩)) h K := by
  obtain ⟨T, fr, hc⟩ := hb.cell
  exact (L_flurrylaw11_both__ids hc K).mpr hk
theorem Sep.both (h : Sep w0 w As) (hb : BothR w0.heap gx g gm gr ov lv x t N M c ids) : BothR w.heap gx g gm gr ov lv x t N M c ids := hb.fr h.1
theorem Goes.fr0 {r : Value} {xs : List (Vec 32)} (h : Goes w0 w r xs) : Fr [] w0 w := by
  obtain ⟨_, _, _, hs⟩ := h
  exact hs.fr0
/-- What both say about a name. -/
theorem alike_spec {m : Nat} (hB : BothR w.heap gx g gm gr ov lv x t N M c ids) (hkb : kbs N = kbs M) (hi : TM t N m) (hm : m ≤ 1000000) (hn : N.length ≤ 1000000) (k : Vec 32) :
    cal P f_law11_both_alike [.pointer (some ⟨gx, 0, none⟩), kv k] w fun r w' => r = .bool true ∧ Fr [] w w' := by
  have hiM := hi.kb hkb
  have hnM : M.length ≤ 1000000 := by rw [← kb_len hkb]; exact hn
  have hh : ∀ a, hgt t N a ≤ 1000000 := fun a => Nat.le_trans (hgt_none hi a) hm
  have hhM : ∀ a, hgt t M a ≤ 1000000 := fun a => Nat.le_trans (hgt_none hiM a) hm
  refine s_law11_both_alike fun R hR => ?_
  unfold c_law11_both_alike
  refine bxQ (Sep.start w) fun g3 w1 hs1 => ?_
  refine drH_S hs1 fun w2 hs2 _ => ?_
  simp only [nilc_some, fad_mk, pik_true, pik_false, cnd_true, cnd_false, gif_same, gif_tf, gif_ft, gif_undef, bi_add, bi_sub, bi_mul, bi_eql, bi_neq, bi_lss, bi_leq, bi_gtr, bi_geq, notB_bool, cvi_int, lenS_mk, lenT_mk, ext0, ext1, ext2, nilP_mk, nilS_mk, fldv_agg, jn0_k, jn1_k, jn2_k, jn1_and, jn1_or, ex_some, Option.isNone_some, Option.isNone_none, Bool.false_bne, Bool.bne_true, Bool.bne_false, Bool.true_bne, Bool.not_true, Bool.not_false, Bool.and_true, Bool.true_and, Bool.and_false, Bool.false_and, Bool.or_true, Bool.true_or, Bool.or_false, Bool.false_or, cond_true, cond_false, List.getElem?_toArray, List.getElem?_cons_zero, List.getElem?_cons_succ, Nat.zero_add, Nat.add_zero, Nat.reduceAdd, forall_const]
  refine ⟨fun a b z => ∃ g5 v, a = .pointer (some ⟨g5, 0, none⟩) ∧ b = .int .i64 (if (blkOf k N).isSome then 0 else 4) ∧ Sep w z [blk g5 (Rdr.cells Q_api_Block ((nb k N).1.p, (nb k N).1.h, v)).toArray T_api_Block, ownB v (nb k N).1.d, blk g3 (Rdr.cells (rVec 32) k).toArray T_api_ID], ?_, ?_⟩
  · refine rdS_ld (v := .pointer (some ⟨g, 0, none⟩)) (fun u hu K hk => (hu.both hB).ldt hk) ?_
    refine ⟨kv k, fun u hu => (L_api_ID hu.blk _).mpr rfl, ?_⟩
    refine ⟨?_, ?_, trivial⟩
    · refine efC_cut (cal_i (Get_spec (hs2.both hB).tr hi.w k) ?_)
      rintro _ w3 ⟨v, rfl, hs3⟩
      have hs4 := hs2.join hs3
      refine ⟨fun u => Sep w u [ownB v (nb k N).1.d, blk g3 (Rdr.cells (rVec 32) k).toArray T_api_ID], hs4, ?_⟩
      simp only [nilc_some, fad_mk, pik_true, pik_false, cnd_true, cnd_false, gif_same, gif_tf, gif_ft, gif_undef, bi_add, bi_sub, bi_mul, bi_eql, bi_neq, bi_lss, bi_leq, bi_gtr, bi_geq, notB_bool, cvi_int, lenS_mk, lenT_mk, ext0, ext1, ext2, nilP_mk, nilS_mk, fldv_agg, jn0_k, jn1_k, jn2_k, jn1_and, jn1_or, ex_some, Option.isNone_some, Option.isNone_none, Bool.false_bne, Bool.bne_true, Bool.bne_false, Bool.true_bne, Bool.not_true, Bool.not_false, Bool.and_true, Bool.true_and, Bool.and_false, Bool.false_and, Bool.or_true, Bool.true_or, Bool.or_false, Bool.false_or, cond_true, cond_false, List.getElem?_toArray, List.getElem?_cons_zero, List.getElem?_cons_succ, Nat.zero_add, Nat.add_zero, Nat.reduceAdd, forall_const]
      refine efS_i (alloc_s hs4 (A_api_Block w3) fun g5 w5 hs5 => ⟨hs5.tail, ?_⟩)
      refine efC_stN (St_api_Block hs5 (one_api_Block (Sep.one hs5.p1)) fun w6 hs6 => ?_)
      exact ⟨g5, v, rfl, trivial, hs6⟩
    · refine efS_i (alloc_s hs2 (A_api_Block w2) fun g5 w3 hs3 => ⟨hs3.tail, ?_⟩)
      refine efC_cut (cal_i (Get_spec (hs3.both hB).tr hi.w k) ?_)
      rintro _ w4 ⟨v, rfl, hs4⟩
      have hs5 := hs3.join hs4
      refine ⟨fun u => True, trivial, ?_⟩
      simp only [nilc_some, fad_mk, pik_true, pik_false, cnd_true, cnd_false, gif_same, gif_tf, gif_ft, gif_undef, bi_add, bi_sub, bi_mul, bi_eql, bi_neq, bi_lss, bi_leq, bi_gtr, bi_geq, notB_bool, cvi_int, lenS_mk, lenT_mk, ext0, ext1, ext2, nilP_mk, nilS_mk, fldv_agg, jn0_k, jn1_k, jn2_k, jn1_and, jn1_or, ex_some, Option.isNone_some, Option.isNone_none, Bool.false_bne, Bool.bne_true, Bool.bne_false, Bool.true_bne, Bool.not_true, Bool.not_false, Bool.and_true, Bool.true_and, Bool.and_false, Bool.false_and, Bool.or_true, Bool.true_or, Bool.or_false, Bool.false_or, cond_true, cond_false, List.getElem?_toArray, List.getElem?_cons_zero, List.getElem?_cons_succ, Nat.zero_add, Nat.add_zero, Nat.reduceAdd, forall_const]
      refine efC_stN (St_api_Block hs5.p1 (one_api_Block (Sep.one hs5)) fun w6 hs6 => ?_)
      exact ⟨g5, v, rfl, trivial, hs6⟩
  rintro _ _ z ⟨g5, v, rfl, rfl, hs3⟩ _
  obtain ⟨L, hL⟩ : ∃ L, L = [blk g5 (Rdr.cells Q_api_Block ((nb k N).1.p, (nb k N).1.h, v)).toArray T_api_Block, ownB v (nb k N).1.d, blk g3 (Rdr.cells (rVec 32) k).toArray T_api_ID] := ⟨_, rfl⟩
  rw [← hL] at hs3
  have f3 : ∀ {z : World}, Sep w z L → ∀ K, ldN 32 (.pointer (some ⟨g3, 0, none⟩)) z.heap K = K (kv k) := fun {z} hz K => by
    rw [hL] at hz
    exact L_api_ID (Sep.blk hz.p2) K
  refine drH_S hs3 fun w4 hs4 _ => ?_
  refine ⟨fun a b z => ∃ g7, a = .pointer (some ⟨g7, 0, none⟩) ∧ b = .int .i64 (if (blkOf k M).isSome then 0 else 4) ∧ Sep w z (blk g7 (Rdr.cells Q_api_Block ((nb k M).1.p, (nb k M).1.h, (nb k M).2)).toArray T_api_Block :: L), ?_, ?_⟩
  · simp only [nilc_some, fad_mk, pik_true, pik_false, cnd_true, cnd_false, gif_same, gif_tf, gif_ft, gif_undef, bi_add, bi_sub, bi_mul, bi_eql, bi_neq, bi_lss, bi_leq, bi_gtr, bi_geq, notB_bool, cvi_int, lenS_mk, lenT_mk, ext0, ext1, ext2, nilP_mk, nilS_mk, fldv_agg, jn0_k, jn1_k, jn2_k, jn1_and, jn1_or, ex_some, Option.isNone_some, Option.isNone_none, Bool.false_bne, Bool.bne_true, Bool.bne_false, Bool.true_bne, Bool.not_true, Bool.not_false, Bool.and_true, Bool.true_and, Bool.and_false, Bool.false_and, Bool.or_true, Bool.true_or, Bool.or_false, Bool.false_or, cond_true, cond_false, List.getElem?_toArray, List.getElem?_cons_zero, List.getElem?_cons_succ, Nat.zero_add, Nat.add_zero, Nat.reduceAdd, forall_const]
    refine rdS_ld (v := .pointer (some ⟨gr, 0, none⟩)) (fun u hu K hk => (hu.both hB).ldr hk) ?_
    refine ⟨kv k, fun u hu => (f3 hu _).mpr rfl, ?_⟩
    refine ⟨?_, ?_, trivial⟩
    · refine efC_cut (cal_i (GetR_spec (hs4.both hB).rf hnM k) ?_)
      rintro _ w5 ⟨rfl, hf5⟩
      have hs5 := hs4.old hf5
      refine ⟨fun u => Sep w u L, hs5, ?_⟩
      simp only [nilc_some, fad_mk, pik_true, pik_false, cnd_true, cnd_false, gif_same, gif_tf, gif_ft, gif_undef, bi_add, bi_sub, bi_mul, bi_eql, bi_neq, bi_lss, bi_leq, bi_gtr, bi_geq, notB_bool, cvi_int, lenS_mk, lenT_mk, ext0, ext1, ext2, nilP_mk, nilS_mk, fldv_agg, jn0_k, jn1_k, jn2_k, jn1_and, jn1_or, ex_some, Option.isNone_some, Option.isNone_none, Bool.false_bne, Bool.bne_true, Bool.bne_false, Bool.true_bne, Bool.not_true, Bool.not_false, Bool.and_true, Bool.true_and, Bool.and_false, Bool.false_and, Bool.or_true, Bool.true_or, Bool.or_false, Bool.false_or, cond_true, cond_false, List.getElem?_toArray, List.getElem?_cons_zero, List.getElem?_cons_succ, Nat.zero_add, Nat.add_zero, Nat.reduceAdd, forall_const]
      refine efS_i (alloc_s hs5 (A_api_Block w5) fun g7 w6 hs6 => ⟨hs6.tail, ?_⟩)
      refine efC_stN (St_api_Block hs6 (one_api_Block ((hB.rf.nb k).one)) fun w7 hs7 => ?_)
      exact ⟨g7, rfl, trivial, hs7⟩
    · refine efS_i (alloc_s hs4 (A_api_Block w4) fun g7 w5 hs5 => ⟨hs5.tail, ?_⟩)
      refine efC_cut (cal_i (GetR_spec (hs5.both hB).rf hnM k) ?_)
      rintro _ w6 ⟨rfl, hf6⟩
      have hs6 := hs5.old hf6
      refine ⟨fun u => True, trivial, ?_⟩
      simp only [nilc_some, fad_mk, pik_true, pik_false, cnd_true, cnd_false, gif_same, gif_tf, gif_ft, gif_undef, bi_add, bi_sub, bi_mul, bi_eql, bi_neq, bi_lss, bi_leq, bi_gtr, bi_geq, notB_bool, cvi_int, lenS_mk, lenT_mk, ext0, ext1, ext2, nilP_mk, nilS_mk, fldv_agg, jn0_k, jn1_k, jn2_k, jn1_and, jn1_or, ex_some, Option.isNone_some, Option.isNone_none, Bool.false_bne, Bool.bne_true, Bool.bne_false, Bool.true_bne, Bool.not_true, Bool.not_false, Bool.and_true, Bool.true_and, Bool.and_false, Bool.false_and, Bool.or_true, Bool.true_or, Bool.or_false, Bool.false_or, cond_true, cond_false, List.getElem?_toArray, List.getElem?_cons_zero, List.getElem?_cons_succ, Nat.zero_add, Nat.add_zero, Nat.reduceAdd, forall_const]
      refine efC_stN (St_api_Block hs6 (one_api_Block ((hB.rf.nb k).one)) fun w7 hs7 => ?_)
      exact ⟨g7, rfl, trivial, hs7⟩
  rintro _ _ z2 ⟨g7, rfl, rfl, hs5⟩ _
  have hbl : blkOf k N = blkOf k M := kb_blk hkb k
  have hnb : (nb k N).1 = (nb k M).1 := kb_nb hkb k
  rw [hL] at hs5
  simp only [L_api_Block (Sep.blk hs5), L_api_Block__Parent (Sep.blk hs5), L_api_Block__Height (Sep.blk hs5), L_api_Block__Data (Sep.blk hs5), L_api_Block (Sep.blk hs5.p1), L_api_Block__Parent (Sep.blk hs5.p1), L_api_Block__Height (Sep.blk hs5.p1), L_api_Block__Data (Sep.blk hs5.p1)]
  refine cal_i (rSame_spec (a := (nb k N).1) (b := (nb k M).1) (u := v) (v := (nb k M).2) (Sep.rd hs5.p2) ((hB.rf.nb k).fr hs5.fr0 (off_nil _))) ?_
  rintro _ w6 ⟨rfl, hf6⟩
  have hs6 := hs5.old hf6
  rw [decide_eq_true hnb, hbl]
  simp only [nilc_some, fad_mk, pik_true, pik_false, cnd_true, cnd_false, gif_same, gif_tf, gif_ft, gif_undef, bi_add, bi_sub, bi_mul, bi_eql, bi_neq, bi_lss, bi_leq, bi_gtr, bi_geq, notB_bool, cvi_int, lenS_mk, lenT_mk, ext0, ext1, ext2, nilP_mk, nilS_mk, fldv_agg, jn0_k, jn1_k, jn2_k, jn1_and, jn1_or, ex_some, Option.isNone_some, Option.isNone_none, Bool.false_bne, Bool.bne_true, Bool.bne_false, Bool.true_bne, Bool.not_true, Bool.not_false, Bool.and_true, Bool.true_and, Bool.and_false, Bool.false_and, Bool.or_true, Bool.true_or, Bool.or_false, Bool.false_or, cond_true, cond_false, List.getElem?_toArray, List.getElem?_cons_zero, List.getElem?_cons_succ, Nat.zero_add, Nat.add_zero, Nat.reduceAdd, forall_const, bne_self_eq_false]
  refine (L_api_Block__Data (Sep.blk hs6.p1) _).mpr ?_
  have hl : (nb k N).1.d.length ≤ 200 := by
    rcases nb_blk (k := k) (N := N) with ⟨_, h2⟩ | h1
    · rw [h2]; decide
    · obtain ⟨y, hy, hyb⟩ : ∃ y ∈ N, y.2.1 = (nb k N).1 := by
        unfold blkOf at h1
        obtain ⟨y, hy, hyb⟩ := Option.map_eq_some_iff.1 h1
        exact ⟨y, List.mem_of_find?_eq_some hy, hyb⟩
      rw [← hyb]
      exact hi.w.small y hy
  change lenS v _
  rw [(Sep.rd hs6.p2).len]
  have L3 : ∀ {z : World}, Sep w z (ownB v (flip (nb k N).1.d 0) :: blk g5 (Rdr.cells Q_api_Block ((nb k N).1.p, (nb k N).1.h, v)).toArray T_api_Block :: [blk g3 (Rdr.cells (rVec 32) k).toArray T_api_ID]) → True := fun _ => trivial
  refine ⟨fun y z => ∃ i : Nat, y = .int .i64 i ∧ i ≤ (nb k N).1.d.length ∧ Sep w z [ownB v (flip (nb k N).1.d i), blk g5 (Rdr.cells Q_api_Block ((nb k N).1.p, (nb k N).1.h, v)).toArray T_api_Block, blk g3 (Rdr.cells (rVec 32) k).toArray T_api_ID], fun y _ => ((nb k N).1.d.length - RowKit.intOf y).toNat, ⟨0, rfl, by omega, by rw [flip_zero]; exact Sep.pick hs6.tail [1, 0, 2] 3⟩, ?_⟩
  rintro _ w7 ⟨i, rfl, hi7, hs7⟩ -
  simp only [nilc_some, fad_mk, pik_true, pik_false, cnd_true, cnd_false, gif_same, gif_tf, gif_ft, gif_undef, bi_add, bi_sub, bi_mul, bi_eql, bi_neq, bi_lss, bi_leq, bi_gtr, bi_geq, notB_bool, cvi_int, lenS_mk, lenT_mk, ext0, ext1, ext2, nilP_mk, nilS_mk, fldv_agg, jn0_k, jn1_k, jn2_k, jn1_and, jn1_or, ex_some, Option.isNone_some, Option.isNone_none, Bool.false_bne, Bool.bne_true, Bool.bne_false, Bool.true_bne, Bool.not_true, Bool.not_false, Bool.and_true, Bool.true_and, Bool.and_false, Bool.false_and, Bool.or_true, Bool.true_or, Bool.or_false, Bool.false_or, cond_true, cond_false, List.getElem?_toArray, List.getElem?_cons_zero, List.getElem?_cons_succ, Nat.zero_add, Nat.add_zero, Nat.reduceAdd, forall_const]
  rw [cnd_bool]
  refine ⟨fun hlt => ?_, fun hlt => ?_⟩
  · have hlt : i < (nb k N).1.d.length := by simp at hlt; omega
    refine (L_api_Block__Data (Sep.blk hs7.p1) _).mpr ?_
    refine ldxB_s hs7 (by rw [flip_len]; exact hlt) ?_
    rw [xor255, flip_get hlt]
    refine stxB_s hs7 (by rw [flip_len]; exact hlt) _ fun w8 hs8 => ?_
    rw [flip_set hlt] at hs8
    rw [wi64 (by omega) (by omega)]
    exact ⟨⟨i + 1, by simp, by omega, hs8⟩, by simp [RowKit.intOf]; omega⟩
  clear hlt L3
  obtain ⟨L2, hL2⟩ : ∃ L2, L2 = [ownB v (flip (nb k N).1.d i), blk g5 (Rdr.cells Q_api_Block ((nb k N).1.p, (nb k N).1.h, v)).toArray T_api_Block, blk g3 (Rdr.cells (rVec 32) k).toArray T_api_ID] := ⟨_, rfl⟩
  rw [← hL2] at hs7
  have f4 : ∀ {z : World}, Sep w z L2 → ∀ K, ldN 32 (.pointer (some ⟨g3, 0, none⟩)) z.heap K = K (kv k) := fun {z} hz K => by
    rw [hL2] at hz
    exact L_api_ID (Sep.blk hz.p2) K
  refine drH_S hs7 fun w8 hs8 _ => ?_
  refine rdS_ld (v := .pointer (some ⟨g, 0, none⟩)) (fun u hu K hk => (hu.both hB).ldt hk) ?_
  refine ⟨kv k, fun u hu => (f4 hu _).mpr rfl, ?_⟩
  refine rdS_ld (v := .pointer (some ⟨gr, 0, none⟩)) (fun u hu K hk => (hu.both hB).ldr hk) ?_
  refine ⟨kv k, fun u hu => (f4 hu _).mpr rfl, ?_⟩
  refine efS_i (cal_i (Has_spec (hs8.both hB).tr k) ?_)
  rintro _ w9 ⟨rfl, hf9⟩
  have hs9 := hs8.old hf9
  refine ⟨hs9, ?_⟩
  refine efC_cut (cal_i (HasR_spec (hs9.both hB).rf hnM k) ?_)
  rintro _ w10 ⟨rfl, hf10⟩
  have hs10 := hs9.old hf10
  refine ⟨fun u => Sep w u L2, hs10, ?_⟩
  rw [← kb_has hkb]
  refine ⟨.bool true, fun u hu => by rw [eqS_bool _ _ UT_bool, beq_self_eq_true], ?_⟩
  refine jn1_dup ?_
  simp only [nilc_some, fad_mk, pik_true, pik_false, cnd_true, cnd_false, gif_same, gif_tf, gif_ft, gif_undef, bi_add, bi_sub, bi_mul, bi_eql, bi_neq, bi_lss, bi_leq, bi_gtr, bi_geq, notB_bool, cvi_int, lenS_mk, lenT_mk, ext0, ext1, ext2, nilP_mk, nilS_mk, fldv_agg, jn0_k, jn1_k, jn2_k, jn1_and, jn1_or, ex_some, Option.isNone_some, Option.isNone_none, Bool.false_bne, Bool.bne_true, Bool.bne_false, Bool.true_bne, Bool.not_true, Bool.not_false, Bool.and_true, Bool.true_and, Bool.and_false, Bool.false_and, Bool.or_true, Bool.true_or, Bool.or_false, Bool.false_or, cond_true, cond_false, List.getElem?_toArray, List.getElem?_cons_zero, List.getElem?_cons_succ, Nat.zero_add, Nat.add_zero, Nat.reduceAdd, forall_const]
  refine rdS_ld (v := .pointer (some ⟨g, 0, none⟩)) (fun u hu K hk => (hu.both hB).ldt hk) ?_
  refine ⟨kv k, fun u hu => (f4 hu _).mpr rfl, ?_⟩
  refine rdS_ld (v := .pointer (some ⟨gr, 0, none⟩)) (fun u hu K hk => (hu.both hB).ldr hk) ?_
  refine ⟨kv k, fun u hu => (f4 hu _).mpr rfl, ?_⟩
  obtain ⟨xs, hxs⟩ : ∃ xs, xs = (if has t N k = true then nms (N.filter fun x => decide (x.2.1.p = k)) else []) := ⟨_, rfl⟩
  have hxl : xs.length ≤ 1000000 := by
    rw [hxs]
    split
    · rw [List.length_map]; exact Nat.le_trans (List.length_filter_le _ _) hn
    · simp
  have hxM : (if has t M k = true then nms (M.filter fun x => decide (x.2.1.p = k)) else []) = xs := by rw [hxs, kb_has hkb, kb_kids hkb]
  refine efS_i (cal_i (Kids_spec (hs10.both hB).tr hn hi.nd k) ?_)
  rintro r1 w11 hg
  rw [← hxs] at hg
  have hs11 := hs10.old hg.fr0
  refine ⟨hs11, ?_⟩
  refine efS_i (cal_i (hg.told (most := 1048576) hxl (by decide)) ?_)
  rintro r2 w12 hs12
  have hs12' := hs11.old hs12.fr0
  refine ⟨hs12', ?_⟩
  refine efS_i (cal_i (KidsR_spec (hs12'.both hB).rf hnM k) ?_)
  rintro r3 w13 hs13
  rw [hxM] at hs13
  have hs13' := hs12'.old hs13.fr0
  refine ⟨hs13', ?_⟩
  rw [List.take_of_length_le (by omega)] at hs12
  refine efS_i (cal_i (idsEqual_spec ((Sep.rows hs12).fr hs13.fr0) (Sep.rows hs13) hxl) ?_)
  rintro _ w14 ⟨rfl, hf14⟩
  have hs14 := hs13'.old hf14
  refine ⟨hs14, ?_⟩
  simp only [nilc_some, fad_mk, pik_true, pik_false, cnd_true, cnd_false, gif_same, gif_tf, gif_ft, gif_undef, bi_add, bi_sub, bi_mul, bi_eql, bi_neq, bi_lss, bi_leq, bi_gtr, bi_geq, notB_bool, cvi_int, lenS_mk, lenT_mk, ext0, ext1, ext2, nilP_mk, nilS_mk, fldv_agg, jn0_k, jn1_k, jn2_k, jn1_and, jn1_or, ex_some, Option.isNone_some, Option.isNone_none, Bool.false_bne, Bool.bne_true, Bool.bne_false, Bool.true_bne, Bool.not_true, Bool.not_false, Bool.and_true, Bool.true_and, Bool.and_false, Bool.false_and, Bool.or_true, Bool.true_or, Bool.or_false, Bool.false_or, cond_true, cond_false, List.getElem?_toArray, List.getElem?_cons_zero, List.getElem?_cons_succ, Nat.zero_add, Nat.add_zero, Nat.reduceAdd, forall_const, decide_true]
  refine jn1_dup ?_
  simp only [nilc_some, fad_mk, pik_true, pik_false, cnd_true, cnd_false, gif_same, gif_tf, gif_ft, gif_undef, bi_add, bi_sub, bi_mul, bi_eql, bi_neq, bi_lss, bi_leq, bi_gtr, bi_geq, notB_bool, cvi_int, lenS_mk, lenT_mk, ext0, ext1, ext2, nilP_mk, nilS_mk, fldv_agg, jn0_k, jn1_k, jn2_k, jn1_and, jn1_or, ex_some, Option.isNone_some, Option.isNone_none, Bool.false_bne, Bool.bne_true, Bool.bne_false, Bool.true_bne, Bool.not_true, Bool.not_false, Bool.and_true, Bool.true_and, Bool.and_false, Bool.false_and, Bool.or_true, Bool.true_or, Bool.or_false, Bool.false_or, cond_true, cond_false, List.getElem?_toArray, List.getElem?_cons_zero, List.getElem?_cons_succ, Nat.zero_add, Nat.add_zero, Nat.reduceAdd, forall_const]
  refine rdS_ld (v := .pointer (some ⟨g, 0, none⟩)) (fun u hu K hk => (hu.both hB).ldt hk) ?_
  refine ⟨kv k, fun u hu => (f4 hu _).mpr rfl, ?_⟩
  refine rdS_ld (v := .pointer (some ⟨gr, 0, none⟩)) (fun u hu K hk => (hu.both hB).ldr hk) ?_
  refine ⟨kv k, fun u hu => (f4 hu _).mpr rfl, ?_⟩
  refine efS_i (cal_i (Path_spec (hs14.both hB).tr hi.w k (hh k)) ?_)
  rintro r4 w15 hs15
  have hs15' := hs14.old hs15.fr0
  refine ⟨hs15', ?_⟩
  refine efS_i (cal_i (PathR_spec (hs15'.both hB).rf hiM.w hnM k (hhM k)) ?_)
  rintro r5 w16 hs16
  have hs16' := hs15'.old hs16.fr0
  refine ⟨hs16', ?_⟩
  have hpl : (pathOf t N k).length ≤ 1000000 := by
    cases hha : has t N k with
    | true => rw [path_len hi.w k hha]; exact hh k
    | false => rw [path_none hha]; simp
  rw [← kb_path hkb] at hs16
  refine efS_i (cal_i (idsEqual_spec ((Sep.rows hs15).fr hs16.fr0) (Sep.rows hs16) hpl) ?_)
  rintro _ w17 ⟨rfl, hf17⟩
  have hs17 := hs16'.old hf17
  refine ⟨hs17, ?_⟩
  simp only [nilc_some, fad_mk, pik_true, pik_false, cnd_true, cnd_false, gif_same, gif_tf, gif_ft, gif_undef, bi_add, bi_sub, bi_mul, bi_eql, bi_neq, bi_lss, bi_leq, bi_gtr, bi_geq, notB_bool, cvi_int, lenS_mk, lenT_mk, ext0, ext1, ext2, nilP_mk, nilS_mk, fldv_agg, jn0_k, jn1_k, jn2_k, jn1_and, jn1_or, ex_some, Option.isNone_some, Option.isNone_none, Bool.false_bne, Bool.bne_true, Bool.bne_false, Bool.true_bne, Bool.not_true, Bool.not_false, Bool.and_true, Bool.true_and, Bool.and_false, Bool.false_and, Bool.or_true, Bool.true_or, Bool.or_false, Bool.false_or, cond_true, cond_false, List.getElem?_toArray, List.getElem?_cons_zero, List.getElem?_cons_succ, Nat.zero_add, Nat.add_zero, Nat.reduceAdd, forall_const, decide_true]
  refine jn1_dup ?_
  simp only [nilc_some, fad_mk, pik_true, pik_false, cnd_true, cnd_false, gif_same, gif_tf, gif_ft, gif_undef, bi_add, bi_sub, bi_mul, bi_eql, bi_neq, bi_lss, bi_leq, bi_gtr, bi_geq, notB_bool, cvi_int, lenS_mk, lenT_mk, ext0, ext1, ext2, nilP_mk, nilS_mk, fldv_agg, jn0_k, jn1_k, jn2_k, jn1_and, jn1_or, ex_some, Option.isNone_some, Option.isNone_none, Bool.false_bne, Bool.bne_true, Bool.bne_false, Bool.true_bne, Bool.not_true, Bool.not_false, Bool.and_true, Bool.true_and, Bool.and_false, Bool.false_and, Bool.or_true, Bool.true_or, Bool.or_false, Bool.false_or, cond_true, cond_false, List.getElem?_toArray, List.getElem?_cons_zero, List.getElem?_cons_succ, Nat.zero_add, Nat.add_zero, Nat.reduceAdd, forall_const]
  refine rdS_ld (v := .pointer (some ⟨g, 0, none⟩)) (fun u hu K hk => (hu.both hB).ldt hk) ?_
  refine ⟨kv k, fun u hu => (f4 hu _).mpr rfl, ?_⟩
  refine rdS_ld (v := .pointer (some ⟨gr, 0, none⟩)) (fun u hu K hk => (hu.both hB).ldr hk) ?_
  refine ⟨kv k, fun u hu => (f4 hu _).mpr rfl, ?_⟩
  refine efS_i (cal_i (Under_spec (hs17.both hB).tr hi.w hn k) ?_)
  rintro r6 w18 hs18
  have hs18' := hs17.old hs18.fr0
  refine ⟨hs18', ?_⟩
  refine efS_i (cal_i (UnderR_spec (hs18'.both hB).rf hiM.w hnM k (fun a _ => hhM a)) ?_)
  rintro r7 w19 hs19
  have hs19' := hs18'.old hs19.fr0
  refine ⟨hs19', ?_⟩
  have eU : (nms M).filter (fun x => under t M x k) = (N.map (·.1)).filter (fun x => under t N x k) := by
    rw [← kb_nms hkb]
    refine List.filter_congr fun y _ => (kb_under hkb y k).symm
  rw [eU] at hs19
  refine efS_i (cal_i (idsEqual_spec ((Sep.rows hs18).fr hs19.fr0) (Sep.rows hs19) (Nat.le_trans (List.length_filter_le _ _) (by rw [List.length_map]; exact hn))) ?_)
  rintro _ w20 ⟨rfl, hf20⟩
  have hs20 := hs19'.old hf20
  refine ⟨hs20, ?_⟩
  simp only [nilc_some, fad_mk, pik_true, pik_false, cnd_true, cnd_false, gif_same, gif_tf, gif_ft, gif_undef, bi_add, bi_sub, bi_mul, bi_eql, bi_neq, bi_lss, bi_leq, bi_gtr, bi_geq, notB_bool, cvi_int, lenS_mk, lenT_mk, ext0, ext1, ext2, nilP_mk, nilS_mk, fldv_agg, jn0_k, jn1_k, jn2_k, jn1_and, jn1_or, ex_some, Option.isNone_some, Option.isNone_none, Bool.false_bne, Bool.bne_true, Bool.bne_false, Bool.true_bne, Bool.not_true, Bool.not_false, Bool.and_true, Bool.true_and, Bool.and_false, Bool.false_and, Bool.or_true, Bool.true_or, Bool.or_false, Bool.false_or, cond_true, cond_false, List.getElem?_toArray, List.getElem?_cons_zero, List.getElem?_cons_succ, Nat.zero_add, Nat.add_zero, Nat.reduceAdd, forall_const, decide_true]
  exact hR _ _ ⟨rfl, hs20.fr0⟩
end
end Go.Fx
set_option linter.unusedVariables false
set_option linter.unusedSimpArgs false
namespace Go.Fx
/-- A tree that no call made. -/
def NT (p : Value) (w : World) : Prop := p.oneCell' = true ∧ ∀ z, Fr [] w z → cal P f_tree_Tree_none [p] z fun r w' => r = .bool true ∧ z = w'
section
variable {w0 w w' : World} {As : List Asn} {p : Value}
theorem NT.fr (h : NT p w) (hf : Fr [] w w') : NT p w' := ⟨h.1, fun z hz => h.2 z (hf.trans hz (by simp) (by simp))⟩
theorem NT.nil (w : World) : NT (.pointer none) w := ⟨rfl, fun z _ => by
  refine s_tree_Tree_none fun R hR => ?_
  unfold c_tree_Tree_none
  simp only [nilc_some, fad_mk, pik_true, pik_false, cnd_true, cnd_false, gif_same, gif_tf, gif_ft, gif_undef, bi_add, bi_sub, bi_mul, bi_eql, bi_neq, bi_lss, bi_leq, bi_gtr, bi_geq, notB_bool, cvi_int, lenS_mk, lenT_mk, ext0, ext1, ext2, nilP_mk, nilS_mk, fldv_agg, jn0_k, jn1_k, jn2_k, jn1_and, jn1_or, ex_some, Option.isNone_some, Option.isNone_none, Bool.false_bne, Bool.bne_true, Bool.bne_false, Bool.true_bne, Bool.not_true, Bool.not_false, Bool.and_true, Bool.true_and, Bool.and_false, Bool.false_and, Bool.or_true, Bool.true_or, Bool.or_false, Bool.false_or, cond_true, cond_false, List.getElem?_toArray, List.getElem?_cons_zero, List.getElem?_cons_succ, Nat.zero_add, Nat.add_zero, Nat.reduceAdd, forall_const, Option.isNone_none]
  exact hR _ _ ⟨rfl, rfl⟩⟩
theorem NT.zero {g : Nat} {b1 : Vec 32} {b2 b3 : Int} {b4 b5 : Value} (hs : Sep w0 w (blk g (Rdr.cells Q_tree_Tree (false, b1, b2, b3, b4, b5)).toArray T_tree_Tree :: As)) : NT (.pointer (some ⟨g, 0, none⟩)) w := ⟨rfl, fun z hz => by
  refine s_tree_Tree_none fun R hR => ?_
  unfold c_tree_Tree_none
  simp only [nilc_some, fad_mk, pik_true, pik_false, cnd_true, cnd_false, gif_same, gif_tf, gif_ft, gif_undef, bi_add, bi_sub, bi_mul, bi_eql, bi_neq, bi_lss, bi_leq, bi_gtr, bi_geq, notB_bool, cvi_int, lenS_mk, lenT_mk, ext0, ext1, ext2, nilP_mk, nilS_mk, fldv_agg, jn0_k, jn1_k, jn2_k, jn1_and, jn1_or, ex_some, Option.isNone_some, Option.isNone_none, Bool.false_bne, Bool.bne_true, Bool.bne_false, Bool.true_bne, Bool.not_true, Bool.not_false, Bool.and_true, Bool.true_and, Bool.and_false, Bool.false_and, Bool.or_true, Bool.true_or, Bool.or_false, Bool.false_or, cond_true, cond_false, List.getElem?_toArray, List.getElem?_cons_zero, List.getElem?_cons_succ, Nat.zero_add, Nat.add_zero, Nat.reduceAdd, forall_const, Option.isNone_some, L_tree_Tree (Sep.blk (hs.old hz)), L_tree_Tree__made (Sep.blk (hs.old hz)), L_tree_Tree__root (Sep.blk (hs.old hz)), L_tree_Tree__height (Sep.blk (hs.old hz)), L_tree_Tree__most (Sep.blk (hs.old hz)), L_tree_Tree__blocks (Sep.blk (hs.old hz)), L_tree_Tree__order (Sep.blk (hs.old hz))]
  exact hR _ _ ⟨rfl, rfl⟩⟩
variable (hp : NT p w)
include hp
theorem nAdd (b : Blk) (v : Value) : cal P f_tree_Tree_Add [p, bq b v] w fun r w' => r = .tuple #[kv (vz 32), .int .i64 2] ∧ Fr [] w w' := by
  refine s_tree_Tree_Add fun R hR => ?_
  unfold c_tree_Tree_Add
  refine bxQ (Sep.start w) fun g3 w1 hs1 => ?_
  refine alloc_s hs1 (A_api_ID w1) fun g4 w2 hs2 => ?_
  refine cal_i (hp.2 _ hs2.fr0) ?_
  rintro _ _ ⟨rfl, rfl⟩
  simp only [nilc_some, fad_mk, pik_true, pik_false, cnd_true, cnd_false, gif_same, gif_tf, gif_ft, gif_undef, bi_add, bi_sub, bi_mul, bi_eql, bi_neq, bi_lss, bi_leq, bi_gtr, bi_geq, notB_bool, cvi_int, lenS_mk, lenT_mk, ext0, ext1, ext2, nilP_mk, nilS_mk, fldv_agg, jn0_k, jn1_k, jn2_k, jn1_and, jn1_or, ex_some, Option.isNone_some, Option.isNone_none, Bool.false_bne, Bool.bne_true, Bool.bne_false, Bool.true_bne, Bool.not_true, Bool.not_false, Bool.and_true, Bool.true_and, Bool.and_false, Bool.false_and, Bool.or_true, Bool.true_or, Bool.or_false, Bool.false_or, cond_true, cond_false, List.getElem?_toArray, List.getElem?_cons_zero, List.getElem?_cons_succ, Nat.zero_add, Nat.add_zero, Nat.reduceAdd, forall_const]
  rw [B_ID0]
  refine St_api_ID hs2 fun w3 hs3 => ?_
  simp only [L_api_ID hs3.blk]
  exact hR _ _ ⟨rfl, hs3.fr0⟩
theorem nGet (k : Vec 32) : cal P f_tree_Tree_Get [p, kv k] w fun r w' => r = .tuple #[bq Blk.none (.slice none 0 0), .int .i64 2] ∧ Fr [] w w' := by
  refine s_tree_Tree_Get fun R hR => ?_
  unfold c_tree_Tree_Get
  refine bxQ (Sep.start w) fun g3 w1 hs1 => ?_
  refine alloc_s hs1 (A_api_Block w1) fun g4 w2 hs2 => ?_
  refine cal_i (hp.2 _ hs2.fr0) ?_
  rintro _ _ ⟨rfl, rfl⟩
  simp only [nilc_some, fad_mk, pik_true, pik_false, cnd_true, cnd_false, gif_same, gif_tf, gif_ft, gif_undef, bi_add, bi_sub, bi_mul, bi_eql, bi_neq, bi_lss, bi_leq, bi_gtr, bi_geq, notB_bool, cvi_int, lenS_mk, lenT_mk, ext0, ext1, ext2, nilP_mk, nilS_mk, fldv_agg, jn0_k, jn1_k, jn2_k, jn1_and, jn1_or, ex_some, Option.isNone_some, Option.isNone_none, Bool.false_bne, Bool.bne_true, Bool.bne_false, Bool.true_bne, Bool.not_true, Bool.not_false, Bool.and_true, Bool.true_and, Bool.and_false, Bool.false_and, Bool.or_true, Bool.true_or, Bool.or_false, Bool.false_or, cond_true, cond_false, List.getElem?_toArray, List.getElem?_cons_zero, List.getElem?_cons_succ, Nat.zero_add, Nat.add_zero, Nat.reduceAdd, forall_const]
  rw [B_api_Block]
  refine St_api_Block hs2 (one_api_Block rfl) fun w3 hs3 => ?_
  simp only [L_api_Block hs3.blk, L_api_Block__Parent hs3.blk, L_api_Block__Height hs3.blk, L_api_Block__Data hs3.blk]
  exact hR _ _ ⟨rfl, hs3.fr0⟩
theorem nMove (k : Vec 32) : cal P f_tree_Tree_Move [p, kv k] w fun r w' => r = .tuple #[.slice none 0 0, .int .i64 2] ∧ Fr [] w w' := by
  refine s_tree_Tree_Move fun R hR => ?_
  unfold c_tree_Tree_Move
  have ep : p.cells = #[p] := by have := hp.1; cases p <;> simp_all [Value.cells, Value.oneCell']
  refine bx_s (Sep.start w) fun g2 w1 hs1 => ?_
  rw [ep] at hs1
  refine bxQ hs1 fun g3 w2 hs2 => ?_
  refine ld1_i (v := p) (Sep.p1 hs2).blk rfl ?_
  refine cal_i (hp.2 _ hs2.fr0) ?_
  rintro _ _ ⟨rfl, rfl⟩
  simp only [nilc_some, fad_mk, pik_true, pik_false, cnd_true, cnd_false, gif_same, gif_tf, gif_ft, gif_undef, bi_add, bi_sub, bi_mul, bi_eql, bi_neq, bi_lss, bi_leq, bi_gtr, bi_geq, notB_bool, cvi_int, lenS_mk, lenT_mk, ext0, ext1, ext2, nilP_mk, nilS_mk, fldv_agg, jn0_k, jn1_k, jn2_k, jn1_and, jn1_or, ex_some, Option.isNone_some, Option.isNone_none, Bool.false_bne, Bool.bne_true, Bool.bne_false, Bool.true_bne, Bool.not_true, Bool.not_false, Bool.and_true, Bool.true_and, Bool.and_false, Bool.false_and, Bool.or_true, Bool.true_or, Bool.or_false, Bool.false_or, cond_true, cond_false, List.getElem?_toArray, List.getElem?_cons_zero, List.getElem?_cons_succ, Nat.zero_add, Nat.add_zero, Nat.reduceAdd, forall_const]
  exact hR _ _ ⟨rfl, hs2.fr0⟩
theorem nRoot : cal P f_tree_Tree_Root [p] w fun r w' => r = .tuple #[kv (vz 32), .int .i64 0] ∧ Fr [] w w' := by
  refine s_tree_Tree_Root fun R hR => ?_
  unfold c_tree_Tree_Root
  refine alloc_s (Sep.start w) (A_api_ID w) fun g4 w2 hs2 => ?_
  refine cal_i (hp.2 _ hs2.fr0) ?_
  rintro _ _ ⟨rfl, rfl⟩
  simp only [nilc_some, fad_mk, pik_true, pik_false, cnd_true, cnd_false, gif_same, gif_tf, gif_ft, gif_undef, bi_add, bi_sub, bi_mul, bi_eql, bi_neq, bi_lss, bi_leq, bi_gtr, bi_geq, notB_bool, cvi_int, lenS_mk, lenT_mk, ext0, ext1, ext2, nilP_mk, nilS_mk, fldv_agg, jn0_k, jn1_k, jn2_k, jn1_and, jn1_or, ex_some, Option.isNone_some, Option.isNone_none, Bool.false_bne, Bool.bne_true, Bool.bne_false, Bool.true_bne, Bool.not_true, Bool.not_false, Bool.and_true, Bool.true_and, Bool.and_false, Bool.false_and, Bool.or_true, Bool.true_or, Bool.or_false, Bool.false_or, cond_true, cond_false, List.getElem?_toArray, List.getElem?_cons_zero, List.getElem?_cons_succ, Nat.zero_add, Nat.add_zero, Nat.reduceAdd, forall_const]
  rw [B_ID0]
  refine St_api_ID hs2 fun w3 hs3 => ?_
  simp only [L_api_ID hs3.blk]
  exact hR _ _ ⟨rfl, hs3.fr0⟩
theorem nHas (k : Vec 32) : cal P f_tree_Tree_Has [p, kv k] w fun r w' => r = .bool false ∧ Fr [] w w' := by
  refine s_tree_Tree_Has fun R hR => ?_
  unfold c_tree_Tree_Has
  refine bxQ (Sep.start w) fun g3 w1 hs1 => ?_
  simp only [L_api_ID hs1.blk]
  have hl : cal P f_tree_Tree_level [p, kv k] w1 fun r w' => r = .tuple #[.int .i64 0, .bool false] ∧ Fr [] w w' := by
    refine s_tree_Tree_level fun R hR => ?_
    unfold c_tree_Tree_level
    refine bxQ hs1 fun g3 w2 hs2 => ?_
    refine cal_i (hp.2 _ hs2.fr0) ?_
    rintro _ _ ⟨rfl, rfl⟩
    simp only [nilc_some, fad_mk, pik_true, pik_false, cnd_true, cnd_false, gif_same, gif_tf, gif_ft, gif_undef, bi_add, bi_sub, bi_mul, bi_eql, bi_neq, bi_lss, bi_leq, bi_gtr, bi_geq, notB_bool, cvi_int, lenS_mk, lenT_mk, ext0, ext1, ext2, nilP_mk, nilS_mk, fldv_agg, jn0_k, jn1_k, jn2_k, jn1_and, jn1_or, ex_some, Option.isNone_some, Option.isNone_none, Bool.false_bne, Bool.bne_true, Bool.bne_false, Bool.true_bne, Bool.not_true, Bool.not_false, Bool.and_true, Bool.true_and, Bool.and_false, Bool.false_and, Bool.or_true, Bool.true_or, Bool.or_false, Bool.false_or, cond_true, cond_false, List.getElem?_toArray, List.getElem?_cons_zero, List.getElem?_cons_succ, Nat.zero_add, Nat.add_zero, Nat.reduceAdd, forall_const]
    exact hR _ _ ⟨rfl, hs2.fr0⟩
  refine cal_i hl ?_
  rintro _ w2 ⟨rfl, hf⟩
  simp only [nilc_some, fad_mk, pik_true, pik_false, cnd_true, cnd_false, gif_same, gif_tf, gif_ft, gif_undef, bi_add, bi_sub, bi_mul, bi_eql, bi_neq, bi_lss, bi_leq, bi_gtr, bi_geq, notB_bool, cvi_int, lenS_mk, lenT_mk, ext0, ext1, ext2, nilP_mk, nilS_mk, fldv_agg, jn0_k, jn1_k, jn2_k, jn1_and, jn1_or, ex_some, Option.isNone_some, Option.isNone_none, Bool.false_bne, Bool.bne_true, Bool.bne_false, Bool.true_bne, Bool.not_true, Bool.not_false, Bool.and_true, Bool.true_and, Bool.and_false, Bool.false_and, Bool.or_true, Bool.true_or, Bool.or_false, Bool.false_or, cond_true, cond_false, List.getElem?_toArray, List.getElem?_cons_zero, List.getElem?_cons_succ, Nat.zero_add, Nat.add_zero, Nat.reduceAdd, forall_const]
  exact hR _ _ ⟨rfl, hf⟩
theorem nLen : cal P f_tree_Tree_Len [p] w fun r w' => r = .int .i64 0 ∧ Fr [] w w' := by
  refine s_tree_Tree_Len fun R hR => ?_
  unfold c_tree_Tree_Len
  refine cal_i (hp.2 _ (Fr.refl _ _)) ?_
  rintro _ _ ⟨rfl, rfl⟩
  simp only [nilc_some, fad_mk, pik_true, pik_false, cnd_true, cnd_false, gif_same, gif_tf, gif_ft, gif_undef, bi_add, bi_sub, bi_mul, bi_eql, bi_neq, bi_lss, bi_leq, bi_gtr, bi_geq, notB_bool, cvi_int, lenS_mk, lenT_mk, ext0, ext1, ext2, nilP_mk, nilS_mk, fldv_agg, jn0_k, jn1_k, jn2_k, jn1_and, jn1_or, ex_some, Option.isNone_some, Option.isNone_none, Bool.false_bne, Bool.bne_true, Bool.bne_false, Bool.true_bne, Bool.not_true, Bool.not_false, Bool.and_true, Bool.true_and, Bool.and_false, Bool.false_and, Bool.or_true, Bool.true_or, Bool.or_false, Bool.false_or, cond_true, cond_false, List.getElem?_toArray, List.getElem?_cons_zero, List.getElem?_cons_succ, Nat.zero_add, Nat.add_zero, Nat.reduceAdd, forall_const]
  exact hR _ _ ⟨rfl, Fr.refl _ _⟩
theorem nWithin (a b : Vec 32) : cal P f_tree_Tree_Within [p, kv a, kv b] w fun r w' => r = .bool false ∧ Fr [] w w' := by
  refine s_tree_Tree_Within fun R hR => ?_
  unfold c_tree_Tree_Within
  refine bxQ (Sep.start w) fun g3 w1 hs1 => ?_
  refine bxQ hs1 fun g4 w2 hs2 => ?_
  simp only [L_api_ID (Sep.p1 hs2).blk]
  refine cal_i (nHas (hp.fr hs2.fr0) a) ?_
  rintro _ w3 ⟨rfl, hf⟩
  simp only [nilc_some, fad_mk, pik_true, pik_false, cnd_true, cnd_false, gif_same, gif_tf, gif_ft, gif_undef, bi_add, bi_sub, bi_mul, bi_eql, bi_neq, bi_lss, bi_leq, bi_gtr, bi_geq, notB_bool, cvi_int, lenS_mk, lenT_mk, ext0, ext1, ext2, nilP_mk, nilS_mk, fldv_agg, jn0_k, jn1_k, jn2_k, jn1_and, jn1_or, ex_some, Option.isNone_some, Option.isNone_none, Bool.false_bne, Bool.bne_true, Bool.bne_false, Bool.true_bne, Bool.not_true, Bool.not_false, Bool.and_true, Bool.true_and, Bool.and_false, Bool.false_and, Bool.or_true, Bool.true_or, Bool.or_false, Bool.false_or, cond_true, cond_false, List.getElem?_toArray, List.getElem?_cons_zero, List.getElem?_cons_succ, Nat.zero_add, Nat.add_zero, Nat.reduceAdd, forall_const]
  exact hR _ _ ⟨rfl, (hs2.old hf).fr0⟩
theorem nPath (a : Vec 32) : cal P f_tree_Tree_Path [p, kv a] w fun r w' => r = .slice none 0 0 ∧ Fr [] w w' := by
  refine s_tree_Tree_Path fun R hR => ?_
  unfold c_tree_Tree_Path
  refine bxQ (Sep.start w) fun g3 w1 hs1 => ?_
  simp only [L_api_ID hs1.blk]
  refine cal_i (nHas (hp.fr hs1.fr0) a) ?_
  rintro _ w3 ⟨rfl, hf⟩
  simp only [nilc_some, fad_mk, pik_true, pik_false, cnd_true, cnd_false, gif_same, gif_tf, gif_ft, gif_undef, bi_add, bi_sub, bi_mul, bi_eql, bi_neq, bi_lss, bi_leq, bi_gtr, bi_geq, notB_bool, cvi_int, lenS_mk, lenT_mk, ext0, ext1, ext2, nilP_mk, nilS_mk, fldv_agg, jn0_k, jn1_k, jn2_k, jn1_and, jn1_or, ex_some, Option.isNone_some, Option.isNone_none, Bool.false_bne, Bool.bne_true, Bool.bne_false, Bool.true_bne, Bool.not_true, Bool.not_false, Bool.and_true, Bool.true_and, Bool.and_false, Bool.false_and, Bool.or_true, Bool.true_or, Bool.or_false, Bool.false_or, cond_true, cond_false, List.getElem?_toArray, List.getElem?_cons_zero, List.getElem?_cons_succ, Nat.zero_add, Nat.add_zero, Nat.reduceAdd, forall_const]
  exact hR _ _ ⟨rfl, (hs1.old hf).fr0⟩
theorem nThose (f : Value) : cal P f_tree_Tree_those [p, f] w fun r w' => r = .slice none 0 0 ∧ Fr [] w w' := by
  refine s_tree_Tree_those fun R hR => ?_
  unfold c_tree_Tree_those
  refine cal_i (hp.2 _ (Fr.refl _ _)) ?_
  rintro _ _ ⟨rfl, rfl⟩
  simp only [nilc_some, fad_mk, pik_true, pik_false, cnd_true, cnd_false, gif_same, gif_tf, gif_ft, gif_undef, bi_add, bi_sub, bi_mul, bi_eql, bi_neq, bi_lss, bi_leq, bi_gtr, bi_geq, notB_bool, cvi_int, lenS_mk, lenT_mk, ext0, ext1, ext2, nilP_mk, nilS_mk, fldv_agg, jn0_k, jn1_k, jn2_k, jn1_and, jn1_or, ex_some, Option.isNone_some, Option.isNone_none, Bool.false_bne, Bool.bne_true, Bool.bne_false, Bool.true_bne, Bool.not_true, Bool.not_false, Bool.and_true, Bool.true_and, Bool.and_false, Bool.false_and, Bool.or_true, Bool.true_or, Bool.or_false, Bool.false_or, cond_true, cond_false, List.getElem?_toArray, List.getElem?_cons_zero, List.getElem?_cons_succ, Nat.zero_add, Nat.add_zero, Nat.reduceAdd, forall_const]
  exact hR _ _ ⟨rfl, Fr.refl _ _⟩
theorem nUnder (k : Vec 32) : cal P f_tree_Tree_Under [p, kv k] w fun r w' => r = .slice none 0 0 ∧ Fr [] w w' := by
  refine s_tree_Tree_Under fun R hR => ?_
  unfold c_tree_Tree_Under
  have ep : p.cells = #[p] := by have := hp.1; cases p <;> simp_all [Value.cells, Value.oneCell']
  refine bx_s (Sep.start w) fun g2 w1 hs1 => ?_
  rw [ep] at hs1
  refine bxQ hs1 fun g3 w2 hs2 => ?_
  refine ld1_i (v := p) (Sep.p1 hs2).blk rfl ?_
  refine cal_i (nThose (hp.fr hs2.fr0) _) ?_
  rintro _ w3 ⟨rfl, hf⟩
  exact hR _ _ ⟨rfl, (hs2.old hf).fr0⟩
theorem nAll : cal P f_tree_Tree_All [p] w fun r w' => Goes w w' r [] := by
  refine s_tree_Tree_All fun R hR => ?_
  unfold c_tree_Tree_All
  refine cal_i (nThose hp _) ?_
  rintro _ w3 ⟨rfl, hf⟩
  refine cal_i (ttold_spec (w0 := w) ((Sep.start w).old hf).nilR) ?_
  rintro r w4 hg
  exact hR _ _ hg
theorem nKids (k : Vec 32) : cal P f_tree_Tree_Kids [p, kv k] w fun r w' => Goes w w' r [] := by
  refine s_tree_Tree_Kids fun R hR => ?_
  unfold c_tree_Tree_Kids
  have ep : p.cells = #[p] := by have := hp.1; cases p <;> simp_all [Value.cells, Value.oneCell']
  refine bx_s (Sep.start w) fun g2 w1 hs1 => ?_
  rw [ep] at hs1
  refine bxQ hs1 fun g3 w2 hs2 => ?_
  refine ld1_i (v := p) (Sep.p1 hs2).blk rfl ?_
  simp only [L_api_ID hs2.blk]
  refine cal_i (nHas (hp.fr hs2.fr0) k) ?_
  rintro _ w3 ⟨rfl, hf3⟩
  have hs3 := hs2.old hf3
  simp only [nilc_some, fad_mk, pik_true, pik_false, cnd_true, cnd_false, gif_same, gif_tf, gif_ft, gif_undef, bi_add, bi_sub, bi_mul, bi_eql, bi_neq, bi_lss, bi_leq, bi_gtr, bi_geq, notB_bool, cvi_int, lenS_mk, lenT_mk, ext0, ext1, ext2, nilP_mk, nilS_mk, fldv_agg, jn0_k, jn1_k, jn2_k, jn1_and, jn1_or, ex_some, Option.isNone_some, Option.isNone_none, Bool.false_bne, Bool.bne_true, Bool.bne_false, Bool.true_bne, Bool.not_true, Bool.not_false, Bool.and_true, Bool.true_and, Bool.and_false, Bool.false_and, Bool.or_true, Bool.true_or, Bool.or_false, Bool.false_or, cond_true, cond_false, List.getElem?_toArray, List.getElem?_cons_zero, List.getElem?_cons_succ, Nat.zero_add, Nat.add_zero, Nat.reduceAdd, forall_const]
  refine cal_i (ttold_spec (w0 := w) (Sep.dropR (As := [_]) hs3.nilR)) ?_
  rintro r w4 hg
  exact hR _ _ hg
theorem nClone : cal P f_tree_Tree_Clone [p] w fun r w' => r = .pointer none ∧ Fr [] w w' := by
  refine s_tree_Tree_Clone fun R hR => ?_
  unfold c_tree_Tree_Clone
  refine cal_i (hp.2 _ (Fr.refl _ _)) ?_
  rintro _ _ ⟨rfl, rfl⟩
  simp only [nilc_some, fad_mk, pik_true, pik_false, cnd_true, cnd_false, gif_same, gif_tf, gif_ft, gif_undef, bi_add, bi_sub, bi_mul, bi_eql, bi_neq, bi_lss, bi_leq, bi_gtr, bi_geq, notB_bool, cvi_int, lenS_mk, lenT_mk, ext0, ext1, ext2, nilP_mk, nilS_mk, fldv_agg, jn0_k, jn1_k, jn2_k, jn1_and, jn1_or, ex_some, Option.isNone_some, Option.isNone_none, Bool.false_bne, Bool.bne_true, Bool.bne_false, Bool.true_bne, Bool.not_true, Bool.not_false, Bool.and_true, Bool.true_and, Bool.and_false, Bool.false_and, Bool.or_true, Bool.true_or, Bool.or_false, Bool.false_or, cond_true, cond_false, List.getElem?_toArray, List.getElem?_cons_zero, List.getElem?_cons_succ, Nat.zero_add, Nat.add_zero, Nat.reduceAdd, forall_const]
  exact hR _ _ ⟨rfl, Fr.refl _ _⟩
end
theorem Rows'.ldV {w : World} {v : Value} {l : List Value} {j : Nat} {a : Value} (hr : Rows' qv w.heap v l) (hj : l[j]? = some a) (k : IntKind) {K : Value → Prop} (h : K a) : ixs 1 v (.int k (j : Int)) fun t => Go.Fx.ld1 t w.heap K := by
  obtain ⟨g, o, c, rfl⟩ := hr.form (by decide) hj
  have hlt := (List.getElem?_eq_some_iff.1 hj).1
  rw [ixs_mk _ _ _ _ _ _ _ _ (by omega) (by omega), Int.toNat_natCast]
  have hat := At.of (q := qv) (by decide) hr hj
  exact (Fld.ld1A (r := qv) Fld.self hat K).mpr h
section
variable {w : World}
theorem wNone {x : Vec 32 × Int × Sl UInt8} {id : Vec 32} (hc : Cub w) (hx : Rdr.ok R_api_Block w.heap x) : cal P f_law11_TreeNone [.agg (Rdr.cells R_api_Block x).toArray, kv id] w fun r w' => r = .bool true ∧ Fr [] w w' := by
  obtain ⟨b, hbb⟩ : ∃ a, a = ab x := ⟨_, rfl⟩
  have hb := ab_rd hx
  have hbh := ab_h hx
  have hbl := ab_len hx
  rw [← hbb] at hb hbh hbl
  have ea : Value.agg (Rdr.cells R_api_Block x).toArray = bq b x.2.2.v := by rw [hbb]; rfl
  rw [ea]
  generalize x.2.2.v = v at *
  clear ea hbb hx
  refine s_law11_TreeNone fun R hR => ?_
  unfold c_law11_TreeNone
  refine bxQ (Sep.start w) fun g2 w1 hs1 => ?_
  refine bxQ hs1 fun g3 w2 hs2 => ?_
  have lv : ∀ {z : World}, Fr [] w z → cal P f_law11_live [] z R := fun {z} hf => cal_i (live11_spec (hc.fr hf)) fun r w' hr => hR _ _ ⟨hr.1, hf.trans hr.2 (by simp) (by simp)⟩
  refine cal_i (live11_spec (hc.fr hs2.fr0)) ?_
  rintro _ w3 ⟨rfl, hf3⟩
  have hs3 := hs2.old hf3
  have l1 : ∀ K, lenS (b.p, b.h, v).2.2 K = K (.int .i64 b.d.length) := hb.len
  simp only [nilc_some, fad_mk, pik_true, pik_false, cnd_true, cnd_false, gif_same, gif_tf, gif_ft, gif_undef, bi_add, bi_sub, bi_mul, bi_eql, bi_neq, bi_lss, bi_leq, bi_gtr, bi_geq, notB_bool, cvi_int, lenS_mk, lenT_mk, ext0, ext1, ext2, nilP_mk, nilS_mk, fldv_agg, jn0_k, jn1_k, jn2_k, jn1_and, jn1_or, ex_some, Option.isNone_some, Option.isNone_none, Bool.false_bne, Bool.bne_true, Bool.bne_false, Bool.true_bne, Bool.not_true, Bool.not_false, Bool.and_true, Bool.true_and, Bool.and_false, Bool.false_and, Bool.or_true, Bool.true_or, Bool.or_false, Bool.false_or, cond_true, cond_false, List.getElem?_toArray, List.getElem?_cons_zero, List.getElem?_cons_succ, Nat.zero_add, Nat.add_zero, Nat.reduceAdd, forall_const, L_api_Block (Sep.p1 hs3).blk, L_api_Block__Parent (Sep.p1 hs3).blk, L_api_Block__Height (Sep.p1 hs3).blk, L_api_Block__Data (Sep.p1 hs3).blk, l1]
  rw [cnd_bool]
  refine ⟨fun h => lv hs3.fr0, fun h => ?_⟩
  clear h lv
  rw [B_tree_Tree]
  refine bxQ hs3 fun g25 w4 hs4 => ?_
  refine rows_lit (q := qv) hs4 S_sl_p_tree_Tree (l := [.pointer none, .pointer (some ⟨g25, 0, none⟩)]) (V := fun a => if a.oneCell' then a else .agg #[a]) (fun a => by
    by_cases h : a.oneCell' = true
    · rw [if_pos h]; cases a <;> simp_all [Value.cells, Value.oneCell', qv]
    · rw [if_neg h]; rfl) rfl rfl (by decide) (by decide) fun g26 w5 hs5 => ?_
  obtain ⟨L, hL⟩ : ∃ L, L = [rows qv (.slice (some ⟨g26, 0, none⟩) 2 2) [.pointer none, .pointer (some ⟨g25, 0, none⟩)], blk g25 (Rdr.cells Q_tree_Tree (false, vz 32, (0 : Int), (0 : Int), .map none, .slice none 0 0)).toArray T_tree_Tree, blk g3 (Rdr.cells (rVec 32) id).toArray T_api_ID, blk g2 (Rdr.cells Q_api_Block (b.p, b.h, v)).toArray T_api_Block] := ⟨_, rfl⟩
  replace hs5 : Sep w w5 L := by rw [hL]; exact hs5
  have hnt : ∀ {z : World}, Sep w z L → ∀ (i : Nat) a, ([.pointer none, .pointer (some ⟨g25, 0, none⟩)] : List Value)[i]? = some a → NT a z := fun {z} hz i a ha => by
    rw [hL] at hz
    match i, ha with
    | 0, ha => cases ha; exact NT.nil z
    | 1, ha => cases ha; exact NT.zero hz.p1
  have frw : ∀ {z : World}, Sep w z L → Rows' qv z.heap (.slice (some ⟨g26, 0, none⟩) 2 2) [.pointer none, .pointer (some ⟨g25, 0, none⟩)] := fun {z} hz => by
    rw [hL] at hz
    exact Sep.rows hz
  have f3 : ∀ {z : World}, Sep w z L → ∀ K, ldN 32 (.pointer (some ⟨g3, 0, none⟩)) z.heap K = K (kv id) := fun {z} hz K => by
    rw [hL] at hz
    exact L_api_ID (Sep.blk hz.p2) K
  have f2 : ∀ {z : World}, Sep w z L → ∀ K, ldN 34 (.pointer (some ⟨g2, 0, none⟩)) z.heap K = K (bq b v) := fun {z} hz K => by
    rw [hL] at hz
    exact L_api_Block (Sep.blk hz.p3) K
  clear hL hs4 hs3 hs2 hs1
  have hlen : ∀ K, lenS (.slice (some ⟨g26, 0, none⟩) 2 2) K = K (.int .i64 ((2 : Nat) : Int)) := fun K => (frw hs5).len K
  rw [hlen]
  refine ⟨fun y z => ∃ i : Nat, y = .int .i64 i ∧ i ≤ 2 ∧ Sep w z L, fun y _ => (2 - RowKit.intOf y).toNat, ⟨0, rfl, by omega, hs5⟩, ?_⟩
  rintro _ w6 ⟨i, rfl, hi, hs6⟩ -
  simp only [nilc_some, fad_mk, pik_true, pik_false, cnd_true, cnd_false, gif_same, gif_tf, gif_ft, gif_undef, bi_add, bi_sub, bi_mul, bi_eql, bi_neq, bi_lss, bi_leq, bi_gtr, bi_geq, notB_bool, cvi_int, lenS_mk, lenT_mk, ext0, ext1, ext2, nilP_mk, nilS_mk, fldv_agg, jn0_k, jn1_k, jn2_k, jn1_and, jn1_or, ex_some, Option.isNone_some, Option.isNone_none, Bool.false_bne, Bool.bne_true, Bool.bne_false, Bool.true_bne, Bool.not_true, Bool.not_false, Bool.and_true, Bool.true_and, Bool.and_false, Bool.false_and, Bool.or_true, Bool.true_or, Bool.or_false, Bool.false_or, cond_true, cond_false, List.getElem?_toArray, List.getElem?_cons_zero, List.getElem?_cons_succ, Nat.zero_add, Nat.add_zero, Nat.reduceAdd, forall_const]
  rw [cnd_bool]
  refine ⟨fun h => ?_, fun h => ?_⟩
  case refine_2 => exact hR _ _ ⟨rfl, hs6.fr0⟩
  have hlt : i < 2 := by simp at h; omega
  obtain ⟨p, hpi⟩ : ∃ p, ([.pointer none, .pointer (some ⟨g25, 0, none⟩)] : List Value)[i]? = some p := ⟨_, List.getElem?_eq_getElem hlt⟩
  change ixs 1 _ _ _
  refine Rows'.ldV (frw hs6) hpi .i64 ?_
  have hp := hnt hs6 i p hpi
  have NTp : ∀ {z : World}, Sep w z L → NT p z := fun hz => hnt hz i p hpi
  clear hpi
  rw [f2 hs6]
  refine cal_i (nAdd hp b v) ?_
  rintro _ w7 ⟨rfl, hf7⟩
  have hs7 := hs6.old hf7
  simp only [nilc_some, fad_mk, pik_true, pik_false, cnd_true, cnd_false, gif_same, gif_tf, gif_ft, gif_undef, bi_add, bi_sub, bi_mul, bi_eql, bi_neq, bi_lss, bi_leq, bi_gtr, bi_geq, notB_bool, cvi_int, lenS_mk, lenT_mk, ext0, ext1, ext2, nilP_mk, nilS_mk, fldv_agg, jn0_k, jn1_k, jn2_k, jn1_and, jn1_or, ex_some, Option.isNone_some, Option.isNone_none, Bool.false_bne, Bool.bne_true, Bool.bne_false, Bool.true_bne, Bool.not_true, Bool.not_false, Bool.and_true, Bool.true_and, Bool.and_false, Bool.false_and, Bool.or_true, Bool.true_or, Bool.or_false, Bool.false_or, cond_true, cond_false, List.getElem?_toArray, List.getElem?_cons_zero, List.getElem?_cons_succ, Nat.zero_add, Nat.add_zero, Nat.reduceAdd, forall_const]
  refine alloc_s hs7 (A_api_ID w7) fun g7 w8 hs8 => ?_
  refine St_api_ID (b := vz 32) hs8 fun w9 hs9 => ?_
  rw [f3 hs9.tail]
  refine cal_i (nGet (NTp hs9.tail) id) ?_
  rintro _ w10 ⟨rfl, hf10⟩
  have hs10 := hs9.old hf10
  simp only [nilc_some, fad_mk, pik_true, pik_false, cnd_true, cnd_false, gif_same, gif_tf, gif_ft, gif_undef, bi_add, bi_sub, bi_mul, bi_eql, bi_neq, bi_lss, bi_leq, bi_gtr, bi_geq, notB_bool, cvi_int, lenS_mk, lenT_mk, ext0, ext1, ext2, nilP_mk, nilS_mk, fldv_agg, jn0_k, jn1_k, jn2_k, jn1_and, jn1_or, ex_some, Option.isNone_some, Option.isNone_none, Bool.false_bne, Bool.bne_true, Bool.bne_false, Bool.true_bne, Bool.not_true, Bool.not_false, Bool.and_true, Bool.true_and, Bool.and_false, Bool.false_and, Bool.or_true, Bool.true_or, Bool.or_false, Bool.false_or, cond_true, cond_false, List.getElem?_toArray, List.getElem?_cons_zero, List.getElem?_cons_succ, Nat.zero_add, Nat.add_zero, Nat.reduceAdd, forall_const]
  refine alloc_s hs10 (A_api_Block w10) fun g9 w11 hs11 => ?_
  refine St_api_Block (b := (Blk.none.p, Blk.none.h, .slice none 0 0)) hs11 (one_api_Block rfl) fun w12 hs12 => ?_
  rw [f3 hs12.tail.tail]
  refine cal_i (nMove (NTp hs12.tail.tail) id) ?_
  rintro _ w13 ⟨rfl, hf13⟩
  have hs13 := hs12.old hf13
  simp only [nilc_some, fad_mk, pik_true, pik_false, cnd_true, cnd_false, gif_same, gif_tf, gif_ft, gif_undef, bi_add, bi_sub, bi_mul, bi_eql, bi_neq, bi_lss, bi_leq, bi_gtr, bi_geq, notB_bool, cvi_int, lenS_mk, lenT_mk, ext0, ext1, ext2, nilP_mk, nilS_mk, fldv_agg, jn0_k, jn1_k, jn2_k, jn1_and, jn1_or, ex_some, Option.isNone_some, Option.isNone_none, Bool.false_bne, Bool.bne_true, Bool.bne_false, Bool.true_bne, Bool.not_true, Bool.not_false, Bool.and_true, Bool.true_and, Bool.and_false, Bool.false_and, Bool.or_true, Bool.true_or, Bool.or_false, Bool.false_or, cond_true, cond_false, List.getElem?_toArray, List.getElem?_cons_zero, List.getElem?_cons_succ, Nat.zero_add, Nat.add_zero, Nat.reduceAdd, forall_const]
  refine cal_i (nRoot (NTp hs13.tail.tail)) ?_
  rintro _ w14 ⟨rfl, hf14⟩
  have hs14 := hs13.old hf14
  simp only [nilc_some, fad_mk, pik_true, pik_false, cnd_true, cnd_false, gif_same, gif_tf, gif_ft, gif_undef, bi_add, bi_sub, bi_mul, bi_eql, bi_neq, bi_lss, bi_leq, bi_gtr, bi_geq, notB_bool, cvi_int, lenS_mk, lenT_mk, ext0, ext1, ext2, nilP_mk, nilS_mk, fldv_agg, jn0_k, jn1_k, jn2_k, jn1_and, jn1_or, ex_some, Option.isNone_some, Option.isNone_none, Bool.false_bne, Bool.bne_true, Bool.bne_false, Bool.true_bne, Bool.not_true, Bool.not_false, Bool.and_true, Bool.true_and, Bool.and_false, Bool.false_and, Bool.or_true, Bool.true_or, Bool.or_false, Bool.false_or, cond_true, cond_false, List.getElem?_toArray, List.getElem?_cons_zero, List.getElem?_cons_succ, Nat.zero_add, Nat.add_zero, Nat.reduceAdd, forall_const]
  refine alloc_s hs14 (A_api_ID w14) fun g13 w15 hs15 => ?_
  refine St_api_ID (b := vz 32) hs15 fun w16 hs16 => ?_
  refine drH_S hs16 fun w17 hs17 _ => ?_
  have k3 : ∀ {z : World}, Sep w z (blk g13 (Rdr.cells (rVec 32) (vz 32)).toArray T_api_ID :: blk g9 (Rdr.cells Q_api_Block (Blk.none.p, Blk.none.h, .slice none 0 0)).toArray T_api_Block :: blk g7 (Rdr.cells (rVec 32) (vz 32)).toArray T_api_ID :: L) → NT p z := fun hz => NTp hz.tail.tail.tail
  refine ⟨kv (vz 32), fun u hu => (L_api_ID (Sep.blk hu.p2) _).mpr rfl, ?_⟩
  refine ⟨kv (vz 32), fun u hu => by rw [B_ID0], ?_⟩
  refine ⟨.bool false, fun u hu => by rw [ne_api_ID, decide_eq_true rfl]; rfl, ?_⟩
  refine jn1_dup ?_
  simp only [nilc_some, fad_mk, pik_true, pik_false, cnd_true, cnd_false, gif_same, gif_tf, gif_ft, gif_undef, bi_add, bi_sub, bi_mul, bi_eql, bi_neq, bi_lss, bi_leq, bi_gtr, bi_geq, notB_bool, cvi_int, lenS_mk, lenT_mk, ext0, ext1, ext2, nilP_mk, nilS_mk, fldv_agg, jn0_k, jn1_k, jn2_k, jn1_and, jn1_or, ex_some, Option.isNone_some, Option.isNone_none, Bool.false_bne, Bool.bne_true, Bool.bne_false, Bool.true_bne, Bool.not_true, Bool.not_false, Bool.and_true, Bool.true_and, Bool.and_false, Bool.false_and, Bool.or_true, Bool.true_or, Bool.or_false, Bool.false_or, cond_true, cond_false, List.getElem?_toArray, List.getElem?_cons_zero, List.getElem?_cons_succ, Nat.zero_add, Nat.add_zero, Nat.reduceAdd, forall_const, show ((2 : Int) != 2) = false from rfl]
  refine jn1_dup ?_
  simp only [nilc_some, fad_mk, pik_true, pik_false, cnd_true, cnd_false, gif_same, gif_tf, gif_ft, gif_undef, bi_add, bi_sub, bi_mul, bi_eql, bi_neq, bi_lss, bi_leq, bi_gtr, bi_geq, notB_bool, cvi_int, lenS_mk, lenT_mk, ext0, ext1, ext2, nilP_mk, nilS_mk, fldv_agg, jn0_k, jn1_k, jn2_k, jn1_and, jn1_or, ex_some, Option.isNone_some, Option.isNone_none, Bool.false_bne, Bool.bne_true, Bool.bne_false, Bool.true_bne, Bool.not_true, Bool.not_false, Bool.and_true, Bool.true_and, Bool.and_false, Bool.false_and, Bool.or_true, Bool.true_or, Bool.or_false, Bool.false_or, cond_true, cond_false, List.getElem?_toArray, List.getElem?_cons_zero, List.getElem?_cons_succ, Nat.zero_add, Nat.add_zero, Nat.reduceAdd, forall_const]
  refine ⟨bq Blk.none (.slice none 0 0), fun u hu => (L_api_Block (Sep.blk hu.p1) _).mpr rfl, ?_⟩
  refine ⟨bq Blk.none (.slice none 0 0), fun u hu => by rw [B_api_Block]; rfl, ?_⟩
  refine efS_i (cal_i (rSame_spec (a := Blk.none) (b := Blk.none) (u := .slice none 0 0) (v := .slice none 0 0) (rdNil w17) (rdNil w17)) ?_)
  rintro _ w18 ⟨rfl, hf18⟩
  have hs18 := hs17.old hf18
  refine ⟨hs18, ?_⟩
  simp only [nilc_some, fad_mk, pik_true, pik_false, cnd_true, cnd_false, gif_same, gif_tf, gif_ft, gif_undef, bi_add, bi_sub, bi_mul, bi_eql, bi_neq, bi_lss, bi_leq, bi_gtr, bi_geq, notB_bool, cvi_int, lenS_mk, lenT_mk, ext0, ext1, ext2, nilP_mk, nilS_mk, fldv_agg, jn0_k, jn1_k, jn2_k, jn1_and, jn1_or, ex_some, Option.isNone_some, Option.isNone_none, Bool.false_bne, Bool.bne_true, Bool.bne_false, Bool.true_bne, Bool.not_true, Bool.not_false, Bool.and_true, Bool.true_and, Bool.and_false, Bool.false_and, Bool.or_true, Bool.true_or, Bool.or_false, Bool.false_or, cond_true, cond_false, List.getElem?_toArray, List.getElem?_cons_zero, List.getElem?_cons_succ, Nat.zero_add, Nat.add_zero, Nat.reduceAdd, forall_const, decide_true, show ((2 : Int) != 2) = false from rfl, show (((0 : Nat) : Int) != 0) = false from rfl]
  refine jn1_dup ?_
  refine ⟨kv (vz 32), fun u hu => (L_api_ID (Sep.blk hu) _).mpr rfl, ?_⟩
  refine ⟨kv (vz 32), fun u hu => by rw [B_ID0], ?_⟩
  refine ⟨.bool false, fun u hu => by rw [ne_api_ID, decide_eq_true rfl]; rfl, ?_⟩
  simp only [nilc_some, fad_mk, pik_true, pik_false, cnd_true, cnd_false, gif_same, gif_tf, gif_ft, gif_undef, bi_add, bi_sub, bi_mul, bi_eql, bi_neq, bi_lss, bi_leq, bi_gtr, bi_geq, notB_bool, cvi_int, lenS_mk, lenT_mk, ext0, ext1, ext2, nilP_mk, nilS_mk, fldv_agg, jn0_k, jn1_k, jn2_k, jn1_and, jn1_or, ex_some, Option.isNone_some, Option.isNone_none, Bool.false_bne, Bool.bne_true, Bool.bne_false, Bool.true_bne, Bool.not_true, Bool.not_false, Bool.and_true, Bool.true_and, Bool.and_false, Bool.false_and, Bool.or_true, Bool.true_or, Bool.or_false, Bool.false_or, cond_true, cond_false, List.getElem?_toArray, List.getElem?_cons_zero, List.getElem?_cons_succ, Nat.zero_add, Nat.add_zero, Nat.reduceAdd, forall_const, show ((0 : Int) != 0) = false from rfl]
  refine jn1_dup ?_
  refine ⟨kv id, fun u hu => (f3 hu.tail.tail.tail _).mpr rfl, ?_⟩
  refine efS_i (cal_i (nHas (k3 hs18) id) ?_)
  rintro _ w19 ⟨rfl, hf19⟩
  have hs19 := hs18.old hf19
  refine ⟨hs19, ?_⟩
  simp only [nilc_some, fad_mk, pik_true, pik_false, cnd_true, cnd_false, gif_same, gif_tf, gif_ft, gif_undef, bi_add, bi_sub, bi_mul, bi_eql, bi_neq, bi_lss, bi_leq, bi_gtr, bi_geq, notB_bool, cvi_int, lenS_mk, lenT_mk, ext0, ext1, ext2, nilP_mk, nilS_mk, fldv_agg, jn0_k, jn1_k, jn2_k, jn1_and, jn1_or, ex_some, Option.isNone_some, Option.isNone_none, Bool.false_bne, Bool.bne_true, Bool.bne_false, Bool.true_bne, Bool.not_true, Bool.not_false, Bool.and_true, Bool.true_and, Bool.and_false, Bool.false_and, Bool.or_true, Bool.true_or, Bool.or_false, Bool.false_or, cond_true, cond_false, List.getElem?_toArray, List.getElem?_cons_zero, List.getElem?_cons_succ, Nat.zero_add, Nat.add_zero, Nat.reduceAdd, forall_const]
  refine jn1_dup ?_
  refine efS_i (cal_i (nLen (k3 hs19)) ?_)
  rintro _ w20 ⟨rfl, hf20⟩
  have hs20 := hs19.old hf20
  refine ⟨hs20, ?_⟩
  simp only [nilc_some, fad_mk, pik_true, pik_false, cnd_true, cnd_false, gif_same, gif_tf, gif_ft, gif_undef, bi_add, bi_sub, bi_mul, bi_eql, bi_neq, bi_lss, bi_leq, bi_gtr, bi_geq, notB_bool, cvi_int, lenS_mk, lenT_mk, ext0, ext1, ext2, nilP_mk, nilS_mk, fldv_agg, jn0_k, jn1_k, jn2_k, jn1_and, jn1_or, ex_some, Option.isNone_some, Option.isNone_none, Bool.false_bne, Bool.bne_true, Bool.bne_false, Bool.true_bne, Bool.not_true, Bool.not_false, Bool.and_true, Bool.true_and, Bool.and_false, Bool.false_and, Bool.or_true, Bool.true_or, Bool.or_false, Bool.false_or, cond_true, cond_false, List.getElem?_toArray, List.getElem?_cons_zero, List.getElem?_cons_succ, Nat.zero_add, Nat.add_zero, Nat.reduceAdd, forall_const, show ((0 : Int) != 0) = false from rfl]
  refine jn1_dup ?_
  refine ⟨kv id, fun u hu => (f3 hu.tail.tail.tail _).mpr rfl, ?_⟩
  refine ⟨kv id, fun u hu => (f3 hu.tail.tail.tail _).mpr rfl, ?_⟩
  refine efS_i (cal_i (nWithin (k3 hs20) id id) ?_)
  rintro _ w21 ⟨rfl, hf21⟩
  have hs21 := hs20.old hf21
  refine ⟨hs21, ?_⟩
  simp only [nilc_some, fad_mk, pik_true, pik_false, cnd_true, cnd_false, gif_same, gif_tf, gif_ft, gif_undef, bi_add, bi_sub, bi_mul, bi_eql, bi_neq, bi_lss, bi_leq, bi_gtr, bi_geq, notB_bool, cvi_int, lenS_mk, lenT_mk, ext0, ext1, ext2, nilP_mk, nilS_mk, fldv_agg, jn0_k, jn1_k, jn2_k, jn1_and, jn1_or, ex_some, Option.isNone_some, Option.isNone_none, Bool.false_bne, Bool.bne_true, Bool.bne_false, Bool.true_bne, Bool.not_true, Bool.not_false, Bool.and_true, Bool.true_and, Bool.and_false, Bool.false_and, Bool.or_true, Bool.true_or, Bool.or_false, Bool.false_or, cond_true, cond_false, List.getElem?_toArray, List.getElem?_cons_zero, List.getElem?_cons_succ, Nat.zero_add, Nat.add_zero, Nat.reduceAdd, forall_const]
  refine jn1_dup ?_
  refine ⟨kv id, fun u hu => (f3 hu.tail.tail.tail _).mpr rfl, ?_⟩
  refine ⟨kv id, fun u hu => (f3 hu.tail.tail.tail _).mpr rfl, ?_⟩
  refine efS_i (cal_i (nPath (k3 hs21) id) ?_)
  rintro _ w22 ⟨rfl, hf22⟩
  have hs22 := hs21.old hf22
  refine ⟨hs22, ?_⟩
  simp only [nilc_some, fad_mk, pik_true, pik_false, cnd_true, cnd_false, gif_same, gif_tf, gif_ft, gif_undef, bi_add, bi_sub, bi_mul, bi_eql, bi_neq, bi_lss, bi_leq, bi_gtr, bi_geq, notB_bool, cvi_int, lenS_mk, lenT_mk, ext0, ext1, ext2, nilP_mk, nilS_mk, fldv_agg, jn0_k, jn1_k, jn2_k, jn1_and, jn1_or, ex_some, Option.isNone_some, Option.isNone_none, Bool.false_bne, Bool.bne_true, Bool.bne_false, Bool.true_bne, Bool.not_true, Bool.not_false, Bool.and_true, Bool.true_and, Bool.and_false, Bool.false_and, Bool.or_true, Bool.true_or, Bool.or_false, Bool.false_or, cond_true, cond_false, List.getElem?_toArray, List.getElem?_cons_zero, List.getElem?_cons_succ, Nat.zero_add, Nat.add_zero, Nat.reduceAdd, forall_const]
  refine efS_i (cal_i (nUnder (k3 hs22) id) ?_)
  rintro _ w23 ⟨rfl, hf23⟩
  have hs23 := hs22.old hf23
  refine ⟨hs23, ?_⟩
  have l0 : ∀ K, lenS (.slice none 0 0) K = K (.int .i64 ((0 : Nat) : Int)) := fun K => (rdNil w23).len K
  have e00 : (IntKind.i64.wrap (((0 : Nat) : Int) + ((0 : Nat) : Int)) != 0) = false := rfl
  simp only [nilc_some, fad_mk, pik_true, pik_false, cnd_true, cnd_false, gif_same, gif_tf, gif_ft, gif_undef, bi_add, bi_sub, bi_mul, bi_eql, bi_neq, bi_lss, bi_leq, bi_gtr, bi_geq, notB_bool, cvi_int, lenS_mk, lenT_mk, ext0, ext1, ext2, nilP_mk, nilS_mk, fldv_agg, jn0_k, jn1_k, jn2_k, jn1_and, jn1_or, ex_some, Option.isNone_some, Option.isNone_none, Bool.false_bne, Bool.bne_true, Bool.bne_false, Bool.true_bne, Bool.not_true, Bool.not_false, Bool.and_true, Bool.true_and, Bool.and_false, Bool.false_and, Bool.or_true, Bool.true_or, Bool.or_false, Bool.false_or, cond_true, cond_false, List.getElem?_toArray, List.getElem?_cons_zero, List.getElem?_cons_succ, Nat.zero_add, Nat.add_zero, Nat.reduceAdd, forall_const, l0, e00]
  refine jn1_dup ?_
  refine ⟨kv id, fun u hu => (f3 hu.tail.tail.tail _).mpr rfl, ?_⟩
  refine efS_i (cal_i (nKids (k3 hs23) id) ?_)
  rintro r1 w24 hg
  have hs24 := hs23.old hg.fr0
  refine ⟨hs24, ?_⟩
  refine efS_i (cal_i (hg.told (most := 9) (by simp) (by decide)) ?_)
  rintro r2 w25 hs25
  have hs25' := hs24.old hs25.fr0
  refine ⟨hs25', ?_⟩
  rw [(Sep.rows hs25).len]
  refine efS_i (cal_i (nAll (k3 hs25')) ?_)
  rintro r3 w26 hg
  have hs26 := hs25'.old hg.fr0
  refine ⟨hs26, ?_⟩
  refine efS_i (cal_i (hg.told (most := 9) (by simp) (by decide)) ?_)
  rintro r4 w27 hs27
  have hs27' := hs26.old hs27.fr0
  refine ⟨hs27', ?_⟩
  rw [(Sep.rows hs27).len]
  simp only [nilc_some, fad_mk, pik_true, pik_false, cnd_true, cnd_false, gif_same, gif_tf, gif_ft, gif_undef, bi_add, bi_sub, bi_mul, bi_eql, bi_neq, bi_lss, bi_leq, bi_gtr, bi_geq, notB_bool, cvi_int, lenS_mk, lenT_mk, ext0, ext1, ext2, nilP_mk, nilS_mk, fldv_agg, jn0_k, jn1_k, jn2_k, jn1_and, jn1_or, ex_some, Option.isNone_some, Option.isNone_none, Bool.false_bne, Bool.bne_true, Bool.bne_false, Bool.true_bne, Bool.not_true, Bool.not_false, Bool.and_true, Bool.true_and, Bool.and_false, Bool.false_and, Bool.or_true, Bool.true_or, Bool.or_false, Bool.false_or, cond_true, cond_false, List.getElem?_toArray, List.getElem?_cons_zero, List.getElem?_cons_succ, Nat.zero_add, Nat.add_zero, Nat.reduceAdd, forall_const, List.take_nil, List.length_nil, e00]
  refine jn1_dup ?_
  refine efS_i (cal_i (nClone (k3 hs27')) ?_)
  rintro _ w28 ⟨rfl, hf28⟩
  have hs28 := hs27'.old hf28
  refine ⟨hs28, ?_⟩
  simp only [nilc_some, fad_mk, pik_true, pik_false, cnd_true, cnd_false, gif_same, gif_tf, gif_ft, gif_undef, bi_add, bi_sub, bi_mul, bi_eql, bi_neq, bi_lss, bi_leq, bi_gtr, bi_geq, notB_bool, cvi_int, lenS_mk, lenT_mk, ext0, ext1, ext2, nilP_mk, nilS_mk, fldv_agg, jn0_k, jn1_k, jn2_k, jn1_and, jn1_or, ex_some, Option.isNone_some, Option.isNone_none, Bool.false_bne, Bool.bne_true, Bool.bne_false, Bool.true_bne, Bool.not_true, Bool.not_false, Bool.and_true, Bool.true_and, Bool.and_false, Bool.false_and, Bool.or_true, Bool.true_or, Bool.or_false, Bool.false_or, cond_true, cond_false, List.getElem?_toArray, List.getElem?_cons_zero, List.getElem?_cons_succ, Nat.zero_add, Nat.add_zero, Nat.reduceAdd, forall_const, Option.isNone_none]
  rw [wi64 (by omega) (by omega)]
  exact ⟨⟨i + 1, by simp, by omega, hs28.tail.tail.tail⟩, by simp [RowKit.intOf]; omega⟩
end
end Go.Fx
namespace Go.Fx
theorem okWide_arr {P : Program} {w : World} {r : Reach} {base n : Nat} {t e : TypeId} {v : Value} (ht : P.underlying t = some (.array n e)) (h : Value.okWide P w r base t v) : ∃ cs, v = .agg cs ∧ cs.size = P.cellsOf t := by
  simp only [Value.okWide, ht] at h
  obtain ⟨cs, h1, h2, _⟩ := h
  exact ⟨cs, h1, h2⟩
end Go.Fx
namespace Go.Proofs.YtfpjpecenlbanaaDoor
open Go.ChangeShapes Go.WideShapes Go.ChangeAt Go.RowKit
theorem own : ownKnob Tryd.prog.godebug = none := by kernel_rfl
theorem laidOut : laidOutB Tryd.prog = true := by kernel_rfl
end Go.Proofs.YtfpjpecenlbanaaDoor
namespace Go.Proofs.YtfpjpecenlbanaaDoor
open Go.ChangeShapes Go.WideShapes Go.ChangeAt Go.RowKit
abbrev laidL : List (String × DataW Unit) := [("flurry/sha.cubes", Rows.laid_flurry_sha_cubes)]
theorem gCubes : Tryd.prog.globalNamed "flurry/sha.cubes" = some 0 := by kernel_rfl
theorem tCubes : (Tryd.prog.globals[0]?).map (·.type) = some Go.Fx.T_a64_uint32 := by kernel_rfl
theorem door_met (os : Os) (args : Array Value) : laidMetH Tryd.prog laidL ((World.doorLaid Tryd.prog 400 os).forCall (fun _ _ => 0) ⟨#[], args, []⟩).memory :=
  laidMetH_of_parts3 (fuel := 8) (laidMet_of_run' 8 (by kernel_rfl) (by kernel_rfl)) (by kernel_rfl) (by kernel_rfl)
theorem cub_of_laid {W : World} (h : laidMetH Tryd.prog laidL W) : Go.Fx.Cub W := by
  rw [MakeChecks.laidMetH_plain _ _ _ (by kernel_rfl)] at h
  obtain ⟨ps, ⟨g0, t0, cs0, f0, p0, q0, hg0, ht0, hv0, hd0, _, _⟩, _, _⟩ := h
  obtain rfl := Option.some.inj (gCubes.symm.trans hg0)
  obtain rfl := Option.some.inj (tCubes.symm.trans ht0)
  have hcs : cs0.toList = Go.Fx.wvs Go.Fx.cubesL := by
    obtain ⟨xs, m1, _, hx1, hlen, hn3, hel⟩ := DataW.trod_array Go.Fx.U_a64_uint32 hd0
    have c1 : Tryd.prog.cellsOf Go.Fx.T_uint32 = 1 := by kernel_rfl
    have c64 : Tryd.prog.cellsOf Go.Fx.T_a64_uint32 = 64 := by kernel_rfl
    rw [c64] at hlen
    rw [c1] at hel
    have hd : (Rows.laid_flurry_sha_cubes : DataW Unit) = .agg (Go.Fx.cubesL.map fun x => .lit (.int .u32 x.toNat)) := by kernel_rfl
    rw [hd] at hx1
    simp only [Prod.mk.injEq, DataW.agg.injEq] at hx1
    apply List.ext_getElem?
    intro i
    by_cases hi : i < 64
    · have h1 := hel i hi
      have hx : xs[i]? = some (xs[i]'(by omega)) := List.getElem?_eq_getElem _
      rw [hx] at h1
      generalize xs[i]'(by omega) = y at *
      obtain ⟨k, e1, e2, _⟩ := DataW.trod_int Go.Fx.U_uint32 h1
      have h2 := congrArg (·[i]?) hx1.1
      simp only [List.getElem?_map, hx, e2, Option.map_some] at h2
      have h3 : cs0.toList[i]? = some (.int .u32 k) := by
        have : ((cs0.toList.drop (i * 1)).take 1)[0]? = some (.int .u32 k) := by rw [e1]; rfl
        rw [List.getElem?_take_of_lt (by omega), List.getElem?_drop, Nat.mul_one, Nat.add_zero] at this
        exact this
      rw [h3, Go.Fx.wvs, List.getElem?_map]
      cases hc : Go.Fx.cubesL[i]? with
      | none => rw [hc] at h2; cases h2
      | some z =>
        rw [hc] at h2
        simp only [Option.map_some, Option.some.injEq, DataW.lit.injEq, Lit.int.injEq, true_and] at h2
        rw [Option.map_some, ← h2]
        rfl
    · rw [List.getElem?_eq_none (by omega), List.getElem?_eq_none (by rw [Go.Fx.wvs, List.length_map]; show 64 ≤ i; omega)]
  have hv1 := hv0
  unfold World.var? at hv1
  rw [hg0] at hv1
  simp only [Option.bind_some] at hv1
  cases hh : W.heap[0]? with
  | none => rw [hh] at hv1; cases hv1
  | some o =>
    rw [hh] at hv1
    cases o with
    | cells cs t fr =>
      simp only [Option.some.injEq] at hv1
      subst hv1
      refine ⟨t, fr, ?_⟩
      rw [hh]
      have : cs = (Go.Fx.wvs Go.Fx.cubesL).toArray := by apply Array.ext'; simpa using hcs
      rw [this]
    | _ => cases hv1
end Go.Proofs.YtfpjpecenlbanaaDoor
set_option linter.unusedVariables false
set_option linter.unusedSimpArgs false
namespace Go.Proofs.YtfpjpecenlbanaaDoor
open Go.ChangeShapes Go.WideShapes Go.ChangeAt Go.RowKit
set_option maxRecDepth 100000 in
theorem liftedTreeNone (os : Os) (started : os.Started) (H : Type) (enc : TypeId × Value → H) :
    ReturnsInHanded {} Tryd.checked os 8 .any (fun w args => (Rows.treeNoneSpec.pre enc Tryd.prog Tryd.f8 [] false w args ∧ laidMetH Tryd.prog laidL w) ∧ sizedMet enc Tryd.prog Tryd.f8 (OpenSpec.ofChange Rows.treeNoneSpec) false w args) (Rows.treeNoneSpec.post enc Tryd.prog Tryd.f8 false true false false) := by
  refine returnsInHanded_of_change_and (C := Tryd.checked) (X := fun w _ => laidMetH Tryd.prog laidL w) (fun _ _ _ hh h => h.of_heap hh) own started (by kernel_rfl) Tryd.func8
    (ChangeSpec.witness_shaped (enc := enc) (C := Tryd.checked) (os := os) (X := fun w _ => laidMetH Tryd.prog laidL w) false (World.doorLaid Tryd.prog 400 os) #[((Value.agg ((List.replicate 32 (Value.int IntKind.u8 0) ++ [(Value.int IntKind.i64 0)] ++ [(Value.slice none 0 0)] : List Value).toArray))), ((Value.agg ((List.replicate 32 (Value.int IntKind.u8 0) : List Value).toArray)))] 8 rfl (World.shaped_of_RefB (by kernel_rfl) (by kernel_rfl)) (by kernel_rfl) (by kernel_rfl) (by kernel_rfl) (door_met os _)) ?_
  intro W base args ds gs before hval0 hW _ _ hL _
  have hcub : Go.Fx.Cub W := cub_of_laid hL
  have hval : ∀ (j : Nat) t v, Tryd.f8.params[j]? = some t → args[j]? = some v → Value.okWide Tryd.prog W .any base t v := hval0
  have hW' := hW
  obtain ⟨p, q, hA0, hV, rfl, hfz, hnd⟩ := hW
  have hA : DataW.TrodAll enc Tryd.prog W 0 (fun _ => true) true Tryd.f8.params.toList args.toList ds p := hA0
  rw [Tryd.params8] at hA hval
  obtain ⟨v0, vs0, d0, ds0, p0, q0, hargs, rfl, rfl, h0, r0⟩ := trodAll_cons hA
  obtain ⟨v1, vs1, d1, ds1, p1, q1, rfl, rfl, rfl, h1, r1⟩ := trodAll_cons r0
  obtain ⟨rfl, rfl, rfl⟩ := trodAll_nil r1
  obtain rfl : args = #[v0, v1] := by cases args; simp_all
  obtain ⟨rfl, rfl⟩ := trodVars_none hV
  obtain ⟨cs0, rfl, sz0⟩ := okWide_struct Tryd.underlying38 (hval 0 38 v0 rfl rfl)
  have k0 := h0
  have lt0 : ∀ x ∈ p0, x.block < W.heap.size := by obtain ⟨m, hm⟩ := k0; exact DataW.trod_lt m _ _ _ hm
  obtain ⟨f0, hf0⟩ := h0
  have hx0 := Go.Fx.O_api_Block hf0
  obtain ⟨x0, rfl, rd0⟩ := hx0
  obtain ⟨cs1, rfl, sz1⟩ := Go.Fx.okWide_arr Tryd.underlying23 (hval 1 23 v1 rfl rfl)
  have k1 := h1
  have lt1 : ∀ x ∈ p1, x.block < W.heap.size := by obtain ⟨m, hm⟩ := k1; exact DataW.trod_lt m _ _ _ hm
  obtain ⟨f1, hf1⟩ := h1
  have hx1 := Go.Fx.O_api_ID hf1
  obtain ⟨x1, rfl, rd1⟩ := hx1
  clear hA0 hval0
  have hcal := Go.Fx.wNone (id := x1) hcub rd0
  refine Calls.mono hcal fun e W' ⟨v, he, hv, hf⟩ => ?_
  subst hv
  subst he
  have bel : Below W.heap.size W W' := hf.below (by simp)
  exact ⟨_, rfl, _, _, _, [], _, [], hW', trodAll_mk1 (shut_bool Tryd.underlying4 _), (trodAll_cons_mk (Below.trod laidOut (by kernel_rfl) (of_decide_eq_true (by kernel_rfl)) k0 bel lt0) (trodAll_cons_mk (Below.trod laidOut (by kernel_rfl) (of_decide_eq_true (by kernel_rfl)) k1 bel lt1) trodAll_mk0)), rfl, bel.frame _, fun h => by cases h⟩
theorem treeNone : Rows.TreeNoneSaid :=
  OpenClaim.holds_of_wide 8 Tryd.f8 rfl rfl rfl rfl rfl rfl rfl ⟨rfl, rfl, rfl, rfl, rfl⟩ rfl rfl rfl rfl rfl (by kernel_rfl) Tryd.func8 (by kernel_rfl)
    (of_decide_eq_true (by kernel_rfl)) (by unfold Func.isWrapper; first | (rw [if_pos (by decide +kernel)]; kernel_rfl) | (rw [if_neg (by decide +kernel)]; exact ⟨rfl, rfl⟩))
    (fun os started H enc _ => liftedTreeNone os started H enc)
theorem treeNoneCard : Rows.TreeNoneCardSaid :=
  Claim7.holds_tied_plain_at .later [] [.data] true (true, "1fa925fa77ed7ed6f92739c319b9121af18d39d21fad0a237d9fb8bc4696d06f") false
    treeNone (fun _ h => by cases h) (by kernel_rfl) (fun _ h => by cases h) treeNone_row_tie rfl ⟨rfl, rfl⟩ (by kernel_rfl) rfl
    (fun f fn hf hfn => by
      obtain rfl : f = 8 := Option.some.inj ((show Tryd.prog.funcNamed "flurry/flurrylaw11.TreeNone" = some 8 by kernel_rfl).symm.trans hf) |>.symm
      obtain rfl : fn = Tryd.f8 := (Option.some.inj (Tryd.func8.symm.trans hfn)).symm
      exact ⟨by kernel_rfl, fun j t ht => by
        rw [Tryd.params8] at ht
        have hm : t ∈ [38, 23] := by simpa using Array.mem_of_getElem? ht
        have hall : ([38, 23].all fun u => !Tryd.prog.wantsStandIn u) = true := by kernel_rfl
        exact (show Tryd.prog.wantsStandIn t = false by simpa using List.all_eq_true.1 hall t hm)⟩)
    (by kernel_rfl)
#print axioms treeNoneCard
end Go.Proofs.YtfpjpecenlbanaaDoor
