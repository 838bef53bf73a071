/-
  What is proved: for all arguments the law TreeParts returns true, and its arguments read as they did. Conditions: none.
-/
import Derived.KernelRfl
import Derived.Test.YtfpjpecenlbanaaDoorRows
import Derived.WalkKit
import Derived.ProofKit
import Derived.OpenShut
import Derived.ChangeOld
import Derived.Below
import Derived.Carry
import Derived.Test.YtfpjpecenlbanaaDoorCards
import Derived.Test.YtfpjpecenlbanaaDoorTie
import Derived.LaidMore
import Derived.Stop.Joined
import Derived.Test.YtfpjpecenlbanaaDoorQfc7f34f2
import Derived.Test.YtfpjpecenlbanaaDoorQ29331318
import Derived.Test.YtfpjpecenlbanaaDoorQ51bd8519
import Derived.Test.YtfpjpecenlbanaaDoorQ38683303
import Derived.Test.YtfpjpecenlbanaaDoorQ7ac55a2a
set_option linter.unusedVariables false
set_option linter.unusedSimpArgs false
namespace Go.Fx
section
variable {w0 w w' : World} {As : List Asn} {g : Nat} {lv : Value} {t : Tr} {N : List TN}
theorem under_mem (hw : TrW t N) {a b : Vec 32} (ha : has t N a = true) : under t N a b = (decide (b ∈ pathOf t N a) || decide (b = t.root)) := by
  by_cases hb : has t N b = true
  · rw [under_path ha hb, Bool.or_comm]
  · have hb' : has t N b = false := by simpa using hb
    have h1 : b ∉ pathOf t N a := fun hm => by
      obtain ⟨j, hj⟩ := List.mem_iff_getElem?.1 hm
      exact hb (path_at hw a ha j b hj).1
    have h2 : b ≠ t.root := fun he => hb (mem_has (.inl he))
    unfold under
    rw [hb', decide_eq_false h1, decide_eq_false h2]
    simp
theorem mem_blk' {N : List TN} {k : Vec 32} {x : TN} (h : nodeOf k N = some x) : blkOf k N = some x.2.1 := by unfold blkOf; rw [h]; rfl
theorem WithinR_spec (hr : RfR w.heap g lv t N) (hw : TrW t N) (hn : N.length ≤ 1000000) (a b : Vec 32) (hh : hgt t N a ≤ 1000000) : cal P f_ref11_Tree_Within [.pointer (some ⟨g, 0, none⟩), kv a, kv b] w fun r w' => r = .bool (under t N a b) ∧ Fr [] w w' := by
  refine s_ref11_Tree_Within fun R hR => ?_
  unfold c_ref11_Tree_Within
  refine bxQ (Sep.start w) fun g3 w1 hs1 => ?_
  refine bxQ hs1 fun g4 w2 hs2 => ?_
  simp only [L_api_ID (Sep.p1 hs2).blk]
  refine cal_i (HasR_spec (hs2.rf hr) hn a) ?_
  rintro _ w3 ⟨rfl, hf3⟩
  have hs3 := hs2.old hf3
  simp only [nilc_some, fad_mk, pik_true, pik_false, cnd_true, cnd_false, gif_same, gif_tf, gif_ft, gif_undef, bi_add, bi_sub, bi_mul, bi_eql, bi_neq, bi_lss, bi_leq, bi_gtr, bi_geq, notB_bool, cvi_int, lenS_mk, lenT_mk, ext0, ext1, ext2, nilP_mk, nilS_mk, fldv_agg, jn0_k, jn1_k, jn2_k, jn1_and, jn1_or, ex_some, Option.isNone_some, Option.isNone_none, Bool.false_bne, Bool.bne_true, Bool.bne_false, Bool.true_bne, Bool.not_true, Bool.not_false, Bool.and_true, Bool.true_and, Bool.and_false, Bool.false_and, Bool.or_true, Bool.true_or, Bool.or_false, Bool.false_or, cond_true, cond_false, List.getElem?_toArray, List.getElem?_cons_zero, List.getElem?_cons_succ, Nat.zero_add, Nat.add_zero, Nat.reduceAdd, forall_const]
  rw [cnd_bool]
  refine ⟨fun h => ?_, fun h => ?_⟩
  · have ha : has t N a = false := by simpa using h
    exact hR _ _ ⟨by unfold under; rw [ha]; rfl, hs3.fr0⟩
  have ha : has t N a = true := by simpa using h
  rw [under_mem hw ha] at hR
  simp only [L_api_ID (Sep.p1 hs3).blk]
  refine cal_i (PathR_spec (hs3.rf hr) hw hn a hh) ?_
  intro pv w4 hs4
  replace hs4 := hs3.join hs4
  have hpl := path_len hw a ha
  refine ⟨fun y z => ∃ i : Nat, y = .int .i64 i ∧ i ≤ (pathOf t N a).length ∧ b ∉ (pathOf t N a).take i ∧ Sep w z [rows (rVec 32) pv (pathOf t N a), blk g4 (Rdr.cells (rVec 32) b).toArray T_api_ID, blk g3 (Rdr.cells (rVec 32) a).toArray T_api_ID], fun y _ => ((pathOf t N a).length - RowKit.intOf y).toNat, ⟨0, rfl, by omega, by simp, hs4⟩, ?_⟩
  rintro _ w5 ⟨i, rfl, hi, hnm, hs5⟩ -
  simp only [(Sep.rows hs5).len, nilc_some, fad_mk, pik_true, pik_false, cnd_true, cnd_false, gif_same, gif_tf, gif_ft, gif_undef, bi_add, bi_sub, bi_mul, bi_eql, bi_neq, bi_lss, bi_leq, bi_gtr, bi_geq, notB_bool, cvi_int, lenS_mk, lenT_mk, ext0, ext1, ext2, nilP_mk, nilS_mk, fldv_agg, jn0_k, jn1_k, jn2_k, jn1_and, jn1_or, ex_some, Option.isNone_some, Option.isNone_none, Bool.false_bne, Bool.bne_true, Bool.bne_false, Bool.true_bne, Bool.not_true, Bool.not_false, Bool.and_true, Bool.true_and, Bool.and_false, Bool.false_and, Bool.or_true, Bool.true_or, Bool.or_false, Bool.false_or, cond_true, cond_false, List.getElem?_toArray, List.getElem?_cons_zero, List.getElem?_cons_succ, Nat.zero_add, Nat.add_zero, Nat.reduceAdd, forall_const]
  rw [cnd_bool]
  refine ⟨fun h => ?_, fun h => ?_⟩
  · have hlt : i < (pathOf t N a).length := by simp at h; omega
    obtain ⟨x, hx⟩ : ∃ x, (pathOf t N a)[i]? = some x := ⟨_, List.getElem?_eq_getElem hlt⟩
    refine drw_s hs5 fun w6 hs6 _ => ?_
    change ixs 32 _ _ _
    refine Rows'.ldN (q := rVec 32) (by decide) (Sep.rows hs6) hx .i64 ?_
    simp only [L_api_ID (Sep.blk (Sep.p1 hs6)), eq_api_ID]
    rw [cnd_bool]
    refine ⟨fun h => ?_, fun h => ?_⟩
    · have h : x = b := of_decide_eq_true h
      exact hR _ _ ⟨by rw [decide_eq_true (h ▸ List.mem_of_getElem? hx)]; rfl, hs6.fr0⟩
    · have h : ¬ x = b := of_decide_eq_false h
      rw [wi64 (by omega) (by omega)]
      refine ⟨⟨i + 1, by simp, by omega, ?_, hs6⟩, by simp [RowKit.intOf]; omega⟩
      rw [List.take_add_one, hx, List.mem_append]
      rintro (hm | hm)
      · exact hnm hm
      · have hm : b = x := by simpa using hm
        exact h hm.symm
  · have hge : i = (pathOf t N a).length := by simp at h; omega
    rw [hge, List.take_of_length_le (Nat.le_refl _)] at hnm
    refine drw_s hs5 fun w6 hs6 _ => ?_
    obtain ⟨T, fr, hc⟩ := (hs6.rf hr).cell
    simp only [nilc_some, fad_mk, pik_true, pik_false, cnd_true, cnd_false, gif_same, gif_tf, gif_ft, gif_undef, bi_add, bi_sub, bi_mul, bi_eql, bi_neq, bi_lss, bi_leq, bi_gtr, bi_geq, notB_bool, cvi_int, lenS_mk, lenT_mk, ext0, ext1, ext2, nilP_mk, nilS_mk, fldv_agg, jn0_k, jn1_k, jn2_k, jn1_and, jn1_or, ex_some, Option.isNone_some, Option.isNone_none, Bool.false_bne, Bool.bne_true, Bool.bne_false, Bool.true_bne, Bool.not_true, Bool.not_false, Bool.and_true, Bool.true_and, Bool.and_false, Bool.false_and, Bool.or_true, Bool.true_or, Bool.or_false, Bool.false_or, cond_true, cond_false, List.getElem?_toArray, List.getElem?_cons_zero, List.getElem?_cons_succ, Nat.zero_add, Nat.add_zero, Nat.reduceAdd, forall_const, L_api_ID (Sep.blk (Sep.p1 hs6)), L_flurryref11_Tree hc, L_flurryref11_Tree__R hc, L_flurryref11_Tree__H hc, L_flurryref11_Tree__Most hc, L_flurryref11_Tree__L hc, eq_api_ID]
    exact hR _ _ ⟨by rw [decide_eq_false hnm, Bool.false_or], hs6.fr0⟩
theorem UnderR_spec (hr : RfR w.heap g lv t N) (hw : TrW t N) (hn : N.length ≤ 1000000) (k : Vec 32) (hh : ∀ a, has t N a = true → hgt t N a ≤ 1000000) : cal P f_ref11_Tree_Under [.pointer (some ⟨g, 0, none⟩), kv k] w fun r w' => Sep w w' [rows (rVec 32) r ((nms N).filter fun x => under t N x k)] := by
  refine s_ref11_Tree_Under fun R hR => ?_
  unfold c_ref11_Tree_Under
  refine bxQ (Sep.start w) fun g3 w1 hs1 => ?_
  refine ⟨fun x y z => ∃ i : Nat, y = .int .i64 i ∧ i ≤ N.length ∧ Sep w z [rows (rVec 32) x (((nms N).take i).filter fun x => under t N x k), blk g3 (Rdr.cells (rVec 32) k).toArray T_api_ID], fun _ y _ => (N.length - RowKit.intOf y).toNat, ⟨0, rfl, by omega, hs1.nilR⟩, ?_⟩
  rintro x _ w2 ⟨i, rfl, hi, hs2⟩ -
  have hr2 := hs2.rf hr
  obtain ⟨T, fr, hc⟩ := hr2.cell
  simp only [nilc_some, fad_mk, pik_true, pik_false, cnd_true, cnd_false, gif_same, gif_tf, gif_ft, gif_undef, bi_add, bi_sub, bi_mul, bi_eql, bi_neq, bi_lss, bi_leq, bi_gtr, bi_geq, notB_bool, cvi_int, lenS_mk, lenT_mk, ext0, ext1, ext2, nilP_mk, nilS_mk, fldv_agg, jn0_k, jn1_k, jn2_k, jn1_and, jn1_or, ex_some, Option.isNone_some, Option.isNone_none, Bool.false_bne, Bool.bne_true, Bool.bne_false, Bool.true_bne, Bool.not_true, Bool.not_false, Bool.and_true, Bool.true_and, Bool.and_false, Bool.false_and, Bool.or_true, Bool.true_or, Bool.or_false, Bool.false_or, cond_true, cond_false, List.getElem?_toArray, List.getElem?_cons_zero, List.getElem?_cons_succ, Nat.zero_add, Nat.add_zero, Nat.reduceAdd, forall_const, L_flurryref11_Tree hc, L_flurryref11_Tree__R hc, L_flurryref11_Tree__H hc, L_flurryref11_Tree__Most hc, L_flurryref11_Tree__L hc, hr2.len]
  rw [cnd_bool]
  refine ⟨fun h => ?_, fun h => ?_⟩
  · have hlt : i < N.length := by simp at h; omega
    obtain ⟨x1, hx⟩ : ∃ x, N[i]? = some x := ⟨_, List.getElem?_eq_getElem hlt⟩
    have hxn : (nms N)[i]? = some x1.1 := by rw [List.getElem?_map, hx]; rfl
    have hxh : has t N x1.1 = true := mem_has (.inr (List.mem_of_getElem? hxn))
    have e : ((nms N).take (i + 1)).filter (fun x => under t N x k) = ((nms N).take i).filter (fun x => under t N x k) ++ (if under t N x1.1 k = true then [x1.1] else []) := by
      rw [List.take_add_one, hxn, List.filter_append, filter_opt]
    refine ⟨fun y z => Sep w z [rows (rVec 32) y (((nms N).take (i + 1)).filter fun x => under t N x k), blk g3 (Rdr.cells (rVec 32) k).toArray T_api_ID], ?_, ?_⟩
    · refine drH_S hs2 fun w4 hs4 _ => ?_
      refine rdS_ld (v := lv) (fun u hu K hk => by obtain ⟨T, fr, hc⟩ := (hu.rf hr).cell; exact (L_flurryref11_Tree__L hc K).mpr hk) ?_
      obtain ⟨g2, o, ha, hix⟩ := (hs4.rf hr).ix hx
      rw [hix, fad_mk]
      refine ⟨kv x1.1, fun u hu => ?_, ?_⟩
      · obtain ⟨g2', o', ha', hix'⟩ := (hu.rf hr).ix hx
        have h1 := hix .i64 (fun p => p = .pointer (some ⟨g2, o, none⟩))
        have h2 := hix' .i64 (fun p => p = .pointer (some ⟨g2, o, none⟩))
        have h3 : (Value.pointer (some ⟨g2', o', none⟩) = Value.pointer (some ⟨g2, o, none⟩)) := by rw [← h2, h1]
        simp only [Value.pointer.injEq, Option.some.injEq, Addr.mk.injEq, and_true] at h3
        obtain ⟨rfl, rfl⟩ := h3
        exact (LA_flurryref11_Node__ID ha' _).mpr rfl
      refine ⟨kv k, fun u hu => (L_api_ID (Sep.blk (Sep.p1 hu)) _).mpr rfl, ?_⟩
      refine efC_cut (cal_i (WithinR_spec (hs4.rf hr) hw hn x1.1 k (hh _ hxh)) ?_)
      rintro _ w5 ⟨rfl, hf5⟩
      have hs5 := hs4.old hf5
      refine ⟨fun u => Sep w u _, hs5, ?_⟩
      rw [cnd_bool]
      refine ⟨fun h => ?_, fun h => ?_⟩
      · have hr5 := hs5.rf hr
        obtain ⟨T, fr, hc⟩ := hr5.cell
        obtain ⟨g2, o, ha, hix⟩ := hr5.ix hx
        simp only [nilc_some, fad_mk, pik_true, pik_false, cnd_true, cnd_false, gif_same, gif_tf, gif_ft, gif_undef, bi_add, bi_sub, bi_mul, bi_eql, bi_neq, bi_lss, bi_leq, bi_gtr, bi_geq, notB_bool, cvi_int, lenS_mk, lenT_mk, ext0, ext1, ext2, nilP_mk, nilS_mk, fldv_agg, jn0_k, jn1_k, jn2_k, jn1_and, jn1_or, ex_some, Option.isNone_some, Option.isNone_none, Bool.false_bne, Bool.bne_true, Bool.bne_false, Bool.true_bne, Bool.not_true, Bool.not_false, Bool.and_true, Bool.true_and, Bool.and_false, Bool.false_and, Bool.or_true, Bool.true_or, Bool.or_false, Bool.false_or, cond_true, cond_false, List.getElem?_toArray, List.getElem?_cons_zero, List.getElem?_cons_succ, Nat.zero_add, Nat.add_zero, Nat.reduceAdd, forall_const, L_flurryref11_Tree hc, L_flurryref11_Tree__R hc, L_flurryref11_Tree__H hc, L_flurryref11_Tree__Most hc, L_flurryref11_Tree__L hc, hix]
        rw [LA_flurryref11_Node__ID ha]
        have htl : (((nms N).take i).filter fun x => under t N x k).length ≤ 1000000 := Nat.le_trans (List.length_filter_le _ _) (Nat.le_trans (List.length_take_le _ _) (by omega))
        refine bldI hs5 fun a z hz => ?_
        refine appI hz.p1 (Sep.rows hz) htl fun x' z' hz' => ?_
        rw [e, if_pos h]
        exact Sep.pick hz' [0, 2] 3
      · rw [e, h]
        simp only [Bool.false_eq_true, if_false, List.append_nil]
        exact hs5
    · rintro y z hz _
      rw [wi64 (by omega) (by omega)]
      exact ⟨⟨i + 1, by simp, by omega, hz⟩, by simp [RowKit.intOf]; omega⟩
  · have hge : i = N.length := by simp at h; omega
    rw [List.take_of_length_le (by simp; omega)] at hs2
    exact hR _ _ (Sep.dropR (As := [_]) hs2)
theorem CloneR_spec (hr : RfR w.heap g lv t N) (hn : N.length ≤ 1000000) : cal P f_ref11_Tree_Clone [.pointer (some ⟨g, 0, none⟩)] w fun r w' => ∃ g' lv', r = .pointer (some ⟨g', 0, none⟩) ∧ Sep w w' (rfH g' lv' t N) := by
  refine s_ref11_Tree_Clone fun R hR => ?_
  unfold c_ref11_Tree_Clone
  refine drH_S (Sep.start w) fun w1 hs1 _ => ?_
  have rd : ∀ {u : World}, Sep w u [] → ∃ T fr, u.heap[g]? = some (.cells (Rdr.cells Q_flurryref11_Tree (t.root, t.ht, t.most, lv)).toArray T fr) := fun hu => (hu.rf hr).cell
  simp only [nilc_some, fad_mk, pik_true, pik_false, cnd_true, cnd_false, gif_same, gif_tf, gif_ft, gif_undef, bi_add, bi_sub, bi_mul, bi_eql, bi_neq, bi_lss, bi_leq, bi_gtr, bi_geq, notB_bool, cvi_int, lenS_mk, lenT_mk, ext0, ext1, ext2, nilP_mk, nilS_mk, fldv_agg, jn0_k, jn1_k, jn2_k, jn1_and, jn1_or, ex_some, Option.isNone_some, Option.isNone_none, Bool.false_bne, Bool.bne_true, Bool.bne_false, Bool.true_bne, Bool.not_true, Bool.not_false, Bool.and_true, Bool.true_and, Bool.and_false, Bool.false_and, Bool.or_true, Bool.true_or, Bool.or_false, Bool.false_or, cond_true, cond_false, List.getElem?_toArray, List.getElem?_cons_zero, List.getElem?_cons_succ, Nat.zero_add, Nat.add_zero, Nat.reduceAdd, forall_const]
  refine ⟨kv t.root, fun u hu => by obtain ⟨T, fr, hc⟩ := rd hu; exact (L_flurryref11_Tree__R hc _).mpr rfl, ?_⟩
  refine rdS_ld (v := .int .i64 t.ht) (fun u hu K hk => by obtain ⟨T, fr, hc⟩ := rd hu; exact (L_flurryref11_Tree__H hc K).mpr hk) ?_
  refine rdS_ld (v := .int .i64 t.most) (fun u hu K hk => by obtain ⟨T, fr, hc⟩ := rd hu; exact (L_flurryref11_Tree__Most hc K).mpr hk) ?_
  refine ⟨.agg (Rdr.cells Q_flurryref11_Tree (t.root, t.ht, t.most, .slice none 0 0)).toArray, fun u hu => by rw [B_flurryref11_Tree_0_1_2], ?_⟩
  refine efC_bx (bxQ hs1 fun g' w2 hs2 => ?_)
  have hs3 := Sep.nilR (q := Q_flurryref11_Node) hs2
  refine drH_S hs3 fun w4 hs4 _ => ?_
  simp only [nilc_some, fad_mk, pik_true, pik_false, cnd_true, cnd_false, gif_same, gif_tf, gif_ft, gif_undef, bi_add, bi_sub, bi_mul, bi_eql, bi_neq, bi_lss, bi_leq, bi_gtr, bi_geq, notB_bool, cvi_int, lenS_mk, lenT_mk, ext0, ext1, ext2, nilP_mk, nilS_mk, fldv_agg, jn0_k, jn1_k, jn2_k, jn1_and, jn1_or, ex_some, Option.isNone_some, Option.isNone_none, Bool.false_bne, Bool.bne_true, Bool.bne_false, Bool.true_bne, Bool.not_true, Bool.not_false, Bool.and_true, Bool.true_and, Bool.and_false, Bool.false_and, Bool.or_true, Bool.true_or, Bool.or_false, Bool.false_or, cond_true, cond_false, List.getElem?_toArray, List.getElem?_cons_zero, List.getElem?_cons_succ, Nat.zero_add, Nat.add_zero, Nat.reduceAdd, forall_const]
  refine rdS_ld (v := .slice none 0 0) (fun u hu K hk => (L_flurryref11_Tree__L (Sep.blk (Sep.p1 hu)) K).mpr hk) ?_
  refine rdS_ld (v := lv) (fun u hu K hk => by obtain ⟨T, fr, hc⟩ := (hu.rf hr).cell; exact (L_flurryref11_Tree__L hc K).mpr hk) ?_
  refine efC_efP (rows_app (q := Q_flurryref11_Node) S_sl_flurryref11_Node U_sl_flurryref11_Node (by simp) hs4 (hr.rw.fr hs4.fr0) ?_ (by simp; omega) (by simp; omega) fun v5 w5 hs5 => ?_)
  · intro u hu
    obtain ⟨y, hy, hu⟩ := List.mem_flatMap.1 hu
    obtain ⟨x, hx, rfl⟩ := List.mem_map.1 hy
    exact onePair oneVec (onePair oneVec (onePair oneI (oneV (hr.dat x hx).one))) u hu
  refine efC_st1 (St_flurryref11_Tree__L hs5.p1 (Sep.oneR hs5) fun w6 hs6 => ?_)
  exact hR _ _ ⟨g', v5, rfl, by simpa [rfH] using hs6⟩
theorem MoveR_spec (hs : Sep w0 w (rfH g lv t N ++ As)) (hd : Dat N As) (hw : TrW t N) (hu : (N.map (·.1)).Nodup) (hn : N.length ≤ 1000000) (hh : ∀ a, has t N a = true → hgt t N a ≤ 1000000) (k : Vec 32) :
    cal P f_ref11_Tree_Move [.pointer (some ⟨g, 0, none⟩), kv k] w fun r w' =>
      (mvOk t N k = false ∧ r = .tuple #[.slice none 0 0, .int .i64 4] ∧ Sep w0 w' (rfH g lv t N ++ As)) ∨
      (mvOk t N k = true ∧ ∃ gv lv', r = .tuple #[gv, .int .i64 0] ∧ Sep w0 w' (rfH g lv' (mvT t N k) (mvN t N k) ++ (rows (rVec 32) gv (mvGone t N k) :: As))) := by
  have hr := rfH_rd hs hd
  refine s_ref11_Tree_Move fun R hR => ?_
  unfold c_ref11_Tree_Move
  refine bxQ (Sep.start w) fun g3 w1 hs1 => ?_
  simp only [L_api_ID hs1.blk]
  refine cal_i (placeR_spec (hs1.rf hr) hn k) ?_
  rintro _ w2 ⟨rfl, hf2⟩
  have hs2 := hs1.old hf2
  refine drw_s hs2 fun w3 hs3 _ => ?_
  simp only [nilc_some, fad_mk, pik_true, pik_false, cnd_true, cnd_false, gif_same, gif_tf, gif_ft, gif_undef, bi_add, bi_sub, bi_mul, bi_eql, bi_neq, bi_lss, bi_leq, bi_gtr, bi_geq, notB_bool, cvi_int, lenS_mk, lenT_mk, ext0, ext1, ext2, nilP_mk, nilS_mk, fldv_agg, jn0_k, jn1_k, jn2_k, jn1_and, jn1_or, ex_some, Option.isNone_some, Option.isNone_none, Bool.false_bne, Bool.bne_true, Bool.bne_false, Bool.true_bne, Bool.not_true, Bool.not_false, Bool.and_true, Bool.true_and, Bool.and_false, Bool.false_and, Bool.or_true, Bool.true_or, Bool.or_false, Bool.false_or, cond_true, cond_false, List.getElem?_toArray, List.getElem?_cons_zero, List.getElem?_cons_succ, Nat.zero_add, Nat.add_zero, Nat.reduceAdd, forall_const]
  cases hno : nodeOf k N with
  | none =>
    rw [place_none hno]
    simp only [nilc_some, fad_mk, pik_true, pik_false, cnd_true, cnd_false, gif_same, gif_tf, gif_ft, gif_undef, bi_add, bi_sub, bi_mul, bi_eql, bi_neq, bi_lss, bi_leq, bi_gtr, bi_geq, notB_bool, cvi_int, lenS_mk, lenT_mk, ext0, ext1, ext2, nilP_mk, nilS_mk, fldv_agg, jn0_k, jn1_k, jn2_k, jn1_and, jn1_or, ex_some, Option.isNone_some, Option.isNone_none, Bool.false_bne, Bool.bne_true, Bool.bne_false, Bool.true_bne, Bool.not_true, Bool.not_false, Bool.and_true, Bool.true_and, Bool.and_false, Bool.false_and, Bool.or_true, Bool.true_or, Bool.or_false, Bool.false_or, cond_true, cond_false, List.getElem?_toArray, List.getElem?_cons_zero, List.getElem?_cons_succ, Nat.zero_add, Nat.add_zero, Nat.reduceAdd, forall_const, show decide ((-1 : Int) < 0) = true from rfl]
    refine hR _ _ (.inl ⟨?_, rfl, hs.old hs3.fr0⟩)
    unfold mvOk blkOf
    rw [hno]
    rfl
  | some x0 =>
  obtain ⟨i0, hi0, hx0, hx01⟩ := place_node hno
  rw [hi0]
  have e0 : decide ((i0 : Int) < 0) = false := by simp
  have hr3 := hs3.rf hr
  obtain ⟨T, fr, hc⟩ := hr3.cell
  obtain ⟨g2, o, ha, hix⟩ := hr3.ix hx0
  simp only [nilc_some, fad_mk, pik_true, pik_false, cnd_true, cnd_false, gif_same, gif_tf, gif_ft, gif_undef, bi_add, bi_sub, bi_mul, bi_eql, bi_neq, bi_lss, bi_leq, bi_gtr, bi_geq, notB_bool, cvi_int, lenS_mk, lenT_mk, ext0, ext1, ext2, nilP_mk, nilS_mk, fldv_agg, jn0_k, jn1_k, jn2_k, jn1_and, jn1_or, ex_some, Option.isNone_some, Option.isNone_none, Bool.false_bne, Bool.bne_true, Bool.bne_false, Bool.true_bne, Bool.not_true, Bool.not_false, Bool.and_true, Bool.true_and, Bool.and_false, Bool.false_and, Bool.or_true, Bool.true_or, Bool.or_false, Bool.false_or, cond_true, cond_false, List.getElem?_toArray, List.getElem?_cons_zero, List.getElem?_cons_succ, Nat.zero_add, Nat.add_zero, Nat.reduceAdd, forall_const, e0, L_flurryref11_Tree hc, L_flurryref11_Tree__R hc, L_flurryref11_Tree__H hc, L_flurryref11_Tree__Most hc, L_flurryref11_Tree__L hc, hix]
  refine jn1_dup ?_
  rw [LA_flurryref11_Node__B_Parent ha]
  simp only [ne_api_ID, nilc_some, fad_mk, pik_true, pik_false, cnd_true, cnd_false, gif_same, gif_tf, gif_ft, gif_undef, bi_add, bi_sub, bi_mul, bi_eql, bi_neq, bi_lss, bi_leq, bi_gtr, bi_geq, notB_bool, cvi_int, lenS_mk, lenT_mk, ext0, ext1, ext2, nilP_mk, nilS_mk, fldv_agg, jn0_k, jn1_k, jn2_k, jn1_and, jn1_or, ex_some, Option.isNone_some, Option.isNone_none, Bool.false_bne, Bool.bne_true, Bool.bne_false, Bool.true_bne, Bool.not_true, Bool.not_false, Bool.and_true, Bool.true_and, Bool.and_false, Bool.false_and, Bool.or_true, Bool.true_or, Bool.or_false, Bool.false_or, cond_true, cond_false, List.getElem?_toArray, List.getElem?_cons_zero, List.getElem?_cons_succ, Nat.zero_add, Nat.add_zero, Nat.reduceAdd, forall_const]
  have hnbk : (nb k N).1 = x0.2.1 := by unfold nb; rw [hno]; rfl
  have hmv : mvOk t N k = decide (x0.2.1.p = t.root) := by
    unfold mvOk blkOf
    rw [hno, hnbk]
    simp
  rw [cnd_bool]
  refine ⟨fun h => ?_, fun h => ?_⟩
  · have h : ¬ x0.2.1.p = t.root := of_decide_eq_false (by have h' : (!decide (x0.2.1.p = t.root)) = true := h; simpa using h')
    exact hR _ _ (.inl ⟨by rw [hmv, decide_eq_false h], rfl, hs.old hs3.fr0⟩)
  have h : x0.2.1.p = t.root := of_decide_eq_true (by have h' : (!decide (x0.2.1.p = t.root)) = false := h; simpa using h')
  have hok : mvOk t N k = true := by rw [hmv, decide_eq_true h]
  have hkm : k ∈ nms N := by rw [← hx01]; exact List.mem_map_of_mem (List.mem_of_getElem? hx0)
  have hkh : has t N k = true := mem_has (.inr hkm)
  have hkr : k ≠ t.root := blk_nroot hw (mem_blk' hno)
  have hkk : under t N k k = true := by
    rw [under_mem hw hkh, path_step hw hkh hkr]
    simp
  have goneE : ∀ (x : TN), x ∈ N → (x.1 = k → under t N x.1 k = true) := fun x hx he => by rw [he]; exact hkk
  -- the loop
  refine ⟨fun x y z u => ∃ i : Nat, z = .int .i64 i ∧ i ≤ N.length ∧ Sep w u [rows (rVec 32) x (nms ((N.take i).filter fun x => !under t N x.1 k)), rows Q_flurryref11_Node y (((N.take i).filter fun x => !decide (x.1 = k) && under t N x.1 k).map TN.nd), blk g3 (Rdr.cells (rVec 32) k).toArray T_api_ID],
    fun _ _ z _ => (N.length - RowKit.intOf z).toNat, ⟨0, rfl, by omega, Sep.nilR (Sep.nilR hs3)⟩, ?_⟩
  rintro x y _ w4 ⟨i, rfl, hi, hs4⟩ -
  have hr4 := hs4.rf hr
  obtain ⟨T, fr, hc⟩ := hr4.cell
  simp only [nilc_some, fad_mk, pik_true, pik_false, cnd_true, cnd_false, gif_same, gif_tf, gif_ft, gif_undef, bi_add, bi_sub, bi_mul, bi_eql, bi_neq, bi_lss, bi_leq, bi_gtr, bi_geq, notB_bool, cvi_int, lenS_mk, lenT_mk, ext0, ext1, ext2, nilP_mk, nilS_mk, fldv_agg, jn0_k, jn1_k, jn2_k, jn1_and, jn1_or, ex_some, Option.isNone_some, Option.isNone_none, Bool.false_bne, Bool.bne_true, Bool.bne_false, Bool.true_bne, Bool.not_true, Bool.not_false, Bool.and_true, Bool.true_and, Bool.and_false, Bool.false_and, Bool.or_true, Bool.true_or, Bool.or_false, Bool.false_or, cond_true, cond_false, List.getElem?_toArray, List.getElem?_cons_zero, List.getElem?_cons_succ, Nat.zero_add, Nat.add_zero, Nat.reduceAdd, forall_const, L_flurryref11_Tree hc, L_flurryref11_Tree__R hc, L_flurryref11_Tree__H hc, L_flurryref11_Tree__Most hc, L_flurryref11_Tree__L hc, hr4.len]
  rw [cnd_bool]
  refine ⟨fun h => ?_, fun h => ?_⟩
  · have hlt : i < N.length := by simp at h; omega
    obtain ⟨x1, hx⟩ : ∃ x, N[i]? = some x := ⟨_, List.getElem?_eq_getElem hlt⟩
    have hxm := List.mem_of_getElem? hx
    have hxh : has t N x1.1 = true := mem_has (.inr (List.mem_map_of_mem hxm))
    have htk : N.take (i + 1) = N.take i ++ [x1] := by rw [List.take_add_one, hx]; rfl
    have hii : (i = i0) ↔ x1.1 = k := by
      constructor
      · intro he
        rw [he, hx0] at hx
        simp only [Option.some.injEq] at hx
        rw [← hx, hx01]
      · intro he
        have h1 : (nms N)[i]? = some k := by rw [List.getElem?_map, hx]; simp [he]
        have h2 : (nms N)[i0]? = some k := by rw [List.getElem?_map, hx0]; simp [hx01]
        have hi0l := (List.getElem?_eq_some_iff.1 hx0).1
        exact (List.getElem?_inj (by simpa using hlt) hu).1 (h1.trans h2.symm)
    have htl1 : (nms ((N.take i).filter fun x => !under t N x.1 k)).length ≤ 1000000 := by
      rw [List.length_map]
      exact Nat.le_trans (List.length_filter_le _ _) (Nat.le_trans (List.length_take_le _ _) (by omega))
    have htl2 : (((N.take i).filter fun x => !decide (x.1 = k) && under t N x.1 k).map TN.nd).length ≤ 1000000 := by
      rw [List.length_map]
      exact Nat.le_trans (List.length_filter_le _ _) (Nat.le_trans (List.length_take_le _ _) (by omega))
    refine ⟨fun x y u => Sep w u [rows (rVec 32) x (nms ((N.take (i + 1)).filter fun x => !under t N x.1 k)), rows Q_flurryref11_Node y (((N.take (i + 1)).filter fun x => !decide (x.1 = k) && under t N x.1 k).map TN.nd), blk g3 (Rdr.cells (rVec 32) k).toArray T_api_ID], ?_, ?_⟩
    case refine_2 =>
      rintro x' y' z hz _
      rw [wi64 (by omega) (by omega)]
      exact ⟨⟨i + 1, by simp, by omega, hz⟩, by simp [RowKit.intOf]; omega⟩
    simp only [htk, List.filter_append]
    rw [cnd_bool]
    refine ⟨fun he => ?_, fun he => ?_⟩
    · have he : x1.1 = k := hii.1 (by have := eq_of_beq he; omega)
      have f1 : [x1].filter (fun x => !under t N x.1 k) = [] := by
        rw [List.filter_cons_of_neg (by rw [he, hkk]; simp)]; rfl
      have f2 : [x1].filter (fun x => !decide (x.1 = k) && under t N x.1 k) = [] := by
        rw [List.filter_cons_of_neg (by simp [he])]; rfl
      rw [f1, f2, List.append_nil, List.append_nil]
      exact hs4
    have he : ¬ x1.1 = k := fun hc => by
      have := hii.2 hc
      rw [this] at he
      simp at he
    refine drH_S hs4 fun w5 hs5 _ => ?_
    refine rdS_ld (v := lv) (fun u hu K hk => by obtain ⟨T, fr, hc⟩ := (hu.rf hr).cell; exact (L_flurryref11_Tree__L hc K).mpr hk) ?_
    obtain ⟨g2, o, ha, hix⟩ := (hs5.rf hr).ix hx
    rw [hix, fad_mk]
    refine ⟨kv x1.1, fun u hu => ?_, ?_⟩
    · obtain ⟨g2', o', ha', hix'⟩ := (hu.rf hr).ix hx
      have h1 := hix .i64 (fun p => p = .pointer (some ⟨g2, o, none⟩))
      have h2 := hix' .i64 (fun p => p = .pointer (some ⟨g2, o, none⟩))
      have h3 : (Value.pointer (some ⟨g2', o', none⟩) = Value.pointer (some ⟨g2, o, none⟩)) := by rw [← h2, h1]
      simp only [Value.pointer.injEq, Option.some.injEq, Addr.mk.injEq, and_true] at h3
      obtain ⟨rfl, rfl⟩ := h3
      exact (LA_flurryref11_Node__ID ha' _).mpr rfl
    refine ⟨kv k, fun u hu => (L_api_ID (Sep.blk (Sep.p2 hu)) _).mpr rfl, ?_⟩
    refine efC_cut (cal_i (WithinR_spec (hs5.rf hr) hw hn x1.1 k (hh _ hxh)) ?_)
    rintro _ w6 ⟨rfl, hf6⟩
    have hs6 := hs5.old hf6
    refine ⟨fun u => Sep w u _, hs6, ?_⟩
    have hr6 := hs6.rf hr
    obtain ⟨T, fr, hc⟩ := hr6.cell
    obtain ⟨g2, o, ha, hix⟩ := hr6.ix hx
    rw [cnd_bool]
    refine ⟨fun hun => ?_, fun hun => ?_⟩
    · simp only [nilc_some, fad_mk, pik_true, pik_false, cnd_true, cnd_false, gif_same, gif_tf, gif_ft, gif_undef, bi_add, bi_sub, bi_mul, bi_eql, bi_neq, bi_lss, bi_leq, bi_gtr, bi_geq, notB_bool, cvi_int, lenS_mk, lenT_mk, ext0, ext1, ext2, nilP_mk, nilS_mk, fldv_agg, jn0_k, jn1_k, jn2_k, jn1_and, jn1_or, ex_some, Option.isNone_some, Option.isNone_none, Bool.false_bne, Bool.bne_true, Bool.bne_false, Bool.true_bne, Bool.not_true, Bool.not_false, Bool.and_true, Bool.true_and, Bool.and_false, Bool.false_and, Bool.or_true, Bool.true_or, Bool.or_false, Bool.false_or, cond_true, cond_false, List.getElem?_toArray, List.getElem?_cons_zero, List.getElem?_cons_succ, Nat.zero_add, Nat.add_zero, Nat.reduceAdd, forall_const, L_flurryref11_Tree hc, L_flurryref11_Tree__R hc, L_flurryref11_Tree__H hc, L_flurryref11_Tree__Most hc, L_flurryref11_Tree__L hc, hix]
      rw [LA_flurryref11_Node ha]
      have hxd := (hr.dat x1 hxm).one
      refine rows_lit (q := Q_flurryref11_Node) hs6 S_sl_flurryref11_Node (l := [x1.nd]) (V := fun a => .agg (Rdr.cells Q_flurryref11_Node a).toArray) (fun a => rfl) rfl rfl (by decide) (by decide) fun g7 w13 hs13 => ?_
      refine rows_app (q := Q_flurryref11_Node) S_sl_flurryref11_Node U_sl_flurryref11_Node (by simp) hs13.p2 (Sep.rows hs13) ?_ (by simp at htl2 ⊢; omega) (by simp at htl2 ⊢; omega) fun v14 w14 hs14 => ?_
      · simp only [List.flatMap_cons, List.flatMap_nil, List.append_nil]
        exact onePair oneVec (onePair oneVec (onePair oneI (oneV hxd)))
      have f1 : [x1].filter (fun x => !under t N x.1 k) = [] := by
        rw [List.filter_cons_of_neg (by rw [hun]; simp)]; rfl
      have f2 : [x1].filter (fun x => !decide (x.1 = k) && under t N x.1 k) = [x1] := by
        rw [List.filter_cons_of_pos (by simp [he, hun])]; rfl
      rw [f1, f2, List.append_nil, List.map_append]
      exact Sep.pick hs14 [2, 0, 3] 4
    · simp only [nilc_some, fad_mk, pik_true, pik_false, cnd_true, cnd_false, gif_same, gif_tf, gif_ft, gif_undef, bi_add, bi_sub, bi_mul, bi_eql, bi_neq, bi_lss, bi_leq, bi_gtr, bi_geq, notB_bool, cvi_int, lenS_mk, lenT_mk, ext0, ext1, ext2, nilP_mk, nilS_mk, fldv_agg, jn0_k, jn1_k, jn2_k, jn1_and, jn1_or, ex_some, Option.isNone_some, Option.isNone_none, Bool.false_bne, Bool.bne_true, Bool.bne_false, Bool.true_bne, Bool.not_true, Bool.not_false, Bool.and_true, Bool.true_and, Bool.and_false, Bool.false_and, Bool.or_true, Bool.true_or, Bool.or_false, Bool.false_or, cond_true, cond_false, List.getElem?_toArray, List.getElem?_cons_zero, List.getElem?_cons_succ, Nat.zero_add, Nat.add_zero, Nat.reduceAdd, forall_const, L_flurryref11_Tree hc, L_flurryref11_Tree__R hc, L_flurryref11_Tree__H hc, L_flurryref11_Tree__Most hc, L_flurryref11_Tree__L hc, hix]
      rw [LA_flurryref11_Node__ID ha]
      refine bldI hs6 fun a z hz => ?_
      refine appI hz.p1 (Sep.rows hz) htl1 fun x' z' hz' => ?_
      have f1 : [x1].filter (fun x => !under t N x.1 k) = [x1] := by
        rw [List.filter_cons_of_pos (by rw [hun]; rfl)]; rfl
      have f2 : [x1].filter (fun x => !decide (x.1 = k) && under t N x.1 k) = [] := by
        rw [List.filter_cons_of_neg (by simp [hun])]; rfl
      rw [f1, f2, List.append_nil, show nms ((N.take i).filter (fun x => !under t N x.1 k) ++ [x1]) = nms ((N.take i).filter fun x => !under t N x.1 k) ++ [x1.1] from List.map_append]
      exact Sep.pick hz' [0, 2, 3] 4
  · have hge : i = N.length := by simp at h; omega
    rw [hge, List.take_of_length_le (Nat.le_refl _)] at hs4
    have hsA := hs.join hs4
    have hs5 := Sep.pick hsA [3, 4, 0, 1, 2] 5
    refine drH_S hs5 fun w6 hs6 _ => ?_
    refine ⟨kv k, fun u hu => (L_api_ID (Sep.blk (Sep.p4 hu)) _).mpr rfl, ?_⟩
    refine rdS_ld (v := lv) (fun u hu K hk => (L_flurryref11_Tree__L (Sep.blk hu) K).mpr hk) ?_
    have hixr : ∀ {u : World}, Sep w0 u (blk g (Rdr.cells Q_flurryref11_Tree (t.root, t.ht, t.most, lv)).toArray T_flurryref11_Tree :: rows Q_flurryref11_Node lv (N.map TN.nd) :: rows (rVec 32) x (nms (N.filter fun x => !under t N x.1 k)) :: rows Q_flurryref11_Node y ((N.filter fun x => !decide (x.1 = k) && under t N x.1 k).map TN.nd) :: blk g3 (Rdr.cells (rVec 32) k).toArray T_api_ID :: As) → ∃ g2 o, At u.heap g2 o (Rdr.cells Q_flurryref11_Node x0.nd) ∧ ∀ (k : IntKind) (K : Value → Prop), ixs 66 lv (.int k (i0 : Int)) K = K (.pointer (some ⟨g2, o, none⟩)) := fun hz =>
      Rows'.ix (q := Q_flurryref11_Node) (by decide) (Sep.rows (Sep.tail hz)) (by rw [List.getElem?_map, hx0]; rfl)
    obtain ⟨g2, o, ha, hix⟩ := hixr hs6
    rw [hix]
    simp only [nilc_some, fad_mk, pik_true, pik_false, cnd_true, cnd_false, gif_same, gif_tf, gif_ft, gif_undef, bi_add, bi_sub, bi_mul, bi_eql, bi_neq, bi_lss, bi_leq, bi_gtr, bi_geq, notB_bool, cvi_int, lenS_mk, lenT_mk, ext0, ext1, ext2, nilP_mk, nilS_mk, fldv_agg, jn0_k, jn1_k, jn2_k, jn1_and, jn1_or, ex_some, Option.isNone_some, Option.isNone_none, Bool.false_bne, Bool.bne_true, Bool.bne_false, Bool.true_bne, Bool.not_true, Bool.not_false, Bool.and_true, Bool.true_and, Bool.and_false, Bool.false_and, Bool.or_true, Bool.true_or, Bool.or_false, Bool.false_or, cond_true, cond_false, List.getElem?_toArray, List.getElem?_cons_zero, List.getElem?_cons_succ, Nat.zero_add, Nat.add_zero, Nat.reduceAdd, forall_const, Nat.add_assoc]
    refine rdS_ld (v := .int .i64 x0.2.1.h) (fun u hu K hk => ?_) ?_
    · obtain ⟨g2', o', ha', hix'⟩ := hixr hu
      have h1 := hix .i64 (fun p => p = .pointer (some ⟨g2, o, none⟩))
      have h2 := hix' .i64 (fun p => p = .pointer (some ⟨g2, o, none⟩))
      have h3 : (Value.pointer (some ⟨g2', o', none⟩) = Value.pointer (some ⟨g2, o, none⟩)) := by rw [← h2, h1]
      simp only [Value.pointer.injEq, Option.some.injEq, Addr.mk.injEq, and_true] at h3
      obtain ⟨rfl, rfl⟩ := h3
      exact (LA_flurryref11_Node__B_Height ha' _).mpr hk
    refine efC_stN (St_flurryref11_Tree__R hs6 oneVec fun w7 hs7 => ?_)
    refine efC_st1 (St_flurryref11_Tree__H hs7 fun w8 hs8 => ?_)
    refine efC_st1 (St_flurryref11_Tree__L hs8 (Sep.oneR (Sep.p3 hs8)) fun w9 hs9 => ?_)
    refine hR _ _ (.inr ⟨hok, x, y, rfl, ?_⟩)
    have e1 : nms (N.filter fun x => !under t N x.1 k) = mvGone t N k := by
      unfold mvGone nms
      rw [List.filter_map]
      rfl
    have e2 : (nb k N).1.h = x0.2.1.h := by rw [hnbk]
    have := Sep.pick hs9 [0, 3, 2] 5
    unfold rfH mvT
    rw [e2, ← e1]
    exact this
end
end Go.Fx
set_option linter.unusedVariables false
set_option linter.unusedSimpArgs false
namespace Go.Fx
theorem sha_one (l : List UInt8) (h : l.length ≤ 55) : shaL l = mixM firstL (padT l l.length) := by
  have hl : (padT l l.length).length = 64 := by
    unfold padT
    simp only [List.length_append, List.length_replicate, List.length_singleton, be_length]
    unfold zer
    omega
  unfold shaL
  rw [foldM_step (by omega), foldM_end (by simp; omega), List.take_of_length_le (by omega)]
def m9 : Vec 32 := ⟨9 :: List.replicate 31 0, by decide⟩
def lvA : Blk := ⟨m9, 6, [97]⟩
def idA : Vec 32 := ⟨[67, 39, 141, 81, 246, 83, 79, 6, 40, 223, 135, 236, 211, 115, 176, 19, 55, 210, 91, 149, 6, 245, 200, 180, 169, 100, 228, 135, 198, 24, 95, 43], by decide⟩
def lvB : Blk := ⟨idA, 7, [98]⟩
def lvC : Blk := ⟨idA, 7, [99]⟩
def idB : Vec 32 := ⟨[147, 119, 58, 83, 182, 167, 131, 124, 211, 15, 112, 102, 130, 220, 165, 59, 169, 25, 175, 45, 116, 77, 28, 179, 5, 86, 188, 71, 13, 37, 213, 167], by decide⟩
def idC : Vec 32 := ⟨[150, 100, 167, 111, 206, 192, 32, 21, 224, 157, 217, 164, 220, 246, 33, 96, 27, 245, 88, 202, 230, 34, 255, 189, 35, 20, 103, 102, 42, 175, 17, 156], by decide⟩
set_option maxRecDepth 1000000 in
theorem idA_eq : lvA.id = idA := by
  apply Subtype.ext
  show (shaL lvA.bytes).flatMap wOut = _
  rw [sha_one _ (by decide +kernel)]
  decide +kernel
set_option maxRecDepth 1000000 in
theorem idB_eq : lvB.id = idB := by
  apply Subtype.ext
  show (shaL lvB.bytes).flatMap wOut = _
  rw [sha_one _ (by decide +kernel)]
  decide +kernel
set_option maxRecDepth 1000000 in
theorem idC_eq : lvC.id = idC := by
  apply Subtype.ext
  show (shaL lvC.bytes).flatMap wOut = _
  rw [sha_one _ (by decide +kernel)]
  decide +kernel
/-- An Add's error, by the name. -/
def addV (t : Tr) (N : List TN) (b : Blk) (k : Vec 32) : Int :=
  if b.chk ≠ 0 then b.chk else if has t N k = true then 110 else if has t N b.p = false ∨ b.h < 1 ∨ b.h - 1 ≠ levH t N b.p then 31 else if t.most ≤ N.length then 6 else 0
theorem addE_V {t : Tr} {N : List TN} {b : Blk} {k : Vec 32} (h : b.id = k) : addE t N b = addV t N b k := by subst h; rfl
def lvT : Tr := ⟨m9, 5, 9⟩
theorem lv1 : addV lvT [] lvA idA = 0 := by kernel_rfl
theorem lv2 (v1 : Value) (c1 : Nat) : addV lvT [(idA, lvA, v1, c1)] lvB idB = 0 := by kernel_rfl
theorem lv3 (v1 v2 : Value) (c1 c2 : Nat) : addV lvT [(idA, lvA, v1, c1), (idB, lvB, v2, c2)] lvC idC = 0 := by kernel_rfl
abbrev lvN (v1 v2 v3 : Value) (c1 c2 c3 : Nat) : List TN := [(idA, lvA, v1, c1), (idB, lvB, v2, c2), (idC, lvC, v3, c3)]
theorem lvPath (v1 v2 v3 : Value) (c1 c2 c3 : Nat) : pathOf lvT (lvN v1 v2 v3 c1 c2 c3) idB = [idA, idB] := by kernel_rfl
theorem lvUnder (v1 v2 v3 : Value) (c1 c2 c3 : Nat) : (nms (lvN v1 v2 v3 c1 c2 c3)).filter (fun x => under lvT (lvN v1 v2 v3 c1 c2 c3) x idA) = [idA, idB, idC] := by kernel_rfl
theorem lvOk (v1 v2 v3 : Value) (c1 c2 c3 : Nat) : mvOk lvT (lvN v1 v2 v3 c1 c2 c3) idA = true := by kernel_rfl
theorem lvGone (v1 v2 v3 : Value) (c1 c2 c3 : Nat) : mvGone lvT (lvN v1 v2 v3 c1 c2 c3) idA = [] := by kernel_rfl
theorem lvMv (v1 v2 v3 : Value) (c1 c2 c3 : Nat) : mvN lvT (lvN v1 v2 v3 c1 c2 c3) idA = [(idB, lvB, v2, c2), (idC, lvC, v3, c3)] := by kernel_rfl
def lvX (k : Nat) (d : List UInt8) (v : Value) : GA := ⟨k, d, v, false, Blk.none, .slice none 0 0⟩
theorem lvX_ok {k : Nat} {d : List UInt8} {v : Value} (hk : k < 256) (hd : d.length ≤ 100) : (lvX k d v).k < 256 ∧ (lvX k d v).b.h ≤ maxI ∧ (lvX k d v).d.length ≤ 9223372036854775807 ∧ (lvX k d v).b.d.length ≤ 9223372036854775807 :=
  ⟨hk, (by decide : (0 : Int) ≤ maxI), Nat.le_trans hd (by decide), Nat.zero_le _⟩
theorem lv_grown {a b c : Value} {N : List TN} (h : GrownTo lvT [lvX 0 [97] a, lvX 1 [98] b, lvX 1 [99] c] N) : ∃ v1 v2 v3 c1 c2 c3, N = lvN v1 v2 v3 c1 c2 c3 := by
  obtain ⟨N2, h2, hs3⟩ := GrownTo.inv (l := [lvX 0 [97] a, lvX 1 [98] b]) h
  obtain ⟨N1, h1, hs2⟩ := GrownTo.inv (l := [lvX 0 [97] a]) h2
  obtain ⟨N0, h0, hs1⟩ := GrownTo.inv (l := []) h1
  have hN0 : N0 = [] := by
    generalize hm : ([] : List GA) = m at h0
    cases h0 with
    | nil => rfl
    | snoc => simp at hm
  subst hN0
  have b1 : bG (idsT lvT []) (htsT lvT []) (lvX 0 [97] a) = lvA := rfl
  unfold growStep at hs1
  rw [b1, addE_V idA_eq, lv1, idA_eq] at hs1
  obtain ⟨v1, c1, rfl⟩ := (hs1.resolve_right fun h => h.1 rfl).2
  have b2 : bG (idsT lvT ([] ++ [(idA, lvA, v1, c1)])) (htsT lvT ([] ++ [(idA, lvA, v1, c1)])) (lvX 1 [98] b) = lvB := rfl
  unfold growStep at hs2
  rw [b2, addE_V idB_eq, idB_eq] at hs2
  simp only [List.nil_append, lv2] at hs2
  obtain ⟨v2, c2, rfl⟩ := (hs2.resolve_right fun h => h.1 rfl).2
  have b3 : bG (idsT lvT ([(idA, lvA, v1, c1)] ++ [(idB, lvB, v2, c2)])) (htsT lvT ([(idA, lvA, v1, c1)] ++ [(idB, lvB, v2, c2)])) (lvX 1 [99] c) = lvC := rfl
  unfold growStep at hs3
  rw [b3, addE_V idC_eq, idC_eq] at hs3
  simp only [List.cons_append, List.nil_append, lv3] at hs3
  obtain ⟨v3, c3, rfl⟩ := (hs3.resolve_right fun h => h.1 rfl).2
  exact ⟨v1, v2, v3, c1, c2, c3, rfl⟩
section
variable {w0 w : World} {As : List Asn}
theorem B_ID9 {w : World} (K : Value → Prop) : rdP P (Instr.build T_api_ID #[(0, .int .u8 9)]) w K = K (kv m9) := rd_build (r := rVec 32) (a := m9) (by kernel_rfl) K
theorem Rows'.sub {α : Type} {q : Rdr α} {h : Heap} {a : Option Addr} {n c i j : Nat} {l : List α} (hr : Rows' q h (.slice a n c) l) (hi : i ≤ j) (hj : j ≤ l.length) (hc : l.length ≤ c) (c' : Nat) : Rows' q h (.slice (if c = i then a else a.map (·.add (i * q.size))) (j - i) c') ((l.drop i).take (j - i)) := by
  have h1 := Rows'.drop hr (k := i) (by omega) hc (c - i)
  exact Rows'.take h1 (k := j - i) (by simp; omega) c'
theorem live11_spec (hC : Cub w) : cal P f_law11_live [] w fun r w' => r = .bool true ∧ Fr [] w w' := by
  refine s_law11_live fun R hR => ?_
  unfold c_law11_live
  rw [B_ID9, B_flurrylaw11_Start_0_1_2]
  have hb : ∀ (x : UInt8) (w : World), (Instr.buildSlice T_sl_uint8 1 #[(0, bv x)]).run P w = .ok (.slice (some ⟨w.heap.size, 0, none⟩) 1 1) (w.alloc (.cells (bvs [x]).toArray T_uint8)) := fun x w => by kernel_rfl
  refine lit_s (l := [97]) (Sep.start w) U_sl_uint8 U_uint8 rfl (hb 97 w) fun g1 w1 hs1 => ?_
  rw [B_flurrylaw11_Grow_1 rfl]
  refine lit_s (l := [98]) hs1 U_sl_uint8 U_uint8 rfl (hb 98 w1) fun g2 w2 hs2 => ?_
  rw [B_flurrylaw11_Grow_0_1 rfl]
  refine lit_s (l := [99]) hs2 U_sl_uint8 U_uint8 rfl (hb 99 w2) fun g3 w3 hs3 => ?_
  rw [B_flurrylaw11_Grow_0_1 rfl]
  obtain ⟨x1, hx1⟩ : ∃ x1, x1 = lvX 0 [97] (.slice (some ⟨g1, 0, none⟩) 1 1) := ⟨_, rfl⟩
  obtain ⟨x2, hx2⟩ : ∃ x2, x2 = lvX 1 [98] (.slice (some ⟨g2, 0, none⟩) 1 1) := ⟨_, rfl⟩
  obtain ⟨x3, hx3⟩ : ∃ x3, x3 = lvX 1 [99] (.slice (some ⟨g3, 0, none⟩) 1 1) := ⟨_, rfl⟩
  refine rows_lit (q := Q_flurrylaw11_Grow) hs3 S_sl_flurrylaw11_Grow (l := [x1.t, x2.t, x3.t]) (V := fun a => .agg (Rdr.cells Q_flurrylaw11_Grow a).toArray) (fun a => rfl) (by rw [hx1, hx2, hx3]; rfl) rfl (by decide) (by decide) fun g4 w4 hs4 => ?_
  have hG : GRows w4.heap (.slice (some ⟨g4, 0, none⟩) 3 3) [x1, x2, x3] := by
    refine ⟨Sep.rows hs4, fun x hx => ?_⟩
    rcases List.mem_cons.1 hx with rfl | hx
    · rw [hx1]; exact ⟨Sep.rda hs4.p3, RdB.nil _ 0⟩
    rcases List.mem_cons.1 hx with rfl | hx
    · rw [hx2]; exact ⟨Sep.rda hs4.p2, RdB.nil _ 0⟩
    · obtain rfl : x = x3 := by simpa using hx
      rw [hx3]; exact ⟨Sep.rda hs4.p1, RdB.nil _ 0⟩
  have hok : GOk [x1, x2, x3] := fun x hx => by
    rcases List.mem_cons.1 hx with rfl | hx
    · rw [hx1]; exact lvX_ok (by decide) (by decide)
    rcases List.mem_cons.1 hx with rfl | hx
    · rw [hx2]; exact lvX_ok (by decide) (by decide)
    · obtain rfl : x = x3 := by simpa using hx
      rw [hx3]; exact lvX_ok (by decide) (by decide)
  refine cal_i (grown_spec (q := (m9, 5, 9)) (hC.fr hs4.fr0) hG hok (by simp)) ?_
  rintro _ w5 (⟨_, hno, _⟩ | ⟨_, g, gm, x, y, rfl, N, ov, c, Ds, hTI, hGr, _, hD, hs5⟩)
  · exact absurd (by decide) hno
  rw [hx1, hx2, hx3] at hGr
  obtain ⟨v1, v2, v3, c1, c2, c3, hN⟩ := lv_grown hGr
  change TI lvT N at hTI
  change Sep w4 w5 (trH g gm ov lvT N c ++ (rows (rVec 32) x (idsT lvT N) :: rows (rInt .i64) y (htsT lvT N) :: Ds)) at hs5
  have eN : idsT lvT N = [m9, idA, idB, idC] := by rw [hN]; rfl
  rw [eN] at hs5
  obtain ⟨a, cp, hx, hac⟩ := Sep.formR (Sep.p3 hs5)
  simp only [List.length_cons, List.length_nil, Nat.zero_add, Nat.reduceAdd] at hx hac
  have hlen : lenS x = fun K => K (.int .i64 4) := by
    funext K
    have := (Sep.rows (Sep.p3 hs5)).len K
    simpa using this
  have hD' : Dat N (rows (rVec 32) x [m9, idA, idB, idC] :: rows (rInt .i64) y (htsT lvT N) :: Ds) := fun z hz => List.mem_cons_of_mem _ (List.mem_cons_of_mem _ (hD z hz))
  simp only [nilc_some, fad_mk, pik_true, pik_false, cnd_true, cnd_false, gif_same, gif_tf, gif_ft, gif_undef, bi_add, bi_sub, bi_mul, bi_eql, bi_neq, bi_lss, bi_leq, bi_gtr, bi_geq, notB_bool, cvi_int, lenS_mk, lenT_mk, ext0, ext1, ext2, nilP_mk, nilS_mk, fldv_agg, jn0_k, jn1_k, jn2_k, jn1_and, jn1_or, ex_some, Option.isNone_some, Option.isNone_none, Bool.false_bne, Bool.bne_true, Bool.bne_false, Bool.true_bne, Bool.not_true, Bool.not_false, Bool.and_true, Bool.true_and, Bool.and_false, Bool.false_and, Bool.or_true, Bool.true_or, Bool.or_false, Bool.false_or, cond_true, cond_false, List.getElem?_toArray, List.getElem?_cons_zero, List.getElem?_cons_succ, Nat.zero_add, Nat.add_zero, Nat.reduceAdd, forall_const, Option.isNone_some]
  refine drH_S hs5 fun w6 hs6 _ => ?_
  simp only [nilc_some, fad_mk, pik_true, pik_false, cnd_true, cnd_false, gif_same, gif_tf, gif_ft, gif_undef, bi_add, bi_sub, bi_mul, bi_eql, bi_neq, bi_lss, bi_leq, bi_gtr, bi_geq, notB_bool, cvi_int, lenS_mk, lenT_mk, ext0, ext1, ext2, nilP_mk, nilS_mk, fldv_agg, jn0_k, jn1_k, jn2_k, jn1_and, jn1_or, ex_some, Option.isNone_some, Option.isNone_none, Bool.false_bne, Bool.bne_true, Bool.bne_false, Bool.true_bne, Bool.not_true, Bool.not_false, Bool.and_true, Bool.true_and, Bool.and_false, Bool.false_and, Bool.or_true, Bool.true_or, Bool.or_false, Bool.false_or, cond_true, cond_false, List.getElem?_toArray, List.getElem?_cons_zero, List.getElem?_cons_succ, Nat.zero_add, Nat.add_zero, Nat.reduceAdd, forall_const, hlen, show ((4 : Int) != 4) = false from rfl]
  refine jn1_dup ?_
  have hxr : ∀ {z : World}, Sep w4 z (trH g gm ov lvT N c ++ (rows (rVec 32) x [m9, idA, idB, idC] :: rows (rInt .i64) y (htsT lvT N) :: Ds)) → Rows' (rVec 32) z.heap x [m9, idA, idB, idC] := fun {z} hz => Sep.rows (Sep.p3 hz)
  change ixs 32 _ (.int .i64 ((2 : Nat) : Int)) _
  refine rdS_rowV (q := rVec 32) (by decide) hs6 (fun u hu => hxr hu) (j := 2) (a := idB) rfl .i64 ?_
  have e13 : ∀ K, slc 32 x (some (.int .i64 1)) (some (.int .i64 3)) K = K (.slice (if cp = 1 then a else a.map (·.add (1 * 32))) 2 (cp - 1)) := fun K => by
    rw [hx]; exact slc_mid (i := 1) (j := 3) (by omega) (by omega) K
  have e1 : ∀ K, slc 32 x (some (.int .i64 1)) none K = K (.slice (if cp = 1 then a else a.map (·.add (1 * 32))) 3 (cp - 1)) := fun K => by
    rw [hx]; exact slc_from (j := 1) (by omega) K
  rw [e13]
  have r13 : ∀ {z : World}, Sep w4 z (trH g gm ov lvT N c ++ (rows (rVec 32) x [m9, idA, idB, idC] :: rows (rInt .i64) y (htsT lvT N) :: Ds)) → Rows' (rVec 32) z.heap (.slice (if cp = 1 then a else a.map (·.add (1 * 32))) 2 (cp - 1)) [idA, idB] := fun {z} hz => by
    have h1 := hxr hz
    rw [hx] at h1
    exact Rows'.sub h1 (i := 1) (j := 3) (by omega) (by simp) (by simp; omega) (cp - 1)
  have r1 : ∀ {z : World}, Sep w4 z (trH g gm ov lvT N c ++ (rows (rVec 32) x [m9, idA, idB, idC] :: rows (rInt .i64) y (htsT lvT N) :: Ds)) → Rows' (rVec 32) z.heap (.slice (if cp = 1 then a else a.map (·.add (1 * 32))) 3 (cp - 1)) [idA, idB, idC] := fun {z} hz => by
    have h1 := hxr hz
    rw [hx] at h1
    exact Rows'.drop h1 (k := 1) (by simp) (by simp; omega) (cp - 1)
  have hhb : hgt lvT N idB ≤ 1000000 := by
    have h1 := hTI.hb idB (mem_has (.inr (by rw [hN]; simp [lvN])))
    have h2 : N.length = 3 := by rw [hN]; rfl
    omega
  refine efS_i (cal_i (Path_spec (trH_rd hs6 hD') hTI.w idB hhb) ?_)
  rintro pv w7 hs7
  have hpb : pathOf lvT N idB = [idA, idB] := by rw [hN]; exact lvPath _ _ _ _ _ _
  rw [hpb] at hs7
  have hs7' := hs6.join hs7
  refine ⟨Sep.tail hs7', ?_⟩
  refine efS_i (cal_i (idsEqual_spec (Sep.rows hs7') (r13 (Sep.tail hs7')) (by simp)) ?_)
  rintro _ w8 ⟨rfl, hf8⟩
  have hs8 := (Sep.tail hs7').old hf8
  refine ⟨hs8, ?_⟩
  simp only [nilc_some, fad_mk, pik_true, pik_false, cnd_true, cnd_false, gif_same, gif_tf, gif_ft, gif_undef, bi_add, bi_sub, bi_mul, bi_eql, bi_neq, bi_lss, bi_leq, bi_gtr, bi_geq, notB_bool, cvi_int, lenS_mk, lenT_mk, ext0, ext1, ext2, nilP_mk, nilS_mk, fldv_agg, jn0_k, jn1_k, jn2_k, jn1_and, jn1_or, ex_some, Option.isNone_some, Option.isNone_none, Bool.false_bne, Bool.bne_true, Bool.bne_false, Bool.true_bne, Bool.not_true, Bool.not_false, Bool.and_true, Bool.true_and, Bool.and_false, Bool.false_and, Bool.or_true, Bool.true_or, Bool.or_false, Bool.false_or, cond_true, cond_false, List.getElem?_toArray, List.getElem?_cons_zero, List.getElem?_cons_succ, Nat.zero_add, Nat.add_zero, Nat.reduceAdd, forall_const, decide_true]
  refine jn1_dup ?_
  change ixs 32 _ (.int .i64 ((1 : Nat) : Int)) _
  refine rdS_rowV (q := rVec 32) (by decide) hs8 (fun u hu => hxr hu) (j := 1) (a := idA) rfl .i64 ?_
  rw [e1]
  refine efS_i (cal_i (Under_spec (trH_rd hs8 hD') hTI.w (by rw [hN]; simp) idA) ?_)
  rintro uv w9 hs9
  have hub : (N.map (·.1)).filter (fun x => under lvT N x idA) = [idA, idB, idC] := by rw [hN]; exact lvUnder _ _ _ _ _ _
  rw [hub] at hs9
  have hs9' := hs8.join hs9
  refine ⟨Sep.tail hs9', ?_⟩
  refine efS_i (cal_i (idsEqual_spec (Sep.rows hs9') (r1 (Sep.tail hs9')) (by simp)) ?_)
  rintro _ w10 ⟨rfl, hf10⟩
  have hs10 := (Sep.tail hs9').old hf10
  refine ⟨hs10, ?_⟩
  simp only [nilc_some, fad_mk, pik_true, pik_false, cnd_true, cnd_false, gif_same, gif_tf, gif_ft, gif_undef, bi_add, bi_sub, bi_mul, bi_eql, bi_neq, bi_lss, bi_leq, bi_gtr, bi_geq, notB_bool, cvi_int, lenS_mk, lenT_mk, ext0, ext1, ext2, nilP_mk, nilS_mk, fldv_agg, jn0_k, jn1_k, jn2_k, jn1_and, jn1_or, ex_some, Option.isNone_some, Option.isNone_none, Bool.false_bne, Bool.bne_true, Bool.bne_false, Bool.true_bne, Bool.not_true, Bool.not_false, Bool.and_true, Bool.true_and, Bool.and_false, Bool.false_and, Bool.or_true, Bool.true_or, Bool.or_false, Bool.false_or, cond_true, cond_false, List.getElem?_toArray, List.getElem?_cons_zero, List.getElem?_cons_succ, Nat.zero_add, Nat.add_zero, Nat.reduceAdd, forall_const, decide_true]
  change ixs 32 _ (.int .i64 ((1 : Nat) : Int)) _
  refine Rows'.ldN (q := rVec 32) (by decide) (hxr hs10) (j := 1) (a := idA) rfl .i64 ?_
  refine cal_i (Move_spec hs10 hD' hTI.w hTI.nd (by rw [hN]; simp) idA) ?_
  have hok2 : mvOk lvT N idA = true := by rw [hN]; exact lvOk _ _ _ _ _ _
  rintro _ w11 (⟨hno, _, _⟩ | ⟨_, gv, ov', rfl, hs11⟩)
  · rw [hok2] at hno; cases hno
  have eg : mvGone lvT N idA = [] := by rw [hN]; exact lvGone _ _ _ _ _ _
  rw [eg] at hs11
  have hglen : lenS gv = fun K => K (.int .i64 0) := by
    funext K
    have := (Sep.rows (Sep.p3 hs11)).len K
    simpa using this
  simp only [nilc_some, fad_mk, pik_true, pik_false, cnd_true, cnd_false, gif_same, gif_tf, gif_ft, gif_undef, bi_add, bi_sub, bi_mul, bi_eql, bi_neq, bi_lss, bi_leq, bi_gtr, bi_geq, notB_bool, cvi_int, lenS_mk, lenT_mk, ext0, ext1, ext2, nilP_mk, nilS_mk, fldv_agg, jn0_k, jn1_k, jn2_k, jn1_and, jn1_or, ex_some, Option.isNone_some, Option.isNone_none, Bool.false_bne, Bool.bne_true, Bool.bne_false, Bool.true_bne, Bool.not_true, Bool.not_false, Bool.and_true, Bool.true_and, Bool.and_false, Bool.false_and, Bool.or_true, Bool.true_or, Bool.or_false, Bool.false_or, cond_true, cond_false, List.getElem?_toArray, List.getElem?_cons_zero, List.getElem?_cons_succ, Nat.zero_add, Nat.add_zero, Nat.reduceAdd, forall_const, hglen, show ((0 : Int) == 0) = true from rfl]
  refine jn1_dup ?_
  have eM : (mvN lvT N idA).length = 2 := by rw [hN, lvMv]; rfl
  have hDM : Dat (mvN lvT N idA) (rows (rVec 32) gv [] :: rows (rVec 32) x [m9, idA, idB, idC] :: rows (rInt .i64) y (htsT lvT N) :: Ds) := fun z hz => by
    have hz' := (List.mem_filter.1 hz).1
    exact List.mem_cons_of_mem _ (hD' z hz')
  refine cal_i (Len_spec (trH_rd hs11 hDM) (by rw [eM]; omega)) ?_
  rintro _ _ ⟨rfl, rfl⟩
  rw [eM]
  simp only [nilc_some, fad_mk, pik_true, pik_false, cnd_true, cnd_false, gif_same, gif_tf, gif_ft, gif_undef, bi_add, bi_sub, bi_mul, bi_eql, bi_neq, bi_lss, bi_leq, bi_gtr, bi_geq, notB_bool, cvi_int, lenS_mk, lenT_mk, ext0, ext1, ext2, nilP_mk, nilS_mk, fldv_agg, jn0_k, jn1_k, jn2_k, jn1_and, jn1_or, ex_some, Option.isNone_some, Option.isNone_none, Bool.false_bne, Bool.bne_true, Bool.bne_false, Bool.true_bne, Bool.not_true, Bool.not_false, Bool.and_true, Bool.true_and, Bool.and_false, Bool.false_and, Bool.or_true, Bool.true_or, Bool.or_false, Bool.false_or, cond_true, cond_false, List.getElem?_toArray, List.getElem?_cons_zero, List.getElem?_cons_succ, Nat.zero_add, Nat.add_zero, Nat.reduceAdd, forall_const, show (((2 : Nat) : Int) == 2) = true from rfl]
  exact hR _ _ ⟨rfl, hs4.fr0.trans hs11.fr0 (by simp) (by simp)⟩
end
end Go.Fx
set_option linter.unusedVariables false
set_option linter.unusedSimpArgs false
namespace Go.Fx
/-- What is kept beside the tree: each name's block as it was handed in. -/
def HadOk (h : Heap) (N : List TN) (H : List (Ent 32)) : Prop := H.map (·.1) = nms N ∧ ∀ k b, blkOf k N = some b → ∃ v, getE k H = some (bq b v) ∧ RdB h v b.d
theorem HadOk.add {h : Heap} {t : Tr} {N : List TN} {H : List (Ent 32)} {b : Blk} {v vd : Value} {c c' : Nat} (hk : HadOk h N H) (hn : has t N b.id = false) (hv : RdB h v b.d) : HadOk h (N ++ [(b.id, b, vd, c)]) (H ++ [(b.id, bq b v, c')]) := by
  have hnm : b.id ∉ nms N := fun hm => by rw [mem_has (.inr hm)] at hn; cases hn
  refine ⟨by simp [hk.1], fun k b' hb => ?_⟩
  rw [blkOf_snoc] at hb
  cases hk2 : blkOf k N with
  | some y =>
    rw [hk2] at hb
    simp only [Option.some_or, Option.some.injEq] at hb
    subst hb
    obtain ⟨v', h1, h2⟩ := hk.2 k y hk2
    exact ⟨v', by rw [getE_snoc, h1]; rfl, h2⟩
  | none =>
    rw [hk2] at hb
    by_cases he : k = b.id
    · subst he
      have : b = b' := by simpa using hb
      subst this
      exact ⟨v, by rw [getE_snoc, getE_nin (by rw [hk.1]; exact hnm)]; simp, hv⟩
    · simp [he] at hb
theorem HadOk.fr {w w' : World} {N : List TN} {H : List (Ent 32)} (h : HadOk w.heap N H) (hf : Fr [] w w') : HadOk w'.heap N H := ⟨h.1, fun k b hb => by
  obtain ⟨v, h1, h2⟩ := h.2 k b hb
  exact ⟨v, h1, h2.fr hf (off_nil _)⟩⟩
section
variable {w : World}
/-- Which names are there behind a move. -/
theorem mv_left {t : Tr} {N : List TN} {k id : Vec 32} (hid : id ∈ nms N) : (id = k ∨ id ∈ mvGone t N k → blkOf id (mvN t N k) = none) ∧ (¬ (id = k ∨ id ∈ mvGone t N k) → blkOf id (mvN t N k) = blkOf id N) := by
  have hg : id ∈ mvGone t N k ↔ under t N id k = false := by
    unfold mvGone
    rw [List.mem_filter]
    simp only [Bool.not_eq_true']
    exact ⟨fun h => h.2, fun h => ⟨hid, h⟩⟩
  rw [mv_blk, hg]
  refine ⟨fun h => if_neg ?_, fun h => if_pos ?_⟩
  · rintro ⟨h1, h2⟩
    rcases h with h | h
    · exact h1 h
    · rw [h] at h2; cases h2
  · refine ⟨fun he => h (.inl he), ?_⟩
    cases hu : under t N id k with
    | true => rfl
    | false => exact absurd (.inr hu) h
theorem mem_blk {N : List TN} {k : Vec 32} (h : k ∈ nms N) : blkOf k N = some (nb k N).1 := by
  rcases nb_blk (k := k) (N := N) with ⟨h1, _⟩ | h1
  · obtain ⟨z, hz, rfl⟩ := List.mem_map.1 h
    unfold blkOf nodeOf at h1
    rw [Option.map_eq_none_iff, List.find?_eq_none] at h1
    exact absurd (by simp) (h1 z hz)
  · exact h1
theorem wKeeps {q : Vec 32 × Int × Int} {s : Sl (Nat × Sl UInt8 × Bool × (Vec 32 × Int × Sl UInt8))} {kid : Nat} (hc : Cub w) (hs0 : (rSl R_flurrylaw11_Grow).ok w.heap s) (hkid : kid < 256) :
    cal P f_law11_TreeKeeps [.agg (Rdr.cells Q_flurrylaw11_Start q).toArray, s.v, .int .u8 kid] w fun r w' => r = .bool true ∧ Fr [] w w' := by
  obtain ⟨l, hr, hcap, hl63, hok⟩ := grows_arg hs0
  generalize s.v = v at *
  clear hs0
  refine s_law11_TreeKeeps fun R hR => ?_
  unfold c_law11_TreeKeeps
  refine bxQ (Sep.start w) fun g3 w0 hs0 => ?_
  have lv : ∀ {z : World}, Fr [] w z → cal P f_law11_live [] z R := fun {z} hf => cal_i (live11_spec (hc.fr hf)) fun r w' hr => hR _ _ ⟨hr.1, hf.trans hr.2 (by simp) (by simp)⟩
  refine cal_i (live11_spec (hc.fr hs0.fr0)) ?_
  rintro _ w1 ⟨rfl, hf1⟩
  have hs1 := hs0.old hf1
  simp only [nilc_some, fad_mk, pik_true, pik_false, cnd_true, cnd_false, gif_same, gif_tf, gif_ft, gif_undef, bi_add, bi_sub, bi_mul, bi_eql, bi_neq, bi_lss, bi_leq, bi_gtr, bi_geq, notB_bool, cvi_int, lenS_mk, lenT_mk, ext0, ext1, ext2, nilP_mk, nilS_mk, fldv_agg, jn0_k, jn1_k, jn2_k, jn1_and, jn1_or, ex_some, Option.isNone_some, Option.isNone_none, Bool.false_bne, Bool.bne_true, Bool.bne_false, Bool.true_bne, Bool.not_true, Bool.not_false, Bool.and_true, Bool.true_and, Bool.and_false, Bool.false_and, Bool.or_true, Bool.true_or, Bool.or_false, Bool.false_or, cond_true, cond_false, List.getElem?_toArray, List.getElem?_cons_zero, List.getElem?_cons_succ, Nat.zero_add, Nat.add_zero, Nat.reduceAdd, forall_const]
  refine jn1_dup ?_
  refine cal_i (few11_spec (hr.fr hs1.fr0) hcap hl63 hok) ?_
  rintro _ w2 ⟨hf2, b, rfl, hb⟩
  have hs2 := hs1.old hf2
  cases b with
  | false => simp only [nilc_some, fad_mk, pik_true, pik_false, cnd_true, cnd_false, gif_same, gif_tf, gif_ft, gif_undef, bi_add, bi_sub, bi_mul, bi_eql, bi_neq, bi_lss, bi_leq, bi_gtr, bi_geq, notB_bool, cvi_int, lenS_mk, lenT_mk, ext0, ext1, ext2, nilP_mk, nilS_mk, fldv_agg, jn0_k, jn1_k, jn2_k, jn1_and, jn1_or, ex_some, Option.isNone_some, Option.isNone_none, Bool.false_bne, Bool.bne_true, Bool.bne_false, Bool.true_bne, Bool.not_true, Bool.not_false, Bool.and_true, Bool.true_and, Bool.and_false, Bool.false_and, Bool.or_true, Bool.true_or, Bool.or_false, Bool.false_or, cond_true, cond_false, List.getElem?_toArray, List.getElem?_cons_zero, List.getElem?_cons_succ, Nat.zero_add, Nat.add_zero, Nat.reduceAdd, forall_const]; exact lv hs2.fr0
  | true =>
  have hl : l.length ≤ 40 := hb rfl
  simp only [nilc_some, fad_mk, pik_true, pik_false, cnd_true, cnd_false, gif_same, gif_tf, gif_ft, gif_undef, bi_add, bi_sub, bi_mul, bi_eql, bi_neq, bi_lss, bi_leq, bi_gtr, bi_geq, notB_bool, cvi_int, lenS_mk, lenT_mk, ext0, ext1, ext2, nilP_mk, nilS_mk, fldv_agg, jn0_k, jn1_k, jn2_k, jn1_and, jn1_or, ex_some, Option.isNone_some, Option.isNone_none, Bool.false_bne, Bool.bne_true, Bool.bne_false, Bool.true_bne, Bool.not_true, Bool.not_false, Bool.and_true, Bool.true_and, Bool.and_false, Bool.false_and, Bool.or_true, Bool.true_or, Bool.or_false, Bool.false_or, cond_true, cond_false, List.getElem?_toArray, List.getElem?_cons_zero, List.getElem?_cons_succ, Nat.zero_add, Nat.add_zero, Nat.reduceAdd, forall_const, L_flurrylaw11_Start hs2.blk, L_flurrylaw11_Start__Root hs2.blk, L_flurrylaw11_Start__Height hs2.blk, L_flurrylaw11_Start__Most hs2.blk]
  refine cal_i (tNew_spec q.1 q.2.1 q.2.2) ?_
  rintro _ w3 (⟨hno, rfl, hf3⟩ | ⟨hq, g, gm, rfl, hs3⟩)
  · simp only [nilc_some, fad_mk, pik_true, pik_false, cnd_true, cnd_false, gif_same, gif_tf, gif_ft, gif_undef, bi_add, bi_sub, bi_mul, bi_eql, bi_neq, bi_lss, bi_leq, bi_gtr, bi_geq, notB_bool, cvi_int, lenS_mk, lenT_mk, ext0, ext1, ext2, nilP_mk, nilS_mk, fldv_agg, jn0_k, jn1_k, jn2_k, jn1_and, jn1_or, ex_some, Option.isNone_some, Option.isNone_none, Bool.false_bne, Bool.bne_true, Bool.bne_false, Bool.true_bne, Bool.not_true, Bool.not_false, Bool.and_true, Bool.true_and, Bool.and_false, Bool.false_and, Bool.or_true, Bool.true_or, Bool.or_false, Bool.false_or, cond_true, cond_false, List.getElem?_toArray, List.getElem?_cons_zero, List.getElem?_cons_succ, Nat.zero_add, Nat.add_zero, Nat.reduceAdd, forall_const, show ((1 : Int) != 0) = true from rfl, Option.isNone_none]
    exact hR _ _ ⟨rfl, (hs2.old hf3).fr0⟩
  replace hs3 := hs2.join hs3
  obtain ⟨t, ht⟩ : ∃ t : Tr, t = ⟨q.1, q.2.1, q.2.2⟩ := ⟨_, rfl⟩
  rw [← ht] at hs3
  have e1 : q.1 = t.root := by rw [ht]
  have e2 : q.2.1 = t.ht := by rw [ht]
  have ht0 : 0 ≤ t.ht := by rw [← e2]; exact hq.1
  clear ht
  simp only [nilc_some, fad_mk, pik_true, pik_false, cnd_true, cnd_false, gif_same, gif_tf, gif_ft, gif_undef, bi_add, bi_sub, bi_mul, bi_eql, bi_neq, bi_lss, bi_leq, bi_gtr, bi_geq, notB_bool, cvi_int, lenS_mk, lenT_mk, ext0, ext1, ext2, nilP_mk, nilS_mk, fldv_agg, jn0_k, jn1_k, jn2_k, jn1_and, jn1_or, ex_some, Option.isNone_some, Option.isNone_none, Bool.false_bne, Bool.bne_true, Bool.bne_false, Bool.true_bne, Bool.not_true, Bool.not_false, Bool.and_true, Bool.true_and, Bool.and_false, Bool.false_and, Bool.or_true, Bool.true_or, Bool.or_false, Bool.false_or, cond_true, cond_false, List.getElem?_toArray, List.getElem?_cons_zero, List.getElem?_cons_succ, Nat.zero_add, Nat.add_zero, Nat.reduceAdd, forall_const, show ((0 : Int) != 0) = false from rfl, Option.isNone_some]
  obtain ⟨B3, hB3⟩ : ∃ B3, B3 = blk g3 (Rdr.cells Q_flurrylaw11_Start q).toArray T_flurrylaw11_Start := ⟨_, rfl⟩
  have hB3' : ∀ {z : World} {As : List Asn}, Sep w z (B3 :: As) → z.heap[g3]? = some (.cells (Rdr.cells Q_flurrylaw11_Start q).toArray T_flurrylaw11_Start (0, 0)) := fun h => by rw [hB3] at h; exact Sep.blk h
  replace hs3 : Sep w w3 (trH g gm (.slice none 0 0) t [] 0 ++ [B3]) := by rw [hB3]; exact hs3
  refine drH_S hs3 fun w4 hs4 _ => ?_
  refine ⟨fun x y z => Sep w z (trH g gm (.slice none 0 0) t [] 0 ++ [rows (rVec 32) x (idsT t []), rows (rInt .i64) y (htsT t []), B3]), ?_, ?_⟩
  · refine ⟨kv t.root, fun u hu => by rw [← e1]; exact (L_flurrylaw11_Start__Root (hB3' (Sep.p3 hu)) _).mpr rfl, ?_⟩
    refine rdS_ld (v := .int .i64 t.ht) (fun u hu K hk => by rw [← e2] at hk; exact (L_flurrylaw11_Start__Height (hB3' (Sep.p3 hu)) K).mpr hk) ?_
    refine two_lit hs4 fun x y z hz => Sep.pick hz [2, 3, 4, 0, 1, 5] 6
  rintro x0 y0 w5 hs5 _
  refine makeMap_s (n := 32) hs5 fun gh w6 hs6 => ?_
  simp only [hr.len]
  refine ⟨fun x y z w' => ∃ i N ov c c2 H Ds, z = .int .i64 ((i : Nat) : Int) ∧ i ≤ l.length ∧ TI t N ∧ N.length ≤ i ∧ Dat N Ds ∧ HadOk w.heap N H ∧ Sep w w' (trH g gm ov t N c ++ (rows (rVec 32) x (idsT t N) :: rows (rInt .i64) y (htsT t N) :: mp gh H c2 :: B3 :: Ds)),
    fun _ _ z _ => (l.length - RowKit.intOf z).toNat, ⟨0, [], .slice none 0 0, 0, 0, [], [], rfl, by omega, TI.nil ht0, by simp, Dat.nil _, ⟨rfl, fun k b h => by cases h⟩, Sep.pick hs6 [1, 2, 3, 4, 5, 0, 6] 7⟩, ?_⟩
  rintro x y _ w7 ⟨i, N, ov, c, c2, H, Ds, rfl, hi, hTI, hN, hD, hH, hs7⟩ -
  clear hs6 hs5 hs4 hs3
  simp only [nilc_some, fad_mk, pik_true, pik_false, cnd_true, cnd_false, gif_same, gif_tf, gif_ft, gif_undef, bi_add, bi_sub, bi_mul, bi_eql, bi_neq, bi_lss, bi_leq, bi_gtr, bi_geq, notB_bool, cvi_int, lenS_mk, lenT_mk, ext0, ext1, ext2, nilP_mk, nilS_mk, fldv_agg, jn0_k, jn1_k, jn2_k, jn1_and, jn1_or, ex_some, Option.isNone_some, Option.isNone_none, Bool.false_bne, Bool.bne_true, Bool.bne_false, Bool.true_bne, Bool.not_true, Bool.not_false, Bool.and_true, Bool.true_and, Bool.and_false, Bool.false_and, Bool.or_true, Bool.true_or, Bool.or_false, Bool.false_or, cond_true, cond_false, List.getElem?_toArray, List.getElem?_cons_zero, List.getElem?_cons_succ, Nat.zero_add, Nat.add_zero, Nat.reduceAdd, forall_const]
  rw [cnd_bool]
  refine ⟨fun h => ?_, fun h => ?_⟩
  · have hlt : i < l.length := by simp at h; omega
    obtain ⟨a, ha⟩ : ∃ a, l[i]? = some a := ⟨_, List.getElem?_eq_getElem hlt⟩
    have ham := List.mem_of_getElem? ha
    have hak := hok a ham
    have ha' : (l.map GA.t)[i]? = some a.t := by rw [List.getElem?_map, ha]; rfl
    refine ⟨fun x y w' => ∃ N ov c c2 H Ds, TI t N ∧ N.length ≤ i + 1 ∧ Dat N Ds ∧ HadOk w.heap N H ∧ Sep w w' (trH g gm ov t N c ++ (rows (rVec 32) x (idsT t N) :: rows (rInt .i64) y (htsT t N) :: mp gh H c2 :: B3 :: Ds)), ?_, ?_⟩
    case refine_2 =>
      rintro x' y' w8 ⟨N', ov', c', c2', H', Ds', h1, h2, h3, h4, h5⟩ _
      rw [wi64 (by omega) (by omega)]
      exact ⟨⟨i + 1, N', ov', c', c2', H', Ds', by simp, by omega, h1, h2, h3, h4, h5⟩, by simp [RowKit.intOf]; omega⟩
    change ixs 37 _ _ _
    refine Rows'.ldN (q := Q_flurrylaw11_Grow) (by decide) (hr.rw.fr hs7.fr0) ha' .i64 ?_
    refine alloc_s hs7 (A_flurrylaw11_Grow w7) fun g13 w8 hs8 => ?_
    have hd8 := (hr.fr hs8.fr0).d a ham
    refine St_flurrylaw11_Grow hs8 (one_flurrylaw11_Grow hd8.1.one hd8.2.one) fun w9 hs9 => ?_
    have hd9 := (hr.fr hs9.fr0).d a ham
    have hb3 := hB3' (Sep.pick hs9 [7, 0, 1, 2, 3, 4, 5, 6] 8)
    simp only [L_flurrylaw11_Start hb3, L_flurrylaw11_Start__Root hb3, L_flurrylaw11_Start__Height hb3, L_flurrylaw11_Start__Most hb3, L_flurrylaw11_Grow (Sep.blk hs9), L_flurrylaw11_Grow__K (Sep.blk hs9), L_flurrylaw11_Grow__Data (Sep.blk hs9), L_flurrylaw11_Grow__Raw (Sep.blk hs9), L_flurrylaw11_Grow__B (Sep.blk hs9), L_flurrylaw11_Grow__B_Parent (Sep.blk hs9), L_flurrylaw11_Grow__B_Height (Sep.blk hs9), L_flurrylaw11_Grow__B_Data (Sep.blk hs9)]
    obtain ⟨b, hb⟩ : ∃ b, b = bG (idsT t N) (htsT t N) a := ⟨_, rfl⟩
    refine cal_i (block11_spec (ids := idsT t N) (hs := htsT t N) (Sep.rows (Sep.p4 hs9)) (Sep.rows (Sep.p5 hs9)) (by simp) (by simp) (by simp; omega) hd9 (hts_nonneg hTI) hak.1) ?_
    rintro _ w10 ⟨rfl, hf10⟩
    have hs10 := hs9.old hf10
    rw [← hb]
    have hbw : RdB w.heap a.v b.d := by rw [hb]; exact bG_rd (hr.d a ham)
    have hbh : b.h ≤ maxI := by rw [hb]; exact bG_h hak.2.1
    refine alloc_s hs10 (A_api_Block w10) fun g14 w11 hs11 => ?_
    refine St_api_Block hs11 (one_api_Block hbw.one) fun w12 hs12 => ?_
    simp only [L_api_Block (Sep.blk hs12), L_api_Block__Parent (Sep.blk hs12), L_api_Block__Height (Sep.blk hs12), L_api_Block__Data (Sep.blk hs12)]
    refine cal_i (Add_spec (Sep.pick hs12 [2, 3, 4, 0, 1, 5, 6, 7, 8] 9) (hD.sub (Bs := _ :: _ :: _ :: _ :: _ :: _ :: Ds) fun A hA => by simp [hA]) hTI.w (hc.fr hs12.fr0) (hbw.fr hs12.fr0 (off_nil _)) hbh (by omega)) ?_
    rintro _ w13 (⟨he, rfl, hs13⟩ | ⟨he, rfl, ov', vd, hs13⟩)
    · have he' : (addE t N b != 0) = true := bne_iff_ne.2 he
      simp only [nilc_some, fad_mk, pik_true, pik_false, cnd_true, cnd_false, gif_same, gif_tf, gif_ft, gif_undef, bi_add, bi_sub, bi_mul, bi_eql, bi_neq, bi_lss, bi_leq, bi_gtr, bi_geq, notB_bool, cvi_int, lenS_mk, lenT_mk, ext0, ext1, ext2, nilP_mk, nilS_mk, fldv_agg, jn0_k, jn1_k, jn2_k, jn1_and, jn1_or, ex_some, Option.isNone_some, Option.isNone_none, Bool.false_bne, Bool.bne_true, Bool.bne_false, Bool.true_bne, Bool.not_true, Bool.not_false, Bool.and_true, Bool.true_and, Bool.and_false, Bool.false_and, Bool.or_true, Bool.true_or, Bool.or_false, Bool.false_or, cond_true, cond_false, List.getElem?_toArray, List.getElem?_cons_zero, List.getElem?_cons_succ, Nat.zero_add, Nat.add_zero, Nat.reduceAdd, forall_const, he']
      refine alloc_s hs13 (A_api_ID w13) fun g15 w14 hs14 => ?_
      refine St_api_ID hs14 fun w15 hs15 => ?_
      exact ⟨N, ov, c, c2, H, Ds, hTI, by omega, hD, hH, Sep.pick hs15 [1, 2, 3, 6, 7, 8, 9] 10⟩
    · simp only [nilc_some, fad_mk, pik_true, pik_false, cnd_true, cnd_false, gif_same, gif_tf, gif_ft, gif_undef, bi_add, bi_sub, bi_mul, bi_eql, bi_neq, bi_lss, bi_leq, bi_gtr, bi_geq, notB_bool, cvi_int, lenS_mk, lenT_mk, ext0, ext1, ext2, nilP_mk, nilS_mk, fldv_agg, jn0_k, jn1_k, jn2_k, jn1_and, jn1_or, ex_some, Option.isNone_some, Option.isNone_none, Bool.false_bne, Bool.bne_true, Bool.bne_false, Bool.true_bne, Bool.not_true, Bool.not_false, Bool.and_true, Bool.true_and, Bool.and_false, Bool.false_and, Bool.or_true, Bool.true_or, Bool.or_false, Bool.false_or, cond_true, cond_false, List.getElem?_toArray, List.getElem?_cons_zero, List.getElem?_cons_succ, Nat.zero_add, Nat.add_zero, Nat.reduceAdd, forall_const, show ((0 : Int) != 0) = false from rfl]
      refine alloc_s hs13 (A_api_ID w13) fun g15 w14 hs14 => ?_
      refine St_api_ID hs14 fun w15 hs15 => ?_
      simp only [L_api_ID (Sep.blk hs15)]
      obtain ⟨a1, a2, a3, a4, a5, a6⟩ := addE_ok he
      have hnH : getE b.id H = none := getE_nin (by rw [hH.1]; exact fun hm => by rw [mem_has (.inr hm)] at a2; cases a2)
      have hmpH := Sep.map (Sep.pick hs15 [9, 0, 1, 2, 3, 4, 5, 6, 7, 8, 10] 11)
      rw [lookup_map U_map_api_ID_api_Block KT (zB w15) hmpH b.id, hnH]
      simp only [nilc_some, fad_mk, pik_true, pik_false, cnd_true, cnd_false, gif_same, gif_tf, gif_ft, gif_undef, bi_add, bi_sub, bi_mul, bi_eql, bi_neq, bi_lss, bi_leq, bi_gtr, bi_geq, notB_bool, cvi_int, lenS_mk, lenT_mk, ext0, ext1, ext2, nilP_mk, nilS_mk, fldv_agg, jn0_k, jn1_k, jn2_k, jn1_and, jn1_or, ex_some, Option.isNone_some, Option.isNone_none, Bool.false_bne, Bool.bne_true, Bool.bne_false, Bool.true_bne, Bool.not_true, Bool.not_false, Bool.and_true, Bool.true_and, Bool.and_false, Bool.false_and, Bool.or_true, Bool.true_or, Bool.or_false, Bool.false_or, cond_true, cond_false, List.getElem?_toArray, List.getElem?_cons_zero, List.getElem?_cons_succ, Nat.zero_add, Nat.add_zero, Nat.reduceAdd, forall_const, Option.getD_none]
      refine alloc_s hs15 (A_api_Block w15) fun g17 w16 hs16 => ?_
      refine St_api_Block (b := (vz 32, 0, .slice none 0 0)) hs16 (one_api_Block rfl) fun w17 hs17 => ?_
      simp only [Option.isSome_none, cnd_false]
      have hs18 := Sep.pick hs17 [8, 9, 1, 6, 2, 3, 4, 10, 11, 5] 12
      refine ⟨fun u => Sep w u _, (hs18.drew _).tail.tail, ?_⟩
      refine jn2_dup ?_
      refine ⟨kv b.id, fun u hu => (L_api_ID (Sep.blk hu) _).mpr rfl, ?_⟩
      refine rdS_ld (v := .int .i64 b.h) (fun u hu K hk => (L_api_Block__Height (Sep.blk (Sep.p1 hu)) K).mpr hk) ?_
      refine three_app (hs18.drew _) (by simp; omega) (by simp; omega) fun x' y' w18 hs19 _ => ?_
      simp only [L_api_ID (Sep.blk (Sep.p2 hs19)), L_api_Block (Sep.blk (Sep.p3 hs19)), L_api_Block__Parent (Sep.blk (Sep.p3 hs19)), L_api_Block__Height (Sep.blk (Sep.p3 hs19)), L_api_Block__Data (Sep.blk (Sep.p3 hs19))]
      refine putNew_s (c := c2) (v := bq b a.v) U_map_api_ID_api_Block KT (Sep.pick hs19 [7, 0, 1, 2, 3, 4, 5, 6, 8] 9) hnH fun w19 hs20 => ?_
      refine ⟨N ++ [(b.id, b, vd, c)], ov', c + 1, c2 + 1, _, ownB vd b.d :: Ds, hTI.add he hbh, by simp; omega, hD.add, hH.add (c' := c2) a2 hbw, ?_⟩
      have e3 : idsT t (N ++ [(b.id, b, vd, c)]) = idsT t N ++ [b.id] := by simp [idsT, nms]
      have e4 : htsT t (N ++ [(b.id, b, vd, c)]) = htsT t N ++ [b.h] := by simp [htsT, hts]
      rw [e3, e4]
      exact Sep.pick hs20 [5, 6, 7, 1, 2, 0, 8, 9] 10
  have hNl : (idsT t N).length = N.length + 1 := by simp
  obtain ⟨a, cp, hx, hac⟩ := Sep.formR (Sep.p3 hs7)
  have hlenx : ∀ K, lenS x K = K (.int .i64 ((N.length + 1 : Nat) : Int)) := fun K => by rw [(Sep.rows (Sep.p3 hs7)).len K, hNl]
  have hlt := Nat.mod_lt kid (show 0 < N.length + 1 by omega)
  obtain ⟨k, hk⟩ : ∃ k, (idsT t N)[kid % (N.length + 1)]? = some k := ⟨_, List.getElem?_eq_getElem (by omega)⟩
  simp only [nilc_some, fad_mk, pik_true, pik_false, cnd_true, cnd_false, gif_same, gif_tf, gif_ft, gif_undef, bi_add, bi_sub, bi_mul, bi_eql, bi_neq, bi_lss, bi_leq, bi_gtr, bi_geq, notB_bool, cvi_int, lenS_mk, lenT_mk, ext0, ext1, ext2, nilP_mk, nilS_mk, fldv_agg, jn0_k, jn1_k, jn2_k, jn1_and, jn1_or, ex_some, Option.isNone_some, Option.isNone_none, Bool.false_bne, Bool.bne_true, Bool.bne_false, Bool.true_bne, Bool.not_true, Bool.not_false, Bool.and_true, Bool.true_and, Bool.and_false, Bool.false_and, Bool.or_true, Bool.true_or, Bool.or_false, Bool.false_or, cond_true, cond_false, List.getElem?_toArray, List.getElem?_cons_zero, List.getElem?_cons_succ, Nat.zero_add, Nat.add_zero, Nat.reduceAdd, forall_const, hlenx]
  rw [wi64 (by omega) (by omega), bi_rem _ _ _ _ (by omega), tmodn]
  change ixs 32 _ _ _
  refine Rows'.ldN (q := rVec 32) (by decide) (Sep.rows (Sep.p3 hs7)) hk .i64 ?_
  have hD0 : Dat N (rows (rVec 32) x (idsT t N) :: rows (rInt .i64) y (htsT t N) :: mp gh H c2 :: B3 :: Ds) := hD.sub fun A hA => by simp [hA]
  refine cal_i (Move_spec hs7 hD0 hTI.w hTI.nd (by omega) k) ?_
  intro r w8 hmv
  obtain ⟨t', N', gv, e, G, ov', hr8, hw', hGl, hleft, hD', hs8⟩ : ∃ (t' : Tr) (N' : List TN) (gv : Value) (e : Int) (G : List (Vec 32)) (ov' : Value), r = .tuple #[gv, .int .i64 e] ∧ TrW t' N' ∧ G.length ≤ 1000000 ∧
      (∀ id ∈ nms N, (id = t'.root ∨ id ∈ G → blkOf id N' = none) ∧ (¬ (id = t'.root ∨ id ∈ G) → blkOf id N' = blkOf id N)) ∧ Dat N' (rows (rVec 32) gv G :: rows (rVec 32) x (idsT t N) :: rows (rInt .i64) y (htsT t N) :: mp gh H c2 :: B3 :: Ds) ∧
      Sep w w8 (trH g gm ov' t' N' c ++ (rows (rVec 32) gv G :: rows (rVec 32) x (idsT t N) :: rows (rInt .i64) y (htsT t N) :: mp gh H c2 :: B3 :: Ds)) := by
    rcases hmv with ⟨_, rfl, h3⟩ | ⟨h1, gv, ov', rfl, h3⟩
    · refine ⟨t, N, .slice none 0 0, 4, [], ov, rfl, hTI.w, by simp, fun id hid => ⟨fun h => ?_, fun _ => rfl⟩, hD0.sub fun A hA => List.mem_cons_of_mem _ hA, Sep.pick (Sep.nilR (q := rVec 32) h3) [1, 2, 3, 0] 4⟩
      have h := h.resolve_right (by simp)
      rw [h]
      exact hTI.w.noroot
    · refine ⟨mvT t N k, mvN t N k, gv, 0, mvGone t N k, ov', rfl, (hTI.tm.move h1).w, ?_, fun id hid => mv_left hid, fun z hz => List.mem_cons_of_mem _ (hD0 z (List.mem_filter.1 hz).1), h3⟩
      have := List.length_filter_le (fun x => !under t N x k) (N.map (·.1))
      rw [List.length_map] at this
      unfold mvGone
      omega
  subst hr8
  clear hmv hs7 hD0
  simp only [nilc_some, fad_mk, pik_true, pik_false, cnd_true, cnd_false, gif_same, gif_tf, gif_ft, gif_undef, bi_add, bi_sub, bi_mul, bi_eql, bi_neq, bi_lss, bi_leq, bi_gtr, bi_geq, notB_bool, cvi_int, lenS_mk, lenT_mk, ext0, ext1, ext2, nilP_mk, nilS_mk, fldv_agg, jn0_k, jn1_k, jn2_k, jn1_and, jn1_or, ex_some, Option.isNone_some, Option.isNone_none, Bool.false_bne, Bool.bne_true, Bool.bne_false, Bool.true_bne, Bool.not_true, Bool.not_false, Bool.and_true, Bool.true_and, Bool.and_false, Bool.false_and, Bool.or_true, Bool.true_or, Bool.or_false, Bool.false_or, cond_true, cond_false, List.getElem?_toArray, List.getElem?_cons_zero, List.getElem?_cons_succ, Nat.zero_add, Nat.add_zero, Nat.reduceAdd, forall_const]
  obtain ⟨L, hL⟩ : ∃ L, L = trH g gm ov' t' N' c ++ (rows (rVec 32) gv G :: rows (rVec 32) x (idsT t N) :: rows (rInt .i64) y (htsT t N) :: mp gh H c2 :: B3 :: Ds) := ⟨_, rfl⟩
  rw [← hL] at hs8
  have fT : ∀ {z : World}, Sep w z L → TrR z.heap g gm ov' t' N' c := fun {z} hz => by rw [hL] at hz; exact trH_rd hz hD'
  have fG : ∀ {z : World}, Sep w z L → Rows' (rVec 32) z.heap gv G := fun {z} hz => by rw [hL] at hz; exact Sep.rows (Sep.p3 hz)
  have fx : ∀ {z : World}, Sep w z L → Rows' (rVec 32) z.heap x (idsT t N) := fun {z} hz => by rw [hL] at hz; exact Sep.rows (Sep.p4 hz)
  have fH : ∀ {z : World}, Sep w z L → z.heap[gh]? = some (.map (ents H) c2) := fun {z} hz => by
    rw [hL] at hz
    exact Sep.map (Sep.pick hz [6, 0, 1, 2, 3, 4, 5, 7] 8)
  clear hL
  refine cal_i (Root_spec (fT hs8)) ?_
  rintro _ w9 ⟨rfl, hf9⟩
  have hs9 := hs8.old hf9
  simp only [nilc_some, fad_mk, pik_true, pik_false, cnd_true, cnd_false, gif_same, gif_tf, gif_ft, gif_undef, bi_add, bi_sub, bi_mul, bi_eql, bi_neq, bi_lss, bi_leq, bi_gtr, bi_geq, notB_bool, cvi_int, lenS_mk, lenT_mk, ext0, ext1, ext2, nilP_mk, nilS_mk, fldv_agg, jn0_k, jn1_k, jn2_k, jn1_and, jn1_or, ex_some, Option.isNone_some, Option.isNone_none, Bool.false_bne, Bool.bne_true, Bool.bne_false, Bool.true_bne, Bool.not_true, Bool.not_false, Bool.and_true, Bool.true_and, Bool.and_false, Bool.false_and, Bool.or_true, Bool.true_or, Bool.or_false, Bool.false_or, cond_true, cond_false, List.getElem?_toArray, List.getElem?_cons_zero, List.getElem?_cons_succ, Nat.zero_add, Nat.add_zero, Nat.reduceAdd, forall_const]
  refine alloc_s hs9 (A_api_ID w9) fun g21 w10 hs10 => ?_
  refine St_api_ID (b := t'.root) hs10 fun w11 hs11 => ?_
  have e11 : ∀ K, slc 32 x (some (.int .i64 1)) none K = K (.slice (if cp = 1 then a else a.map (·.add (1 * 32))) N.length (cp - 1)) := fun K => by
    rw [hx, hNl]; exact slc_from (j := 1) (by omega) K
  have r1 : ∀ {z : World}, Sep w z L → Rows' (rVec 32) z.heap (.slice (if cp = 1 then a else a.map (·.add (1 * 32))) N.length (cp - 1)) (nms N) := fun {z} hz => by
    have h1 := fx hz
    rw [hx] at h1
    have := Rows'.drop h1 (k := 1) (by simp) hac (cp - 1)
    rw [hNl] at this
    exact this
  rw [e11]
  simp only [nilc_some, fad_mk, pik_true, pik_false, cnd_true, cnd_false, gif_same, gif_tf, gif_ft, gif_undef, bi_add, bi_sub, bi_mul, bi_eql, bi_neq, bi_lss, bi_leq, bi_gtr, bi_geq, notB_bool, cvi_int, lenS_mk, lenT_mk, ext0, ext1, ext2, nilP_mk, nilS_mk, fldv_agg, jn0_k, jn1_k, jn2_k, jn1_and, jn1_or, ex_some, Option.isNone_some, Option.isNone_none, Bool.false_bne, Bool.bne_true, Bool.bne_false, Bool.true_bne, Bool.not_true, Bool.not_false, Bool.and_true, Bool.true_and, Bool.and_false, Bool.false_and, Bool.or_true, Bool.true_or, Bool.or_false, Bool.false_or, cond_true, cond_false, List.getElem?_toArray, List.getElem?_cons_zero, List.getElem?_cons_succ, Nat.zero_add, Nat.add_zero, Nat.reduceAdd, forall_const]
  refine ⟨fun y z => ∃ i : Nat, y = .int .i64 i ∧ i ≤ N.length ∧ Sep w z (blk g21 (Rdr.cells (rVec 32) t'.root).toArray T_api_ID :: L), fun y _ => (N.length - RowKit.intOf y).toNat, ⟨0, rfl, by omega, hs11⟩, ?_⟩
  rintro _ w12 ⟨i, rfl, hi, hs12⟩ -
  simp only [nilc_some, fad_mk, pik_true, pik_false, cnd_true, cnd_false, gif_same, gif_tf, gif_ft, gif_undef, bi_add, bi_sub, bi_mul, bi_eql, bi_neq, bi_lss, bi_leq, bi_gtr, bi_geq, notB_bool, cvi_int, lenS_mk, lenT_mk, ext0, ext1, ext2, nilP_mk, nilS_mk, fldv_agg, jn0_k, jn1_k, jn2_k, jn1_and, jn1_or, ex_some, Option.isNone_some, Option.isNone_none, Bool.false_bne, Bool.bne_true, Bool.bne_false, Bool.true_bne, Bool.not_true, Bool.not_false, Bool.and_true, Bool.true_and, Bool.and_false, Bool.false_and, Bool.or_true, Bool.true_or, Bool.or_false, Bool.false_or, cond_true, cond_false, List.getElem?_toArray, List.getElem?_cons_zero, List.getElem?_cons_succ, Nat.zero_add, Nat.add_zero, Nat.reduceAdd, forall_const]
  rw [cnd_bool]
  refine ⟨fun h => ?_, fun h => hR _ _ ⟨rfl, hs12.fr0⟩⟩
  have hlt : i < N.length := by simp at h; omega
  obtain ⟨id, hid⟩ : ∃ id, (nms N)[i]? = some id := ⟨_, List.getElem?_eq_getElem (by simpa using hlt)⟩
  have hidm : id ∈ nms N := List.mem_of_getElem? hid
  refine ⟨fun z => Sep w z (blk g21 (Rdr.cells (rVec 32) t'.root).toArray T_api_ID :: L), ?_, fun w13 hs13 _ => ?_⟩
  case refine_2 =>
    rw [wi64 (by omega) (by omega)]
    exact ⟨⟨i + 1, by simp, by omega, hs13⟩, by simp [RowKit.intOf]; omega⟩
  change ixs 32 _ _ _
  refine Rows'.ldN (q := rVec 32) (by decide) (r1 hs12.tail) hid .i64 ?_
  refine alloc_s hs12 (A_api_ID w12) fun g24 w13 hs13 => ?_
  refine St_api_ID (b := id) hs13 fun w14 hs14 => ?_
  simp only [L_api_ID (Sep.blk hs14)]
  refine cal_i (Get_spec (fT hs14.tail.tail) hw' id) ?_
  rintro _ w15 ⟨v15, rfl, hs15⟩
  have hs15' := hs14.join hs15
  simp only [nilc_some, fad_mk, pik_true, pik_false, cnd_true, cnd_false, gif_same, gif_tf, gif_ft, gif_undef, bi_add, bi_sub, bi_mul, bi_eql, bi_neq, bi_lss, bi_leq, bi_gtr, bi_geq, notB_bool, cvi_int, lenS_mk, lenT_mk, ext0, ext1, ext2, nilP_mk, nilS_mk, fldv_agg, jn0_k, jn1_k, jn2_k, jn1_and, jn1_or, ex_some, Option.isNone_some, Option.isNone_none, Bool.false_bne, Bool.bne_true, Bool.bne_false, Bool.true_bne, Bool.not_true, Bool.not_false, Bool.and_true, Bool.true_and, Bool.and_false, Bool.false_and, Bool.or_true, Bool.true_or, Bool.or_false, Bool.false_or, cond_true, cond_false, List.getElem?_toArray, List.getElem?_cons_zero, List.getElem?_cons_succ, Nat.zero_add, Nat.add_zero, Nat.reduceAdd, forall_const]
  refine alloc_s hs15' (A_api_Block w15) fun g25 w16 hs16 => ?_
  refine St_api_Block hs16 (one_api_Block (Sep.one (Sep.p1 hs16))) fun w17 hs17 => ?_
  simp only [L_api_ID (Sep.blk (Sep.p2 hs17)), L_api_ID (Sep.blk (Sep.p3 hs17)), eq_api_ID]
  have hs17' : Sep w w17 (blk g25 _ T_api_Block :: ownB v15 (nb id N').1.d :: blk g24 (Rdr.cells (rVec 32) id).toArray T_api_ID :: blk g21 (Rdr.cells (rVec 32) t'.root).toArray T_api_ID :: L) := hs17
  refine ⟨fun y z => (decide (id = t'.root) = false → y = .bool (decide (id ∈ G))) ∧ Sep w z (blk g25 (Rdr.cells Q_api_Block ((nb id N').1.p, (nb id N').1.h, v15)).toArray T_api_Block :: ownB v15 (nb id N').1.d :: blk g24 (Rdr.cells (rVec 32) id).toArray T_api_ID :: blk g21 (Rdr.cells (rVec 32) t'.root).toArray T_api_ID :: L), ?_, ?_⟩
  · show gif _ _ _ _
    rw [gif_bool]
    refine ⟨fun h => ?_, fun h => ⟨fun h2 => absurd h2 h, hs17'⟩⟩
    refine cal_i (idsContains_spec (fG hs17'.tail.tail.tail.tail) hGl id) ?_
    rintro _ w18 ⟨rfl, hf18⟩
    exact ⟨fun _ => rfl, hs17'.old hf18⟩
  rintro y8 w18 ⟨hy, hs18⟩ _
  have hpk : ∀ K : Value → Prop, pik (.bool (decide (id = t'.root))) (.bool true) y8 K = K (.bool (decide (id = t'.root) || decide (id ∈ G))) := fun K => by
    cases hd : decide (id = t'.root) with
    | true => rw [pik_true, Bool.true_or]
    | false => rw [pik_false, hy hd, Bool.false_or]
  rw [hpk, cnd_bool]
  refine ⟨fun h => ?_, fun h => ?_⟩
  · have h : id = t'.root ∨ id ∈ G := by simpa using h
    have hno : (blkOf id N').isSome = false := by rw [(hleft id hidm).1 h]; rfl
    simp only [hno, nilc_some, fad_mk, pik_true, pik_false, cnd_true, cnd_false, gif_same, gif_tf, gif_ft, gif_undef, bi_add, bi_sub, bi_mul, bi_eql, bi_neq, bi_lss, bi_leq, bi_gtr, bi_geq, notB_bool, cvi_int, lenS_mk, lenT_mk, ext0, ext1, ext2, nilP_mk, nilS_mk, fldv_agg, jn0_k, jn1_k, jn2_k, jn1_and, jn1_or, ex_some, Option.isNone_some, Option.isNone_none, Bool.false_bne, Bool.bne_true, Bool.bne_false, Bool.true_bne, Bool.not_true, Bool.not_false, Bool.and_true, Bool.true_and, Bool.and_false, Bool.false_and, Bool.or_true, Bool.true_or, Bool.or_false, Bool.false_or, cond_true, cond_false, List.getElem?_toArray, List.getElem?_cons_zero, List.getElem?_cons_succ, Nat.zero_add, Nat.add_zero, Nat.reduceAdd, forall_const, show ((4 : Int) != 4) = false from rfl, if_neg Bool.false_ne_true]
    exact hs18.tail.tail.tail
  · have h : ¬ (id = t'.root ∨ id ∈ G) := by
      simp only [Bool.or_eq_false_iff, decide_eq_false_iff_not] at h
      rintro (h1 | h1)
      · exact h.1 h1
      · exact h.2 h1
    have hbk := (hleft id hidm).2 h
    have hbN := mem_blk hidm
    obtain ⟨v9, hv9, hrd9⟩ := hH.2 id _ hbN
    have hsome : (blkOf id N').isSome = true := by rw [hbk, hbN]; rfl
    have hnb : (nb id N').1 = (nb id N).1 := by
      rcases nb_blk (k := id) (N := N') with ⟨h1, _⟩ | h1
      · rw [h1] at hsome; cases hsome
      · rw [hbk, hbN] at h1; simpa using h1.symm
    refine drH_S hs18 fun w19 hs19 _ => ?_
    simp only [hsome, nilc_some, fad_mk, pik_true, pik_false, cnd_true, cnd_false, gif_same, gif_tf, gif_ft, gif_undef, bi_add, bi_sub, bi_mul, bi_eql, bi_neq, bi_lss, bi_leq, bi_gtr, bi_geq, notB_bool, cvi_int, lenS_mk, lenT_mk, ext0, ext1, ext2, nilP_mk, nilS_mk, fldv_agg, jn0_k, jn1_k, jn2_k, jn1_and, jn1_or, ex_some, Option.isNone_some, Option.isNone_none, Bool.false_bne, Bool.bne_true, Bool.bne_false, Bool.true_bne, Bool.not_true, Bool.not_false, Bool.and_true, Bool.true_and, Bool.and_false, Bool.false_and, Bool.or_true, Bool.true_or, Bool.or_false, Bool.false_or, cond_true, cond_false, List.getElem?_toArray, List.getElem?_cons_zero, List.getElem?_cons_succ, Nat.zero_add, Nat.add_zero, Nat.reduceAdd, forall_const, show ((0 : Int) != 0) = false from rfl, if_pos]
    refine jn1_dup ?_
    refine ⟨bq (nb id N').1 v15, fun u hu => (L_api_Block (Sep.blk hu) _).mpr rfl, ?_⟩
    refine ⟨kv id, fun u hu => (L_api_ID (Sep.blk (Sep.p2 hu)) _).mpr rfl, ?_⟩
    refine ⟨bq (nb id N).1 v9, fun u hu => by rw [lookup_map1 U_map_api_ID_api_Block KT (zB u) (fH hu.tail.tail.tail.tail) id, hv9]; rfl, ?_⟩
    refine efS_i (cal_i (rSame_spec (Sep.rd hs19.p1) (hrd9.fr hs19.fr0 (off_nil _))) ?_)
    rintro _ w20 ⟨rfl, hf20⟩
    have hs20 := hs19.old hf20
    refine ⟨hs20, ?_⟩
    rw [hnb, decide_eq_true rfl]
    simp only [nilc_some, fad_mk, pik_true, pik_false, cnd_true, cnd_false, gif_same, gif_tf, gif_ft, gif_undef, bi_add, bi_sub, bi_mul, bi_eql, bi_neq, bi_lss, bi_leq, bi_gtr, bi_geq, notB_bool, cvi_int, lenS_mk, lenT_mk, ext0, ext1, ext2, nilP_mk, nilS_mk, fldv_agg, jn0_k, jn1_k, jn2_k, jn1_and, jn1_or, ex_some, Option.isNone_some, Option.isNone_none, Bool.false_bne, Bool.bne_true, Bool.bne_false, Bool.true_bne, Bool.not_true, Bool.not_false, Bool.and_true, Bool.true_and, Bool.and_false, Bool.false_and, Bool.or_true, Bool.true_or, Bool.or_false, Bool.false_or, cond_true, cond_false, List.getElem?_toArray, List.getElem?_cons_zero, List.getElem?_cons_succ, Nat.zero_add, Nat.add_zero, Nat.reduceAdd, forall_const]
    exact hs20.tail.tail.tail
end
end Go.Fx
set_option linter.unusedVariables false
set_option linter.unusedSimpArgs false
namespace Go.Fx
def argD (xs : List (Vec 32)) (i : Nat) (_ : World) (args : List Value) : Prop := ∃ x, xs[i]? = some x ∧ args = [kv x]
section
variable {w0 w : World} {As : List Asn} {g gm c : Nat} {ov : Value} {t : Tr} {N : List TN}
theorem nilFnD {f : FuncId} {cap : Array Value} {w : World} (K : Value → Prop) : rdP P (eqS .eql T_iter_Seq_api_ID (.tmp 7) (.const Value.nilFunc) (.func (.func f) #[] cap) Value.nilFunc) w K = K (.bool false) := rdP_eq (by kernel_rfl) K
theorem al_slD (w : World) : (Instr.alloc T_sl_api_ID true (.tuple #[])).run P w = .ok (.pointer (some ⟨w.heap.size, 0, none⟩)) (w.alloc (.cells #[.slice none 0 0] T_sl_api_ID)) := by kernel_rfl
/-- What a slice's names, told one by one, are. -/
theorem told1_iter {v : Value} {xs : List (Vec 32)} {g1 : Nat} (hl : xs.length ≤ 1000000) : Iter P (.func (.func f_tree_told_1) #[] #[.pointer (some ⟨g1, 0, none⟩)])
    (fun h => (∃ T fr, h[g1]? = some (.cells #[v] T fr)) ∧ Rows' (rVec 32) h v xs) xs.length (argD xs) := by
  refine ⟨_, _, rfl, by kernel_rfl, fun y w0 w J X As h1 h0 hs hM hst => ?_⟩
  show cal P f_tree_told_1 [y, .pointer (some ⟨g1, 0, none⟩)] w _
  refine s_tree_told_1 fun R hR => ?_
  unfold c_tree_told_1
  obtain ⟨⟨T, fr, hc⟩, hv⟩ := hM 0 As [] w h0 (by rwa [List.append_nil])
  refine ld1_i (v := v) hc rfl ?_
  rw [hv.len]
  refine ⟨fun t z => ∃ (i : Nat) (Bs : List Asn), t = .int .i64 i ∧ i ≤ xs.length ∧ J i Bs ∧ Sep w0 z Bs, fun t _ => (xs.length - RowKit.intOf t).toNat, ⟨0, As, rfl, by omega, h0, hs⟩, ?_⟩
  rintro _ z ⟨i, Bs, rfl, hi, hJ, hz⟩ -
  simp only [nilc_some, fad_mk, pik_true, pik_false, cnd_true, cnd_false, gif_same, gif_tf, gif_ft, gif_undef, bi_add, bi_sub, bi_mul, bi_eql, bi_neq, bi_lss, bi_leq, bi_gtr, bi_geq, notB_bool, cvi_int, lenS_mk, lenT_mk, ext0, ext1, ext2, nilP_mk, nilS_mk, fldv_agg, jn0_k, jn1_k, jn2_k, jn1_and, jn1_or, ex_some, Option.isNone_some, Option.isNone_none, Bool.false_bne, Bool.bne_true, Bool.bne_false, Bool.true_bne, Bool.not_true, Bool.not_false, Bool.and_true, Bool.true_and, Bool.and_false, Bool.false_and, Bool.or_true, Bool.true_or, Bool.or_false, Bool.false_or, cond_true, cond_false, List.getElem?_toArray, List.getElem?_cons_zero, List.getElem?_cons_succ, Nat.zero_add, Nat.add_zero, Nat.reduceAdd, forall_const]
  rw [cnd_bool]
  refine ⟨fun h => ?_, fun h => ?_⟩
  · have hlt : i < xs.length := by simp at h; omega
    obtain ⟨x, hx⟩ : ∃ x, xs[i]? = some x := ⟨_, List.getElem?_eq_getElem hlt⟩
    have hv' := (hM i Bs [] z hJ (by rwa [List.append_nil])).2
    change ixs 32 _ _ _
    refine Rows'.ldN (q := rVec 32) (by decide) hv' hx .i64 ?_
    refine alloc_s hz (A_api_ID z) fun g4 z2 hz2 => ?_
    refine St_api_ID (b := x) hz2 fun z3 hz3 => ?_
    simp only [L_api_ID hz3.blk]
    refine calY_i (hst i [kv x] z3 Bs [_] hlt ⟨x, hx, rfl⟩ hJ (Sep.rot (As := [_]) hz3)) ?_
    rintro r z' (⟨rfl, Cs, hJ', hz'⟩ | ⟨rfl, Cs, hX', hz'⟩)
    · simp only [nilc_some, fad_mk, pik_true, pik_false, cnd_true, cnd_false, gif_same, gif_tf, gif_ft, gif_undef, bi_add, bi_sub, bi_mul, bi_eql, bi_neq, bi_lss, bi_leq, bi_gtr, bi_geq, notB_bool, cvi_int, lenS_mk, lenT_mk, ext0, ext1, ext2, nilP_mk, nilS_mk, fldv_agg, jn0_k, jn1_k, jn2_k, jn1_and, jn1_or, ex_some, Option.isNone_some, Option.isNone_none, Bool.false_bne, Bool.bne_true, Bool.bne_false, Bool.true_bne, Bool.not_true, Bool.not_false, Bool.and_true, Bool.true_and, Bool.and_false, Bool.false_and, Bool.or_true, Bool.true_or, Bool.or_false, Bool.false_or, cond_true, cond_false, List.getElem?_toArray, List.getElem?_cons_zero, List.getElem?_cons_succ, Nat.zero_add, Nat.add_zero, Nat.reduceAdd, forall_const]
      rw [wi64 (by omega) (by omega)]
      exact ⟨⟨i + 1, Cs, by simp, by omega, hJ', hz'.dropR⟩, by simp [RowKit.intOf]; omega⟩
    · simp only [nilc_some, fad_mk, pik_true, pik_false, cnd_true, cnd_false, gif_same, gif_tf, gif_ft, gif_undef, bi_add, bi_sub, bi_mul, bi_eql, bi_neq, bi_lss, bi_leq, bi_gtr, bi_geq, notB_bool, cvi_int, lenS_mk, lenT_mk, ext0, ext1, ext2, nilP_mk, nilS_mk, fldv_agg, jn0_k, jn1_k, jn2_k, jn1_and, jn1_or, ex_some, Option.isNone_some, Option.isNone_none, Bool.false_bne, Bool.bne_true, Bool.bne_false, Bool.true_bne, Bool.not_true, Bool.not_false, Bool.and_true, Bool.true_and, Bool.and_false, Bool.false_and, Bool.or_true, Bool.true_or, Bool.or_false, Bool.false_or, cond_true, cond_false, List.getElem?_toArray, List.getElem?_cons_zero, List.getElem?_cons_succ, Nat.zero_add, Nat.add_zero, Nat.reduceAdd, forall_const]
      exact hR _ _ ⟨rfl, .inr ⟨Cs, hX', hz'.dropR⟩⟩
  · have hge : i = xs.length := by simp at h; omega
    subst hge
    exact hR _ _ ⟨rfl, .inl ⟨Bs, hJ, hz⟩⟩
theorem told11_spec {g : Value} {M : Heap → Prop} {xs : List (Vec 32)} {most : Nat} (hit : Iter P g M xs.length (argD xs)) (hM : ∀ z, Fr [] w z → M z.heap) (hl : xs.length ≤ 1000000) (hm : most ≤ 2000000) :
    cal P f_law11_told [g, .int .i64 most] w fun r w' => Sep w w' [rows (rVec 32) r (xs.take most)] := by
  refine s_law11_told fun R hR => ?_
  unfold c_law11_told
  have hit' := hit
  obtain ⟨gf, cap, rfl, _, _⟩ := hit
  refine bx_s (Sep.start w) fun g3 w1 hs1 => ?_
  replace hs1 : Sep w w1 [blk g3 #[.int .i64 most] T_int] := hs1
  refine alloc_s hs1 (al_slD w1) fun g5 w2 hs2 => ?_
  rw [nilFnD, cnd_false]
  have hs3 := (Sep.nilR (q := rVec 32) hs2).p1
  refine rng_s hs3 hit' (fun i z args ⟨x, _, h⟩ => by rw [h]; rfl) (fun i Bs => i ≤ most ∧ ∃ v, Bs = [blk g5 #[v] T_sl_api_ID, rows (rVec 32) v (xs.take i), blk g3 #[.int .i64 most] T_int])
    (fun c Bs => c = .exit 0 ∧ ∃ v, Bs = [blk g5 #[v] T_sl_api_ID, rows (rVec 32) v (xs.take most), blk g3 #[.int .i64 most] T_int]) ⟨Nat.zero_le _, _, rfl⟩ (fun i Bs Ls z _ hz => hM z hz.fr0) ?_ ?_ ?_
  · rintro i _ z _ LR LB bg fin hi ⟨hle, v, rfl⟩ ⟨x, hx, rfl⟩ hz hbg hfn hfx
    refine alloc_s hz (A_api_ID z) fun g6 za hza => ?_
    simp only [List.getD_cons_zero]
    refine St_api_ID (b := x) hza fun zb hzb => ?_
    refine hbg zb [_, _, _, _] _ hzb fun z1 hz1 => ?_
    simp only [List.cons_append, List.nil_append] at hz1
    have htl : (xs.take i).length = i := by rw [List.length_take]; omega
    refine ld1_i (v := v) (Sep.blk hz1.p1) rfl ?_
    rw [(Sep.rows hz1.p2).len, htl]
    refine ld1_i (v := .int .i64 most) (Sep.blk hz1.p3) rfl ?_
    simp only [nilc_some, fad_mk, pik_true, pik_false, cnd_true, cnd_false, gif_same, gif_tf, gif_ft, gif_undef, bi_add, bi_sub, bi_mul, bi_eql, bi_neq, bi_lss, bi_leq, bi_gtr, bi_geq, notB_bool, cvi_int, lenS_mk, lenT_mk, ext0, ext1, ext2, nilP_mk, nilS_mk, fldv_agg, jn0_k, jn1_k, jn2_k, jn1_and, jn1_or, ex_some, Option.isNone_some, Option.isNone_none, Bool.false_bne, Bool.bne_true, Bool.bne_false, Bool.true_bne, Bool.not_true, Bool.not_false, Bool.and_true, Bool.true_and, Bool.and_false, Bool.false_and, Bool.or_true, Bool.true_or, Bool.or_false, Bool.false_or, cond_true, cond_false, List.getElem?_toArray, List.getElem?_cons_zero, List.getElem?_cons_succ, Nat.zero_add, Nat.add_zero, Nat.reduceAdd, forall_const]
    rw [cnd_bool]
    refine ⟨fun h => ?_, fun h => ?_⟩
    · have h : most ≤ i := by simp at h; omega
      obtain rfl : i = most := by omega
      exact hfx _ z1 _ ⟨rfl, v, rfl⟩ hz1.tail
    · have h : i < most := by simp at h; omega
      refine ld1_i (v := v) (Sep.blk hz1.p1) rfl ?_
      simp only [L_api_ID hz1.blk]
      refine bldI hz1 fun a z2 hz2 => ?_
      refine appI hz2.p3 (Sep.rows hz2) (by omega) fun v' z3 hz3 => ?_
      have hz4 := Sep.pick hz3 [3, 0, 4] 5
      refine st1_s hz4 (by simp) (Sep.oneR hz3) fun z5 hz5 => ?_
      refine hfn z5 _ ⟨h, v', rfl⟩ ?_
      have e : xs.take (i + 1) = xs.take i ++ [x] := by rw [List.take_add_one, hx]; rfl
      rw [e]
      exact hz5
  · rintro D _ z ⟨hle, v, rfl⟩ hz
    refine .inl ⟨rfl, ?_⟩
    refine ld1_i (v := v) (Sep.blk hz.p1) rfl ?_
    refine takeD_s hz fun w' hw' => hR _ _ ?_
    rw [List.take_of_length_le (Nat.le_refl _)] at hw'
    rw [List.take_of_length_le hle]
    exact Sep.dropR (As := [rows (rVec 32) v xs]) hw'.tail
  · rintro D _ _ z ⟨rfl, v, rfl⟩ hz
    refine .inr (.inl ⟨rfl, ?_⟩)
    refine ld1_i (v := v) (Sep.blk hz.p1) rfl ?_
    refine takeD_s hz fun w' hw' => hR _ _ ?_
    exact Sep.dropR (As := [rows (rVec 32) v (xs.take most)]) hw'.tail
/-- What goes through the names xs, as tree.told makes it. -/
def Goes (w0 w : World) (r : Value) (xs : List (Vec 32)) : Prop := ∃ g1 v, r = .func (.func f_tree_told_1) #[] #[.pointer (some ⟨g1, 0, none⟩)] ∧ Sep w0 w [blk g1 #[v] T_sl_api_ID, rows (rVec 32) v xs]
theorem Goes.told {r : Value} {xs : List (Vec 32)} {most : Nat} (h : Goes w0 w r xs) (hl : xs.length ≤ 1000000) (hm : most ≤ 2000000) : cal P f_law11_told [r, .int .i64 most] w fun r w' => Sep w w' [rows (rVec 32) r (xs.take most)] := by
  obtain ⟨g1, v, rfl, hs⟩ := h
  exact told11_spec (told1_iter hl) (fun z hz => ⟨⟨_, _, (hs.old hz).blk⟩, Sep.rows (hs.old hz).p1⟩) hl hm
theorem ttold_spec {v : Value} {xs : List (Vec 32)} (hs : Sep w0 w [rows (rVec 32) v xs]) : cal P f_tree_told [v] w fun r w' => Goes w0 w' r xs := by
  refine s_tree_told fun R hR => ?_
  unfold c_tree_told
  refine bx_s hs fun g1 w1 hs1 => ?_
  have hv := Sep.oneR hs
  have ev : v.cells = #[v] := by cases v <;> simp_all [Value.cells, Value.oneCell']
  rw [ev] at hs1
  exact hR _ _ ⟨g1, v, rfl, hs1⟩
theorem All_spec (hr : TrR w.heap g gm ov t N c) (hn : N.length ≤ 1000000) : cal P f_tree_Tree_All [.pointer (some ⟨g, 0, none⟩)] w fun r w' => Goes w w' r (nms N) := by
  refine s_tree_Tree_All fun R hR => ?_
  unfold c_tree_Tree_All
  refine cal_i (those_spec (f := f_tree_Tree_All_1) (cap := []) (so := fun _ => true) hr hn (by kernel_rfl) ?_) ?_
  · intro z x hz
    refine s_tree_Tree_All_1 fun R hR => ?_
    unfold c_tree_Tree_All_1
    refine bxQ (Sep.start z) fun g5 w5 hs5 => ?_
    exact hR _ _ ⟨rfl, hs5.fr0⟩
  · rintro r w3 hs3
    rw [List.filter_eq_self.2 (fun _ _ => rfl)] at hs3
    refine cal_i (ttold_spec hs3) ?_
    rintro r' w4 hg
    exact hR _ _ hg
theorem node_mem : ∀ {N : List TN} (_ : (nms N).Nodup) {x : TN} (_ : x ∈ N), nodeOf x.1 N = some x
  | [], _, x, hx => by cases hx
  | y :: N, hu, x, hx => by
    have h1 : y.1 ∉ nms N ∧ (nms N).Nodup := List.nodup_cons.1 hu
    unfold nodeOf
    rw [List.find?_cons]
    rcases List.mem_cons.1 hx with rfl | hx
    · simp
    · have hne : ¬ x.1 = y.1 := fun he => h1.1 (he ▸ List.mem_map.2 ⟨x, hx, rfl⟩)
      rw [decide_eq_false hne]
      exact node_mem h1.2 hx
theorem kid_names (hu : (nms N).Nodup) (k : Vec 32) : (nms N).filter (fun x => decide (upOf x N = k)) = nms (N.filter fun x => decide (x.2.1.p = k)) := by
  have h : ∀ x ∈ N, upOf x.1 N = x.2.1.p := fun x hx => by
    unfold upOf nb
    rw [node_mem hu hx]
    rfl
  show (N.map (·.1)).filter _ = (N.filter _).map (·.1)
  rw [List.filter_map]
  congr 1
  refine List.filter_congr fun x hx => ?_
  show decide (upOf x.1 N = k) = _
  rw [h x hx]
theorem Kids_spec (hr : TrR w.heap g gm ov t N c) (hn : N.length ≤ 1000000) (hu : (nms N).Nodup) (k : Vec 32) : cal P f_tree_Tree_Kids [.pointer (some ⟨g, 0, none⟩), kv k] w fun r w' => Goes w w' r (if has t N k = true then nms (N.filter fun x => decide (x.2.1.p = k)) else []) := by
  refine s_tree_Tree_Kids fun R hR => ?_
  unfold c_tree_Tree_Kids
  refine bx_s (Sep.start w) fun g2 w1 hs1 => ?_
  replace hs1 : Sep w w1 [blk g2 #[.pointer (some ⟨g, 0, none⟩)] T_p_tree_Tree] := hs1
  refine bxQ hs1 fun g3 w2 hs2 => ?_
  refine ld1_i (Sep.p1 hs2).blk rfl ?_
  simp only [L_api_ID hs2.blk]
  refine cal_i (Has_spec (hs2.tr hr) k) ?_
  rintro _ w3 ⟨rfl, hf3⟩
  have hs3 := hs2.old hf3
  simp only [nilc_some, fad_mk, pik_true, pik_false, cnd_true, cnd_false, gif_same, gif_tf, gif_ft, gif_undef, bi_add, bi_sub, bi_mul, bi_eql, bi_neq, bi_lss, bi_leq, bi_gtr, bi_geq, notB_bool, cvi_int, lenS_mk, lenT_mk, ext0, ext1, ext2, nilP_mk, nilS_mk, fldv_agg, jn0_k, jn1_k, jn2_k, jn1_and, jn1_or, ex_some, Option.isNone_some, Option.isNone_none, Bool.false_bne, Bool.bne_true, Bool.bne_false, Bool.true_bne, Bool.not_true, Bool.not_false, Bool.and_true, Bool.true_and, Bool.and_false, Bool.false_and, Bool.or_true, Bool.true_or, Bool.or_false, Bool.false_or, cond_true, cond_false, List.getElem?_toArray, List.getElem?_cons_zero, List.getElem?_cons_succ, Nat.zero_add, Nat.add_zero, Nat.reduceAdd, forall_const]
  cases hk : has t N k with
  | false =>
    simp only [nilc_some, fad_mk, pik_true, pik_false, cnd_true, cnd_false, gif_same, gif_tf, gif_ft, gif_undef, bi_add, bi_sub, bi_mul, bi_eql, bi_neq, bi_lss, bi_leq, bi_gtr, bi_geq, notB_bool, cvi_int, lenS_mk, lenT_mk, ext0, ext1, ext2, nilP_mk, nilS_mk, fldv_agg, jn0_k, jn1_k, jn2_k, jn1_and, jn1_or, ex_some, Option.isNone_some, Option.isNone_none, Bool.false_bne, Bool.bne_true, Bool.bne_false, Bool.true_bne, Bool.not_true, Bool.not_false, Bool.and_true, Bool.true_and, Bool.and_false, Bool.false_and, Bool.or_true, Bool.true_or, Bool.or_false, Bool.false_or, cond_true, cond_false, List.getElem?_toArray, List.getElem?_cons_zero, List.getElem?_cons_succ, Nat.zero_add, Nat.add_zero, Nat.reduceAdd, forall_const]
    have hs4 : Sep w w3 [rows (rVec 32) (.slice none 0 0) []] := Sep.dropR (As := [_]) hs3.nilR
    refine cal_i (ttold_spec hs4) ?_
    rintro r' w4 hg
    exact hR _ _ (by rw [if_neg (by rw [hk]; simp)]; exact hg)
  | true =>
    simp only [nilc_some, fad_mk, pik_true, pik_false, cnd_true, cnd_false, gif_same, gif_tf, gif_ft, gif_undef, bi_add, bi_sub, bi_mul, bi_eql, bi_neq, bi_lss, bi_leq, bi_gtr, bi_geq, notB_bool, cvi_int, lenS_mk, lenT_mk, ext0, ext1, ext2, nilP_mk, nilS_mk, fldv_agg, jn0_k, jn1_k, jn2_k, jn1_and, jn1_or, ex_some, Option.isNone_some, Option.isNone_none, Bool.false_bne, Bool.bne_true, Bool.bne_false, Bool.true_bne, Bool.not_true, Bool.not_false, Bool.and_true, Bool.true_and, Bool.and_false, Bool.false_and, Bool.or_true, Bool.true_or, Bool.or_false, Bool.false_or, cond_true, cond_false, List.getElem?_toArray, List.getElem?_cons_zero, List.getElem?_cons_succ, Nat.zero_add, Nat.add_zero, Nat.reduceAdd, forall_const]
    refine ld1_i (Sep.p1 hs3).blk rfl ?_
    refine cal_i (those_spec (f := f_tree_Tree_Kids_1) (cap := [.pointer (some ⟨g2, 0, none⟩), .pointer (some ⟨g3, 0, none⟩)]) (so := fun x => decide (upOf x N = k)) (hs3.tr hr) hn (by kernel_rfl) ?_) ?_
    · intro z x hz
      have hsz := hs3.old hz
      refine s_tree_Tree_Kids_1 fun R hR => ?_
      unfold c_tree_Tree_Kids_1
      have hs0 : Sep z z [] := Sep.start z
      refine bxQ hs0 fun g5 w5 hs5 => ?_
      refine drw_s hs5 fun w6 hs6 _ => ?_
      have h2 := hs6.fr0.blk (Sep.p1 hsz).blk (by simp)
      have h3 := hs6.fr0.blk hsz.blk (by simp)
      refine ld1_i (v := .pointer (some ⟨g, 0, none⟩)) h2 rfl ?_
      have hr6 := TrR.fr (hsz.tr hr) hs6.fr0
      obtain ⟨T, fr, hc⟩ := hr6.cell
      simp only [nilc_some, fad_mk, pik_true, pik_false, cnd_true, cnd_false, gif_same, gif_tf, gif_ft, gif_undef, bi_add, bi_sub, bi_mul, bi_eql, bi_neq, bi_lss, bi_leq, bi_gtr, bi_geq, notB_bool, cvi_int, lenS_mk, lenT_mk, ext0, ext1, ext2, nilP_mk, nilS_mk, fldv_agg, jn0_k, jn1_k, jn2_k, jn1_and, jn1_or, ex_some, Option.isNone_some, Option.isNone_none, Bool.false_bne, Bool.bne_true, Bool.bne_false, Bool.true_bne, Bool.not_true, Bool.not_false, Bool.and_true, Bool.true_and, Bool.and_false, Bool.false_and, Bool.or_true, Bool.true_or, Bool.or_false, Bool.false_or, cond_true, cond_false, List.getElem?_toArray, List.getElem?_cons_zero, List.getElem?_cons_succ, Nat.zero_add, Nat.add_zero, Nat.reduceAdd, forall_const, L_tree_Tree hc, L_tree_Tree__made hc, L_tree_Tree__root hc, L_tree_Tree__height hc, L_tree_Tree__most hc, L_tree_Tree__blocks hc, L_tree_Tree__order hc, L_api_ID hs6.blk]
      rw [hr6.look1, nb_get]
      change fldv _ _ _ _ _
      rw [fldv_par]
      simp only [L_api_ID h3, eq_api_ID]
      exact hR _ _ ⟨rfl, hs6.fr0⟩
    · rintro r w4 hs4
      rw [kid_names hu] at hs4
      have hs5 : Sep w w4 [rows (rVec 32) r (nms (N.filter fun x => decide (x.2.1.p = k)))] := Sep.dropR (As := [_]) (hs3.join hs4)
      refine cal_i (ttold_spec hs5) ?_
      rintro r' w5 hg
      exact hR _ _ (by rw [if_pos hk]; exact hg)
end
end Go.Fx
set_option linter.unusedVariables false
set_option linter.unusedSimpArgs false
namespace Go.Fx
def TN.kb (x : TN) : Vec 32 × Blk := (x.1, x.2.1)
abbrev kbs (N : List TN) : List (Vec 32 × Blk) := N.map TN.kb
section
variable {N M : List TN} {t : Tr}
theorem kb_blk : ∀ {N M : List TN} (_ : kbs N = kbs M) (k : Vec 32), blkOf k N = blkOf k M
  | [], [], _, k => rfl
  | [], y :: M, h, k => by simp at h
  | x :: N, [], h, k => by simp at h
  | x :: N, y :: M, h, k => by
    have h1 : x.kb = y.kb ∧ kbs N = kbs M := List.cons.inj h
    have h2 : x.1 = y.1 := by show x.kb.1 = y.kb.1; rw [h1.1]
    have h3 : x.2.1 = y.2.1 := by show x.kb.2 = y.kb.2; rw [h1.1]
    have ih := kb_blk h1.2 k
    unfold blkOf nodeOf at ih ⊢
    rw [List.find?_cons, List.find?_cons, h2]
    by_cases hk : k = y.1
    · simp [hk, h3]
    · simpa [hk] using ih
theorem nb_eq (k : Vec 32) (N : List TN) : (nb k N).1 = (blkOf k N).getD Blk.none := by
  unfold nb blkOf
  cases nodeOf k N <;> rfl
theorem kb_nb (h : kbs N = kbs M) (k : Vec 32) : (nb k N).1 = (nb k M).1 := by rw [nb_eq, nb_eq, kb_blk h]
theorem kb_has (h : kbs N = kbs M) (k : Vec 32) : has t N k = has t M k := by unfold has; rw [kb_blk h]
theorem kb_lev (h : kbs N = kbs M) (k : Vec 32) : levH t N k = levH t M k := by unfold levH; rw [kb_blk h]
theorem kb_hgt (h : kbs N = kbs M) (k : Vec 32) : hgt t N k = hgt t M k := by unfold hgt; rw [kb_lev h]
theorem kb_up (h : kbs N = kbs M) (k : Vec 32) : upOf k N = upOf k M := by unfold upOf; rw [kb_nb h]
theorem kb_way (h : kbs N = kbs M) : ∀ (n : Nat) (k : Vec 32), wayUp t N n k = wayUp t M n k
  | 0, k => rfl
  | n + 1, k => by unfold wayUp; rw [kb_up h, kb_way h n]
theorem kb_path (h : kbs N = kbs M) (k : Vec 32) : pathOf t N k = pathOf t M k := by unfold pathOf; rw [kb_has h, kb_hgt h, kb_way h]
theorem kb_under (h : kbs N = kbs M) (a b : Vec 32) : under t N a b = under t M a b := by unfold under; rw [kb_has h, kb_has h, kb_hgt h, kb_way h]
theorem kb_nms (h : kbs N = kbs M) : nms N = nms M := by
  have h1 := congrArg (List.map Prod.fst) h
  rw [List.map_map, List.map_map] at h1
  exact h1
theorem kb_len (h : kbs N = kbs M) : N.length = M.length := by
  have h1 := congrArg List.length h
  simpa using h1
theorem kb_filter (p : Vec 32 × Blk → Bool) (h : kbs N = kbs M) : kbs (N.filter fun x => p x.kb) = kbs (M.filter fun x => p x.kb) := by
  have e : ∀ N : List TN, kbs (N.filter fun x => p x.kb) = (kbs N).filter p := fun N => by rw [kbs, List.filter_map]; rfl
  rw [e, e, h]
theorem kb_kids (h : kbs N = kbs M) (k : Vec 32) : nms (N.filter fun x => decide (x.2.1.p = k)) = nms (M.filter fun x => decide (x.2.1.p = k)) := kb_nms (kb_filter (fun y => decide (y.2.p = k)) h)
theorem hgt_none {m : Nat} (hi : TM t N m) (k : Vec 32) : hgt t N k ≤ m := by
  cases hk : has t N k with
  | true => exact hi.hb k hk
  | false =>
    have h1 : ¬ k = t.root ∧ (blkOf k N).isSome = false := by
      unfold has at hk
      simpa using hk
    have h2 : blkOf k N = none := by simpa using h1.2
    have := hi.ht
    unfold hgt levH
    rw [if_neg h1.1, h2]
    simp only
    omega
theorem TM.kb {m : Nat} (hi : TM t N m) (h : kbs N = kbs M) : TM t M m := by
  have hn := kb_nms h
  refine ⟨⟨fun k b hb => ?_, fun k b hb => ?_, ?_, fun x hx => ?_⟩, ?_, fun k hk => ?_, fun x hx => ?_, hi.ht⟩
  · rw [← kb_blk h] at hb
    rw [← kb_has h, ← kb_lev h]
    exact hi.w.up k b hb
  · rw [← kb_blk h] at hb
    exact hi.w.above k b hb
  · rw [← kb_blk h]; exact hi.w.noroot
  · have : x.kb ∈ kbs N := by rw [h]; exact List.mem_map.2 ⟨x, hx, rfl⟩
    obtain ⟨y, hy, he⟩ := List.mem_map.1 this
    have := hi.w.small y hy
    rw [show y.2.1 = x.2.1 from congrArg Prod.snd he] at this
    exact this
  · show (nms M).Nodup
    rw [← hn]; exact hi.nd
  · rw [← kb_hgt h]; exact hi.hb k (by rw [kb_has h]; exact hk)
  · have : x.kb ∈ kbs N := by rw [h]; exact List.mem_map.2 ⟨x, hx, rfl⟩
    obtain ⟨y, hy, he⟩ := List.mem_map.1 this
    have := hi.hi y hy
    rw [show y.2.1 = x.2.1 from congrArg Prod.snd he] at this
    exact this
end
/-- A pair of trees that hold the same, and the names that were told. -/
structure BothR (h : Heap) (gx g gm gr : Nat) (ov lv x : Value) (t : Tr) (N M : List TN) (c : Nat) (ids : List (Vec 32)) : Prop where
  cell : ∃ T fr, h[gx]? = some (.cells (Rdr.cells Q_flurrylaw11_both (.pointer (some ⟨g, 0, none⟩), .pointer (some ⟨gr, 0, none⟩), x)).toArray T fr)
  tr : TrR h g gm ov t N c
  rf : RfR h gr lv t M
  ids : Rows' (rVec 32) h x ids
section
variable {w0 w w' : World} {As : List Asn} {gx g gm gr c : Nat} {ov lv x : Value} {t : Tr} {N M : List TN} {ids : List (Vec 32)}
theorem BothR.fr (h : BothR w.heap gx g gm gr ov lv x t N M c ids) (hf : Fr [] w w') : BothR w'.heap gx g gm gr ov lv x t N M c ids := by
  obtain ⟨⟨T, fr, hc⟩, h2, h3, h4⟩ := h
  exact ⟨⟨T, fr, hf.blk hc (by simp)⟩, h2.fr hf, h3.fr hf, h4.fr hf⟩
theorem BothR.ldt {h : Heap} (hb : BothR h gx g gm gr ov lv x t N M c ids) {K : Value → Prop} (hk : K (.pointer (some ⟨g, 0, none⟩))) : ld1 (.pointer (some ⟨gx, 0, none⟩)) h K := by
  obtain ⟨T, fr, hc⟩ := hb.cell
  exact (L_flurrylaw11_both__t hc K).mpr hk
theorem BothR.ldr {h : Heap} (hb : BothR h gx g gm gr ov lv x t N M c ids) {K : Value → Prop} (hk : K (.pointer (some ⟨gr, 0, none⟩))) : ld1 (.pointer (some ⟨gx, 1, none⟩)) h K := by
  obtain ⟨T, fr, hc⟩ := hb.cell
  exact (L_flurrylaw11_both__r hc K).mpr hk
theorem BothR.ldi {h : Heap} (hb : BothR h gx g gm gr ov lv x t N M c ids) {K : Value → Prop} (hk : K x) : ld1 (.pointer (some ⟨gx, 2, none⟩)) h K := by
  obtain ⟨T, fr, hc⟩ := hb.cell
  exact (L_flurrylaw11_both__ids hc K).mpr hk
theorem Sep.both (h : Sep w0 w As) (hb : BothR w0.heap gx g gm gr ov lv x t N M c ids) : BothR w.heap gx g gm gr ov lv x t N M c ids := hb.fr h.1
theorem Goes.fr0 {r : Value} {xs : List (Vec 32)} (h : Goes w0 w r xs) : Fr [] w0 w := by
  obtain ⟨_, _, _, hs⟩ := h
  exact hs.fr0
/-- What both say about a name. -/
theorem alike_spec {m : Nat} (hB : BothR w.heap gx g gm gr ov lv x t N M c ids) (hkb : kbs N = kbs M) (hi : TM t N m) (hm : m ≤ 1000000) (hn : N.length ≤ 1000000) (k : Vec 32) :
    cal P f_law11_both_alike [.pointer (some ⟨gx, 0, none⟩), kv k] w fun r w' => r = .bool true ∧ Fr [] w w' := by
  have hiM := hi.kb hkb
  have hnM : M.length ≤ 1000000 := by rw [← kb_len hkb]; exact hn
  have hh : ∀ a, hgt t N a ≤ 1000000 := fun a => Nat.le_trans (hgt_none hi a) hm
  have hhM : ∀ a, hgt t M a ≤ 1000000 := fun a => Nat.le_trans (hgt_none hiM a) hm
  refine s_law11_both_alike fun R hR => ?_
  unfold c_law11_both_alike
  refine bxQ (Sep.start w) fun g3 w1 hs1 => ?_
  refine drH_S hs1 fun w2 hs2 _ => ?_
  simp only [nilc_some, fad_mk, pik_true, pik_false, cnd_true, cnd_false, gif_same, gif_tf, gif_ft, gif_undef, bi_add, bi_sub, bi_mul, bi_eql, bi_neq, bi_lss, bi_leq, bi_gtr, bi_geq, notB_bool, cvi_int, lenS_mk, lenT_mk, ext0, ext1, ext2, nilP_mk, nilS_mk, fldv_agg, jn0_k, jn1_k, jn2_k, jn1_and, jn1_or, ex_some, Option.isNone_some, Option.isNone_none, Bool.false_bne, Bool.bne_true, Bool.bne_false, Bool.true_bne, Bool.not_true, Bool.not_false, Bool.and_true, Bool.true_and, Bool.and_false, Bool.false_and, Bool.or_true, Bool.true_or, Bool.or_false, Bool.false_or, cond_true, cond_false, List.getElem?_toArray, List.getElem?_cons_zero, List.getElem?_cons_succ, Nat.zero_add, Nat.add_zero, Nat.reduceAdd, forall_const]
  refine ⟨fun a b z => ∃ g5 v, a = .pointer (some ⟨g5, 0, none⟩) ∧ b = .int .i64 (if (blkOf k N).isSome then 0 else 4) ∧ Sep w z [blk g5 (Rdr.cells Q_api_Block ((nb k N).1.p, (nb k N).1.h, v)).toArray T_api_Block, ownB v (nb k N).1.d, blk g3 (Rdr.cells (rVec 32) k).toArray T_api_ID], ?_, ?_⟩
  · refine rdS_ld (v := .pointer (some ⟨g, 0, none⟩)) (fun u hu K hk => (hu.both hB).ldt hk) ?_
    refine ⟨kv k, fun u hu => (L_api_ID hu.blk _).mpr rfl, ?_⟩
    refine ⟨?_, ?_, trivial⟩
    · refine efC_cut (cal_i (Get_spec (hs2.both hB).tr hi.w k) ?_)
      rintro _ w3 ⟨v, rfl, hs3⟩
      have hs4 := hs2.join hs3
      refine ⟨fun u => Sep w u [ownB v (nb k N).1.d, blk g3 (Rdr.cells (rVec 32) k).toArray T_api_ID], hs4, ?_⟩
      simp only [nilc_some, fad_mk, pik_true, pik_false, cnd_true, cnd_false, gif_same, gif_tf, gif_ft, gif_undef, bi_add, bi_sub, bi_mul, bi_eql, bi_neq, bi_lss, bi_leq, bi_gtr, bi_geq, notB_bool, cvi_int, lenS_mk, lenT_mk, ext0, ext1, ext2, nilP_mk, nilS_mk, fldv_agg, jn0_k, jn1_k, jn2_k, jn1_and, jn1_or, ex_some, Option.isNone_some, Option.isNone_none, Bool.false_bne, Bool.bne_true, Bool.bne_false, Bool.true_bne, Bool.not_true, Bool.not_false, Bool.and_true, Bool.true_and, Bool.and_false, Bool.false_and, Bool.or_true, Bool.true_or, Bool.or_false, Bool.false_or, cond_true, cond_false, List.getElem?_toArray, List.getElem?_cons_zero, List.getElem?_cons_succ, Nat.zero_add, Nat.add_zero, Nat.reduceAdd, forall_const]
      refine efS_i (alloc_s hs4 (A_api_Block w3) fun g5 w5 hs5 => ⟨hs5.tail, ?_⟩)
      refine efC_stN (St_api_Block hs5 (one_api_Block (Sep.one hs5.p1)) fun w6 hs6 => ?_)
      exact ⟨g5, v, rfl, trivial, hs6⟩
    · refine efS_i (alloc_s hs2 (A_api_Block w2) fun g5 w3 hs3 => ⟨hs3.tail, ?_⟩)
      refine efC_cut (cal_i (Get_spec (hs3.both hB).tr hi.w k) ?_)
      rintro _ w4 ⟨v, rfl, hs4⟩
      have hs5 := hs3.join hs4
      refine ⟨fun u => True, trivial, ?_⟩
      simp only [nilc_some, fad_mk, pik_true, pik_false, cnd_true, cnd_false, gif_same, gif_tf, gif_ft, gif_undef, bi_add, bi_sub, bi_mul, bi_eql, bi_neq, bi_lss, bi_leq, bi_gtr, bi_geq, notB_bool, cvi_int, lenS_mk, lenT_mk, ext0, ext1, ext2, nilP_mk, nilS_mk, fldv_agg, jn0_k, jn1_k, jn2_k, jn1_and, jn1_or, ex_some, Option.isNone_some, Option.isNone_none, Bool.false_bne, Bool.bne_true, Bool.bne_false, Bool.true_bne, Bool.not_true, Bool.not_false, Bool.and_true, Bool.true_and, Bool.and_false, Bool.false_and, Bool.or_true, Bool.true_or, Bool.or_false, Bool.false_or, cond_true, cond_false, List.getElem?_toArray, List.getElem?_cons_zero, List.getElem?_cons_succ, Nat.zero_add, Nat.add_zero, Nat.reduceAdd, forall_const]
      refine efC_stN (St_api_Block hs5.p1 (one_api_Block (Sep.one hs5)) fun w6 hs6 => ?_)
      exact ⟨g5, v, rfl, trivial, hs6⟩
  rintro _ _ z ⟨g5, v, rfl, rfl, hs3⟩ _
  obtain ⟨L, hL⟩ : ∃ L, L = [blk g5 (Rdr.cells Q_api_Block ((nb k N).1.p, (nb k N).1.h, v)).toArray T_api_Block, ownB v (nb k N).1.d, blk g3 (Rdr.cells (rVec 32) k).toArray T_api_ID] := ⟨_, rfl⟩
  rw [← hL] at hs3
  have f3 : ∀ {z : World}, Sep w z L → ∀ K, ldN 32 (.pointer (some ⟨g3, 0, none⟩)) z.heap K = K (kv k) := fun {z} hz K => by
    rw [hL] at hz
    exact L_api_ID (Sep.blk hz.p2) K
  refine drH_S hs3 fun w4 hs4 _ => ?_
  refine ⟨fun a b z => ∃ g7, a = .pointer (some ⟨g7, 0, none⟩) ∧ b = .int .i64 (if (blkOf k M).isSome then 0 else 4) ∧ Sep w z (blk g7 (Rdr.cells Q_api_Block ((nb k M).1.p, (nb k M).1.h, (nb k M).2)).toArray T_api_Block :: L), ?_, ?_⟩
  · simp only [nilc_some, fad_mk, pik_true, pik_false, cnd_true, cnd_false, gif_same, gif_tf, gif_ft, gif_undef, bi_add, bi_sub, bi_mul, bi_eql, bi_neq, bi_lss, bi_leq, bi_gtr, bi_geq, notB_bool, cvi_int, lenS_mk, lenT_mk, ext0, ext1, ext2, nilP_mk, nilS_mk, fldv_agg, jn0_k, jn1_k, jn2_k, jn1_and, jn1_or, ex_some, Option.isNone_some, Option.isNone_none, Bool.false_bne, Bool.bne_true, Bool.bne_false, Bool.true_bne, Bool.not_true, Bool.not_false, Bool.and_true, Bool.true_and, Bool.and_false, Bool.false_and, Bool.or_true, Bool.true_or, Bool.or_false, Bool.false_or, cond_true, cond_false, List.getElem?_toArray, List.getElem?_cons_zero, List.getElem?_cons_succ, Nat.zero_add, Nat.add_zero, Nat.reduceAdd, forall_const]
    refine rdS_ld (v := .pointer (some ⟨gr, 0, none⟩)) (fun u hu K hk => (hu.both hB).ldr hk) ?_
    refine ⟨kv k, fun u hu => (f3 hu _).mpr rfl, ?_⟩
    refine ⟨?_, ?_, trivial⟩
    · refine efC_cut (cal_i (GetR_spec (hs4.both hB).rf hnM k) ?_)
      rintro _ w5 ⟨rfl, hf5⟩
      have hs5 := hs4.old hf5
      refine ⟨fun u => Sep w u L, hs5, ?_⟩
      simp only [nilc_some, fad_mk, pik_true, pik_false, cnd_true, cnd_false, gif_same, gif_tf, gif_ft, gif_undef, bi_add, bi_sub, bi_mul, bi_eql, bi_neq, bi_lss, bi_leq, bi_gtr, bi_geq, notB_bool, cvi_int, lenS_mk, lenT_mk, ext0, ext1, ext2, nilP_mk, nilS_mk, fldv_agg, jn0_k, jn1_k, jn2_k, jn1_and, jn1_or, ex_some, Option.isNone_some, Option.isNone_none, Bool.false_bne, Bool.bne_true, Bool.bne_false, Bool.true_bne, Bool.not_true, Bool.not_false, Bool.and_true, Bool.true_and, Bool.and_false, Bool.false_and, Bool.or_true, Bool.true_or, Bool.or_false, Bool.false_or, cond_true, cond_false, List.getElem?_toArray, List.getElem?_cons_zero, List.getElem?_cons_succ, Nat.zero_add, Nat.add_zero, Nat.reduceAdd, forall_const]
      refine efS_i (alloc_s hs5 (A_api_Block w5) fun g7 w6 hs6 => ⟨hs6.tail, ?_⟩)
      refine efC_stN (St_api_Block hs6 (one_api_Block ((hB.rf.nb k).one)) fun w7 hs7 => ?_)
      exact ⟨g7, rfl, trivial, hs7⟩
    · refine efS_i (alloc_s hs4 (A_api_Block w4) fun g7 w5 hs5 => ⟨hs5.tail, ?_⟩)
      refine efC_cut (cal_i (GetR_spec (hs5.both hB).rf hnM k) ?_)
      rintro _ w6 ⟨rfl, hf6⟩
      have hs6 := hs5.old hf6
      refine ⟨fun u => True, trivial, ?_⟩
      simp only [nilc_some, fad_mk, pik_true, pik_false, cnd_true, cnd_false, gif_same, gif_tf, gif_ft, gif_undef, bi_add, bi_sub, bi_mul, bi_eql, bi_neq, bi_lss, bi_leq, bi_gtr, bi_geq, notB_bool, cvi_int, lenS_mk, lenT_mk, ext0, ext1, ext2, nilP_mk, nilS_mk, fldv_agg, jn0_k, jn1_k, jn2_k, jn1_and, jn1_or, ex_some, Option.isNone_some, Option.isNone_none, Bool.false_bne, Bool.bne_true, Bool.bne_false, Bool.true_bne, Bool.not_true, Bool.not_false, Bool.and_true, Bool.true_and, Bool.and_false, Bool.false_and, Bool.or_true, Bool.true_or, Bool.or_false, Bool.false_or, cond_true, cond_false, List.getElem?_toArray, List.getElem?_cons_zero, List.getElem?_cons_succ, Nat.zero_add, Nat.add_zero, Nat.reduceAdd, forall_const]
      refine efC_stN (St_api_Block hs6 (one_api_Block ((hB.rf.nb k).one)) fun w7 hs7 => ?_)
      exact ⟨g7, rfl, trivial, hs7⟩
  rintro _ _ z2 ⟨g7, rfl, rfl, hs5⟩ _
  have hbl : blkOf k N = blkOf k M := kb_blk hkb k
  have hnb : (nb k N).1 = (nb k M).1 := kb_nb hkb k
  rw [hL] at hs5
  simp only [L_api_Block (Sep.blk hs5), L_api_Block__Parent (Sep.blk hs5), L_api_Block__Height (Sep.blk hs5), L_api_Block__Data (Sep.blk hs5), L_api_Block (Sep.blk hs5.p1), L_api_Block__Parent (Sep.blk hs5.p1), L_api_Block__Height (Sep.blk hs5.p1), L_api_Block__Data (Sep.blk hs5.p1)]
  refine cal_i (rSame_spec (a := (nb k N).1) (b := (nb k M).1) (u := v) (v := (nb k M).2) (Sep.rd hs5.p2) ((hB.rf.nb k).fr hs5.fr0 (off_nil _))) ?_
  rintro _ w6 ⟨rfl, hf6⟩
  have hs6 := hs5.old hf6
  rw [decide_eq_true hnb, hbl]
  simp only [nilc_some, fad_mk, pik_true, pik_false, cnd_true, cnd_false, gif_same, gif_tf, gif_ft, gif_undef, bi_add, bi_sub, bi_mul, bi_eql, bi_neq, bi_lss, bi_leq, bi_gtr, bi_geq, notB_bool, cvi_int, lenS_mk, lenT_mk, ext0, ext1, ext2, nilP_mk, nilS_mk, fldv_agg, jn0_k, jn1_k, jn2_k, jn1_and, jn1_or, ex_some, Option.isNone_some, Option.isNone_none, Bool.false_bne, Bool.bne_true, Bool.bne_false, Bool.true_bne, Bool.not_true, Bool.not_false, Bool.and_true, Bool.true_and, Bool.and_false, Bool.false_and, Bool.or_true, Bool.true_or, Bool.or_false, Bool.false_or, cond_true, cond_false, List.getElem?_toArray, List.getElem?_cons_zero, List.getElem?_cons_succ, Nat.zero_add, Nat.add_zero, Nat.reduceAdd, forall_const, bne_self_eq_false]
  refine (L_api_Block__Data (Sep.blk hs6.p1) _).mpr ?_
  have hl : (nb k N).1.d.length ≤ 200 := by
    rcases nb_blk (k := k) (N := N) with ⟨_, h2⟩ | h1
    · rw [h2]; decide
    · obtain ⟨y, hy, hyb⟩ : ∃ y ∈ N, y.2.1 = (nb k N).1 := by
        unfold blkOf at h1
        obtain ⟨y, hy, hyb⟩ := Option.map_eq_some_iff.1 h1
        exact ⟨y, List.mem_of_find?_eq_some hy, hyb⟩
      rw [← hyb]
      exact hi.w.small y hy
  change lenS v _
  rw [(Sep.rd hs6.p2).len]
  have L3 : ∀ {z : World}, Sep w z (ownB v (flip (nb k N).1.d 0) :: blk g5 (Rdr.cells Q_api_Block ((nb k N).1.p, (nb k N).1.h, v)).toArray T_api_Block :: [blk g3 (Rdr.cells (rVec 32) k).toArray T_api_ID]) → True := fun _ => trivial
  refine ⟨fun y z => ∃ i : Nat, y = .int .i64 i ∧ i ≤ (nb k N).1.d.length ∧ Sep w z [ownB v (flip (nb k N).1.d i), blk g5 (Rdr.cells Q_api_Block ((nb k N).1.p, (nb k N).1.h, v)).toArray T_api_Block, blk g3 (Rdr.cells (rVec 32) k).toArray T_api_ID], fun y _ => ((nb k N).1.d.length - RowKit.intOf y).toNat, ⟨0, rfl, by omega, by rw [flip_zero]; exact Sep.pick hs6.tail [1, 0, 2] 3⟩, ?_⟩
  rintro _ w7 ⟨i, rfl, hi7, hs7⟩ -
  simp only [nilc_some, fad_mk, pik_true, pik_false, cnd_true, cnd_false, gif_same, gif_tf, gif_ft, gif_undef, bi_add, bi_sub, bi_mul, bi_eql, bi_neq, bi_lss, bi_leq, bi_gtr, bi_geq, notB_bool, cvi_int, lenS_mk, lenT_mk, ext0, ext1, ext2, nilP_mk, nilS_mk, fldv_agg, jn0_k, jn1_k, jn2_k, jn1_and, jn1_or, ex_some, Option.isNone_some, Option.isNone_none, Bool.false_bne, Bool.bne_true, Bool.bne_false, Bool.true_bne, Bool.not_true, Bool.not_false, Bool.and_true, Bool.true_and, Bool.and_false, Bool.false_and, Bool.or_true, Bool.true_or, Bool.or_false, Bool.false_or, cond_true, cond_false, List.getElem?_toArray, List.getElem?_cons_zero, List.getElem?_cons_succ, Nat.zero_add, Nat.add_zero, Nat.reduceAdd, forall_const]
  rw [cnd_bool]
  refine ⟨fun hlt => ?_, fun hlt => ?_⟩
  · have hlt : i < (nb k N).1.d.length := by simp at hlt; omega
    refine (L_api_Block__Data (Sep.blk hs7.p1) _).mpr ?_
    refine ldxB_s hs7 (by rw [flip_len]; exact hlt) ?_
    rw [xor255, flip_get hlt]
    refine stxB_s hs7 (by rw [flip_len]; exact hlt) _ fun w8 hs8 => ?_
    rw [flip_set hlt] at hs8
    rw [wi64 (by omega) (by omega)]
    exact ⟨⟨i + 1, by simp, by omega, hs8⟩, by simp [RowKit.intOf]; omega⟩
  clear hlt L3
  obtain ⟨L2, hL2⟩ : ∃ L2, L2 = [ownB v (flip (nb k N).1.d i), blk g5 (Rdr.cells Q_api_Block ((nb k N).1.p, (nb k N).1.h, v)).toArray T_api_Block, blk g3 (Rdr.cells (rVec 32) k).toArray T_api_ID] := ⟨_, rfl⟩
  rw [← hL2] at hs7
  have f4 : ∀ {z : World}, Sep w z L2 → ∀ K, ldN 32 (.pointer (some ⟨g3, 0, none⟩)) z.heap K = K (kv k) := fun {z} hz K => by
    rw [hL2] at hz
    exact L_api_ID (Sep.blk hz.p2) K
  refine drH_S hs7 fun w8 hs8 _ => ?_
  refine rdS_ld (v := .pointer (some ⟨g, 0, none⟩)) (fun u hu K hk => (hu.both hB).ldt hk) ?_
  refine ⟨kv k, fun u hu => (f4 hu _).mpr rfl, ?_⟩
  refine rdS_ld (v := .pointer (some ⟨gr, 0, none⟩)) (fun u hu K hk => (hu.both hB).ldr hk) ?_
  refine ⟨kv k, fun u hu => (f4 hu _).mpr rfl, ?_⟩
  refine efS_i (cal_i (Has_spec (hs8.both hB).tr k) ?_)
  rintro _ w9 ⟨rfl, hf9⟩
  have hs9 := hs8.old hf9
  refine ⟨hs9, ?_⟩
  refine efC_cut (cal_i (HasR_spec (hs9.both hB).rf hnM k) ?_)
  rintro _ w10 ⟨rfl, hf10⟩
  have hs10 := hs9.old hf10
  refine ⟨fun u => Sep w u L2, hs10, ?_⟩
  rw [← kb_has hkb]
  refine ⟨.bool true, fun u hu => by rw [eqS_bool _ _ UT_bool, beq_self_eq_true], ?_⟩
  refine jn1_dup ?_
  simp only [nilc_some, fad_mk, pik_true, pik_false, cnd_true, cnd_false, gif_same, gif_tf, gif_ft, gif_undef, bi_add, bi_sub, bi_mul, bi_eql, bi_neq, bi_lss, bi_leq, bi_gtr, bi_geq, notB_bool, cvi_int, lenS_mk, lenT_mk, ext0, ext1, ext2, nilP_mk, nilS_mk, fldv_agg, jn0_k, jn1_k, jn2_k, jn1_and, jn1_or, ex_some, Option.isNone_some, Option.isNone_none, Bool.false_bne, Bool.bne_true, Bool.bne_false, Bool.true_bne, Bool.not_true, Bool.not_false, Bool.and_true, Bool.true_and, Bool.and_false, Bool.false_and, Bool.or_true, Bool.true_or, Bool.or_false, Bool.false_or, cond_true, cond_false, List.getElem?_toArray, List.getElem?_cons_zero, List.getElem?_cons_succ, Nat.zero_add, Nat.add_zero, Nat.reduceAdd, forall_const]
  refine rdS_ld (v := .pointer (some ⟨g, 0, none⟩)) (fun u hu K hk => (hu.both hB).ldt hk) ?_
  refine ⟨kv k, fun u hu => (f4 hu _).mpr rfl, ?_⟩
  refine rdS_ld (v := .pointer (some ⟨gr, 0, none⟩)) (fun u hu K hk => (hu.both hB).ldr hk) ?_
  refine ⟨kv k, fun u hu => (f4 hu _).mpr rfl, ?_⟩
  obtain ⟨xs, hxs⟩ : ∃ xs, xs = (if has t N k = true then nms (N.filter fun x => decide (x.2.1.p = k)) else []) := ⟨_, rfl⟩
  have hxl : xs.length ≤ 1000000 := by
    rw [hxs]
    split
    · rw [List.length_map]; exact Nat.le_trans (List.length_filter_le _ _) hn
    · simp
  have hxM : (if has t M k = true then nms (M.filter fun x => decide (x.2.1.p = k)) else []) = xs := by rw [hxs, kb_has hkb, kb_kids hkb]
  refine efS_i (cal_i (Kids_spec (hs10.both hB).tr hn hi.nd k) ?_)
  rintro r1 w11 hg
  rw [← hxs] at hg
  have hs11 := hs10.old hg.fr0
  refine ⟨hs11, ?_⟩
  refine efS_i (cal_i (hg.told (most := 1048576) hxl (by decide)) ?_)
  rintro r2 w12 hs12
  have hs12' := hs11.old hs12.fr0
  refine ⟨hs12', ?_⟩
  refine efS_i (cal_i (KidsR_spec (hs12'.both hB).rf hnM k) ?_)
  rintro r3 w13 hs13
  rw [hxM] at hs13
  have hs13' := hs12'.old hs13.fr0
  refine ⟨hs13', ?_⟩
  rw [List.take_of_length_le (by omega)] at hs12
  refine efS_i (cal_i (idsEqual_spec ((Sep.rows hs12).fr hs13.fr0) (Sep.rows hs13) hxl) ?_)
  rintro _ w14 ⟨rfl, hf14⟩
  have hs14 := hs13'.old hf14
  refine ⟨hs14, ?_⟩
  simp only [nilc_some, fad_mk, pik_true, pik_false, cnd_true, cnd_false, gif_same, gif_tf, gif_ft, gif_undef, bi_add, bi_sub, bi_mul, bi_eql, bi_neq, bi_lss, bi_leq, bi_gtr, bi_geq, notB_bool, cvi_int, lenS_mk, lenT_mk, ext0, ext1, ext2, nilP_mk, nilS_mk, fldv_agg, jn0_k, jn1_k, jn2_k, jn1_and, jn1_or, ex_some, Option.isNone_some, Option.isNone_none, Bool.false_bne, Bool.bne_true, Bool.bne_false, Bool.true_bne, Bool.not_true, Bool.not_false, Bool.and_true, Bool.true_and, Bool.and_false, Bool.false_and, Bool.or_true, Bool.true_or, Bool.or_false, Bool.false_or, cond_true, cond_false, List.getElem?_toArray, List.getElem?_cons_zero, List.getElem?_cons_succ, Nat.zero_add, Nat.add_zero, Nat.reduceAdd, forall_const, decide_true]
  refine jn1_dup ?_
  simp only [nilc_some, fad_mk, pik_true, pik_false, cnd_true, cnd_false, gif_same, gif_tf, gif_ft, gif_undef, bi_add, bi_sub, bi_mul, bi_eql, bi_neq, bi_lss, bi_leq, bi_gtr, bi_geq, notB_bool, cvi_int, lenS_mk, lenT_mk, ext0, ext1, ext2, nilP_mk, nilS_mk, fldv_agg, jn0_k, jn1_k, jn2_k, jn1_and, jn1_or, ex_some, Option.isNone_some, Option.isNone_none, Bool.false_bne, Bool.bne_true, Bool.bne_false, Bool.true_bne, Bool.not_true, Bool.not_false, Bool.and_true, Bool.true_and, Bool.and_false, Bool.false_and, Bool.or_true, Bool.true_or, Bool.or_false, Bool.false_or, cond_true, cond_false, List.getElem?_toArray, List.getElem?_cons_zero, List.getElem?_cons_succ, Nat.zero_add, Nat.add_zero, Nat.reduceAdd, forall_const]
  refine rdS_ld (v := .pointer (some ⟨g, 0, none⟩)) (fun u hu K hk => (hu.both hB).ldt hk) ?_
  refine ⟨kv k, fun u hu => (f4 hu _).mpr rfl, ?_⟩
  refine rdS_ld (v := .pointer (some ⟨gr, 0, none⟩)) (fun u hu K hk => (hu.both hB).ldr hk) ?_
  refine ⟨kv k, fun u hu => (f4 hu _).mpr rfl, ?_⟩
  refine efS_i (cal_i (Path_spec (hs14.both hB).tr hi.w k (hh k)) ?_)
  rintro r4 w15 hs15
  have hs15' := hs14.old hs15.fr0
  refine ⟨hs15', ?_⟩
  refine efS_i (cal_i (PathR_spec (hs15'.both hB).rf hiM.w hnM k (hhM k)) ?_)
  rintro r5 w16 hs16
  have hs16' := hs15'.old hs16.fr0
  refine ⟨hs16', ?_⟩
  have hpl : (pathOf t N k).length ≤ 1000000 := by
    cases hha : has t N k with
    | true => rw [path_len hi.w k hha]; exact hh k
    | false => rw [path_none hha]; simp
  rw [← kb_path hkb] at hs16
  refine efS_i (cal_i (idsEqual_spec ((Sep.rows hs15).fr hs16.fr0) (Sep.rows hs16) hpl) ?_)
  rintro _ w17 ⟨rfl, hf17⟩
  have hs17 := hs16'.old hf17
  refine ⟨hs17, ?_⟩
  simp only [nilc_some, fad_mk, pik_true, pik_false, cnd_true, cnd_false, gif_same, gif_tf, gif_ft, gif_undef, bi_add, bi_sub, bi_mul, bi_eql, bi_neq, bi_lss, bi_leq, bi_gtr, bi_geq, notB_bool, cvi_int, lenS_mk, lenT_mk, ext0, ext1, ext2, nilP_mk, nilS_mk, fldv_agg, jn0_k, jn1_k, jn2_k, jn1_and, jn1_or, ex_some, Option.isNone_some, Option.isNone_none, Bool.false_bne, Bool.bne_true, Bool.bne_false, Bool.true_bne, Bool.not_true, Bool.not_false, Bool.and_true, Bool.true_and, Bool.and_false, Bool.false_and, Bool.or_true, Bool.true_or, Bool.or_false, Bool.false_or, cond_true, cond_false, List.getElem?_toArray, List.getElem?_cons_zero, List.getElem?_cons_succ, Nat.zero_add, Nat.add_zero, Nat.reduceAdd, forall_const, decide_true]
  refine jn1_dup ?_
  simp only [nilc_some, fad_mk, pik_true, pik_false, cnd_true, cnd_false, gif_same, gif_tf, gif_ft, gif_undef, bi_add, bi_sub, bi_mul, bi_eql, bi_neq, bi_lss, bi_leq, bi_gtr, bi_geq, notB_bool, cvi_int, lenS_mk, lenT_mk, ext0, ext1, ext2, nilP_mk, nilS_mk, fldv_agg, jn0_k, jn1_k, jn2_k, jn1_and, jn1_or, ex_some, Option.isNone_some, Option.isNone_none, Bool.false_bne, Bool.bne_true, Bool.bne_false, Bool.true_bne, Bool.not_true, Bool.not_false, Bool.and_true, Bool.true_and, Bool.and_false, Bool.false_and, Bool.or_true, Bool.true_or, Bool.or_false, Bool.false_or, cond_true, cond_false, List.getElem?_toArray, List.getElem?_cons_zero, List.getElem?_cons_succ, Nat.zero_add, Nat.add_zero, Nat.reduceAdd, forall_const]
  refine rdS_ld (v := .pointer (some ⟨g, 0, none⟩)) (fun u hu K hk => (hu.both hB).ldt hk) ?_
  refine ⟨kv k, fun u hu => (f4 hu _).mpr rfl, ?_⟩
  refine rdS_ld (v := .pointer (some ⟨gr, 0, none⟩)) (fun u hu K hk => (hu.both hB).ldr hk) ?_
  refine ⟨kv k, fun u hu => (f4 hu _).mpr rfl, ?_⟩
  refine efS_i (cal_i (Under_spec (hs17.both hB).tr hi.w hn k) ?_)
  rintro r6 w18 hs18
  have hs18' := hs17.old hs18.fr0
  refine ⟨hs18', ?_⟩
  refine efS_i (cal_i (UnderR_spec (hs18'.both hB).rf hiM.w hnM k (fun a _ => hhM a)) ?_)
  rintro r7 w19 hs19
  have hs19' := hs18'.old hs19.fr0
  refine ⟨hs19', ?_⟩
  have eU : (nms M).filter (fun x => under t M x k) = (N.map (·.1)).filter (fun x => under t N x k) := by
    rw [← kb_nms hkb]
    refine List.filter_congr fun y _ => (kb_under hkb y k).symm
  rw [eU] at hs19
  refine efS_i (cal_i (idsEqual_spec ((Sep.rows hs18).fr hs19.fr0) (Sep.rows hs19) (Nat.le_trans (List.length_filter_le _ _) (by rw [List.length_map]; exact hn))) ?_)
  rintro _ w20 ⟨rfl, hf20⟩
  have hs20 := hs19'.old hf20
  refine ⟨hs20, ?_⟩
  simp only [nilc_some, fad_mk, pik_true, pik_false, cnd_true, cnd_false, gif_same, gif_tf, gif_ft, gif_undef, bi_add, bi_sub, bi_mul, bi_eql, bi_neq, bi_lss, bi_leq, bi_gtr, bi_geq, notB_bool, cvi_int, lenS_mk, lenT_mk, ext0, ext1, ext2, nilP_mk, nilS_mk, fldv_agg, jn0_k, jn1_k, jn2_k, jn1_and, jn1_or, ex_some, Option.isNone_some, Option.isNone_none, Bool.false_bne, Bool.bne_true, Bool.bne_false, Bool.true_bne, Bool.not_true, Bool.not_false, Bool.and_true, Bool.true_and, Bool.and_false, Bool.false_and, Bool.or_true, Bool.true_or, Bool.or_false, Bool.false_or, cond_true, cond_false, List.getElem?_toArray, List.getElem?_cons_zero, List.getElem?_cons_succ, Nat.zero_add, Nat.add_zero, Nat.reduceAdd, forall_const, decide_true]
  exact hR _ _ ⟨rfl, hs20.fr0⟩
end
end Go.Fx
set_option linter.unusedVariables false
set_option linter.unusedSimpArgs false
namespace Go.Fx
section
variable {w0 w w' : World} {As : List Asn} {gx g gm gr c : Nat} {ov lv x : Value} {t : Tr} {N M : List TN} {ids : List (Vec 32)}
theorem whole_spec {m : Nat} (hB : BothR w.heap gx g gm gr ov lv x t N M c ids) (hkb : kbs N = kbs M) (hi : TM t N m) (hm : m ≤ 1000000) (hn : N.length ≤ 1000000) (hil : ids.length ≤ 1000000) (k : Vec 32) :
    cal P f_law11_both_whole [.pointer (some ⟨gx, 0, none⟩), kv k] w fun r w' => r = .bool true ∧ Fr [] w w' := by
  have hiM := hi.kb hkb
  have hnM : M.length ≤ 1000000 := by rw [← kb_len hkb]; exact hn
  have hhM : ∀ a, hgt t M a ≤ 1000000 := fun a => Nat.le_trans (hgt_none hiM a) hm
  have alike : ∀ {z : World} (a : Vec 32), Fr [] w z → cal P f_law11_both_alike [.pointer (some ⟨gx, 0, none⟩), kv a] z fun r w' => r = .bool true ∧ Fr [] z w' := fun a hf => alike_spec (hB.fr hf) hkb hi hm hn a
  have wi : ∀ {z : World} (a b : Vec 32), Fr [] w z → cal P f_tree_Tree_Within [.pointer (some ⟨g, 0, none⟩), kv a, kv b] z fun r w' => r = .bool (under t N a b) ∧ Fr [] z w' := fun a b hf => Within_spec (hB.fr hf).tr hi.w a b
  have wiR : ∀ {z : World} (a b : Vec 32), Fr [] w z → cal P f_ref11_Tree_Within [.pointer (some ⟨gr, 0, none⟩), kv a, kv b] z fun r w' => r = .bool (under t N a b) ∧ Fr [] z w' := fun a b hf => by
    rw [kb_under hkb]
    exact WithinR_spec (hB.fr hf).rf hiM.w hnM a b (hhM a)
  clear hhM
  refine s_law11_both_whole fun R hR => ?_
  unfold c_law11_both_whole
  refine bxQ (Sep.start w) fun g3 w1 hs1 => ?_
  simp only [nilc_some, fad_mk, pik_true, pik_false, cnd_true, cnd_false, gif_same, gif_tf, gif_ft, gif_undef, bi_add, bi_sub, bi_mul, bi_eql, bi_neq, bi_lss, bi_leq, bi_gtr, bi_geq, notB_bool, cvi_int, lenS_mk, lenT_mk, ext0, ext1, ext2, nilP_mk, nilS_mk, fldv_agg, jn0_k, jn1_k, jn2_k, jn1_and, jn1_or, ex_some, Option.isNone_some, Option.isNone_none, Bool.false_bne, Bool.bne_true, Bool.bne_false, Bool.true_bne, Bool.not_true, Bool.not_false, Bool.and_true, Bool.true_and, Bool.and_false, Bool.false_and, Bool.or_true, Bool.true_or, Bool.or_false, Bool.false_or, cond_true, cond_false, List.getElem?_toArray, List.getElem?_cons_zero, List.getElem?_cons_succ, Nat.zero_add, Nat.add_zero, Nat.reduceAdd, forall_const]
  refine (hs1.both hB).ldt ?_
  refine cal_i (Root_spec (hs1.both hB).tr) ?_
  rintro _ w2 ⟨rfl, hf2⟩
  have hs2 := hs1.old hf2
  simp only [nilc_some, fad_mk, pik_true, pik_false, cnd_true, cnd_false, gif_same, gif_tf, gif_ft, gif_undef, bi_add, bi_sub, bi_mul, bi_eql, bi_neq, bi_lss, bi_leq, bi_gtr, bi_geq, notB_bool, cvi_int, lenS_mk, lenT_mk, ext0, ext1, ext2, nilP_mk, nilS_mk, fldv_agg, jn0_k, jn1_k, jn2_k, jn1_and, jn1_or, ex_some, Option.isNone_some, Option.isNone_none, Bool.false_bne, Bool.bne_true, Bool.bne_false, Bool.true_bne, Bool.not_true, Bool.not_false, Bool.and_true, Bool.true_and, Bool.and_false, Bool.false_and, Bool.or_true, Bool.true_or, Bool.or_false, Bool.false_or, cond_true, cond_false, List.getElem?_toArray, List.getElem?_cons_zero, List.getElem?_cons_succ, Nat.zero_add, Nat.add_zero, Nat.reduceAdd, forall_const]
  refine alloc_s hs2 (A_api_ID w2) fun g5 w3 hs3 => ?_
  refine St_api_ID hs3 fun w4 hs4 => ?_
  refine (hs4.both hB).ldr ?_
  refine cal_i (AllR_spec (hs4.both hB).rf hnM) ?_
  rintro r w5 hs5
  have hs5 := hs4.join hs5
  rw [← kb_nms hkb] at hs5
  obtain ⟨ra, rc, hr, hrc⟩ := Sep.formR hs5
  obtain ⟨L, hL⟩ : ∃ L, L = [rows (rVec 32) r (nms N)] ++ [blk g5 (Rdr.cells (rVec 32) t.root).toArray T_api_ID, blk g3 (Rdr.cells (rVec 32) k).toArray T_api_ID] := ⟨_, rfl⟩
  rw [← hL] at hs5
  have fr : ∀ {z : World}, Sep w z L → Rows' (rVec 32) z.heap r (nms N) := fun {z} hz => by
    rw [hL] at hz
    exact Sep.rows hz
  have f5 : ∀ {z : World}, Sep w z L → ∀ K, ldN 32 (.pointer (some ⟨g5, 0, none⟩)) z.heap K = K (kv t.root) := fun {z} hz K => by
    rw [hL] at hz
    exact L_api_ID (Sep.blk hz.p1) K
  have f3 : ∀ {z : World}, Sep w z L → ∀ K, ldN 32 (.pointer (some ⟨g3, 0, none⟩)) z.heap K = K (kv k) := fun {z} hz K => by
    rw [hL] at hz
    exact L_api_ID (Sep.blk hz.p2) K
  have hNl : (nms N).length = N.length := by simp
  have fl : ∀ K, lenS r K = K (.int .i64 N.length) := fun K => by rw [(fr hs5).len, hNl]
  clear hL
  refine drH_S hs5 fun w6 hs6 _ => ?_
  refine ⟨kv t.root, fun u hu => (f5 hu _).mpr rfl, ?_⟩
  refine rdS_ld (v := .pointer (some ⟨gr, 0, none⟩)) (fun u hu K hk => (hu.both hB).ldr hk) ?_
  simp only [nilc_some, fad_mk, pik_true, pik_false, cnd_true, cnd_false, gif_same, gif_tf, gif_ft, gif_undef, bi_add, bi_sub, bi_mul, bi_eql, bi_neq, bi_lss, bi_leq, bi_gtr, bi_geq, notB_bool, cvi_int, lenS_mk, lenT_mk, ext0, ext1, ext2, nilP_mk, nilS_mk, fldv_agg, jn0_k, jn1_k, jn2_k, jn1_and, jn1_or, ex_some, Option.isNone_some, Option.isNone_none, Bool.false_bne, Bool.bne_true, Bool.bne_false, Bool.true_bne, Bool.not_true, Bool.not_false, Bool.and_true, Bool.true_and, Bool.and_false, Bool.false_and, Bool.or_true, Bool.true_or, Bool.or_false, Bool.false_or, cond_true, cond_false, List.getElem?_toArray, List.getElem?_cons_zero, List.getElem?_cons_succ, Nat.zero_add, Nat.add_zero, Nat.reduceAdd, forall_const]
  refine ⟨kv t.root, fun u hu => by
    obtain ⟨T, fr, hc⟩ := (hu.both hB).rf.cell
    exact (L_flurryref11_Tree__R hc _).mpr rfl, ?_⟩
  refine ⟨.bool false, fun u hu => by rw [ne_api_ID, decide_eq_true rfl]; rfl, ?_⟩
  refine jn1_dup ?_
  simp only [nilc_some, fad_mk, pik_true, pik_false, cnd_true, cnd_false, gif_same, gif_tf, gif_ft, gif_undef, bi_add, bi_sub, bi_mul, bi_eql, bi_neq, bi_lss, bi_leq, bi_gtr, bi_geq, notB_bool, cvi_int, lenS_mk, lenT_mk, ext0, ext1, ext2, nilP_mk, nilS_mk, fldv_agg, jn0_k, jn1_k, jn2_k, jn1_and, jn1_or, ex_some, Option.isNone_some, Option.isNone_none, Bool.false_bne, Bool.bne_true, Bool.bne_false, Bool.true_bne, Bool.not_true, Bool.not_false, Bool.and_true, Bool.true_and, Bool.and_false, Bool.false_and, Bool.or_true, Bool.true_or, Bool.or_false, Bool.false_or, cond_true, cond_false, List.getElem?_toArray, List.getElem?_cons_zero, List.getElem?_cons_succ, Nat.zero_add, Nat.add_zero, Nat.reduceAdd, forall_const]
  refine rdS_ld (v := .pointer (some ⟨gr, 0, none⟩)) (fun u hu K hk => (hu.both hB).ldr hk) ?_
  simp only [nilc_some, fad_mk, pik_true, pik_false, cnd_true, cnd_false, gif_same, gif_tf, gif_ft, gif_undef, bi_add, bi_sub, bi_mul, bi_eql, bi_neq, bi_lss, bi_leq, bi_gtr, bi_geq, notB_bool, cvi_int, lenS_mk, lenT_mk, ext0, ext1, ext2, nilP_mk, nilS_mk, fldv_agg, jn0_k, jn1_k, jn2_k, jn1_and, jn1_or, ex_some, Option.isNone_some, Option.isNone_none, Bool.false_bne, Bool.bne_true, Bool.bne_false, Bool.true_bne, Bool.not_true, Bool.not_false, Bool.and_true, Bool.true_and, Bool.and_false, Bool.false_and, Bool.or_true, Bool.true_or, Bool.or_false, Bool.false_or, cond_true, cond_false, List.getElem?_toArray, List.getElem?_cons_zero, List.getElem?_cons_succ, Nat.zero_add, Nat.add_zero, Nat.reduceAdd, forall_const]
  refine rdS_ld (v := .int .i64 t.ht) (fun u hu K hk => by
    obtain ⟨T, fr, hc⟩ := (hu.both hB).rf.cell
    exact (L_flurryref11_Tree__H hc K).mpr hk) ?_
  simp only [nilc_some, fad_mk, pik_true, pik_false, cnd_true, cnd_false, gif_same, gif_tf, gif_ft, gif_undef, bi_add, bi_sub, bi_mul, bi_eql, bi_neq, bi_lss, bi_leq, bi_gtr, bi_geq, notB_bool, cvi_int, lenS_mk, lenT_mk, ext0, ext1, ext2, nilP_mk, nilS_mk, fldv_agg, jn0_k, jn1_k, jn2_k, jn1_and, jn1_or, ex_some, Option.isNone_some, Option.isNone_none, Bool.false_bne, Bool.bne_true, Bool.bne_false, Bool.true_bne, Bool.not_true, Bool.not_false, Bool.and_true, Bool.true_and, Bool.and_false, Bool.false_and, Bool.or_true, Bool.true_or, Bool.or_false, Bool.false_or, cond_true, cond_false, List.getElem?_toArray, List.getElem?_cons_zero, List.getElem?_cons_succ, Nat.zero_add, Nat.add_zero, Nat.reduceAdd, forall_const, bne_self_eq_false]
  refine jn1_dup ?_
  simp only [nilc_some, fad_mk, pik_true, pik_false, cnd_true, cnd_false, gif_same, gif_tf, gif_ft, gif_undef, bi_add, bi_sub, bi_mul, bi_eql, bi_neq, bi_lss, bi_leq, bi_gtr, bi_geq, notB_bool, cvi_int, lenS_mk, lenT_mk, ext0, ext1, ext2, nilP_mk, nilS_mk, fldv_agg, jn0_k, jn1_k, jn2_k, jn1_and, jn1_or, ex_some, Option.isNone_some, Option.isNone_none, Bool.false_bne, Bool.bne_true, Bool.bne_false, Bool.true_bne, Bool.not_true, Bool.not_false, Bool.and_true, Bool.true_and, Bool.and_false, Bool.false_and, Bool.or_true, Bool.true_or, Bool.or_false, Bool.false_or, cond_true, cond_false, List.getElem?_toArray, List.getElem?_cons_zero, List.getElem?_cons_succ, Nat.zero_add, Nat.add_zero, Nat.reduceAdd, forall_const]
  refine rdS_ld (v := .pointer (some ⟨g, 0, none⟩)) (fun u hu K hk => (hu.both hB).ldt hk) ?_
  rw [fl]
  refine efS_i (cal_i (Len_spec (hs6.both hB).tr hn) ?_)
  rintro _ _ ⟨rfl, rfl⟩
  refine ⟨hs6, ?_⟩
  simp only [nilc_some, fad_mk, pik_true, pik_false, cnd_true, cnd_false, gif_same, gif_tf, gif_ft, gif_undef, bi_add, bi_sub, bi_mul, bi_eql, bi_neq, bi_lss, bi_leq, bi_gtr, bi_geq, notB_bool, cvi_int, lenS_mk, lenT_mk, ext0, ext1, ext2, nilP_mk, nilS_mk, fldv_agg, jn0_k, jn1_k, jn2_k, jn1_and, jn1_or, ex_some, Option.isNone_some, Option.isNone_none, Bool.false_bne, Bool.bne_true, Bool.bne_false, Bool.true_bne, Bool.not_true, Bool.not_false, Bool.and_true, Bool.true_and, Bool.and_false, Bool.false_and, Bool.or_true, Bool.true_or, Bool.or_false, Bool.false_or, cond_true, cond_false, List.getElem?_toArray, List.getElem?_cons_zero, List.getElem?_cons_succ, Nat.zero_add, Nat.add_zero, Nat.reduceAdd, forall_const, bne_self_eq_false]
  refine jn1_dup ?_
  simp only [nilc_some, fad_mk, pik_true, pik_false, cnd_true, cnd_false, gif_same, gif_tf, gif_ft, gif_undef, bi_add, bi_sub, bi_mul, bi_eql, bi_neq, bi_lss, bi_leq, bi_gtr, bi_geq, notB_bool, cvi_int, lenS_mk, lenT_mk, ext0, ext1, ext2, nilP_mk, nilS_mk, fldv_agg, jn0_k, jn1_k, jn2_k, jn1_and, jn1_or, ex_some, Option.isNone_some, Option.isNone_none, Bool.false_bne, Bool.bne_true, Bool.bne_false, Bool.true_bne, Bool.not_true, Bool.not_false, Bool.and_true, Bool.true_and, Bool.and_false, Bool.false_and, Bool.or_true, Bool.true_or, Bool.or_false, Bool.false_or, cond_true, cond_false, List.getElem?_toArray, List.getElem?_cons_zero, List.getElem?_cons_succ, Nat.zero_add, Nat.add_zero, Nat.reduceAdd, forall_const]
  refine rdS_ld (v := .pointer (some ⟨g, 0, none⟩)) (fun u hu K hk => (hu.both hB).ldt hk) ?_
  refine efS_i (cal_i (All_spec (hs6.both hB).tr hn) ?_)
  rintro r1 w7 hg
  have hs7 := hs6.old hg.fr0
  refine ⟨hs7, ?_⟩
  refine efS_i (cal_i (hg.told (most := 1048576) (by rw [hNl]; exact hn) (by decide)) ?_)
  rintro r2 w8 hs8
  have hs8' := hs7.old hs8.fr0
  refine ⟨hs8', ?_⟩
  rw [List.take_of_length_le (by rw [hNl]; omega)] at hs8
  refine efS_i (cal_i (idsEqual_spec (Sep.rows hs8) (fr hs8') (by rw [hNl]; exact hn)) ?_)
  rintro _ w9 ⟨rfl, hf9⟩
  have hs9 := hs8'.old hf9
  refine ⟨hs9, ?_⟩
  simp only [nilc_some, fad_mk, pik_true, pik_false, cnd_true, cnd_false, gif_same, gif_tf, gif_ft, gif_undef, bi_add, bi_sub, bi_mul, bi_eql, bi_neq, bi_lss, bi_leq, bi_gtr, bi_geq, notB_bool, cvi_int, lenS_mk, lenT_mk, ext0, ext1, ext2, nilP_mk, nilS_mk, fldv_agg, jn0_k, jn1_k, jn2_k, jn1_and, jn1_or, ex_some, Option.isNone_some, Option.isNone_none, Bool.false_bne, Bool.bne_true, Bool.bne_false, Bool.true_bne, Bool.not_true, Bool.not_false, Bool.and_true, Bool.true_and, Bool.and_false, Bool.false_and, Bool.or_true, Bool.true_or, Bool.or_false, Bool.false_or, cond_true, cond_false, List.getElem?_toArray, List.getElem?_cons_zero, List.getElem?_cons_succ, Nat.zero_add, Nat.add_zero, Nat.reduceAdd, forall_const, decide_true]
  refine jn1_dup ?_
  simp only [nilc_some, fad_mk, pik_true, pik_false, cnd_true, cnd_false, gif_same, gif_tf, gif_ft, gif_undef, bi_add, bi_sub, bi_mul, bi_eql, bi_neq, bi_lss, bi_leq, bi_gtr, bi_geq, notB_bool, cvi_int, lenS_mk, lenT_mk, ext0, ext1, ext2, nilP_mk, nilS_mk, fldv_agg, jn0_k, jn1_k, jn2_k, jn1_and, jn1_or, ex_some, Option.isNone_some, Option.isNone_none, Bool.false_bne, Bool.bne_true, Bool.bne_false, Bool.true_bne, Bool.not_true, Bool.not_false, Bool.and_true, Bool.true_and, Bool.and_false, Bool.false_and, Bool.or_true, Bool.true_or, Bool.or_false, Bool.false_or, cond_true, cond_false, List.getElem?_toArray, List.getElem?_cons_zero, List.getElem?_cons_succ, Nat.zero_add, Nat.add_zero, Nat.reduceAdd, forall_const]
  refine rdS_ld (v := .pointer (some ⟨g, 0, none⟩)) (fun u hu K hk => (hu.both hB).ldt hk) ?_
  rw [fl]
  have em : min (2 : Int) (N.length : Int) = ((min 2 N.length : Nat) : Int) := by omega
  refine ⟨.int .i64 ((min 2 N.length : Nat) : Int), fun u hu => by rw [min_int, em], ?_⟩
  rw [hr]
  change slc 32 (.slice ra (nms N).length rc) none (some (.int .i64 ((min 2 N.length : Nat) : Int))) _
  rw [slc_to (Nat.le_trans (Nat.min_le_right _ _) (by omega))]
  refine efS_i (cal_i (All_spec (hs9.both hB).tr hn) ?_)
  rintro r3 w10 hg
  have hs10 := hs9.old hg.fr0
  refine ⟨hs10, ?_⟩
  refine efS_i (cal_i (hg.told (most := 2) (by rw [hNl]; exact hn) (by decide)) ?_)
  rintro r4 w11 hs11
  have hs11' := hs10.old hs11.fr0
  refine ⟨hs11', ?_⟩
  have e2 : (nms N).take 2 = (nms N).take (min 2 N.length) := by
    rw [← hNl]
    by_cases h : 2 ≤ (nms N).length
    · rw [Nat.min_eq_left h]
    · rw [Nat.min_eq_right (by omega), List.take_of_length_le (by omega), List.take_of_length_le (by omega)]
  rw [e2] at hs11
  have h12 := fr hs11'
  rw [hr] at h12
  refine efS_i (cal_i (idsEqual_spec (Sep.rows hs11) (Rows'.take h12 (k := min 2 N.length) (by rw [hNl]; exact Nat.min_le_right _ _) rc) (Nat.le_trans (List.length_take_le _ _) (by omega))) ?_)
  rintro _ w12 ⟨rfl, hf12⟩
  have hs12 := hs11'.old hf12
  refine ⟨hs12, ?_⟩
  simp only [nilc_some, fad_mk, pik_true, pik_false, cnd_true, cnd_false, gif_same, gif_tf, gif_ft, gif_undef, bi_add, bi_sub, bi_mul, bi_eql, bi_neq, bi_lss, bi_leq, bi_gtr, bi_geq, notB_bool, cvi_int, lenS_mk, lenT_mk, ext0, ext1, ext2, nilP_mk, nilS_mk, fldv_agg, jn0_k, jn1_k, jn2_k, jn1_and, jn1_or, ex_some, Option.isNone_some, Option.isNone_none, Bool.false_bne, Bool.bne_true, Bool.bne_false, Bool.true_bne, Bool.not_true, Bool.not_false, Bool.and_true, Bool.true_and, Bool.and_false, Bool.false_and, Bool.or_true, Bool.true_or, Bool.or_false, Bool.false_or, cond_true, cond_false, List.getElem?_toArray, List.getElem?_cons_zero, List.getElem?_cons_succ, Nat.zero_add, Nat.add_zero, Nat.reduceAdd, forall_const, decide_true]
  refine jn1_dup ?_
  simp only [nilc_some, fad_mk, pik_true, pik_false, cnd_true, cnd_false, gif_same, gif_tf, gif_ft, gif_undef, bi_add, bi_sub, bi_mul, bi_eql, bi_neq, bi_lss, bi_leq, bi_gtr, bi_geq, notB_bool, cvi_int, lenS_mk, lenT_mk, ext0, ext1, ext2, nilP_mk, nilS_mk, fldv_agg, jn0_k, jn1_k, jn2_k, jn1_and, jn1_or, ex_some, Option.isNone_some, Option.isNone_none, Bool.false_bne, Bool.bne_true, Bool.bne_false, Bool.true_bne, Bool.not_true, Bool.not_false, Bool.and_true, Bool.true_and, Bool.and_false, Bool.false_and, Bool.or_true, Bool.true_or, Bool.or_false, Bool.false_or, cond_true, cond_false, List.getElem?_toArray, List.getElem?_cons_zero, List.getElem?_cons_succ, Nat.zero_add, Nat.add_zero, Nat.reduceAdd, forall_const]
  refine ⟨kv k, fun u hu => (f3 hu _).mpr rfl, ?_⟩
  refine efS_i (cal_i (alike k hs12.fr0) ?_)
  rintro _ w13 ⟨rfl, hf13⟩
  have hs13 := hs12.old hf13
  refine ⟨hs13, ?_⟩
  simp only [nilc_some, fad_mk, pik_true, pik_false, cnd_true, cnd_false, gif_same, gif_tf, gif_ft, gif_undef, bi_add, bi_sub, bi_mul, bi_eql, bi_neq, bi_lss, bi_leq, bi_gtr, bi_geq, notB_bool, cvi_int, lenS_mk, lenT_mk, ext0, ext1, ext2, nilP_mk, nilS_mk, fldv_agg, jn0_k, jn1_k, jn2_k, jn1_and, jn1_or, ex_some, Option.isNone_some, Option.isNone_none, Bool.false_bne, Bool.bne_true, Bool.bne_false, Bool.true_bne, Bool.not_true, Bool.not_false, Bool.and_true, Bool.true_and, Bool.and_false, Bool.false_and, Bool.or_true, Bool.true_or, Bool.or_false, Bool.false_or, cond_true, cond_false, List.getElem?_toArray, List.getElem?_cons_zero, List.getElem?_cons_succ, Nat.zero_add, Nat.add_zero, Nat.reduceAdd, forall_const]
  refine (hs13.both hB).ldi ?_
  rw [hB.ids.len]
  refine ⟨fun y z => ∃ i : Nat, y = .int .i64 i ∧ i ≤ ids.length ∧ Sep w z L, fun y _ => (ids.length - RowKit.intOf y).toNat, ⟨0, rfl, by omega, hs13⟩, ?_⟩
  rintro _ w14 ⟨i, rfl, hi14, hs14⟩ -
  simp only [nilc_some, fad_mk, pik_true, pik_false, cnd_true, cnd_false, gif_same, gif_tf, gif_ft, gif_undef, bi_add, bi_sub, bi_mul, bi_eql, bi_neq, bi_lss, bi_leq, bi_gtr, bi_geq, notB_bool, cvi_int, lenS_mk, lenT_mk, ext0, ext1, ext2, nilP_mk, nilS_mk, fldv_agg, jn0_k, jn1_k, jn2_k, jn1_and, jn1_or, ex_some, Option.isNone_some, Option.isNone_none, Bool.false_bne, Bool.bne_true, Bool.bne_false, Bool.true_bne, Bool.not_true, Bool.not_false, Bool.and_true, Bool.true_and, Bool.and_false, Bool.false_and, Bool.or_true, Bool.true_or, Bool.or_false, Bool.false_or, cond_true, cond_false, List.getElem?_toArray, List.getElem?_cons_zero, List.getElem?_cons_succ, Nat.zero_add, Nat.add_zero, Nat.reduceAdd, forall_const]
  rw [cnd_bool]
  refine ⟨fun hlt => ?_, fun hlt => ?_⟩
  case refine_2 => exact hR _ _ ⟨rfl, hs14.fr0⟩
  have hlt : i < ids.length := by simp at hlt; omega
  obtain ⟨a, ha⟩ : ∃ a, ids[i]? = some a := ⟨_, List.getElem?_eq_getElem hlt⟩
  change ixs 32 _ _ _
  refine Rows'.ldN (q := rVec 32) (by decide) (hs14.both hB).ids ha .i64 ?_
  refine alloc_s hs14 (A_api_ID w14) fun g9 w15 hs15 => ?_
  refine St_api_ID (b := a) hs15 fun w16 hs16 => ?_
  refine drH_S hs16 fun w17 hs17 _ => ?_
  refine ⟨kv a, fun u hu => (L_api_ID hu.blk _).mpr rfl, ?_⟩
  refine efC_cut (cal_i (alike a hs17.fr0) ?_)
  rintro _ w18 ⟨rfl, hf18⟩
  have hs18 := hs17.old hf18
  refine ⟨fun u => Sep w u _, hs18, ?_⟩
  simp only [nilc_some, fad_mk, pik_true, pik_false, cnd_true, cnd_false, gif_same, gif_tf, gif_ft, gif_undef, bi_add, bi_sub, bi_mul, bi_eql, bi_neq, bi_lss, bi_leq, bi_gtr, bi_geq, notB_bool, cvi_int, lenS_mk, lenT_mk, ext0, ext1, ext2, nilP_mk, nilS_mk, fldv_agg, jn0_k, jn1_k, jn2_k, jn1_and, jn1_or, ex_some, Option.isNone_some, Option.isNone_none, Bool.false_bne, Bool.bne_true, Bool.bne_false, Bool.true_bne, Bool.not_true, Bool.not_false, Bool.and_true, Bool.true_and, Bool.and_false, Bool.false_and, Bool.or_true, Bool.true_or, Bool.or_false, Bool.false_or, cond_true, cond_false, List.getElem?_toArray, List.getElem?_cons_zero, List.getElem?_cons_succ, Nat.zero_add, Nat.add_zero, Nat.reduceAdd, forall_const]
  refine jn1_dup ?_
  simp only [nilc_some, fad_mk, pik_true, pik_false, cnd_true, cnd_false, gif_same, gif_tf, gif_ft, gif_undef, bi_add, bi_sub, bi_mul, bi_eql, bi_neq, bi_lss, bi_leq, bi_gtr, bi_geq, notB_bool, cvi_int, lenS_mk, lenT_mk, ext0, ext1, ext2, nilP_mk, nilS_mk, fldv_agg, jn0_k, jn1_k, jn2_k, jn1_and, jn1_or, ex_some, Option.isNone_some, Option.isNone_none, Bool.false_bne, Bool.bne_true, Bool.bne_false, Bool.true_bne, Bool.not_true, Bool.not_false, Bool.and_true, Bool.true_and, Bool.and_false, Bool.false_and, Bool.or_true, Bool.true_or, Bool.or_false, Bool.false_or, cond_true, cond_false, List.getElem?_toArray, List.getElem?_cons_zero, List.getElem?_cons_succ, Nat.zero_add, Nat.add_zero, Nat.reduceAdd, forall_const]
  refine rdS_ld (v := .pointer (some ⟨g, 0, none⟩)) (fun u hu K hk => (hu.both hB).ldt hk) ?_
  refine ⟨kv a, fun u hu => (L_api_ID hu.blk _).mpr rfl, ?_⟩
  refine ⟨kv k, fun u hu => (f3 hu.tail _).mpr rfl, ?_⟩
  refine rdS_ld (v := .pointer (some ⟨gr, 0, none⟩)) (fun u hu K hk => (hu.both hB).ldr hk) ?_
  refine ⟨kv a, fun u hu => (L_api_ID hu.blk _).mpr rfl, ?_⟩
  refine ⟨kv k, fun u hu => (f3 hu.tail _).mpr rfl, ?_⟩
  refine efS_i (cal_i (wi a k hs18.fr0) ?_)
  rintro _ w19 ⟨rfl, hf19⟩
  have hs19 := hs18.old hf19
  refine ⟨hs19, ?_⟩
  refine efS_i (cal_i (wiR a k hs19.fr0) ?_)
  rintro _ w20 ⟨rfl, hf20⟩
  have hs20 := hs19.old hf20
  refine ⟨hs20, ?_⟩
  refine ⟨.bool false, fun u hu => by rw [neS_bool _ _ UT_bool, bne_self_eq_false], ?_⟩
  refine jn1_dup ?_
  simp only [nilc_some, fad_mk, pik_true, pik_false, cnd_true, cnd_false, gif_same, gif_tf, gif_ft, gif_undef, bi_add, bi_sub, bi_mul, bi_eql, bi_neq, bi_lss, bi_leq, bi_gtr, bi_geq, notB_bool, cvi_int, lenS_mk, lenT_mk, ext0, ext1, ext2, nilP_mk, nilS_mk, fldv_agg, jn0_k, jn1_k, jn2_k, jn1_and, jn1_or, ex_some, Option.isNone_some, Option.isNone_none, Bool.false_bne, Bool.bne_true, Bool.bne_false, Bool.true_bne, Bool.not_true, Bool.not_false, Bool.and_true, Bool.true_and, Bool.and_false, Bool.false_and, Bool.or_true, Bool.true_or, Bool.or_false, Bool.false_or, cond_true, cond_false, List.getElem?_toArray, List.getElem?_cons_zero, List.getElem?_cons_succ, Nat.zero_add, Nat.add_zero, Nat.reduceAdd, forall_const]
  refine rdS_ld (v := .pointer (some ⟨g, 0, none⟩)) (fun u hu K hk => (hu.both hB).ldt hk) ?_
  refine ⟨kv k, fun u hu => (f3 hu.tail _).mpr rfl, ?_⟩
  refine ⟨kv a, fun u hu => (L_api_ID hu.blk _).mpr rfl, ?_⟩
  refine rdS_ld (v := .pointer (some ⟨gr, 0, none⟩)) (fun u hu K hk => (hu.both hB).ldr hk) ?_
  refine ⟨kv k, fun u hu => (f3 hu.tail _).mpr rfl, ?_⟩
  refine ⟨kv a, fun u hu => (L_api_ID hu.blk _).mpr rfl, ?_⟩
  refine efS_i (cal_i (wi k a hs20.fr0) ?_)
  rintro _ w21 ⟨rfl, hf21⟩
  have hs21 := hs20.old hf21
  refine ⟨hs21, ?_⟩
  refine efS_i (cal_i (wiR k a hs21.fr0) ?_)
  rintro _ w22 ⟨rfl, hf22⟩
  have hs22 := hs21.old hf22
  refine ⟨hs22, ?_⟩
  refine ⟨.bool false, fun u hu => by rw [neS_bool _ _ UT_bool, bne_self_eq_false], ?_⟩
  simp only [nilc_some, fad_mk, pik_true, pik_false, cnd_true, cnd_false, gif_same, gif_tf, gif_ft, gif_undef, bi_add, bi_sub, bi_mul, bi_eql, bi_neq, bi_lss, bi_leq, bi_gtr, bi_geq, notB_bool, cvi_int, lenS_mk, lenT_mk, ext0, ext1, ext2, nilP_mk, nilS_mk, fldv_agg, jn0_k, jn1_k, jn2_k, jn1_and, jn1_or, ex_some, Option.isNone_some, Option.isNone_none, Bool.false_bne, Bool.bne_true, Bool.bne_false, Bool.true_bne, Bool.not_true, Bool.not_false, Bool.and_true, Bool.true_and, Bool.and_false, Bool.false_and, Bool.or_true, Bool.true_or, Bool.or_false, Bool.false_or, cond_true, cond_false, List.getElem?_toArray, List.getElem?_cons_zero, List.getElem?_cons_succ, Nat.zero_add, Nat.add_zero, Nat.reduceAdd, forall_const]
  refine (hs22.both hB).ldi ?_
  rw [hB.ids.len]
  refine ⟨fun y z => ∃ j : Nat, y = .int .i64 j ∧ j ≤ ids.length ∧ Sep w z (blk g9 (Rdr.cells (rVec 32) a).toArray T_api_ID :: L), fun y _ => (ids.length - RowKit.intOf y).toNat, ⟨0, rfl, by omega, hs22⟩, ?_⟩
  rintro _ w23 ⟨j, rfl, hi23, hs23⟩ -
  simp only [nilc_some, fad_mk, pik_true, pik_false, cnd_true, cnd_false, gif_same, gif_tf, gif_ft, gif_undef, bi_add, bi_sub, bi_mul, bi_eql, bi_neq, bi_lss, bi_leq, bi_gtr, bi_geq, notB_bool, cvi_int, lenS_mk, lenT_mk, ext0, ext1, ext2, nilP_mk, nilS_mk, fldv_agg, jn0_k, jn1_k, jn2_k, jn1_and, jn1_or, ex_some, Option.isNone_some, Option.isNone_none, Bool.false_bne, Bool.bne_true, Bool.bne_false, Bool.true_bne, Bool.not_true, Bool.not_false, Bool.and_true, Bool.true_and, Bool.and_false, Bool.false_and, Bool.or_true, Bool.true_or, Bool.or_false, Bool.false_or, cond_true, cond_false, List.getElem?_toArray, List.getElem?_cons_zero, List.getElem?_cons_succ, Nat.zero_add, Nat.add_zero, Nat.reduceAdd, forall_const]
  rw [cnd_bool]
  refine ⟨fun hlt => ?_, fun hlt => ?_⟩
  case refine_2 =>
    rw [wi64 (by omega) (by omega)]
    exact ⟨⟨i + 1, by simp, by omega, hs23.tail⟩, by simp [RowKit.intOf]; omega⟩
  have hjlt : j < ids.length := by simp at hlt; omega
  obtain ⟨b, hb⟩ : ∃ b, ids[j]? = some b := ⟨_, List.getElem?_eq_getElem hjlt⟩
  change ixs 32 _ _ _
  refine Rows'.ldN (q := rVec 32) (by decide) (hs23.both hB).ids hb .i64 ?_
  refine alloc_s hs23 (A_api_ID w23) fun g11 w24 hs24 => ?_
  refine St_api_ID (b := b) hs24 fun w25 hs25 => ?_
  refine drH_S hs25 fun w26 hs26 _ => ?_
  refine rdS_ld (v := .pointer (some ⟨g, 0, none⟩)) (fun u hu K hk => (hu.both hB).ldt hk) ?_
  refine ⟨kv a, fun u hu => (L_api_ID (Sep.blk hu.p1) _).mpr rfl, ?_⟩
  refine ⟨kv b, fun u hu => (L_api_ID hu.blk _).mpr rfl, ?_⟩
  refine rdS_ld (v := .pointer (some ⟨gr, 0, none⟩)) (fun u hu K hk => (hu.both hB).ldr hk) ?_
  refine ⟨kv a, fun u hu => (L_api_ID (Sep.blk hu.p1) _).mpr rfl, ?_⟩
  refine ⟨kv b, fun u hu => (L_api_ID hu.blk _).mpr rfl, ?_⟩
  refine efS_i (cal_i (wi a b hs26.fr0) ?_)
  rintro _ w27 ⟨rfl, hf27⟩
  have hs27 := hs26.old hf27
  refine ⟨hs27, ?_⟩
  refine efC_cut (cal_i (wiR a b hs27.fr0) ?_)
  rintro _ w28 ⟨rfl, hf28⟩
  have hs28 := hs27.old hf28
  refine ⟨fun u => Sep w u _, hs28, ?_⟩
  refine ⟨.bool false, fun u hu => by rw [neS_bool _ _ UT_bool, bne_self_eq_false], ?_⟩
  simp only [nilc_some, fad_mk, pik_true, pik_false, cnd_true, cnd_false, gif_same, gif_tf, gif_ft, gif_undef, bi_add, bi_sub, bi_mul, bi_eql, bi_neq, bi_lss, bi_leq, bi_gtr, bi_geq, notB_bool, cvi_int, lenS_mk, lenT_mk, ext0, ext1, ext2, nilP_mk, nilS_mk, fldv_agg, jn0_k, jn1_k, jn2_k, jn1_and, jn1_or, ex_some, Option.isNone_some, Option.isNone_none, Bool.false_bne, Bool.bne_true, Bool.bne_false, Bool.true_bne, Bool.not_true, Bool.not_false, Bool.and_true, Bool.true_and, Bool.and_false, Bool.false_and, Bool.or_true, Bool.true_or, Bool.or_false, Bool.false_or, cond_true, cond_false, List.getElem?_toArray, List.getElem?_cons_zero, List.getElem?_cons_succ, Nat.zero_add, Nat.add_zero, Nat.reduceAdd, forall_const]
  rw [wi64 (by omega) (by omega)]
  exact ⟨⟨j + 1, by simp, by omega, hs28.tail⟩, by simp [RowKit.intOf]; omega⟩
end
end Go.Fx
set_option linter.unusedVariables false
set_option linter.unusedSimpArgs false
namespace Go.Fx
/-- What is to be added is small. -/
def GSmall (l : List GA) : Prop := ∀ x ∈ l, x.d.length ≤ 1000 ∧ x.b.d.length ≤ 1000
theorem few12_spec {w : World} {v : Value} {l : List GA} (hr : GRows w.heap v l) (hcap : capOk v) (h63 : l.length ≤ 9223372036854775807) (hok : GOk l) : cal P f_law11_few [v] w fun r w' => Fr [] w w' ∧ ∃ t, r = .bool t ∧ (t = true → l.length ≤ 40 ∧ GSmall l) := by
  refine s_law11_few fun R hR => ?_
  unfold c_law11_few
  have hq : ∃ a c, v = .slice a l.length c ∧ l.length ≤ c := by
    obtain ⟨a, c, hv, _⟩ := hr.rw
    rw [List.length_map] at hv
    exact ⟨a, c, hv, hcap _ _ _ hv⟩
  obtain ⟨a, c, hv, hc⟩ := hq
  simp only [hr.len, min_int]
  obtain ⟨n, hn⟩ : ∃ n : Nat, n = min l.length 80 := ⟨_, rfl⟩
  have e1 : min (l.length : Int) 80 = (n : Int) := by omega
  rw [e1]
  have hnl : n ≤ l.length := by omega
  have hrt : GRows w.heap (.slice a n c) (l.take n) := by
    refine ⟨?_, fun x hx => hr.d x (List.mem_of_mem_take hx)⟩
    have := hr.rw
    rw [hv] at this
    have h2 := Rows'.take this (k := n) (by simpa using hnl) c
    rwa [← List.map_take] at h2
  rw [hv, slc_to (by omega)]
  have hlt : (l.take n).length = n := by rw [List.length_take]; omega
  have h5 := hrt.len
  rw [hlt] at h5
  have h6 := hr.len
  rw [hv] at h6
  simp only [h5]
  refine ⟨fun y z => ∃ i : Nat, y = .int .i64 i ∧ i ≤ n ∧ Fr [] w z ∧ GSmall (l.take i), fun y _ => (n - RowKit.intOf y).toNat, ⟨0, rfl, by omega, Fr.refl _ _, fun x hx => by simp at hx⟩, ?_⟩
  rintro _ w1 ⟨i, rfl, hi, hf, hsm⟩ -
  simp only [nilc_some, fad_mk, pik_true, pik_false, cnd_true, cnd_false, gif_same, gif_tf, gif_ft, gif_undef, bi_add, bi_sub, bi_mul, bi_eql, bi_neq, bi_lss, bi_leq, bi_gtr, bi_geq, notB_bool, cvi_int, lenS_mk, lenT_mk, ext0, ext1, ext2, nilP_mk, nilS_mk, fldv_agg, jn0_k, jn1_k, jn2_k, jn1_and, jn1_or, ex_some, Option.isNone_some, Option.isNone_none, Bool.false_bne, Bool.bne_true, Bool.bne_false, Bool.true_bne, Bool.not_true, Bool.not_false, Bool.and_true, Bool.true_and, Bool.and_false, Bool.false_and, Bool.or_true, Bool.true_or, Bool.or_false, Bool.false_or, cond_true, cond_false, List.getElem?_toArray, List.getElem?_cons_zero, List.getElem?_cons_succ, Nat.zero_add, Nat.add_zero, Nat.reduceAdd, forall_const]
  rw [cnd_bool]
  refine ⟨fun h => ?_, fun h => ?_⟩
  · have hlt : i < n := by simp at h; omega
    obtain ⟨x, hx⟩ : ∃ x, (l.take n)[i]? = some x := ⟨_, List.getElem?_eq_getElem (by omega)⟩
    have hxm := List.mem_of_mem_take (List.mem_of_getElem? hx)
    have hxm' : ((l.take n).map GA.t)[i]? = some x.t := by rw [List.getElem?_map, hx]; rfl
    have hxl : l[i]? = some x := by
      have hx' := hx
      rw [List.getElem?_take, if_pos hlt] at hx'
      exact hx'
    change ixs 37 _ _ _
    refine Rows'.ldN (q := Q_flurrylaw11_Grow) (by decide) (hrt.rw.fr hf) hxm' .i64 ?_
    refine alloc_s ((Sep.start w).old hf) (A_flurrylaw11_Grow w1) fun g w2 hs2 => ?_
    have hd := (hr.fr hs2.fr0).d x hxm
    refine St_flurrylaw11_Grow hs2 (one_flurrylaw11_Grow hd.1.one hd.2.one) fun w3 hs3 => ?_
    have hd3 := (hr.fr hs3.fr0).d x hxm
    have l1 : ∀ K, lenS (GA.t x).2.1 K = K (.int .i64 x.d.length) := hd3.1.len
    have l2 : ∀ K, lenS (GA.t x).2.2.2.2.2 K = K (.int .i64 x.b.d.length) := hd3.2.len
    simp only [L_flurrylaw11_Grow hs3.blk, L_flurrylaw11_Grow__K hs3.blk, L_flurrylaw11_Grow__Data hs3.blk, L_flurrylaw11_Grow__Raw hs3.blk, L_flurrylaw11_Grow__B hs3.blk, L_flurrylaw11_Grow__B_Parent hs3.blk, L_flurrylaw11_Grow__B_Height hs3.blk, L_flurrylaw11_Grow__B_Data hs3.blk, l1, l2, nilc_some, fad_mk, pik_true, pik_false, cnd_true, cnd_false, gif_same, gif_tf, gif_ft, gif_undef, bi_add, bi_sub, bi_mul, bi_eql, bi_neq, bi_lss, bi_leq, bi_gtr, bi_geq, notB_bool, cvi_int, lenS_mk, lenT_mk, ext0, ext1, ext2, nilP_mk, nilS_mk, fldv_agg, jn0_k, jn1_k, jn2_k, jn1_and, jn1_or, ex_some, Option.isNone_some, Option.isNone_none, Bool.false_bne, Bool.bne_true, Bool.bne_false, Bool.true_bne, Bool.not_true, Bool.not_false, Bool.and_true, Bool.true_and, Bool.and_false, Bool.false_and, Bool.or_true, Bool.true_or, Bool.or_false, Bool.false_or, cond_true, cond_false, List.getElem?_toArray, List.getElem?_cons_zero, List.getElem?_cons_succ, Nat.zero_add, Nat.add_zero, Nat.reduceAdd, forall_const]
    rw [cnd_bool]
    refine ⟨fun h => hR _ _ ⟨hs3.fr0, false, rfl, fun h => by cases h⟩, fun h => ?_⟩
    rw [wi64 (by omega) (by omega)]
    refine ⟨⟨i + 1, by simp, by omega, hs3.fr0, ?_⟩, by simp [RowKit.intOf]; omega⟩
    have hx2 : x.d.length ≤ 1000 ∧ x.b.d.length ≤ 1000 := by
      simp at h
      omega
    rw [List.take_add_one, hxl]
    intro y hy
    rcases List.mem_append.1 hy with hy | hy
    · exact hsm y hy
    · have : y = x := by simpa using hy
      rw [this]; exact hx2
  · have hge : i = n := by simp at h; omega
    refine hR _ _ ⟨hf, _, rfl, fun h => ?_⟩
    have h40 : l.length ≤ 40 := by simp at h; omega
    rw [hge, List.take_of_length_le (by omega)] at hsm
    exact ⟨h40, hsm⟩
theorem bG_len {ids : List (Vec 32)} {hs : List Int} {l : List GA} {x : GA} (h : GSmall l) (hx : x ∈ l) : (bG ids hs x).d.length ≤ 1000 := by
  unfold bG
  cases x.raw
  · exact (h x hx).1
  · exact (h x hx).2
section
variable {w0 w w' : World} {As : List Asn} {gx g gm gr c : Nat} {ov lv x : Value} {t : Tr} {N M : List TN} {ids : List (Vec 32)}
theorem RNew_spec (r : Vec 32) (h m : Int) : cal P f_ref11_New [kv r, .int .i64 h, .int .i64 m] w fun v w' => (¬ (0 ≤ h ∧ 1 ≤ m ∧ m ≤ 256) ∧ v = .tuple #[.pointer none, .int .i64 1] ∧ Fr [] w w') ∨
    ((0 ≤ h ∧ 1 ≤ m ∧ m ≤ 256) ∧ ∃ g, v = .tuple #[.pointer (some ⟨g, 0, none⟩), .int .i64 0] ∧ Sep w w' (rfH g (.slice none 0 0) ⟨r, h, m⟩ [])) := by
  refine s_ref11_New fun R hR => ?_
  unfold c_ref11_New
  refine bxQ (Sep.start w) fun g1 w1 hs1 => ?_
  simp only [nilc_some, fad_mk, pik_true, pik_false, cnd_true, cnd_false, gif_same, gif_tf, gif_ft, gif_undef, bi_add, bi_sub, bi_mul, bi_eql, bi_neq, bi_lss, bi_leq, bi_gtr, bi_geq, notB_bool, cvi_int, lenS_mk, lenT_mk, ext0, ext1, ext2, nilP_mk, nilS_mk, fldv_agg, jn0_k, jn1_k, jn2_k, jn1_and, jn1_or, ex_some, Option.isNone_some, Option.isNone_none, Bool.false_bne, Bool.bne_true, Bool.bne_false, Bool.true_bne, Bool.not_true, Bool.not_false, Bool.and_true, Bool.true_and, Bool.and_false, Bool.false_and, Bool.or_true, Bool.true_or, Bool.or_false, Bool.false_or, cond_true, cond_false, List.getElem?_toArray, List.getElem?_cons_zero, List.getElem?_cons_succ, Nat.zero_add, Nat.add_zero, Nat.reduceAdd, forall_const]
  rw [cnd_bool]
  refine ⟨fun hc => ?_, fun hc => ?_⟩
  · simp only [Bool.or_eq_true, decide_eq_true_eq] at hc
    exact hR _ _ (.inl ⟨by omega, rfl, hs1.fr0⟩)
  simp only [Bool.or_eq_false_iff, decide_eq_false_iff_not] at hc
  simp only [L_api_ID hs1.blk]
  rw [B_flurryref11_Tree_0_1_2]
  refine bxQ hs1 fun g3 w3 hs3 => ?_
  refine hR _ _ (.inr ⟨by omega, g3, rfl, ?_⟩)
  exact Sep.dropR (As := rfH g3 (.slice none 0 0) ⟨r, h, m⟩ []) (Sep.pick (hs3.nilR (q := Q_flurryref11_Node)) [1, 0] 3)
def AddRel (t : Tr) (N : List TN) (b : Blk) (N' : List TN) (E : List Asn) : Prop :=
  (addE t N b ≠ 0 ∧ N' = N ∧ E = []) ∨ (addE t N b = 0 ∧ ∃ vd c, N' = N ++ [(b.id, b, vd, c)] ∧ E = [ownB vd b.d])
def addId (t : Tr) (N : List TN) (b : Blk) : Vec 32 := if addE t N b = 0 then b.id else vz 32
theorem AddU {b : Blk} {v : Value} (Cs Ds : List Asn) (hs : Sep w0 w (trH g gm ov t N c ++ (Cs ++ Ds))) (hd : Dat N (Cs ++ Ds)) (hw : TrW t N) (hC : Cub w) (hb : RdB w.heap v b.d) (hh : b.h ≤ maxI) (hn : N.length ≤ 1000000) :
    cal P f_tree_Tree_Add [.pointer (some ⟨g, 0, none⟩), bq b v] w fun r w' => ∃ N' ov' c' E, r = .tuple #[kv (addId t N b), .int .i64 (addE t N b)] ∧ AddRel t N b N' E ∧ Sep w0 w' (trH g gm ov' t N' c' ++ (Cs ++ (E ++ Ds))) := by
  refine cal_i (Add_spec hs hd hw hC hb hh hn) ?_
  rintro r w' (⟨he, rfl, hs'⟩ | ⟨he, rfl, ov', vd, hs'⟩)
  · exact ⟨N, ov, c, [], by rw [addId, if_neg he], .inl ⟨he, rfl, rfl⟩, hs'⟩
  · exact ⟨_, ov', _, [ownB vd b.d], by rw [addId, if_pos he, he], .inr ⟨he, vd, c, rfl, rfl⟩, hs'.perm ((List.perm_append_comm_assoc [ownB vd b.d] Cs Ds).append_left _)⟩
theorem AddRU {b : Blk} {v : Value} (Cs Ds : List Asn) (hs : Sep w0 w (rfH g lv t N ++ (Cs ++ Ds))) (hd : Dat N (Cs ++ Ds)) (hb : RdB w.heap v b.d) (hh : b.h ≤ maxI) (hn : N.length ≤ 1000000) :
    cal P f_ref11_Tree_Add [.pointer (some ⟨g, 0, none⟩), bq b v] w fun r w' => ∃ N' lv' E, r = .tuple #[kv (addId t N b), .int .i64 (addE t N b)] ∧ AddRel t N b N' E ∧ Sep w0 w' (rfH g lv' t N' ++ (Cs ++ (E ++ Ds))) := by
  refine cal_i (AddR_spec hs hd hb hh hn) ?_
  rintro r w' (⟨he, rfl, hs'⟩ | ⟨he, rfl, lv', vd, hs'⟩)
  · exact ⟨N, lv, [], by rw [addId, if_neg he], .inl ⟨he, rfl, rfl⟩, hs'⟩
  · exact ⟨_, lv', [ownB vd b.d], by rw [addId, if_pos he, he], .inr ⟨he, vd, 0, rfl, rfl⟩, hs'.perm ((List.perm_append_comm_assoc [ownB vd b.d] Cs Ds).append_left _)⟩
theorem kb_addE (h : kbs N = kbs M) (b : Blk) : addE t N b = addE t M b := by unfold addE; rw [kb_has h, kb_has h, kb_lev h, kb_len h]
theorem kb_addId (h : kbs N = kbs M) (b : Blk) : addId t N b = addId t M b := by unfold addId; rw [kb_addE h]
/-- The loop that turns all bytes of what a field holds. -/
theorem flip_loopQ {p d : Value} {l : List UInt8} {Kend : World → Prop} (hs : Sep w0 w (ownB d l :: As)) (hp : ∀ z l', Sep w0 z (ownB d l' :: As) → ∀ K : Value → Prop, K d → ld1 p z.heap K) (hl : l.length ≤ 9223372036854775806) (h : ∀ w', Sep w0 w' (ownB d (flip l l.length) :: As) → Kend w') :
    lp1 (Value.int IntKind.i64 0) w fun _ t89 w again7 => bi BinOp.lss t89 (.int .i64 l.length) fun t90 =>
      cnd t90 (ld1 p w.heap fun t92 => ixs 1 t92 t89 fun t94 => ld1 t94 w.heap fun t95 => bi BinOp.xor t95 (Value.int IntKind.u8 255) fun t96 => ixs 1 t92 t89 fun t97 => st1 t97 t96 w fun w => bi BinOp.add t89 (Value.int IntKind.i64 1) fun t98 => again7 t98 w) (Kend w) := by
  refine ⟨fun x w' => ∃ i : Nat, x = .int .i64 i ∧ i ≤ l.length ∧ Sep w0 w' (ownB d (flip l i) :: As), fun x _ => (l.length - RowKit.intOf x).toNat, ⟨0, rfl, by omega, by rw [flip_zero]; exact hs⟩, ?_⟩
  rintro _ w1 ⟨i, rfl, hi, hs1⟩ -
  simp only [nilc_some, fad_mk, pik_true, pik_false, cnd_true, cnd_false, gif_same, gif_tf, gif_ft, gif_undef, bi_add, bi_sub, bi_mul, bi_eql, bi_neq, bi_lss, bi_leq, bi_gtr, bi_geq, notB_bool, cvi_int, lenS_mk, lenT_mk, ext0, ext1, ext2, nilP_mk, nilS_mk, fldv_agg, jn0_k, jn1_k, jn2_k, jn1_and, jn1_or, ex_some, Option.isNone_some, Option.isNone_none, Bool.false_bne, Bool.bne_true, Bool.bne_false, Bool.true_bne, Bool.not_true, Bool.not_false, Bool.and_true, Bool.true_and, Bool.and_false, Bool.false_and, Bool.or_true, Bool.true_or, Bool.or_false, Bool.false_or, cond_true, cond_false, List.getElem?_toArray, List.getElem?_cons_zero, List.getElem?_cons_succ, Nat.zero_add, Nat.add_zero, Nat.reduceAdd, forall_const]
  rw [cnd_bool]
  refine ⟨fun hlt => ?_, fun hlt => ?_⟩
  · have hlt : i < l.length := by simp at hlt; omega
    refine hp _ _ hs1 _ ?_
    refine ldxB_s hs1 (by rw [flip_len]; exact hlt) ?_
    rw [xor255, flip_get hlt]
    refine stxB_s hs1 (by rw [flip_len]; exact hlt) _ fun w2 hs2 => ?_
    rw [flip_set hlt] at hs2
    rw [wi64 (by omega) (by omega)]
    exact ⟨⟨i + 1, by simp, by omega, hs2⟩, by simp [RowKit.intOf]; omega⟩
  · have hge : i = l.length := by simp at hlt; omega
    subst hge
    exact h _ hs1
/-- Both trees as they are made. -/
def BState (w0 w : World) (t : Tr) (n : Nat) (gx g gm gr : Nat) (y : Value) (Xs : List Asn) : Prop :=
  ∃ N M ov lv x c Ds, TI t N ∧ kbs N = kbs M ∧ N.length ≤ n ∧ Dat N Ds ∧ Dat M Ds ∧
    Sep w0 w (trH g gm ov t N c ++ (rfH gr lv t M ++ (blk gx (Rdr.cells Q_flurrylaw11_both (.pointer (some ⟨g, 0, none⟩), .pointer (some ⟨gr, 0, none⟩), x)).toArray T_flurrylaw11_both :: rows (rVec 32) x (idsT t N) :: rows (rInt .i64) y (htsT t N) :: (Xs ++ Ds))))
theorem made_spec {q : Vec 32 × Int × Int} {v : Value} {l : List GA} (hC : Cub w) (hr : GRows w.heap v l) (hok : GOk l) (hsm : GSmall l) (hl : l.length ≤ 1000) :
    cal P f_law11_made [.agg (Rdr.cells Q_flurrylaw11_Start q).toArray, v] w fun r w' => (r = .tuple #[.pointer none, .bool true] ∧ Fr [] w w') ∨
      (0 ≤ q.2.1 ∧ ∃ gx g gm gr y, r = .tuple #[.pointer (some ⟨gx, 0, none⟩), .bool true] ∧ BState w w' ⟨q.1, q.2.1, q.2.2⟩ l.length gx g gm gr y []) := by
  refine s_law11_made fun R hR => ?_
  unfold c_law11_made
  refine bxQ (Sep.start w) fun g2 w1 hs1 => ?_
  simp only [L_flurrylaw11_Start hs1.blk, L_flurrylaw11_Start__Root hs1.blk, L_flurrylaw11_Start__Height hs1.blk, L_flurrylaw11_Start__Most hs1.blk, nilc_some, fad_mk, pik_true, pik_false, cnd_true, cnd_false, gif_same, gif_tf, gif_ft, gif_undef, bi_add, bi_sub, bi_mul, bi_eql, bi_neq, bi_lss, bi_leq, bi_gtr, bi_geq, notB_bool, cvi_int, lenS_mk, lenT_mk, ext0, ext1, ext2, nilP_mk, nilS_mk, fldv_agg, jn0_k, jn1_k, jn2_k, jn1_and, jn1_or, ex_some, Option.isNone_some, Option.isNone_none, Bool.false_bne, Bool.bne_true, Bool.bne_false, Bool.true_bne, Bool.not_true, Bool.not_false, Bool.and_true, Bool.true_and, Bool.and_false, Bool.false_and, Bool.or_true, Bool.true_or, Bool.or_false, Bool.false_or, cond_true, cond_false, List.getElem?_toArray, List.getElem?_cons_zero, List.getElem?_cons_succ, Nat.zero_add, Nat.add_zero, Nat.reduceAdd, forall_const]
  refine cal_i (tNew_spec q.1 q.2.1 q.2.2) ?_
  rintro _ w2 (⟨hno, rfl, hf2⟩ | ⟨hq, g, gm, rfl, hs2⟩)
  · have hs2 := hs1.old hf2
    simp only [nilc_some, fad_mk, pik_true, pik_false, cnd_true, cnd_false, gif_same, gif_tf, gif_ft, gif_undef, bi_add, bi_sub, bi_mul, bi_eql, bi_neq, bi_lss, bi_leq, bi_gtr, bi_geq, notB_bool, cvi_int, lenS_mk, lenT_mk, ext0, ext1, ext2, nilP_mk, nilS_mk, fldv_agg, jn0_k, jn1_k, jn2_k, jn1_and, jn1_or, ex_some, Option.isNone_some, Option.isNone_none, Bool.false_bne, Bool.bne_true, Bool.bne_false, Bool.true_bne, Bool.not_true, Bool.not_false, Bool.and_true, Bool.true_and, Bool.and_false, Bool.false_and, Bool.or_true, Bool.true_or, Bool.or_false, Bool.false_or, cond_true, cond_false, List.getElem?_toArray, List.getElem?_cons_zero, List.getElem?_cons_succ, Nat.zero_add, Nat.add_zero, Nat.reduceAdd, forall_const, L_flurrylaw11_Start hs2.blk, L_flurrylaw11_Start__Root hs2.blk, L_flurrylaw11_Start__Height hs2.blk, L_flurrylaw11_Start__Most hs2.blk]
    refine cal_i (RNew_spec q.1 q.2.1 q.2.2) ?_
    rintro _ w3 (⟨_, rfl, hf3⟩ | ⟨hq, _⟩)
    · simp only [nilc_some, fad_mk, pik_true, pik_false, cnd_true, cnd_false, gif_same, gif_tf, gif_ft, gif_undef, bi_add, bi_sub, bi_mul, bi_eql, bi_neq, bi_lss, bi_leq, bi_gtr, bi_geq, notB_bool, cvi_int, lenS_mk, lenT_mk, ext0, ext1, ext2, nilP_mk, nilS_mk, fldv_agg, jn0_k, jn1_k, jn2_k, jn1_and, jn1_or, ex_some, Option.isNone_some, Option.isNone_none, Bool.false_bne, Bool.bne_true, Bool.bne_false, Bool.true_bne, Bool.not_true, Bool.not_false, Bool.and_true, Bool.true_and, Bool.and_false, Bool.false_and, Bool.or_true, Bool.true_or, Bool.or_false, Bool.false_or, cond_true, cond_false, List.getElem?_toArray, List.getElem?_cons_zero, List.getElem?_cons_succ, Nat.zero_add, Nat.add_zero, Nat.reduceAdd, forall_const, show ((1 : Int) != 1) = false from rfl, show ((1 : Int) != 0) = true from rfl, Option.isNone_none, neS_bool _ _ UT_bool, show (true != true) = false from rfl]
      exact hR _ _ (.inl ⟨rfl, (hs2.old hf3).fr0⟩)
    · exact absurd hq hno
  replace hs2 := hs1.join hs2
  simp only [nilc_some, fad_mk, pik_true, pik_false, cnd_true, cnd_false, gif_same, gif_tf, gif_ft, gif_undef, bi_add, bi_sub, bi_mul, bi_eql, bi_neq, bi_lss, bi_leq, bi_gtr, bi_geq, notB_bool, cvi_int, lenS_mk, lenT_mk, ext0, ext1, ext2, nilP_mk, nilS_mk, fldv_agg, jn0_k, jn1_k, jn2_k, jn1_and, jn1_or, ex_some, Option.isNone_some, Option.isNone_none, Bool.false_bne, Bool.bne_true, Bool.bne_false, Bool.true_bne, Bool.not_true, Bool.not_false, Bool.and_true, Bool.true_and, Bool.and_false, Bool.false_and, Bool.or_true, Bool.true_or, Bool.or_false, Bool.false_or, cond_true, cond_false, List.getElem?_toArray, List.getElem?_cons_zero, List.getElem?_cons_succ, Nat.zero_add, Nat.add_zero, Nat.reduceAdd, forall_const, L_flurrylaw11_Start (Sep.blk (Sep.pick hs2 [3] 4)), L_flurrylaw11_Start__Root (Sep.blk (Sep.pick hs2 [3] 4)), L_flurrylaw11_Start__Height (Sep.blk (Sep.pick hs2 [3] 4)), L_flurrylaw11_Start__Most (Sep.blk (Sep.pick hs2 [3] 4))]
  refine cal_i (RNew_spec q.1 q.2.1 q.2.2) ?_
  rintro _ w3 (⟨hno, _⟩ | ⟨_, gr, rfl, hs3⟩)
  · exact absurd hq hno
  replace hs3 := hs2.join hs3
  obtain ⟨t, ht⟩ : ∃ t : Tr, t = ⟨q.1, q.2.1, q.2.2⟩ := ⟨_, rfl⟩
  rw [← ht] at hs3 hR
  have e1 : q.1 = t.root := by rw [ht]
  have e2 : q.2.1 = t.ht := by rw [ht]
  have ht0 : 0 ≤ t.ht := by rw [← e2]; exact hq.1
  replace hs3 : Sep w w3 (rfH gr (.slice none 0 0) t [] ++ (trH g gm (.slice none 0 0) t [] 0 ++ [blk g2 (Rdr.cells Q_flurrylaw11_Start q).toArray T_flurrylaw11_Start])) := hs3
  simp only [nilc_some, fad_mk, pik_true, pik_false, cnd_true, cnd_false, gif_same, gif_tf, gif_ft, gif_undef, bi_add, bi_sub, bi_mul, bi_eql, bi_neq, bi_lss, bi_leq, bi_gtr, bi_geq, notB_bool, cvi_int, lenS_mk, lenT_mk, ext0, ext1, ext2, nilP_mk, nilS_mk, fldv_agg, jn0_k, jn1_k, jn2_k, jn1_and, jn1_or, ex_some, Option.isNone_some, Option.isNone_none, Bool.false_bne, Bool.bne_true, Bool.bne_false, Bool.true_bne, Bool.not_true, Bool.not_false, Bool.and_true, Bool.true_and, Bool.and_false, Bool.false_and, Bool.or_true, Bool.true_or, Bool.or_false, Bool.false_or, cond_true, cond_false, List.getElem?_toArray, List.getElem?_cons_zero, List.getElem?_cons_succ, Nat.zero_add, Nat.add_zero, Nat.reduceAdd, forall_const, show ((0 : Int) != 0) = false from rfl, Option.isNone_some, neS_bool _ _ UT_bool, show (false != false) = false from rfl]
  simp only [L_flurrylaw11_Start (Sep.blk (Sep.pick hs3 [5] 6)), L_flurrylaw11_Start__Root (Sep.blk (Sep.pick hs3 [5] 6)), L_flurrylaw11_Start__Height (Sep.blk (Sep.pick hs3 [5] 6)), L_flurrylaw11_Start__Most (Sep.blk (Sep.pick hs3 [5] 6))]
  refine bldI hs3 fun x0 w4 hs4 => ?_
  rw [B_flurrylaw11_both_0_1_2 rfl rfl (Sep.oneR hs4)]
  refine bxQ hs4 fun gx w5 hs5 => ?_
  simp only [L_flurrylaw11_Start (Sep.blk (Sep.pick hs5 [7] 8)), L_flurrylaw11_Start__Root (Sep.blk (Sep.pick hs5 [7] 8)), L_flurrylaw11_Start__Height (Sep.blk (Sep.pick hs5 [7] 8)), L_flurrylaw11_Start__Most (Sep.blk (Sep.pick hs5 [7] 8))]
  refine bldH hs5 fun y0 w6 hs6 => ?_
  simp only [hr.len]
  refine ⟨fun y z w' => ∃ i : Nat, z = .int .i64 i ∧ i ≤ l.length ∧ BState w w' t i gx g gm gr y [blk g2 (Rdr.cells Q_flurrylaw11_Start q).toArray T_flurrylaw11_Start], fun _ z _ => (l.length - RowKit.intOf z).toNat, ⟨0, rfl, by omega, ?_⟩, ?_⟩
  · refine ⟨[], [], .slice none 0 0, .slice none 0 0, x0, 0, [], TI.nil ht0, rfl, by simp, Dat.nil _, Dat.nil _, ?_⟩
    rw [e1, e2] at hs6
    exact Sep.pick hs6 [5, 6, 7, 3, 4, 1, 2, 0, 8] 9
  clear hs6 hs5 hs4 hs3 hs2
  rintro y _ w5 ⟨i, rfl, hi, N, M, ov, lv, x, c, Ds, hTI, hkb, hN, hD, hDM, hs5⟩ -
  simp only [nilc_some, fad_mk, pik_true, pik_false, cnd_true, cnd_false, gif_same, gif_tf, gif_ft, gif_undef, bi_add, bi_sub, bi_mul, bi_eql, bi_neq, bi_lss, bi_leq, bi_gtr, bi_geq, notB_bool, cvi_int, lenS_mk, lenT_mk, ext0, ext1, ext2, nilP_mk, nilS_mk, fldv_agg, jn0_k, jn1_k, jn2_k, jn1_and, jn1_or, ex_some, Option.isNone_some, Option.isNone_none, Bool.false_bne, Bool.bne_true, Bool.bne_false, Bool.true_bne, Bool.not_true, Bool.not_false, Bool.and_true, Bool.true_and, Bool.and_false, Bool.false_and, Bool.or_true, Bool.true_or, Bool.or_false, Bool.false_or, cond_true, cond_false, List.getElem?_toArray, List.getElem?_cons_zero, List.getElem?_cons_succ, Nat.zero_add, Nat.add_zero, Nat.reduceAdd, forall_const]
  rw [cnd_bool]
  refine ⟨fun h => ?_, fun h => ?_⟩
  case refine_2 =>
    have hge : i = l.length := by simp at h; omega
    refine hR _ _ (.inr ⟨by rw [e2]; exact ht0, gx, g, gm, gr, y, rfl, N, M, ov, lv, x, c, blk g2 (Rdr.cells Q_flurrylaw11_Start q).toArray T_flurrylaw11_Start :: Ds, hTI, hkb, by omega, hD.sub (fun A hA => List.mem_cons_of_mem _ hA), hDM.sub (fun A hA => List.mem_cons_of_mem _ hA), hs5⟩)
  have hlt : i < l.length := by simp at h; omega
  obtain ⟨a, ha⟩ : ∃ a, l[i]? = some a := ⟨_, List.getElem?_eq_getElem hlt⟩
  have ham := List.mem_of_getElem? ha
  have hak := hok a ham
  have ha' : (l.map GA.t)[i]? = some a.t := by rw [List.getElem?_map, ha]; rfl
  refine ⟨fun y w' => BState w w' t (i + 1) gx g gm gr y [blk g2 (Rdr.cells Q_flurrylaw11_Start q).toArray T_flurrylaw11_Start], ?_, ?_⟩
  case refine_2 =>
    rintro y' w6 hg6 _
    rw [wi64 (by omega) (by omega)]
    exact ⟨⟨i + 1, by simp, by omega, hg6⟩, by simp [RowKit.intOf]; omega⟩
  change ixs 37 _ _ _
  refine Rows'.ldN (q := Q_flurrylaw11_Grow) (by decide) (hr.rw.fr hs5.fr0) ha' .i64 ?_
  refine alloc_s hs5 (A_flurrylaw11_Grow w5) fun g13 w6 hs6 => ?_
  have hd6 := (hr.fr hs6.fr0).d a ham
  refine St_flurrylaw11_Grow hs6 (one_flurrylaw11_Grow hd6.1.one hd6.2.one) fun w7 hs7 => ?_
  obtain ⟨b, hb⟩ : ∃ b, b = bG (idsT t N) (htsT t N) a := ⟨_, rfl⟩
  have hbh : b.h ≤ maxI := by rw [hb]; exact bG_h hak.2.1
  have hbl : b.d.length ≤ 1000 := by rw [hb]; exact bG_len hsm ham
  have hbd : ∀ {z : World}, Fr [] w z → RdB z.heap a.v b.d := fun hf => by
    rw [hb]
    exact bG_rd ((hr.fr hf).d a ham)
  have hbo : a.v.oneCell' = true := (hbd (Fr.refl _ w)).one
  have blk11 : ∀ {z : World}, Sep w z (blk g13 (Rdr.cells Q_flurrylaw11_Grow a.t).toArray T_flurrylaw11_Grow :: (trH g gm ov t N c ++ (rfH gr lv t M ++ (blk gx (Rdr.cells Q_flurrylaw11_both (.pointer (some ⟨g, 0, none⟩), .pointer (some ⟨gr, 0, none⟩), x)).toArray T_flurrylaw11_both :: rows (rVec 32) x (idsT t N) :: rows (rInt .i64) y (htsT t N) :: ([blk g2 (Rdr.cells Q_flurrylaw11_Start q).toArray T_flurrylaw11_Start] ++ Ds))))) →
      cal P f_law11_block [.agg (Rdr.cells Q_flurrylaw11_Start q).toArray, .agg (Rdr.cells Q_flurrylaw11_Grow a.t).toArray, x, y] z fun r w' => r = bq b a.v ∧ Fr [] z w' := fun {z} hz => by
    rw [hb]
    exact block11_spec (Sep.rows (Sep.pick hz [7] 8)) (Sep.rows (Sep.pick hz [8] 9)) (by simp) (by simp) (by simp; omega) ((hr.fr hz.fr0).d a ham) (hts_nonneg hTI) hak.1
  refine drH_S hs7 fun w8 hs8 _ => ?_
  simp only [nilc_some, fad_mk, pik_true, pik_false, cnd_true, cnd_false, gif_same, gif_tf, gif_ft, gif_undef, bi_add, bi_sub, bi_mul, bi_eql, bi_neq, bi_lss, bi_leq, bi_gtr, bi_geq, notB_bool, cvi_int, lenS_mk, lenT_mk, ext0, ext1, ext2, nilP_mk, nilS_mk, fldv_agg, jn0_k, jn1_k, jn2_k, jn1_and, jn1_or, ex_some, Option.isNone_some, Option.isNone_none, Bool.false_bne, Bool.bne_true, Bool.bne_false, Bool.true_bne, Bool.not_true, Bool.not_false, Bool.and_true, Bool.true_and, Bool.and_false, Bool.false_and, Bool.or_true, Bool.true_or, Bool.or_false, Bool.false_or, cond_true, cond_false, List.getElem?_toArray, List.getElem?_cons_zero, List.getElem?_cons_succ, Nat.zero_add, Nat.add_zero, Nat.reduceAdd, forall_const]
  refine ⟨fun v z => ∃ g14, v = .pointer (some ⟨g14, 0, none⟩) ∧ Sep w z (blk g14 (Rdr.cells Q_api_Block (b.p, b.h, a.v)).toArray T_api_Block :: blk g13 (Rdr.cells Q_flurrylaw11_Grow a.t).toArray T_flurrylaw11_Grow :: (trH g gm ov t N c ++ (rfH gr lv t M ++ (blk gx (Rdr.cells Q_flurrylaw11_both (.pointer (some ⟨g, 0, none⟩), .pointer (some ⟨gr, 0, none⟩), x)).toArray T_flurrylaw11_both :: rows (rVec 32) x (idsT t N) :: rows (rInt .i64) y (htsT t N) :: ([blk g2 (Rdr.cells Q_flurrylaw11_Start q).toArray T_flurrylaw11_Start] ++ Ds))))), ?_, ?_⟩
  · refine ⟨.agg (Rdr.cells Q_flurrylaw11_Start q).toArray, fun u hu => (L_flurrylaw11_Start (Sep.blk (Sep.pick hu [9] 10)) _).mpr rfl, ?_⟩
    refine ⟨.agg (Rdr.cells Q_flurrylaw11_Grow a.t).toArray, fun u hu => (L_flurrylaw11_Grow hu.blk _).mpr rfl, ?_⟩
    refine rdS_ld (v := x) (fun u hu K hk => (L_flurrylaw11_both__ids (Sep.blk (Sep.pick hu [6] 7)) K).mpr hk) ?_
    refine ⟨?_, ?_, trivial⟩
    · refine efC_cut (cal_i (blk11 hs8) ?_)
      rintro _ w9 ⟨rfl, hf9⟩
      have hs9 := hs8.old hf9
      refine ⟨fun u => Sep w u _, hs9, ?_⟩
      refine efS_i (alloc_s hs9 (A_api_Block w9) fun g14 w10 hs10 => ⟨hs10.tail, ?_⟩)
      refine efC_stN (St_api_Block hs10 (one_api_Block hbo) fun w11 hs11 => ?_)
      exact ⟨g14, rfl, hs11⟩
    · refine efS_i (alloc_s hs8 (A_api_Block w8) fun g14 w9 hs9 => ⟨hs9.tail, ?_⟩)
      refine efC_cut (cal_i (blk11 hs9.tail) ?_)
      rintro _ w10 ⟨rfl, hf10⟩
      have hs10 := hs9.old hf10
      refine ⟨fun u => True, trivial, ?_⟩
      refine efC_stN (St_api_Block hs10 (one_api_Block hbo) fun w11 hs11 => ?_)
      exact ⟨g14, rfl, hs11⟩
  clear blk11 hs8 hs7 hs6 hs5
  rintro _ w11 ⟨g14, rfl, hs11⟩ _
  simp only [L_api_Block (Sep.blk hs11), L_api_Block__Parent (Sep.blk hs11), L_api_Block__Height (Sep.blk hs11), L_api_Block__Data (Sep.blk hs11)]
  refine cal_i (rbClone_spec (b := b) (v := a.v) (hbd hs11.fr0) (by omega)) ?_
  rintro _ w12 ⟨vd, rfl, hs12⟩
  replace hs12 := hs11.join hs12
  refine alloc_s hs12 (A_api_Block w12) fun g15 w13 hs13 => ?_
  refine St_api_Block hs13 (one_api_Block (Sep.one hs12)) fun w14 hs14 => ?_
  simp only [L_api_Block (Sep.blk hs14), L_api_Block__Parent (Sep.blk hs14), L_api_Block__Height (Sep.blk hs14), L_api_Block__Data (Sep.blk hs14)]
  refine cal_i (AddU [blk g15 (Rdr.cells Q_api_Block (b.p, b.h, vd)).toArray T_api_Block, ownB vd b.d, blk g14 (Rdr.cells Q_api_Block (b.p, b.h, a.v)).toArray T_api_Block, blk g13 (Rdr.cells Q_flurrylaw11_Grow a.t).toArray T_flurrylaw11_Grow, blk gr (Rdr.cells Q_flurryref11_Tree (t.root, t.ht, t.most, lv)).toArray T_flurryref11_Tree, rows Q_flurryref11_Node lv (M.map TN.nd), blk gx (Rdr.cells Q_flurrylaw11_both (.pointer (some ⟨g, 0, none⟩), .pointer (some ⟨gr, 0, none⟩), x)).toArray T_flurrylaw11_both, rows (rVec 32) x (idsT t N), rows (rInt .i64) y (htsT t N), blk g2 (Rdr.cells Q_flurrylaw11_Start q).toArray T_flurrylaw11_Start] Ds
    (Sep.pick hs14 [4, 5, 6, 0, 1, 2, 3, 7, 8, 9, 10, 11, 12] 13) (hD.sub fun A hA => List.mem_append_right _ hA) hTI.w (hC.fr hs14.fr0) (Sep.rd hs14.p1) hbh (by omega)) ?_
  rintro _ w15 ⟨N', ov', c', E, rfl, hAN, hs15⟩
  simp only [nilc_some, fad_mk, pik_true, pik_false, cnd_true, cnd_false, gif_same, gif_tf, gif_ft, gif_undef, bi_add, bi_sub, bi_mul, bi_eql, bi_neq, bi_lss, bi_leq, bi_gtr, bi_geq, notB_bool, cvi_int, lenS_mk, lenT_mk, ext0, ext1, ext2, nilP_mk, nilS_mk, fldv_agg, jn0_k, jn1_k, jn2_k, jn1_and, jn1_or, ex_some, Option.isNone_some, Option.isNone_none, Bool.false_bne, Bool.bne_true, Bool.bne_false, Bool.true_bne, Bool.not_true, Bool.not_false, Bool.and_true, Bool.true_and, Bool.and_false, Bool.false_and, Bool.or_true, Bool.true_or, Bool.or_false, Bool.false_or, cond_true, cond_false, List.getElem?_toArray, List.getElem?_cons_zero, List.getElem?_cons_succ, Nat.zero_add, Nat.add_zero, Nat.reduceAdd, forall_const]
  refine alloc_s hs15 (A_api_ID w15) fun g16 w16 hs16 => ?_
  refine St_api_ID hs16 fun w17 hs17 => ?_
  refine (L_api_Block__Data (Sep.blk (Sep.pick hs17 [4] 5)) _).mpr ?_
  change lenS vd _
  rw [(Sep.rd (Sep.pick hs17 [5] 6)).len]
  refine flip_loopQ (Sep.pick hs17 [5, 0, 1, 2, 3, 4, 6, 7, 8, 9, 10, 11, 12, 13] 14) (fun z l' hz K hk => (L_api_Block__Data (Sep.blk (Sep.pick hz [5] 6)) K).mpr hk) (by omega) fun w18 hs18 => ?_
  simp only [L_api_Block (Sep.blk (Sep.pick hs18 [6] 7)), L_api_Block__Parent (Sep.blk (Sep.pick hs18 [6] 7)), L_api_Block__Height (Sep.blk (Sep.pick hs18 [6] 7)), L_api_Block__Data (Sep.blk (Sep.pick hs18 [6] 7))]
  refine cal_i (AddRU [ownB vd (flip b.d b.d.length), blk g16 (Rdr.cells (rVec 32) (addId t N b)).toArray T_api_ID, blk g (Rdr.cells Q_tree_Tree (tq t gm ov')).toArray T_tree_Tree, mpN gm N' c', rows (rVec 32) ov' (N'.map (·.1)), blk g15 (Rdr.cells Q_api_Block (b.p, b.h, vd)).toArray T_api_Block, blk g14 (Rdr.cells Q_api_Block (b.p, b.h, a.v)).toArray T_api_Block, blk g13 (Rdr.cells Q_flurrylaw11_Grow a.t).toArray T_flurrylaw11_Grow, blk gx (Rdr.cells Q_flurrylaw11_both (.pointer (some ⟨g, 0, none⟩), .pointer (some ⟨gr, 0, none⟩), x)).toArray T_flurrylaw11_both, rows (rVec 32) x (idsT t N), rows (rInt .i64) y (htsT t N), blk g2 (Rdr.cells Q_flurrylaw11_Start q).toArray T_flurrylaw11_Start] (E ++ Ds)
    (Sep.pick hs18 [8, 9, 0, 1, 2, 3, 4, 5, 6, 7, 10, 11, 12, 13] 14) (hDM.sub fun A hA => List.mem_append_right _ (List.mem_append_right _ hA)) (hbd hs18.fr0) hbh (by rw [← kb_len hkb]; omega)) ?_
  rintro _ w19 ⟨M', lv', E2, rfl, hAM, hs19⟩
  simp only [nilc_some, fad_mk, pik_true, pik_false, cnd_true, cnd_false, gif_same, gif_tf, gif_ft, gif_undef, bi_add, bi_sub, bi_mul, bi_eql, bi_neq, bi_lss, bi_leq, bi_gtr, bi_geq, notB_bool, cvi_int, lenS_mk, lenT_mk, ext0, ext1, ext2, nilP_mk, nilS_mk, fldv_agg, jn0_k, jn1_k, jn2_k, jn1_and, jn1_or, ex_some, Option.isNone_some, Option.isNone_none, Bool.false_bne, Bool.bne_true, Bool.bne_false, Bool.true_bne, Bool.not_true, Bool.not_false, Bool.and_true, Bool.true_and, Bool.and_false, Bool.false_and, Bool.or_true, Bool.true_or, Bool.or_false, Bool.false_or, cond_true, cond_false, List.getElem?_toArray, List.getElem?_cons_zero, List.getElem?_cons_succ, Nat.zero_add, Nat.add_zero, Nat.reduceAdd, forall_const]
  rw [← kb_addE hkb, ← kb_addId hkb]
  refine alloc_s hs19 (A_api_ID w19) fun g19 w20 hs20 => ?_
  refine St_api_ID hs20 fun w21 hs21 => ?_
  simp only [L_api_ID (Sep.blk hs21), L_api_ID (Sep.blk (Sep.pick hs21 [4] 5)), ne_api_ID, decide_true, nilc_some, fad_mk, pik_true, pik_false, cnd_true, cnd_false, gif_same, gif_tf, gif_ft, gif_undef, bi_add, bi_sub, bi_mul, bi_eql, bi_neq, bi_lss, bi_leq, bi_gtr, bi_geq, notB_bool, cvi_int, lenS_mk, lenT_mk, ext0, ext1, ext2, nilP_mk, nilS_mk, fldv_agg, jn0_k, jn1_k, jn2_k, jn1_and, jn1_or, ex_some, Option.isNone_some, Option.isNone_none, Bool.false_bne, Bool.bne_true, Bool.bne_false, Bool.true_bne, Bool.not_true, Bool.not_false, Bool.and_true, Bool.true_and, Bool.and_false, Bool.false_and, Bool.or_true, Bool.true_or, Bool.or_false, Bool.false_or, cond_true, cond_false, List.getElem?_toArray, List.getElem?_cons_zero, List.getElem?_cons_succ, Nat.zero_add, Nat.add_zero, Nat.reduceAdd, forall_const, bne_self_eq_false]
  by_cases he : addE t N b = 0
  case neg =>
    have he' : (addE t N b == 0) = false := beq_eq_false_iff_ne.2 he
    simp only [he', nilc_some, fad_mk, pik_true, pik_false, cnd_true, cnd_false, gif_same, gif_tf, gif_ft, gif_undef, bi_add, bi_sub, bi_mul, bi_eql, bi_neq, bi_lss, bi_leq, bi_gtr, bi_geq, notB_bool, cvi_int, lenS_mk, lenT_mk, ext0, ext1, ext2, nilP_mk, nilS_mk, fldv_agg, jn0_k, jn1_k, jn2_k, jn1_and, jn1_or, ex_some, Option.isNone_some, Option.isNone_none, Bool.false_bne, Bool.bne_true, Bool.bne_false, Bool.true_bne, Bool.not_true, Bool.not_false, Bool.and_true, Bool.true_and, Bool.and_false, Bool.false_and, Bool.or_true, Bool.true_or, Bool.or_false, Bool.false_or, cond_true, cond_false, List.getElem?_toArray, List.getElem?_cons_zero, List.getElem?_cons_succ, Nat.zero_add, Nat.add_zero, Nat.reduceAdd, forall_const]
    obtain ⟨_, rfl, rfl⟩ := hAN.resolve_right fun h => he h.1
    obtain ⟨_, rfl, rfl⟩ := hAM.resolve_right fun h => he ((kb_addE hkb b).trans h.1)
    exact ⟨N', M', ov', lv', x, c', Ds, hTI, hkb, by omega, hD, hDM, Sep.pick hs21 [5, 6, 7, 1, 2, 11, 12, 13, 14] 15⟩
  have he' : (addE t N b == 0) = true := beq_iff_eq.2 he
  simp only [he', nilc_some, fad_mk, pik_true, pik_false, cnd_true, cnd_false, gif_same, gif_tf, gif_ft, gif_undef, bi_add, bi_sub, bi_mul, bi_eql, bi_neq, bi_lss, bi_leq, bi_gtr, bi_geq, notB_bool, cvi_int, lenS_mk, lenT_mk, ext0, ext1, ext2, nilP_mk, nilS_mk, fldv_agg, jn0_k, jn1_k, jn2_k, jn1_and, jn1_or, ex_some, Option.isNone_some, Option.isNone_none, Bool.false_bne, Bool.bne_true, Bool.bne_false, Bool.true_bne, Bool.not_true, Bool.not_false, Bool.and_true, Bool.true_and, Bool.and_false, Bool.false_and, Bool.or_true, Bool.true_or, Bool.or_false, Bool.false_or, cond_true, cond_false, List.getElem?_toArray, List.getElem?_cons_zero, List.getElem?_cons_succ, Nat.zero_add, Nat.add_zero, Nat.reduceAdd, forall_const]
  obtain ⟨_, vd1, c1, rfl, rfl⟩ := hAN.resolve_left fun h => h.1 he
  obtain ⟨_, vd2, c2, rfl, rfl⟩ := hAM.resolve_left fun h => h.1 ((kb_addE hkb b).symm.trans he)
  have hid : addId t N b = b.id := by rw [addId, if_pos he]
  rw [hid] at hs21
  have hs22 := Sep.pick hs21 [12, 13, 11, 4, 9, 5, 6, 7, 1, 2, 14] 15
  refine ⟨fun u => Sep w u _, (hs22.drew _).tail.tail, ?_⟩
  refine ⟨fun y w' => BState w w' t (i + 1) gx g gm gr y [blk g2 (Rdr.cells Q_flurrylaw11_Start q).toArray T_flurrylaw11_Start], ?_, fun _ _ h _ => h⟩
  refine rdS_ld (v := x) (fun u hu K hk => (L_flurrylaw11_both__ids (Sep.blk hu) K).mpr hk) ?_
  refine ⟨kv b.id, fun u hu => (L_api_ID (Sep.blk hu.p1) _).mpr rfl, ?_⟩
  refine rdS_ld (v := .int .i64 b.h) (fun u hu K hk => (L_api_Block__Height (Sep.blk (Sep.p2 hu)) K).mpr hk) ?_
  refine three_app (hs22.drew _) (by simp; omega) (by simp; omega) fun x' y' z hz => ?_
  refine efC_st1 (St_flurrylaw11_both__ids hz.p2 (Sep.oneR hz) fun z2 hz2 => ?_)
  refine ⟨N ++ [(b.id, b, vd1, c1)], M ++ [(b.id, b, vd2, c2)], ov', lv', x', c', ownB vd2 b.d :: ownB vd1 b.d :: Ds, hTI.add he hbh, ?_, ?_, ?_, ?_, ?_⟩
  · simp only [kbs, List.map_append, TN.kb, List.map_cons, List.map_nil] at hkb ⊢
    rw [hkb]
  · simp; omega
  · exact hD.add.sub fun A hA => List.mem_cons_of_mem _ hA
  · exact hDM.add.sub fun A hA => by
      rcases List.mem_cons.1 hA with rfl | hA
      · exact List.mem_cons_self ..
      · exact List.mem_cons_of_mem _ (List.mem_cons_of_mem _ hA)
  · have e3 : idsT t (N ++ [(b.id, b, vd1, c1)]) = idsT t N ++ [b.id] := by simp [idsT, nms]
    have e4 : htsT t (N ++ [(b.id, b, vd1, c1)]) = htsT t N ++ [b.h] := by simp [htsT, hts]
    rw [e3, e4]
    exact Sep.pick hz2 [5, 6, 7, 8, 9, 0, 1, 2, 10] 11
end
end Go.Fx
set_option linter.unusedVariables false
set_option linter.unusedSimpArgs false
namespace Go.Fx
section
variable {w0 w : World}
/-- What a made pair of trees reads as. -/
theorem BState.rd {t : Tr} {n gx g gm gr : Nat} {y : Value} (h : BState w0 w t n gx g gm gr y []) : ∃ N M ov lv x c, BothR w.heap gx g gm gr ov lv x t N M c (idsT t N) ∧ kbs N = kbs M ∧ TI t N ∧ N.length ≤ n := by
  obtain ⟨N, M, ov, lv, x, c, Ds, hTI, hkb, hN, hD, hDM, hs⟩ := h
  refine ⟨N, M, ov, lv, x, c, ⟨⟨_, _, Sep.blk (Sep.pick hs [5] 6)⟩, trH_rd hs (hD.sub fun A hA => by simp [hA]), rfH_rd (Sep.pick hs [3, 4, 0, 1, 2, 5, 6, 7] 8) (hDM.sub (Bs := _ :: _ :: _ :: _ :: _ :: _ :: Ds) fun A hA => by simp [hA]), Sep.rows (Sep.pick hs [6] 7)⟩, hkb, hTI, hN⟩
theorem BState.fr0 {t : Tr} {n gx g gm gr : Nat} {y : Value} {Xs : List Asn} (h : BState w0 w t n gx g gm gr y Xs) : Fr [] w0 w := by
  obtain ⟨N, M, ov, lv, x, c, Ds, hTI, hkb, hN, hD, hDM, hs⟩ := h
  exact hs.fr0
theorem wGrows {q : Vec 32 × Int × Int} {s : Sl (Nat × Sl UInt8 × Bool × (Vec 32 × Int × Sl UInt8))} {id : Vec 32} (hc : Cub w) (hs0 : (rSl R_flurrylaw11_Grow).ok w.heap s) :
    cal P f_law11_TreeGrows [.agg (Rdr.cells Q_flurrylaw11_Start q).toArray, s.v, kv id] w fun r w' => r = .bool true ∧ Fr [] w w' := by
  obtain ⟨l, hr, hcap, hl63, hok⟩ := grows_arg hs0
  generalize s.v = v at *
  clear hs0
  refine s_law11_TreeGrows fun R hR => ?_
  unfold c_law11_TreeGrows
  refine bxQ (Sep.start w) fun g3 w0 hs0 => ?_
  refine bxQ hs0 fun g5 w01 hs01 => ?_
  have lv : ∀ {z : World}, Fr [] w z → cal P f_law11_live [] z R := fun {z} hf => cal_i (live11_spec (hc.fr hf)) fun r w' hr => hR _ _ ⟨hr.1, hf.trans hr.2 (by simp) (by simp)⟩
  refine cal_i (live11_spec (hc.fr hs01.fr0)) ?_
  rintro _ w1 ⟨rfl, hf1⟩
  have hs1 := hs01.old hf1
  simp only [nilc_some, fad_mk, pik_true, pik_false, cnd_true, cnd_false, gif_same, gif_tf, gif_ft, gif_undef, bi_add, bi_sub, bi_mul, bi_eql, bi_neq, bi_lss, bi_leq, bi_gtr, bi_geq, notB_bool, cvi_int, lenS_mk, lenT_mk, ext0, ext1, ext2, nilP_mk, nilS_mk, fldv_agg, jn0_k, jn1_k, jn2_k, jn1_and, jn1_or, ex_some, Option.isNone_some, Option.isNone_none, Bool.false_bne, Bool.bne_true, Bool.bne_false, Bool.true_bne, Bool.not_true, Bool.not_false, Bool.and_true, Bool.true_and, Bool.and_false, Bool.false_and, Bool.or_true, Bool.true_or, Bool.or_false, Bool.false_or, cond_true, cond_false, List.getElem?_toArray, List.getElem?_cons_zero, List.getElem?_cons_succ, Nat.zero_add, Nat.add_zero, Nat.reduceAdd, forall_const]
  refine jn1_dup ?_
  refine cal_i (few12_spec (hr.fr hs1.fr0) hcap hl63 hok) ?_
  rintro _ w2 ⟨hf2, b, rfl, hb⟩
  have hs2 := hs1.old hf2
  cases b with
  | false => simp only [nilc_some, fad_mk, pik_true, pik_false, cnd_true, cnd_false, gif_same, gif_tf, gif_ft, gif_undef, bi_add, bi_sub, bi_mul, bi_eql, bi_neq, bi_lss, bi_leq, bi_gtr, bi_geq, notB_bool, cvi_int, lenS_mk, lenT_mk, ext0, ext1, ext2, nilP_mk, nilS_mk, fldv_agg, jn0_k, jn1_k, jn2_k, jn1_and, jn1_or, ex_some, Option.isNone_some, Option.isNone_none, Bool.false_bne, Bool.bne_true, Bool.bne_false, Bool.true_bne, Bool.not_true, Bool.not_false, Bool.and_true, Bool.true_and, Bool.and_false, Bool.false_and, Bool.or_true, Bool.true_or, Bool.or_false, Bool.false_or, cond_true, cond_false, List.getElem?_toArray, List.getElem?_cons_zero, List.getElem?_cons_succ, Nat.zero_add, Nat.add_zero, Nat.reduceAdd, forall_const]; exact lv hs2.fr0
  | true =>
  obtain ⟨hl, hsm⟩ := hb rfl
  simp only [nilc_some, fad_mk, pik_true, pik_false, cnd_true, cnd_false, gif_same, gif_tf, gif_ft, gif_undef, bi_add, bi_sub, bi_mul, bi_eql, bi_neq, bi_lss, bi_leq, bi_gtr, bi_geq, notB_bool, cvi_int, lenS_mk, lenT_mk, ext0, ext1, ext2, nilP_mk, nilS_mk, fldv_agg, jn0_k, jn1_k, jn2_k, jn1_and, jn1_or, ex_some, Option.isNone_some, Option.isNone_none, Bool.false_bne, Bool.bne_true, Bool.bne_false, Bool.true_bne, Bool.not_true, Bool.not_false, Bool.and_true, Bool.true_and, Bool.and_false, Bool.false_and, Bool.or_true, Bool.true_or, Bool.or_false, Bool.false_or, cond_true, cond_false, List.getElem?_toArray, List.getElem?_cons_zero, List.getElem?_cons_succ, Nat.zero_add, Nat.add_zero, Nat.reduceAdd, forall_const, L_flurrylaw11_Start (Sep.blk hs2.p1), L_flurrylaw11_Start__Root (Sep.blk hs2.p1), L_flurrylaw11_Start__Height (Sep.blk hs2.p1), L_flurrylaw11_Start__Most (Sep.blk hs2.p1)]
  refine cal_i (made_spec (hc.fr hs2.fr0) (hr.fr hs2.fr0) hok hsm (by omega)) ?_
  rintro _ w3 (⟨rfl, hf3⟩ | ⟨ht0, gx, g, gm, gr, y, rfl, hB⟩)
  · simp only [nilc_some, fad_mk, pik_true, pik_false, cnd_true, cnd_false, gif_same, gif_tf, gif_ft, gif_undef, bi_add, bi_sub, bi_mul, bi_eql, bi_neq, bi_lss, bi_leq, bi_gtr, bi_geq, notB_bool, cvi_int, lenS_mk, lenT_mk, ext0, ext1, ext2, nilP_mk, nilS_mk, fldv_agg, jn0_k, jn1_k, jn2_k, jn1_and, jn1_or, ex_some, Option.isNone_some, Option.isNone_none, Bool.false_bne, Bool.bne_true, Bool.bne_false, Bool.true_bne, Bool.not_true, Bool.not_false, Bool.and_true, Bool.true_and, Bool.and_false, Bool.false_and, Bool.or_true, Bool.true_or, Bool.or_false, Bool.false_or, cond_true, cond_false, List.getElem?_toArray, List.getElem?_cons_zero, List.getElem?_cons_succ, Nat.zero_add, Nat.add_zero, Nat.reduceAdd, forall_const, Option.isNone_none]
    exact hR _ _ ⟨rfl, (hs2.old hf3).fr0⟩
  obtain ⟨N, M, ov, lv', x, c, hR3, hkb, hTI, hN⟩ := hB.rd
  have hs3 := hs2.old hB.fr0
  simp only [nilc_some, fad_mk, pik_true, pik_false, cnd_true, cnd_false, gif_same, gif_tf, gif_ft, gif_undef, bi_add, bi_sub, bi_mul, bi_eql, bi_neq, bi_lss, bi_leq, bi_gtr, bi_geq, notB_bool, cvi_int, lenS_mk, lenT_mk, ext0, ext1, ext2, nilP_mk, nilS_mk, fldv_agg, jn0_k, jn1_k, jn2_k, jn1_and, jn1_or, ex_some, Option.isNone_some, Option.isNone_none, Bool.false_bne, Bool.bne_true, Bool.bne_false, Bool.true_bne, Bool.not_true, Bool.not_false, Bool.and_true, Bool.true_and, Bool.and_false, Bool.false_and, Bool.or_true, Bool.true_or, Bool.or_false, Bool.false_or, cond_true, cond_false, List.getElem?_toArray, List.getElem?_cons_zero, List.getElem?_cons_succ, Nat.zero_add, Nat.add_zero, Nat.reduceAdd, forall_const, Option.isNone_some, L_api_ID (Sep.blk hs3)]
  have hil : (idsT (⟨q.1, q.2.1, q.2.2⟩ : Tr) N).length ≤ 1000000 := by simp; omega
  refine cal_i (whole_spec hR3 hkb hTI.tm (by omega) (by omega) hil id) ?_
  rintro _ w4 ⟨rfl, hf4⟩
  have hs4 := hs3.old hf4
  simp only [nilc_some, fad_mk, pik_true, pik_false, cnd_true, cnd_false, gif_same, gif_tf, gif_ft, gif_undef, bi_add, bi_sub, bi_mul, bi_eql, bi_neq, bi_lss, bi_leq, bi_gtr, bi_geq, notB_bool, cvi_int, lenS_mk, lenT_mk, ext0, ext1, ext2, nilP_mk, nilS_mk, fldv_agg, jn0_k, jn1_k, jn2_k, jn1_and, jn1_or, ex_some, Option.isNone_some, Option.isNone_none, Bool.false_bne, Bool.bne_true, Bool.bne_false, Bool.true_bne, Bool.not_true, Bool.not_false, Bool.and_true, Bool.true_and, Bool.and_false, Bool.false_and, Bool.or_true, Bool.true_or, Bool.or_false, Bool.false_or, cond_true, cond_false, List.getElem?_toArray, List.getElem?_cons_zero, List.getElem?_cons_succ, Nat.zero_add, Nat.add_zero, Nat.reduceAdd, forall_const, L_flurrylaw11_Start (Sep.blk hs4.p1), L_flurrylaw11_Start__Root (Sep.blk hs4.p1), L_flurrylaw11_Start__Height (Sep.blk hs4.p1), L_flurrylaw11_Start__Most (Sep.blk hs4.p1)]
  refine jn1_dup ?_
  refine cal_i (whole_spec (hR3.fr hf4) hkb hTI.tm (by omega) (by omega) hil q.1) ?_
  rintro _ w5 ⟨rfl, hf5⟩
  simp only [nilc_some, fad_mk, pik_true, pik_false, cnd_true, cnd_false, gif_same, gif_tf, gif_ft, gif_undef, bi_add, bi_sub, bi_mul, bi_eql, bi_neq, bi_lss, bi_leq, bi_gtr, bi_geq, notB_bool, cvi_int, lenS_mk, lenT_mk, ext0, ext1, ext2, nilP_mk, nilS_mk, fldv_agg, jn0_k, jn1_k, jn2_k, jn1_and, jn1_or, ex_some, Option.isNone_some, Option.isNone_none, Bool.false_bne, Bool.bne_true, Bool.bne_false, Bool.true_bne, Bool.not_true, Bool.not_false, Bool.and_true, Bool.true_and, Bool.and_false, Bool.false_and, Bool.or_true, Bool.true_or, Bool.or_false, Bool.false_or, cond_true, cond_false, List.getElem?_toArray, List.getElem?_cons_zero, List.getElem?_cons_succ, Nat.zero_add, Nat.add_zero, Nat.reduceAdd, forall_const]
  exact hR _ _ ⟨rfl, (hs4.old hf5).fr0⟩
end
end Go.Fx
set_option linter.unusedVariables false
set_option linter.unusedSimpArgs false
namespace Go.Fx
def mvT' (t : Tr) (N : List TN) (k : Vec 32) : Tr := if mvOk t N k = true then mvT t N k else t
def mvN' (t : Tr) (N : List TN) (k : Vec 32) : List TN := if mvOk t N k = true then mvN t N k else N
def mvG' (t : Tr) (N : List TN) (k : Vec 32) : List (Vec 32) := if mvOk t N k = true then mvGone t N k else []
def mvE (t : Tr) (N : List TN) (k : Vec 32) : Int := if mvOk t N k = true then 0 else 4
section
variable {t : Tr} {N M : List TN} {k : Vec 32} {m : Nat}
theorem kb_mvOk (h : kbs N = kbs M) : mvOk t N k = mvOk t M k := by unfold mvOk; rw [kb_blk h, kb_nb h]
theorem kb_mvT (h : kbs N = kbs M) : mvT' t N k = mvT' t M k := by unfold mvT' mvT; rw [kb_mvOk h, kb_nb h]
theorem kb_mvE (h : kbs N = kbs M) : mvE t N k = mvE t M k := by unfold mvE; rw [kb_mvOk h]
theorem kb_mvN (h : kbs N = kbs M) : kbs (mvN' t N k) = kbs (mvN' t M k) := by
  unfold mvN'
  rw [← kb_mvOk h]
  split
  · have e : mvN t M k = M.filter fun x => (fun y : Vec 32 × Blk => !decide (y.1 = k) && under t N y.1 k) x.kb := by
      unfold mvN
      refine List.filter_congr fun x _ => ?_
      rw [← kb_under h]
      rfl
    rw [e]
    exact kb_filter (fun y : Vec 32 × Blk => !decide (y.1 = k) && under t N y.1 k) h
  · exact h
theorem kb_mvG (h : kbs N = kbs M) : mvG' t N k = mvG' t M k := by
  unfold mvG'
  rw [← kb_mvOk h]
  split
  · unfold mvGone
    rw [show M.map (·.1) = N.map (·.1) from (kb_nms h).symm]
    refine List.filter_congr fun x _ => ?_
    rw [kb_under h]
  · rfl
theorem TM.move' (hi : TM t N m) (k : Vec 32) : TM (mvT' t N k) (mvN' t N k) m := by
  unfold mvT' mvN'
  by_cases h : mvOk t N k = true
  · rw [if_pos h, if_pos h]; exact hi.move h
  · rw [if_neg h, if_neg h]; exact hi
theorem mvN_sub : ∀ x ∈ mvN' t N k, x ∈ N := fun x hx => by
  unfold mvN' at hx
  split at hx
  · exact (List.mem_filter.1 hx).1
  · exact hx
theorem mvN_len : (mvN' t N k).length ≤ N.length := by
  unfold mvN'
  split
  · exact List.length_filter_le _ _
  · exact Nat.le_refl _
theorem mvG_len : (mvG' t N k).length ≤ N.length := by
  unfold mvG'
  split
  · unfold mvGone
    refine Nat.le_trans (List.length_filter_le _ _) ?_
    rw [List.length_map]
    exact Nat.le_refl _
  · exact Nat.zero_le _
theorem Dat.mv {As : List Asn} (h : Dat N As) (t : Tr) (k : Vec 32) : Dat (mvN' t N k) As := fun x hx => h x (mvN_sub x hx)
end
def r8 : Rdr UInt8 where
  size := 1
  cells b := [bv b]
  ok _ _ := True
  len _ := rfl
  one {_ b} _ u hu := by
    have : u = bv b := by simpa using hu
    rw [this]; rfl
  fr h _ := h
def hd8 (a : Vec 32) : UInt8 := a.1[0]'(by rw [a.2]; decide)
def set8 (a : Vec 32) (b : UInt8) : Vec 32 := ⟨a.1.set 0 b, by rw [List.length_set]; exact a.2⟩
theorem F8 : Fld (rVec 32) r8 0 hd8 set8 := ⟨fun a b => by
  obtain ⟨l, hl⟩ := a
  cases l with
  | nil => simp at hl
  | cons c l => exact ⟨[], bvs l, rfl, rfl, rfl⟩⟩
section
variable {w0 w w' : World} {As : List Asn} {gx g gm gr c : Nat} {ov lv x : Value} {t : Tr} {N M : List TN} {ids : List (Vec 32)}
theorem MoveU (hs : Sep w0 w (trH g gm ov t N c ++ As)) (hd : Dat N As) (hw : TrW t N) (hu : (N.map (·.1)).Nodup) (hn : N.length ≤ 1000000) (k : Vec 32) :
    cal P f_tree_Tree_Move [.pointer (some ⟨g, 0, none⟩), kv k] w fun r w' => ∃ gv ov', r = .tuple #[gv, .int .i64 (mvE t N k)] ∧ Sep w0 w' (trH g gm ov' (mvT' t N k) (mvN' t N k) c ++ (rows (rVec 32) gv (mvG' t N k) :: As)) := by
  refine cal_i (Move_spec hs hd hw hu hn k) ?_
  rintro r w' (⟨he, rfl, hs'⟩ | ⟨he, gv, ov', rfl, hs'⟩)
  · have he' : ¬ mvOk t N k = true := by rw [he]; simp
    refine ⟨.slice none 0 0, ov, by rw [mvE, if_neg he'], ?_⟩
    rw [mvT', mvN', mvG', if_neg he', if_neg he', if_neg he']
    exact Sep.pick (hs'.nilR (q := rVec 32)) [1, 2, 3, 0] 4
  · refine ⟨gv, ov', by rw [mvE, if_pos he], ?_⟩
    rw [mvT', mvN', mvG', if_pos he, if_pos he, if_pos he]
    exact hs'
theorem MoveRU (hs : Sep w0 w (rfH g lv t N ++ As)) (hd : Dat N As) (hw : TrW t N) (hu : (N.map (·.1)).Nodup) (hn : N.length ≤ 1000000) (hh : ∀ a, has t N a = true → hgt t N a ≤ 1000000) (k : Vec 32) :
    cal P f_ref11_Tree_Move [.pointer (some ⟨g, 0, none⟩), kv k] w fun r w' => ∃ gv lv', r = .tuple #[gv, .int .i64 (mvE t N k)] ∧ Sep w0 w' (rfH g lv' (mvT' t N k) (mvN' t N k) ++ (rows (rVec 32) gv (mvG' t N k) :: As)) := by
  refine cal_i (MoveR_spec hs hd hw hu hn hh k) ?_
  rintro r w' (⟨he, rfl, hs'⟩ | ⟨he, gv, lv', rfl, hs'⟩)
  · have he' : ¬ mvOk t N k = true := by rw [he]; simp
    refine ⟨.slice none 0 0, lv, by rw [mvE, if_neg he'], ?_⟩
    rw [mvT', mvN', mvG', if_neg he', if_neg he', if_neg he']
    exact Sep.pick (hs'.nilR (q := rVec 32)) [1, 2, 0] 3
  · refine ⟨gv, lv', by rw [mvE, if_pos he], ?_⟩
    rw [mvT', mvN', mvG', if_pos he, if_pos he, if_pos he]
    exact hs'
def vB (b : UInt8) : Vec 32 := ⟨b :: List.replicate 31 0, by simp⟩
theorem B_IDb {w : World} (b : UInt8) (K : Value → Prop) : rdP P (Instr.build T_api_ID #[(0, .int .u8 b.toNat)]) w K = K (kv (vB b)) := rd_build (r := rVec 32) (a := vB b) (by kernel_rfl) K
theorem wMoves {q : Vec 32 × Int × Int} {s : Sl (Nat × Sl UInt8 × Bool × (Vec 32 × Int × Sl UInt8))} {ks : Sl UInt8} (hc : Cub w) (hs0 : (rSl R_flurrylaw11_Grow).ok w.heap s) (hk0 : rBytes.ok w.heap ks) :
    cal P f_law11_TreeMoves [.agg (Rdr.cells Q_flurrylaw11_Start q).toArray, s.v, ks.v] w fun r w' => r = .bool true ∧ Fr [] w w' := by
  obtain ⟨l, hr, hcap, hl63, hok⟩ := grows_arg hs0
  generalize s.v = v at *
  clear hs0
  have hkr : RdB w.heap ks.v ks.l := hk0.1
  generalize ks.v = kvs at *
  generalize ks.l = kl at *
  clear hk0
  refine s_law11_TreeMoves fun R hR => ?_
  unfold c_law11_TreeMoves
  refine bxQ (Sep.start w) fun g3 w0 hs0 => ?_
  have lv : ∀ {z : World}, Fr [] w z → cal P f_law11_live [] z R := fun {z} hf => cal_i (live11_spec (hc.fr hf)) fun r w' hr => hR _ _ ⟨hr.1, hf.trans hr.2 (by simp) (by simp)⟩
  refine cal_i (live11_spec (hc.fr hs0.fr0)) ?_
  rintro _ w1 ⟨rfl, hf1⟩
  have hs1 := hs0.old hf1
  simp only [nilc_some, fad_mk, pik_true, pik_false, cnd_true, cnd_false, gif_same, gif_tf, gif_ft, gif_undef, bi_add, bi_sub, bi_mul, bi_eql, bi_neq, bi_lss, bi_leq, bi_gtr, bi_geq, notB_bool, cvi_int, lenS_mk, lenT_mk, ext0, ext1, ext2, nilP_mk, nilS_mk, fldv_agg, jn0_k, jn1_k, jn2_k, jn1_and, jn1_or, ex_some, Option.isNone_some, Option.isNone_none, Bool.false_bne, Bool.bne_true, Bool.bne_false, Bool.true_bne, Bool.not_true, Bool.not_false, Bool.and_true, Bool.true_and, Bool.and_false, Bool.false_and, Bool.or_true, Bool.true_or, Bool.or_false, Bool.false_or, cond_true, cond_false, List.getElem?_toArray, List.getElem?_cons_zero, List.getElem?_cons_succ, Nat.zero_add, Nat.add_zero, Nat.reduceAdd, forall_const]
  refine jn1_dup ?_
  refine cal_i (few12_spec (hr.fr hs1.fr0) hcap hl63 hok) ?_
  rintro _ w2 ⟨hf2, b, rfl, hb⟩
  have hs2 := hs1.old hf2
  cases b with
  | false => simp only [nilc_some, fad_mk, pik_true, pik_false, cnd_true, cnd_false, gif_same, gif_tf, gif_ft, gif_undef, bi_add, bi_sub, bi_mul, bi_eql, bi_neq, bi_lss, bi_leq, bi_gtr, bi_geq, notB_bool, cvi_int, lenS_mk, lenT_mk, ext0, ext1, ext2, nilP_mk, nilS_mk, fldv_agg, jn0_k, jn1_k, jn2_k, jn1_and, jn1_or, ex_some, Option.isNone_some, Option.isNone_none, Bool.false_bne, Bool.bne_true, Bool.bne_false, Bool.true_bne, Bool.not_true, Bool.not_false, Bool.and_true, Bool.true_and, Bool.and_false, Bool.false_and, Bool.or_true, Bool.true_or, Bool.or_false, Bool.false_or, cond_true, cond_false, List.getElem?_toArray, List.getElem?_cons_zero, List.getElem?_cons_succ, Nat.zero_add, Nat.add_zero, Nat.reduceAdd, forall_const]; exact lv hs2.fr0
  | true =>
  obtain ⟨hl, hsm⟩ := hb rfl
  simp only [nilc_some, fad_mk, pik_true, pik_false, cnd_true, cnd_false, gif_same, gif_tf, gif_ft, gif_undef, bi_add, bi_sub, bi_mul, bi_eql, bi_neq, bi_lss, bi_leq, bi_gtr, bi_geq, notB_bool, cvi_int, lenS_mk, lenT_mk, ext0, ext1, ext2, nilP_mk, nilS_mk, fldv_agg, jn0_k, jn1_k, jn2_k, jn1_and, jn1_or, ex_some, Option.isNone_some, Option.isNone_none, Bool.false_bne, Bool.bne_true, Bool.bne_false, Bool.true_bne, Bool.not_true, Bool.not_false, Bool.and_true, Bool.true_and, Bool.and_false, Bool.false_and, Bool.or_true, Bool.true_or, Bool.or_false, Bool.false_or, cond_true, cond_false, List.getElem?_toArray, List.getElem?_cons_zero, List.getElem?_cons_succ, Nat.zero_add, Nat.add_zero, Nat.reduceAdd, forall_const, hkr.len]
  rw [cnd_bool]
  refine ⟨fun h => lv hs2.fr0, fun h => ?_⟩
  have hkl : kl.length ≤ 12 := by simp at h; omega
  clear h
  simp only [L_flurrylaw11_Start (Sep.blk hs2), L_flurrylaw11_Start__Root (Sep.blk hs2), L_flurrylaw11_Start__Height (Sep.blk hs2), L_flurrylaw11_Start__Most (Sep.blk hs2)]
  refine cal_i (made_spec (hc.fr hs2.fr0) (hr.fr hs2.fr0) hok hsm (by omega)) ?_
  rintro _ w3 (⟨rfl, hf3⟩ | ⟨ht0, gx, g, gm, gr, y, rfl, hB⟩)
  · simp only [nilc_some, fad_mk, pik_true, pik_false, cnd_true, cnd_false, gif_same, gif_tf, gif_ft, gif_undef, bi_add, bi_sub, bi_mul, bi_eql, bi_neq, bi_lss, bi_leq, bi_gtr, bi_geq, notB_bool, cvi_int, lenS_mk, lenT_mk, ext0, ext1, ext2, nilP_mk, nilS_mk, fldv_agg, jn0_k, jn1_k, jn2_k, jn1_and, jn1_or, ex_some, Option.isNone_some, Option.isNone_none, Bool.false_bne, Bool.bne_true, Bool.bne_false, Bool.true_bne, Bool.not_true, Bool.not_false, Bool.and_true, Bool.true_and, Bool.and_false, Bool.false_and, Bool.or_true, Bool.true_or, Bool.or_false, Bool.false_or, cond_true, cond_false, List.getElem?_toArray, List.getElem?_cons_zero, List.getElem?_cons_succ, Nat.zero_add, Nat.add_zero, Nat.reduceAdd, forall_const, Option.isNone_none]
    exact hR _ _ ⟨rfl, (hs2.old hf3).fr0⟩
  obtain ⟨N, M, ov, lv0, x, c, Ds0, hTI, hkb, hN, hD0, hDM0, hs3⟩ := hB
  obtain ⟨t, ht⟩ : ∃ t : Tr, t = ⟨q.1, q.2.1, q.2.2⟩ := ⟨_, rfl⟩
  rw [← ht] at hs3 hTI
  have hs3a := hs2.join hs3
  obtain ⟨Ds, hDs⟩ : ∃ Ds, Ds = rows (rInt .i64) y (htsT t N) :: (Ds0 ++ [blk g3 (Rdr.cells Q_flurrylaw11_Start q).toArray T_flurrylaw11_Start]) := ⟨_, rfl⟩
  have hD : Dat N Ds := fun z hz => by rw [hDs]; exact List.mem_cons_of_mem _ (List.mem_append_left _ (hD0 z hz))
  have hDM : Dat M Ds := fun z hz => by rw [hDs]; exact List.mem_cons_of_mem _ (List.mem_append_left _ (hDM0 z hz))
  have fD : ∀ {z : World}, Sep w z Ds → ∀ K, ldN 32 (.pointer (some ⟨g3, 0, none⟩)) z.heap K = K (kv q.1) := fun {z} hz K => by
    rw [hDs] at hz
    exact L_flurrylaw11_Start__Root (Sep.blk (Sep.dropL (As := _ :: Ds0) hz)) K
  replace hs3a : Sep w w3 (trH g gm ov t N c ++ (rfH gr lv0 t M ++ (blk gx (Rdr.cells Q_flurrylaw11_both (.pointer (some ⟨g, 0, none⟩), .pointer (some ⟨gr, 0, none⟩), x)).toArray T_flurrylaw11_both :: rows (rVec 32) x (idsT t N) :: Ds))) := by
    rw [hDs]
    simpa [List.append_assoc] using hs3a
  clear hs3 hDs hD0 hDM0
  have hxo : x.oneCell' = true := Sep.oneR (Sep.pick hs3a [6] 7)
  have hn : N.length ≤ 1000000 := by omega
  have hnM : M.length ≤ 1000000 := by rw [← kb_len hkb]; exact hn
  simp only [nilc_some, fad_mk, pik_true, pik_false, cnd_true, cnd_false, gif_same, gif_tf, gif_ft, gif_undef, bi_add, bi_sub, bi_mul, bi_eql, bi_neq, bi_lss, bi_leq, bi_gtr, bi_geq, notB_bool, cvi_int, lenS_mk, lenT_mk, ext0, ext1, ext2, nilP_mk, nilS_mk, fldv_agg, jn0_k, jn1_k, jn2_k, jn1_and, jn1_or, ex_some, Option.isNone_some, Option.isNone_none, Bool.false_bne, Bool.bne_true, Bool.bne_false, Bool.true_bne, Bool.not_true, Bool.not_false, Bool.and_true, Bool.true_and, Bool.and_false, Bool.false_and, Bool.or_true, Bool.true_or, Bool.or_false, Bool.false_or, cond_true, cond_false, List.getElem?_toArray, List.getElem?_cons_zero, List.getElem?_cons_succ, Nat.zero_add, Nat.add_zero, Nat.reduceAdd, forall_const, Option.isNone_some]
  refine drH_S hs3a fun w4 hs4 _ => ?_
  refine rdS_ld (v := .pointer (some ⟨g, 0, none⟩)) (fun u hu K hk => (L_flurrylaw11_both__t (Sep.blk (Sep.pick hu [5] 6)) K).mpr hk) ?_
  refine rdS_ld (v := .pointer (some ⟨gr, 0, none⟩)) (fun u hu K hk => (L_flurrylaw11_both__r (Sep.blk (Sep.pick hu [5] 6)) K).mpr hk) ?_
  refine rdS_ld (v := x) (fun u hu K hk => (L_flurrylaw11_both__ids (Sep.blk (Sep.pick hu [5] 6)) K).mpr hk) ?_
  have rT : ∀ {z : World}, Sep w z (trH g gm ov t N c ++ (rfH gr lv0 t M ++ (blk gx (Rdr.cells Q_flurrylaw11_both (.pointer (some ⟨g, 0, none⟩), .pointer (some ⟨gr, 0, none⟩), x)).toArray T_flurrylaw11_both :: rows (rVec 32) x (idsT t N) :: Ds))) → TrR z.heap g gm ov t N c ∧ RfR z.heap gr lv0 t M := fun {z} hz =>
    ⟨trH_rd hz (hD.sub (Bs := _ :: _ :: _ :: _ :: Ds) fun A hA => by simp [hA]), rfH_rd (Sep.pick hz [3, 4, 0, 1, 2, 5, 6] 7) (hDM.sub (Bs := _ :: _ :: _ :: _ :: _ :: Ds) fun A hA => by simp [hA])⟩
  refine efS_i (cal_i (tClone_spec (rT hs4).1 hn) ?_)
  rintro _ w5 ⟨g1, gm1, ov1, c1, rfl, hs5⟩
  replace hs5 := hs4.join hs5
  refine ⟨hs5.tail.tail.tail, ?_⟩
  refine efS_i (cal_i (CloneR_spec (rT hs5.tail.tail.tail).2 hnM) ?_)
  rintro _ w6 ⟨gr1, lv1, rfl, hs6⟩
  replace hs6 := hs5.join hs6
  refine ⟨hs6.tail.tail.tail.tail.tail, ?_⟩
  refine ⟨.agg (Rdr.cells Q_flurrylaw11_both (.pointer (some ⟨g1, 0, none⟩), .pointer (some ⟨gr1, 0, none⟩), x)).toArray, fun u hu => by rw [B_flurrylaw11_both_0_1_2 rfl rfl hxo], ?_⟩
  refine efC_bx (bxQ hs6 fun gy w7 hs7 => ?_)
  -- 0 gy, 1 gr1, 2 lv1, 3 g1, 4 gm1, 5 ov1, 6 g, 7 gm, 8 ov, 9 gr, 10 lv0, 11 gx, 12 x
  replace hs7 := Sep.pick hs7 [6, 7, 8, 9, 10, 11, 12, 0, 1, 2, 3, 4, 5] 13
  obtain ⟨Rest, hRest⟩ : ∃ Rest, Rest = [blk gx (Rdr.cells Q_flurrylaw11_both (.pointer (some ⟨g, 0, none⟩), .pointer (some ⟨gr, 0, none⟩), x)).toArray T_flurrylaw11_both, rows (rVec 32) x (idsT t N), blk gy (Rdr.cells Q_flurrylaw11_both (.pointer (some ⟨g1, 0, none⟩), .pointer (some ⟨gr1, 0, none⟩), x)).toArray T_flurrylaw11_both] ++ (rfH gr1 lv1 t M ++ (trH g1 gm1 ov1 t N c1 ++ Ds)) := ⟨_, rfl⟩
  replace hs7 : Sep w w7 (trH g gm ov t N c ++ (rfH gr lv0 t M ++ Rest)) := by rw [hRest]; exact hs7
  have fgx : ∀ {z : World}, Sep w z Rest → ∃ T fr, z.heap[gx]? = some (.cells (Rdr.cells Q_flurrylaw11_both (.pointer (some ⟨g, 0, none⟩), .pointer (some ⟨gr, 0, none⟩), x)).toArray T fr) := fun {z} hz => by
    rw [hRest] at hz
    exact ⟨_, _, Sep.blk hz⟩
  have fx : ∀ {z : World}, Sep w z Rest → Rows' (rVec 32) z.heap x (idsT t N) := fun {z} hz => by
    rw [hRest] at hz
    exact Sep.rows (Sep.p1 hz)
  have fy : ∀ {z : World}, Sep w z Rest → BothR z.heap gy g1 gm1 gr1 ov1 lv1 x t N M c1 (idsT t N) := fun {z} hz => by
    rw [hRest] at hz
    exact ⟨⟨_, _, Sep.blk (Sep.p2 hz)⟩, trH_rd (Sep.pick hz [5, 6, 7, 0, 1, 2, 3, 4] 8) (hD.sub (Bs := _ :: _ :: _ :: _ :: _ :: Ds) fun A hA => by simp [hA]), rfH_rd (Sep.pick hz [3, 4, 0, 1, 2, 5, 6, 7] 8) (hDM.sub (Bs := _ :: _ :: _ :: _ :: _ :: _ :: Ds) fun A hA => by simp [hA]), Sep.rows (Sep.p1 hz)⟩
  have f3 : ∀ {z : World}, Sep w z Rest → ∀ K, ldN 32 (.pointer (some ⟨g3, 0, none⟩)) z.heap K = K (kv q.1) := fun {z} hz K => by
    rw [hRest] at hz
    exact fD hz.tail.tail.tail.tail.tail.tail.tail.tail K
  have hDR : Dat N Rest := hD.sub fun A hA => by rw [hRest]; simp [hA]
  have hDMR : Dat M Rest := hDM.sub fun A hA => by rw [hRest]; simp [hA]
  have hidl : (idsT t N).length = N.length + 1 := by simp
  have hil : (idsT t N).length ≤ 1000000 := by omega
  clear hRest fD hs6 hs5 hs4 hs3a rT
  refine ⟨fun y z => ∃ (i : Nat) (t' : Tr) (N' M' : List TN) (ov' lv' : Value), y = .int .i64 i ∧ i ≤ kl.length ∧ TM t' N' N.length ∧ kbs N' = kbs M' ∧ N'.length ≤ N.length ∧ Dat N' Rest ∧ Dat M' Rest ∧ Sep w z (trH g gm ov' t' N' c ++ (rfH gr lv' t' M' ++ Rest)), fun y _ => (kl.length - RowKit.intOf y).toNat, ⟨0, t, N, M, ov, lv0, rfl, by omega, hTI.tm, hkb, Nat.le_refl _, hDR, hDMR, hs7⟩, ?_⟩
  rintro _ w8 ⟨i, t', N', M', ov', lv', rfl, hi, hTM, hkb', hN', hD', hDM', hs8⟩ -
  have both : ∀ {z : World} {t2 : Tr} {N2 M2 : List TN} {ov2 lv2 : Value}, Dat N2 Rest → Dat M2 Rest → Sep w z (trH g gm ov2 t2 N2 c ++ (rfH gr lv2 t2 M2 ++ Rest)) → BothR z.heap gx g gm gr ov2 lv2 x t2 N2 M2 c (idsT t N) := fun {z t2 N2 M2 ov2 lv2} h1 h2 hz =>
    ⟨fgx hz.tail.tail.tail.tail.tail, trH_rd hz (h1.sub (Bs := _ :: _ :: Rest) fun A hA => by simp [hA]), rfH_rd (Sep.pick hz [3, 4, 0, 1, 2] 5) (h2.sub (Bs := _ :: _ :: _ :: Rest) fun A hA => by simp [hA]), fx hz.tail.tail.tail.tail.tail⟩
  simp only [nilc_some, fad_mk, pik_true, pik_false, cnd_true, cnd_false, gif_same, gif_tf, gif_ft, gif_undef, bi_add, bi_sub, bi_mul, bi_eql, bi_neq, bi_lss, bi_leq, bi_gtr, bi_geq, notB_bool, cvi_int, lenS_mk, lenT_mk, ext0, ext1, ext2, nilP_mk, nilS_mk, fldv_agg, jn0_k, jn1_k, jn2_k, jn1_and, jn1_or, ex_some, Option.isNone_some, Option.isNone_none, Bool.false_bne, Bool.bne_true, Bool.bne_false, Bool.true_bne, Bool.not_true, Bool.not_false, Bool.and_true, Bool.true_and, Bool.and_false, Bool.false_and, Bool.or_true, Bool.true_or, Bool.or_false, Bool.false_or, cond_true, cond_false, List.getElem?_toArray, List.getElem?_cons_zero, List.getElem?_cons_succ, Nat.zero_add, Nat.add_zero, Nat.reduceAdd, forall_const]
  rw [cnd_bool]
  refine ⟨fun h => ?_, fun h => ?_⟩
  case refine_2 =>
    rw [f3 hs8.tail.tail.tail.tail.tail]
    refine cal_i (whole_spec (both hD' hDM' hs8) hkb' hTM (by omega) (by omega) hil q.1) ?_
    rintro _ w9 ⟨rfl, hf9⟩
    have hs9 := hs8.old hf9
    simp only [nilc_some, fad_mk, pik_true, pik_false, cnd_true, cnd_false, gif_same, gif_tf, gif_ft, gif_undef, bi_add, bi_sub, bi_mul, bi_eql, bi_neq, bi_lss, bi_leq, bi_gtr, bi_geq, notB_bool, cvi_int, lenS_mk, lenT_mk, ext0, ext1, ext2, nilP_mk, nilS_mk, fldv_agg, jn0_k, jn1_k, jn2_k, jn1_and, jn1_or, ex_some, Option.isNone_some, Option.isNone_none, Bool.false_bne, Bool.bne_true, Bool.bne_false, Bool.true_bne, Bool.not_true, Bool.not_false, Bool.and_true, Bool.true_and, Bool.and_false, Bool.false_and, Bool.or_true, Bool.true_or, Bool.or_false, Bool.false_or, cond_true, cond_false, List.getElem?_toArray, List.getElem?_cons_zero, List.getElem?_cons_succ, Nat.zero_add, Nat.add_zero, Nat.reduceAdd, forall_const]
    refine jn1_dup ?_
    rw [f3 hs9.tail.tail.tail.tail.tail]
    refine cal_i (whole_spec (fy hs9.tail.tail.tail.tail.tail) hkb hTI.tm (by omega) (by omega) hil q.1) ?_
    rintro _ w10 ⟨rfl, hf10⟩
    simp only [nilc_some, fad_mk, pik_true, pik_false, cnd_true, cnd_false, gif_same, gif_tf, gif_ft, gif_undef, bi_add, bi_sub, bi_mul, bi_eql, bi_neq, bi_lss, bi_leq, bi_gtr, bi_geq, notB_bool, cvi_int, lenS_mk, lenT_mk, ext0, ext1, ext2, nilP_mk, nilS_mk, fldv_agg, jn0_k, jn1_k, jn2_k, jn1_and, jn1_or, ex_some, Option.isNone_some, Option.isNone_none, Bool.false_bne, Bool.bne_true, Bool.bne_false, Bool.true_bne, Bool.not_true, Bool.not_false, Bool.and_true, Bool.true_and, Bool.and_false, Bool.false_and, Bool.or_true, Bool.true_or, Bool.or_false, Bool.false_or, cond_true, cond_false, List.getElem?_toArray, List.getElem?_cons_zero, List.getElem?_cons_succ, Nat.zero_add, Nat.add_zero, Nat.reduceAdd, forall_const]
    exact hR _ _ ⟨rfl, (hs9.old hf10).fr0⟩
  have hlt : i < kl.length := by simp at h; omega
  refine ldxB (hkr.fr hs8.fr0 (off_nil _)) hlt ?_
  obtain ⟨kb, hkbv⟩ : ∃ kb, kb = kl[i] := ⟨_, rfl⟩
  rw [← hkbv]
  have hk8 : kb.toNat < 256 := kb.toNat_lt
  simp only [bv]
  refine drH_S hs8 fun w9 hs9 _ => ?_
  refine rdS_ld (v := x) (fun u hu K hk => by
    obtain ⟨T, fr, hc⟩ := fgx hu.tail.tail.tail.tail.tail
    exact (L_flurrylaw11_both__ids hc K).mpr hk) ?_
  simp only [nilc_some, fad_mk, pik_true, pik_false, cnd_true, cnd_false, gif_same, gif_tf, gif_ft, gif_undef, bi_add, bi_sub, bi_mul, bi_eql, bi_neq, bi_lss, bi_leq, bi_gtr, bi_geq, notB_bool, cvi_int, lenS_mk, lenT_mk, ext0, ext1, ext2, nilP_mk, nilS_mk, fldv_agg, jn0_k, jn1_k, jn2_k, jn1_and, jn1_or, ex_some, Option.isNone_some, Option.isNone_none, Bool.false_bne, Bool.bne_true, Bool.bne_false, Bool.true_bne, Bool.not_true, Bool.not_false, Bool.and_true, Bool.true_and, Bool.and_false, Bool.false_and, Bool.or_true, Bool.true_or, Bool.or_false, Bool.false_or, cond_true, cond_false, List.getElem?_toArray, List.getElem?_cons_zero, List.getElem?_cons_succ, Nat.zero_add, Nat.add_zero, Nat.reduceAdd, forall_const]
  rw [wi64 (by omega) (by omega)]
  refine rdS_ld (v := x) (fun u hu K hk => by
    obtain ⟨T, fr, hc⟩ := fgx hu.tail.tail.tail.tail.tail
    exact (L_flurrylaw11_both__ids hc K).mpr hk) ?_
  rw [(fx hs9.tail.tail.tail.tail.tail).len, bi_rem _ _ _ _ (by omega), tmodn]
  have hmod := Nat.mod_lt kb.toNat (show 0 < (idsT t N).length by omega)
  obtain ⟨a, ha⟩ : ∃ a, (idsT t N)[kb.toNat % (idsT t N).length]? = some a := ⟨_, List.getElem?_eq_getElem hmod⟩
  change ixs 32 _ _ _
  refine rdS_rowV (q := rVec 32) (by decide) hs9 (fun u hu => fx hu.tail.tail.tail.tail.tail) ha .i64 ?_
  refine efS_i (alloc_s hs9 (A_api_ID w9) fun g12 w10 hs10 => ⟨hs10.tail, ?_⟩)
  refine efC_stN (St_api_ID (b := a) hs10 fun w11 hs11 => ?_)
  refine ⟨fun z => ∃ id : Vec 32, Sep w z (blk g12 (Rdr.cells (rVec 32) id).toArray T_api_ID :: (trH g gm ov' t' N' c ++ (rfH gr lv' t' M' ++ Rest))), ?_, ?_⟩
  · change cnd _ _ _
    rw [cnd_bool]
    refine ⟨fun h => ?_, fun h => ⟨a, hs11⟩⟩
    rw [B_IDb]
    exact St_api_ID hs11 fun w12 hs12 => ⟨_, hs12⟩
  rintro w12 ⟨id, hs12⟩ _
  clear hs11 hs10 hs9 ha
  refine drH_S hs12 fun w13 hs13 _ => ?_
  refine rdS_ld (v := .pointer (some ⟨g, 0, none⟩)) (fun u hu K hk => by
    obtain ⟨T, fr, hc⟩ := fgx hu.tail.tail.tail.tail.tail.tail
    exact (L_flurrylaw11_both__t hc K).mpr hk) ?_
  refine ⟨kv id, fun u hu => (L_api_ID (Sep.blk hu) _).mpr rfl, ?_⟩
  refine efC_cut (cal_i (MoveU (Sep.pick hs13 [1, 2, 3, 0, 4, 5] 6) (hD'.sub (Bs := _ :: _ :: _ :: Rest) fun A hA => by simp [hA]) hTM.w hTM.nd (by omega) id) ?_)
  rintro _ w14 ⟨gv, ov2, rfl, hs14⟩
  refine ⟨fun u => True, trivial, ?_⟩
  simp only [nilc_some, fad_mk, pik_true, pik_false, cnd_true, cnd_false, gif_same, gif_tf, gif_ft, gif_undef, bi_add, bi_sub, bi_mul, bi_eql, bi_neq, bi_lss, bi_leq, bi_gtr, bi_geq, notB_bool, cvi_int, lenS_mk, lenT_mk, ext0, ext1, ext2, nilP_mk, nilS_mk, fldv_agg, jn0_k, jn1_k, jn2_k, jn1_and, jn1_or, ex_some, Option.isNone_some, Option.isNone_none, Bool.false_bne, Bool.bne_true, Bool.bne_false, Bool.true_bne, Bool.not_true, Bool.not_false, Bool.and_true, Bool.true_and, Bool.and_false, Bool.false_and, Bool.or_true, Bool.true_or, Bool.or_false, Bool.false_or, cond_true, cond_false, List.getElem?_toArray, List.getElem?_cons_zero, List.getElem?_cons_succ, Nat.zero_add, Nat.add_zero, Nat.reduceAdd, forall_const]
  have hTMM := hTM.kb hkb'
  have hlM := kb_len hkb'
  refine drH_S (Sep.pick hs14 [5, 6, 0, 1, 2, 3, 4] 7) fun w15 hs15 _ => ?_
  refine rdS_ld (v := .pointer (some ⟨gr, 0, none⟩)) (fun u hu K hk => by
    obtain ⟨T, fr, hc⟩ := fgx hu.tail.tail.tail.tail.tail.tail.tail
    exact (L_flurrylaw11_both__r hc K).mpr hk) ?_
  refine ⟨kv id, fun u hu => (L_api_ID (Sep.blk (Sep.pick hu [6] 7)) _).mpr rfl, ?_⟩
  refine efC_cut (cal_i (MoveRU hs15 (hDM'.sub (Bs := _ :: _ :: _ :: _ :: _ :: Rest) fun A hA => by simp [hA]) hTMM.w hTMM.nd (by omega) (fun a ha => Nat.le_trans (hTMM.hb a ha) (by omega)) id) ?_)
  rintro _ w16 ⟨gv2, lv2, rfl, hs16⟩
  refine ⟨fun u => True, trivial, ?_⟩
  simp only [nilc_some, fad_mk, pik_true, pik_false, cnd_true, cnd_false, gif_same, gif_tf, gif_ft, gif_undef, bi_add, bi_sub, bi_mul, bi_eql, bi_neq, bi_lss, bi_leq, bi_gtr, bi_geq, notB_bool, cvi_int, lenS_mk, lenT_mk, ext0, ext1, ext2, nilP_mk, nilS_mk, fldv_agg, jn0_k, jn1_k, jn2_k, jn1_and, jn1_or, ex_some, Option.isNone_some, Option.isNone_none, Bool.false_bne, Bool.bne_true, Bool.bne_false, Bool.true_bne, Bool.not_true, Bool.not_false, Bool.and_true, Bool.true_and, Bool.and_false, Bool.false_and, Bool.or_true, Bool.true_or, Bool.or_false, Bool.false_or, cond_true, cond_false, List.getElem?_toArray, List.getElem?_cons_zero, List.getElem?_cons_succ, Nat.zero_add, Nat.add_zero, Nat.reduceAdd, forall_const]
  rw [← kb_mvG hkb', ← kb_mvT hkb'] at hs16
  rw [← kb_mvE hkb']
  have hgl := mvG_len (t := t') (N := N') (k := id)
  have hTM2 := hTM.move' id
  have hkb2 := kb_mvN (t := t') (k := id) hkb'
  have hN2 : (mvN' t' N' id).length ≤ N.length := Nat.le_trans mvN_len hN'
  have hD2 := hD'.mv t' id
  have hDM2 := hDM'.mv t' id
  generalize mvT' t' N' id = t2 at *
  generalize mvN' t' N' id = N2 at *
  generalize mvN' t' M' id = M2 at *
  generalize mvG' t' N' id = G at *
  refine cal_i (idsEqual_spec (Sep.rows (Sep.pick hs16 [6] 7)) (Sep.rows (Sep.pick hs16 [2] 3)) (by omega)) ?_
  rintro _ w17 ⟨rfl, hf17⟩
  have hs17 := hs16.old hf17
  simp only [nilc_some, fad_mk, pik_true, pik_false, cnd_true, cnd_false, gif_same, gif_tf, gif_ft, gif_undef, bi_add, bi_sub, bi_mul, bi_eql, bi_neq, bi_lss, bi_leq, bi_gtr, bi_geq, notB_bool, cvi_int, lenS_mk, lenT_mk, ext0, ext1, ext2, nilP_mk, nilS_mk, fldv_agg, jn0_k, jn1_k, jn2_k, jn1_and, jn1_or, ex_some, Option.isNone_some, Option.isNone_none, Bool.false_bne, Bool.bne_true, Bool.bne_false, Bool.true_bne, Bool.not_true, Bool.not_false, Bool.and_true, Bool.true_and, Bool.and_false, Bool.false_and, Bool.or_true, Bool.true_or, Bool.or_false, Bool.false_or, cond_true, cond_false, List.getElem?_toArray, List.getElem?_cons_zero, List.getElem?_cons_succ, Nat.zero_add, Nat.add_zero, Nat.reduceAdd, forall_const, decide_true, bne_self_eq_false]
  refine jn1_dup ?_
  simp only [L_api_ID (Sep.blk (Sep.pick hs17 [7] 8))]
  refine cal_i (whole_spec (both hD2 hDM2 (Sep.pick hs17 [3, 4, 5, 0, 1] 8)) hkb2 hTM2 (by omega) (by omega) hil id) ?_
  rintro _ w18 ⟨rfl, hf18⟩
  have hs18 := hs17.old hf18
  simp only [nilc_some, fad_mk, pik_true, pik_false, cnd_true, cnd_false, gif_same, gif_tf, gif_ft, gif_undef, bi_add, bi_sub, bi_mul, bi_eql, bi_neq, bi_lss, bi_leq, bi_gtr, bi_geq, notB_bool, cvi_int, lenS_mk, lenT_mk, ext0, ext1, ext2, nilP_mk, nilS_mk, fldv_agg, jn0_k, jn1_k, jn2_k, jn1_and, jn1_or, ex_some, Option.isNone_some, Option.isNone_none, Bool.false_bne, Bool.bne_true, Bool.bne_false, Bool.true_bne, Bool.not_true, Bool.not_false, Bool.and_true, Bool.true_and, Bool.and_false, Bool.false_and, Bool.or_true, Bool.true_or, Bool.or_false, Bool.false_or, cond_true, cond_false, List.getElem?_toArray, List.getElem?_cons_zero, List.getElem?_cons_succ, Nat.zero_add, Nat.add_zero, Nat.reduceAdd, forall_const]
  rw [(Sep.rows (Sep.pick hs18 [6] 7)).len]
  refine ⟨fun y z => ∃ (j : Nat) (G' : List (Vec 32)), y = .int .i64 j ∧ j ≤ G.length ∧ G'.length = G.length ∧ Sep w z (rows (rVec 32) gv G' :: (trH g gm ov2 t2 N2 c ++ (rfH gr lv2 t2 M2 ++ Rest))), fun y _ => (G.length - RowKit.intOf y).toNat, ⟨0, G, rfl, by omega, rfl, Sep.pick hs18 [6, 3, 4, 5, 0, 1] 8⟩, ?_⟩
  rintro _ w19 ⟨j, G', rfl, hj, hG, hs19⟩ -
  simp only [nilc_some, fad_mk, pik_true, pik_false, cnd_true, cnd_false, gif_same, gif_tf, gif_ft, gif_undef, bi_add, bi_sub, bi_mul, bi_eql, bi_neq, bi_lss, bi_leq, bi_gtr, bi_geq, notB_bool, cvi_int, lenS_mk, lenT_mk, ext0, ext1, ext2, nilP_mk, nilS_mk, fldv_agg, jn0_k, jn1_k, jn2_k, jn1_and, jn1_or, ex_some, Option.isNone_some, Option.isNone_none, Bool.false_bne, Bool.bne_true, Bool.bne_false, Bool.true_bne, Bool.not_true, Bool.not_false, Bool.and_true, Bool.true_and, Bool.and_false, Bool.false_and, Bool.or_true, Bool.true_or, Bool.or_false, Bool.false_or, cond_true, cond_false, List.getElem?_toArray, List.getElem?_cons_zero, List.getElem?_cons_succ, Nat.zero_add, Nat.add_zero, Nat.reduceAdd, forall_const]
  rw [cnd_bool]
  refine ⟨fun h => ?_, fun h => ?_⟩
  case refine_2 =>
    rw [wi64 (by omega) (by omega)]
    exact ⟨⟨i + 1, t2, N2, M2, ov2, lv2, by simp, by omega, hTM2, hkb2, hN2, hD2, hDM2, hs19.tail⟩, by simp [RowKit.intOf]; omega⟩
  have hjlt : j < G'.length := by simp at h; omega
  obtain ⟨a1, ha1⟩ : ∃ a, G'[j]? = some a := ⟨_, List.getElem?_eq_getElem hjlt⟩
  obtain ⟨ga, o, cp, rfl⟩ := (Sep.rows hs19).form (by decide) ha1
  refine drH_S hs19 fun w20 hs20 _ => ?_
  rw [ixs_mk _ _ _ _ _ _ _ _ (by omega) (by omega), Int.toNat_natCast, ixa_mk _ _ _ _ _ _ _ (by decide) (by decide)]
  refine rdS_ld (v := bv (hd8 a1)) (fun u hu K hk => (At.byte (At.of (q := rVec 32) (by decide) (Sep.rows hu) ha1) (i := 0) (by rw [a1.2]; decide) K).mpr hk) ?_
  rw [xor255]
  rw [ixs_mk _ _ _ _ _ _ _ _ (by omega) (by omega), Int.toNat_natCast, ixa_mk _ _ _ _ _ _ _ (by decide) (by decide)]
  refine efC_st1 (rows_stV F8 (b := hd8 a1 ^^^ 255) rfl hs20 ha1 rfl rfl fun w21 hs21 => ?_)
  rw [wi64 (by omega) (by omega)]
  refine ⟨⟨j + 1, _, by simp, by omega, ?_, hs21⟩, by simp [RowKit.intOf]; omega⟩
  rw [List.length_set]; exact hG
end
end Go.Fx
set_option linter.unusedVariables false
set_option linter.unusedSimpArgs false
namespace Go.Fx
theorem modify_last {α : Type} (f : α → α) (x : α) : ∀ l : List α, (l ++ [x]).modify l.length f = l ++ [f x]
  | [] => rfl
  | a :: l => by
    show (a :: (l ++ [x])).modify (l.length + 1) f = _
    rw [List.modify_succ_cons, modify_last f x l]
    rfl
theorem fm_app {α β : Type} (f g : α → List β) : ∀ l : List α, (l.flatMap fun a => f a ++ g a).Perm (l.flatMap f ++ l.flatMap g)
  | [] => .refl _
  | a :: l => by
    rw [List.flatMap_cons, List.flatMap_cons, List.flatMap_cons]
    refine ((fm_app f g l).append_left _).trans ?_
    rw [List.append_assoc, List.append_assoc]
    refine List.Perm.append_left _ ?_
    rw [← List.append_assoc, ← List.append_assoc]
    exact List.Perm.append_right _ List.perm_append_comm
theorem fm_one {α β : Type} [DecidableEq α] (y : β) (k : α) : ∀ l : List α, l.Nodup → k ∈ l → (l.flatMap fun a => if k = a then [y] else []) = [y]
  | [], _, h => by cases h
  | a :: l, hn, h => by
    rw [List.flatMap_cons]
    have h1 := List.nodup_cons.1 hn
    have rest : ∀ l' : List α, k ∉ l' → (l'.flatMap fun a => if k = a then [y] else []) = [] := fun l' hk => by
      rw [List.flatMap_eq_nil_iff]
      intro b hb
      have hne : ¬ k = b := fun he => hk (by rw [he]; exact hb)
      rw [if_neg hne]
    by_cases hka : k = a
    · rw [if_pos hka, rest l (hka ▸ h1.1)]; rfl
    · rw [if_neg hka, fm_one y k l h1.2 ((List.mem_cons.1 h).resolve_left hka)]; rfl
theorem part_perm {α β : Type} [DecidableEq α] (f : β → α) (ids : List α) (hn : ids.Nodup) : ∀ N : List β, (∀ x ∈ N, f x ∈ ids) → (ids.flatMap fun a => N.filter fun x => decide (f x = a)).Perm N
  | [], _ => by
    have e : (ids.flatMap fun a => ([] : List β).filter fun x => decide (f x = a)) = [] := List.flatMap_eq_nil_iff.2 fun _ _ => rfl
    rw [e]
  | y :: N, h => by
    have e : (fun a => (y :: N).filter fun x => decide (f x = a)) = fun a => (if f y = a then [y] else []) ++ N.filter fun x => decide (f x = a) := by
      funext a
      rw [List.filter_cons]
      by_cases hy : f y = a
      · simp [hy]
      · simp [hy]
    rw [e]
    refine (fm_app _ _ ids).trans ?_
    rw [fm_one y (f y) ids hn (h y (by simp))]
    exact (part_perm f ids hn N fun x hx => h x (List.mem_cons_of_mem _ hx)).cons y
theorem len_split {α : Type} (p : α → Bool) : ∀ l : List α, (l.filter p).length + (l.filter fun x => !p x).length = l.length
  | [] => rfl
  | a :: l => by
    have ih := len_split p l
    rw [List.filter_cons, List.filter_cons]
    cases h : p a <;> simp [h] <;> omega
theorem len_one {α : Type} [DecidableEq α] (k : α) : ∀ l : List α, l.Nodup → k ∈ l → (l.filter fun x => !decide (x = k)).length + 1 = l.length
  | [], _, h => by cases h
  | a :: l, hn, h => by
    have h1 := List.nodup_cons.1 hn
    rw [List.filter_cons]
    by_cases hk : a = k
    · have e : l.filter (fun x => !decide (x = k)) = l := List.filter_eq_self.2 fun x hx => by
        have : ¬ x = k := fun he => h1.1 (by rw [hk, ← he]; exact hx)
        simp [this]
      simp [hk, e]
    · have := len_one k l h1.2 ((List.mem_cons.1 h).resolve_left fun he => hk he.symm)
      simp [hk]
      simpa using this

section
variable {P : Program} {T E n : Nat} {w0 w : World} {As : List Asn}
/-- An entry for a key that is not there yet. -/
theorem entNew_s {M V g c : Nat} {l : List (Ent n)} {k : Vec n} {z : Value} {K : Value → World → Prop} (hM : P.underlying M = some (.map T V)) (hT : KeyT P T E n) (hz : ∀ w : World, (zeroValue V).run P w = .ok z w) (hs : Sep w0 w (mp g l c :: As)) (hk : getE k l = none)
    (h : ∀ w', Sep w0 w' (mp g (l ++ [(k, z, c)]) (c + 1) :: As) → K (.tuple #[z, .int .i64 c]) w') : efP P (Instr.mapEntry M (.map (some g)) (kv k)) w K := by
  have hg := hs.map
  obtain ⟨F, ⟨hb, rfl⟩, hu⟩ := hs.upd
  have e : (ents l).push (entM (k, z, c)) = ents (l ++ [(k, z, c)]) := by
    apply Array.ext'
    simp [ents]
  refine ⟨_, setBlk w g (.map (ents (l ++ [(k, z, c)])) (c + 1)), ?_, h _ (hu _ [g] (mp g _ _) ⟨setBlk_self w g _ _ hb, rfl⟩ (fr_setBlk w g _) (Grew.refl _ _))⟩
  unfold Instr.mapEntry
  simp only [Sem.run_bind, run_underlying hM, Result.andThen_ok, get_map hg, run_key hT k _ 9998, run_findKey hT k l, getE_none hk 0, hz]
  rw [← e]
  have h2 := set_map (P := P) (.map ((ents l).push (entM (k, z, c))) (c + 1)) hg
  simp only [entM] at h2 ⊢
  rw [h2]
  rfl
/-- What the newest entry has. -/
theorem entSt_s {M g c c' : Nat} {l : List (Ent n)} {k : Vec n} {v0 v : Value} {K : World → Prop} (hs : Sep w0 w (mp g (l ++ [(k, v0, c)]) c' :: As)) (hl : ∀ x ∈ l, x.2.2 < c)
    (h : ∀ w', Sep w0 w' (mp g (l ++ [(k, v, c)]) c' :: As) → K w') : efU P (Instr.entryStore M (.map (some g)) (.int .i64 c) v) w K := by
  have hg := hs.map
  obtain ⟨F, ⟨hb, rfl⟩, hu⟩ := hs.upd
  refine ⟨setBlk w g (.map (ents (l ++ [(k, v, c)])) c'), ?_, h _ (hu _ [g] (mp g _ _) ⟨setBlk_self w g _ _ hb, rfl⟩ (fr_setBlk w g _) (Grew.refl _ _))⟩
  have e1 : (ents (l ++ [(k, v0, c)])).findIdx? (fun e => (e.born : Int) == (c : Int)) = some l.length := by
    unfold ents
    rw [List.findIdx?_toArray, List.map_append, List.findIdx?_append]
    have h0 : (l.map entM).findIdx? (fun e => (e.born : Int) == (c : Int)) = none := by
      rw [List.findIdx?_eq_none_iff]
      intro x hx
      obtain ⟨y, hy, rfl⟩ := List.mem_map.1 hx
      have := hl y hy
      show (((y.2.2 : Nat) : Int) == (c : Int)) = false
      rw [beq_eq_false_iff_ne]
      omega
    rw [h0]
    simp [List.findIdx?_cons, entM]
  have e2 : (ents (l ++ [(k, v0, c)])).modify l.length (fun e => { e with val := v }) = ents (l ++ [(k, v, c)]) := by
    apply Array.ext'
    unfold ents
    rw [Array.toList_modify]
    have := modify_last (fun e : MapEntry => { e with val := v }) (entM (k, v0, c)) (l.map entM)
    rw [List.length_map] at this
    rw [List.map_append, List.map_append]
    exact this
  unfold Instr.entryStore
  simp only [Sem.run_bind, Result.andThen_ok, get_map hg, asInt, asIntOf, Sem.run_pure]
  rw [e1]
  simp only [e2]
  exact set_map _ hg
theorem drH_P {S : World → Prop} {K : (World → Prop) → World → Prop} (hs : Sep w0 w As) (hS : ∀ u, Sep w0 u As → S u) (h : ∀ w', Sep w0 w' As → w'.heap = w.heap → K S w') : drH w K := ⟨S, hS _ (hs.drew _), h _ (hs.drew _) rfl⟩
end
/-- Each name once, in the order in which they came. -/
def oneE (xs : List (Vec 32)) : List (Ent 32) := xs.zipIdx.map fun x => (x.1, .int .i64 1, x.2)
theorem oneE_snoc (xs : List (Vec 32)) (k : Vec 32) : oneE (xs ++ [k]) = oneE xs ++ [(k, .int .i64 1, xs.length)] := by
  unfold oneE
  rw [List.zipIdx_append, List.map_append]
  simp
theorem oneE_len (xs : List (Vec 32)) : (oneE xs).length = xs.length := by simp [oneE]
theorem oneE_lt (xs : List (Vec 32)) : ∀ x ∈ oneE xs, x.2.2 < xs.length := fun x hx => by
  obtain ⟨y, hy, rfl⟩ := List.mem_map.1 hx
  have := List.mem_zipIdx' hy
  exact this.1
theorem oneE_none {xs : List (Vec 32)} {k : Vec 32} (h : k ∉ xs) : getE k (oneE xs) = none := by
  unfold getE
  rw [Option.map_eq_none_iff, List.find?_eq_none]
  intro x hx
  obtain ⟨y, hy, rfl⟩ := List.mem_map.1 hx
  have := List.mem_zipIdx' hy
  have hm : y.1 ∈ xs := by rw [this.2]; exact List.getElem_mem _
  simp only [decide_eq_true_eq]
  intro he
  exact h (he ▸ hm)
theorem oneE_some {xs : List (Vec 32)} {k : Vec 32} (h : k ∈ xs) : getE k (oneE xs) = some (.int .i64 1) := by
  unfold getE
  cases hf : (oneE xs).find? fun x => decide (k = x.1) with
  | none =>
    rw [List.find?_eq_none] at hf
    obtain ⟨i, hi, he⟩ := List.getElem_of_mem h
    have : (k, Value.int .i64 1, i) ∈ oneE xs := by
      refine List.mem_map.2 ⟨(k, i), ?_, rfl⟩
      rw [List.mem_zipIdx_iff_getElem?]
      simp [List.getElem?_eq_getElem hi, he]
    exact absurd (by simp) (hf _ this)
  | some x =>
    have hx := List.mem_of_find?_eq_some hf
    obtain ⟨y, hy, rfl⟩ := List.mem_map.1 hx
    rfl
/-- The children of a name that is there. -/
def kidsOf (N : List TN) (a : Vec 32) : List (Vec 32) := nms (N.filter fun x => decide (x.2.1.p = a))
theorem kids_perm {t : Tr} {N : List TN} (hi : TI t N) : ((idsT t N).flatMap (kidsOf N)).Perm (nms N) := by
  have hids : (idsT t N).Nodup := by
    refine List.nodup_cons.2 ⟨fun h => ?_, hi.nd⟩
    obtain ⟨x, hx, hxr⟩ := List.mem_map.1 h
    have h1 := hi.w.noroot
    unfold blkOf nodeOf at h1
    rw [Option.map_eq_none_iff, List.find?_eq_none] at h1
    exact h1 x hx (by simp [hxr])
  have hp : ∀ x ∈ N, x.2.1.p ∈ idsT t N := fun x hx => by
    have hb : blkOf x.1 N = some x.2.1 := by unfold blkOf; rw [node_mem hi.nd hx]; rfl
    have := (hi.w.up x.1 x.2.1 hb).1
    rcases has_mem this with h | h
    · rw [h]; exact List.mem_cons_self ..
    · exact List.mem_cons_of_mem _ h
  have h1 := (part_perm (fun x : TN => x.2.1.p) (idsT t N) hids N hp).map (·.1)
  rw [List.map_flatMap] at h1
  exact h1
theorem zI (w : World) : (zeroValue T_int).run P w = .ok (.int .i64 0) w := by kernel_rfl
section
variable {w0 w w' : World} {As : List Asn}
theorem wParts {q : Vec 32 × Int × Int} {s : Sl (Nat × Sl UInt8 × Bool × (Vec 32 × Int × Sl UInt8))} {kid : Nat} (hc : Cub w) (hs0 : (rSl R_flurrylaw11_Grow).ok w.heap s) (hkid : kid < 256) :
    cal P f_law11_TreeParts [.agg (Rdr.cells Q_flurrylaw11_Start q).toArray, s.v, .int .u8 kid] w fun r w' => r = .bool true ∧ Fr [] w w' := by
  obtain ⟨l, hr, hcap, hl63, hok⟩ := grows_arg hs0
  generalize s.v = v at *
  clear hs0
  refine s_law11_TreeParts fun R hR => ?_
  unfold c_law11_TreeParts
  refine bxQ (Sep.start w) fun g3 w0 hs0 => ?_
  have lv : ∀ {z : World}, Fr [] w z → cal P f_law11_live [] z R := fun {z} hf => cal_i (live11_spec (hc.fr hf)) fun r w' hr => hR _ _ ⟨hr.1, hf.trans hr.2 (by simp) (by simp)⟩
  refine cal_i (live11_spec (hc.fr hs0.fr0)) ?_
  rintro _ w1 ⟨rfl, hf1⟩
  have hs1 := hs0.old hf1
  simp only [nilc_some, fad_mk, pik_true, pik_false, cnd_true, cnd_false, gif_same, gif_tf, gif_ft, gif_undef, bi_add, bi_sub, bi_mul, bi_eql, bi_neq, bi_lss, bi_leq, bi_gtr, bi_geq, notB_bool, cvi_int, lenS_mk, lenT_mk, ext0, ext1, ext2, nilP_mk, nilS_mk, fldv_agg, jn0_k, jn1_k, jn2_k, jn1_and, jn1_or, ex_some, Option.isNone_some, Option.isNone_none, Bool.false_bne, Bool.bne_true, Bool.bne_false, Bool.true_bne, Bool.not_true, Bool.not_false, Bool.and_true, Bool.true_and, Bool.and_false, Bool.false_and, Bool.or_true, Bool.true_or, Bool.or_false, Bool.false_or, cond_true, cond_false, List.getElem?_toArray, List.getElem?_cons_zero, List.getElem?_cons_succ, Nat.zero_add, Nat.add_zero, Nat.reduceAdd, forall_const]
  refine jn1_dup ?_
  refine cal_i (few11_spec (hr.fr hs1.fr0) hcap hl63 hok) ?_
  rintro _ w2 ⟨hf2, b, rfl, hb⟩
  have hs2 := hs1.old hf2
  cases b with
  | false => simp only [nilc_some, fad_mk, pik_true, pik_false, cnd_true, cnd_false, gif_same, gif_tf, gif_ft, gif_undef, bi_add, bi_sub, bi_mul, bi_eql, bi_neq, bi_lss, bi_leq, bi_gtr, bi_geq, notB_bool, cvi_int, lenS_mk, lenT_mk, ext0, ext1, ext2, nilP_mk, nilS_mk, fldv_agg, jn0_k, jn1_k, jn2_k, jn1_and, jn1_or, ex_some, Option.isNone_some, Option.isNone_none, Bool.false_bne, Bool.bne_true, Bool.bne_false, Bool.true_bne, Bool.not_true, Bool.not_false, Bool.and_true, Bool.true_and, Bool.and_false, Bool.false_and, Bool.or_true, Bool.true_or, Bool.or_false, Bool.false_or, cond_true, cond_false, List.getElem?_toArray, List.getElem?_cons_zero, List.getElem?_cons_succ, Nat.zero_add, Nat.add_zero, Nat.reduceAdd, forall_const]; exact lv hs2.fr0
  | true =>
  have hl : l.length ≤ 40 := hb rfl
  simp only [nilc_some, fad_mk, pik_true, pik_false, cnd_true, cnd_false, gif_same, gif_tf, gif_ft, gif_undef, bi_add, bi_sub, bi_mul, bi_eql, bi_neq, bi_lss, bi_leq, bi_gtr, bi_geq, notB_bool, cvi_int, lenS_mk, lenT_mk, ext0, ext1, ext2, nilP_mk, nilS_mk, fldv_agg, jn0_k, jn1_k, jn2_k, jn1_and, jn1_or, ex_some, Option.isNone_some, Option.isNone_none, Bool.false_bne, Bool.bne_true, Bool.bne_false, Bool.true_bne, Bool.not_true, Bool.not_false, Bool.and_true, Bool.true_and, Bool.and_false, Bool.false_and, Bool.or_true, Bool.true_or, Bool.or_false, Bool.false_or, cond_true, cond_false, List.getElem?_toArray, List.getElem?_cons_zero, List.getElem?_cons_succ, Nat.zero_add, Nat.add_zero, Nat.reduceAdd, forall_const, L_flurrylaw11_Start hs2.blk, L_flurrylaw11_Start__Root hs2.blk, L_flurrylaw11_Start__Height hs2.blk, L_flurrylaw11_Start__Most hs2.blk]
  refine cal_i (grown_spec (hc.fr hs2.fr0) (hr.fr hs2.fr0) hok (by omega)) ?_
  rintro _ w3 (⟨rfl, _, hf3⟩ | ⟨_, g, gm, x, y, rfl, N, ov, c, Ds, hTI, hGr, hN, hD, hs3⟩)
  · simp only [nilc_some, fad_mk, pik_true, pik_false, cnd_true, cnd_false, gif_same, gif_tf, gif_ft, gif_undef, bi_add, bi_sub, bi_mul, bi_eql, bi_neq, bi_lss, bi_leq, bi_gtr, bi_geq, notB_bool, cvi_int, lenS_mk, lenT_mk, ext0, ext1, ext2, nilP_mk, nilS_mk, fldv_agg, jn0_k, jn1_k, jn2_k, jn1_and, jn1_or, ex_some, Option.isNone_some, Option.isNone_none, Bool.false_bne, Bool.bne_true, Bool.bne_false, Bool.true_bne, Bool.not_true, Bool.not_false, Bool.and_true, Bool.true_and, Bool.and_false, Bool.false_and, Bool.or_true, Bool.true_or, Bool.or_false, Bool.false_or, cond_true, cond_false, List.getElem?_toArray, List.getElem?_cons_zero, List.getElem?_cons_succ, Nat.zero_add, Nat.add_zero, Nat.reduceAdd, forall_const, Option.isNone_none]
    exact hR _ _ ⟨rfl, (hs2.old hf3).fr0⟩
  generalize (⟨q.1, q.2.1, q.2.2⟩ : Tr) = t at *
  clear hGr lv
  replace hs3 : Sep w w3 (trH g gm ov t N c ++ (rows (rVec 32) x (idsT t N) :: rows (rInt .i64) y (htsT t N) :: Ds)) := ((Sep.start w).old hs2.fr0).join hs3 |> fun h => by simpa using h
  have hn : N.length ≤ 1000000 := by omega
  have hNl : (nms N).length = N.length := by simp
  have hidl : (idsT t N).length = N.length + 1 := by simp
  have rT : ∀ {z : World} {As : List Asn} , Sep w z (trH g gm ov t N c ++ As) → (∀ A ∈ Ds, A ∈ As) → TrR z.heap g gm ov t N c := fun hz hA => trH_rd hz (hD.sub hA)
  simp only [nilc_some, fad_mk, pik_true, pik_false, cnd_true, cnd_false, gif_same, gif_tf, gif_ft, gif_undef, bi_add, bi_sub, bi_mul, bi_eql, bi_neq, bi_lss, bi_leq, bi_gtr, bi_geq, notB_bool, cvi_int, lenS_mk, lenT_mk, ext0, ext1, ext2, nilP_mk, nilS_mk, fldv_agg, jn0_k, jn1_k, jn2_k, jn1_and, jn1_or, ex_some, Option.isNone_some, Option.isNone_none, Bool.false_bne, Bool.bne_true, Bool.bne_false, Bool.true_bne, Bool.not_true, Bool.not_false, Bool.and_true, Bool.true_and, Bool.and_false, Bool.false_and, Bool.or_true, Bool.true_or, Bool.or_false, Bool.false_or, cond_true, cond_false, List.getElem?_toArray, List.getElem?_cons_zero, List.getElem?_cons_succ, Nat.zero_add, Nat.add_zero, Nat.reduceAdd, forall_const, Option.isNone_some]
  refine cal_i (All_spec (rT hs3 fun A hA => by simp [hA]) hn) ?_
  rintro r1 w4 hg
  refine cal_i (hg.told (most := 1048576) (by rw [hNl]; exact hn) (by decide)) ?_
  rintro was w5 hs5
  rw [List.take_of_length_le (by rw [hNl]; omega)] at hs5
  replace hs5 := Sep.pick ((hs3.old hg.fr0).join hs5) [1, 2, 3, 0] 4
  obtain ⟨L, hL⟩ : ∃ L, L = trH g gm ov t N c ++ (rows (rVec 32) was (nms N) :: rows (rVec 32) x (idsT t N) :: rows (rInt .i64) y (htsT t N) :: Ds) := ⟨_, rfl⟩
  replace hs5 : Sep w w5 L := by rw [hL]; exact hs5
  have fT : ∀ {z : World}, Sep w z L → TrR z.heap g gm ov t N c := fun {z} hz => by
    rw [hL] at hz
    exact rT hz fun A hA => by simp [hA]
  have fw : ∀ {z : World}, Sep w z L → Rows' (rVec 32) z.heap was (nms N) := fun {z} hz => by
    rw [hL] at hz
    exact Sep.rows (Sep.p3 hz)
  have fx : ∀ {z : World}, Sep w z L → Rows' (rVec 32) z.heap x (idsT t N) := fun {z} hz => by
    rw [hL] at hz
    exact Sep.rows (Sep.p4 hz)
  have lw : ∀ K, lenS was K = K (.int .i64 N.length) := fun K => by rw [(fw hs5).len, hNl]
  have lx : ∀ K, lenS x K = K (.int .i64 ((N.length + 1 : Nat) : Int)) := fun K => by rw [(fx hs5).len, hidl]
  have hperm := kids_perm hTI
  have hnd : ((idsT t N).flatMap (kidsOf N)).Nodup := hperm.nodup_iff.2 hTI.nd
  have hkl : ∀ a, (kidsOf N a).length ≤ N.length := fun a => by
    unfold kidsOf
    rw [List.length_map]
    exact List.length_filter_le _ _
  have hkp : ∀ i a, (idsT t N)[i]? = some a → ∃ post, (idsT t N).flatMap (kidsOf N) = ((idsT t N).take i).flatMap (kidsOf N) ++ (kidsOf N a ++ post) := fun i a ha => by
    refine ⟨((idsT t N).drop (i + 1)).flatMap (kidsOf N), ?_⟩
    have e : idsT t N = (idsT t N).take i ++ (a :: (idsT t N).drop (i + 1)) := by
      obtain ⟨h1, h2⟩ := List.getElem?_eq_some_iff.1 ha
      rw [← h2, ← List.drop_eq_getElem_cons, List.take_append_drop]
    conv => lhs; rw [e]
    rw [List.flatMap_append, List.flatMap_cons]
  refine makeMap_s (n := 32) hs5 fun gs w6 hs6 => ?_
  simp only [lx]
  refine ⟨fun y z => ∃ i : Nat, y = .int .i64 i ∧ i ≤ N.length + 1 ∧ Sep w z (mp gs (oneE (((idsT t N).take i).flatMap (kidsOf N))) (((idsT t N).take i).flatMap (kidsOf N)).length :: L), fun y _ => (N.length + 1 - RowKit.intOf y).toNat, ⟨0, rfl, by omega, hs6⟩, ?_⟩
  rintro _ w7 ⟨i, rfl, hi, hs7⟩ -
  simp only [nilc_some, fad_mk, pik_true, pik_false, cnd_true, cnd_false, gif_same, gif_tf, gif_ft, gif_undef, bi_add, bi_sub, bi_mul, bi_eql, bi_neq, bi_lss, bi_leq, bi_gtr, bi_geq, notB_bool, cvi_int, lenS_mk, lenT_mk, ext0, ext1, ext2, nilP_mk, nilS_mk, fldv_agg, jn0_k, jn1_k, jn2_k, jn1_and, jn1_or, ex_some, Option.isNone_some, Option.isNone_none, Bool.false_bne, Bool.bne_true, Bool.bne_false, Bool.true_bne, Bool.not_true, Bool.not_false, Bool.and_true, Bool.true_and, Bool.and_false, Bool.false_and, Bool.or_true, Bool.true_or, Bool.or_false, Bool.false_or, cond_true, cond_false, List.getElem?_toArray, List.getElem?_cons_zero, List.getElem?_cons_succ, Nat.zero_add, Nat.add_zero, Nat.reduceAdd, forall_const]
  rw [cnd_bool]
  refine ⟨fun h => ?_, fun h => ?_⟩
  · have hlt : i < N.length + 1 := by simp at h; omega
    obtain ⟨a, ha⟩ : ∃ a, (idsT t N)[i]? = some a := ⟨_, List.getElem?_eq_getElem (by omega)⟩
    have hah : has t N a = true := mem_has (List.mem_cons.1 (List.mem_of_getElem? ha))
    obtain ⟨post, hpost⟩ := hkp i a ha
    have etk : ((idsT t N).take (i + 1)).flatMap (kidsOf N) = ((idsT t N).take i).flatMap (kidsOf N) ++ kidsOf N a := by
      rw [List.take_add_one, ha, List.flatMap_append]
      simp
    rw [hpost] at hnd
    change ixs 32 _ _ _
    refine Rows'.ldN (q := rVec 32) (by decide) (fx hs7.tail) ha .i64 ?_
    refine alloc_s hs7 (A_api_ID w7) fun g12 w8 hs8 => ?_
    refine St_api_ID (b := a) hs8 fun w9 hs9 => ?_
    simp only [L_api_ID hs9.blk]
    refine cal_i (Kids_spec (fT hs9.tail.tail) hn hTI.nd a) ?_
    rintro r2 w10 hg
    rw [if_pos hah] at hg
    change Goes w9 w10 r2 (kidsOf N a) at hg
    refine cal_i (hg.told (most := 1048576) (Nat.le_trans (hkl a) hn) (by decide)) ?_
    rintro r3 w11 hs11
    rw [List.take_of_length_le (Nat.le_trans (hkl a) (by omega))] at hs11
    replace hs11 : Sep w w11 (mp gs (oneE (((idsT t N).take i).flatMap (kidsOf N))) (((idsT t N).take i).flatMap (kidsOf N)).length :: rows (rVec 32) r3 (kidsOf N a) :: L) := Sep.pick ((hs9.old hg.fr0).join hs11) [2, 0] 3
    have hka := hkl a
    generalize ((idsT t N).take i).flatMap (kidsOf N) = Xs at *
    generalize kidsOf N a = ks at *
    rw [(Sep.rows hs11.p1).len]
    refine ⟨fun y z => ∃ j : Nat, y = .int .i64 j ∧ j ≤ ks.length ∧ Sep w z (mp gs (oneE (Xs ++ ks.take j)) (Xs ++ ks.take j).length :: rows (rVec 32) r3 ks :: L), fun y _ => (ks.length - RowKit.intOf y).toNat, ⟨0, rfl, by omega, by rw [List.take_zero, List.append_nil]; exact hs11⟩, ?_⟩
    rintro _ w12 ⟨j, rfl, hj, hs12⟩ -
    simp only [nilc_some, fad_mk, pik_true, pik_false, cnd_true, cnd_false, gif_same, gif_tf, gif_ft, gif_undef, bi_add, bi_sub, bi_mul, bi_eql, bi_neq, bi_lss, bi_leq, bi_gtr, bi_geq, notB_bool, cvi_int, lenS_mk, lenT_mk, ext0, ext1, ext2, nilP_mk, nilS_mk, fldv_agg, jn0_k, jn1_k, jn2_k, jn1_and, jn1_or, ex_some, Option.isNone_some, Option.isNone_none, Bool.false_bne, Bool.bne_true, Bool.bne_false, Bool.true_bne, Bool.not_true, Bool.not_false, Bool.and_true, Bool.true_and, Bool.and_false, Bool.false_and, Bool.or_true, Bool.true_or, Bool.or_false, Bool.false_or, cond_true, cond_false, List.getElem?_toArray, List.getElem?_cons_zero, List.getElem?_cons_succ, Nat.zero_add, Nat.add_zero, Nat.reduceAdd, forall_const]
    rw [cnd_bool]
    refine ⟨fun h => ?_, fun h => ?_⟩
    case refine_2 =>
      have hge : j = ks.length := by simp at h; omega
      rw [hge, List.take_of_length_le (Nat.le_refl _)] at hs12
      rw [wi64 (by omega) (by omega)]
      exact ⟨⟨i + 1, by simp, by omega, by rw [etk]; exact Sep.pick hs12 [0] 2⟩, by simp [RowKit.intOf]; omega⟩
    have hjlt : j < ks.length := by simp at h; omega
    obtain ⟨b, hb⟩ : ∃ b, ks[j]? = some b := ⟨_, List.getElem?_eq_getElem hjlt⟩
    have etj : ks.take (j + 1) = ks.take j ++ [b] := by rw [List.take_add_one, hb]; rfl
    have hnew : b ∉ Xs ++ ks.take j := fun hm => by
      have e : ks = ks.take j ++ (b :: ks.drop (j + 1)) := by
        obtain ⟨h1, h2⟩ := List.getElem?_eq_some_iff.1 hb
        rw [← h2, ← List.drop_eq_getElem_cons, List.take_append_drop]
      rw [e, List.append_assoc, ← List.append_assoc] at hnd
      exact (List.nodup_append.1 hnd).2.2 b hm b (by simp) rfl
    change ixs 32 _ _ _
    refine Rows'.ldN (q := rVec 32) (by decide) (Sep.rows hs12.p1) hb .i64 ?_
    refine alloc_s hs12 (A_api_ID w12) fun g14 w13 hs13 => ?_
    refine St_api_ID (b := b) hs13 fun w14 hs14 => ?_
    obtain ⟨Ys, hYs⟩ : ∃ Ys, Ys = Xs ++ ks.take j := ⟨_, rfl⟩
    rw [← hYs] at hs14 hnew
    have ey : Xs ++ ks.take (j + 1) = Ys ++ [b] := by rw [etj, ← List.append_assoc, hYs]
    refine drH_P (S := fun u => Sep w u (blk g14 (Rdr.cells (rVec 32) b).toArray T_api_ID :: rows (rVec 32) r3 ks :: L) ∧ ∃ (m : List (Ent 32)) (c2 : Nat), u.heap[gs]? = some (.map (ents m) c2) ∧ (getE b m).getD (.int .i64 0) = .int .i64 0) hs14 (fun u hu => ⟨Sep.pick hu [0, 2] 3, _, _, Sep.map hu.p1, by rw [oneE_none hnew]; rfl⟩) fun w15 hs15 _ => ?_
    refine ⟨kv b, fun u hu => (L_api_ID (Sep.blk hu.1) _).mpr rfl, ?_⟩
    refine ⟨.int .i64 0, fun u hu => by
      obtain ⟨_, m, c2, hm, h0⟩ := hu
      rw [lookup_map1 U_map_api_ID_int KT (zI u) hm b, h0], ?_⟩
    simp only [nilc_some, fad_mk, pik_true, pik_false, cnd_true, cnd_false, gif_same, gif_tf, gif_ft, gif_undef, bi_add, bi_sub, bi_mul, bi_eql, bi_neq, bi_lss, bi_leq, bi_gtr, bi_geq, notB_bool, cvi_int, lenS_mk, lenT_mk, ext0, ext1, ext2, nilP_mk, nilS_mk, fldv_agg, jn0_k, jn1_k, jn2_k, jn1_and, jn1_or, ex_some, Option.isNone_some, Option.isNone_none, Bool.false_bne, Bool.bne_true, Bool.bne_false, Bool.true_bne, Bool.not_true, Bool.not_false, Bool.and_true, Bool.true_and, Bool.and_false, Bool.false_and, Bool.or_true, Bool.true_or, Bool.or_false, Bool.false_or, cond_true, cond_false, List.getElem?_toArray, List.getElem?_cons_zero, List.getElem?_cons_succ, Nat.zero_add, Nat.add_zero, Nat.reduceAdd, forall_const]
    refine efS_i (entNew_s U_map_api_ID_int KT zI hs15.p1 (oneE_none hnew) fun w16 hs16 => ⟨⟨Sep.pick hs16 [1, 2] 3, _, _, Sep.map hs16, ?_⟩, ?_⟩)
    · unfold getE
      have h0 := oneE_none hnew
      unfold getE at h0
      rw [Option.map_eq_none_iff] at h0
      rw [List.find?_append, h0]
      simp
    simp only [nilc_some, fad_mk, pik_true, pik_false, cnd_true, cnd_false, gif_same, gif_tf, gif_ft, gif_undef, bi_add, bi_sub, bi_mul, bi_eql, bi_neq, bi_lss, bi_leq, bi_gtr, bi_geq, notB_bool, cvi_int, lenS_mk, lenT_mk, ext0, ext1, ext2, nilP_mk, nilS_mk, fldv_agg, jn0_k, jn1_k, jn2_k, jn1_and, jn1_or, ex_some, Option.isNone_some, Option.isNone_none, Bool.false_bne, Bool.bne_true, Bool.bne_false, Bool.true_bne, Bool.not_true, Bool.not_false, Bool.and_true, Bool.true_and, Bool.and_false, Bool.false_and, Bool.or_true, Bool.true_or, Bool.or_false, Bool.false_or, cond_true, cond_false, List.getElem?_toArray, List.getElem?_cons_zero, List.getElem?_cons_succ, Nat.zero_add, Nat.add_zero, Nat.reduceAdd, forall_const]
    refine efC_efU (entSt_s hs16 (oneE_lt Ys) fun w17 hs17 => ?_)
    rw [wi64 (by omega) (by omega)]
    refine ⟨⟨j + 1, by simp, by omega, ?_⟩, by simp [RowKit.intOf]; omega⟩
    rw [ey, oneE_snoc, List.length_append]
    exact Sep.pick hs17 [0, 2] 3
  have hge : i = N.length + 1 := by simp at h; omega
  rw [hge, List.take_of_length_le (by omega)] at hs7
  clear hkp hge h
  have hSl : ((idsT t N).flatMap (kidsOf N)).length = N.length := by rw [hperm.length_eq, hNl]
  have hSm : ∀ b ∈ nms N, b ∈ (idsT t N).flatMap (kidsOf N) := fun b hb => hperm.mem_iff.2 hb
  generalize (idsT t N).flatMap (kidsOf N) = S at *
  rw [len_map U_map_api_ID_int hs7.map (by rw [oneE_len]; omega), oneE_len, hSl]
  have e1 : IntKind.i64.wrap (((N.length + 1 : Nat) : Int) - 1) = (N.length : Int) := by rw [wi64 (by omega) (by omega)]; omega
  simp only [lw, nilc_some, fad_mk, pik_true, pik_false, cnd_true, cnd_false, gif_same, gif_tf, gif_ft, gif_undef, bi_add, bi_sub, bi_mul, bi_eql, bi_neq, bi_lss, bi_leq, bi_gtr, bi_geq, notB_bool, cvi_int, lenS_mk, lenT_mk, ext0, ext1, ext2, nilP_mk, nilS_mk, fldv_agg, jn0_k, jn1_k, jn2_k, jn1_and, jn1_or, ex_some, Option.isNone_some, Option.isNone_none, Bool.false_bne, Bool.bne_true, Bool.bne_false, Bool.true_bne, Bool.not_true, Bool.not_false, Bool.and_true, Bool.true_and, Bool.and_false, Bool.false_and, Bool.or_true, Bool.true_or, Bool.or_false, Bool.false_or, cond_true, cond_false, List.getElem?_toArray, List.getElem?_cons_zero, List.getElem?_cons_succ, Nat.zero_add, Nat.add_zero, Nat.reduceAdd, forall_const, bne_self_eq_false, e1]
  refine jn1_dup ?_
  refine cal_i (Len_spec (fT hs7.tail) hn) ?_
  rintro _ _ ⟨rfl, rfl⟩
  simp only [nilc_some, fad_mk, pik_true, pik_false, cnd_true, cnd_false, gif_same, gif_tf, gif_ft, gif_undef, bi_add, bi_sub, bi_mul, bi_eql, bi_neq, bi_lss, bi_leq, bi_gtr, bi_geq, notB_bool, cvi_int, lenS_mk, lenT_mk, ext0, ext1, ext2, nilP_mk, nilS_mk, fldv_agg, jn0_k, jn1_k, jn2_k, jn1_and, jn1_or, ex_some, Option.isNone_some, Option.isNone_none, Bool.false_bne, Bool.bne_true, Bool.bne_false, Bool.true_bne, Bool.not_true, Bool.not_false, Bool.and_true, Bool.true_and, Bool.and_false, Bool.false_and, Bool.or_true, Bool.true_or, Bool.or_false, Bool.false_or, cond_true, cond_false, List.getElem?_toArray, List.getElem?_cons_zero, List.getElem?_cons_succ, Nat.zero_add, Nat.add_zero, Nat.reduceAdd, forall_const, bne_self_eq_false]
  refine ⟨fun y z => ∃ i : Nat, y = .int .i64 i ∧ i ≤ N.length ∧ Sep w z (mp gs (oneE S) S.length :: L), fun y _ => (N.length - RowKit.intOf y).toNat, ⟨0, rfl, by omega, hs7⟩, ?_⟩
  clear hs7 hi
  rintro _ w8 ⟨i, rfl, hi, hs8⟩ -
  simp only [nilc_some, fad_mk, pik_true, pik_false, cnd_true, cnd_false, gif_same, gif_tf, gif_ft, gif_undef, bi_add, bi_sub, bi_mul, bi_eql, bi_neq, bi_lss, bi_leq, bi_gtr, bi_geq, notB_bool, cvi_int, lenS_mk, lenT_mk, ext0, ext1, ext2, nilP_mk, nilS_mk, fldv_agg, jn0_k, jn1_k, jn2_k, jn1_and, jn1_or, ex_some, Option.isNone_some, Option.isNone_none, Bool.false_bne, Bool.bne_true, Bool.bne_false, Bool.true_bne, Bool.not_true, Bool.not_false, Bool.and_true, Bool.true_and, Bool.and_false, Bool.false_and, Bool.or_true, Bool.true_or, Bool.or_false, Bool.false_or, cond_true, cond_false, List.getElem?_toArray, List.getElem?_cons_zero, List.getElem?_cons_succ, Nat.zero_add, Nat.add_zero, Nat.reduceAdd, forall_const]
  rw [cnd_bool]
  refine ⟨fun h => ?_, fun h => ?_⟩
  · have hlt : i < N.length := by simp at h; omega
    obtain ⟨b, hb⟩ : ∃ b, (nms N)[i]? = some b := ⟨_, List.getElem?_eq_getElem (by omega)⟩
    have hbS := hSm b (List.mem_of_getElem? hb)
    change ixs 32 _ _ _
    refine Rows'.ldN (q := rVec 32) (by decide) (fw hs8.tail) hb .i64 ?_
    refine alloc_s hs8 (A_api_ID w8) fun g16 w9 hs9 => ?_
    refine St_api_ID (b := b) hs9 fun w10 hs10 => ?_
    simp only [L_api_ID hs10.blk]
    rw [lookup_map1 U_map_api_ID_int KT (zI _) (Sep.map hs10.p1) b, oneE_some hbS]
    simp only [nilc_some, fad_mk, pik_true, pik_false, cnd_true, cnd_false, gif_same, gif_tf, gif_ft, gif_undef, bi_add, bi_sub, bi_mul, bi_eql, bi_neq, bi_lss, bi_leq, bi_gtr, bi_geq, notB_bool, cvi_int, lenS_mk, lenT_mk, ext0, ext1, ext2, nilP_mk, nilS_mk, fldv_agg, jn0_k, jn1_k, jn2_k, jn1_and, jn1_or, ex_some, Option.isNone_some, Option.isNone_none, Bool.false_bne, Bool.bne_true, Bool.bne_false, Bool.true_bne, Bool.not_true, Bool.not_false, Bool.and_true, Bool.true_and, Bool.and_false, Bool.false_and, Bool.or_true, Bool.true_or, Bool.or_false, Bool.false_or, cond_true, cond_false, List.getElem?_toArray, List.getElem?_cons_zero, List.getElem?_cons_succ, Nat.zero_add, Nat.add_zero, Nat.reduceAdd, forall_const, Option.getD_some, show ((1 : Int) != 1) = false from rfl]
    rw [wi64 (by omega) (by omega)]
    exact ⟨⟨i + 1, by simp, by omega, hs10.tail⟩, by simp [RowKit.intOf]; omega⟩
  clear h hi hSm hSl hperm hnd
  rw [wi64 (by omega) (by omega), bi_rem _ _ _ _ (by omega), tmodn]
  have hmod := Nat.mod_lt kid (show 0 < N.length + 1 by omega)
  obtain ⟨k, hk⟩ : ∃ k, (idsT t N)[kid % (N.length + 1)]? = some k := ⟨_, List.getElem?_eq_getElem (by omega)⟩
  change ixs 32 _ _ _
  refine Rows'.ldN (q := rVec 32) (by decide) (fx hs8.tail) hk .i64 ?_
  refine alloc_s hs8 (A_api_ID w8) fun g17 w9 hs9 => ?_
  refine St_api_ID (b := k) hs9 fun w10 hs10 => ?_
  simp only [L_api_ID hs10.blk]
  refine cal_i (Under_spec (fT hs10.tail.tail) hTI.w hn k) ?_
  rintro und w11 hs11
  replace hs11 := hs10.join hs11
  simp only [L_api_ID (Sep.blk hs11.p1)]
  rw [hL] at hs11
  replace hs11 : Sep w w11 (trH g gm ov t N c ++ (rows (rVec 32) und ((N.map (·.1)).filter fun x => under t N x k) :: blk g17 (Rdr.cells (rVec 32) k).toArray T_api_ID :: rows (rVec 32) was (nms N) :: rows (rVec 32) x (idsT t N) :: Ds)) := Sep.pick hs11 [3, 4, 5, 0, 1, 6, 7] 9
  refine cal_i (MoveU hs11 (hD.sub (Bs := _ :: _ :: _ :: _ :: Ds) fun A hA => by simp [hA]) hTI.w hTI.nd hn k) ?_
  rintro _ w12 ⟨gv, ov', rfl, hs12⟩
  clear hs11 hs10 hs9 hs8 hs5 hs6 fT fw fx hL
  simp only [nilc_some, fad_mk, pik_true, pik_false, cnd_true, cnd_false, gif_same, gif_tf, gif_ft, gif_undef, bi_add, bi_sub, bi_mul, bi_eql, bi_neq, bi_lss, bi_leq, bi_gtr, bi_geq, notB_bool, cvi_int, lenS_mk, lenT_mk, ext0, ext1, ext2, nilP_mk, nilS_mk, fldv_agg, jn0_k, jn1_k, jn2_k, jn1_and, jn1_or, ex_some, Option.isNone_some, Option.isNone_none, Bool.false_bne, Bool.bne_true, Bool.bne_false, Bool.true_bne, Bool.not_true, Bool.not_false, Bool.and_true, Bool.true_and, Bool.and_false, Bool.false_and, Bool.or_true, Bool.true_or, Bool.or_false, Bool.false_or, cond_true, cond_false, List.getElem?_toArray, List.getElem?_cons_zero, List.getElem?_cons_succ, Nat.zero_add, Nat.add_zero, Nat.reduceAdd, forall_const]
  by_cases ok : mvOk t N k = true
  case neg =>
    rw [mvT', mvN', mvG', if_neg ok, if_neg ok, if_neg ok] at hs12
    rw [mvE, if_neg ok]
    have lg : ∀ K, lenS gv K = K (.int .i64 ((0 : Nat) : Int)) := (Sep.rows hs12.p3).len
    simp only [nilc_some, fad_mk, pik_true, pik_false, cnd_true, cnd_false, gif_same, gif_tf, gif_ft, gif_undef, bi_add, bi_sub, bi_mul, bi_eql, bi_neq, bi_lss, bi_leq, bi_gtr, bi_geq, notB_bool, cvi_int, lenS_mk, lenT_mk, ext0, ext1, ext2, nilP_mk, nilS_mk, fldv_agg, jn0_k, jn1_k, jn2_k, jn1_and, jn1_or, ex_some, Option.isNone_some, Option.isNone_none, Bool.false_bne, Bool.bne_true, Bool.bne_false, Bool.true_bne, Bool.not_true, Bool.not_false, Bool.and_true, Bool.true_and, Bool.and_false, Bool.false_and, Bool.or_true, Bool.true_or, Bool.or_false, Bool.false_or, cond_true, cond_false, List.getElem?_toArray, List.getElem?_cons_zero, List.getElem?_cons_succ, Nat.zero_add, Nat.add_zero, Nat.reduceAdd, forall_const, lg, show ((4 : Int) != 0) = true from rfl, show ((4 : Int) == 4) = true from rfl, show ((((0 : Nat) : Int)) == 0) = true from rfl]
    refine jn1_dup ?_
    refine cal_i (Len_spec (trH_rd hs12 (hD.sub (Bs := _ :: _ :: _ :: _ :: _ :: Ds) fun A hA => by simp [hA])) hn) ?_
    rintro _ _ ⟨rfl, rfl⟩
    simp only [nilc_some, fad_mk, pik_true, pik_false, cnd_true, cnd_false, gif_same, gif_tf, gif_ft, gif_undef, bi_add, bi_sub, bi_mul, bi_eql, bi_neq, bi_lss, bi_leq, bi_gtr, bi_geq, notB_bool, cvi_int, lenS_mk, lenT_mk, ext0, ext1, ext2, nilP_mk, nilS_mk, fldv_agg, jn0_k, jn1_k, jn2_k, jn1_and, jn1_or, ex_some, Option.isNone_some, Option.isNone_none, Bool.false_bne, Bool.bne_true, Bool.bne_false, Bool.true_bne, Bool.not_true, Bool.not_false, Bool.and_true, Bool.true_and, Bool.and_false, Bool.false_and, Bool.or_true, Bool.true_or, Bool.or_false, Bool.false_or, cond_true, cond_false, List.getElem?_toArray, List.getElem?_cons_zero, List.getElem?_cons_succ, Nat.zero_add, Nat.add_zero, Nat.reduceAdd, forall_const, beq_self_eq_true]
    exact hR _ _ ⟨rfl, hs12.fr0⟩
  have ht : mvT' t N k = mvT t N k := if_pos ok
  have hN' : mvN' t N k = mvN t N k := if_pos ok
  have hG : mvG' t N k = mvGone t N k := if_pos ok
  rw [ht, hN', hG] at hs12
  rw [mvE, if_pos ok]
  obtain ⟨hkb, hku⟩ := mvOk_spec ok
  have hkh := blk_has (t := t) hkb
  have hkr := blk_nroot hTI.w hkb
  have hkN : k ∈ nms N := (has_mem hkh).resolve_left hkr
  have huk : under t N k k = true := by
    rw [under_path hkh hkh, path_step hTI.w hkh hkr]
    simp
  obtain ⟨U, hU⟩ : ∃ U, U = (N.map (·.1)).filter fun x => under t N x k := ⟨_, rfl⟩
  have hGU : U.length + (mvGone t N k).length = N.length := by
    have := len_split (fun x => under t N x k) (nms N)
    rw [hU]
    rw [hNl] at this
    exact this
  have hNU : nms (mvN t N k) = U.filter fun x => !decide (x = k) := by
    rw [hU, List.filter_filter, mvN_eq]
    show (N.filter _).map (·.1) = (N.map (·.1)).filter _
    rw [List.filter_map]
    rfl
  have hkU : k ∈ U := by rw [hU]; exact List.mem_filter.2 ⟨hkN, huk⟩
  have hUn : U.Nodup := by rw [hU]; exact hTI.nd.filter _
  have hUl := len_one k U hUn hkU
  rw [← hNU, List.length_map] at hUl
  have hGm : ∀ x ∈ U, x ∉ mvGone t N k := fun x hx hg => by
    rw [hU] at hx
    have h1 := (List.mem_filter.1 hx).2
    have h2 := (List.mem_filter.1 hg).2
    rw [h1] at h2
    cases h2
  have hLU : ∀ x ∈ nms (mvN t N k), x ∈ U := fun x hx => by rw [hNU] at hx; exact (List.mem_filter.1 hx).1
  have hroot : (mvT t N k).root = k := rfl
  rw [← hU] at hs12
  have hDm : Dat (mvN t N k) Ds := by rw [← hN']; exact hD.mv t k
  clear hNU hkU hUn ht hN' hG
  generalize mvT t N k = t' at *
  generalize mvN t N k = N' at *
  generalize mvGone t N k = G at *
  have rT' : ∀ {z : World} {As : List Asn} , Sep w z (trH g gm ov' t' N' c ++ As) → (∀ A ∈ Ds, A ∈ As) → TrR z.heap g gm ov' t' N' c := fun hz hA => trH_rd hz (hDm.sub hA)
  simp only [nilc_some, fad_mk, pik_true, pik_false, cnd_true, cnd_false, gif_same, gif_tf, gif_ft, gif_undef, bi_add, bi_sub, bi_mul, bi_eql, bi_neq, bi_lss, bi_leq, bi_gtr, bi_geq, notB_bool, cvi_int, lenS_mk, lenT_mk, ext0, ext1, ext2, nilP_mk, nilS_mk, fldv_agg, jn0_k, jn1_k, jn2_k, jn1_and, jn1_or, ex_some, Option.isNone_some, Option.isNone_none, Bool.false_bne, Bool.bne_true, Bool.bne_false, Bool.true_bne, Bool.not_true, Bool.not_false, Bool.and_true, Bool.true_and, Bool.and_false, Bool.false_and, Bool.or_true, Bool.true_or, Bool.or_false, Bool.false_or, cond_true, cond_false, List.getElem?_toArray, List.getElem?_cons_zero, List.getElem?_cons_succ, Nat.zero_add, Nat.add_zero, Nat.reduceAdd, forall_const, show ((0 : Int) != 0) = false from rfl]
  refine cal_i (All_spec (rT' hs12 fun A hA => by simp [hA]) (by omega)) ?_
  rintro r3 w13 hg
  have hN'l : (nms N').length = N'.length := by simp
  refine cal_i (hg.told (most := 1048576) (by omega) (by decide)) ?_
  rintro left w14 hs14
  rw [List.take_of_length_le (by omega)] at hs14
  replace hs14 := (hs12.old hg.fr0).join hs14
  have ll : ∀ K, lenS left K = K (.int .i64 N'.length) := fun K => by rw [(Sep.rows hs14).len, hN'l]
  have lg : ∀ K, lenS gv K = K (.int .i64 G.length) := (Sep.rows (Sep.pick hs14 [4] 5)).len
  have lu : ∀ K, lenS und K = K (.int .i64 U.length) := (Sep.rows (Sep.pick hs14 [5] 6)).len
  have ea : IntKind.i64.wrap (IntKind.i64.wrap ((N'.length : Int) + (G.length : Int)) + 1) = (N.length : Int) := by
    rw [wi64 (x := (N'.length : Int) + (G.length : Int)) (by omega) (by omega), wi64 (by omega) (by omega)]; omega
  have eb : IntKind.i64.wrap ((N'.length : Int) + 1) = (U.length : Int) := by rw [wi64 (by omega) (by omega)]; omega
  simp only [ll, lg, lu, lw, nilc_some, fad_mk, pik_true, pik_false, cnd_true, cnd_false, gif_same, gif_tf, gif_ft, gif_undef, bi_add, bi_sub, bi_mul, bi_eql, bi_neq, bi_lss, bi_leq, bi_gtr, bi_geq, notB_bool, cvi_int, lenS_mk, lenT_mk, ext0, ext1, ext2, nilP_mk, nilS_mk, fldv_agg, jn0_k, jn1_k, jn2_k, jn1_and, jn1_or, ex_some, Option.isNone_some, Option.isNone_none, Bool.false_bne, Bool.bne_true, Bool.bne_false, Bool.true_bne, Bool.not_true, Bool.not_false, Bool.and_true, Bool.true_and, Bool.and_false, Bool.false_and, Bool.or_true, Bool.true_or, Bool.or_false, Bool.false_or, cond_true, cond_false, List.getElem?_toArray, List.getElem?_cons_zero, List.getElem?_cons_succ, Nat.zero_add, Nat.add_zero, Nat.reduceAdd, forall_const, ea, eb, bne_self_eq_false]
  refine ⟨fun y z => ∃ i : Nat, y = .int .i64 i ∧ i ≤ N'.length ∧ Sep w z (rows (rVec 32) left (nms N') :: (trH g gm ov' t' N' c ++ (rows (rVec 32) gv G :: rows (rVec 32) und U :: blk g17 (Rdr.cells (rVec 32) k).toArray T_api_ID :: rows (rVec 32) was (nms N) :: rows (rVec 32) x (idsT t N) :: Ds))), fun y _ => (N'.length - RowKit.intOf y).toNat, ⟨0, rfl, by omega, hs14⟩, ?_⟩
  rintro _ w15 ⟨j, rfl, hj, hs15⟩ -
  simp only [nilc_some, fad_mk, pik_true, pik_false, cnd_true, cnd_false, gif_same, gif_tf, gif_ft, gif_undef, bi_add, bi_sub, bi_mul, bi_eql, bi_neq, bi_lss, bi_leq, bi_gtr, bi_geq, notB_bool, cvi_int, lenS_mk, lenT_mk, ext0, ext1, ext2, nilP_mk, nilS_mk, fldv_agg, jn0_k, jn1_k, jn2_k, jn1_and, jn1_or, ex_some, Option.isNone_some, Option.isNone_none, Bool.false_bne, Bool.bne_true, Bool.bne_false, Bool.true_bne, Bool.not_true, Bool.not_false, Bool.and_true, Bool.true_and, Bool.and_false, Bool.false_and, Bool.or_true, Bool.true_or, Bool.or_false, Bool.false_or, cond_true, cond_false, List.getElem?_toArray, List.getElem?_cons_zero, List.getElem?_cons_succ, Nat.zero_add, Nat.add_zero, Nat.reduceAdd, forall_const]
  rw [cnd_bool]
  refine ⟨fun h => ?_, fun h => ?_⟩
  · have hlt : j < N'.length := by simp at h; omega
    obtain ⟨b, hb⟩ : ∃ b, (nms N')[j]? = some b := ⟨_, List.getElem?_eq_getElem (by omega)⟩
    have hbU := hLU b (List.mem_of_getElem? hb)
    change ixs 32 _ _ _
    refine Rows'.ldN (q := rVec 32) (by decide) (Sep.rows hs15) hb .i64 ?_
    refine alloc_s hs15 (A_api_ID w15) fun g23 w16 hs16 => ?_
    refine St_api_ID (b := b) hs16 fun w17 hs17 => ?_
    simp only [L_api_ID hs17.blk]
    refine cal_i (idsContains_spec (Sep.rows (Sep.pick hs17 [6] 7)) (by omega) b) ?_
    rintro _ w18 ⟨rfl, hf18⟩
    have hs18 := hs17.old hf18
    simp only [decide_eq_true hbU, nilc_some, fad_mk, pik_true, pik_false, cnd_true, cnd_false, gif_same, gif_tf, gif_ft, gif_undef, bi_add, bi_sub, bi_mul, bi_eql, bi_neq, bi_lss, bi_leq, bi_gtr, bi_geq, notB_bool, cvi_int, lenS_mk, lenT_mk, ext0, ext1, ext2, nilP_mk, nilS_mk, fldv_agg, jn0_k, jn1_k, jn2_k, jn1_and, jn1_or, ex_some, Option.isNone_some, Option.isNone_none, Bool.false_bne, Bool.bne_true, Bool.bne_false, Bool.true_bne, Bool.not_true, Bool.not_false, Bool.and_true, Bool.true_and, Bool.and_false, Bool.false_and, Bool.or_true, Bool.true_or, Bool.or_false, Bool.false_or, cond_true, cond_false, List.getElem?_toArray, List.getElem?_cons_zero, List.getElem?_cons_succ, Nat.zero_add, Nat.add_zero, Nat.reduceAdd, forall_const, L_api_ID hs18.blk]
    refine jn1_dup ?_
    refine cal_i (idsContains_spec (Sep.rows (Sep.pick hs18 [5] 6)) (by omega) b) ?_
    rintro _ w19 ⟨rfl, hf19⟩
    have hs19 := hs18.old hf19
    simp only [decide_eq_false (hGm b hbU), nilc_some, fad_mk, pik_true, pik_false, cnd_true, cnd_false, gif_same, gif_tf, gif_ft, gif_undef, bi_add, bi_sub, bi_mul, bi_eql, bi_neq, bi_lss, bi_leq, bi_gtr, bi_geq, notB_bool, cvi_int, lenS_mk, lenT_mk, ext0, ext1, ext2, nilP_mk, nilS_mk, fldv_agg, jn0_k, jn1_k, jn2_k, jn1_and, jn1_or, ex_some, Option.isNone_some, Option.isNone_none, Bool.false_bne, Bool.bne_true, Bool.bne_false, Bool.true_bne, Bool.not_true, Bool.not_false, Bool.and_true, Bool.true_and, Bool.and_false, Bool.false_and, Bool.or_true, Bool.true_or, Bool.or_false, Bool.false_or, cond_true, cond_false, List.getElem?_toArray, List.getElem?_cons_zero, List.getElem?_cons_succ, Nat.zero_add, Nat.add_zero, Nat.reduceAdd, forall_const]
    rw [wi64 (by omega) (by omega)]
    exact ⟨⟨j + 1, by simp, by omega, hs19.tail⟩, by simp [RowKit.intOf]; omega⟩
  refine cal_i (Root_spec (rT' hs15.tail fun A hA => by simp [hA])) ?_
  rintro _ w16 ⟨rfl, hf16⟩
  have hs16 := hs15.old hf16
  simp only [nilc_some, fad_mk, pik_true, pik_false, cnd_true, cnd_false, gif_same, gif_tf, gif_ft, gif_undef, bi_add, bi_sub, bi_mul, bi_eql, bi_neq, bi_lss, bi_leq, bi_gtr, bi_geq, notB_bool, cvi_int, lenS_mk, lenT_mk, ext0, ext1, ext2, nilP_mk, nilS_mk, fldv_agg, jn0_k, jn1_k, jn2_k, jn1_and, jn1_or, ex_some, Option.isNone_some, Option.isNone_none, Bool.false_bne, Bool.bne_true, Bool.bne_false, Bool.true_bne, Bool.not_true, Bool.not_false, Bool.and_true, Bool.true_and, Bool.and_false, Bool.false_and, Bool.or_true, Bool.true_or, Bool.or_false, Bool.false_or, cond_true, cond_false, List.getElem?_toArray, List.getElem?_cons_zero, List.getElem?_cons_succ, Nat.zero_add, Nat.add_zero, Nat.reduceAdd, forall_const]
  refine alloc_s hs16 (A_api_ID w16) fun g24 w17 hs17 => ?_
  refine St_api_ID (b := t'.root) hs17 fun w18 hs18 => ?_
  simp only [L_api_ID hs18.blk, L_api_ID (Sep.blk (Sep.pick hs18 [7] 8)), eq_api_ID, hroot, decide_true]
  exact hR _ _ ⟨rfl, hs18.fr0⟩
end
end Go.Fx
namespace Go.Fx
theorem okWide_arr {P : Program} {w : World} {r : Reach} {base n : Nat} {t e : TypeId} {v : Value} (ht : P.underlying t = some (.array n e)) (h : Value.okWide P w r base t v) : ∃ cs, v = .agg cs ∧ cs.size = P.cellsOf t := by
  simp only [Value.okWide, ht] at h
  obtain ⟨cs, h1, h2, _⟩ := h
  exact ⟨cs, h1, h2⟩
end Go.Fx
namespace Go.Proofs.YtfpjpecenlbanaaDoor
open Go.ChangeShapes Go.WideShapes Go.ChangeAt Go.RowKit
theorem own : ownKnob Tryd.prog.godebug = none := by kernel_rfl
theorem laidOut : laidOutB Tryd.prog = true := by kernel_rfl
end Go.Proofs.YtfpjpecenlbanaaDoor
namespace Go.Proofs.YtfpjpecenlbanaaDoor
open Go.ChangeShapes Go.WideShapes Go.ChangeAt Go.RowKit
abbrev laidL : List (String × DataW Unit) := [("flurry/sha.cubes", Rows.laid_flurry_sha_cubes)]
theorem gCubes : Tryd.prog.globalNamed "flurry/sha.cubes" = some 0 := by kernel_rfl
theorem tCubes : (Tryd.prog.globals[0]?).map (·.type) = some Go.Fx.T_a64_uint32 := by kernel_rfl
theorem door_met (os : Os) (args : Array Value) : laidMetH Tryd.prog laidL ((World.doorLaid Tryd.prog 400 os).forCall (fun _ _ => 0) ⟨#[], args, []⟩).memory :=
  laidMetH_of_parts3 (fuel := 8) (laidMet_of_run' 8 (by kernel_rfl) (by kernel_rfl)) (by kernel_rfl) (by kernel_rfl)
theorem cub_of_laid {W : World} (h : laidMetH Tryd.prog laidL W) : Go.Fx.Cub W := by
  rw [MakeChecks.laidMetH_plain _ _ _ (by kernel_rfl)] at h
  obtain ⟨ps, ⟨g0, t0, cs0, f0, p0, q0, hg0, ht0, hv0, hd0, _, _⟩, _, _⟩ := h
  obtain rfl := Option.some.inj (gCubes.symm.trans hg0)
  obtain rfl := Option.some.inj (tCubes.symm.trans ht0)
  have hcs : cs0.toList = Go.Fx.wvs Go.Fx.cubesL := by
    obtain ⟨xs, m1, _, hx1, hlen, hn3, hel⟩ := DataW.trod_array Go.Fx.U_a64_uint32 hd0
    have c1 : Tryd.prog.cellsOf Go.Fx.T_uint32 = 1 := by kernel_rfl
    have c64 : Tryd.prog.cellsOf Go.Fx.T_a64_uint32 = 64 := by kernel_rfl
    rw [c64] at hlen
    rw [c1] at hel
    have hd : (Rows.laid_flurry_sha_cubes : DataW Unit) = .agg (Go.Fx.cubesL.map fun x => .lit (.int .u32 x.toNat)) := by kernel_rfl
    rw [hd] at hx1
    simp only [Prod.mk.injEq, DataW.agg.injEq] at hx1
    apply List.ext_getElem?
    intro i
    by_cases hi : i < 64
    · have h1 := hel i hi
      have hx : xs[i]? = some (xs[i]'(by omega)) := List.getElem?_eq_getElem _
      rw [hx] at h1
      generalize xs[i]'(by omega) = y at *
      obtain ⟨k, e1, e2, _⟩ := DataW.trod_int Go.Fx.U_uint32 h1
      have h2 := congrArg (·[i]?) hx1.1
      simp only [List.getElem?_map, hx, e2, Option.map_some] at h2
      have h3 : cs0.toList[i]? = some (.int .u32 k) := by
        have : ((cs0.toList.drop (i * 1)).take 1)[0]? = some (.int .u32 k) := by rw [e1]; rfl
        rw [List.getElem?_take_of_lt (by omega), List.getElem?_drop, Nat.mul_one, Nat.add_zero] at this
        exact this
      rw [h3, Go.Fx.wvs, List.getElem?_map]
      cases hc : Go.Fx.cubesL[i]? with
      | none => rw [hc] at h2; cases h2
      | some z =>
        rw [hc] at h2
        simp only [Option.map_some, Option.some.injEq, DataW.lit.injEq, Lit.int.injEq, true_and] at h2
        rw [Option.map_some, ← h2]
        rfl
    · rw [List.getElem?_eq_none (by omega), List.getElem?_eq_none (by rw [Go.Fx.wvs, List.length_map]; show 64 ≤ i; omega)]
  have hv1 := hv0
  unfold World.var? at hv1
  rw [hg0] at hv1
  simp only [Option.bind_some] at hv1
  cases hh : W.heap[0]? with
  | none => rw [hh] at hv1; cases hv1
  | some o =>
    rw [hh] at hv1
    cases o with
    | cells cs t fr =>
      simp only [Option.some.injEq] at hv1
      subst hv1
      refine ⟨t, fr, ?_⟩
      rw [hh]
      have : cs = (Go.Fx.wvs Go.Fx.cubesL).toArray := by apply Array.ext'; simpa using hcs
      rw [this]
    | _ => cases hv1
end Go.Proofs.YtfpjpecenlbanaaDoor
set_option linter.unusedVariables false
set_option linter.unusedSimpArgs false
namespace Go.Proofs.YtfpjpecenlbanaaDoor
open Go.ChangeShapes Go.WideShapes Go.ChangeAt Go.RowKit
set_option maxRecDepth 100000 in
theorem liftedTreeParts (os : Os) (started : os.Started) (H : Type) (enc : TypeId × Value → H) :
    ReturnsInHanded {} Tryd.checked os 6 .any (fun w args => (Rows.treePartsSpec.pre enc Tryd.prog Tryd.f6 [] false w args ∧ laidMetH Tryd.prog laidL w) ∧ sizedMet enc Tryd.prog Tryd.f6 (OpenSpec.ofChange Rows.treePartsSpec) false w args) (Rows.treePartsSpec.post enc Tryd.prog Tryd.f6 false true false false) := by
  refine returnsInHanded_of_change_and (C := Tryd.checked) (X := fun w _ => laidMetH Tryd.prog laidL w) (fun _ _ _ hh h => h.of_heap hh) own started (by kernel_rfl) Tryd.func6
    (ChangeSpec.witness_shaped (enc := enc) (C := Tryd.checked) (os := os) (X := fun w _ => laidMetH Tryd.prog laidL w) false (World.doorLaid Tryd.prog 400 os) #[((Value.agg ((List.replicate 32 (Value.int IntKind.u8 0) ++ List.replicate 2 (Value.int IntKind.i64 0) : List Value).toArray))), .slice none 0 0, .int .u8 0] 8 rfl (World.shaped_of_RefB (by kernel_rfl) (by kernel_rfl)) (by kernel_rfl) (by kernel_rfl) (by kernel_rfl) (door_met os _)) ?_
  intro W base args ds gs before hval0 hW _ _ hL _
  have hcub : Go.Fx.Cub W := cub_of_laid hL
  have hval : ∀ (j : Nat) t v, Tryd.f6.params[j]? = some t → args[j]? = some v → Value.okWide Tryd.prog W .any base t v := hval0
  have hW' := hW
  obtain ⟨p, q, hA0, hV, rfl, hfz, hnd⟩ := hW
  have hA : DataW.TrodAll enc Tryd.prog W 0 (fun _ => true) true Tryd.f6.params.toList args.toList ds p := hA0
  rw [Tryd.params6] at hA hval
  obtain ⟨v0, vs0, d0, ds0, p0, q0, hargs, rfl, rfl, h0, r0⟩ := trodAll_cons hA
  obtain ⟨v1, vs1, d1, ds1, p1, q1, rfl, rfl, rfl, h1, r1⟩ := trodAll_cons r0
  obtain ⟨v2, vs2, d2, ds2, p2, q2, rfl, rfl, rfl, h2, r2⟩ := trodAll_cons r1
  obtain ⟨rfl, rfl, rfl⟩ := trodAll_nil r2
  obtain rfl : args = #[v0, v1, v2] := by cases args; simp_all
  obtain ⟨rfl, rfl⟩ := trodVars_none hV
  obtain ⟨cs0, rfl, sz0⟩ := okWide_struct Tryd.underlying25 (hval 0 25 v0 rfl rfl)
  have k0 := h0
  have lt0 : ∀ x ∈ p0, x.block < W.heap.size := by obtain ⟨m, hm⟩ := k0; exact DataW.trod_lt m _ _ _ hm
  obtain ⟨f0, hf0⟩ := h0
  have hx0 := Go.Fx.O_flurrylaw11_Start hf0
  obtain ⟨x0, rfl, rd0⟩ := hx0
  obtain ⟨a1, len1, cap1, rfl⟩ := okWide_slice Tryd.underlying26 (hval 1 26 v1 rfl rfl)
  have k1 := h1
  have lt1 : ∀ x ∈ p1, x.block < W.heap.size := by obtain ⟨m, hm⟩ := k1; exact DataW.trod_lt m _ _ _ hm
  obtain ⟨f1, hf1⟩ := h1
  have hx1 := Go.Fx.O_sl_flurrylaw11_Grow hf1
  obtain ⟨l1, rd1⟩ := hx1
  obtain ⟨a2, rfl, rfl, rfl, w2⟩ := open_int Tryd.underlying5 (hval 2 5 v2 rfl rfl) h2
  have b2 := bounds_u8 w2
  obtain ⟨n2, rfl⟩ := Int.eq_ofNat_of_zero_le b2.1
  have b2 : n2 < 256 := by omega
  clear hA0 hval0
  have hcal := Go.Fx.wParts (q := x0) hcub rd1 b2
  refine Calls.mono hcal fun e W' ⟨v, he, hv, hf⟩ => ?_
  subst hv
  subst he
  have bel : Below W.heap.size W W' := hf.below (by simp)
  exact ⟨_, rfl, _, _, _, [], _, [], hW', trodAll_mk1 (shut_bool Tryd.underlying4 _), (trodAll_cons_mk (Below.trod laidOut (by kernel_rfl) (of_decide_eq_true (by kernel_rfl)) k0 bel lt0) (trodAll_cons_mk (Below.trod laidOut (by kernel_rfl) (of_decide_eq_true (by kernel_rfl)) k1 bel lt1) (trodAll_cons_mk (shut_int Tryd.underlying5 w2) trodAll_mk0))), rfl, bel.frame _, fun h => by cases h⟩
theorem treeParts : Rows.TreePartsSaid :=
  OpenClaim.holds_of_wide 6 Tryd.f6 rfl rfl rfl rfl rfl rfl rfl ⟨rfl, rfl, rfl, rfl, rfl⟩ rfl rfl rfl rfl rfl (by kernel_rfl) Tryd.func6 (by kernel_rfl)
    (of_decide_eq_true (by kernel_rfl)) (by unfold Func.isWrapper; first | (rw [if_pos (by decide +kernel)]; kernel_rfl) | (rw [if_neg (by decide +kernel)]; exact ⟨rfl, rfl⟩))
    (fun os started H enc _ => liftedTreeParts os started H enc)
theorem treePartsCard : Rows.TreePartsCardSaid :=
  Claim7.holds_tied_plain_at .later [] [.data] true (true, "1fa925fa77ed7ed6f92739c319b9121af18d39d21fad0a237d9fb8bc4696d06f") false
    treeParts (fun _ h => by cases h) (by kernel_rfl) (fun _ h => by cases h) treeParts_row_tie rfl ⟨rfl, rfl⟩ (by kernel_rfl) rfl
    (fun f fn hf hfn => by
      obtain rfl : f = 6 := Option.some.inj ((show Tryd.prog.funcNamed "flurry/flurrylaw11.TreeParts" = some 6 by kernel_rfl).symm.trans hf) |>.symm
      obtain rfl : fn = Tryd.f6 := (Option.some.inj (Tryd.func6.symm.trans hfn)).symm
      exact ⟨by kernel_rfl, fun j t ht => by
        rw [Tryd.params6] at ht
        have hm : t ∈ [25, 26, 5] := by simpa using Array.mem_of_getElem? ht
        have hall : ([25, 26, 5].all fun u => !Tryd.prog.wantsStandIn u) = true := by kernel_rfl
        exact (show Tryd.prog.wantsStandIn t = false by simpa using List.all_eq_true.1 hall t hm)⟩)
    (by kernel_rfl)
#print axioms treePartsCard
end Go.Proofs.YtfpjpecenlbanaaDoor
