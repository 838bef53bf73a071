/-
  First instances, a choice more, a poll without enough votes.
-/
import Derived.Test.YtgiklllplfcikaaSnD
set_option linter.unusedVariables false
set_option linter.unusedSimpArgs false
namespace Go.Fx
def snZ : Sn := ⟨[], vz 32, vz 32, 0, false⟩
noncomputable def addM (p : Par) (x : Sn) (id : Id) : Sn × Int :=
  if snE p x ≠ 0 then (snZ, snE p x) else if 0 ≤ plc x.l id then (snZ, 110) else if 32 ≤ x.l.length then (snZ, 6) else ({ x with l := x.l ++ [(id, 0)] }, 0)
noncomputable def failM (p : Par) (x : Sn) : Sn × Int := if snE p x ≠ 0 then (snZ, snE p x) else (if x.dn then x else { x with conf := 0 }, 0)
def newM (p : Par) (id : Id) : Sn × Int := if parE p ≠ 0 then (snZ, parE p) else (⟨[(id, 0)], id, id, 0, false⟩, 0)
/-- What a call gives: an instance in memory of its own, and an error. -/
def SnQ (m : Sn × Int) (w : World) (r : Value) (w' : World) : Prop := ∃ v, r = .tuple #[snv v m.1, .int .i64 m.2] ∧ Sep w w' [rows Q_api_Choice v m.1.l]
theorem snE_len {p : Par} {x : Sn} (h : snE p x = 0) : 1 ≤ x.l.length ∧ x.l.length ≤ 32 := by
  unfold snE at h
  split at h
  · rename_i h1; exact absurd h h1
  · split at h
    · cases h
    · rename_i h2
      unfold headBad at h2
      omega
section
variable {w : World} {v u : Value} {x y : Sn} {p : Par} {id : Id}
theorem zero_val {w : World} : (⟨[], vz 32, vz 32, 0, false⟩ : Sn) = snZ := rfl
theorem New_spec : cal P f_snow_New [pav p, idv id] w fun r w' => SnQ (newM p id) w r w' := by
  refine s_snow_New fun R hR => ?_
  unfold c_snow_New
  refine bx_s (Sep.start w) fun g w1 hs => ?_
  refine bx_s hs fun g2 w2 hs => ?_
  simp only [Value.cells] at hs
  refine alloc_s hs (A_api_Snow w2) fun g3 w3 hs => ?_
  simp only [nilc_some, fad_mk, pik_true, pik_false, cnd_true, cnd_false, gif_same, gif_tf, gif_ft, gif_undef, bi_add, bi_sub, bi_mul, bi_eql, bi_neq, bi_lss, bi_leq, bi_gtr, bi_geq, notB_bool, cvi_int, lenS_mk, lenT_mk, ext0, ext1, ext2, nilP_mk, nilS_mk, fldv_agg, jn0_k, jn1_k, jn2_k, jn1_and, jn1_or, ex_some, Option.isNone_some, Option.isNone_none, Bool.false_bne, Bool.bne_true, Bool.bne_false, Bool.true_bne, Bool.not_true, Bool.not_false, Bool.and_true, Bool.true_and, Bool.and_false, Bool.false_and, Bool.or_true, Bool.true_or, Bool.or_false, Bool.false_or, cond_true, cond_false, List.getElem?_toArray, List.getElem?_cons_zero, List.getElem?_cons_succ, Nat.zero_add, Nat.add_zero, Nat.reduceAdd, forall_const, L_api_Params hs.p2.blk, L_api_Params__K hs.p2.blk, L_api_Params__AlphaPref hs.p2.blk, L_api_Params__AlphaConf hs.p2.blk, L_api_Params__Beta hs.p2.blk]
  refine cal_i Params_spec ?_
  rintro _ w4 ⟨rfl, hf4⟩
  replace hs := hs.old hf4
  simp only [nilc_some, fad_mk, pik_true, pik_false, cnd_true, cnd_false, gif_same, gif_tf, gif_ft, gif_undef, bi_add, bi_sub, bi_mul, bi_eql, bi_neq, bi_lss, bi_leq, bi_gtr, bi_geq, notB_bool, cvi_int, lenS_mk, lenT_mk, ext0, ext1, ext2, nilP_mk, nilS_mk, fldv_agg, jn0_k, jn1_k, jn2_k, jn1_and, jn1_or, ex_some, Option.isNone_some, Option.isNone_none, Bool.false_bne, Bool.bne_true, Bool.bne_false, Bool.true_bne, Bool.not_true, Bool.not_false, Bool.and_true, Bool.true_and, Bool.and_false, Bool.false_and, Bool.or_true, Bool.true_or, Bool.or_false, Bool.false_or, cond_true, cond_false, List.getElem?_toArray, List.getElem?_cons_zero, List.getElem?_cons_succ, Nat.zero_add, Nat.add_zero, Nat.reduceAdd, forall_const]
  rw [cnd_bool]
  refine ⟨fun h => ?_, fun h => ?_⟩
  · have h : parE p ≠ 0 := by simpa using h
    rw [B_api_Snow]
    refine St_api_Snow hs (one_api_Snow rfl) fun w5 hs => ?_
    simp only [L_api_Snow hs.blk, L_api_Snow__List hs.blk, L_api_Snow__Pref hs.blk, L_api_Snow__Flake hs.blk, L_api_Snow__Conf hs.blk, L_api_Snow__Done hs.blk]
    refine hR _ _ ⟨.slice none 0 0, ?_, ?_⟩
    · rw [newM, if_pos h]; rfl
    · rw [newM, if_pos h]; exact (Sep.nilR (hs.d1.d1)).d1
  · have h : ¬ parE p ≠ 0 := by simpa using h
    simp only [L_api_ID hs.p1.blk, B_api_Choice_0]
    refine rows_lit (q := Q_api_Choice) (l := [((id, 0) : Cho)]) (V := fun c => .agg (Rdr.cells Q_api_Choice c).toArray) hs S_sl_api_Choice (fun a => rfl) rfl rfl (by decide) (by decide) fun g5 w5 hs5 => ?_
    simp only [L_api_ID hs5.p2.blk]
    rw [B_api_Snow_0_1_2 rfl]
    refine St_api_Snow hs5.p1 (one_api_Snow rfl) fun w6 hs6 => ?_
    simp only [L_api_Snow hs6.blk, L_api_Snow__List hs6.blk, L_api_Snow__Pref hs6.blk, L_api_Snow__Flake hs6.blk, L_api_Snow__Conf hs6.blk, L_api_Snow__Done hs6.blk]
    refine hR _ _ ⟨.slice (some ⟨g5, 0, none⟩) 1 1, ?_, ?_⟩
    · rw [newM, if_neg h]
    · rw [newM, if_neg h]; exact hs6.tail.d1.d1
theorem rNew_spec (hp : PaOk p) : cal P f_ref17_New [pav p, idv id] w fun r w' => SnQ (newM p id) w r w' := by
  refine s_ref17_New fun R hR => ?_
  unfold c_ref17_New
  refine bx_s (Sep.start w) fun g w1 hs => ?_
  refine bx_s hs fun g2 w2 hs => ?_
  simp only [Value.cells] at hs
  refine alloc_s hs (A_api_Snow w2) fun g3 w3 hs => ?_
  simp only [nilc_some, fad_mk, pik_true, pik_false, cnd_true, cnd_false, gif_same, gif_tf, gif_ft, gif_undef, bi_add, bi_sub, bi_mul, bi_eql, bi_neq, bi_lss, bi_leq, bi_gtr, bi_geq, notB_bool, cvi_int, lenS_mk, lenT_mk, ext0, ext1, ext2, nilP_mk, nilS_mk, fldv_agg, jn0_k, jn1_k, jn2_k, jn1_and, jn1_or, ex_some, Option.isNone_some, Option.isNone_none, Bool.false_bne, Bool.bne_true, Bool.bne_false, Bool.true_bne, Bool.not_true, Bool.not_false, Bool.and_true, Bool.true_and, Bool.and_false, Bool.false_and, Bool.or_true, Bool.true_or, Bool.or_false, Bool.false_or, cond_true, cond_false, List.getElem?_toArray, List.getElem?_cons_zero, List.getElem?_cons_succ, Nat.zero_add, Nat.add_zero, Nat.reduceAdd, forall_const, L_api_Params hs.p2.blk, L_api_Params__K hs.p2.blk, L_api_Params__AlphaPref hs.p2.blk, L_api_Params__AlphaConf hs.p2.blk, L_api_Params__Beta hs.p2.blk]
  refine cal_i (rParams_spec hp) ?_
  rintro _ w4 ⟨rfl, hf4⟩
  replace hs := hs.old hf4
  simp only [nilc_some, fad_mk, pik_true, pik_false, cnd_true, cnd_false, gif_same, gif_tf, gif_ft, gif_undef, bi_add, bi_sub, bi_mul, bi_eql, bi_neq, bi_lss, bi_leq, bi_gtr, bi_geq, notB_bool, cvi_int, lenS_mk, lenT_mk, ext0, ext1, ext2, nilP_mk, nilS_mk, fldv_agg, jn0_k, jn1_k, jn2_k, jn1_and, jn1_or, ex_some, Option.isNone_some, Option.isNone_none, Bool.false_bne, Bool.bne_true, Bool.bne_false, Bool.true_bne, Bool.not_true, Bool.not_false, Bool.and_true, Bool.true_and, Bool.and_false, Bool.false_and, Bool.or_true, Bool.true_or, Bool.or_false, Bool.false_or, cond_true, cond_false, List.getElem?_toArray, List.getElem?_cons_zero, List.getElem?_cons_succ, Nat.zero_add, Nat.add_zero, Nat.reduceAdd, forall_const]
  rw [cnd_bool]
  refine ⟨fun h => ?_, fun h => ?_⟩
  · have h : parE p ≠ 0 := by simpa using h
    rw [B_api_Snow]
    refine St_api_Snow hs (one_api_Snow rfl) fun w5 hs => ?_
    simp only [L_api_Snow hs.blk, L_api_Snow__List hs.blk, L_api_Snow__Pref hs.blk, L_api_Snow__Flake hs.blk, L_api_Snow__Conf hs.blk, L_api_Snow__Done hs.blk]
    refine hR _ _ ⟨.slice none 0 0, ?_, ?_⟩
    · rw [newM, if_pos h]; rfl
    · rw [newM, if_pos h]; exact (Sep.nilR (hs.d1.d1)).d1
  · have h : ¬ parE p ≠ 0 := by simpa using h
    simp only [L_api_ID hs.p1.blk, B_api_Choice_0]
    refine rows_lit (q := Q_api_Choice) (l := [((id, 0) : Cho)]) (V := fun c => .agg (Rdr.cells Q_api_Choice c).toArray) hs S_sl_api_Choice (fun a => rfl) rfl rfl (by decide) (by decide) fun g5 w5 hs5 => ?_
    simp only [L_api_ID hs5.p2.blk]
    rw [B_api_Snow_0_1_2 rfl]
    refine St_api_Snow hs5.p1 (one_api_Snow rfl) fun w6 hs6 => ?_
    simp only [L_api_Snow hs6.blk, L_api_Snow__List hs6.blk, L_api_Snow__Pref hs6.blk, L_api_Snow__Flake hs6.blk, L_api_Snow__Conf hs6.blk, L_api_Snow__Done hs6.blk]
    refine hR _ _ ⟨.slice (some ⟨g5, 0, none⟩) 1 1, ?_, ?_⟩
    · rw [newM, if_neg h]
    · rw [newM, if_neg h]; exact hs6.tail.d1.d1
theorem Add_spec (hr : Rows' Q_api_Choice w.heap v x.l) (hl : x.l.length ≤ 1000000) (h1 : v.oneCell' = true) : cal P f_snow_Add [pav p, snv v x, idv id] w fun r w' => SnQ (addM p x id) w r w' := by
  refine s_snow_Add fun R hR => ?_
  unfold c_snow_Add
  refine bx_s (Sep.start w) fun g w1 hs => ?_
  refine bx_s hs fun g2 w2 hs => ?_
  refine bx_s hs fun g3 w3 hs => ?_
  simp only [Value.cells] at hs
  refine alloc_s hs (A_api_Snow w3) fun g4 w4 hs => ?_
  simp only [nilc_some, fad_mk, pik_true, pik_false, cnd_true, cnd_false, gif_same, gif_tf, gif_ft, gif_undef, bi_add, bi_sub, bi_mul, bi_eql, bi_neq, bi_lss, bi_leq, bi_gtr, bi_geq, notB_bool, cvi_int, lenS_mk, lenT_mk, ext0, ext1, ext2, nilP_mk, nilS_mk, fldv_agg, jn0_k, jn1_k, jn2_k, jn1_and, jn1_or, ex_some, Option.isNone_some, Option.isNone_none, Bool.false_bne, Bool.bne_true, Bool.bne_false, Bool.true_bne, Bool.not_true, Bool.not_false, Bool.and_true, Bool.true_and, Bool.and_false, Bool.false_and, Bool.or_true, Bool.true_or, Bool.or_false, Bool.false_or, cond_true, cond_false, List.getElem?_toArray, List.getElem?_cons_zero, List.getElem?_cons_succ, Nat.zero_add, Nat.add_zero, Nat.reduceAdd, forall_const, L_api_Params hs.p3.blk, L_api_Params__K hs.p3.blk, L_api_Params__AlphaPref hs.p3.blk, L_api_Params__AlphaConf hs.p3.blk, L_api_Params__Beta hs.p3.blk, L_api_Snow hs.p2.blk, L_api_Snow__List hs.p2.blk, L_api_Snow__Pref hs.p2.blk, L_api_Snow__Flake hs.p2.blk, L_api_Snow__Conf hs.p2.blk, L_api_Snow__Done hs.p2.blk]
  refine cal_i (Check_spec (hr.fr hs.fr0) (by omega)) ?_
  rintro _ w5 ⟨rfl, hf5⟩
  replace hs := hs.old hf5
  have hzero : ∀ {w' : World} {e : Int}, (addM p x id) = (snZ, e) → Sep w w' [blk g4 (Rdr.cells Q_api_Snow (.slice none 0 0, vz 32, vz 32, 0, false)).toArray T_api_Snow] → R (.tuple #[snv (.slice none 0 0) snZ, .int .i64 e]) w' := fun he hs' =>
    hR _ _ ⟨.slice none 0 0, by rw [he], by rw [he]; exact (Sep.nilR hs').d1⟩
  simp only [nilc_some, fad_mk, pik_true, pik_false, cnd_true, cnd_false, gif_same, gif_tf, gif_ft, gif_undef, bi_add, bi_sub, bi_mul, bi_eql, bi_neq, bi_lss, bi_leq, bi_gtr, bi_geq, notB_bool, cvi_int, lenS_mk, lenT_mk, ext0, ext1, ext2, nilP_mk, nilS_mk, fldv_agg, jn0_k, jn1_k, jn2_k, jn1_and, jn1_or, ex_some, Option.isNone_some, Option.isNone_none, Bool.false_bne, Bool.bne_true, Bool.bne_false, Bool.true_bne, Bool.not_true, Bool.not_false, Bool.and_true, Bool.true_and, Bool.and_false, Bool.false_and, Bool.or_true, Bool.true_or, Bool.or_false, Bool.false_or, cond_true, cond_false, List.getElem?_toArray, List.getElem?_cons_zero, List.getElem?_cons_succ, Nat.zero_add, Nat.add_zero, Nat.reduceAdd, forall_const]
  rw [cnd_bool]
  refine ⟨fun h => ?_, fun h => ?_⟩
  · have h : snE p x ≠ 0 := by simpa using h
    rw [B_api_Snow]
    refine St_api_Snow hs (one_api_Snow rfl) fun w5 hs => ?_
    simp only [L_api_Snow hs.blk, L_api_Snow__List hs.blk, L_api_Snow__Pref hs.blk, L_api_Snow__Flake hs.blk, L_api_Snow__Conf hs.blk, L_api_Snow__Done hs.blk]
    exact hzero (by rw [addM, if_pos h]) hs.d1.d1.d1
  have hE : ¬ snE p x ≠ 0 := by simpa using h
  simp only [L_api_Snow hs.p2.blk, L_api_Snow__List hs.p2.blk, L_api_Snow__Pref hs.p2.blk, L_api_Snow__Flake hs.p2.blk, L_api_Snow__Conf hs.p2.blk, L_api_Snow__Done hs.p2.blk, L_api_ID hs.p1.blk]
  refine cal_i (Has_spec (hr.fr hs.fr0) (by omega)) ?_
  rintro _ w6 ⟨rfl, hf6⟩
  replace hs := hs.old hf6
  rw [cnd_bool]
  refine ⟨fun h => ?_, fun h => ?_⟩
  · have h : 0 ≤ plc x.l id := by simpa using h
    rw [B_api_Snow]
    refine St_api_Snow hs (one_api_Snow rfl) fun w5 hs => ?_
    simp only [L_api_Snow hs.blk, L_api_Snow__List hs.blk, L_api_Snow__Pref hs.blk, L_api_Snow__Flake hs.blk, L_api_Snow__Conf hs.blk, L_api_Snow__Done hs.blk]
    exact hzero (by rw [addM, if_neg hE, if_pos h]) hs.d1.d1.d1
  have hpl : ¬ 0 ≤ plc x.l id := by simpa using h
  obtain ⟨hn1, hn2⟩ := snE_len (p := p) (x := x) (by simpa using hE)
  simp only [nilc_some, fad_mk, pik_true, pik_false, cnd_true, cnd_false, gif_same, gif_tf, gif_ft, gif_undef, bi_add, bi_sub, bi_mul, bi_eql, bi_neq, bi_lss, bi_leq, bi_gtr, bi_geq, notB_bool, cvi_int, lenS_mk, lenT_mk, ext0, ext1, ext2, nilP_mk, nilS_mk, fldv_agg, jn0_k, jn1_k, jn2_k, jn1_and, jn1_or, ex_some, Option.isNone_some, Option.isNone_none, Bool.false_bne, Bool.bne_true, Bool.bne_false, Bool.true_bne, Bool.not_true, Bool.not_false, Bool.and_true, Bool.true_and, Bool.and_false, Bool.false_and, Bool.or_true, Bool.true_or, Bool.or_false, Bool.false_or, cond_true, cond_false, List.getElem?_toArray, List.getElem?_cons_zero, List.getElem?_cons_succ, Nat.zero_add, Nat.add_zero, Nat.reduceAdd, forall_const, L_api_Snow hs.p2.blk, L_api_Snow__List hs.p2.blk, L_api_Snow__Pref hs.p2.blk, L_api_Snow__Flake hs.p2.blk, L_api_Snow__Conf hs.p2.blk, L_api_Snow__Done hs.p2.blk, (hr.fr hs.fr0).len]
  rw [cnd_bool]
  refine ⟨fun h => ?_, fun h => ?_⟩
  · have h : 32 ≤ x.l.length := by simp at h; omega
    rw [B_api_Snow]
    refine St_api_Snow hs (one_api_Snow rfl) fun w5 hs => ?_
    simp only [L_api_Snow hs.blk, L_api_Snow__List hs.blk, L_api_Snow__Pref hs.blk, L_api_Snow__Flake hs.blk, L_api_Snow__Conf hs.blk, L_api_Snow__Done hs.blk]
    exact hzero (by rw [addM, if_neg hE, if_neg hpl, if_pos h]) hs.d1.d1.d1
  have h32 : ¬ 32 ≤ x.l.length := by simp at h; omega
  refine cal_i (own_spec (hr.fr hs.fr0) hl h1) ?_
  rintro _ w7 ⟨v', rfl, hs7⟩
  replace hs7 := hs.join hs7
  refine St_api_Snow (Sep.p3 hs7) (one_api_Snow (Sep.oneR hs7)) fun w8 hs8 => ?_
  simp only [nilc_some, fad_mk, pik_true, pik_false, cnd_true, cnd_false, gif_same, gif_tf, gif_ft, gif_undef, bi_add, bi_sub, bi_mul, bi_eql, bi_neq, bi_lss, bi_leq, bi_gtr, bi_geq, notB_bool, cvi_int, lenS_mk, lenT_mk, ext0, ext1, ext2, nilP_mk, nilS_mk, fldv_agg, jn0_k, jn1_k, jn2_k, jn1_and, jn1_or, ex_some, Option.isNone_some, Option.isNone_none, Bool.false_bne, Bool.bne_true, Bool.bne_false, Bool.true_bne, Bool.not_true, Bool.not_false, Bool.and_true, Bool.true_and, Bool.and_false, Bool.false_and, Bool.or_true, Bool.true_or, Bool.or_false, Bool.false_or, cond_true, cond_false, List.getElem?_toArray, List.getElem?_cons_zero, List.getElem?_cons_succ, Nat.zero_add, Nat.add_zero, Nat.reduceAdd, forall_const, L_api_Snow hs8.blk, L_api_Snow__List hs8.blk, L_api_Snow__Pref hs8.blk, L_api_Snow__Flake hs8.blk, L_api_Snow__Conf hs8.blk, L_api_Snow__Done hs8.blk, L_api_ID hs8.p3.blk, B_api_Choice_0]
  refine rows_lit (q := Q_api_Choice) (l := [((id, 0) : Cho)]) (V := fun c => .agg (Rdr.cells Q_api_Choice c).toArray) hs8 S_sl_api_Choice (fun a => rfl) rfl rfl (by decide) (by decide) fun g9 w9 hs9 => ?_
  refine rows_app (q := Q_api_Choice) S_sl_api_Choice U_sl_api_Choice (by simp) hs9.p2 (Sep.rows hs9) (choOne _) (by simp; omega) (by simp; omega) fun v'' w10 hs10 => ?_
  refine St_api_Snow__List hs10.p2 hs10.oneR fun w11 hs11 => ?_
  simp only [L_api_Snow hs11.blk, L_api_Snow__List hs11.blk, L_api_Snow__Pref hs11.blk, L_api_Snow__Flake hs11.blk, L_api_Snow__Conf hs11.blk, L_api_Snow__Done hs11.blk]
  refine St_api_Snow hs11.p3 (one_api_Snow hs10.oneR) fun w12 hs12 => ?_
  simp only [L_api_Snow hs12.blk, L_api_Snow__List hs12.blk, L_api_Snow__Pref hs12.blk, L_api_Snow__Flake hs12.blk, L_api_Snow__Conf hs12.blk, L_api_Snow__Done hs12.blk]
  have ha : addM p x id = ({ x with l := x.l ++ [(id, 0)] }, 0) := by rw [addM, if_neg hE, if_neg hpl, if_neg h32]
  exact hR _ _ ⟨v'', by rw [ha], by rw [ha]; exact hs12.p2.d1.d1.d1.d1.d1⟩
theorem rAdd_spec (hp : PaOk p) (hr : Rows' Q_api_Choice w.heap v x.l) (hl : x.l.length ≤ 1000000) (h1 : v.oneCell' = true) : cal P f_ref17_Add [pav p, snv v x, idv id] w fun r w' => SnQ (addM p x id) w r w' := by
  refine s_ref17_Add fun R hR => ?_
  unfold c_ref17_Add
  refine bx_s (Sep.start w) fun g w1 hs => ?_
  refine bx_s hs fun g2 w2 hs => ?_
  refine bx_s hs fun g3 w3 hs => ?_
  simp only [Value.cells] at hs
  refine alloc_s hs (A_api_Snow w3) fun g4 w4 hs => ?_
  simp only [nilc_some, fad_mk, pik_true, pik_false, cnd_true, cnd_false, gif_same, gif_tf, gif_ft, gif_undef, bi_add, bi_sub, bi_mul, bi_eql, bi_neq, bi_lss, bi_leq, bi_gtr, bi_geq, notB_bool, cvi_int, lenS_mk, lenT_mk, ext0, ext1, ext2, nilP_mk, nilS_mk, fldv_agg, jn0_k, jn1_k, jn2_k, jn1_and, jn1_or, ex_some, Option.isNone_some, Option.isNone_none, Bool.false_bne, Bool.bne_true, Bool.bne_false, Bool.true_bne, Bool.not_true, Bool.not_false, Bool.and_true, Bool.true_and, Bool.and_false, Bool.false_and, Bool.or_true, Bool.true_or, Bool.or_false, Bool.false_or, cond_true, cond_false, List.getElem?_toArray, List.getElem?_cons_zero, List.getElem?_cons_succ, Nat.zero_add, Nat.add_zero, Nat.reduceAdd, forall_const, L_api_Params hs.p3.blk, L_api_Params__K hs.p3.blk, L_api_Params__AlphaPref hs.p3.blk, L_api_Params__AlphaConf hs.p3.blk, L_api_Params__Beta hs.p3.blk, L_api_Snow hs.p2.blk, L_api_Snow__List hs.p2.blk, L_api_Snow__Pref hs.p2.blk, L_api_Snow__Flake hs.p2.blk, L_api_Snow__Conf hs.p2.blk, L_api_Snow__Done hs.p2.blk]
  refine cal_i (rCheck_spec hp (hr.fr hs.fr0) (by omega)) ?_
  rintro _ w5 ⟨rfl, hf5⟩
  replace hs := hs.old hf5
  have hzero : ∀ {w' : World} {e : Int}, (addM p x id) = (snZ, e) → Sep w w' [blk g4 (Rdr.cells Q_api_Snow (.slice none 0 0, vz 32, vz 32, 0, false)).toArray T_api_Snow] → R (.tuple #[snv (.slice none 0 0) snZ, .int .i64 e]) w' := fun he hs' =>
    hR _ _ ⟨.slice none 0 0, by rw [he], by rw [he]; exact (Sep.nilR hs').d1⟩
  simp only [nilc_some, fad_mk, pik_true, pik_false, cnd_true, cnd_false, gif_same, gif_tf, gif_ft, gif_undef, bi_add, bi_sub, bi_mul, bi_eql, bi_neq, bi_lss, bi_leq, bi_gtr, bi_geq, notB_bool, cvi_int, lenS_mk, lenT_mk, ext0, ext1, ext2, nilP_mk, nilS_mk, fldv_agg, jn0_k, jn1_k, jn2_k, jn1_and, jn1_or, ex_some, Option.isNone_some, Option.isNone_none, Bool.false_bne, Bool.bne_true, Bool.bne_false, Bool.true_bne, Bool.not_true, Bool.not_false, Bool.and_true, Bool.true_and, Bool.and_false, Bool.false_and, Bool.or_true, Bool.true_or, Bool.or_false, Bool.false_or, cond_true, cond_false, List.getElem?_toArray, List.getElem?_cons_zero, List.getElem?_cons_succ, Nat.zero_add, Nat.add_zero, Nat.reduceAdd, forall_const]
  rw [cnd_bool]
  refine ⟨fun h => ?_, fun h => ?_⟩
  · have h : snE p x ≠ 0 := by simpa using h
    rw [B_api_Snow]
    simp only [L_api_Params hs.p3.blk, L_api_Params__K hs.p3.blk, L_api_Params__AlphaPref hs.p3.blk, L_api_Params__AlphaConf hs.p3.blk, L_api_Params__Beta hs.p3.blk, L_api_Snow hs.p2.blk, L_api_Snow__List hs.p2.blk, L_api_Snow__Pref hs.p2.blk, L_api_Snow__Flake hs.p2.blk, L_api_Snow__Conf hs.p2.blk, L_api_Snow__Done hs.p2.blk]
    refine cal_i (rCheck_spec hp (hr.fr hs.fr0) (by omega)) ?_
    rintro _ w6 ⟨rfl, hf6⟩
    replace hs := hs.old hf6
    refine St_api_Snow hs (one_api_Snow rfl) fun w5 hs => ?_
    simp only [L_api_Snow hs.blk, L_api_Snow__List hs.blk, L_api_Snow__Pref hs.blk, L_api_Snow__Flake hs.blk, L_api_Snow__Conf hs.blk, L_api_Snow__Done hs.blk]
    exact hzero (by rw [addM, if_pos h]) hs.d1.d1.d1
  have hE : ¬ snE p x ≠ 0 := by simpa using h
  simp only [L_api_Snow hs.p2.blk, L_api_Snow__List hs.p2.blk, L_api_Snow__Pref hs.p2.blk, L_api_Snow__Flake hs.p2.blk, L_api_Snow__Conf hs.p2.blk, L_api_Snow__Done hs.p2.blk, L_api_ID hs.p1.blk]
  refine cal_i (rPlace_spec (hr.fr hs.fr0) (by omega)) ?_
  rintro _ w6 ⟨rfl, hf6⟩
  replace hs := hs.old hf6
  simp only [nilc_some, fad_mk, pik_true, pik_false, cnd_true, cnd_false, gif_same, gif_tf, gif_ft, gif_undef, bi_add, bi_sub, bi_mul, bi_eql, bi_neq, bi_lss, bi_leq, bi_gtr, bi_geq, notB_bool, cvi_int, lenS_mk, lenT_mk, ext0, ext1, ext2, nilP_mk, nilS_mk, fldv_agg, jn0_k, jn1_k, jn2_k, jn1_and, jn1_or, ex_some, Option.isNone_some, Option.isNone_none, Bool.false_bne, Bool.bne_true, Bool.bne_false, Bool.true_bne, Bool.not_true, Bool.not_false, Bool.and_true, Bool.true_and, Bool.and_false, Bool.false_and, Bool.or_true, Bool.true_or, Bool.or_false, Bool.false_or, cond_true, cond_false, List.getElem?_toArray, List.getElem?_cons_zero, List.getElem?_cons_succ, Nat.zero_add, Nat.add_zero, Nat.reduceAdd, forall_const]
  rw [cnd_bool]
  refine ⟨fun h => ?_, fun h => ?_⟩
  · have h : 0 ≤ plc x.l id := by simpa using h
    rw [B_api_Snow]
    refine St_api_Snow hs (one_api_Snow rfl) fun w5 hs => ?_
    simp only [L_api_Snow hs.blk, L_api_Snow__List hs.blk, L_api_Snow__Pref hs.blk, L_api_Snow__Flake hs.blk, L_api_Snow__Conf hs.blk, L_api_Snow__Done hs.blk]
    exact hzero (by rw [addM, if_neg hE, if_pos h]) hs.d1.d1.d1
  have hpl : ¬ 0 ≤ plc x.l id := by simpa using h
  obtain ⟨hn1, hn2⟩ := snE_len (p := p) (x := x) (by simpa using hE)
  simp only [nilc_some, fad_mk, pik_true, pik_false, cnd_true, cnd_false, gif_same, gif_tf, gif_ft, gif_undef, bi_add, bi_sub, bi_mul, bi_eql, bi_neq, bi_lss, bi_leq, bi_gtr, bi_geq, notB_bool, cvi_int, lenS_mk, lenT_mk, ext0, ext1, ext2, nilP_mk, nilS_mk, fldv_agg, jn0_k, jn1_k, jn2_k, jn1_and, jn1_or, ex_some, Option.isNone_some, Option.isNone_none, Bool.false_bne, Bool.bne_true, Bool.bne_false, Bool.true_bne, Bool.not_true, Bool.not_false, Bool.and_true, Bool.true_and, Bool.and_false, Bool.false_and, Bool.or_true, Bool.true_or, Bool.or_false, Bool.false_or, cond_true, cond_false, List.getElem?_toArray, List.getElem?_cons_zero, List.getElem?_cons_succ, Nat.zero_add, Nat.add_zero, Nat.reduceAdd, forall_const, L_api_Snow hs.p2.blk, L_api_Snow__List hs.p2.blk, L_api_Snow__Pref hs.p2.blk, L_api_Snow__Flake hs.p2.blk, L_api_Snow__Conf hs.p2.blk, L_api_Snow__Done hs.p2.blk, (hr.fr hs.fr0).len]
  rw [cnd_bool]
  refine ⟨fun h => ?_, fun h => ?_⟩
  · have h : 32 ≤ x.l.length := by simp at h; omega
    rw [B_api_Snow]
    refine St_api_Snow hs (one_api_Snow rfl) fun w5 hs => ?_
    simp only [L_api_Snow hs.blk, L_api_Snow__List hs.blk, L_api_Snow__Pref hs.blk, L_api_Snow__Flake hs.blk, L_api_Snow__Conf hs.blk, L_api_Snow__Done hs.blk]
    exact hzero (by rw [addM, if_neg hE, if_neg hpl, if_pos h]) hs.d1.d1.d1
  have h32 : ¬ 32 ≤ x.l.length := by simp at h; omega
  refine cal_i (rClone_spec (hr.fr hs.fr0) hl h1) ?_
  rintro _ w7 ⟨v', rfl, hs7⟩
  replace hs7 := hs.join hs7
  refine alloc_s hs7 (A_api_Snow w7) fun g5 w8 hs8 => ?_
  refine St_api_Snow hs8 (one_api_Snow (Sep.oneR hs7)) fun w8 hs8 => ?_
  simp only [nilc_some, fad_mk, pik_true, pik_false, cnd_true, cnd_false, gif_same, gif_tf, gif_ft, gif_undef, bi_add, bi_sub, bi_mul, bi_eql, bi_neq, bi_lss, bi_leq, bi_gtr, bi_geq, notB_bool, cvi_int, lenS_mk, lenT_mk, ext0, ext1, ext2, nilP_mk, nilS_mk, fldv_agg, jn0_k, jn1_k, jn2_k, jn1_and, jn1_or, ex_some, Option.isNone_some, Option.isNone_none, Bool.false_bne, Bool.bne_true, Bool.bne_false, Bool.true_bne, Bool.not_true, Bool.not_false, Bool.and_true, Bool.true_and, Bool.and_false, Bool.false_and, Bool.or_true, Bool.true_or, Bool.or_false, Bool.false_or, cond_true, cond_false, List.getElem?_toArray, List.getElem?_cons_zero, List.getElem?_cons_succ, Nat.zero_add, Nat.add_zero, Nat.reduceAdd, forall_const, L_api_Snow hs8.blk, L_api_Snow__List hs8.blk, L_api_Snow__Pref hs8.blk, L_api_Snow__Flake hs8.blk, L_api_Snow__Conf hs8.blk, L_api_Snow__Done hs8.blk, L_api_ID hs8.p3.blk, B_api_Choice_0]
  refine rows_lit (q := Q_api_Choice) (l := [((id, 0) : Cho)]) (V := fun c => .agg (Rdr.cells Q_api_Choice c).toArray) hs8 S_sl_api_Choice (fun a => rfl) rfl rfl (by decide) (by decide) fun g9 w9 hs9 => ?_
  refine rows_app (q := Q_api_Choice) S_sl_api_Choice U_sl_api_Choice (by simp) hs9.p2 (Sep.rows hs9) (choOne _) (by simp; omega) (by simp; omega) fun v'' w10 hs10 => ?_
  refine St_api_Snow__List hs10.p2 hs10.oneR fun w11 hs11 => ?_
  simp only [L_api_Snow hs11.blk, L_api_Snow__List hs11.blk, L_api_Snow__Pref hs11.blk, L_api_Snow__Flake hs11.blk, L_api_Snow__Conf hs11.blk, L_api_Snow__Done hs11.blk]
  refine St_api_Snow hs11.p3 (one_api_Snow hs10.oneR) fun w12 hs12 => ?_
  simp only [L_api_Snow hs12.blk, L_api_Snow__List hs12.blk, L_api_Snow__Pref hs12.blk, L_api_Snow__Flake hs12.blk, L_api_Snow__Conf hs12.blk, L_api_Snow__Done hs12.blk]
  have ha : addM p x id = ({ x with l := x.l ++ [(id, 0)] }, 0) := by rw [addM, if_neg hE, if_neg hpl, if_neg h32]
  exact hR _ _ ⟨v'', by rw [ha], by rw [ha]; exact hs12.p2.d1.d1.d1.d1.d1.d1⟩
theorem Fail_spec (hr : Rows' Q_api_Choice w.heap v x.l) (hl : x.l.length ≤ 1000000) (h1 : v.oneCell' = true) : cal P f_snow_Fail [pav p, snv v x] w fun r w' => SnQ (failM p x) w r w' := by
  refine s_snow_Fail fun R hR => ?_
  unfold c_snow_Fail
  refine bx_s (Sep.start w) fun g w1 hs => ?_
  refine bx_s hs fun g2 w2 hs => ?_
  simp only [Value.cells] at hs
  refine alloc_s hs (A_api_Snow w2) fun g4 w4 hs => ?_
  simp only [nilc_some, fad_mk, pik_true, pik_false, cnd_true, cnd_false, gif_same, gif_tf, gif_ft, gif_undef, bi_add, bi_sub, bi_mul, bi_eql, bi_neq, bi_lss, bi_leq, bi_gtr, bi_geq, notB_bool, cvi_int, lenS_mk, lenT_mk, ext0, ext1, ext2, nilP_mk, nilS_mk, fldv_agg, jn0_k, jn1_k, jn2_k, jn1_and, jn1_or, ex_some, Option.isNone_some, Option.isNone_none, Bool.false_bne, Bool.bne_true, Bool.bne_false, Bool.true_bne, Bool.not_true, Bool.not_false, Bool.and_true, Bool.true_and, Bool.and_false, Bool.false_and, Bool.or_true, Bool.true_or, Bool.or_false, Bool.false_or, cond_true, cond_false, List.getElem?_toArray, List.getElem?_cons_zero, List.getElem?_cons_succ, Nat.zero_add, Nat.add_zero, Nat.reduceAdd, forall_const, L_api_Params hs.p2.blk, L_api_Params__K hs.p2.blk, L_api_Params__AlphaPref hs.p2.blk, L_api_Params__AlphaConf hs.p2.blk, L_api_Params__Beta hs.p2.blk, L_api_Snow hs.p1.blk, L_api_Snow__List hs.p1.blk, L_api_Snow__Pref hs.p1.blk, L_api_Snow__Flake hs.p1.blk, L_api_Snow__Conf hs.p1.blk, L_api_Snow__Done hs.p1.blk]
  refine cal_i (Check_spec (hr.fr hs.fr0) (by omega)) ?_
  rintro _ w5 ⟨rfl, hf5⟩
  replace hs := hs.old hf5
  simp only [nilc_some, fad_mk, pik_true, pik_false, cnd_true, cnd_false, gif_same, gif_tf, gif_ft, gif_undef, bi_add, bi_sub, bi_mul, bi_eql, bi_neq, bi_lss, bi_leq, bi_gtr, bi_geq, notB_bool, cvi_int, lenS_mk, lenT_mk, ext0, ext1, ext2, nilP_mk, nilS_mk, fldv_agg, jn0_k, jn1_k, jn2_k, jn1_and, jn1_or, ex_some, Option.isNone_some, Option.isNone_none, Bool.false_bne, Bool.bne_true, Bool.bne_false, Bool.true_bne, Bool.not_true, Bool.not_false, Bool.and_true, Bool.true_and, Bool.and_false, Bool.false_and, Bool.or_true, Bool.true_or, Bool.or_false, Bool.false_or, cond_true, cond_false, List.getElem?_toArray, List.getElem?_cons_zero, List.getElem?_cons_succ, Nat.zero_add, Nat.add_zero, Nat.reduceAdd, forall_const]
  rw [cnd_bool]
  refine ⟨fun h => ?_, fun h => ?_⟩
  · have h : snE p x ≠ 0 := by simpa using h
    rw [B_api_Snow]
    refine St_api_Snow hs (one_api_Snow rfl) fun w5 hs => ?_
    simp only [L_api_Snow hs.blk, L_api_Snow__List hs.blk, L_api_Snow__Pref hs.blk, L_api_Snow__Flake hs.blk, L_api_Snow__Conf hs.blk, L_api_Snow__Done hs.blk]
    have he : failM p x = (snZ, snE p x) := by rw [failM, if_pos h]
    exact hR _ _ ⟨.slice none 0 0, by rw [he]; rfl, by rw [he]; exact (Sep.nilR hs.d1.d1).d1⟩
  have hE : ¬ snE p x ≠ 0 := by simpa using h
  simp only [L_api_Snow hs.p1.blk, L_api_Snow__List hs.p1.blk, L_api_Snow__Pref hs.p1.blk, L_api_Snow__Flake hs.p1.blk, L_api_Snow__Conf hs.p1.blk, L_api_Snow__Done hs.p1.blk]
  refine cal_i (own_spec (hr.fr hs.fr0) hl h1) ?_
  rintro _ w7 ⟨v', rfl, hs7⟩
  replace hs7 := hs.join hs7
  refine St_api_Snow (Sep.p2 hs7) (one_api_Snow (Sep.oneR hs7)) fun w8 hs8 => ?_
  have ha : failM p x = (if x.dn then x else { x with conf := 0 }, 0) := by rw [failM, if_neg hE]
  refine ⟨fun w' => Sep w w' [blk g2 (Rdr.cells Q_api_Snow (snr v' (failM p x).1)).toArray T_api_Snow, rows Q_api_Choice v' x.l, blk g4 (Rdr.cells Q_api_Snow (.slice none 0 0, vz 32, vz 32, 0, false)).toArray T_api_Snow], ?_, ?_⟩
  · simp only [nilc_some, fad_mk, pik_true, pik_false, cnd_true, cnd_false, gif_same, gif_tf, gif_ft, gif_undef, bi_add, bi_sub, bi_mul, bi_eql, bi_neq, bi_lss, bi_leq, bi_gtr, bi_geq, notB_bool, cvi_int, lenS_mk, lenT_mk, ext0, ext1, ext2, nilP_mk, nilS_mk, fldv_agg, jn0_k, jn1_k, jn2_k, jn1_and, jn1_or, ex_some, Option.isNone_some, Option.isNone_none, Bool.false_bne, Bool.bne_true, Bool.bne_false, Bool.true_bne, Bool.not_true, Bool.not_false, Bool.and_true, Bool.true_and, Bool.and_false, Bool.false_and, Bool.or_true, Bool.true_or, Bool.or_false, Bool.false_or, cond_true, cond_false, List.getElem?_toArray, List.getElem?_cons_zero, List.getElem?_cons_succ, Nat.zero_add, Nat.add_zero, Nat.reduceAdd, forall_const, L_api_Snow hs8.blk, L_api_Snow__List hs8.blk, L_api_Snow__Pref hs8.blk, L_api_Snow__Flake hs8.blk, L_api_Snow__Conf hs8.blk, L_api_Snow__Done hs8.blk]
    rw [cnd_bool]
    refine ⟨fun h => ?_, fun h => ?_⟩
    · have h : x.dn = false := by simpa using h
      refine St_api_Snow__Conf hs8 fun w9 hs9 => ?_
      have he : (failM p x).1 = { x with conf := 0 } := by rw [ha]; simp [h]
      rw [he]
      exact hs9.d3
    · have h : x.dn = true := by simpa using h
      have he : (failM p x).1 = x := by rw [ha]; simp [h]
      rw [he]
      exact hs8.d3
  · intro w9 hs9 _
    simp only [L_api_Snow hs9.blk, L_api_Snow__List hs9.blk, L_api_Snow__Pref hs9.blk, L_api_Snow__Flake hs9.blk, L_api_Snow__Conf hs9.blk, L_api_Snow__Done hs9.blk]
    refine St_api_Snow hs9.p2 (one_api_Snow (Sep.oneR hs9.p1)) fun w12 hs12 => ?_
    simp only [L_api_Snow hs12.blk, L_api_Snow__List hs12.blk, L_api_Snow__Pref hs12.blk, L_api_Snow__Flake hs12.blk, L_api_Snow__Conf hs12.blk, L_api_Snow__Done hs12.blk]
    have hl2 : (failM p x).1.l = x.l := by rw [ha]; cases x.dn <;> rfl
    exact hR _ _ ⟨v', by rw [ha], by rw [hl2]; exact hs12.p2.d1.d1⟩
theorem rFail_spec (hp : PaOk p) (hr : Rows' Q_api_Choice w.heap v x.l) (hl : x.l.length ≤ 1000000) (h1 : v.oneCell' = true) : cal P f_ref17_Fail [pav p, snv v x] w fun r w' => SnQ (failM p x) w r w' := by
  refine s_ref17_Fail fun R hR => ?_
  unfold c_ref17_Fail
  refine bx_s (Sep.start w) fun g w1 hs => ?_
  refine bx_s hs fun g2 w2 hs => ?_
  simp only [Value.cells] at hs
  refine alloc_s hs (A_api_Snow w2) fun g4 w4 hs => ?_
  simp only [nilc_some, fad_mk, pik_true, pik_false, cnd_true, cnd_false, gif_same, gif_tf, gif_ft, gif_undef, bi_add, bi_sub, bi_mul, bi_eql, bi_neq, bi_lss, bi_leq, bi_gtr, bi_geq, notB_bool, cvi_int, lenS_mk, lenT_mk, ext0, ext1, ext2, nilP_mk, nilS_mk, fldv_agg, jn0_k, jn1_k, jn2_k, jn1_and, jn1_or, ex_some, Option.isNone_some, Option.isNone_none, Bool.false_bne, Bool.bne_true, Bool.bne_false, Bool.true_bne, Bool.not_true, Bool.not_false, Bool.and_true, Bool.true_and, Bool.and_false, Bool.false_and, Bool.or_true, Bool.true_or, Bool.or_false, Bool.false_or, cond_true, cond_false, List.getElem?_toArray, List.getElem?_cons_zero, List.getElem?_cons_succ, Nat.zero_add, Nat.add_zero, Nat.reduceAdd, forall_const, L_api_Params hs.p2.blk, L_api_Params__K hs.p2.blk, L_api_Params__AlphaPref hs.p2.blk, L_api_Params__AlphaConf hs.p2.blk, L_api_Params__Beta hs.p2.blk, L_api_Snow hs.p1.blk, L_api_Snow__List hs.p1.blk, L_api_Snow__Pref hs.p1.blk, L_api_Snow__Flake hs.p1.blk, L_api_Snow__Conf hs.p1.blk, L_api_Snow__Done hs.p1.blk]
  refine cal_i (rCheck_spec hp (hr.fr hs.fr0) (by omega)) ?_
  rintro _ w5 ⟨rfl, hf5⟩
  replace hs := hs.old hf5
  simp only [nilc_some, fad_mk, pik_true, pik_false, cnd_true, cnd_false, gif_same, gif_tf, gif_ft, gif_undef, bi_add, bi_sub, bi_mul, bi_eql, bi_neq, bi_lss, bi_leq, bi_gtr, bi_geq, notB_bool, cvi_int, lenS_mk, lenT_mk, ext0, ext1, ext2, nilP_mk, nilS_mk, fldv_agg, jn0_k, jn1_k, jn2_k, jn1_and, jn1_or, ex_some, Option.isNone_some, Option.isNone_none, Bool.false_bne, Bool.bne_true, Bool.bne_false, Bool.true_bne, Bool.not_true, Bool.not_false, Bool.and_true, Bool.true_and, Bool.and_false, Bool.false_and, Bool.or_true, Bool.true_or, Bool.or_false, Bool.false_or, cond_true, cond_false, List.getElem?_toArray, List.getElem?_cons_zero, List.getElem?_cons_succ, Nat.zero_add, Nat.add_zero, Nat.reduceAdd, forall_const]
  rw [cnd_bool]
  refine ⟨fun h => ?_, fun h => ?_⟩
  · have h : snE p x ≠ 0 := by simpa using h
    rw [B_api_Snow]
    refine St_api_Snow hs (one_api_Snow rfl) fun w5 hs => ?_
    simp only [L_api_Snow hs.blk, L_api_Snow__List hs.blk, L_api_Snow__Pref hs.blk, L_api_Snow__Flake hs.blk, L_api_Snow__Conf hs.blk, L_api_Snow__Done hs.blk]
    have he : failM p x = (snZ, snE p x) := by rw [failM, if_pos h]
    exact hR _ _ ⟨.slice none 0 0, by rw [he]; rfl, by rw [he]; exact (Sep.nilR hs.d1.d1).d1⟩
  have hE : ¬ snE p x ≠ 0 := by simpa using h
  simp only [L_api_Snow hs.p1.blk, L_api_Snow__List hs.p1.blk, L_api_Snow__Pref hs.p1.blk, L_api_Snow__Flake hs.p1.blk, L_api_Snow__Conf hs.p1.blk, L_api_Snow__Done hs.p1.blk]
  refine cal_i (rClone_spec (hr.fr hs.fr0) hl h1) ?_
  rintro _ w7 ⟨v', rfl, hs7⟩
  replace hs7 := hs.join hs7
  refine alloc_s hs7 (A_api_Snow w7) fun g5 w8 hs8 => ?_
  refine St_api_Snow hs8 (one_api_Snow (Sep.oneR hs7)) fun w8 hs8 => ?_
  have ha : failM p x = (if x.dn then x else { x with conf := 0 }, 0) := by rw [failM, if_neg hE]
  refine ⟨fun w' => Sep w w' [blk g5 (Rdr.cells Q_api_Snow (snr v' (failM p x).1)).toArray T_api_Snow, rows Q_api_Choice v' x.l, blk g4 (Rdr.cells Q_api_Snow (.slice none 0 0, vz 32, vz 32, 0, false)).toArray T_api_Snow], ?_, ?_⟩
  · simp only [nilc_some, fad_mk, pik_true, pik_false, cnd_true, cnd_false, gif_same, gif_tf, gif_ft, gif_undef, bi_add, bi_sub, bi_mul, bi_eql, bi_neq, bi_lss, bi_leq, bi_gtr, bi_geq, notB_bool, cvi_int, lenS_mk, lenT_mk, ext0, ext1, ext2, nilP_mk, nilS_mk, fldv_agg, jn0_k, jn1_k, jn2_k, jn1_and, jn1_or, ex_some, Option.isNone_some, Option.isNone_none, Bool.false_bne, Bool.bne_true, Bool.bne_false, Bool.true_bne, Bool.not_true, Bool.not_false, Bool.and_true, Bool.true_and, Bool.and_false, Bool.false_and, Bool.or_true, Bool.true_or, Bool.or_false, Bool.false_or, cond_true, cond_false, List.getElem?_toArray, List.getElem?_cons_zero, List.getElem?_cons_succ, Nat.zero_add, Nat.add_zero, Nat.reduceAdd, forall_const, L_api_Snow hs8.blk, L_api_Snow__List hs8.blk, L_api_Snow__Pref hs8.blk, L_api_Snow__Flake hs8.blk, L_api_Snow__Conf hs8.blk, L_api_Snow__Done hs8.blk]
    rw [cnd_bool]
    refine ⟨fun h => ?_, fun h => ?_⟩
    · have h : x.dn = false := by simpa using h
      refine St_api_Snow__Conf hs8 fun w9 hs9 => ?_
      have he : (failM p x).1 = { x with conf := 0 } := by rw [ha]; simp [h]
      rw [he]
      exact hs9.d4.d3
    · have h : x.dn = true := by simpa using h
      have he : (failM p x).1 = x := by rw [ha]; simp [h]
      rw [he]
      exact hs8.d4.d3
  · intro w9 hs9 _
    simp only [L_api_Snow hs9.blk, L_api_Snow__List hs9.blk, L_api_Snow__Pref hs9.blk, L_api_Snow__Flake hs9.blk, L_api_Snow__Conf hs9.blk, L_api_Snow__Done hs9.blk]
    refine St_api_Snow hs9.p2 (one_api_Snow (Sep.oneR hs9.p1)) fun w12 hs12 => ?_
    simp only [L_api_Snow hs12.blk, L_api_Snow__List hs12.blk, L_api_Snow__Pref hs12.blk, L_api_Snow__Flake hs12.blk, L_api_Snow__Conf hs12.blk, L_api_Snow__Done hs12.blk]
    have hl2 : (failM p x).1.l = x.l := by rw [ha]; cases x.dn <;> rfl
    exact hR _ _ ⟨v', by rw [ha], by rw [hl2]; exact hs12.p2.d1.d1⟩
end
end Go.Fx
