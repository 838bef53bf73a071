/-
  Several polls.
-/
import Derived.Test.YtgiklllplfcikaaSnG
set_option linter.unusedVariables false
set_option linter.unusedSimpArgs false
namespace Go.Fx
theorem rdS_at {S : World → Prop} {f : World → (Value → Prop) → Prop} {K : Value → Prop} (v : Value) (h : ∀ u, S u → f u fun x => x = v) (hk : K v) : rdS S f K := ⟨v, h, hk⟩
abbrev Vot := Id × Int
noncomputable def runM (p : Par) : Sn → Nat → List Vot → Sn × Int × Int
  | x, i, [] => (x, i, 0)
  | x, i, v :: l => if (pollM p x v.1 v.2).2 ≠ 0 then (x, i, (pollM p x v.1 v.2).2) else runM p (pollM p x v.1 v.2).1 (i + 1) l
theorem runM_step {p : Par} {x : Sn} {i : Nat} {l : List Vot} {v : Vot} (h : l[i]? = some v) :
    runM p x i (l.drop i) = if (pollM p x v.1 v.2).2 ≠ 0 then (x, (i : Int), (pollM p x v.1 v.2).2) else runM p (pollM p x v.1 v.2).1 (i + 1) (l.drop (i + 1)) := by
  obtain ⟨hlt, hv⟩ := List.getElem?_eq_some_iff.1 h
  rw [List.drop_eq_getElem_cons hlt, hv]
  rfl
theorem runM_end {p : Par} {x : Sn} {i : Nat} {l : List Vot} (h : l.length ≤ i) : runM p x i (l.drop i) = (x, (i : Int), 0) := by
  rw [List.drop_eq_nil_of_le h]
  rfl
theorem pollM_len (p : Par) (x : Sn) (id : Id) (n : Int) : (pollM p x id n).1.l.length ≤ x.l.length := by
  unfold pollM
  repeat' split
  all_goals simp [snZ, updM]
theorem Sep.appL {w0 w : World} {As Bs : List Asn} (h : Sep w0 w (As ++ Bs)) : Sep w0 w As := by
  induction Bs with
  | nil => simpa using h
  | cons B Bs ih =>
    refine ih (Sep.tail (A := B) (h.perm ?_))
    exact List.perm_middle
theorem Sep.appR {w0 w : World} {As Bs : List Asn} (h : Sep w0 w (As ++ Bs)) : Sep w0 w Bs := (h.perm List.perm_append_comm).appL
theorem Sep.only {w0 w : World} {A : Asn} {As : List Asn} (h : Sep w0 w (A :: As)) : Sep w0 w [A] := Sep.appL (As := [A]) h
/-- A list that a call gives: the one it got, or one in memory of its own. -/
def Res (v : Value) (l : List Cho) (w w' : World) (v' : Value) (l' : List Cho) : Prop := (v' = v ∧ l' = l ∧ Sep w w' []) ∨ Sep w w' [rows Q_api_Choice v' l']
theorem Res.fr {v v' : Value} {l l' : List Cho} {w w' : World} (h : Res v l w w' v' l') : Fr [] w w' := by
  rcases h with ⟨_, _, h⟩ | h
  · exact h.fr0
  · exact h.fr0
theorem Res.one {v v' : Value} {l l' : List Cho} {w w' : World} (h : Res v l w w' v' l') (h1 : v.oneCell' = true) : v'.oneCell' = true := by
  rcases h with ⟨h, _, _⟩ | h
  · rw [h]; exact h1
  · exact h.oneR
theorem Res.join {v v' : Value} {l l' : List Cho} {w0 w w' : World} {As Bs : List Asn} (h : Res v l w w' v' l') (hs : Sep w0 w (As ++ Bs)) (h0 : ∀ z, Sep w0 z Bs → Rows' Q_api_Choice z.heap v l) :
    ∃ Cs, Sep w0 w' (As ++ Cs) ∧ (∀ z, Sep w0 z Cs → Rows' Q_api_Choice z.heap v' l') ∧ ∀ z, Sep w0 z Cs → Sep w0 z Bs := by
  rcases h with ⟨rfl, rfl, h⟩ | h
  · exact ⟨Bs, hs.old h.fr0, h0, fun z hz => hz⟩
  · exact ⟨rows Q_api_Choice v' l' :: Bs, Sep.perm (As := rows Q_api_Choice v' l' :: (As ++ Bs)) (hs.join h) List.perm_middle.symm, fun z hz => Sep.rows hz, fun z hz => hz.tail⟩
/-- What a run gives. -/
def RunQ (v : Value) (l : List Cho) (m : Sn × Int × Int) (w : World) (r : Value) (w' : World) : Prop := ∃ v', r = .tuple #[snv v' m.1, .int .i64 m.2.1, .int .i64 m.2.2] ∧ Res v l w w' v' m.1.l
def Kept (v : Value) (l : List Cho) (v' : Value) (l' : List Cho) (Bs : List Asn) : Prop := (v' = v ∧ l' = l) ∨ ∃ Cs, Bs = rows Q_api_Choice v' l' :: Cs
theorem Kept.rows {v v' : Value} {l l' : List Cho} {Bs : List Asn} {w : World} (h : Kept v l v' l' Bs) (hr : Rows' Q_api_Choice w.heap v l) (z : World) (hz : Sep w z Bs) : Rows' Q_api_Choice z.heap v' l' := by
  rcases h with ⟨rfl, rfl⟩ | ⟨Cs, rfl⟩
  · exact hr.fr hz.fr0
  · exact Sep.rows hz
theorem Kept.res {v v' : Value} {l l' : List Cho} {Bs : List Asn} {w z : World} (h : Kept v l v' l' Bs) (hz : Sep w z Bs) : Res v l w z v' l' := by
  rcases h with ⟨rfl, rfl⟩ | ⟨Cs, rfl⟩
  · exact .inl ⟨rfl, rfl, Sep.appL (As := []) hz⟩
  · exact .inr hz.only
section
variable {w : World} {v u : Value} {x y : Sn} {p : Par} {id : Id} {n : Int} {l : List Vot}
theorem Run_spec (hr : Rows' Q_api_Choice w.heap v x.l) (hl : x.l.length ≤ 1000000) (h1 : v.oneCell' = true) (hv : Rows' Q_api_Vote w.heap u l) (hll : l.length ≤ 1000000) :
    cal P f_snow_Run [pav p, snv v x, u] w fun r w' => RunQ v x.l (runM p x 0 l) w r w' := by
  refine s_snow_Run fun R hR => ?_
  unfold c_snow_Run
  refine bx_s (Sep.start w) fun g1 w1 hs => ?_
  refine bx_s hs fun g2 w2 hs => ?_
  simp only [Value.cells] at hs
  refine alloc_s hs (A_api_Snow w2) fun g4 w4 hs => ?_
  simp only [nilc_some, fad_mk, pik_true, pik_false, cnd_true, cnd_false, gif_same, gif_tf, gif_ft, gif_undef, bi_add, bi_sub, bi_mul, bi_eql, bi_neq, bi_lss, bi_leq, bi_gtr, bi_geq, notB_bool, cvi_int, lenS_mk, lenT_mk, ext0, ext1, ext2, nilP_mk, nilS_mk, fldv_agg, jn0_k, jn1_k, jn2_k, jn1_and, jn1_or, ex_some, Option.isNone_some, Option.isNone_none, Bool.false_bne, Bool.bne_true, Bool.bne_false, Bool.true_bne, Bool.not_true, Bool.not_false, Bool.and_true, Bool.true_and, Bool.and_false, Bool.false_and, Bool.or_true, Bool.true_or, Bool.or_false, Bool.false_or, cond_true, cond_false, List.getElem?_toArray, List.getElem?_cons_zero, List.getElem?_cons_succ, Nat.zero_add, Nat.add_zero, Nat.reduceAdd, forall_const, L_api_Snow hs.p1.blk, L_api_Snow__List hs.p1.blk, L_api_Snow__Pref hs.p1.blk, L_api_Snow__Flake hs.p1.blk, L_api_Snow__Conf hs.p1.blk, L_api_Snow__Done hs.p1.blk]
  refine cal_i (own_spec (hr.fr hs.fr0) hl h1) ?_
  rintro _ w5 ⟨v', rfl, hs5⟩
  replace hs5 := hs.join hs5
  have hv' := Sep.oneR hs5
  refine St_api_Snow (Sep.p2 hs5) (one_api_Snow hv') fun w6 hs6 => ?_
  simp only [nilc_some, fad_mk, pik_true, pik_false, cnd_true, cnd_false, gif_same, gif_tf, gif_ft, gif_undef, bi_add, bi_sub, bi_mul, bi_eql, bi_neq, bi_lss, bi_leq, bi_gtr, bi_geq, notB_bool, cvi_int, lenS_mk, lenT_mk, ext0, ext1, ext2, nilP_mk, nilS_mk, fldv_agg, jn0_k, jn1_k, jn2_k, jn1_and, jn1_or, ex_some, Option.isNone_some, Option.isNone_none, Bool.false_bne, Bool.bne_true, Bool.bne_false, Bool.true_bne, Bool.not_true, Bool.not_false, Bool.and_true, Bool.true_and, Bool.and_false, Bool.false_and, Bool.or_true, Bool.true_or, Bool.or_false, Bool.false_or, cond_true, cond_false, List.getElem?_toArray, List.getElem?_cons_zero, List.getElem?_cons_succ, Nat.zero_add, Nat.add_zero, Nat.reduceAdd, forall_const, (hv.fr hs6.fr0).len]
  refine ⟨fun a w' => ∃ (i : Nat) (v' : Value) (x' : Sn) (Bs : List Asn), a = .int .i64 i ∧ i ≤ l.length ∧ runM p x 0 l = runM p x' i (l.drop i) ∧ x'.l.length ≤ 1000000 ∧ v'.oneCell' = true ∧ Kept v x.l v' x'.l Bs ∧
      Sep w w' (blk g2 (Rdr.cells Q_api_Snow (snr v' x')).toArray T_api_Snow :: blk g1 (Rdr.cells Q_api_Params p).toArray T_api_Params :: blk g4 (Rdr.cells Q_api_Snow (.slice none 0 0, vz 32, vz 32, 0, false)).toArray T_api_Snow :: Bs),
    fun z _ => (l.length - RowKit.intOf z).toNat, ⟨0, v', x, [rows Q_api_Choice v' x.l], rfl, by omega, rfl, hl, hv', .inr ⟨_, rfl⟩, hs6.p1.p2.p3.p3⟩, ?_⟩
  rintro _ w7 ⟨i, v1, x1, Bs, rfl, hi, hrun, hl1, ho1, hrows, hs7⟩ -
  simp only [nilc_some, fad_mk, pik_true, pik_false, cnd_true, cnd_false, gif_same, gif_tf, gif_ft, gif_undef, bi_add, bi_sub, bi_mul, bi_eql, bi_neq, bi_lss, bi_leq, bi_gtr, bi_geq, notB_bool, cvi_int, lenS_mk, lenT_mk, ext0, ext1, ext2, nilP_mk, nilS_mk, fldv_agg, jn0_k, jn1_k, jn2_k, jn1_and, jn1_or, ex_some, Option.isNone_some, Option.isNone_none, Bool.false_bne, Bool.bne_true, Bool.bne_false, Bool.true_bne, Bool.not_true, Bool.not_false, Bool.and_true, Bool.true_and, Bool.and_false, Bool.false_and, Bool.or_true, Bool.true_or, Bool.or_false, Bool.false_or, cond_true, cond_false, List.getElem?_toArray, List.getElem?_cons_zero, List.getElem?_cons_succ, Nat.zero_add, Nat.add_zero, Nat.reduceAdd, forall_const]
  rw [cnd_bool]
  refine ⟨fun h => ?_, fun h => ?_⟩
  · have hlt : i < l.length := by simpa using h
    obtain ⟨c, hc⟩ : ∃ c, l[i]? = some c := ⟨_, List.getElem?_eq_getElem hlt⟩
    refine (hv.fr hs7.fr0).ldN (by decide) hc _ ?_
    refine alloc_s hs7 (A_api_Vote w7) fun g10 w8 hs8 => ?_
    refine St_api_Vote hs8 one_api_Vote fun w9 hs9 => ?_
    simp only [nilc_some, fad_mk, pik_true, pik_false, cnd_true, cnd_false, gif_same, gif_tf, gif_ft, gif_undef, bi_add, bi_sub, bi_mul, bi_eql, bi_neq, bi_lss, bi_leq, bi_gtr, bi_geq, notB_bool, cvi_int, lenS_mk, lenT_mk, ext0, ext1, ext2, nilP_mk, nilS_mk, fldv_agg, jn0_k, jn1_k, jn2_k, jn1_and, jn1_or, ex_some, Option.isNone_some, Option.isNone_none, Bool.false_bne, Bool.bne_true, Bool.bne_false, Bool.true_bne, Bool.not_true, Bool.not_false, Bool.and_true, Bool.true_and, Bool.and_false, Bool.false_and, Bool.or_true, Bool.true_or, Bool.or_false, Bool.false_or, cond_true, cond_false, List.getElem?_toArray, List.getElem?_cons_zero, List.getElem?_cons_succ, Nat.zero_add, Nat.add_zero, Nat.reduceAdd, forall_const, L_api_Params hs9.p2.blk, L_api_Params__K hs9.p2.blk, L_api_Params__AlphaPref hs9.p2.blk, L_api_Params__AlphaConf hs9.p2.blk, L_api_Params__Beta hs9.p2.blk, L_api_Snow hs9.p1.blk, L_api_Snow__List hs9.p1.blk, L_api_Snow__Pref hs9.p1.blk, L_api_Snow__Flake hs9.p1.blk, L_api_Snow__Conf hs9.p1.blk, L_api_Snow__Done hs9.p1.blk, L_api_Vote hs9.blk, L_api_Vote__ID hs9.blk, L_api_Vote__N hs9.blk]
    refine cal_i (Poll_spec (hrows.rows hr _ hs9.tail.tail.tail.tail) hl1 ho1) ?_
    rintro _ w10 ⟨v2, rfl, hs10⟩
    replace hs10 := hs9.join hs10
    have hv2 := Sep.oneR hs10
    simp only [nilc_some, fad_mk, pik_true, pik_false, cnd_true, cnd_false, gif_same, gif_tf, gif_ft, gif_undef, bi_add, bi_sub, bi_mul, bi_eql, bi_neq, bi_lss, bi_leq, bi_gtr, bi_geq, notB_bool, cvi_int, lenS_mk, lenT_mk, ext0, ext1, ext2, nilP_mk, nilS_mk, fldv_agg, jn0_k, jn1_k, jn2_k, jn1_and, jn1_or, ex_some, Option.isNone_some, Option.isNone_none, Bool.false_bne, Bool.bne_true, Bool.bne_false, Bool.true_bne, Bool.not_true, Bool.not_false, Bool.and_true, Bool.true_and, Bool.and_false, Bool.false_and, Bool.or_true, Bool.true_or, Bool.or_false, Bool.false_or, cond_true, cond_false, List.getElem?_toArray, List.getElem?_cons_zero, List.getElem?_cons_succ, Nat.zero_add, Nat.add_zero, Nat.reduceAdd, forall_const]
    refine alloc_s hs10 (A_api_Snow w10) fun g11 w11 hs11 => ?_
    refine St_api_Snow hs11 (one_api_Snow hv2) fun w12 hs12 => ?_
    rw [cnd_bool]
    refine ⟨fun h => ?_, fun h => ?_⟩
    · have h : (pollM p x1 c.1 c.2).2 ≠ 0 := by simpa using h
      simp only [L_api_Snow (Sep.p3 hs12).blk, L_api_Snow__List (Sep.p3 hs12).blk, L_api_Snow__Pref (Sep.p3 hs12).blk, L_api_Snow__Flake (Sep.p3 hs12).blk, L_api_Snow__Conf (Sep.p3 hs12).blk, L_api_Snow__Done (Sep.p3 hs12).blk]
      refine St_api_Snow (Sep.p5 hs12) (one_api_Snow ho1) fun w13 hs13 => ?_
      simp only [L_api_Snow hs13.blk, L_api_Snow__List hs13.blk, L_api_Snow__Pref hs13.blk, L_api_Snow__Flake hs13.blk, L_api_Snow__Conf hs13.blk, L_api_Snow__Done hs13.blk]
      rw [runM_step hc, if_pos h] at hrun
      refine hR _ _ ⟨v1, ?_, ?_⟩
      · rw [hrun]
      · rw [hrun]; exact hrows.res hs13.tail.tail.tail.tail.tail.tail
    · have h : ¬ (pollM p x1 c.1 c.2).2 ≠ 0 := by simpa using h
      simp only [nilc_some, fad_mk, pik_true, pik_false, cnd_true, cnd_false, gif_same, gif_tf, gif_ft, gif_undef, bi_add, bi_sub, bi_mul, bi_eql, bi_neq, bi_lss, bi_leq, bi_gtr, bi_geq, notB_bool, cvi_int, lenS_mk, lenT_mk, ext0, ext1, ext2, nilP_mk, nilS_mk, fldv_agg, jn0_k, jn1_k, jn2_k, jn1_and, jn1_or, ex_some, Option.isNone_some, Option.isNone_none, Bool.false_bne, Bool.bne_true, Bool.bne_false, Bool.true_bne, Bool.not_true, Bool.not_false, Bool.and_true, Bool.true_and, Bool.and_false, Bool.false_and, Bool.or_true, Bool.true_or, Bool.or_false, Bool.false_or, cond_true, cond_false, List.getElem?_toArray, List.getElem?_cons_zero, List.getElem?_cons_succ, Nat.zero_add, Nat.add_zero, Nat.reduceAdd, forall_const, L_api_Snow hs12.blk, L_api_Snow__List hs12.blk, L_api_Snow__Pref hs12.blk, L_api_Snow__Flake hs12.blk, L_api_Snow__Conf hs12.blk, L_api_Snow__Done hs12.blk]
      refine St_api_Snow (Sep.p3 hs12) (one_api_Snow hv2) fun w13 hs13 => ?_
      rw [wi64 (by omega) (by omega)]
      rw [runM_step hc, if_neg h] at hrun
      refine ⟨⟨i + 1, v2, (pollM p x1 c.1 c.2).1, rows Q_api_Choice v2 (pollM p x1 c.1 c.2).1.l :: Bs, by simp, by omega, hrun, ?_, hv2, .inr ⟨_, rfl⟩, ?_⟩, by simp [RowKit.intOf]; omega⟩
      · have := pollM_len p x1 c.1 c.2; omega
      · exact hs13.d1.d2.p3.p3.p2
  · have hge : i = l.length := by simp at h; omega
    simp only [nilc_some, fad_mk, pik_true, pik_false, cnd_true, cnd_false, gif_same, gif_tf, gif_ft, gif_undef, bi_add, bi_sub, bi_mul, bi_eql, bi_neq, bi_lss, bi_leq, bi_gtr, bi_geq, notB_bool, cvi_int, lenS_mk, lenT_mk, ext0, ext1, ext2, nilP_mk, nilS_mk, fldv_agg, jn0_k, jn1_k, jn2_k, jn1_and, jn1_or, ex_some, Option.isNone_some, Option.isNone_none, Bool.false_bne, Bool.bne_true, Bool.bne_false, Bool.true_bne, Bool.not_true, Bool.not_false, Bool.and_true, Bool.true_and, Bool.and_false, Bool.false_and, Bool.or_true, Bool.true_or, Bool.or_false, Bool.false_or, cond_true, cond_false, List.getElem?_toArray, List.getElem?_cons_zero, List.getElem?_cons_succ, Nat.zero_add, Nat.add_zero, Nat.reduceAdd, forall_const, L_api_Snow hs7.blk, L_api_Snow__List hs7.blk, L_api_Snow__Pref hs7.blk, L_api_Snow__Flake hs7.blk, L_api_Snow__Conf hs7.blk, L_api_Snow__Done hs7.blk, (hv.fr hs7.fr0).len]
    refine St_api_Snow (Sep.p2 hs7) (one_api_Snow ho1) fun w13 hs13 => ?_
    simp only [L_api_Snow hs13.blk, L_api_Snow__List hs13.blk, L_api_Snow__Pref hs13.blk, L_api_Snow__Flake hs13.blk, L_api_Snow__Conf hs13.blk, L_api_Snow__Done hs13.blk]
    rw [runM_end (by omega)] at hrun
    refine hR _ _ ⟨v1, ?_, ?_⟩
    · rw [hrun, hge]
    · rw [hrun]; exact hrows.res hs13.tail.tail.tail
theorem rRun_spec (hp : PaOk p) (hr : Rows' Q_api_Choice w.heap v x.l) (hl : x.l.length ≤ 1000000) (h1 : v.oneCell' = true) (hv : Rows' Q_api_Vote w.heap u l) (hll : l.length ≤ 1000000) :
    cal P f_ref17_Run [pav p, snv v x, u] w fun r w' => RunQ v x.l (runM p x 0 l) w r w' := by
  refine s_ref17_Run fun R hR => ?_
  unfold c_ref17_Run
  refine bx_s (Sep.start w) fun g1 w1 hs => ?_
  refine bx_s hs fun g2 w2 hs => ?_
  simp only [Value.cells] at hs
  refine alloc_s hs (A_api_Snow w2) fun g4 w4 hs => ?_
  refine ⟨fun a w' => ∃ (i : Nat) (v' : Value) (x' : Sn) (Bs : List Asn), a = .int .i64 i ∧ i ≤ l.length ∧ runM p x 0 l = runM p x' i (l.drop i) ∧ x'.l.length ≤ 1000000 ∧ v'.oneCell' = true ∧ Kept v x.l v' x'.l Bs ∧
      Sep w w' (blk g2 (Rdr.cells Q_api_Snow (snr v' x')).toArray T_api_Snow :: blk g1 (Rdr.cells Q_api_Params p).toArray T_api_Params :: blk g4 (Rdr.cells Q_api_Snow (.slice none 0 0, vz 32, vz 32, 0, false)).toArray T_api_Snow :: Bs),
    fun z _ => (l.length - RowKit.intOf z).toNat, ⟨0, v, x, [], rfl, by omega, rfl, hl, h1, .inl ⟨rfl, rfl⟩, hs.p2.p2⟩, ?_⟩
  rintro _ w7 ⟨i, v1, x1, Bs, rfl, hi, hrun, hl1, ho1, hrows, hs7⟩ -
  simp only [nilc_some, fad_mk, pik_true, pik_false, cnd_true, cnd_false, gif_same, gif_tf, gif_ft, gif_undef, bi_add, bi_sub, bi_mul, bi_eql, bi_neq, bi_lss, bi_leq, bi_gtr, bi_geq, notB_bool, cvi_int, lenS_mk, lenT_mk, ext0, ext1, ext2, nilP_mk, nilS_mk, fldv_agg, jn0_k, jn1_k, jn2_k, jn1_and, jn1_or, ex_some, Option.isNone_some, Option.isNone_none, Bool.false_bne, Bool.bne_true, Bool.bne_false, Bool.true_bne, Bool.not_true, Bool.not_false, Bool.and_true, Bool.true_and, Bool.and_false, Bool.false_and, Bool.or_true, Bool.true_or, Bool.or_false, Bool.false_or, cond_true, cond_false, List.getElem?_toArray, List.getElem?_cons_zero, List.getElem?_cons_succ, Nat.zero_add, Nat.add_zero, Nat.reduceAdd, forall_const, (hv.fr hs7.fr0).len]
  rw [cnd_bool]
  refine ⟨fun h => ?_, fun h => ?_⟩
  · have hlt : i < l.length := by simpa using h
    obtain ⟨c, hc⟩ : ∃ c, l[i]? = some c := ⟨_, List.getElem?_eq_getElem hlt⟩
    refine drH_S hs7 fun w8 hs8 _ => ?_
    obtain ⟨g, o, c0, hu⟩ := hv.form (by decide) hc
    subst hu
    have hat : ∀ {u As}, Sep w u As → At u.heap g (o + i * 33) (Rdr.cells Q_api_Vote c) := fun hu => At.of (q := Q_api_Vote) (by decide) (hv.fr hu.fr0) hc
    refine ⟨fun y z w' => ∃ g5 v2, y = .pointer (some ⟨g5, 0, none⟩) ∧ z = .int .i64 (pollM p x1 c.1 c.2).2 ∧
      Sep w w' (blk g5 (Rdr.cells Q_api_Snow (snr v2 (pollM p x1 c.1 c.2).1)).toArray T_api_Snow :: rows Q_api_Choice v2 (pollM p x1 c.1 c.2).1.l :: blk g2 (Rdr.cells Q_api_Snow (snr v1 x1)).toArray T_api_Snow :: blk g1 (Rdr.cells Q_api_Params p).toArray T_api_Params :: blk g4 (Rdr.cells Q_api_Snow (.slice none 0 0, vz 32, vz 32, 0, false)).toArray T_api_Snow :: Bs), ?_, ?_⟩
    · refine rdS_at (pav p) (fun u hu => ?_) ?_
      · show ldN 4 _ u.heap _
        rw [L_api_Params hu.p1.blk]
      refine rdS_at (snv v1 x1) (fun u hu => ?_) ?_
      · show ldN 67 _ u.heap _
        rw [L_api_Snow hu.blk]
      rw [ixs_mk _ _ _ _ _ _ _ _ (by omega) (by omega), Int.toNat_natCast, fad_mk]
      refine rdS_at (idv c.1) (fun u hu => ?_) ?_
      · show ldN 32 _ u.heap _
        rw [Nat.add_zero, LA_api_Vote__ID (hat hu)]
      rw [ixs_mk _ _ _ _ _ _ _ _ (by omega) (by omega), Int.toNat_natCast, fad_mk]
      refine rdS_at (.int .i64 c.2) (fun u hu => ?_) ?_
      · show ld1 _ u.heap _
        rw [LA_api_Vote__N (hat hu)]
      refine ⟨?_, ?_, trivial⟩
      · refine cal_i (rPoll_spec hp (hrows.rows hr _ hs8.tail.tail.tail) hl1 ho1) ?_
        rintro _ w9 ⟨v2, rfl, hs9⟩
        replace hs9 := hs8.join hs9
        refine ⟨fun _ => True, trivial, ?_⟩
        simp only [nilc_some, fad_mk, pik_true, pik_false, cnd_true, cnd_false, gif_same, gif_tf, gif_ft, gif_undef, bi_add, bi_sub, bi_mul, bi_eql, bi_neq, bi_lss, bi_leq, bi_gtr, bi_geq, notB_bool, cvi_int, lenS_mk, lenT_mk, ext0, ext1, ext2, nilP_mk, nilS_mk, fldv_agg, jn0_k, jn1_k, jn2_k, jn1_and, jn1_or, ex_some, Option.isNone_some, Option.isNone_none, Bool.false_bne, Bool.bne_true, Bool.bne_false, Bool.true_bne, Bool.not_true, Bool.not_false, Bool.and_true, Bool.true_and, Bool.and_false, Bool.false_and, Bool.or_true, Bool.true_or, Bool.or_false, Bool.false_or, cond_true, cond_false, List.getElem?_toArray, List.getElem?_cons_zero, List.getElem?_cons_succ, Nat.zero_add, Nat.add_zero, Nat.reduceAdd, forall_const]
        refine efS_i (alloc_s hs9 (A_api_Snow w9) fun g5 w10 hs10 => ⟨trivial, ?_⟩)
        refine efC_stN (St_api_Snow hs10 (one_api_Snow hs9.oneR) fun w11 hs11 => ?_)
        exact ⟨g5, v2, rfl, trivial, hs11⟩
      · refine efS_i (alloc_s hs8 (A_api_Snow w8) fun g5 w9 hs9 => ⟨hs9.tail, ?_⟩)
        refine efC_cal (cal_i (rPoll_spec hp (hrows.rows hr _ hs9.tail.tail.tail.tail) hl1 ho1) ?_)
        rintro _ w10 ⟨v2, rfl, hs10⟩
        replace hs10 := hs9.join hs10
        simp only [nilc_some, fad_mk, pik_true, pik_false, cnd_true, cnd_false, gif_same, gif_tf, gif_ft, gif_undef, bi_add, bi_sub, bi_mul, bi_eql, bi_neq, bi_lss, bi_leq, bi_gtr, bi_geq, notB_bool, cvi_int, lenS_mk, lenT_mk, ext0, ext1, ext2, nilP_mk, nilS_mk, fldv_agg, jn0_k, jn1_k, jn2_k, jn1_and, jn1_or, ex_some, Option.isNone_some, Option.isNone_none, Bool.false_bne, Bool.bne_true, Bool.bne_false, Bool.true_bne, Bool.not_true, Bool.not_false, Bool.and_true, Bool.true_and, Bool.and_false, Bool.false_and, Bool.or_true, Bool.true_or, Bool.or_false, Bool.false_or, cond_true, cond_false, List.getElem?_toArray, List.getElem?_cons_zero, List.getElem?_cons_succ, Nat.zero_add, Nat.add_zero, Nat.reduceAdd, forall_const]
        refine efC_stN (St_api_Snow (Sep.p1 hs10) (one_api_Snow (Sep.oneR hs10)) fun w11 hs11 => ?_)
        exact ⟨g5, v2, rfl, trivial, hs11⟩
    · rintro _ _ w12 ⟨g5, v2, rfl, rfl, hs12⟩ -
      simp only [nilc_some, fad_mk, pik_true, pik_false, cnd_true, cnd_false, gif_same, gif_tf, gif_ft, gif_undef, bi_add, bi_sub, bi_mul, bi_eql, bi_neq, bi_lss, bi_leq, bi_gtr, bi_geq, notB_bool, cvi_int, lenS_mk, lenT_mk, ext0, ext1, ext2, nilP_mk, nilS_mk, fldv_agg, jn0_k, jn1_k, jn2_k, jn1_and, jn1_or, ex_some, Option.isNone_some, Option.isNone_none, Bool.false_bne, Bool.bne_true, Bool.bne_false, Bool.true_bne, Bool.not_true, Bool.not_false, Bool.and_true, Bool.true_and, Bool.and_false, Bool.false_and, Bool.or_true, Bool.true_or, Bool.or_false, Bool.false_or, cond_true, cond_false, List.getElem?_toArray, List.getElem?_cons_zero, List.getElem?_cons_succ, Nat.zero_add, Nat.add_zero, Nat.reduceAdd, forall_const]
      rw [cnd_bool]
      have hv2 := Sep.oneR hs12.p1
      refine ⟨fun h => ?_, fun h => ?_⟩
      · have h : (pollM p x1 c.1 c.2).2 ≠ 0 := by simpa using h
        simp only [L_api_Snow (Sep.p2 hs12).blk, L_api_Snow__List (Sep.p2 hs12).blk, L_api_Snow__Pref (Sep.p2 hs12).blk, L_api_Snow__Flake (Sep.p2 hs12).blk, L_api_Snow__Conf (Sep.p2 hs12).blk, L_api_Snow__Done (Sep.p2 hs12).blk]
        refine St_api_Snow (Sep.p4 hs12) (one_api_Snow ho1) fun w13 hs13 => ?_
        simp only [L_api_Snow hs13.blk, L_api_Snow__List hs13.blk, L_api_Snow__Pref hs13.blk, L_api_Snow__Flake hs13.blk, L_api_Snow__Conf hs13.blk, L_api_Snow__Done hs13.blk]
        rw [runM_step hc, if_pos h] at hrun
        refine hR _ _ ⟨v1, ?_, ?_⟩
        · rw [hrun]
        · rw [hrun]; exact hrows.res hs13.tail.tail.tail.tail.tail
      · have h : ¬ (pollM p x1 c.1 c.2).2 ≠ 0 := by simpa using h
        simp only [nilc_some, fad_mk, pik_true, pik_false, cnd_true, cnd_false, gif_same, gif_tf, gif_ft, gif_undef, bi_add, bi_sub, bi_mul, bi_eql, bi_neq, bi_lss, bi_leq, bi_gtr, bi_geq, notB_bool, cvi_int, lenS_mk, lenT_mk, ext0, ext1, ext2, nilP_mk, nilS_mk, fldv_agg, jn0_k, jn1_k, jn2_k, jn1_and, jn1_or, ex_some, Option.isNone_some, Option.isNone_none, Bool.false_bne, Bool.bne_true, Bool.bne_false, Bool.true_bne, Bool.not_true, Bool.not_false, Bool.and_true, Bool.true_and, Bool.and_false, Bool.false_and, Bool.or_true, Bool.true_or, Bool.or_false, Bool.false_or, cond_true, cond_false, List.getElem?_toArray, List.getElem?_cons_zero, List.getElem?_cons_succ, Nat.zero_add, Nat.add_zero, Nat.reduceAdd, forall_const, L_api_Snow hs12.blk, L_api_Snow__List hs12.blk, L_api_Snow__Pref hs12.blk, L_api_Snow__Flake hs12.blk, L_api_Snow__Conf hs12.blk, L_api_Snow__Done hs12.blk]
        refine St_api_Snow (Sep.p2 hs12) (one_api_Snow hv2) fun w13 hs13 => ?_
        rw [wi64 (by omega) (by omega)]
        rw [runM_step hc, if_neg h] at hrun
        refine ⟨⟨i + 1, v2, (pollM p x1 c.1 c.2).1, rows Q_api_Choice v2 (pollM p x1 c.1 c.2).1.l :: Bs, by simp, by omega, hrun, ?_, hv2, .inr ⟨_, rfl⟩, ?_⟩, by simp [RowKit.intOf]; omega⟩
        · have := pollM_len p x1 c.1 c.2; omega
        · exact hs13.d1.p3.p3.p2
  · have hge : i = l.length := by simp at h; omega
    simp only [nilc_some, fad_mk, pik_true, pik_false, cnd_true, cnd_false, gif_same, gif_tf, gif_ft, gif_undef, bi_add, bi_sub, bi_mul, bi_eql, bi_neq, bi_lss, bi_leq, bi_gtr, bi_geq, notB_bool, cvi_int, lenS_mk, lenT_mk, ext0, ext1, ext2, nilP_mk, nilS_mk, fldv_agg, jn0_k, jn1_k, jn2_k, jn1_and, jn1_or, ex_some, Option.isNone_some, Option.isNone_none, Bool.false_bne, Bool.bne_true, Bool.bne_false, Bool.true_bne, Bool.not_true, Bool.not_false, Bool.and_true, Bool.true_and, Bool.and_false, Bool.false_and, Bool.or_true, Bool.true_or, Bool.or_false, Bool.false_or, cond_true, cond_false, List.getElem?_toArray, List.getElem?_cons_zero, List.getElem?_cons_succ, Nat.zero_add, Nat.add_zero, Nat.reduceAdd, forall_const, L_api_Snow hs7.blk, L_api_Snow__List hs7.blk, L_api_Snow__Pref hs7.blk, L_api_Snow__Flake hs7.blk, L_api_Snow__Conf hs7.blk, L_api_Snow__Done hs7.blk, (hv.fr hs7.fr0).len]
    refine St_api_Snow (Sep.p2 hs7) (one_api_Snow ho1) fun w13 hs13 => ?_
    simp only [L_api_Snow hs13.blk, L_api_Snow__List hs13.blk, L_api_Snow__Pref hs13.blk, L_api_Snow__Flake hs13.blk, L_api_Snow__Conf hs13.blk, L_api_Snow__Done hs13.blk]
    rw [runM_end (by omega)] at hrun
    refine hR _ _ ⟨v1, ?_, ?_⟩
    · rw [hrun, hge]
    · rw [hrun]; exact hrows.res hs13.tail.tail.tail
end
end Go.Fx
