/-
  The law SnowRuns: the walk; what arguments read as.
-/
import Derived.Test.YtgiklllplfcikaaSnK
set_option linter.unusedVariables false
set_option linter.unusedSimpArgs false
namespace Go.Fx
abbrev SnD := Sl Cho × Id × Id × Int × Bool
abbrev snOf (x : SnD) : Sn := ⟨x.1.l, x.2.1, x.2.2.1, x.2.2.2.1, x.2.2.2.2⟩
theorem paOk {h : Heap} {p : Par} (hp : Rdr.ok R_api_Params h p) : PaOk p := by
  obtain ⟨h1, h2, _⟩ := hp
  have b1 := Go.bounds_i64 h1
  have b2 := Go.bounds_i64 h2
  exact ⟨b1.1, b1.2, b2.1, b2.2⟩
theorem snRows {h : Heap} {x : SnD} (hx : Rdr.ok R_api_Snow h x) : Rows' Q_api_Choice h x.1.v (snOf x).l ∧ (snOf x).l.length ≤ 9223372036854775807 := ⟨hx.1.1, hx.1.2.1⟩
theorem votRows {h : Heap} {v : Value} {l : List Vot} (hx : Rdr.ok R_sl_api_Vote h ⟨v, l⟩) : Rows' Q_api_Vote h v l ∧ l.length ≤ 9223372036854775807 := ⟨hx.1, hx.2.1⟩
theorem runM_len (p : Par) (x : Sn) (i : Nat) (l : List Vot) : (runM p x i l).1.l.length ≤ x.l.length := by
  induction l generalizing x i with
  | nil => exact Nat.le_refl _
  | cons v l ih =>
    rw [runM]
    split
    · exact Nat.le_refl _
    · have := ih (pollM p x v.1 v.2).1 (i + 1)
      have := pollM_len p x v.1 v.2
      omega
section
variable {w0 w : World} {v u : Value} {x y : Sn} {p : Par} {id : Id} {n : Int} {As : List Asn}
/-- 'few' of a list of instances made here. -/
theorem few1 {K : Value → World → Prop} (hs : Sep w0 w As) (hr : Rows' Q_api_Choice w.heap v x.l) (hk : ∀ w', Sep w0 w' As → K (.bool (decide (x.l.length ≤ 60))) w') :
    efP P (Instr.buildSlice T_sl_api_Snow 1 #[(0, snv v x)]) w fun t w => cal P f_law17_few [t] w K := by
  have h1 := rows_one hr
  refine rows_lit (q := Q_api_Snow) (l := [snr v x]) (V := fun c => .agg (Rdr.cells Q_api_Snow c).toArray) (Sep.start w) S_sl_api_Snow (fun a => rfl) rfl rfl (by decide) (by decide) fun g w1 hs1 => ?_
  refine cal_i (few_spec (xs := [(v, x)]) (Sep.rows hs1) (by simp) (fun q hq => by simp at hq; subst hq; exact hr.fr hs1.fr0)) ?_
  rintro _ w2 ⟨rfl, hf2⟩
  have := hk w2 (hs.old (hs1.old hf2).fr0)
  simpa using this
theorem SnowRuns_walk {p : Par} {x : SnD} {l : List Vot} (rd0 : Rdr.ok R_api_Params w.heap p) (rd1 : Rdr.ok R_api_Snow w.heap x) (rd2 : Rdr.ok R_sl_api_Vote w.heap ⟨u, l⟩) :
    cal P f_law17_SnowRuns [pav p, snv x.1.v (snOf x), u] w fun r w' => r = .bool true ∧ Fr [] w w' := by
  have hp := paOk rd0
  obtain ⟨hr, hn⟩ := snRows rd1
  obtain ⟨hv, hvn⟩ := votRows rd2
  generalize x.1.v = v at *
  generalize snOf x = x at *
  have h1 := rows_one hr
  refine s_law17_SnowRuns fun R hR => ?_
  unfold c_law17_SnowRuns
  refine bx_s (Sep.start w) fun g1 w1 hs => ?_
  refine bx_s hs fun g2 w2 hs => ?_
  simp only [Value.cells] at hs
  have hlive : ∀ w', Fr [] w w' → cal P f_law17_live [] w' R := fun w' hf => cal_i live_spec fun r w'' ⟨h1, h2⟩ => hR _ _ ⟨h1, (((Sep.start w).old hf).old h2).fr0⟩
  refine cal_i live_spec ?_
  rintro _ w3 ⟨rfl, hf3⟩
  replace hs := hs.old hf3
  simp only [nilc_some, fad_mk, pik_true, pik_false, cnd_true, cnd_false, gif_same, gif_tf, gif_ft, gif_undef, bi_add, bi_sub, bi_mul, bi_eql, bi_neq, bi_lss, bi_leq, bi_gtr, bi_geq, notB_bool, cvi_int, lenS_mk, lenT_mk, ext0, ext1, ext2, nilP_mk, nilS_mk, fldv_agg, jn0_k, jn1_k, jn2_k, jn1_and, jn1_or, ex_some, Option.isNone_some, Option.isNone_none, Bool.false_bne, Bool.bne_true, Bool.bne_false, Bool.true_bne, Bool.not_true, Bool.not_false, Bool.and_true, Bool.true_and, Bool.and_false, Bool.false_and, Bool.or_true, Bool.true_or, Bool.or_false, Bool.false_or, cond_true, cond_false, List.getElem?_toArray, List.getElem?_cons_zero, List.getElem?_cons_succ, Nat.zero_add, Nat.add_zero, Nat.reduceAdd, forall_const, L_api_Snow hs.blk, L_api_Snow__List hs.blk, L_api_Snow__Pref hs.blk, L_api_Snow__Flake hs.blk, L_api_Snow__Conf hs.blk, L_api_Snow__Done hs.blk]
  refine jn1_dup (few1 hs (hr.fr hs.fr0) fun w4 hs => ?_)
  by_cases hle : x.l.length ≤ 60
  · rw [decide_eq_true hle]
    simp only [nilc_some, fad_mk, pik_true, pik_false, cnd_true, cnd_false, gif_same, gif_tf, gif_ft, gif_undef, bi_add, bi_sub, bi_mul, bi_eql, bi_neq, bi_lss, bi_leq, bi_gtr, bi_geq, notB_bool, cvi_int, lenS_mk, lenT_mk, ext0, ext1, ext2, nilP_mk, nilS_mk, fldv_agg, jn0_k, jn1_k, jn2_k, jn1_and, jn1_or, ex_some, Option.isNone_some, Option.isNone_none, Bool.false_bne, Bool.bne_true, Bool.bne_false, Bool.true_bne, Bool.not_true, Bool.not_false, Bool.and_true, Bool.true_and, Bool.and_false, Bool.false_and, Bool.or_true, Bool.true_or, Bool.or_false, Bool.false_or, cond_true, cond_false, List.getElem?_toArray, List.getElem?_cons_zero, List.getElem?_cons_succ, Nat.zero_add, Nat.add_zero, Nat.reduceAdd, forall_const, hv.len]
    rw [cnd_bool]
    refine ⟨fun h => hlive _ hs.fr0, fun h => ?_⟩
    have hl2 : l.length ≤ 200 := by simp at h; omega
    simp only [L_api_Params hs.p1.blk, L_api_Params__K hs.p1.blk, L_api_Params__AlphaPref hs.p1.blk, L_api_Params__AlphaConf hs.p1.blk, L_api_Params__Beta hs.p1.blk, L_api_Snow hs.blk, L_api_Snow__List hs.blk, L_api_Snow__Pref hs.blk, L_api_Snow__Flake hs.blk, L_api_Snow__Conf hs.blk, L_api_Snow__Done hs.blk]
    refine cal_i (Run_spec (hr.fr hs.fr0) (by omega) h1 (hv.fr hs.fr0) (by omega)) ?_
    rintro _ w5 ⟨v1, rfl, hr5⟩
    have ho1 := hr5.one h1
    obtain ⟨B1, hs5, k1, b1⟩ := hr5.join (As := [_, _]) (Bs := []) hs (fun z hz => hr.fr hz.fr0)
    simp only [nilc_some, fad_mk, pik_true, pik_false, cnd_true, cnd_false, gif_same, gif_tf, gif_ft, gif_undef, bi_add, bi_sub, bi_mul, bi_eql, bi_neq, bi_lss, bi_leq, bi_gtr, bi_geq, notB_bool, cvi_int, lenS_mk, lenT_mk, ext0, ext1, ext2, nilP_mk, nilS_mk, fldv_agg, jn0_k, jn1_k, jn2_k, jn1_and, jn1_or, ex_some, Option.isNone_some, Option.isNone_none, Bool.false_bne, Bool.bne_true, Bool.bne_false, Bool.true_bne, Bool.not_true, Bool.not_false, Bool.and_true, Bool.true_and, Bool.and_false, Bool.false_and, Bool.or_true, Bool.true_or, Bool.or_false, Bool.false_or, cond_true, cond_false, List.getElem?_toArray, List.getElem?_cons_zero, List.getElem?_cons_succ, Nat.zero_add, Nat.add_zero, Nat.reduceAdd, forall_const]
    refine alloc_s hs5 (A_api_Snow w5) fun g5 w6 hs6 => ?_
    refine St_api_Snow hs6 (one_api_Snow ho1) fun w7 hs7 => ?_
    simp only [L_api_Params hs7.p2.blk, L_api_Params__K hs7.p2.blk, L_api_Params__AlphaPref hs7.p2.blk, L_api_Params__AlphaConf hs7.p2.blk, L_api_Params__Beta hs7.p2.blk, L_api_Snow hs7.p1.blk, L_api_Snow__List hs7.p1.blk, L_api_Snow__Pref hs7.p1.blk, L_api_Snow__Flake hs7.p1.blk, L_api_Snow__Conf hs7.p1.blk, L_api_Snow__Done hs7.p1.blk]
    refine cal_i (rRun_spec hp (hr.fr hs7.fr0) (by omega) h1 (hv.fr hs7.fr0) (by omega)) ?_
    rintro _ w8 ⟨v2, rfl, hr8⟩
    have ho2 := hr8.one h1
    obtain ⟨B2, hs8, k2, b2⟩ := hr8.join (As := [_, _, _]) (Bs := B1) hs7 (fun z hz => hr.fr hz.fr0)
    simp only [nilc_some, fad_mk, pik_true, pik_false, cnd_true, cnd_false, gif_same, gif_tf, gif_ft, gif_undef, bi_add, bi_sub, bi_mul, bi_eql, bi_neq, bi_lss, bi_leq, bi_gtr, bi_geq, notB_bool, cvi_int, lenS_mk, lenT_mk, ext0, ext1, ext2, nilP_mk, nilS_mk, fldv_agg, jn0_k, jn1_k, jn2_k, jn1_and, jn1_or, ex_some, Option.isNone_some, Option.isNone_none, Bool.false_bne, Bool.bne_true, Bool.bne_false, Bool.true_bne, Bool.not_true, Bool.not_false, Bool.and_true, Bool.true_and, Bool.and_false, Bool.false_and, Bool.or_true, Bool.true_or, Bool.or_false, Bool.false_or, cond_true, cond_false, List.getElem?_toArray, List.getElem?_cons_zero, List.getElem?_cons_succ, Nat.zero_add, Nat.add_zero, Nat.reduceAdd, forall_const]
    refine alloc_s hs8 (A_api_Snow w8) fun g6 w9 hs9 => ?_
    refine St_api_Snow hs9 (one_api_Snow ho2) fun w10 hs10 => ?_
    simp only [L_api_Snow hs10.blk, L_api_Snow__List hs10.blk, L_api_Snow__Pref hs10.blk, L_api_Snow__Flake hs10.blk, L_api_Snow__Conf hs10.blk, L_api_Snow__Done hs10.blk, L_api_Snow hs10.p1.blk, L_api_Snow__List hs10.p1.blk, L_api_Snow__Pref hs10.p1.blk, L_api_Snow__Flake hs10.p1.blk, L_api_Snow__Conf hs10.p1.blk, L_api_Snow__Done hs10.p1.blk]
    have hlen : (runM p x 0 l).1.l.length ≤ 60 := by have := runM_len p x 0 l; omega
    have hB2 := hs10.tail.tail.tail.tail
    refine cal_i (rSame_spec (k1 _ (b2 _ hB2)) (k2 _ hB2) (by omega) (by omega)) ?_
    rintro _ w11 ⟨rfl, hf11⟩
    have hs11 := hs10.old hf11
    rw [sameS_eq rfl]
    simp only [nilc_some, fad_mk, pik_true, pik_false, cnd_true, cnd_false, gif_same, gif_tf, gif_ft, gif_undef, bi_add, bi_sub, bi_mul, bi_eql, bi_neq, bi_lss, bi_leq, bi_gtr, bi_geq, notB_bool, cvi_int, lenS_mk, lenT_mk, ext0, ext1, ext2, nilP_mk, nilS_mk, fldv_agg, jn0_k, jn1_k, jn2_k, jn1_and, jn1_or, ex_some, Option.isNone_some, Option.isNone_none, Bool.false_bne, Bool.bne_true, Bool.bne_false, Bool.true_bne, Bool.not_true, Bool.not_false, Bool.and_true, Bool.true_and, Bool.and_false, Bool.false_and, Bool.or_true, Bool.true_or, Bool.or_false, Bool.false_or, cond_true, cond_false, List.getElem?_toArray, List.getElem?_cons_zero, List.getElem?_cons_succ, Nat.zero_add, Nat.add_zero, Nat.reduceAdd, forall_const, beq_self_eq_true]
    exact hR _ _ ⟨rfl, hs11.fr0⟩
  · rw [decide_eq_false hle]
    simp only [nilc_some, fad_mk, pik_true, pik_false, cnd_true, cnd_false, gif_same, gif_tf, gif_ft, gif_undef, bi_add, bi_sub, bi_mul, bi_eql, bi_neq, bi_lss, bi_leq, bi_gtr, bi_geq, notB_bool, cvi_int, lenS_mk, lenT_mk, ext0, ext1, ext2, nilP_mk, nilS_mk, fldv_agg, jn0_k, jn1_k, jn2_k, jn1_and, jn1_or, ex_some, Option.isNone_some, Option.isNone_none, Bool.false_bne, Bool.bne_true, Bool.bne_false, Bool.true_bne, Bool.not_true, Bool.not_false, Bool.and_true, Bool.true_and, Bool.and_false, Bool.false_and, Bool.or_true, Bool.true_or, Bool.or_false, Bool.false_or, cond_true, cond_false, List.getElem?_toArray, List.getElem?_cons_zero, List.getElem?_cons_succ, Nat.zero_add, Nat.add_zero, Nat.reduceAdd, forall_const]
    exact hlive _ hs.fr0
end
end Go.Fx
