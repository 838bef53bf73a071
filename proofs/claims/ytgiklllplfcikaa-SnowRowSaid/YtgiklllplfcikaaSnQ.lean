/-
  The law SnowStays: the walk.
-/
import Derived.Test.YtgiklllplfcikaaSnP
set_option linter.unusedVariables false
set_option linter.unusedSimpArgs false
namespace Go.Fx
/-- What a join holds that only one branch gave a value. -/
def opt (c : Bool) (v : Value) : Value := bif c then v else undef
theorem jn1_opt {Q : World → Prop} {w : World} {A : (Value → World → Prop) → Prop} {rest : Env → Value → World → Prop} (c e : Bool) (v : Value) (hQ : Q w) (hA : (c && e) = true → A fun t w' => t = opt (c && e) v ∧ Q w')
    (hr : ∀ w', Q w' → ∀ junk, rest junk (opt (c && e) v) w') : jn1 (fun k => gif (opt c (.bool e)) true (A k) (k undef w)) rest := by
  refine ⟨fun t w' => t = opt (c && e) v ∧ Q w', ⟨fun h => hA ?_, fun h => ⟨?_, hQ⟩⟩, ?_⟩
  · cases c with
    | true => cases e with
      | true => rfl
      | false => cases h
    | false => cases h
  · cases c with
    | true => cases e with
      | true => exact absurd rfl h
      | false => rfl
    | false => rfl
  · rintro t w' ⟨rfl, h⟩
    exact hr w' h
theorem SnowStays_walk {w : World} {p : Par} {x : SnD} {u : Value} {l : List Act} (rd0 : Rdr.ok R_api_Params w.heap p) (rd1 : Rdr.ok R_api_Snow w.heap x) (rd2 : Rdr.ok R_sl_flurrylaw17_Act w.heap ⟨u, l⟩) :
    cal P f_law17_SnowStays [pav p, snv x.1.v (snOf x), u] w fun r w' => r = .bool true ∧ Fr [] w w' := by
  have hp := paOk rd0
  obtain ⟨hr, hn⟩ := snRows rd1
  generalize x.1.v = v at *
  generalize snOf x = x at *
  have h1 := rows_one hr
  refine s_law17_SnowStays fun R hR => ?_
  unfold c_law17_SnowStays
  refine bx_s (Sep.start w) fun g1 w1 hs => ?_
  refine bx_s hs fun g2 w2 hs => ?_
  simp only [Value.cells] at hs
  have hlive : ∀ w', Fr [] w w' → cal P f_law17_live [] w' R := fun w' hf => cal_i live_spec fun r w'' ⟨h1, h2⟩ => hR _ _ ⟨h1, (((Sep.start w).old hf).old h2).fr0⟩
  refine cal_i live_spec ?_
  rintro _ w3 ⟨rfl, hf3⟩
  replace hs := hs.old hf3
  simp only [nilc_some, fad_mk, pik_true, pik_false, cnd_true, cnd_false, gif_same, gif_tf, gif_ft, gif_undef, bi_add, bi_sub, bi_mul, bi_eql, bi_neq, bi_lss, bi_leq, bi_gtr, bi_geq, notB_bool, cvi_int, lenS_mk, lenT_mk, ext0, ext1, ext2, nilP_mk, nilS_mk, fldv_agg, jn0_k, jn1_k, jn2_k, jn1_and, jn1_or, ex_some, Option.isNone_some, Option.isNone_none, Bool.false_bne, Bool.bne_true, Bool.bne_false, Bool.true_bne, Bool.not_true, Bool.not_false, Bool.and_true, Bool.true_and, Bool.and_false, Bool.false_and, Bool.or_true, Bool.true_or, Bool.or_false, Bool.false_or, cond_true, cond_false, List.getElem?_toArray, List.getElem?_cons_zero, List.getElem?_cons_succ, Nat.zero_add, Nat.add_zero, Nat.reduceAdd, forall_const, L_api_Snow hs.blk, L_api_Snow__List hs.blk, L_api_Snow__Pref hs.blk, L_api_Snow__Flake hs.blk, L_api_Snow__Conf hs.blk, L_api_Snow__Done hs.blk]
  refine jn1_dup (few1 hs (hr.fr hs.fr0) fun w4 hs => ?_)
  by_cases hle : x.l.length ≤ 60
  case neg =>
    rw [decide_eq_false hle]
    simp only [nilc_some, fad_mk, pik_true, pik_false, cnd_true, cnd_false, gif_same, gif_tf, gif_ft, gif_undef, bi_add, bi_sub, bi_mul, bi_eql, bi_neq, bi_lss, bi_leq, bi_gtr, bi_geq, notB_bool, cvi_int, lenS_mk, lenT_mk, ext0, ext1, ext2, nilP_mk, nilS_mk, fldv_agg, jn0_k, jn1_k, jn2_k, jn1_and, jn1_or, ex_some, Option.isNone_some, Option.isNone_none, Bool.false_bne, Bool.bne_true, Bool.bne_false, Bool.true_bne, Bool.not_true, Bool.not_false, Bool.and_true, Bool.true_and, Bool.and_false, Bool.false_and, Bool.or_true, Bool.true_or, Bool.or_false, Bool.false_or, cond_true, cond_false, List.getElem?_toArray, List.getElem?_cons_zero, List.getElem?_cons_succ, Nat.zero_add, Nat.add_zero, Nat.reduceAdd, forall_const]
    exact hlive _ hs.fr0
  have lenA : ∀ K, lenS u K = K (.int .i64 l.length) := fun K => rSl_len (s := ⟨u, l⟩) rd2 K
  rw [decide_eq_true hle]
  simp only [nilc_some, fad_mk, pik_true, pik_false, cnd_true, cnd_false, gif_same, gif_tf, gif_ft, gif_undef, bi_add, bi_sub, bi_mul, bi_eql, bi_neq, bi_lss, bi_leq, bi_gtr, bi_geq, notB_bool, cvi_int, lenS_mk, lenT_mk, ext0, ext1, ext2, nilP_mk, nilS_mk, fldv_agg, jn0_k, jn1_k, jn2_k, jn1_and, jn1_or, ex_some, Option.isNone_some, Option.isNone_none, Bool.false_bne, Bool.bne_true, Bool.bne_false, Bool.true_bne, Bool.not_true, Bool.not_false, Bool.and_true, Bool.true_and, Bool.and_false, Bool.false_and, Bool.or_true, Bool.true_or, Bool.or_false, Bool.false_or, cond_true, cond_false, List.getElem?_toArray, List.getElem?_cons_zero, List.getElem?_cons_succ, Nat.zero_add, Nat.add_zero, Nat.reduceAdd, forall_const, lenA]
  by_cases hlen : (100 : Int) < l.length
  · rw [decide_eq_true hlen]
    simp only [nilc_some, fad_mk, pik_true, pik_false, cnd_true, cnd_false, gif_same, gif_tf, gif_ft, gif_undef, bi_add, bi_sub, bi_mul, bi_eql, bi_neq, bi_lss, bi_leq, bi_gtr, bi_geq, notB_bool, cvi_int, lenS_mk, lenT_mk, ext0, ext1, ext2, nilP_mk, nilS_mk, fldv_agg, jn0_k, jn1_k, jn2_k, jn1_and, jn1_or, ex_some, Option.isNone_some, Option.isNone_none, Bool.false_bne, Bool.bne_true, Bool.bne_false, Bool.true_bne, Bool.not_true, Bool.not_false, Bool.and_true, Bool.true_and, Bool.and_false, Bool.false_and, Bool.or_true, Bool.true_or, Bool.or_false, Bool.false_or, cond_true, cond_false, List.getElem?_toArray, List.getElem?_cons_zero, List.getElem?_cons_succ, Nat.zero_add, Nat.add_zero, Nat.reduceAdd, forall_const]
    exact hlive _ hs.fr0
  rw [decide_eq_false hlen]
  simp only [nilc_some, fad_mk, pik_true, pik_false, cnd_true, cnd_false, gif_same, gif_tf, gif_ft, gif_undef, bi_add, bi_sub, bi_mul, bi_eql, bi_neq, bi_lss, bi_leq, bi_gtr, bi_geq, notB_bool, cvi_int, lenS_mk, lenT_mk, ext0, ext1, ext2, nilP_mk, nilS_mk, fldv_agg, jn0_k, jn1_k, jn2_k, jn1_and, jn1_or, ex_some, Option.isNone_some, Option.isNone_none, Bool.false_bne, Bool.bne_true, Bool.bne_false, Bool.true_bne, Bool.not_true, Bool.not_false, Bool.and_true, Bool.true_and, Bool.and_false, Bool.false_and, Bool.or_true, Bool.true_or, Bool.or_false, Bool.false_or, cond_true, cond_false, List.getElem?_toArray, List.getElem?_cons_zero, List.getElem?_cons_succ, Nat.zero_add, Nat.add_zero, Nat.reduceAdd, forall_const, L_api_Params hs.p1.blk, L_api_Params__K hs.p1.blk, L_api_Params__AlphaPref hs.p1.blk, L_api_Params__AlphaConf hs.p1.blk, L_api_Params__Beta hs.p1.blk, L_api_Snow hs.blk, L_api_Snow__List hs.blk, L_api_Snow__Pref hs.blk, L_api_Snow__Flake hs.blk, L_api_Snow__Conf hs.blk, L_api_Snow__Done hs.blk]
  refine jn1_dup (cal_i (Check_spec (hr.fr hs.fr0) (by omega)) ?_)
  rintro _ w5 ⟨rfl, hf5⟩
  replace hs := hs.old hf5
  simp only [nilc_some, fad_mk, pik_true, pik_false, cnd_true, cnd_false, gif_same, gif_tf, gif_ft, gif_undef, bi_add, bi_sub, bi_mul, bi_eql, bi_neq, bi_lss, bi_leq, bi_gtr, bi_geq, notB_bool, cvi_int, lenS_mk, lenT_mk, ext0, ext1, ext2, nilP_mk, nilS_mk, fldv_agg, jn0_k, jn1_k, jn2_k, jn1_and, jn1_or, ex_some, Option.isNone_some, Option.isNone_none, Bool.false_bne, Bool.bne_true, Bool.bne_false, Bool.true_bne, Bool.not_true, Bool.not_false, Bool.and_true, Bool.true_and, Bool.and_false, Bool.false_and, Bool.or_true, Bool.true_or, Bool.or_false, Bool.false_or, cond_true, cond_false, List.getElem?_toArray, List.getElem?_cons_zero, List.getElem?_cons_succ, Nat.zero_add, Nat.add_zero, Nat.reduceAdd, forall_const]
  rw [cnd_bool]
  refine ⟨fun h => hlive _ hs.fr0, fun h => ?_⟩
  have hm : May p x := may_iff.1 (by simpa using h)
  refine ⟨fun a w' => ∃ (i : Nat) (v' : Value) (x' : Sn) (Bs : List Asn), a = .int .i64 i ∧ i ≤ l.length ∧ May p x' ∧ (∀ z, Sep w z Bs → Rows' Q_api_Choice z.heap v' x'.l) ∧ Sep w w' (sn g2 v' x' :: blk g1 (Rdr.cells Q_api_Params p).toArray T_api_Params :: Bs),
    fun z _ => (l.length - RowKit.intOf z).toNat, ⟨0, v, x, [], rfl, by omega, hm, fun z hz => hr.fr hz.fr0, hs⟩, ?_⟩
  rintro _ w6 ⟨i, v1, x1, Bs, rfl, hi, hm1, hk1, hs6⟩ -
  simp only [nilc_some, fad_mk, pik_true, pik_false, cnd_true, cnd_false, gif_same, gif_tf, gif_ft, gif_undef, bi_add, bi_sub, bi_mul, bi_eql, bi_neq, bi_lss, bi_leq, bi_gtr, bi_geq, notB_bool, cvi_int, lenS_mk, lenT_mk, ext0, ext1, ext2, nilP_mk, nilS_mk, fldv_agg, jn0_k, jn1_k, jn2_k, jn1_and, jn1_or, ex_some, Option.isNone_some, Option.isNone_none, Bool.false_bne, Bool.bne_true, Bool.bne_false, Bool.true_bne, Bool.not_true, Bool.not_false, Bool.and_true, Bool.true_and, Bool.and_false, Bool.false_and, Bool.or_true, Bool.true_or, Bool.or_false, Bool.false_or, cond_true, cond_false, List.getElem?_toArray, List.getElem?_cons_zero, List.getElem?_cons_succ, Nat.zero_add, Nat.add_zero, Nat.reduceAdd, forall_const]
  rw [cnd_bool]
  refine ⟨fun h => ?_, fun h => ?_⟩
  case refine_2 => exact hR _ _ ⟨rfl, hs6.fr0⟩
  have hlt : i < l.length := by simpa using h
  obtain ⟨a, ha⟩ : ∃ a, l[i]? = some a := ⟨_, List.getElem?_eq_getElem hlt⟩
  obtain ⟨ha1, ha2⟩ := actOk (rSl_ok (s := ⟨u, l⟩) rd2 ha)
  refine rSl_ldN (s := ⟨u, l⟩) (Rdr.fr _ rd2 hs6.fr0) (by decide) ha ?_
  refine alloc_s hs6 (A_flurrylaw17_Act w6) fun g8 w7 hs7 => ?_
  refine St_flurrylaw17_Act (b := acr a) hs7 one_flurrylaw17_Act fun w8 hs8 => ?_
  simp only [L_flurrylaw17_Act hs8.blk, L_flurrylaw17_Act__K hs8.blk, L_flurrylaw17_Act__N hs8.blk, L_flurrylaw17_Act__Add hs8.blk, L_flurrylaw17_Act__ID hs8.blk, L_api_Params hs8.p2.blk, L_api_Params__K hs8.p2.blk, L_api_Params__AlphaPref hs8.p2.blk, L_api_Params__AlphaConf hs8.p2.blk, L_api_Params__Beta hs8.p2.blk, L_api_Snow hs8.p1.blk, L_api_Snow__List hs8.p1.blk, L_api_Snow__Pref hs8.p1.blk, L_api_Snow__Flake hs8.p1.blk, L_api_Snow__Conf hs8.p1.blk, L_api_Snow__Done hs8.p1.blk]
  have hr8 := hk1 _ hs8.tail.tail.tail
  have hl1 := hm1.n2
  refine cal_i (step_spec hp ha1 ha2 (may_iff.2 hm1) hr8 (by omega)) ?_
  rintro _ w9 ⟨vy, rfl, hres⟩
  have hdoes := step_does a hm1
  obtain ⟨hmy, hgr⟩ := does_may hm1 hdoes
  obtain ⟨hst1, hst2⟩ := does_stays hm1 hdoes
  have hoy := hres.one (rows_one hr8)
  obtain ⟨Cs, hs9, hky, hCs⟩ := hres.join (As := [_, _, _]) (Bs := Bs) hs8 hk1
  generalize (stepM p x1 a).1 = y at *
  generalize (stepM p x1 a).2 = m2 at *
  simp only [nilc_some, fad_mk, pik_true, pik_false, cnd_true, cnd_false, gif_same, gif_tf, gif_ft, gif_undef, bi_add, bi_sub, bi_mul, bi_eql, bi_neq, bi_lss, bi_leq, bi_gtr, bi_geq, notB_bool, cvi_int, lenS_mk, lenT_mk, ext0, ext1, ext2, nilP_mk, nilS_mk, fldv_agg, jn0_k, jn1_k, jn2_k, jn1_and, jn1_or, ex_some, Option.isNone_some, Option.isNone_none, Bool.false_bne, Bool.bne_true, Bool.bne_false, Bool.true_bne, Bool.not_true, Bool.not_false, Bool.and_true, Bool.true_and, Bool.and_false, Bool.false_and, Bool.or_true, Bool.true_or, Bool.or_false, Bool.false_or, cond_true, cond_false, List.getElem?_toArray, List.getElem?_cons_zero, List.getElem?_cons_succ, Nat.zero_add, Nat.add_zero, Nat.reduceAdd, forall_const]
  refine alloc_s hs9 (A_api_Snow w9) fun g9 w10 hs10 => ?_
  refine alloc_s hs10 (A_api_ID w10) fun g10 w11 hs11 => ?_
  refine St_api_Snow hs11.p1 (one_api_Snow hoy) fun w12 hs12 => ?_
  refine St_api_ID hs12.p1 fun w13 hs13 => ?_
  have hryl := hmy.n2
  have hsd := hs13.drew (w13.drawn + 1)
  obtain ⟨As, hAs⟩ : ∃ As, As = blk g10 (Rdr.cells (rVec 32) m2.1).toArray T_api_ID :: sn g9 vy y :: blk g8 (Rdr.cells Q_flurrylaw17_Act (acr a)).toArray T_flurrylaw17_Act :: sn g2 v1 x1 :: blk g1 (Rdr.cells Q_api_Params p).toArray T_api_Params :: Cs := ⟨_, rfl⟩
  have hs14 : Sep w { w13 with drawn := w13.drawn + 1 } As := by rw [hAs]; exact hsd
  have rx : ∀ z, Sep w z As → ldN 67 (.pointer (some ⟨g2, 0, none⟩)) z.heap fun t => t = snv v1 x1 := fun z hz => by
    rw [hAs] at hz; rw [L_api_Snow hz.p3.blk]
  have ry : ∀ z, Sep w z As → ldN 67 (.pointer (some ⟨g9, 0, none⟩)) z.heap fun t => t = snv vy y := fun z hz => by
    rw [hAs] at hz; rw [L_api_Snow hz.p1.blk]
  have rxd : ∀ z, Sep w z As → ld1 (.pointer (some ⟨g2, 66, none⟩)) z.heap fun t => t = .bool x1.dn := fun z hz => by
    rw [hAs] at hz; rw [L_api_Snow__Done hz.p3.blk]
  have ryd : ∀ z, Sep w z As → ld1 (.pointer (some ⟨g9, 66, none⟩)) z.heap fun t => t = .bool y.dn := fun z hz => by
    rw [hAs] at hz; rw [L_api_Snow__Done hz.p1.blk]
  have rid : ∀ z, Sep w z As → ldN 32 (.pointer (some ⟨g10, 0, none⟩)) z.heap fun t => t = idv m2.1 := fun z hz => by
    rw [hAs] at hz; rw [L_api_ID hz.blk]
  have hyr : ∀ z, Sep w z As → Rows' Q_api_Choice z.heap vy y.l := fun z hz => by rw [hAs] at hz; exact hky _ hz.tail.tail.tail.tail.tail
  have al : ∀ {z : World} {Bs : List Asn} {K : Value → World → Prop}, Sep w z Bs → (∀ g z', Sep w z' (blk g (Rdr.cells (rVec 32) (vz 32)).toArray T_api_ID :: Bs) → K (.pointer (some ⟨g, 0, none⟩)) z') → efP P (Instr.alloc T_api_ID true (.tuple #[])) z K := fun {z Bs K} hz hk => alloc_s hz (A_api_ID z) hk
  have pf1 : ∀ {z : World} {Bs : List Asn} {K : Value → World → Prop}, Sep w z Bs → (∀ z', Sep w z' Bs → K (idv (prf x1)) z') → cal P f_snow_Prefers [snv v1 x1] z K := fun hz hk => cal_i Prefers_spec fun r z' ⟨h1, h2⟩ => by subst h1; exact hk _ (hz.old h2)
  have pf2 : ∀ {z : World} {Bs : List Asn} {K : Value → World → Prop}, Sep w z Bs → (∀ z', Sep w z' Bs → K (idv (prf y)) z') → cal P f_snow_Prefers [snv vy y] z K := fun hz hk => cal_i Prefers_spec fun r z' ⟨h1, h2⟩ => by subst h1; exact hk _ (hz.old h2)
  refine ⟨fun z => Sep w z As, hs14, ?_⟩
  refine ⟨fun q1 q2 z => ∃ g12 g13, q1 = .pointer (some ⟨g12, 0, none⟩) ∧ q2 = .pointer (some ⟨g13, 0, none⟩) ∧ Sep w z (blk g12 (Rdr.cells (rVec 32) (prf x1)).toArray T_api_ID :: blk g13 (Rdr.cells (rVec 32) (prf y)).toArray T_api_ID :: As), ?_, ?_⟩
  · have fin : ∀ {z : World} {g12 g13 : Nat}, Sep w z (blk g12 (Rdr.cells (rVec 32) (vz 32)).toArray T_api_ID :: blk g13 (Rdr.cells (rVec 32) (vz 32)).toArray T_api_ID :: As) →
        efC (fun w K => stN 32 (.pointer (some ⟨g12, 0, none⟩)) (idv (prf x1)) w (K undef)) z fun S _ z => efC (fun w K => stN 32 (.pointer (some ⟨g13, 0, none⟩)) (idv (prf y)) w (K undef)) z fun S _ z =>
          ∃ h12 h13, Value.pointer (some ⟨g12, 0, none⟩) = .pointer (some ⟨h12, 0, none⟩) ∧ Value.pointer (some ⟨g13, 0, none⟩) = .pointer (some ⟨h13, 0, none⟩) ∧ Sep w z (blk h12 (Rdr.cells (rVec 32) (prf x1)).toArray T_api_ID :: blk h13 (Rdr.cells (rVec 32) (prf y)).toArray T_api_ID :: As) := fun hz =>
      efC_stN (St_api_ID hz fun z1 h1 => efC_stN (St_api_ID h1.p1 fun z2 h2 => ⟨_, _, rfl, rfl, h2.p1⟩))
    refine rdS_at _ rx (rdS_at _ ry ?_)
    refine ⟨efS_i (pf1 hs14 fun z1 h1 => ⟨h1, ?_, ?_, ?_, trivial⟩), efS_i (al hs14 fun g12 z1 h1 => ⟨h1.tail, ?_, ?_, trivial⟩), efS_i (al hs14 fun g13 z1 h1 => ⟨h1.tail, ?_, ?_, trivial⟩), trivial⟩
    · exact pf2 h1 fun z2 h2 => ⟨fun _ => True, trivial, efS_i (al h2 fun g12 z3 h3 => ⟨trivial, efS_i (al h3 fun g13 z4 h4 => ⟨trivial, fin h4.p1⟩)⟩), efS_i (al h2 fun g13 z3 h3 => ⟨trivial, efS_i (al h3 fun g12 z4 h4 => ⟨trivial, fin h4⟩)⟩), trivial⟩
    · exact efS_i (al h1 fun g12 z2 h2 => ⟨h2.tail, pf2 h2 fun z3 h3 => ⟨fun _ => True, trivial, efS_i (al h3 fun g13 z4 h4 => ⟨trivial, fin h4.p1⟩)⟩, efS_i (al h2 fun g13 z3 h3 => ⟨h3.tail.tail, pf2 h3 fun z4 h4 => ⟨fun _ => True, trivial, fin h4.p1⟩⟩), trivial⟩)
    · exact efS_i (al h1 fun g13 z2 h2 => ⟨h2.tail, pf2 h2 fun z3 h3 => ⟨fun _ => True, trivial, efS_i (al h3 fun g12 z4 h4 => ⟨trivial, fin h4⟩)⟩, efS_i (al h2 fun g12 z3 h3 => ⟨h3.tail.tail, pf2 h3 fun z4 h4 => ⟨fun _ => True, trivial, fin h4⟩⟩), trivial⟩)
    · exact efS_i (pf1 h1 fun z2 h2 => ⟨h2.tail, pf2 h2 fun z3 h3 => ⟨fun _ => True, trivial, efS_i (al h3 fun g13 z4 h4 => ⟨trivial, fin h4.p1⟩)⟩, efS_i (al h2 fun g13 z3 h3 => ⟨h3.tail.tail, pf2 h3 fun z4 h4 => ⟨fun _ => True, trivial, fin h4.p1⟩⟩), trivial⟩)
    · exact efS_i (al h1 fun g13 z2 h2 => ⟨h2.tail.tail, efS_i (pf1 h2 fun z3 h3 => ⟨h3.tail.tail, pf2 h3 fun z4 h4 => ⟨fun _ => True, trivial, fin h4.p1⟩⟩)⟩)
    · exact efS_i (pf1 h1 fun z2 h2 => ⟨h2.tail, pf2 h2 fun z3 h3 => ⟨fun _ => True, trivial, efS_i (al h3 fun g12 z4 h4 => ⟨trivial, fin h4⟩)⟩, efS_i (al h2 fun g12 z3 h3 => ⟨h3.tail.tail, pf2 h3 fun z4 h4 => ⟨fun _ => True, trivial, fin h4⟩⟩), trivial⟩)
    · exact efS_i (al h1 fun g12 z2 h2 => ⟨h2.tail.tail, efS_i (pf1 h2 fun z3 h3 => ⟨h3.tail.tail, pf2 h3 fun z4 h4 => ⟨fun _ => True, trivial, fin h4⟩⟩)⟩)
  rintro _ _ w15 ⟨g12, g13, rfl, rfl, hs15⟩ -
  refine drH_S hs15 fun w16 hs16 _ => ?_
  obtain ⟨Ds, hDs⟩ : ∃ Ds, Ds = blk g12 (Rdr.cells (rVec 32) (prf x1)).toArray T_api_ID :: blk g13 (Rdr.cells (rVec 32) (prf y)).toArray T_api_ID :: As := ⟨_, rfl⟩
  have toA : ∀ z, Sep w z Ds → Sep w z As := fun z hz => by rw [hDs] at hz; exact hz.tail.tail
  have rw12 : ∀ z, Sep w z Ds → ldN 32 (.pointer (some ⟨g12, 0, none⟩)) z.heap fun t => t = idv (prf x1) := fun z hz => by
    rw [hDs] at hz; rw [L_api_ID hz.blk]
  have rw13 : ∀ z, Sep w z Ds → ldN 32 (.pointer (some ⟨g13, 0, none⟩)) z.heap fun t => t = idv (prf y) := fun z hz => by
    rw [hDs] at hz; rw [L_api_ID hz.p1.blk]
  rw [← hDs] at hs16 ⊢
  refine rdS_at _ rw12 (rdS_at _ rw13 (rdS_at (.bool (!decide (prf x1 = prf y))) (fun z hz => ?_) ?_))
  · show rdP P _ z _
    rw [ne_api_ID]
  obtain ⟨N, hN⟩ : ∃ N, N = !decide (prf x1 = prf y) := ⟨_, rfl⟩
  obtain ⟨D, hD⟩ : ∃ D, D = decide (prf y = m2.1) := ⟨_, rfl⟩
  rw [← hN]
  have hG : (N && !(y.dn && !x1.dn && D)) = true → strM y.l (prf x1) < strM y.l (prf y) ∧ D = true := fun h => by
    rw [hN, hD] at h
    rcases hst1 with h1 | ⟨h1, h2, h3⟩ | ⟨h1, h2⟩
    · simp [h1] at h
    · simp [h1, h2, h3] at h
    · exact ⟨h1, by rw [hD]; simpa using h2⟩
  simp only [fad_mk, Nat.zero_add]
  refine jn1_opt (Q := fun z => Sep w z Ds) true N (.bool y.dn) hs16 (fun h => ?_) fun w17 hs17 _ => ?_
  · exact rdS_at _ (fun z hz => ryd z (toA z hz)) ⟨by rw [h]; rfl, hs16⟩
  refine jn1_opt (Q := fun z => Sep w z Ds) (true && N) y.dn (.bool (!x1.dn)) hs17 (fun h => ?_) fun w18 hs18 _ => ?_
  · refine rdS_at _ (fun z hz => rxd z (toA z hz)) ?_
    rw [notB_bool]
    exact ⟨by rw [h]; rfl, hs17⟩
  refine jn1_opt (Q := fun z => Sep w z Ds) true N (.bool (y.dn && !x1.dn)) hs18 (fun h => ?_) fun w19 hs19 _ => ?_
  · have hNt : N = true := by simpa using h
    rw [hNt]
    show pik (.bool y.dn) _ _ _
    rw [pik_bool]
    refine ⟨?_, hs18⟩
    cases y.dn <;> rfl
  refine jn1_opt (Q := fun z => Sep w z Ds) (true && N) (y.dn && !x1.dn) (.bool D) hs19 (fun h => ?_) fun w20 hs20 _ => ?_
  · refine rdS_at _ rw13 (rdS_at _ (fun z hz => rid z (toA z hz)) (rdS_at (.bool D) (fun z hz => ?_) ⟨by rw [h]; rfl, hs19⟩))
    show rdP P _ z _
    rw [eq_api_ID, hD]
  refine jn1_opt (Q := fun z => Sep w z Ds) true N (.bool (!(y.dn && !x1.dn && D))) hs20 (fun h => ?_) fun w21 hs21 _ => ?_
  · have hNt : N = true := by simpa using h
    rw [hNt]
    show pik (.bool (y.dn && !x1.dn)) _ _ _
    rw [pik_bool]
    cases y.dn && !x1.dn
    · show notB (.bool false) _
      rw [notB_bool]
      exact ⟨rfl, hs20⟩
    · show notB (.bool D) _
      rw [notB_bool]
      exact ⟨rfl, hs20⟩
  rw [pik_bool]
  obtain ⟨G, hGe⟩ : ∃ G, G = (N && !(y.dn && !x1.dn && D)) := ⟨_, rfl⟩
  have e69 : (bif N then opt (true && N) (.bool (!(y.dn && !x1.dn && D))) else .bool false) = .bool G := by rw [hGe]; cases N <;> rfl
  rw [e69]
  rw [← hGe] at hG
  refine jn1_opt (Q := fun z => Sep w z Ds) true G (.bool true) hs21 (fun h => ?_) fun w22 hs22 _ => ?_
  · have hGt : G = true := by simpa using h
    refine rdS_at _ (fun z hz => ry z (toA z hz)) (rdS_at _ rw13 (rdS_at _ (fun z hz => ry z (toA z hz)) (rdS_at _ rw12 (efS_i (cal_i (strength_spec (hyr _ (toA _ hs21)) (by omega)) ?_)))))
    rintro _ z1 ⟨rfl, hz1⟩
    have hs' := hs21.old hz1
    refine ⟨hs', efS_i (cal_i (strength_spec (hyr _ (toA _ hs')) (by omega)) ?_)⟩
    rintro _ z2 ⟨rfl, hz2⟩
    have hs'' := hs'.old hz2
    refine ⟨hs'', ?_⟩
    rw [bi_gtr, decide_eq_true (hG hGt).1]
    exact ⟨by rw [hGt]; rfl, hs''⟩
  refine jn1_opt (Q := fun z => Sep w z Ds) (true && G) true (.bool true) hs22 (fun h => ?_) fun w23 hs23 _ => ?_
  · have hGt : G = true := by simpa using h
    refine rdS_at _ rw13 (rdS_at _ (fun z hz => rid z (toA z hz)) (rdS_at (.bool true) (fun z hz => ?_) ⟨by rw [h]; rfl, hs22⟩))
    show rdP P _ z _
    rw [eq_api_ID, ← hD, (hG hGt).2]
  refine jn1_opt (Q := fun z => Sep w z Ds) true G (.bool false) hs23 (fun h => ?_) fun w24 hs24 _ => ?_
  · have hGt : G = true := by simpa using h
    rw [hGt]
    show pik (.bool true) (.bool true) _ _
    rw [pik_bool]
    show notB (.bool true) _
    rw [notB_bool]
    exact ⟨rfl, hs23⟩
  rw [pik_bool]
  have e84 : (bif G then opt (true && G) (.bool false) else .bool false) = .bool false := by cases G <;> rfl
  rw [e84, cnd_false]
  have hsA := toA _ hs24
  rw [hAs] at hsA
  simp only [nilc_some, fad_mk, pik_true, pik_false, cnd_true, cnd_false, gif_same, gif_tf, gif_ft, gif_undef, bi_add, bi_sub, bi_mul, bi_eql, bi_neq, bi_lss, bi_leq, bi_gtr, bi_geq, notB_bool, cvi_int, lenS_mk, lenT_mk, ext0, ext1, ext2, nilP_mk, nilS_mk, fldv_agg, jn0_k, jn1_k, jn2_k, jn1_and, jn1_or, ex_some, Option.isNone_some, Option.isNone_none, Bool.false_bne, Bool.bne_true, Bool.bne_false, Bool.true_bne, Bool.not_true, Bool.not_false, Bool.and_true, Bool.true_and, Bool.and_false, Bool.false_and, Bool.or_true, Bool.true_or, Bool.or_false, Bool.false_or, cond_true, cond_false, List.getElem?_toArray, List.getElem?_cons_zero, List.getElem?_cons_succ, Nat.zero_add, Nat.add_zero, Nat.reduceAdd, forall_const, L_api_Snow hsA.p3.blk, L_api_Snow__List hsA.p3.blk, L_api_Snow__Pref hsA.p3.blk, L_api_Snow__Flake hsA.p3.blk, L_api_Snow__Conf hsA.p3.blk, L_api_Snow__Done hsA.p3.blk, L_flurrylaw17_Act hsA.p2.blk, L_flurrylaw17_Act__K hsA.p2.blk, L_flurrylaw17_Act__N hsA.p2.blk, L_flurrylaw17_Act__Add hsA.p2.blk, L_flurrylaw17_Act__ID hsA.p2.blk]
  rw [← hAs] at hsA
  refine jn1_opt (Q := fun z => Sep w z As) true (x1.dn && !a.2.2.1) (.bool false) hsA (fun h => ?_) fun w25 hs25 _ => ?_
  · have hyx : y = x1 := hst2 (by simp at h; exact h.1) (by simp at h; exact h.2)
    have hs0 := hsA
    rw [hAs] at hs0
    simp only [L_api_Snow hs0.p1.blk, L_api_Snow__List hs0.p1.blk, L_api_Snow__Pref hs0.p1.blk, L_api_Snow__Flake hs0.p1.blk, L_api_Snow__Conf hs0.p1.blk, L_api_Snow__Done hs0.p1.blk, L_api_Snow hs0.p3.blk, L_api_Snow__List hs0.p3.blk, L_api_Snow__Pref hs0.p3.blk, L_api_Snow__Flake hs0.p3.blk, L_api_Snow__Conf hs0.p3.blk, L_api_Snow__Done hs0.p3.blk]
    refine cal_i (Same_spec (hyr _ hsA) (hk1 _ (hCs _ hs0.tail.tail.tail.tail.tail)) (by omega) (by omega)) ?_
    rintro _ z1 ⟨rfl, hz1⟩
    rw [sameS_eq (by rw [hyx]), notB_bool]
    exact ⟨by rw [h]; rfl, hsA.old hz1⟩
  rw [pik_bool]
  have e97 : (bif (x1.dn && !a.2.2.1) then opt (true && (x1.dn && !a.2.2.1)) (.bool false) else .bool false) = .bool false := by cases (x1.dn && !a.2.2.1) <;> rfl
  rw [e97, cnd_false]
  rw [hAs] at hs25
  simp only [nilc_some, fad_mk, pik_true, pik_false, cnd_true, cnd_false, gif_same, gif_tf, gif_ft, gif_undef, bi_add, bi_sub, bi_mul, bi_eql, bi_neq, bi_lss, bi_leq, bi_gtr, bi_geq, notB_bool, cvi_int, lenS_mk, lenT_mk, ext0, ext1, ext2, nilP_mk, nilS_mk, fldv_agg, jn0_k, jn1_k, jn2_k, jn1_and, jn1_or, ex_some, Option.isNone_some, Option.isNone_none, Bool.false_bne, Bool.bne_true, Bool.bne_false, Bool.true_bne, Bool.not_true, Bool.not_false, Bool.and_true, Bool.true_and, Bool.and_false, Bool.false_and, Bool.or_true, Bool.true_or, Bool.or_false, Bool.false_or, cond_true, cond_false, List.getElem?_toArray, List.getElem?_cons_zero, List.getElem?_cons_succ, Nat.zero_add, Nat.add_zero, Nat.reduceAdd, forall_const, L_api_Snow hs25.p1.blk, L_api_Snow__List hs25.p1.blk, L_api_Snow__Pref hs25.p1.blk, L_api_Snow__Flake hs25.p1.blk, L_api_Snow__Conf hs25.p1.blk, L_api_Snow__Done hs25.p1.blk]
  refine St_api_Snow hs25.p3 (one_api_Snow hoy) fun w26 hs26 => ?_
  rw [wi64 (by omega) (by omega)]
  exact ⟨⟨i + 1, vy, y, Cs, by simp, by omega, hmy, hky, hs26.d1.d1.d1⟩, by simp [RowKit.intOf]; omega⟩
end Go.Fx
