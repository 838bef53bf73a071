/-
  How many choices, a choice's strength, an act.
-/
import Derived.Test.YtgiklllplfcikaaSnI
set_option linter.unusedVariables false
set_option linter.unusedSimpArgs false
namespace Go.Fx
abbrev Act := Nat × Int × Bool × Id
abbrev acr (a : Act) : Int × Int × Bool × Id := (a.1, a.2)
def strM (l : List Cho) (id : Id) : Int := if plc l id < 0 then -1 else ((l[(plc l id).toNat]?).map (·.2)).getD 0
def actN (p : Par) (a : Act) : Int := min (max a.2.1 (-1)) p.1
def actId (x : Sn) (a : Act) : Id := ((x.l[a.1 % x.l.length]?).map (·.1)).getD (vz 32)
/-- An instance that may be, behind an act. -/
noncomputable def stepM (p : Par) (x : Sn) (a : Act) : Sn × Id × Int :=
  if a.2.2.1 then (if (addM p x a.2.2.2).2 ≠ 0 then x else (addM p x a.2.2.2).1, vz 32, -1)
  else if actN p a < 0 then ((failM p x).1, actId x a, 0) else ((pollM p x (actId x a) (actN p a)).1, actId x a, actN p a)
theorem failM_ok {p : Par} {x : Sn} (h : snE p x = 0) : (failM p x).2 = 0 := by rw [failM, if_neg (by simpa using h)]
theorem pollM_ok {p : Par} {x : Sn} {id : Id} {n : Int} (h : snE p x = 0) (hn : 0 ≤ n) (hk : n ≤ p.1) (hid : 0 ≤ plc x.l id) : (pollM p x id n).2 = 0 := by
  rw [pollM, if_neg (by simpa using h), if_neg (by omega), if_neg (by omega)]
  repeat' split
  all_goals rfl
theorem plc_mem {l : List Cho} {i : Nat} {c : Cho} (hc : l[i]? = some c) : 0 ≤ plc l c.1 := by
  rcases plc_cases l c.1 with ⟨_, h⟩ | ⟨j, d, h, _⟩
  · exact absurd rfl (h i c hc)
  · omega
theorem max_int {P : Program} {t : Array TypeId} {t' : TypeId} {w : World} {k : IntKind} (a b : Int) (K : Value → Prop) : rdP P (Builtin.max_ t t' #[.int k a, .int k b]) w K = K (.int k (max a b)) := by
  refine rdP_eq ?_ K
  have e : (if a < b then b else a) = max a b := by omega
  simp [Builtin.max_, Builtin.max2, e]
section
variable {w0 w : World} {v u : Value} {x y : Sn} {p : Par} {id : Id} {n : Int} {As : List Asn}
theorem few_spec {xs : List (Value × Sn)} (hr : Rows' Q_api_Snow w.heap u (xs.map fun q => snr q.1 q.2)) (hx : xs.length ≤ 1000) (hall : ∀ q ∈ xs, Rows' Q_api_Choice w.heap q.1 q.2.l) :
    cal P f_law17_few [u] w fun r w' => r = .bool (xs.all fun q => decide (q.2.l.length ≤ 60)) ∧ Fr [] w w' := by
  refine s_law17_few fun R hR => ?_
  unfold c_law17_few
  simp only [nilc_some, fad_mk, pik_true, pik_false, cnd_true, cnd_false, gif_same, gif_tf, gif_ft, gif_undef, bi_add, bi_sub, bi_mul, bi_eql, bi_neq, bi_lss, bi_leq, bi_gtr, bi_geq, notB_bool, cvi_int, lenS_mk, lenT_mk, ext0, ext1, ext2, nilP_mk, nilS_mk, fldv_agg, jn0_k, jn1_k, jn2_k, jn1_and, jn1_or, ex_some, Option.isNone_some, Option.isNone_none, Bool.false_bne, Bool.bne_true, Bool.bne_false, Bool.true_bne, Bool.not_true, Bool.not_false, Bool.and_true, Bool.true_and, Bool.and_false, Bool.false_and, Bool.or_true, Bool.true_or, Bool.or_false, Bool.false_or, cond_true, cond_false, List.getElem?_toArray, List.getElem?_cons_zero, List.getElem?_cons_succ, Nat.zero_add, Nat.add_zero, Nat.reduceAdd, forall_const, hr.len, List.length_map]
  refine ⟨fun z w' => ∃ i : Nat, i ≤ xs.length ∧ z = .int .i64 i ∧ (∀ j q, j < i → xs[j]? = some q → q.2.l.length ≤ 60) ∧ Sep w w' [], fun z _ => (xs.length - RowKit.intOf z).toNat, ⟨0, by omega, rfl, by simp, Sep.start w⟩, ?_⟩
  rintro _ w3 ⟨i, hi, rfl, hok, hs3⟩ -
  simp only [nilc_some, fad_mk, pik_true, pik_false, cnd_true, cnd_false, gif_same, gif_tf, gif_ft, gif_undef, bi_add, bi_sub, bi_mul, bi_eql, bi_neq, bi_lss, bi_leq, bi_gtr, bi_geq, notB_bool, cvi_int, lenS_mk, lenT_mk, ext0, ext1, ext2, nilP_mk, nilS_mk, fldv_agg, jn0_k, jn1_k, jn2_k, jn1_and, jn1_or, ex_some, Option.isNone_some, Option.isNone_none, Bool.false_bne, Bool.bne_true, Bool.bne_false, Bool.true_bne, Bool.not_true, Bool.not_false, Bool.and_true, Bool.true_and, Bool.and_false, Bool.false_and, Bool.or_true, Bool.true_or, Bool.or_false, Bool.false_or, cond_true, cond_false, List.getElem?_toArray, List.getElem?_cons_zero, List.getElem?_cons_succ, Nat.zero_add, Nat.add_zero, Nat.reduceAdd, forall_const]
  rw [cnd_bool]
  refine ⟨fun h => ?_, fun h => ?_⟩
  · have hlt : i < xs.length := by simpa using h
    obtain ⟨q, hq⟩ : ∃ q, xs[i]? = some q := ⟨_, List.getElem?_eq_getElem hlt⟩
    have hrow := hall q (List.mem_of_getElem? hq)
    refine (hr.fr hs3.fr0).ldN (by decide) (show (xs.map fun q => snr q.1 q.2)[i]? = some (snr q.1 q.2) by rw [List.getElem?_map, hq]; rfl) _ ?_
    refine alloc_s hs3 (A_api_Snow w3) fun g w4 hs4 => ?_
    refine St_api_Snow hs4 (one_api_Snow (rows_one hrow)) fun w5 hs5 => ?_
    simp only [nilc_some, fad_mk, pik_true, pik_false, cnd_true, cnd_false, gif_same, gif_tf, gif_ft, gif_undef, bi_add, bi_sub, bi_mul, bi_eql, bi_neq, bi_lss, bi_leq, bi_gtr, bi_geq, notB_bool, cvi_int, lenS_mk, lenT_mk, ext0, ext1, ext2, nilP_mk, nilS_mk, fldv_agg, jn0_k, jn1_k, jn2_k, jn1_and, jn1_or, ex_some, Option.isNone_some, Option.isNone_none, Bool.false_bne, Bool.bne_true, Bool.bne_false, Bool.true_bne, Bool.not_true, Bool.not_false, Bool.and_true, Bool.true_and, Bool.and_false, Bool.false_and, Bool.or_true, Bool.true_or, Bool.or_false, Bool.false_or, cond_true, cond_false, List.getElem?_toArray, List.getElem?_cons_zero, List.getElem?_cons_succ, Nat.zero_add, Nat.add_zero, Nat.reduceAdd, forall_const, L_api_Snow hs5.blk, L_api_Snow__List hs5.blk, L_api_Snow__Pref hs5.blk, L_api_Snow__Flake hs5.blk, L_api_Snow__Conf hs5.blk, L_api_Snow__Done hs5.blk, (hrow.fr hs5.fr0).len]
    rw [cnd_bool]
    refine ⟨fun h => ?_, fun h => ?_⟩
    · have h : 60 < q.2.l.length := by simp at h; omega
      refine hR _ _ ⟨?_, hs5.fr0⟩
      have : (xs.all fun q => decide (q.2.l.length ≤ 60)) = false := by
        rw [List.all_eq_false]
        exact ⟨q, List.mem_of_getElem? hq, by simp; omega⟩
      rw [this]
    · have hle : q.2.l.length ≤ 60 := by simp at h; omega
      rw [wi64 (by omega) (by omega)]
      refine ⟨⟨i + 1, by omega, by simp, fun j q' hj hq' => ?_, hs5.tail⟩, by simp [RowKit.intOf]; omega⟩
      by_cases hji : j = i
      · subst hji
        rw [hq] at hq'
        cases hq'
        exact hle
      · exact hok j q' (by omega) hq'
  · have hge : i = xs.length := by simp at h; omega
    refine hR _ _ ⟨?_, hs3.fr0⟩
    have : (xs.all fun q => decide (q.2.l.length ≤ 60)) = true := by
      rw [List.all_eq_true]
      intro q hq
      obtain ⟨j, hj⟩ := List.mem_iff_getElem?.1 hq
      have := (List.getElem?_eq_some_iff.1 hj).1
      simpa using hok j q (by omega) hj
    rw [this]
theorem strength_spec (hr : Rows' Q_api_Choice w.heap v x.l) (hl : x.l.length ≤ 9223372036854775807) : cal P f_law17_strength [snv v x, idv id] w fun r w' => r = .int .i64 (strM x.l id) ∧ Fr [] w w' := by
  refine s_law17_strength fun R hR => ?_
  unfold c_law17_strength
  refine bx_s (Sep.start w) fun g1 w1 hs => ?_
  refine bx_s hs fun g2 w2 hs => ?_
  simp only [Value.cells] at hs
  simp only [nilc_some, fad_mk, pik_true, pik_false, cnd_true, cnd_false, gif_same, gif_tf, gif_ft, gif_undef, bi_add, bi_sub, bi_mul, bi_eql, bi_neq, bi_lss, bi_leq, bi_gtr, bi_geq, notB_bool, cvi_int, lenS_mk, lenT_mk, ext0, ext1, ext2, nilP_mk, nilS_mk, fldv_agg, jn0_k, jn1_k, jn2_k, jn1_and, jn1_or, ex_some, Option.isNone_some, Option.isNone_none, Bool.false_bne, Bool.bne_true, Bool.bne_false, Bool.true_bne, Bool.not_true, Bool.not_false, Bool.and_true, Bool.true_and, Bool.and_false, Bool.false_and, Bool.or_true, Bool.true_or, Bool.or_false, Bool.false_or, cond_true, cond_false, List.getElem?_toArray, List.getElem?_cons_zero, List.getElem?_cons_succ, Nat.zero_add, Nat.add_zero, Nat.reduceAdd, forall_const, L_api_Snow hs.p1.blk, L_api_Snow__List hs.p1.blk, L_api_Snow__Pref hs.p1.blk, L_api_Snow__Flake hs.p1.blk, L_api_Snow__Conf hs.p1.blk, L_api_Snow__Done hs.p1.blk, (hr.fr hs.fr0).len]
  refine ⟨fun z w' => ∃ i : Nat, i ≤ x.l.length ∧ z = .int .i64 i ∧ (∀ (j : Nat) (c : Cho), j < i → x.l[j]? = some c → c.1 ≠ id) ∧ Sep w w' [blk g2 (Rdr.cells (rVec 32) id).toArray T_api_ID], fun z _ => (x.l.length - RowKit.intOf z).toNat, ⟨0, by omega, rfl, by simp, hs.d1⟩, ?_⟩
  rintro _ w3 ⟨i, hi, rfl, hno, hs3⟩ -
  simp only [nilc_some, fad_mk, pik_true, pik_false, cnd_true, cnd_false, gif_same, gif_tf, gif_ft, gif_undef, bi_add, bi_sub, bi_mul, bi_eql, bi_neq, bi_lss, bi_leq, bi_gtr, bi_geq, notB_bool, cvi_int, lenS_mk, lenT_mk, ext0, ext1, ext2, nilP_mk, nilS_mk, fldv_agg, jn0_k, jn1_k, jn2_k, jn1_and, jn1_or, ex_some, Option.isNone_some, Option.isNone_none, Bool.false_bne, Bool.bne_true, Bool.bne_false, Bool.true_bne, Bool.not_true, Bool.not_false, Bool.and_true, Bool.true_and, Bool.and_false, Bool.false_and, Bool.or_true, Bool.true_or, Bool.or_false, Bool.false_or, cond_true, cond_false, List.getElem?_toArray, List.getElem?_cons_zero, List.getElem?_cons_succ, Nat.zero_add, Nat.add_zero, Nat.reduceAdd, forall_const]
  rw [cnd_bool]
  refine ⟨fun h => ?_, fun h => ?_⟩
  · have hlt : i < x.l.length := by simpa using h
    obtain ⟨c, hc⟩ : ∃ c, x.l[i]? = some c := ⟨_, List.getElem?_eq_getElem hlt⟩
    refine (hr.fr hs3.fr0).ldN (by decide) hc _ ?_
    refine alloc_s hs3 (A_api_Choice w3) fun g w4 hs4 => ?_
    refine St_api_Choice hs4 one_api_Choice fun w5 hs5 => ?_
    simp only [nilc_some, fad_mk, pik_true, pik_false, cnd_true, cnd_false, gif_same, gif_tf, gif_ft, gif_undef, bi_add, bi_sub, bi_mul, bi_eql, bi_neq, bi_lss, bi_leq, bi_gtr, bi_geq, notB_bool, cvi_int, lenS_mk, lenT_mk, ext0, ext1, ext2, nilP_mk, nilS_mk, fldv_agg, jn0_k, jn1_k, jn2_k, jn1_and, jn1_or, ex_some, Option.isNone_some, Option.isNone_none, Bool.false_bne, Bool.bne_true, Bool.bne_false, Bool.true_bne, Bool.not_true, Bool.not_false, Bool.and_true, Bool.true_and, Bool.and_false, Bool.false_and, Bool.or_true, Bool.true_or, Bool.or_false, Bool.false_or, cond_true, cond_false, List.getElem?_toArray, List.getElem?_cons_zero, List.getElem?_cons_succ, Nat.zero_add, Nat.add_zero, Nat.reduceAdd, forall_const, L_api_Choice hs5.blk, L_api_Choice__ID hs5.blk, L_api_Choice__Strength hs5.blk, L_api_ID hs5.p1.blk, eq_api_ID]
    rw [cnd_bool]
    refine ⟨fun h => ?_, fun h => ?_⟩
    · have h : c.1 = id := by simpa using h
      refine hR _ _ ⟨?_, hs5.fr0⟩
      rw [strM, plc_at hc h hno, if_neg (by omega), Int.toNat_natCast, hc]
      rfl
    · have hne : ¬ c.1 = id := by simpa using h
      rw [wi64 (by omega) (by omega)]
      refine ⟨⟨i + 1, by omega, by simp, fun j d hj hd => ?_, hs5.tail⟩, by simp [RowKit.intOf]; omega⟩
      by_cases hji : j = i
      · subst hji
        rw [hc] at hd
        cases hd
        exact hne
      · exact hno j d (by omega) hd
  · have hge : i = x.l.length := by simp at h; omega
    refine hR _ _ ⟨?_, hs3.fr0⟩
    rw [strM, plc_none fun j d hd => hno j d (by have := (List.getElem?_eq_some_iff.1 hd).1; omega) hd, if_pos (by decide)]
def StepQ (v : Value) (l : List Cho) (m : Sn × Id × Int) (w : World) (r : Value) (w' : World) : Prop := ∃ v', r = .tuple #[snv v' m.1, idv m.2.1, .int .i64 m.2.2] ∧ Res v l w w' v' m.1.l
theorem step_spec {a : Act} (hp : PaOk p) (ha : a.1 < 256) (ha2 : -9223372036854775808 ≤ a.2.1 ∧ a.2.1 ≤ 9223372036854775807) (hE : snE p x = 0) (hr : Rows' Q_api_Choice w.heap v x.l) (hl : x.l.length ≤ 1000000) :
    cal P f_law17_step [pav p, snv v x, .agg (Rdr.cells Q_flurrylaw17_Act (acr a)).toArray] w fun r w' => StepQ v x.l (stepM p x a) w r w' := by
  refine s_law17_step fun R hR => ?_
  unfold c_law17_step
  have h1 := rows_one hr
  refine bx_s (Sep.start w) fun g1 w1 hs => ?_
  refine bx_s hs fun g2 w2 hs => ?_
  refine bx_s hs fun g3 w3 hs => ?_
  simp only [Value.cells] at hs
  refine alloc_s hs (A_api_Snow w3) fun g4 w4 hs => ?_
  refine alloc_s hs (A_api_ID w4) fun g5 w5 hs => ?_
  have hend : ∀ {m : Sn × Id × Int} {v' : Value} {w' : World} {Bs : List Asn}, stepM p x a = m → v'.oneCell' = true → Kept v x.l v' m.1.l Bs →
      Sep w w' (zs g4 :: blk g5 (Rdr.cells (rVec 32) (vz 32)).toArray T_api_ID :: Bs) →
      stN 67 (.pointer (some ⟨g4, 0, none⟩)) (snv v' m.1) w' fun w => stN 32 (.pointer (some ⟨g5, 0, none⟩)) (idv m.2.1) w fun w => ldN 67 (.pointer (some ⟨g4, 0, none⟩)) w.heap fun r0 => ldN 32 (.pointer (some ⟨g5, 0, none⟩)) w.heap fun r1 => R (.tuple #[r0, r1, .int .i64 m.2.2]) w := fun he ho hrow hs' => by
    refine St_api_Snow hs' (one_api_Snow ho) fun w6 hs6 => ?_
    refine St_api_ID hs6.p1 fun w7 hs7 => ?_
    simp only [L_api_Snow hs7.p1.blk, L_api_Snow__List hs7.p1.blk, L_api_Snow__Pref hs7.p1.blk, L_api_Snow__Flake hs7.p1.blk, L_api_Snow__Conf hs7.p1.blk, L_api_Snow__Done hs7.p1.blk, L_api_ID hs7.blk]
    refine hR _ _ ⟨_, by rw [he], ?_⟩
    rw [he]
    exact hrow.res hs7.tail.tail
  simp only [nilc_some, fad_mk, pik_true, pik_false, cnd_true, cnd_false, gif_same, gif_tf, gif_ft, gif_undef, bi_add, bi_sub, bi_mul, bi_eql, bi_neq, bi_lss, bi_leq, bi_gtr, bi_geq, notB_bool, cvi_int, lenS_mk, lenT_mk, ext0, ext1, ext2, nilP_mk, nilS_mk, fldv_agg, jn0_k, jn1_k, jn2_k, jn1_and, jn1_or, ex_some, Option.isNone_some, Option.isNone_none, Bool.false_bne, Bool.bne_true, Bool.bne_false, Bool.true_bne, Bool.not_true, Bool.not_false, Bool.and_true, Bool.true_and, Bool.and_false, Bool.false_and, Bool.or_true, Bool.true_or, Bool.or_false, Bool.false_or, cond_true, cond_false, List.getElem?_toArray, List.getElem?_cons_zero, List.getElem?_cons_succ, Nat.zero_add, Nat.add_zero, Nat.reduceAdd, forall_const, L_flurrylaw17_Act hs.p2.blk, L_flurrylaw17_Act__K hs.p2.blk, L_flurrylaw17_Act__N hs.p2.blk, L_flurrylaw17_Act__Add hs.p2.blk, L_flurrylaw17_Act__ID hs.p2.blk]
  rw [cnd_bool]
  refine ⟨fun h => ?_, fun h => ?_⟩
  · simp only [L_api_Params hs.p4.blk, L_api_Params__K hs.p4.blk, L_api_Params__AlphaPref hs.p4.blk, L_api_Params__AlphaConf hs.p4.blk, L_api_Params__Beta hs.p4.blk, L_api_Snow hs.p3.blk, L_api_Snow__List hs.p3.blk, L_api_Snow__Pref hs.p3.blk, L_api_Snow__Flake hs.p3.blk, L_api_Snow__Conf hs.p3.blk, L_api_Snow__Done hs.p3.blk]
    refine cal_i (Add_spec (hr.fr hs.fr0) hl h1) ?_
    rintro _ w6 ⟨v', rfl, hs6⟩
    replace hs6 := hs.join hs6
    simp only [nilc_some, fad_mk, pik_true, pik_false, cnd_true, cnd_false, gif_same, gif_tf, gif_ft, gif_undef, bi_add, bi_sub, bi_mul, bi_eql, bi_neq, bi_lss, bi_leq, bi_gtr, bi_geq, notB_bool, cvi_int, lenS_mk, lenT_mk, ext0, ext1, ext2, nilP_mk, nilS_mk, fldv_agg, jn0_k, jn1_k, jn2_k, jn1_and, jn1_or, ex_some, Option.isNone_some, Option.isNone_none, Bool.false_bne, Bool.bne_true, Bool.bne_false, Bool.true_bne, Bool.not_true, Bool.not_false, Bool.and_true, Bool.true_and, Bool.and_false, Bool.false_and, Bool.or_true, Bool.true_or, Bool.or_false, Bool.false_or, cond_true, cond_false, List.getElem?_toArray, List.getElem?_cons_zero, List.getElem?_cons_succ, Nat.zero_add, Nat.add_zero, Nat.reduceAdd, forall_const]
    refine alloc_s hs6 (A_api_Snow w6) fun g6 w7 hs7 => ?_
    refine St_api_Snow hs7 (one_api_Snow hs6.oneR) fun w8 hs8 => ?_
    have hst : stepM p x a = (if (addM p x a.2.2.2).2 ≠ 0 then x else (addM p x a.2.2.2).1, vz 32, -1) := by rw [stepM, if_pos h]
    rw [cnd_bool]
    refine ⟨fun h => ?_, fun h => ?_⟩
    · have h : (addM p x a.2.2.2).2 ≠ 0 := by simpa using h
      rw [if_pos h] at hst
      simp only [bId0, L_api_Snow (Sep.p5 hs8).blk, L_api_Snow__List (Sep.p5 hs8).blk, L_api_Snow__Pref (Sep.p5 hs8).blk, L_api_Snow__Flake (Sep.p5 hs8).blk, L_api_Snow__Conf (Sep.p5 hs8).blk, L_api_Snow__Done (Sep.p5 hs8).blk]
      exact hend hst h1 (.inl ⟨rfl, rfl⟩) (Sep.p3 (Sep.p2 hs8))
    · have h : ¬ (addM p x a.2.2.2).2 ≠ 0 := by simpa using h
      rw [if_neg h] at hst
      simp only [bId0, L_api_Snow hs8.blk, L_api_Snow__List hs8.blk, L_api_Snow__Pref hs8.blk, L_api_Snow__Flake hs8.blk, L_api_Snow__Conf hs8.blk, L_api_Snow__Done hs8.blk]
      exact hend hst hs6.oneR (.inr ⟨_, rfl⟩) (Sep.p3 (Sep.p2 hs8)).d2
  have hst : stepM p x a = if actN p a < 0 then ((failM p x).1, actId x a, 0) else ((pollM p x (actId x a) (actN p a)).1, actId x a, actN p a) := by rw [stepM, if_neg (by simpa using h)]
  obtain ⟨hn1, hn2⟩ := snE_len (p := p) (x := x) hE
  simp only [nilc_some, fad_mk, pik_true, pik_false, cnd_true, cnd_false, gif_same, gif_tf, gif_ft, gif_undef, bi_add, bi_sub, bi_mul, bi_eql, bi_neq, bi_lss, bi_leq, bi_gtr, bi_geq, notB_bool, cvi_int, lenS_mk, lenT_mk, ext0, ext1, ext2, nilP_mk, nilS_mk, fldv_agg, jn0_k, jn1_k, jn2_k, jn1_and, jn1_or, ex_some, Option.isNone_some, Option.isNone_none, Bool.false_bne, Bool.bne_true, Bool.bne_false, Bool.true_bne, Bool.not_true, Bool.not_false, Bool.and_true, Bool.true_and, Bool.and_false, Bool.false_and, Bool.or_true, Bool.true_or, Bool.or_false, Bool.false_or, cond_true, cond_false, List.getElem?_toArray, List.getElem?_cons_zero, List.getElem?_cons_succ, Nat.zero_add, Nat.add_zero, Nat.reduceAdd, forall_const, L_api_Snow hs.p3.blk, L_api_Snow__List hs.p3.blk, L_api_Snow__Pref hs.p3.blk, L_api_Snow__Flake hs.p3.blk, L_api_Snow__Conf hs.p3.blk, L_api_Snow__Done hs.p3.blk, (hr.fr hs.fr0).len]
  rw [cnd_bool]
  refine ⟨fun h => ?_, fun h => ?_⟩
  · have h : x.l.length = 0 := by simpa using h
    omega
  have hlt : a.1 % x.l.length < x.l.length := Nat.mod_lt _ (by omega)
  obtain ⟨c, hc⟩ : ∃ c, x.l[a.1 % x.l.length]? = some c := ⟨_, List.getElem?_eq_getElem hlt⟩
  have hid : actId x a = c.1 := by rw [actId, hc]; rfl
  obtain ⟨g, o, c0, hv⟩ := hr.form (by decide) hc
  subst hv
  have hfin : ∀ {m : Sn} {n : Int} {g13 : Nat} {v' : Value} {w' : World} {Bs : List Asn}, stepM p x a = (m, c.1, n) →
      ∀ {g6 : Nat}, Sep w w' (sn g13 v' m :: rows Q_api_Choice v' m.l :: blk g6 (Rdr.cells (rVec 32) c.1).toArray T_api_ID :: blk g5 (Rdr.cells (rVec 32) (vz 32)).toArray T_api_ID :: zs g4 :: Bs) →
      drH w' fun S w => rdS S (fun w => ldN 67 (.pointer (some ⟨g13, 0, none⟩)) w.heap) fun t69 => rdS S (fun w => ldN 32 (.pointer (some ⟨g6, 0, none⟩)) w.heap) fun t70 =>
        efS S (fun w K => stN 67 (.pointer (some ⟨g4, 0, none⟩)) t69 w (K undef)) w fun _ w => efC (fun w K => stN 32 (.pointer (some ⟨g5, 0, none⟩)) t70 w (K undef)) w fun S _ w =>
        ldN 67 (.pointer (some ⟨g4, 0, none⟩)) w.heap fun r8 => ldN 32 (.pointer (some ⟨g5, 0, none⟩)) w.heap fun r9 => R (.tuple #[r8, r9, .int .i64 n]) w := fun he _ hs' => by
    rename_i m n g13 v' w' Bs g6
    have hd := hs'.p2.p1.drew (w'.drawn + 1)
    refine ⟨fun u => ∃ Cs, Sep w u (sn g13 v' m :: blk g6 (Rdr.cells (rVec 32) c.1).toArray T_api_ID :: Cs), ⟨_, hd⟩, ?_⟩
    refine rdS_at (snv v' m) (fun u hu => ?_) ?_
    · obtain ⟨Cs, hu⟩ := hu
      show ldN 67 _ u.heap _
      rw [L_api_Snow hu.blk]
    refine rdS_at (idv c.1) (fun u hu => ?_) ?_
    · obtain ⟨Cs, hu⟩ := hu
      show ldN 32 _ u.heap _
      rw [L_api_ID hu.p1.blk]
    refine efS_i (St_api_Snow hd.p4 (one_api_Snow hs'.p1.oneR) fun w2 hs2 => ⟨⟨_, hs2.p1.p2.p1⟩, efC_stN (St_api_ID hs2.p4 fun w3 hs3 => ?_)⟩)
    simp only [L_api_Snow hs3.p1.blk, L_api_Snow__List hs3.p1.blk, L_api_Snow__Pref hs3.p1.blk, L_api_Snow__Flake hs3.p1.blk, L_api_Snow__Conf hs3.p1.blk, L_api_Snow__Done hs3.p1.blk, L_api_ID hs3.blk]
    refine hR _ _ ⟨_, by rw [he], ?_⟩
    rw [he]
    exact .inr (Sep.only hs3.p4)
  refine drH_S hs fun w6 hs6 _ => ?_
  refine rdS_at (.slice (some ⟨g, o, none⟩) x.l.length c0) (fun u hu => ?_) ?_
  · show ld1 _ u.heap _
    rw [L_api_Snow__List (Sep.p3 hu).blk]
  refine rdS_at (.int .u8 a.1) (fun u hu => ?_) ?_
  · show ld1 _ u.heap _
    rw [L_flurrylaw17_Act__K (Sep.p2 hu).blk]
  simp only [nilc_some, fad_mk, pik_true, pik_false, cnd_true, cnd_false, gif_same, gif_tf, gif_ft, gif_undef, bi_add, bi_sub, bi_mul, bi_eql, bi_neq, bi_lss, bi_leq, bi_gtr, bi_geq, notB_bool, cvi_int, lenS_mk, lenT_mk, ext0, ext1, ext2, nilP_mk, nilS_mk, fldv_agg, jn0_k, jn1_k, jn2_k, jn1_and, jn1_or, ex_some, Option.isNone_some, Option.isNone_none, Bool.false_bne, Bool.bne_true, Bool.bne_false, Bool.true_bne, Bool.not_true, Bool.not_false, Bool.and_true, Bool.true_and, Bool.and_false, Bool.false_and, Bool.or_true, Bool.true_or, Bool.or_false, Bool.false_or, cond_true, cond_false, List.getElem?_toArray, List.getElem?_cons_zero, List.getElem?_cons_succ, Nat.zero_add, Nat.add_zero, Nat.reduceAdd, forall_const]
  rw [wi64 (by omega) (by omega)]
  refine rdS_at (.slice (some ⟨g, o, none⟩) x.l.length c0) (fun u hu => ?_) ?_
  · show ld1 _ u.heap _
    rw [L_api_Snow__List (Sep.p3 hu).blk]
  simp only [nilc_some, fad_mk, pik_true, pik_false, cnd_true, cnd_false, gif_same, gif_tf, gif_ft, gif_undef, bi_add, bi_sub, bi_mul, bi_eql, bi_neq, bi_lss, bi_leq, bi_gtr, bi_geq, notB_bool, cvi_int, lenS_mk, lenT_mk, ext0, ext1, ext2, nilP_mk, nilS_mk, fldv_agg, jn0_k, jn1_k, jn2_k, jn1_and, jn1_or, ex_some, Option.isNone_some, Option.isNone_none, Bool.false_bne, Bool.bne_true, Bool.bne_false, Bool.true_bne, Bool.not_true, Bool.not_false, Bool.and_true, Bool.true_and, Bool.and_false, Bool.false_and, Bool.or_true, Bool.true_or, Bool.or_false, Bool.false_or, cond_true, cond_false, List.getElem?_toArray, List.getElem?_cons_zero, List.getElem?_cons_succ, Nat.zero_add, Nat.add_zero, Nat.reduceAdd, forall_const]
  rw [bi_rem .i64 _ _ _ (by omega), ← Int.ofNat_tmod, ixs_mk _ _ _ _ _ _ _ _ (by omega) (by omega), Int.toNat_natCast, fad_mk, Nat.add_zero]
  refine rdS_at (idv c.1) (fun u hu => ?_) ?_
  · show ldN 32 _ u.heap _
    have hat : At u.heap g (o + a.1 % x.l.length * 33) (Rdr.cells Q_api_Choice c) := At.of (q := Q_api_Choice) (by decide) (hr.fr hu.fr0) hc
    rw [LA_api_Choice__ID hat]
  refine efS_i (alloc_s hs6 (A_api_ID w6) fun g6 w7 hs7 => ⟨hs7.tail, efC_stN (St_api_ID hs7 fun w8 hs8 => ?_)⟩)
  simp only [nilc_some, fad_mk, pik_true, pik_false, cnd_true, cnd_false, gif_same, gif_tf, gif_ft, gif_undef, bi_add, bi_sub, bi_mul, bi_eql, bi_neq, bi_lss, bi_leq, bi_gtr, bi_geq, notB_bool, cvi_int, lenS_mk, lenT_mk, ext0, ext1, ext2, nilP_mk, nilS_mk, fldv_agg, jn0_k, jn1_k, jn2_k, jn1_and, jn1_or, ex_some, Option.isNone_some, Option.isNone_none, Bool.false_bne, Bool.bne_true, Bool.bne_false, Bool.true_bne, Bool.not_true, Bool.not_false, Bool.and_true, Bool.true_and, Bool.and_false, Bool.false_and, Bool.or_true, Bool.true_or, Bool.or_false, Bool.false_or, cond_true, cond_false, List.getElem?_toArray, List.getElem?_cons_zero, List.getElem?_cons_succ, Nat.zero_add, Nat.add_zero, Nat.reduceAdd, forall_const, L_flurrylaw17_Act hs8.p3.blk, L_flurrylaw17_Act__K hs8.p3.blk, L_flurrylaw17_Act__N hs8.p3.blk, L_flurrylaw17_Act__Add hs8.p3.blk, L_flurrylaw17_Act__ID hs8.p3.blk, L_api_Params hs8.p5.blk, L_api_Params__K hs8.p5.blk, L_api_Params__AlphaPref hs8.p5.blk, L_api_Params__AlphaConf hs8.p5.blk, L_api_Params__Beta hs8.p5.blk, max_int, min_int]
  rw [show min (max a.2.1 (-1)) p.1 = actN p a from rfl, cnd_bool]
  refine ⟨fun h => ?_, fun h => ?_⟩
  · have h : actN p a < 0 := by simpa using h
    rw [if_pos h, hid] at hst
    simp only [L_api_Params hs8.p5.blk, L_api_Params__K hs8.p5.blk, L_api_Params__AlphaPref hs8.p5.blk, L_api_Params__AlphaConf hs8.p5.blk, L_api_Params__Beta hs8.p5.blk, L_api_Snow hs8.p4.blk, L_api_Snow__List hs8.p4.blk, L_api_Snow__Pref hs8.p4.blk, L_api_Snow__Flake hs8.p4.blk, L_api_Snow__Conf hs8.p4.blk, L_api_Snow__Done hs8.p4.blk]
    refine cal_i (Fail_spec (hr.fr hs8.fr0) hl h1) ?_
    rintro _ w9 ⟨v', rfl, hs9⟩
    replace hs9 := hs8.join hs9
    simp only [nilc_some, fad_mk, pik_true, pik_false, cnd_true, cnd_false, gif_same, gif_tf, gif_ft, gif_undef, bi_add, bi_sub, bi_mul, bi_eql, bi_neq, bi_lss, bi_leq, bi_gtr, bi_geq, notB_bool, cvi_int, lenS_mk, lenT_mk, ext0, ext1, ext2, nilP_mk, nilS_mk, fldv_agg, jn0_k, jn1_k, jn2_k, jn1_and, jn1_or, ex_some, Option.isNone_some, Option.isNone_none, Bool.false_bne, Bool.bne_true, Bool.bne_false, Bool.true_bne, Bool.not_true, Bool.not_false, Bool.and_true, Bool.true_and, Bool.and_false, Bool.false_and, Bool.or_true, Bool.true_or, Bool.or_false, Bool.false_or, cond_true, cond_false, List.getElem?_toArray, List.getElem?_cons_zero, List.getElem?_cons_succ, Nat.zero_add, Nat.add_zero, Nat.reduceAdd, forall_const]
    refine alloc_s hs9 (A_api_Snow w9) fun g13 w10 hs10 => ?_
    refine St_api_Snow hs10 (one_api_Snow hs9.oneR) fun w11 hs11 => ?_
    rw [failM_ok hE]
    rw [show ((0 : Int) != 0) = false from rfl, cnd_false]
    exact hfin hst hs11
  · have h : ¬ actN p a < 0 := by simpa using h
    rw [if_neg h, hid] at hst
    simp only [L_api_Params hs8.p5.blk, L_api_Params__K hs8.p5.blk, L_api_Params__AlphaPref hs8.p5.blk, L_api_Params__AlphaConf hs8.p5.blk, L_api_Params__Beta hs8.p5.blk, L_api_Snow hs8.p4.blk, L_api_Snow__List hs8.p4.blk, L_api_Snow__Pref hs8.p4.blk, L_api_Snow__Flake hs8.p4.blk, L_api_Snow__Conf hs8.p4.blk, L_api_Snow__Done hs8.p4.blk, L_api_ID hs8.blk]
    refine cal_i (Poll_spec (hr.fr hs8.fr0) hl h1) ?_
    rintro _ w9 ⟨v', rfl, hs9⟩
    replace hs9 := hs8.join hs9
    simp only [nilc_some, fad_mk, pik_true, pik_false, cnd_true, cnd_false, gif_same, gif_tf, gif_ft, gif_undef, bi_add, bi_sub, bi_mul, bi_eql, bi_neq, bi_lss, bi_leq, bi_gtr, bi_geq, notB_bool, cvi_int, lenS_mk, lenT_mk, ext0, ext1, ext2, nilP_mk, nilS_mk, fldv_agg, jn0_k, jn1_k, jn2_k, jn1_and, jn1_or, ex_some, Option.isNone_some, Option.isNone_none, Bool.false_bne, Bool.bne_true, Bool.bne_false, Bool.true_bne, Bool.not_true, Bool.not_false, Bool.and_true, Bool.true_and, Bool.and_false, Bool.false_and, Bool.or_true, Bool.true_or, Bool.or_false, Bool.false_or, cond_true, cond_false, List.getElem?_toArray, List.getElem?_cons_zero, List.getElem?_cons_succ, Nat.zero_add, Nat.add_zero, Nat.reduceAdd, forall_const]
    refine alloc_s hs9 (A_api_Snow w9) fun g13 w10 hs10 => ?_
    refine St_api_Snow hs10 (one_api_Snow hs9.oneR) fun w11 hs11 => ?_
    rw [pollM_ok hE (by omega) (by unfold actN; omega) (plc_mem hc)]
    rw [show ((0 : Int) != 0) = false from rfl, cnd_false]
    exact hfin hst hs11
end
end Go.Fx
