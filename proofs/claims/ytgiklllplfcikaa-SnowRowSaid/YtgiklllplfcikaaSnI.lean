/-
  The law's helpers: the example, how many, strength.
-/
import Derived.Test.YtgiklllplfcikaaSnH
set_option linter.unusedVariables false
set_option linter.unusedSimpArgs false
namespace Go.Fx
def smp : Par := (3, 2, 3, 2)
def idA : Id := ⟨1 :: List.replicate 31 0, by decide⟩
def idB : Id := ⟨2 :: List.replicate 31 0, by decide⟩
def lv0 : Sn := ⟨[(idA, 0)], idA, idA, 0, false⟩
def lv1 : Sn := ⟨[(idA, 0), (idB, 0)], idA, idA, 0, false⟩
def lv2 : Sn := ⟨[(idA, 0), (idB, 1)], idB, idB, 0, false⟩
def lv3 : Sn := ⟨[(idA, 0), (idB, 2)], idB, idB, 1, false⟩
def lv4 : Sn := ⟨[(idA, 0), (idB, 3)], idB, idB, 2, true⟩
theorem lv0E : snE smp lv0 = 0 := by
  refine snE_ok (by decide) (by unfold headBad; decide) fun i c hc => ?_
  match i, hc with
  | 0, hc => cases hc; decide
  | i + 1, hc => simp [lv0] at hc
theorem lv1E : snE smp lv1 = 0 := by
  refine snE_ok (by decide) (by unfold headBad; decide) fun i c hc => ?_
  match i, hc with
  | 0, hc => cases hc; decide
  | 1, hc => cases hc; decide
  | i + 2, hc => simp [lv1] at hc
theorem lv2E : snE smp lv2 = 0 := by
  refine snE_ok (by decide) (by unfold headBad; decide) fun i c hc => ?_
  match i, hc with
  | 0, hc => cases hc; decide
  | 1, hc => cases hc; decide
  | i + 2, hc => simp [lv2] at hc
theorem lv3E : snE smp lv3 = 0 := by
  refine snE_ok (by decide) (by unfold headBad; decide) fun i c hc => ?_
  match i, hc with
  | 0, hc => cases hc; decide
  | 1, hc => cases hc; decide
  | i + 2, hc => simp [lv3] at hc
theorem new_lv : newM smp idA = (lv0, 0) := by rw [newM, if_neg (by decide)]; rfl
theorem add_lv : addM smp lv0 idB = (lv1, 0) := by rw [addM, if_neg (by rw [lv0E]; decide), if_neg (by decide), if_neg (by decide)]; rfl
theorem poll_lv1 : pollM smp lv1 idB 2 = (lv2, 0) := by rw [pollM_up (k := 1) (c := (idB, 0)) lv1E (by decide) (by decide) rfl rfl (by decide)]; rfl
theorem poll_lv2 : pollM smp lv2 idB 3 = (lv3, 0) := by rw [pollM_up (k := 1) (c := (idB, 1)) lv2E (by decide) (by decide) rfl rfl (by decide)]; rfl
theorem poll_lv3 : pollM smp lv3 idB 3 = (lv4, 0) := by rw [pollM_up (k := 1) (c := (idB, 2)) lv3E (by decide) (by decide) rfl rfl (by decide)]; rfl
theorem run_lv : runM smp lv2 0 [(idB, 3), (idB, 3)] = (lv4, 2, 0) := by simp [runM, poll_lv2, poll_lv3]
section
variable {w0 w : World} {v u : Value} {x y : Sn} {p : Par} {id : Id} {n : Int} {As : List Asn}
theorem bId (j : Int) (hj : j = 1 ∨ j = 2) (K : Value → Prop) : rdP P (Instr.build T_api_ID #[(0, .int .u8 j)]) w K = K (idv (if j = 1 then idA else idB)) := by
  rcases hj with rfl | rfl
  · exact rdP_eq (by kernel_rfl) K
  · exact rdP_eq (by kernel_rfl) K
theorem bId0 (K : Value → Prop) : rdP P (Instr.build T_api_ID #[]) w K = K (idv (vz 32)) := rdP_eq (by kernel_rfl) K
theorem some_spec : cal P f_law17_some [] w fun r w' => r = pav smp ∧ Fr [] w w' := by
  refine s_law17_some fun R hR => ?_
  unfold c_law17_some
  refine alloc_s (Sep.start w) (A_api_Params w) fun g w1 hs => ?_
  rw [B_api_Params_0_1_2_3]
  refine St_api_Params hs one_api_Params fun w2 hs => ?_
  simp only [L_api_Params hs.blk, L_api_Params__K hs.blk, L_api_Params__AlphaPref hs.blk, L_api_Params__AlphaConf hs.blk, L_api_Params__Beta hs.blk]
  exact hR _ _ ⟨rfl, hs.fr0⟩
abbrev zs (g : Nat) : Asn := blk g (Rdr.cells Q_api_Snow (.slice none 0 0, vz 32, vz 32, 0, false)).toArray T_api_Snow
abbrev sn (g : Nat) (v : Value) (x : Sn) : Asn := blk g (Rdr.cells Q_api_Snow (snr v x)).toArray T_api_Snow
/-- A call whose instance is stored in a variable made behind it, or ahead of it. -/
theorem leafA {S : World → Prop} {f : FuncId} {args : List Value} {m : Sn × Int} {K : Value → Value → World → Prop} (hs : Sep w0 w As) (call : cal P f args w fun r w' => SnQ m w r w')
    (hk : ∀ g v w', Sep w0 w' (sn g v m.1 :: rows Q_api_Choice v m.1.l :: As) → K (.pointer (some ⟨g, 0, none⟩)) (.int .i64 m.2) w') :
    efC (cal P f args) w fun S t w => ext 0 t fun t18 => ext 1 t fun t19 => efS S (efP P (Instr.alloc T_api_Snow true (.tuple #[]))) w fun t3 w => efC (fun w K => stN 67 t3 t18 w (K undef)) w fun S _ w => K t3 t19 w := by
  refine cal_i call ?_
  rintro _ w9 ⟨v2, rfl, hs9⟩
  replace hs9 := hs.join hs9
  refine ⟨fun _ => True, trivial, ?_⟩
  simp only [nilc_some, fad_mk, pik_true, pik_false, cnd_true, cnd_false, gif_same, gif_tf, gif_ft, gif_undef, bi_add, bi_sub, bi_mul, bi_eql, bi_neq, bi_lss, bi_leq, bi_gtr, bi_geq, notB_bool, cvi_int, lenS_mk, lenT_mk, ext0, ext1, ext2, nilP_mk, nilS_mk, fldv_agg, jn0_k, jn1_k, jn2_k, jn1_and, jn1_or, ex_some, Option.isNone_some, Option.isNone_none, Bool.false_bne, Bool.bne_true, Bool.bne_false, Bool.true_bne, Bool.not_true, Bool.not_false, Bool.and_true, Bool.true_and, Bool.and_false, Bool.false_and, Bool.or_true, Bool.true_or, Bool.or_false, Bool.false_or, cond_true, cond_false, List.getElem?_toArray, List.getElem?_cons_zero, List.getElem?_cons_succ, Nat.zero_add, Nat.add_zero, Nat.reduceAdd, forall_const]
  refine efS_i (alloc_s hs9 (A_api_Snow w9) fun g5 w10 hs10 => ⟨trivial, ?_⟩)
  refine efC_stN (St_api_Snow hs10 (one_api_Snow hs9.oneR) fun w11 hs11 => ?_)
  exact hk g5 v2 _ hs11
theorem leafC {f : FuncId} {args : List Value} {m : Sn × Int} {g : Nat} {K : Value → Value → World → Prop} (hs : Sep w0 w (zs g :: As)) (call : cal P f args w fun r w' => SnQ m w r w')
    (hk : ∀ g v w', Sep w0 w' (sn g v m.1 :: rows Q_api_Choice v m.1.l :: As) → K (.pointer (some ⟨g, 0, none⟩)) (.int .i64 m.2) w') :
    efC (cal P f args) w fun S t w => ext 0 t fun t18 => ext 1 t fun t19 => efC (fun w K => stN 67 (.pointer (some ⟨g, 0, none⟩)) t18 w (K undef)) w fun S _ w => K (.pointer (some ⟨g, 0, none⟩)) t19 w := by
  refine efC_cal (cal_i call ?_)
  rintro _ w9 ⟨v2, rfl, hs9⟩
  replace hs9 := hs.join hs9
  simp only [nilc_some, fad_mk, pik_true, pik_false, cnd_true, cnd_false, gif_same, gif_tf, gif_ft, gif_undef, bi_add, bi_sub, bi_mul, bi_eql, bi_neq, bi_lss, bi_leq, bi_gtr, bi_geq, notB_bool, cvi_int, lenS_mk, lenT_mk, ext0, ext1, ext2, nilP_mk, nilS_mk, fldv_agg, jn0_k, jn1_k, jn2_k, jn1_and, jn1_or, ex_some, Option.isNone_some, Option.isNone_none, Bool.false_bne, Bool.bne_true, Bool.bne_false, Bool.true_bne, Bool.not_true, Bool.not_false, Bool.and_true, Bool.true_and, Bool.and_false, Bool.false_and, Bool.or_true, Bool.true_or, Bool.or_false, Bool.false_or, cond_true, cond_false, List.getElem?_toArray, List.getElem?_cons_zero, List.getElem?_cons_succ, Nat.zero_add, Nat.add_zero, Nat.reduceAdd, forall_const]
  refine efC_stN (St_api_Snow (Sep.p1 hs9) (one_api_Snow (Sep.oneR hs9)) fun w11 hs11 => ?_)
  exact hk g v2 _ hs11
/-- The two orders, the parameters made in either place. -/
theorem leaf3 {f : FuncId} {a : List Value} {m : Sn × Int} {K : Value → Value → World → Prop} (hs : Sep w0 w As) (call : ∀ w', Sep w0 w' As → cal P f (pav smp :: a) w' fun r w'' => SnQ m w' r w'')
    (hk : ∀ g v w', Sep w0 w' (sn g v m.1 :: rows Q_api_Choice v m.1.l :: As) → K (.pointer (some ⟨g, 0, none⟩)) (.int .i64 m.2) w') :
    (efS (fun u => Sep w0 u As) (cal P f_law17_some []) w fun t15 w =>
      (efC (cal P f (t15 :: a)) w fun S t w => ext 0 t fun t18 => ext 1 t fun t19 => efS S (efP P (Instr.alloc T_api_Snow true (.tuple #[]))) w fun t3 w => efC (fun w K => stN 67 t3 t18 w (K undef)) w fun S _ w => K t3 t19 w) ∧
      ((efS (fun u => Sep w0 u As) (efP P (Instr.alloc T_api_Snow true (.tuple #[]))) w fun t3 w => efC (cal P f (t15 :: a)) w fun S t w => ext 0 t fun t18 => ext 1 t fun t19 => efC (fun w K => stN 67 t3 t18 w (K undef)) w fun S _ w => K t3 t19 w) ∧ True)) ∧
    ((efS (fun u => Sep w0 u As) (efP P (Instr.alloc T_api_Snow true (.tuple #[]))) w fun t3 w => efS (fun u => Sep w0 u As) (cal P f_law17_some []) w fun t15 w =>
      efC (cal P f (t15 :: a)) w fun S t w => ext 0 t fun t18 => ext 1 t fun t19 => efC (fun w K => stN 67 t3 t18 w (K undef)) w fun S _ w => K t3 t19 w) ∧ True) := by
  refine ⟨efS_i (cal_i some_spec ?_), efS_i (alloc_s hs (A_api_Snow w) fun g w1 hs1 => ⟨hs1.tail, efS_i (cal_i some_spec ?_)⟩), trivial⟩
  · rintro _ w2 ⟨rfl, hf2⟩
    have hs2 := hs.old hf2
    refine ⟨hs2, leafA (S := fun _ => True) hs2 (call _ hs2) hk, efS_i (alloc_s hs2 (A_api_Snow w2) fun g w1 hs1 => ⟨hs1.tail, leafC hs1 (call _ hs1.tail) hk⟩), trivial⟩
  · rintro _ w2 ⟨rfl, hf2⟩
    have hs2 := hs1.old hf2
    exact ⟨hs2.tail, leafC hs2 (call _ hs2.tail) hk⟩
theorem rows_one {α : Type} {q : Rdr α} {h : Heap} {v : Value} {l : List α} (hr : Rows' q h v l) : v.oneCell' = true := by obtain ⟨a, c, rfl, _⟩ := hr; rfl
theorem runA {f : FuncId} {args : List Value} {m : Sn × Int × Int} {K : Value → Value → Value → World → Prop} (hs : Sep w0 w As) (h1 : v.oneCell' = true) (call : cal P f args w fun r w' => RunQ v x.l m w r w')
    (hk : ∀ g v w', Sep w0 w' (sn g v m.1 :: As) → K (.pointer (some ⟨g, 0, none⟩)) (.int .i64 m.2.1) (.int .i64 m.2.2) w') :
    efC (cal P f args) w fun S t w => ext 0 t fun t18 => ext 1 t fun t19 => ext 2 t fun t20 => efS S (efP P (Instr.alloc T_api_Snow true (.tuple #[]))) w fun t3 w => efC (fun w K => stN 67 t3 t18 w (K undef)) w fun S _ w => K t3 t19 t20 w := by
  refine cal_i call ?_
  rintro _ w9 ⟨v2, rfl, hr9⟩
  have hs9 := hs.old hr9.fr
  refine ⟨fun _ => True, trivial, ?_⟩
  simp only [nilc_some, fad_mk, pik_true, pik_false, cnd_true, cnd_false, gif_same, gif_tf, gif_ft, gif_undef, bi_add, bi_sub, bi_mul, bi_eql, bi_neq, bi_lss, bi_leq, bi_gtr, bi_geq, notB_bool, cvi_int, lenS_mk, lenT_mk, ext0, ext1, ext2, nilP_mk, nilS_mk, fldv_agg, jn0_k, jn1_k, jn2_k, jn1_and, jn1_or, ex_some, Option.isNone_some, Option.isNone_none, Bool.false_bne, Bool.bne_true, Bool.bne_false, Bool.true_bne, Bool.not_true, Bool.not_false, Bool.and_true, Bool.true_and, Bool.and_false, Bool.false_and, Bool.or_true, Bool.true_or, Bool.or_false, Bool.false_or, cond_true, cond_false, List.getElem?_toArray, List.getElem?_cons_zero, List.getElem?_cons_succ, Nat.zero_add, Nat.add_zero, Nat.reduceAdd, forall_const]
  refine efS_i (alloc_s hs9 (A_api_Snow w9) fun g5 w10 hs10 => ⟨trivial, ?_⟩)
  refine efC_stN (St_api_Snow hs10 (one_api_Snow (hr9.one h1)) fun w11 hs11 => ?_)
  exact hk g5 v2 _ hs11
theorem runC {f : FuncId} {args : List Value} {m : Sn × Int × Int} {g : Nat} {K : Value → Value → World → Prop} (hs : Sep w0 w (zs g :: As)) (h1 : v.oneCell' = true) (call : cal P f args w fun r w' => RunQ v x.l m w r w')
    (hk : ∀ v w', Sep w0 w' (sn g v m.1 :: As) → K (.int .i64 m.2.1) (.int .i64 m.2.2) w') :
    efC (cal P f args) w fun S t w => ext 0 t fun t18 => ext 1 t fun t19 => ext 2 t fun t20 => efC (fun w K => stN 67 (.pointer (some ⟨g, 0, none⟩)) t18 w (K undef)) w fun S _ w => K t19 t20 w := by
  refine efC_cal (cal_i call ?_)
  rintro _ w9 ⟨v2, rfl, hr9⟩
  have hs9 := hs.old hr9.fr
  simp only [nilc_some, fad_mk, pik_true, pik_false, cnd_true, cnd_false, gif_same, gif_tf, gif_ft, gif_undef, bi_add, bi_sub, bi_mul, bi_eql, bi_neq, bi_lss, bi_leq, bi_gtr, bi_geq, notB_bool, cvi_int, lenS_mk, lenT_mk, ext0, ext1, ext2, nilP_mk, nilS_mk, fldv_agg, jn0_k, jn1_k, jn2_k, jn1_and, jn1_or, ex_some, Option.isNone_some, Option.isNone_none, Bool.false_bne, Bool.bne_true, Bool.bne_false, Bool.true_bne, Bool.not_true, Bool.not_false, Bool.and_true, Bool.true_and, Bool.and_false, Bool.false_and, Bool.or_true, Bool.true_or, Bool.or_false, Bool.false_or, cond_true, cond_false, List.getElem?_toArray, List.getElem?_cons_zero, List.getElem?_cons_succ, Nat.zero_add, Nat.add_zero, Nat.reduceAdd, forall_const]
  refine efC_stN (St_api_Snow hs9 (one_api_Snow (hr9.one h1)) fun w11 hs11 => ?_)
  exact hk v2 _ hs11
theorem live_spec : cal P f_law17_live [] w fun r w' => r = .bool true ∧ Fr [] w w' := by
  refine s_law17_live fun R hR => ?_
  unfold c_law17_live
  rw [bId 1 (.inl rfl), if_pos rfl, bId 2 (.inr rfl), if_neg (by decide)]
  refine alloc_s (Sep.start w) (A_api_ID w) fun g1 w1 hs => ?_
  refine alloc_s hs (A_api_ID w1) fun g2 w2 hs => ?_
  refine St_api_ID hs.p1 fun w3 hs => ?_
  refine St_api_ID hs.p1 fun w4 hs => ?_
  refine drH_S hs fun w5 hs _ => ?_
  refine ⟨fun y z w' => ∃ g v, y = .pointer (some ⟨g, 0, none⟩) ∧ z = .int .i64 0 ∧ Sep w w' [sn g v lv0, rows Q_api_Choice v lv0.l, blk g2 (Rdr.cells (rVec 32) idB).toArray T_api_ID, blk g1 (Rdr.cells (rVec 32) idA).toArray T_api_ID], ?_, ?_⟩
  · refine rdS_at (idv idA) (fun u hu => ?_) ?_
    · show ldN 32 _ u.heap _
      rw [L_api_ID hu.p1.blk]
    refine leaf3 (f := f_snow_New) (a := [idv idA]) (m := (lv0, 0)) hs (fun w' _ => by rw [← new_lv]; exact New_spec) fun g v w' hs' => ⟨g, v, rfl, rfl, hs'⟩
  rintro _ _ w6 ⟨g3, v3, rfl, rfl, hs6⟩ -
  refine drH_S hs6 fun w7 hs7 _ => ?_
  refine ⟨fun y z w' => ∃ g v, y = .pointer (some ⟨g, 0, none⟩) ∧ z = .int .i64 0 ∧ Sep w w' [sn g v lv1, rows Q_api_Choice v lv1.l, sn g3 v3 lv0, rows Q_api_Choice v3 lv0.l, blk g2 (Rdr.cells (rVec 32) idB).toArray T_api_ID, blk g1 (Rdr.cells (rVec 32) idA).toArray T_api_ID], ?_, ?_⟩
  · refine rdS_at (snv v3 lv0) (fun u hu => ?_) ?_
    · show ldN 67 _ u.heap _
      rw [L_api_Snow hu.blk]
    refine rdS_at (idv idB) (fun u hu => ?_) ?_
    · show ldN 32 _ u.heap _
      rw [L_api_ID hu.p2.blk]
    exact leaf3 (f := f_snow_Add) (a := [snv v3 lv0, idv idB]) (m := (lv1, 0)) hs7 (fun w' h => by rw [← add_lv]; exact Add_spec (Sep.rows h.p1) (by decide) (Sep.oneR h.p1)) fun g v w' hs' => ⟨g, v, rfl, rfl, hs'⟩
  rintro _ _ w8 ⟨g4, v4, rfl, rfl, hs8⟩ -
  refine drH_S hs8.d3.d2 fun w9 hs9 _ => ?_
  refine ⟨fun y z w' => ∃ g v, y = .pointer (some ⟨g, 0, none⟩) ∧ z = .int .i64 0 ∧ Sep w w' [sn g v lv2, rows Q_api_Choice v lv2.l, sn g4 v4 lv1, rows Q_api_Choice v4 lv1.l, blk g2 (Rdr.cells (rVec 32) idB).toArray T_api_ID, blk g1 (Rdr.cells (rVec 32) idA).toArray T_api_ID], ?_, ?_⟩
  · refine rdS_at (snv v4 lv1) (fun u hu => ?_) ?_
    · show ldN 67 _ u.heap _
      rw [L_api_Snow hu.blk]
    refine rdS_at (idv idB) (fun u hu => ?_) ?_
    · show ldN 32 _ u.heap _
      rw [L_api_ID hu.p2.blk]
    exact leaf3 (f := f_snow_Poll) (a := [snv v4 lv1, idv idB, .int .i64 2]) (m := (lv2, 0)) hs9 (fun w' h => by rw [← poll_lv1]; exact Poll_spec (Sep.rows h.p1) (by decide) (Sep.oneR h.p1)) fun g v w' hs' => ⟨g, v, rfl, rfl, hs'⟩
  rintro _ _ w10 ⟨g5, v5, rfl, rfl, hs10⟩ -
  refine drH_S hs10.d3.d2 fun w11 hs11 _ => ?_
  have call : ∀ (u : Value) (w' : World), Sep w w' [sn g5 v5 lv2, rows Q_api_Choice v5 lv2.l, blk g2 (Rdr.cells (rVec 32) idB).toArray T_api_ID, blk g1 (Rdr.cells (rVec 32) idA).toArray T_api_ID] →
      Rows' Q_api_Vote w'.heap u [(idB, 3), (idB, 3)] → cal P f_snow_Run [pav smp, snv v5 lv2, u] w' fun r w'' => RunQ v5 lv2.l (lv4, 2, 0) w' r w'' := fun u w' h hv => by
    rw [← run_lv]
    exact Run_spec (Sep.rows h.p1) (by decide) (Sep.oneR h.p1) hv (by decide)
  have h5 := Sep.oneR hs11.p1
  have bld : ∀ {w' : World} {Bs : List Asn} {K : Value → World → Prop}, Sep w w' Bs → (∀ u w'', Sep w w'' (rows Q_api_Vote u ([(idB, 3), (idB, 3)] : List Vot) :: Bs) → K u w'') →
      efP P (Instr.buildSlice T_sl_api_Vote 2 #[(0, .agg (Rdr.cells Q_api_Vote ((idB, 3) : Vot)).toArray), (1, .agg (Rdr.cells Q_api_Vote ((idB, 3) : Vot)).toArray)]) w' K := fun hs' h =>
    rows_lit (q := Q_api_Vote) (l := [((idB, 3) : Vot), (idB, 3)]) (V := fun c => .agg (Rdr.cells Q_api_Vote c).toArray) hs' S_sl_api_Vote (fun a => rfl) rfl rfl (by decide) (by decide) fun g w' hs' => h _ _ hs'
  refine ⟨fun y z t w' => ∃ g v, y = .pointer (some ⟨g, 0, none⟩) ∧ z = .int .i64 2 ∧ t = .int .i64 0 ∧ ∃ Bs, Sep w w' (sn g v lv4 :: sn g5 v5 lv2 :: blk g2 (Rdr.cells (rVec 32) idB).toArray T_api_ID :: Bs), ?_, ?_⟩
  · refine rdS_at (snv v5 lv2) (fun u hu => ?_) ?_
    · show ldN 67 _ u.heap _
      rw [L_api_Snow hu.blk]
    refine rdS_at (idv idB) (fun u hu => ?_) ?_
    · show ldN 32 _ u.heap _
      rw [L_api_ID hu.p2.blk]
    refine rdS_at (.agg (Rdr.cells Q_api_Vote ((idB, 3) : Vot)).toArray) (fun u hu => ?_) ?_
    · show rdP P _ u _
      rw [B_api_Vote_0_1]
    refine rdS_at (idv idB) (fun u hu => ?_) ?_
    · show ldN 32 _ u.heap _
      rw [L_api_ID hu.p2.blk]
    refine rdS_at (.agg (Rdr.cells Q_api_Vote ((idB, 3) : Vot)).toArray) (fun u hu => ?_) ?_
    · show rdP P _ u _
      rw [B_api_Vote_0_1]
    refine ⟨efS_i (cal_i some_spec ?_), efS_i (bld hs11 fun u w1 h1 => ⟨h1.tail, efS_i (cal_i some_spec ?_), efS_i (alloc_s h1 (A_api_Snow w1) fun g w2 h2 => ⟨h2.tail.tail, efS_i (cal_i some_spec ?_)⟩), trivial⟩),
      efS_i (alloc_s hs11 (A_api_Snow w11) fun g w1 h1 => ⟨h1.tail, efS_i (cal_i some_spec ?_), efS_i (bld h1 fun u w2 h2 => ⟨h2.tail.tail, efS_i (cal_i some_spec ?_)⟩), trivial⟩), trivial⟩
    · rintro _ w2 ⟨rfl, hf2⟩
      have hs2 := hs11.old hf2
      refine ⟨hs2, efS_i (bld hs2 fun u w3 h3 => ⟨h3.tail, runA h3 h5 (call u w3 h3.tail (Sep.rows h3)) fun g v w' h => ⟨g, v, rfl, rfl, rfl, _, h.d1.d2⟩,
        efS_i (alloc_s h3 (A_api_Snow w3) fun g w4 h4 => ⟨h4.tail.tail, runC h4 h5 (call u w4 h4.tail.tail (Sep.rows h4.p1)) fun v w' h => ⟨g, v, rfl, rfl, rfl, _, h.d1.d2⟩⟩), trivial⟩),
        efS_i (alloc_s hs2 (A_api_Snow w2) fun g w3 h3 => ⟨h3.tail, efS_i (bld h3 fun u w4 h4 => ⟨h4.tail.tail, runC h4.p1 h5 (call u w4 h4.tail.tail (Sep.rows h4)) fun v w' h => ⟨g, v, rfl, rfl, rfl, _, h.d1.d2⟩⟩)⟩), trivial⟩
    · rintro _ w2 ⟨rfl, hf2⟩
      have hs2 := h1.old hf2
      exact ⟨hs2.tail, runA hs2 h5 (call u w2 hs2.tail (Sep.rows hs2)) fun g v w' h => ⟨g, v, rfl, rfl, rfl, _, h.d1.d2⟩,
        efS_i (alloc_s hs2 (A_api_Snow w2) fun g w4 h4 => ⟨h4.tail.tail, runC h4 h5 (call u w4 h4.tail.tail (Sep.rows h4.p1)) fun v w' h => ⟨g, v, rfl, rfl, rfl, _, h.d1.d2⟩⟩), trivial⟩
    · rintro _ w3 ⟨rfl, hf2⟩
      have hs2 := h2.old hf2
      exact ⟨hs2.tail.tail, runC hs2 h5 (call u w3 hs2.tail.tail (Sep.rows hs2.p1)) fun v w' h => ⟨g, v, rfl, rfl, rfl, _, h.d1.d2⟩⟩
    · rintro _ w2 ⟨rfl, hf2⟩
      have hs2 := h1.old hf2
      exact ⟨hs2.tail, efS_i (bld hs2 fun u w3 h3 => ⟨h3.tail.tail, runC h3.p1 h5 (call u w3 h3.tail.tail (Sep.rows h3)) fun v w' h => ⟨g, v, rfl, rfl, rfl, _, h.d1.d2⟩⟩)⟩
    · rintro _ w3 ⟨rfl, hf2⟩
      have hs2 := h2.old hf2
      exact ⟨hs2.tail.tail, runC hs2.p1 h5 (call u w3 hs2.tail.tail (Sep.rows hs2)) fun v w' h => ⟨g, v, rfl, rfl, rfl, _, h.d1.d2⟩⟩
  rintro _ _ _ w12 ⟨g6, v6, rfl, rfl, rfl, Bs, hs12⟩ -
  refine drH_S hs12 fun w13 hs13 _ => ?_
  have e0 : ((0 : Int) == 0) = true := rfl
  have e2 : ((2 : Int) == 2) = true := rfl
  simp only [nilc_some, fad_mk, pik_true, pik_false, cnd_true, cnd_false, gif_same, gif_tf, gif_ft, gif_undef, bi_add, bi_sub, bi_mul, bi_eql, bi_neq, bi_lss, bi_leq, bi_gtr, bi_geq, notB_bool, cvi_int, lenS_mk, lenT_mk, ext0, ext1, ext2, nilP_mk, nilS_mk, fldv_agg, jn0_k, jn1_k, jn2_k, jn1_and, jn1_or, ex_some, Option.isNone_some, Option.isNone_none, Bool.false_bne, Bool.bne_true, Bool.bne_false, Bool.true_bne, Bool.not_true, Bool.not_false, Bool.and_true, Bool.true_and, Bool.and_false, Bool.false_and, Bool.or_true, Bool.true_or, Bool.or_false, Bool.false_or, cond_true, cond_false, List.getElem?_toArray, List.getElem?_cons_zero, List.getElem?_cons_succ, Nat.zero_add, Nat.add_zero, Nat.reduceAdd, forall_const, e0, e2]
  refine jn1_dup (rdS_at (snv v5 lv2) (fun u hu => ?_) (rdS_at (idv idB) (fun u hu => ?_) (efS_i (cal_i Prefers_spec ?_))))
  · show ldN 67 _ u.heap _
    rw [L_api_Snow hu.p1.blk]
  · show ldN 32 _ u.heap _
    rw [L_api_ID hu.p2.blk]
  rintro _ w14 ⟨rfl, hf14⟩
  have hs14 := hs13.old hf14
  refine ⟨hs14, rdS_at (.bool true) (fun u hu => ?_) ?_⟩
  · show rdP P _ u _
    rw [eq_api_ID]
    rfl
  intro _
  simp only [nilc_some, fad_mk, pik_true, pik_false, cnd_true, cnd_false, gif_same, gif_tf, gif_ft, gif_undef, bi_add, bi_sub, bi_mul, bi_eql, bi_neq, bi_lss, bi_leq, bi_gtr, bi_geq, notB_bool, cvi_int, lenS_mk, lenT_mk, ext0, ext1, ext2, nilP_mk, nilS_mk, fldv_agg, jn0_k, jn1_k, jn2_k, jn1_and, jn1_or, ex_some, Option.isNone_some, Option.isNone_none, Bool.false_bne, Bool.bne_true, Bool.bne_false, Bool.true_bne, Bool.not_true, Bool.not_false, Bool.and_true, Bool.true_and, Bool.and_false, Bool.false_and, Bool.or_true, Bool.true_or, Bool.or_false, Bool.false_or, cond_true, cond_false, List.getElem?_toArray, List.getElem?_cons_zero, List.getElem?_cons_succ, Nat.zero_add, Nat.add_zero, Nat.reduceAdd, forall_const]
  refine jn1_dup (rdS_at (.int .i64 0) (fun u hu => ?_) ?_)
  · show ld1 _ u.heap _
    rw [L_api_Snow__Conf hu.p1.blk]
    rfl
  simp only [nilc_some, fad_mk, pik_true, pik_false, cnd_true, cnd_false, gif_same, gif_tf, gif_ft, gif_undef, bi_add, bi_sub, bi_mul, bi_eql, bi_neq, bi_lss, bi_leq, bi_gtr, bi_geq, notB_bool, cvi_int, lenS_mk, lenT_mk, ext0, ext1, ext2, nilP_mk, nilS_mk, fldv_agg, jn0_k, jn1_k, jn2_k, jn1_and, jn1_or, ex_some, Option.isNone_some, Option.isNone_none, Bool.false_bne, Bool.bne_true, Bool.bne_false, Bool.true_bne, Bool.not_true, Bool.not_false, Bool.and_true, Bool.true_and, Bool.and_false, Bool.false_and, Bool.or_true, Bool.true_or, Bool.or_false, Bool.false_or, cond_true, cond_false, List.getElem?_toArray, List.getElem?_cons_zero, List.getElem?_cons_succ, Nat.zero_add, Nat.add_zero, Nat.reduceAdd, forall_const, e0]
  refine jn1_dup (rdS_at (.bool true) (fun u hu => ?_) ?_)
  · show ld1 _ u.heap _
    rw [L_api_Snow__Done hu.blk]
    rfl
  intro _
  simp only [nilc_some, fad_mk, pik_true, pik_false, cnd_true, cnd_false, gif_same, gif_tf, gif_ft, gif_undef, bi_add, bi_sub, bi_mul, bi_eql, bi_neq, bi_lss, bi_leq, bi_gtr, bi_geq, notB_bool, cvi_int, lenS_mk, lenT_mk, ext0, ext1, ext2, nilP_mk, nilS_mk, fldv_agg, jn0_k, jn1_k, jn2_k, jn1_and, jn1_or, ex_some, Option.isNone_some, Option.isNone_none, Bool.false_bne, Bool.bne_true, Bool.bne_false, Bool.true_bne, Bool.not_true, Bool.not_false, Bool.and_true, Bool.true_and, Bool.and_false, Bool.false_and, Bool.or_true, Bool.true_or, Bool.or_false, Bool.false_or, cond_true, cond_false, List.getElem?_toArray, List.getElem?_cons_zero, List.getElem?_cons_succ, Nat.zero_add, Nat.add_zero, Nat.reduceAdd, forall_const]
  refine jn1_dup (rdS_at (snv v6 lv4) (fun u hu => ?_) (rdS_at (idv idB) (fun u hu => ?_) (efS_i (cal_i Prefers_spec ?_))))
  · show ldN 67 _ u.heap _
    rw [L_api_Snow hu.blk]
  · show ldN 32 _ u.heap _
    rw [L_api_ID hu.p2.blk]
  rintro _ w15 ⟨rfl, hf15⟩
  have hs15 := hs14.old hf15
  refine ⟨hs15, rdS_at (.bool true) (fun u hu => ?_) ?_⟩
  · show rdP P _ u _
    rw [eq_api_ID]
    rfl
  exact fun _ => hR _ _ ⟨rfl, hs15.fr0⟩
end
end Go.Fx
