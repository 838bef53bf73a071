/-
  '[]byte(s)'.
-/
import Derived.Test.YtamjngkjpalchaaPkB
set_option linter.unusedVariables false
set_option linter.unusedSimpArgs false
namespace Go.Fx
theorem freeze_new (w : World) (c : Array Value) (E n : Nat) : ((w.alloc (.cells c E)).freeze ⟨w.heap.size, n, none⟩ 1).heap[w.heap.size]? = some (.cells c E (n, n + 1)) := by
  simp only [World.freeze, Nat.one_ne_zero, if_false]
  rw [Array.getElem?_modify, if_pos rfl, alloc_new]
  simp
theorem freeze_fr (w : World) (c : Array Value) (E n : Nat) : Fr [] w ((w.alloc (.cells c E)).freeze ⟨w.heap.size, n, none⟩ 1) := by
  refine ⟨by simp [World.freeze], fun k hk _ => ?_, rfl, rfl, rfl⟩
  have : w.heap.size ≠ k := by omega
  simp only [World.freeze, Nat.one_ne_zero, if_false, Array.getElem?_modify, this]
  exact RowKit.Below.heap_alloc w _ k hk
/-- '[]byte(s)': bytes in new memory. -/
theorem conv_bytes {t ts E : Nat} {w : World} {l : List UInt8} {K : Value → World → Prop} (hu : P.underlying t = some (.slice E)) (he : P.underlying E = some (.int .u8)) (hs : P.underlying ts = some .string)
    (h : ∀ v w', RdB w'.heap v l → Fr [] w w' → (∀ G : List Nat, (∀ k ∈ G, k < w.heap.size) → Off v G) → K v w') : efP P (convert ts t (.string ⟨l.toArray⟩)) w K := by
  have hr : ∃ v w', (convert ts t (.string ⟨l.toArray⟩)).run P w = .ok v w' ∧ RdB w'.heap v l ∧ Fr [] w w' ∧ (∀ G : List Nat, (∀ k ∈ G, k < w.heap.size) → Off v G) := by
    have hsz : (ByteArray.mk l.toArray).size = l.length := by simp [ByteArray.size]
    have hmap : (l.toArray.map fun b => Value.int .u8 b.toNat) = (bvs l).toArray := by simp [bvs, bv]
    simp only [convert, Sem.run_bind, run_underlying hs, run_underlying hu, run_underlying he, Result.andThen_ok, Conv.stringToBytes, run_choose_drew, Question.forced, hsz, hmap, newRow, markStringish, run_newObj, Sem.run_pure, run_shape, run_freeze]
    generalize (Question.appendCap l.length 0 E).cut (w.tape w.drawn (Question.appendCap l.length 0 E)) = c
    have hsh : ∀ o : Obj, ({ heap := w.drew.heap.push o, tape := w.drew.tape, drawn := w.drew.drawn, os := w.drew.os, output := w.drew.output } : World) = w.drew.alloc o := fun o => rfl
    simp only [Bool.false_eq_true, if_false, Result.andThen_ok, hsh]
    have hs2 : ∀ cs : Array Value, (w.drew.alloc (.cells cs E)).shape? w.drew.heap.size = some (E, cs.size) := fun cs => by unfold World.shape?; rw [alloc_new w.drew]
    rw [hs2]
    simp only [run_freeze, Result.andThen_ok]
    refine ⟨_, _, rfl, ?_, ?_, ?_⟩
    · refine ⟨_, _, rfl, by simp [bvs], .inr ⟨_, 0, _, _, _, rfl, freeze_new w.drew _ E _, ?_⟩⟩
      simp only [List.drop_zero, Array.toList_append, Nat.mul_one]
      rw [List.take_append_of_le_length (by simp [bvs]), List.take_of_length_le (by simp [bvs])]
    · exact Fr.ofDrew (freeze_fr w.drew _ E _)
    · intro G hG g o n c hv _ hm
      cases hv
      exact absurd (hG _ hm) (Nat.lt_irrefl _)
  obtain ⟨v, w', hr, h1, h2, h3⟩ := hr
  exact ⟨v, w', hr, h v w' h1 h2 h3⟩
theorem rText_spec {w : World} {p : Value} {x : Pk} {F : List Nat} {s : List UInt8} (hp : IsRf w.heap p x F) (hok : x.Ok) (hl : s.length ≤ 140737488355324) :
    cal P f_ref01_Packer_Text [p, .string ⟨s.toArray⟩] w (RefQ p (x.text s) F w) := by
  refine s_ref01_Packer_Text fun R hR => ?_
  unfold c_ref01_Packer_Text
  have hsz : (ByteArray.mk s.toArray).size = s.length := by simp [ByteArray.size]
  obtain ⟨g, s', E, G, rfl, hg, ho, hn, rfl, hm⟩ := hp
  have hworks : x.works = (x.e == 0) := by simp [Pk.works, hm]
  have hrest : ∀ (w1 : World) (y : Pk), IsRf w1.heap (.pointer (some ⟨g, 0, none⟩)) y (g :: G) → y.Ok → Fr (g :: G) w w1 → y.add (be 2 s.length ++ s) = x.text s →
      (cal P f_ref01_Num [(Value.int IntKind.i64 2), .int .u64 (IntKind.u64.wrap s.length)] w1 fun t21 w => efP P (convert T_string T_sl_uint8 (.string ⟨s.toArray⟩)) w fun t25 w =>
        efP P (Builtin.append_ #[T_sl_uint8, T_sl_uint8] T_sl_uint8 #[t21, t25]) w fun t26 w => cal P f_ref01_Packer_Fixed [.pointer (some ⟨g, 0, none⟩), t26] w fun t27 w => R (Value.tuple #[]) w) := by
    intro w1 y hy hyk hfy hxy
    rw [wu64i (by omega) (by omega)]
    refine cal_i (rNum_spec (n := 2) (by omega) (by omega)) ?_
    rintro t w2 ⟨g2, rfl, ho2, hf2, hg2⟩
    refine conv_bytes UT_bytes UT_uint8 UT_string fun v w3 hv hf3 hoff => ?_
    refine appB ST_bytes UT_bytes (by simp) (ho2.fr hf3 (by simp)) hv (by rw [be_length]; omega) fun s1 w4 G1 ho4 hf4 hG1 => ?_
    have hf24 : Fr [] w1 w4 := (hf2.trans (H := []) hf3 (by simp) (by simp)).trans hf4 (by simp) (by simp; omega)
    refine cal_i (rFixed_spec (hy.fr hf24 (by simp)) hyk ho4.rd (Own.off ho4 ?_)) ?_
    · intro k hk hmm
      have h1 := hy.lt k hmm
      have h2 := hG1 k hk
      have h3 := hf2.size
      have h4 := hf3.size
      simp at h2
      omega
    · rintro _ w5 ⟨rfl, F', h1, h2, h3⟩
      refine hR _ _ ⟨rfl, F', hxy ▸ h1, hfy.trans (hf24.trans h2 (by simp) fun i hi => .inl hi) (fun i hi => .inl hi) fun i hi => .inl hi, fun k hk => (h3 k hk).imp id fun hh => Nat.le_trans (Nat.le_trans hfy.size hf24.size) hh⟩
  simp only [nilc_some, fad_mk, pik_true, pik_false, cnd_true, cnd_false, gif_same, gif_tf, gif_ft, gif_undef, bi_add, bi_sub, bi_mul, bi_eql, bi_neq, bi_lss, bi_leq, bi_gtr, bi_geq, notB_bool, cvi_int, lenS_mk, lenT_mk, ext0, ext1, ext2, nilP_mk, nilS_mk, fldv_agg, jn0_k, jn1_k, jn2_k, jn1_and, jn1_or, ex_some, Option.isNone_some, Option.isNone_none, Bool.false_bne, Bool.bne_true, Bool.bne_false, Bool.true_bne, Bool.not_true, Bool.not_false, Bool.and_true, Bool.true_and, Bool.and_false, Bool.false_and, Bool.or_true, Bool.true_or, Bool.or_false, Bool.false_or, cond_true, cond_false, List.getElem?_toArray, List.getElem?_cons_zero, List.getElem?_cons_succ, Nat.zero_add, Nat.add_zero, Nat.reduceAdd, forall_const, ld1_eq hg, hsz]
  cases he : (x.e == 0) with
  | false =>
    have hw : x.works = false := by rw [hworks, he]
    have he' : x.e ≠ 0 := by simpa using he
    simp only [nilc_some, fad_mk, pik_true, pik_false, cnd_true, cnd_false, gif_same, gif_tf, gif_ft, gif_undef, bi_add, bi_sub, bi_mul, bi_eql, bi_neq, bi_lss, bi_leq, bi_gtr, bi_geq, notB_bool, cvi_int, lenS_mk, lenT_mk, ext0, ext1, ext2, nilP_mk, nilS_mk, fldv_agg, jn0_k, jn1_k, jn2_k, jn1_and, jn1_or, ex_some, Option.isNone_some, Option.isNone_none, Bool.false_bne, Bool.bne_true, Bool.bne_false, Bool.true_bne, Bool.not_true, Bool.not_false, Bool.and_true, Bool.true_and, Bool.and_false, Bool.false_and, Bool.or_true, Bool.true_or, Bool.or_false, Bool.false_or, cond_true, cond_false, List.getElem?_toArray, List.getElem?_cons_zero, List.getElem?_cons_succ, Nat.zero_add, Nat.add_zero, Nat.reduceAdd, forall_const]
    refine hrest w x ⟨g, s', E, G, rfl, hg, ho, hn, rfl, hm⟩ hok (Fr.refl _ _) ?_
    rw [Pk.add, hw, Pk.text, hw]; rfl
  | true =>
    have hw : x.works = true := by rw [hworks, he]
    have he' : x.e = 0 := by simpa using he
    simp only [nilc_some, fad_mk, pik_true, pik_false, cnd_true, cnd_false, gif_same, gif_tf, gif_ft, gif_undef, bi_add, bi_sub, bi_mul, bi_eql, bi_neq, bi_lss, bi_leq, bi_gtr, bi_geq, notB_bool, cvi_int, lenS_mk, lenT_mk, ext0, ext1, ext2, nilP_mk, nilS_mk, fldv_agg, jn0_k, jn1_k, jn2_k, jn1_and, jn1_or, ex_some, Option.isNone_some, Option.isNone_none, Bool.false_bne, Bool.bne_true, Bool.bne_false, Bool.true_bne, Bool.not_true, Bool.not_false, Bool.and_true, Bool.true_and, Bool.and_false, Bool.false_and, Bool.or_true, Bool.true_or, Bool.or_false, Bool.false_or, cond_true, cond_false, List.getElem?_toArray, List.getElem?_cons_zero, List.getElem?_cons_succ, Nat.zero_add, Nat.add_zero, Nat.reduceAdd, forall_const]
    refine jn0_dup ?_
    rw [cnd_bool]
    refine ⟨fun h => ?_, fun h => ?_⟩
    · have hlt : 65535 < s.length := by simp at h; omega
      refine st1_i hg (by simp) rfl fun w' hg' hf _ => ?_
      refine hrest w' { x with e := 3 } ⟨g, s', E, G, rfl, hg', ho.fr hf (by simpa using fun k hk (hh : k = g) => hn (hh ▸ hk)), hn, rfl, hm⟩ (by intro hc; simp [Pk.works] at hc) (hf.sub (by simp)) ?_
      rw [Pk.text, if_pos hw, if_pos hlt, Pk.add, if_neg (by simp [Pk.works])]
    · have hlt : ¬ 65535 < s.length := by simp at h; omega
      intro _
      refine hrest w x ⟨g, s', E, G, rfl, hg, ho, hn, rfl, hm⟩ hok (Fr.refl _ _) ?_
      rw [Pk.text, if_pos hw, if_neg hlt]
theorem rNew_spec {w : World} (n : Int) : cal P f_ref01_New [.int .i64 n] w fun v w' => ∃ F, IsRf w'.heap v (Pk.new n) F ∧ Fr [] w w' ∧ ∀ k ∈ F, w.heap.size ≤ k := by
  refine s_ref01_New fun R hR => ?_
  unfold c_ref01_New
  have hb : (Instr.build T_flurryref01_Packer #[(1, .int .i64 n)]).run P w = .ok (.agg #[.slice none 0 0, .int .i64 n, .int .i64 0]) w := by kernel_rfl
  rw [rdP_eq hb]
  refine bx_i fun w1 g hg hg1 hf1 => ?_
  simp only [nilc_some, fad_mk, pik_true, pik_false, cnd_true, cnd_false, gif_same, gif_tf, gif_ft, gif_undef, bi_add, bi_sub, bi_mul, bi_eql, bi_neq, bi_lss, bi_leq, bi_gtr, bi_geq, notB_bool, cvi_int, lenS_mk, lenT_mk, ext0, ext1, ext2, nilP_mk, nilS_mk, fldv_agg, jn0_k, jn1_k, jn2_k, jn1_and, jn1_or, ex_some, Option.isNone_some, Option.isNone_none, Bool.false_bne, Bool.bne_true, Bool.bne_false, Bool.true_bne, Bool.not_true, Bool.not_false, Bool.and_true, Bool.true_and, Bool.and_false, Bool.false_and, Bool.or_true, Bool.true_or, Bool.or_false, Bool.false_or, cond_true, cond_false, List.getElem?_toArray, List.getElem?_cons_zero, List.getElem?_cons_succ, Nat.zero_add, Nat.add_zero, Nat.reduceAdd, forall_const, Value.cells] at hg1 ⊢
  have hlast : ∀ w3 e, w3.heap[g]? = some (.cells #[.slice none 0 0, .int .i64 n, .int .i64 e] T_flurryref01_Packer (0, 0)) → Fr [] w w3 → e = (Pk.new n).e → R (.pointer (some ⟨g, 0, none⟩)) w3 := by
    intro w3 e h1 h2 he
    subst he
    exact hR _ _ ⟨[g], ⟨g, _, _, [], rfl, h1, OwnB.nil _, by simp, rfl, rfl⟩, h2, by simp; omega⟩
  rw [cnd_bool]
  refine ⟨fun h => ?_, fun h => ?_⟩
  · have h : n < 0 ∨ 8192 < n := by simpa using h
    refine st1_i hg1 (by simp) rfl fun w3 hg3 hf3 => hlast w3 1 hg3 (hf1.trans hf3 (by simp) (by simp; omega)) ?_
    simp [Pk.new, h]
  · have h : ¬ (n < 0 ∨ 8192 < n) := by simpa using h
    exact hlast w1 0 hg1 hf1 (by simp [Pk.new, h])
/-- What the reference's packer tells at last: what it holds itself. -/
theorem rOut_spec {w : World} {p : Value} {x : Pk} {F : List Nat} (hp : IsRf w.heap p x F) : cal P f_ref01_Packer_Out [p] w fun v w' =>
    Fr [] w w' ∧ ((x.e = 0 ∧ ∃ s g G, F = g :: G ∧ v = .tuple #[s, .int .i64 0] ∧ OwnB w.heap s x.b G) ∨ (x.e ≠ 0 ∧ v = .tuple #[.slice none 0 0, .int .i64 x.e])) := by
  obtain ⟨g, s, E, G, rfl, hg, ho, hn, rfl, hm⟩ := hp
  refine s_ref01_Packer_Out fun R hR => ?_
  unfold c_ref01_Packer_Out
  simp only [nilc_some, fad_mk, pik_true, pik_false, cnd_true, cnd_false, gif_same, gif_tf, gif_ft, gif_undef, bi_add, bi_sub, bi_mul, bi_eql, bi_neq, bi_lss, bi_leq, bi_gtr, bi_geq, notB_bool, cvi_int, lenS_mk, lenT_mk, ext0, ext1, ext2, nilP_mk, nilS_mk, fldv_agg, jn0_k, jn1_k, jn2_k, jn1_and, jn1_or, ex_some, Option.isNone_some, Option.isNone_none, Bool.false_bne, Bool.bne_true, Bool.bne_false, Bool.true_bne, Bool.not_true, Bool.not_false, Bool.and_true, Bool.true_and, Bool.and_false, Bool.false_and, Bool.or_true, Bool.true_or, Bool.or_false, Bool.false_or, cond_true, cond_false, List.getElem?_toArray, List.getElem?_cons_zero, List.getElem?_cons_succ, Nat.zero_add, Nat.add_zero, Nat.reduceAdd, forall_const, ld1_eq hg]
  rw [cnd_bool]
  refine ⟨fun h => ?_, fun h => ?_⟩
  · simp only [drw, nilc_some, fad_mk, pik_true, pik_false, cnd_true, cnd_false, gif_same, gif_tf, gif_ft, gif_undef, bi_add, bi_sub, bi_mul, bi_eql, bi_neq, bi_lss, bi_leq, bi_gtr, bi_geq, notB_bool, cvi_int, lenS_mk, lenT_mk, ext0, ext1, ext2, nilP_mk, nilS_mk, fldv_agg, jn0_k, jn1_k, jn2_k, jn1_and, jn1_or, ex_some, Option.isNone_some, Option.isNone_none, Bool.false_bne, Bool.bne_true, Bool.bne_false, Bool.true_bne, Bool.not_true, Bool.not_false, Bool.and_true, Bool.true_and, Bool.and_false, Bool.false_and, Bool.or_true, Bool.true_or, Bool.or_false, Bool.false_or, cond_true, cond_false, List.getElem?_toArray, List.getElem?_cons_zero, List.getElem?_cons_succ, Nat.zero_add, Nat.add_zero, Nat.reduceAdd, forall_const, ld1_eq hg]
    exact hR _ _ ⟨(Fr.refl _ _).drew _, .inr ⟨by simpa using h, rfl⟩⟩
  · have he : x.e = 0 := by simpa using h
    exact hR _ _ ⟨Fr.refl _ _, .inl ⟨he, s, g, G, rfl, rfl, ho⟩⟩
end Go.Fx
