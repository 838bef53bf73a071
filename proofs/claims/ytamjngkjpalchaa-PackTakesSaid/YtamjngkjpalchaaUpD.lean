/-
  The reference's unpacker, the rest; what taking an item does in both.
-/
import Derived.Test.YtamjngkjpalchaaUpC
set_option linter.unusedVariables false
set_option linter.unusedSimpArgs false
namespace Go.Fx
theorem ruBytes_spec {w : World} {g : Nat} {x : Up} {G : List Nat} (hp : IsRu w.heap g x G) {most : Int} (hm0 : most ≤ 9223372036854775807) (hm1 : -9223372036854775808 ≤ most) :
    cal P f_ref01_Unpacker_Bytes [.pointer (some ⟨g, 0, none⟩), .int .i64 most] w (RTakeQ g (x.counted 4 most) G w) := by
  refine s_ref01_Unpacker_Bytes fun R hR => ?_
  unfold c_ref01_Unpacker_Bytes
  exact cal_i (rucounted_spec (head := 4) hp (by omega) hm0 hm1) hR
theorem ruText_spec {w : World} {g : Nat} {x : Up} {G : List Nat} (hp : IsRu w.heap g x G) {most : Int} (hm0 : most ≤ 9223372036854775807) (hm1 : -9223372036854775808 ≤ most) :
    cal P f_ref01_Unpacker_Text [.pointer (some ⟨g, 0, none⟩), .int .i64 most] w fun v w' => v = .string ⟨(x.counted 2 most).2.toArray⟩ ∧ IsRu w'.heap g (x.counted 2 most).1 G ∧ Fr [g] w w' := by
  refine s_ref01_Unpacker_Text fun R hR => ?_
  unfold c_ref01_Unpacker_Text
  refine cal_i (rucounted_spec (head := 2) hp (by omega) hm0 hm1) ?_
  rintro v w1 ⟨h1, h2, h3⟩
  rw [rdP_eq (conv_str UT_bytes UT_uint8 UT_string h3)]
  exact hR _ _ ⟨rfl, h1, h2⟩
theorem ruEnd_spec {w : World} {g : Nat} {x : Up} {G : List Nat} (hp : IsRu w.heap g x G) : cal P f_ref01_Unpacker_End [.pointer (some ⟨g, 0, none⟩)] w fun v w' => v = .int .i64 x.fin ∧ w = w' := by
  obtain ⟨s, E, hg, ho, hn, hm, hbl⟩ := hp
  refine s_ref01_Unpacker_End fun R hR => ?_
  unfold c_ref01_Unpacker_End
  have herr : x.err = x.e := by simp [Up.err, hm]
  simp only [nilc_some, fad_mk, pik_true, pik_false, cnd_true, cnd_false, gif_same, gif_tf, gif_ft, gif_undef, bi_add, bi_sub, bi_mul, bi_eql, bi_neq, bi_lss, bi_leq, bi_gtr, bi_geq, notB_bool, cvi_int, lenS_mk, lenT_mk, ext0, ext1, ext2, nilP_mk, nilS_mk, fldv_agg, jn0_k, jn1_k, jn2_k, jn1_and, jn1_or, ex_some, Option.isNone_some, Option.isNone_none, Bool.false_bne, Bool.bne_true, Bool.bne_false, Bool.true_bne, Bool.not_true, Bool.not_false, Bool.and_true, Bool.true_and, Bool.and_false, Bool.false_and, Bool.or_true, Bool.true_or, Bool.or_false, Bool.false_or, cond_true, cond_false, List.getElem?_toArray, List.getElem?_cons_zero, List.getElem?_cons_succ, Nat.zero_add, Nat.add_zero, Nat.reduceAdd, forall_const, ld1_eq hg, ho.rd.len]
  rw [cnd_bool]
  refine ⟨fun h => hR _ _ ⟨?_, rfl⟩, fun h => hR _ _ ⟨?_, rfl⟩⟩
  · rw [Up.fin, if_neg (by rw [herr]; simp at h; intro hh; rcases hh with hh | hh; exact hh h.1; omega)]
  · rw [Up.fin, if_pos (by rw [herr]; simp at h; by_cases hh : x.e = 0; exact .inr (by simpa using h hh); exact .inl hh), herr]
theorem rRead_spec {w : World} {v : Value} {l : List UInt8} (hr : RdB w.heap v l) (hl : l.length ≤ 140737488355328) : cal P f_ref01_Read [v] w fun p w' => ∃ g G, p = .pointer (some ⟨g, 0, none⟩) ∧ IsRu w'.heap g ⟨true, l, 0⟩ G ∧ Fr [] w w' ∧ ∀ k ∈ g :: G, w.heap.size ≤ k := by
  refine s_ref01_Read fun R hR => ?_
  unfold c_ref01_Read
  refine appB ST_bytes UT_bytes (by simp) (OwnB.nil _) hr (by simpa using hl) fun s w1 G ho hf hG => ?_
  have hb : (Instr.build T_flurryref01_Unpacker #[(0, s)]).run P w1 = .ok (.agg #[s, .int .i64 0]) w1 := by
    obtain ⟨a, c, rfl⟩ := Own.slice ho
    kernel_rfl
  rw [rdP_eq hb]
  refine bx_i fun w2 g hg hg2 hf2 => ?_
  have hGg : g ∉ G := fun hm => by have := Own.lt ho g hm; omega
  refine hR _ _ ⟨g, G, rfl, ⟨s, _, hg2, by simpa using ho.fr hf2 (by simp), hGg, rfl, by simp; omega⟩, hf.trans hf2 (by simp) (by simp), fun k hk => ?_⟩
  have hs := hf.size
  rcases List.mem_cons.1 hk with rfl | hk
  · omega
  · rcases hG k hk with h | h
    · simp at h
    · exact h
end Go.Fx
