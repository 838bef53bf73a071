/-
  More that the statements of this chapter share.
-/
import Derived.Test.YtamjngkjpalchaaPkD
import Derived.Test.YtamjngkjpalchaaLwC
set_option linter.unusedVariables false
set_option linter.unusedSimpArgs false
namespace Go.Fx
theorem Pk.add_made (x : Pk) (b : List UInt8) : (x.add b).made = x.made := by
  unfold Pk.add
  repeat' split
  all_goals rfl
theorem Pk.add_limit (x : Pk) (b : List UInt8) : (x.add b).limit = x.limit := by
  unfold Pk.add
  repeat' split
  all_goals rfl
theorem Pk.item_made (x : Pk) (i : It) : (x.item i).made = x.made := by
  unfold Pk.item Pk.text
  repeat' split
  all_goals first | exact Pk.add_made _ _ | rfl
theorem Pk.item_limit (x : Pk) (i : It) : (x.item i).limit = x.limit := by
  unfold Pk.item Pk.text
  repeat' split
  all_goals first | exact Pk.add_limit _ _ | rfl
/-- An item of the argument is put. -/
theorem put_item {w0 w : World} {p : Value} {x : Pk} {F : List Nat} {it : It × Value} (hp : IsPk w.heap p x F) (hx : x.Ok) (hf : Fr [] w0 w) (hF : ∀ k ∈ F, w0.heap.size ≤ k) (hit : ItOk w0.heap it) (hb : it.1.b.length ≤ 200000) :
    cal P f_law01_put [p, .agg (itc it).toArray] w fun v w' => v = .tuple #[] ∧ ∃ F', IsPk w'.heap p (x.item it.1) F' ∧ Fr F w w' ∧ Grew w F F' ∧ Fr [] w0 w' ∧ (∀ k ∈ F', w0.heap.size ≤ k) := by
  have hok := hit.fr hf
  refine cal_i (put1_spec (i := it.1) hp hx hok.1 (hit.1.off hF) (by omega) hok.2.1 hok.2.2.1) ?_
  rintro _ w' ⟨rfl, F', h1, h2, h3⟩
  exact ⟨rfl, F', h1, h2, h3, hf.new h2 hF, h3.above hf.size hF⟩
def Pk.out (x : Pk) : List UInt8 := if x.err = 0 then x.b else []
theorem Out_any {w : World} {p : Value} {x : Pk} {F : List Nat} (hp : IsPk w.heap p x F) (hs : x.Sm) : cal P f_pack_Packer_Out [p] w fun v w' =>
    ∃ s, v = .tuple #[s, .int .i64 x.err] ∧ RdB w'.heap s x.out ∧ Fr [] w w' ∧ ∀ G : List Nat, (∀ k ∈ G, w.heap.size ≤ k → w'.heap.size ≤ k) → Off s G := by
  have hs' : x.b.length ≤ 8192 := hs
  refine cal_i (Out_spec hp (by omega)) ?_
  rintro v w' ⟨hf, ⟨he, s, g, rfl, ho, hg⟩ | ⟨he, rfl⟩⟩
  · refine ⟨s, by rw [he], by rw [Pk.out, if_pos he]; exact ho.rd, hf, fun G hG => Own.off ho ?_⟩
    intro k hk hm
    simp at hk
    subst hk
    have h1 := hG k hm hg
    have h2 := Own.lt ho k (by simp)
    omega
  · exact ⟨_, rfl, by rw [Pk.out, if_neg he]; exact RdB.nil _ _, hf, fun G _ => by intro g o n c h; cases h⟩
theorem Clone_spec {w : World} {v : Value} {l : List UInt8} (hr : RdB w.heap v l) (hl : l.length ≤ 140737488355328) : cal P f_bytes_Clone [v] w fun r w' => ∃ F, OwnB w'.heap r l F ∧ Fr [] w w' ∧ ∀ k ∈ F, w.heap.size ≤ k := by
  refine s_bytes_Clone fun R hR => ?_
  unfold c_bytes_Clone
  have hr' := hr
  obtain ⟨a, c, rfl, hll, hh⟩ := hr'
  rw [nilS_mk]
  cases a with
  | none =>
    simp only [nilc_some, fad_mk, pik_true, pik_false, cnd_true, cnd_false, gif_same, gif_tf, gif_ft, gif_undef, bi_add, bi_sub, bi_mul, bi_eql, bi_neq, bi_lss, bi_leq, bi_gtr, bi_geq, notB_bool, cvi_int, lenS_mk, lenT_mk, ext0, ext1, ext2, nilP_mk, nilS_mk, fldv_agg, jn0_k, jn1_k, jn2_k, jn1_and, jn1_or, ex_some, Option.isNone_some, Option.isNone_none, Bool.false_bne, Bool.bne_true, Bool.bne_false, Bool.true_bne, Bool.not_true, Bool.not_false, Bool.and_true, Bool.true_and, Bool.and_false, Bool.false_and, Bool.or_true, Bool.true_or, Bool.or_false, Bool.false_or, cond_true, cond_false, List.getElem?_toArray, List.getElem?_cons_zero, List.getElem?_cons_succ, Nat.zero_add, Nat.add_zero, Nat.reduceAdd, forall_const]
    have h0 : l = [] := by
      rcases hh with h0 | ⟨_, _, _, _, _, h, _⟩
      · exact List.eq_nil_of_length_eq_zero (by omega)
      · cases h
    subst h0
    exact hR _ _ ⟨[], OwnB.nil _, Fr.refl _ _, by simp⟩
  | some a =>
    simp only [nilc_some, fad_mk, pik_true, pik_false, cnd_true, cnd_false, gif_same, gif_tf, gif_ft, gif_undef, bi_add, bi_sub, bi_mul, bi_eql, bi_neq, bi_lss, bi_leq, bi_gtr, bi_geq, notB_bool, cvi_int, lenS_mk, lenT_mk, ext0, ext1, ext2, nilP_mk, nilS_mk, fldv_agg, jn0_k, jn1_k, jn2_k, jn1_and, jn1_or, ex_some, Option.isNone_some, Option.isNone_none, Bool.false_bne, Bool.bne_true, Bool.bne_false, Bool.true_bne, Bool.not_true, Bool.not_false, Bool.and_true, Bool.true_and, Bool.and_false, Bool.false_and, Bool.or_true, Bool.true_or, Bool.or_false, Bool.false_or, cond_true, cond_false, List.getElem?_toArray, List.getElem?_cons_zero, List.getElem?_cons_succ, Nat.zero_add, Nat.add_zero, Nat.reduceAdd, forall_const]
    have hb : (Instr.buildSlice T_sl_uint8 0 #[]).run P w = .ok (.slice (some ⟨w.heap.size, 0, none⟩) 0 0) (w.alloc (.cells (bvs []).toArray T_uint8)) := by kernel_rfl
    refine buildB (l := []) rfl hb fun w1 g hg ho hf => ?_
    refine appB ST_bytes UT_bytes (by simp) ho (hr.fr hf (off_nil _)) (by simpa using hl) fun s w2 F ho2 hf2 hG => ?_
    refine hR _ _ ⟨F, by simpa using ho2, hf.trans hf2 (by simp) (by simp; omega), fun k hk => ?_⟩
    have h1 := hG k hk
    have h2 := hf.size
    simp at h1
    omega
end Go.Fx
