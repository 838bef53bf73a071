/-
  Law 8: acts on both tapes; what of package bytes is called.
-/
import Derived.Test.YtiipcclmmhkggaaLw8A
set_option linter.unusedVariables false
set_option linter.unusedSimpArgs false
namespace Go.Fx
theorem bClone_spec {w : World} {v : Value} {l : List UInt8} (hb : RdB w.heap v l) (hl : l.length ≤ 140737488355328) : cal P f_bytes_Clone [v] w fun r w' => Sep w w' [ownB r l] := by
  refine s_bytes_Clone fun R hR => ?_
  unfold c_bytes_Clone
  obtain ⟨a, c, hv, hl', hh⟩ := id hb
  subst hv
  cases a with
  | none =>
    have h0 : l = [] := by
      rcases hh with h0 | ⟨_, _, _, _, _, h, _⟩
      · exact List.eq_nil_of_length_eq_zero (by omega)
      · cases h
    subst h0
    simp only [nilc_some, fad_mk, pik_true, pik_false, cnd_true, cnd_false, gif_same, gif_tf, gif_ft, gif_undef, bi_add, bi_sub, bi_mul, bi_eql, bi_neq, bi_lss, bi_leq, bi_gtr, bi_geq, notB_bool, cvi_int, lenS_mk, lenT_mk, ext0, ext1, ext2, nilP_mk, nilS_mk, fldv_agg, jn0_k, jn1_k, jn2_k, jn1_and, jn1_or, ex_some, Option.isNone_some, Option.isNone_none, Bool.false_bne, Bool.bne_true, Bool.bne_false, Bool.true_bne, Bool.not_true, Bool.not_false, Bool.and_true, Bool.true_and, Bool.and_false, Bool.false_and, Bool.or_true, Bool.true_or, Bool.or_false, Bool.false_or, cond_true, cond_false, List.getElem?_toArray, List.getElem?_cons_zero, List.getElem?_cons_succ, Nat.zero_add, Nat.add_zero, Nat.reduceAdd, forall_const]
    exact hR _ _ (Sep.start w).nil
  | some a =>
    simp only [nilc_some, fad_mk, pik_true, pik_false, cnd_true, cnd_false, gif_same, gif_tf, gif_ft, gif_undef, bi_add, bi_sub, bi_mul, bi_eql, bi_neq, bi_lss, bi_leq, bi_gtr, bi_geq, notB_bool, cvi_int, lenS_mk, lenT_mk, ext0, ext1, ext2, nilP_mk, nilS_mk, fldv_agg, jn0_k, jn1_k, jn2_k, jn1_and, jn1_or, ex_some, Option.isNone_some, Option.isNone_none, Bool.false_bne, Bool.bne_true, Bool.bne_false, Bool.true_bne, Bool.not_true, Bool.not_false, Bool.and_true, Bool.true_and, Bool.and_false, Bool.false_and, Bool.or_true, Bool.true_or, Bool.or_false, Bool.false_or, cond_true, cond_false, List.getElem?_toArray, List.getElem?_cons_zero, List.getElem?_cons_succ, Nat.zero_add, Nat.add_zero, Nat.reduceAdd, forall_const]
    have hb1 : ∀ w : World, (Instr.buildSlice T_sl_uint8 0 #[]).run P w = .ok (.slice (some ⟨w.heap.size, 0, none⟩) 0 0) (w.alloc (.cells (bvs []).toArray T_uint8)) := fun w => by kernel_rfl
    refine buildB_s (l := []) (Sep.start w) rfl (hb1 _) fun g w1 hs => ?_
    refine appB_s ST_bytes UT_bytes (by simp) hs (hs.rdB hb) (by simp; omega) fun v' w2 hs => ?_
    exact hR _ _ (by simpa using hs)
theorem HasPrefix_spec {w : World} {x y : Value} {a b : List UInt8} (hx : RdB w.heap x a) (hc : capOk x) (hy : RdB w.heap y b) : cal P f_bytes_HasPrefix [x, y] w fun v w' => v = .bool (decide (b.length ≤ a.length) && a.take b.length == b) ∧ w = w' := by
  refine s_bytes_HasPrefix fun R hR => ?_
  unfold c_bytes_HasPrefix
  simp only [nilc_some, fad_mk, pik_true, pik_false, cnd_true, cnd_false, gif_same, gif_tf, gif_ft, gif_undef, bi_add, bi_sub, bi_mul, bi_eql, bi_neq, bi_lss, bi_leq, bi_gtr, bi_geq, notB_bool, cvi_int, lenS_mk, lenT_mk, ext0, ext1, ext2, nilP_mk, nilS_mk, fldv_agg, jn0_k, jn1_k, jn2_k, jn1_and, jn1_or, ex_some, Option.isNone_some, Option.isNone_none, Bool.false_bne, Bool.bne_true, Bool.bne_false, Bool.true_bne, Bool.not_true, Bool.not_false, Bool.and_true, Bool.true_and, Bool.and_false, Bool.false_and, Bool.or_true, Bool.true_or, Bool.or_false, Bool.false_or, cond_true, cond_false, List.getElem?_toArray, List.getElem?_cons_zero, List.getElem?_cons_succ, Nat.zero_add, Nat.add_zero, Nat.reduceAdd, forall_const, hx.len, hy.len]
  obtain ⟨ax, cx, rfl⟩ := hx.form
  have hcap := hc _ _ _ rfl
  by_cases h : b.length ≤ a.length
  · have h' : decide ((b.length : Int) ≤ a.length) = true := by simp; omega
    simp only [nilc_some, fad_mk, pik_true, pik_false, cnd_true, cnd_false, gif_same, gif_tf, gif_ft, gif_undef, bi_add, bi_sub, bi_mul, bi_eql, bi_neq, bi_lss, bi_leq, bi_gtr, bi_geq, notB_bool, cvi_int, lenS_mk, lenT_mk, ext0, ext1, ext2, nilP_mk, nilS_mk, fldv_agg, jn0_k, jn1_k, jn2_k, jn1_and, jn1_or, ex_some, Option.isNone_some, Option.isNone_none, Bool.false_bne, Bool.bne_true, Bool.bne_false, Bool.true_bne, Bool.not_true, Bool.not_false, Bool.and_true, Bool.true_and, Bool.and_false, Bool.false_and, Bool.or_true, Bool.true_or, Bool.or_false, Bool.false_or, cond_true, cond_false, List.getElem?_toArray, List.getElem?_cons_zero, List.getElem?_cons_succ, Nat.zero_add, Nat.add_zero, Nat.reduceAdd, forall_const, h']
    refine jn1_dup ?_
    rw [slc_to (by omega)]
    refine cal_i (Equal_spec (hx.take h cx) hy) ?_
    rintro _ _ ⟨rfl, rfl⟩
    simp only [nilc_some, fad_mk, pik_true, pik_false, cnd_true, cnd_false, gif_same, gif_tf, gif_ft, gif_undef, bi_add, bi_sub, bi_mul, bi_eql, bi_neq, bi_lss, bi_leq, bi_gtr, bi_geq, notB_bool, cvi_int, lenS_mk, lenT_mk, ext0, ext1, ext2, nilP_mk, nilS_mk, fldv_agg, jn0_k, jn1_k, jn2_k, jn1_and, jn1_or, ex_some, Option.isNone_some, Option.isNone_none, Bool.false_bne, Bool.bne_true, Bool.bne_false, Bool.true_bne, Bool.not_true, Bool.not_false, Bool.and_true, Bool.true_and, Bool.and_false, Bool.false_and, Bool.or_true, Bool.true_or, Bool.or_false, Bool.false_or, cond_true, cond_false, List.getElem?_toArray, List.getElem?_cons_zero, List.getElem?_cons_succ, Nat.zero_add, Nat.add_zero, Nat.reduceAdd, forall_const]
    exact hR _ _ ⟨by simp [h], rfl⟩
  · have h' : decide ((b.length : Int) ≤ a.length) = false := by simp; omega
    simp only [nilc_some, fad_mk, pik_true, pik_false, cnd_true, cnd_false, gif_same, gif_tf, gif_ft, gif_undef, bi_add, bi_sub, bi_mul, bi_eql, bi_neq, bi_lss, bi_leq, bi_gtr, bi_geq, notB_bool, cvi_int, lenS_mk, lenT_mk, ext0, ext1, ext2, nilP_mk, nilS_mk, fldv_agg, jn0_k, jn1_k, jn2_k, jn1_and, jn1_or, ex_some, Option.isNone_some, Option.isNone_none, Bool.false_bne, Bool.bne_true, Bool.bne_false, Bool.true_bne, Bool.not_true, Bool.not_false, Bool.and_true, Bool.true_and, Bool.and_false, Bool.false_and, Bool.or_true, Bool.true_or, Bool.or_false, Bool.false_or, cond_true, cond_false, List.getElem?_toArray, List.getElem?_cons_zero, List.getElem?_cons_succ, Nat.zero_add, Nat.add_zero, Nat.reduceAdd, forall_const, h']
    exact hR _ _ ⟨by simp [h], rfl⟩
theorem joined_drop {l : List (Sl UInt8)} {k : Nat} {a : Sl UInt8} (h : l[k]? = some a) : joined l = joined (l.take k) ++ a.l ++ joined (l.drop (k + 1)) := by
  rw [← joined_take_succ h]
  unfold joined
  rw [← List.flatMap_append, List.take_append_drop]
theorem Join_spec {w : World} {s : Sl (Sl UInt8)} (hv : R_sl_sl_uint8.ok w.heap s) (hl : (joined s.l).length ≤ 140737488355328) : cal P f_bytes_Join [s.v, .slice none 0 0] w fun r w' => Sep w w' [ownB r (joined s.l)] := by
  refine s_bytes_Join fun R hR => ?_
  unfold c_bytes_Join
  have hlen := hv.2.1
  simp only [nilc_some, fad_mk, pik_true, pik_false, cnd_true, cnd_false, gif_same, gif_tf, gif_ft, gif_undef, bi_add, bi_sub, bi_mul, bi_eql, bi_neq, bi_lss, bi_leq, bi_gtr, bi_geq, notB_bool, cvi_int, lenS_mk, lenT_mk, ext0, ext1, ext2, nilP_mk, nilS_mk, fldv_agg, jn0_k, jn1_k, jn2_k, jn1_and, jn1_or, ex_some, Option.isNone_some, Option.isNone_none, Bool.false_bne, Bool.bne_true, Bool.bne_false, Bool.true_bne, Bool.not_true, Bool.not_false, Bool.and_true, Bool.true_and, Bool.and_false, Bool.false_and, Bool.or_true, Bool.true_or, Bool.or_false, Bool.false_or, cond_true, cond_false, List.getElem?_toArray, List.getElem?_cons_zero, List.getElem?_cons_succ, Nat.zero_add, Nat.add_zero, Nat.reduceAdd, forall_const, rSl_len hv]
  rw [cnd_bool]
  refine ⟨fun h => ?_, fun h => ?_⟩
  · have h0 : s.l = [] := List.eq_nil_of_length_eq_zero (by simp at h; simp [h])
    have hb1 : ∀ w : World, (Instr.buildSlice T_sl_uint8 0 #[]).run P w = .ok (.slice (some ⟨w.heap.size, 0, none⟩) 0 0) (w.alloc (.cells (bvs []).toArray T_uint8)) := fun w => by kernel_rfl
    refine buildB_s (l := []) (Sep.start w) rfl (hb1 _) fun g w1 hs => ?_
    exact hR _ _ (by rw [h0]; exact hs)
  have hn0 : s.l.length ≠ 0 := by simp at h; simpa using h
  obtain ⟨a0, ha0⟩ : ∃ a, s.l[0]? = some a := ⟨_, List.getElem?_eq_getElem (by omega)⟩
  have hj0 := joined_drop ha0
  have hjl0 := congrArg List.length hj0
  simp only [List.length_append] at hjl0
  rw [cnd_bool]
  refine ⟨fun h => ?_, fun h => ?_⟩
  · have h1 : s.l.length = 1 := by simp at h; omega
    refine rSl_ld1 (j := 0) hv ha0 rfl ?_
    refine appB_s ST_bytes UT_bytes (by simp) (Sep.start w).nil (rSl_ok hv ha0).1 (by simp; omega) fun v' w1 hs => ?_
    refine hR _ _ ?_
    have : joined s.l = [] ++ a0.l := by
      rw [hj0, List.drop_of_length_le (by omega)]
      simp [joined]
    rw [this]
    exact hs
  have hn1 : 2 ≤ s.l.length := by simp at h; omega
  have h00 : decide ((0 : Int) < ((0 : Nat) : Int)) = false := by simp
  simp only [nilc_some, fad_mk, pik_true, pik_false, cnd_true, cnd_false, gif_same, gif_tf, gif_ft, gif_undef, bi_add, bi_sub, bi_mul, bi_eql, bi_neq, bi_lss, bi_leq, bi_gtr, bi_geq, notB_bool, cvi_int, lenS_mk, lenT_mk, ext0, ext1, ext2, nilP_mk, nilS_mk, fldv_agg, jn0_k, jn1_k, jn2_k, jn1_and, jn1_or, ex_some, Option.isNone_some, Option.isNone_none, Bool.false_bne, Bool.bne_true, Bool.bne_false, Bool.true_bne, Bool.not_true, Bool.not_false, Bool.and_true, Bool.true_and, Bool.and_false, Bool.false_and, Bool.or_true, Bool.true_or, Bool.or_false, Bool.false_or, cond_true, cond_false, List.getElem?_toArray, List.getElem?_cons_zero, List.getElem?_cons_succ, Nat.zero_add, Nat.add_zero, Nat.reduceAdd, forall_const, h00]
  refine ⟨fun y i w' => ∃ k : Nat, w' = w ∧ k ≤ s.l.length ∧ i = .int .i64 k ∧ y = .int .i64 (joined (s.l.take k)).length, fun _ i _ => (s.l.length - RowKit.intOf i).toNat, ⟨0, rfl, by omega, rfl, by simp [joined]⟩, ?_⟩
  rintro _ _ w ⟨k, rfl, hk, rfl, rfl⟩ -
  simp only [nilc_some, fad_mk, pik_true, pik_false, cnd_true, cnd_false, gif_same, gif_tf, gif_ft, gif_undef, bi_add, bi_sub, bi_mul, bi_eql, bi_neq, bi_lss, bi_leq, bi_gtr, bi_geq, notB_bool, cvi_int, lenS_mk, lenT_mk, ext0, ext1, ext2, nilP_mk, nilS_mk, fldv_agg, jn0_k, jn1_k, jn2_k, jn1_and, jn1_or, ex_some, Option.isNone_some, Option.isNone_none, Bool.false_bne, Bool.bne_true, Bool.bne_false, Bool.true_bne, Bool.not_true, Bool.not_false, Bool.and_true, Bool.true_and, Bool.and_false, Bool.false_and, Bool.or_true, Bool.true_or, Bool.or_false, Bool.false_or, cond_true, cond_false, List.getElem?_toArray, List.getElem?_cons_zero, List.getElem?_cons_succ, Nat.zero_add, Nat.add_zero, Nat.reduceAdd, forall_const]
  rw [cnd_bool]
  refine ⟨fun h => ?_, fun h => ?_⟩
  · have hlt : k < s.l.length := by simpa using h
    obtain ⟨a, ha⟩ : ∃ a, s.l[k]? = some a := ⟨_, List.getElem?_eq_getElem hlt⟩
    have hak := rSl_ok hv ha
    refine rSl_ld1 hv ha rfl ?_
    have hle := joined_take_le s.l (k + 1)
    have hj := joined_take_succ ha
    have hjl := congrArg List.length hj
    rw [List.length_append] at hjl
    have e1 : IntKind.i64.wrap (9223372036854775807 - ((joined (s.l.take k)).length : Int)) = 9223372036854775807 - ((joined (s.l.take k)).length : Int) := wi64 (by omega) (by omega)
    have e2 : decide (9223372036854775807 - ((joined (s.l.take k)).length : Int) < (a.l.length : Int)) = false := by simp; omega
    simp only [nilc_some, fad_mk, pik_true, pik_false, cnd_true, cnd_false, gif_same, gif_tf, gif_ft, gif_undef, bi_add, bi_sub, bi_mul, bi_eql, bi_neq, bi_lss, bi_leq, bi_gtr, bi_geq, notB_bool, cvi_int, lenS_mk, lenT_mk, ext0, ext1, ext2, nilP_mk, nilS_mk, fldv_agg, jn0_k, jn1_k, jn2_k, jn1_and, jn1_or, ex_some, Option.isNone_some, Option.isNone_none, Bool.false_bne, Bool.bne_true, Bool.bne_false, Bool.true_bne, Bool.not_true, Bool.not_false, Bool.and_true, Bool.true_and, Bool.and_false, Bool.false_and, Bool.or_true, Bool.true_or, Bool.or_false, Bool.false_or, cond_true, cond_false, List.getElem?_toArray, List.getElem?_cons_zero, List.getElem?_cons_succ, Nat.zero_add, Nat.add_zero, Nat.reduceAdd, forall_const, rBytes_len hak, e1, e2]
    rw [wi64 (by omega) (by omega), wi64 (by omega) (by omega)]
    exact ⟨⟨k + 1, by simp, by omega, by simp, by congr 1; omega⟩, by simp [RowKit.intOf]; omega⟩
  have hkl : k = s.l.length := by simp at h; omega
  subst hkl
  rw [List.take_length]
  generalize hall : joined s.l = all at *
  have hs : (P.funcs[f_internal_bytealg_MakeNoZero]?).isSome = true := by kernel_rfl
  have hf : P.funcs[f_internal_bytealg_MakeNoZero]? = some ((P.funcs[f_internal_bytealg_MakeNoZero]?).get hs) := (Option.some_get hs).symm
  refine noZero_s (ps := #[T_int]) (Sep.start w) UT_bytes hf (by kernel_rfl) (by kernel_rfl) (fun xs => by
    rw [run_callFunc_extern (e := Extern.BytealgMakeNoZero.makeNoZero #[T_int] #[T_sl_uint8]) hf (by kernel_rfl) (by kernel_rfl) (by kernel_rfl) (by kernel_rfl)]) (by omega) fun g c cs w1 hs1 hc => ?_
  rw [slc3 UT_bytes ST_bytes.siz hc]
  have hv1 := R_sl_sl_uint8.fr hv hs1.fr0
  refine rSl_ld1 (j := 0) hv1 ha0 rfl ?_
  have hs1' : Sep w w1 [own (.slice (some ⟨g, 0, none⟩) all.length all.length) 1 all.length cs] := by
    obtain ⟨F, hF, hu⟩ := hs1.upd
    refine hu w1 F _ ?_ (Fr.refl _ _) (Grew.refl _ _)
    obtain ⟨h1, ⟨h2, h3, h4⟩ | ⟨g', o, cap, cur, E, hv', hn, hg, hfit, hcs, rfl⟩⟩ := hF
    · cases h2
    · cases hv'
      exact ⟨h1, .inr ⟨g, 0, _, cur, E, rfl, Nat.le_refl _, hg, by omega, hcs, rfl⟩⟩
  obtain ⟨F1, hF1, hu1⟩ := hs1'.upd
  have hcp : ∀ K : Value → World → Prop, (∀ w2, Sep w w2 [own (.slice (some ⟨g, 0, none⟩) all.length all.length) 1 all.length (bvs a0.l ++ cs.drop a0.l.length)] → K (.int .i64 a0.l.length) w2) →
      efP P (Builtin.copy_ #[T_sl_uint8, T_sl_uint8] T_int #[.slice (some ⟨g, 0, none⟩) all.length all.length, a0.v]) w1 K := fun K hK => by
    have := cpy_at (P := P) (k := 0) (ty := T_int) (tx := T_sl_uint8) ST_bytes hF1 (by omega) (rSl_ok hv1 ha0).1 (by omega) (bvs_one _) (K := K) fun w2 h1 h2 => hK w2 (by
      simp only [Nat.zero_mul, List.take_zero, List.nil_append, Nat.zero_add, Nat.mul_one] at h1
      exact hu1 w2 F1 _ h1 h2 (Grew.refl _ _))
    have e : (if all.length = 0 then (some ⟨g, 0, none⟩ : Option Addr) else (some ⟨g, 0, none⟩ : Option Addr).map (·.add (0 * 1))) = some ⟨g, 0, none⟩ := by
      split
      · rfl
      · simp [Addr_add_mk]
    rw [e] at this
    simpa using this
  refine hcp _ fun w2 hs2 => ?_
  obtain ⟨ap, ac, hsv, hcap⟩ := rSl_form hv
  rw [hsv, show (1 : Int) = ((1 : Nat) : Int) from rfl, slc_from (by omega)]
  have hdrop : ∀ w', Fr [] w w' → R_sl_sl_uint8.ok w'.heap ⟨.slice (if ac = 1 then ap else ap.map (·.add (1 * 1))) (s.l.length - 1) (ac - 1), s.l.drop 1⟩ := fun w' hf' => by
    have hv' := R_sl_sl_uint8.fr hv hf'
    obtain ⟨h1, h2, h3, h4⟩ := hv'
    refine ⟨?_, by simp; omega, fun a' n' c' he => by cases he; omega, fun x hx => h4 x (List.mem_of_mem_drop hx)⟩
    rw [hsv] at h1
    have := Cel.drop (k := 1) h1 (by omega) hcap (ac - 1)
    show Cel w'.heap _ 1 (s.l.drop 1).length ((s.l.drop 1).flatMap rBytes.cells)
    rw [List.length_drop]
    have e : (s.l.drop 1).flatMap rBytes.cells = (s.l.flatMap rBytes.cells).drop (1 * 1) := by
      conv => rhs; rw [← List.take_append_drop 1 s.l, List.flatMap_append]
      rw [List.drop_left' (by rw [parts_length (s := 1) (fun a => rfl)]; simp; omega)]
    rw [e]
    exact this
  simp only [lenS_mk]
  refine ⟨fun y i w' => ∃ k : Nat, k ≤ s.l.length - 1 ∧ i = .int .i64 k ∧ y = .int .i64 (joined (s.l.take (k + 1))).length ∧
      Sep w w' [own (.slice (some ⟨g, 0, none⟩) all.length all.length) 1 all.length (bvs (joined (s.l.take (k + 1))) ++ cs.drop (joined (s.l.take (k + 1))).length)],
    fun _ i _ => (s.l.length - RowKit.intOf i).toNat, ⟨0, by omega, rfl, ?_, ?_⟩, ?_⟩
  · have : joined (s.l.take (0 + 1)) = a0.l := by rw [joined_take_succ ha0]; simp [joined]
    rw [this]
  · have : joined (s.l.take (0 + 1)) = a0.l := by rw [joined_take_succ ha0]; simp [joined]
    rw [this]
    exact hs2
  rintro _ _ w3 ⟨k, hk, rfl, rfl, hs3⟩ -
  simp only [nilc_some, fad_mk, pik_true, pik_false, cnd_true, cnd_false, gif_same, gif_tf, gif_ft, gif_undef, bi_add, bi_sub, bi_mul, bi_eql, bi_neq, bi_lss, bi_leq, bi_gtr, bi_geq, notB_bool, cvi_int, lenS_mk, lenT_mk, ext0, ext1, ext2, nilP_mk, nilS_mk, fldv_agg, jn0_k, jn1_k, jn2_k, jn1_and, jn1_or, ex_some, Option.isNone_some, Option.isNone_none, Bool.false_bne, Bool.bne_true, Bool.bne_false, Bool.true_bne, Bool.not_true, Bool.not_false, Bool.and_true, Bool.true_and, Bool.and_false, Bool.false_and, Bool.or_true, Bool.true_or, Bool.or_false, Bool.false_or, cond_true, cond_false, List.getElem?_toArray, List.getElem?_cons_zero, List.getElem?_cons_succ, Nat.zero_add, Nat.add_zero, Nat.reduceAdd, forall_const]
  rw [cnd_bool]
  refine ⟨fun h => ?_, fun h => ?_⟩
  · have hlt : k < s.l.length - 1 := by simp at h; omega
    obtain ⟨a, ha⟩ : ∃ a, s.l[k + 1]? = some a := ⟨_, List.getElem?_eq_getElem (by omega)⟩
    have had : (s.l.drop 1)[k]? = some a := by rw [List.getElem?_drop, Nat.add_comm]; exact ha
    refine rSl_ld1 (hdrop w3 hs3.fr0) had rfl ?_
    have hj := joined_take_succ ha
    have hjd := joined_drop ha
    rw [hall] at hjd
    have hjl := congrArg List.length hj
    have hjdl := congrArg List.length hjd
    rw [List.length_append] at hjl
    simp only [List.length_append] at hjdl
    generalize hJ : joined (s.l.take (k + 1)) = J at *
    rw [slc_from (by omega)]
    obtain ⟨F3, hF3, hu3⟩ := hs3.upd
    have hcl : cs.length = all.length := by obtain ⟨F, hF⟩ := hs1'.head; simpa using hF.1
    refine cpy_at (P := P) (k := J.length) ST_bytes hF3 (by omega) (RdB.nil w3.heap 0 : Cel _ _ _ _ _) (by simp) (by simp [bvs]) fun w4 h1 h2 => ?_
    have hs4 := hu3 w4 F3 (own _ _ _ _) h1 h2 (Grew.refl _ _)
    clear h1 h2 hu3
    simp only [nilc_some, fad_mk, pik_true, pik_false, cnd_true, cnd_false, gif_same, gif_tf, gif_ft, gif_undef, bi_add, bi_sub, bi_mul, bi_eql, bi_neq, bi_lss, bi_leq, bi_gtr, bi_geq, notB_bool, cvi_int, lenS_mk, lenT_mk, ext0, ext1, ext2, nilP_mk, nilS_mk, fldv_agg, jn0_k, jn1_k, jn2_k, jn1_and, jn1_or, ex_some, Option.isNone_some, Option.isNone_none, Bool.false_bne, Bool.bne_true, Bool.bne_false, Bool.true_bne, Bool.not_true, Bool.not_false, Bool.and_true, Bool.true_and, Bool.and_false, Bool.false_and, Bool.or_true, Bool.true_or, Bool.or_false, Bool.false_or, cond_true, cond_false, List.getElem?_toArray, List.getElem?_cons_zero, List.getElem?_cons_succ, Nat.zero_add, Nat.add_zero, Nat.reduceAdd, forall_const, Nat.mul_one, bvs_length, List.length_nil, List.append_nil] at hs4 ⊢
    have eJ : List.take J.length (bvs J ++ List.drop J.length cs) ++ bvs [] ++ List.drop J.length (bvs J ++ List.drop J.length cs) = bvs J ++ List.drop J.length cs := by
      simp [bvs]
    rw [eJ] at hs4
    rw [show IntKind.i64.wrap ((J.length : Int) + ((0 : Nat) : Int)) = (J.length : Int) by rw [wi64 (by omega) (by omega)]; omega]
    rw [slc_from (by omega)]
    obtain ⟨F4, hF4, hu4⟩ := hs4.upd
    have hak4 := rSl_ok (hdrop w4 hs4.fr0) had
    refine cpy_at (P := P) (k := J.length) ST_bytes hF4 (by omega) hak4.1 (by omega) (bvs_one _) fun w5 h1 h2 => ?_
    have hs5 := hu4 w5 F4 (own _ _ _ _) h1 h2 (Grew.refl _ _)
    simp only [nilc_some, fad_mk, pik_true, pik_false, cnd_true, cnd_false, gif_same, gif_tf, gif_ft, gif_undef, bi_add, bi_sub, bi_mul, bi_eql, bi_neq, bi_lss, bi_leq, bi_gtr, bi_geq, notB_bool, cvi_int, lenS_mk, lenT_mk, ext0, ext1, ext2, nilP_mk, nilS_mk, fldv_agg, jn0_k, jn1_k, jn2_k, jn1_and, jn1_or, ex_some, Option.isNone_some, Option.isNone_none, Bool.false_bne, Bool.bne_true, Bool.bne_false, Bool.true_bne, Bool.not_true, Bool.not_false, Bool.and_true, Bool.true_and, Bool.and_false, Bool.false_and, Bool.or_true, Bool.true_or, Bool.or_false, Bool.false_or, cond_true, cond_false, List.getElem?_toArray, List.getElem?_cons_zero, List.getElem?_cons_succ, Nat.zero_add, Nat.add_zero, Nat.reduceAdd, forall_const]
    rw [wi64 (by omega) (by omega), wi64 (by omega) (by omega)]
    refine ⟨⟨k + 1, by omega, by simp, by rw [hj]; simp, ?_⟩, by simp [RowKit.intOf]; omega⟩
    rw [hj]
    have e5 : List.take (J.length * 1) (bvs J ++ List.drop J.length cs) ++ bvs a.l ++ List.drop ((J.length + a.l.length) * 1) (bvs J ++ List.drop J.length cs) = bvs (J ++ a.l) ++ List.drop (J ++ a.l).length cs := by
      rw [Nat.mul_one, Nat.mul_one, List.take_left' (bvs_length J), ← List.drop_drop, List.drop_left' (bvs_length J), bvs_append, List.drop_drop, List.length_append]
    rw [e5] at hs5
    exact hs5
  · have hkl : k = s.l.length - 1 := by simp at h; omega
    subst hkl
    rw [show s.l.length - 1 + 1 = s.l.length by omega, List.take_length, hall] at hs3
    have hcl : cs.length = all.length := by obtain ⟨F, hF⟩ := hs1'.head; simpa using hF.1
    rw [List.drop_of_length_le (by omega), List.append_nil] at hs3
    exact hR _ _ hs3
end Go.Fx
