/-
  What is proved: for every list of items and every cut the law PackBack returns true, and its arguments read as they did. Conditions: none.
-/
import Derived.Test.YtamjngkjpalchaaLwD
import Derived.Test.YtamjngkjpalchaaBase
set_option linter.unusedVariables false
set_option linter.unusedSimpArgs false
namespace Go.Fx
def encs (l : List (It × Value)) : List UInt8 := l.flatMap fun p => p.1.enc
theorem encs_drop {l : List (It × Value)} {i : Nat} {p : It × Value} (h : l[i]? = some p) : encs (l.drop i) = p.1.enc ++ encs (l.drop (i + 1)) := by
  obtain ⟨hl, rfl⟩ := List.getElem?_eq_some_iff.1 h
  rw [List.drop_eq_getElem_cons hl]
  rfl
theorem encs_take {l : List (It × Value)} {i : Nat} {p : It × Value} (h : l[i]? = some p) : encs (l.take (i + 1)) = encs (l.take i) ++ p.1.enc := by
  rw [List.take_add_one, h]
  simp [encs]
theorem IsUp.nilP {h : Heap} {p : Value} {x : Up} {F : List Nat} (hp : IsUp h p x F) (K : Value → Prop) : nilP false p K = K (.bool false) := by
  obtain ⟨g, s, E, G, rfl, _⟩ := hp
  rw [nilP_mk]; rfl
theorem IsPk.nilT {h : Heap} {p : Value} {x : Pk} {F : List Nat} (hp : IsPk h p x F) (K : Value → Prop) : Go.Fx.nilP true p K = K (.bool true) := by
  obtain ⟨g, s, E, G, rfl, _⟩ := hp
  rw [nilP_mk]; rfl
/-- An item of the argument is taken. -/
theorem back_item {w0 w : World} {p : Value} {x : Up} {F : List Nat} {it : It × Value} (hp : IsUp w.heap p x F) (hf : Fr [] w0 w) (hF : ∀ k ∈ F, w0.heap.size ≤ k) (hit : ItOk w0.heap it) :
    cal P f_law01_back [p, .agg (itc it).toArray] w fun v w' => v = .bool (x.back it.1).2 ∧ IsUp w'.heap p (x.back it.1).1 F ∧ Fr F w w' ∧ Fr [] w0 w' := by
  have hok := hit.fr hf
  refine cal_i (back_spec (i := it.1) hp hok.1 (hit.1.off hF) hok.2.2.2.1 hok.2.1 hok.2.2.1) ?_
  rintro _ w' ⟨rfl, h1, h2⟩
  exact ⟨rfl, h1, h2, hf.new h2 hF⟩
theorem PackBack_walk {w : World} {v : Value} {l : List (It × Value)} {cut : Nat} (hr : RdI w.heap v l) (hcut : cut < 65536) :
    cal P f_law01_PackBack [v, .int .u16 cut] w fun r w' => r = .bool true ∧ Fr [] w w' := by
  refine s_law01_PackBack fun R hR => ?_
  unfold c_law01_PackBack
  refine cal_i (New_spec 8192) ?_
  rintro a w1 ⟨A, ha1, hf1, hA⟩
  refine cal_i live_spec ?_
  rintro _ w2 ⟨rfl, hf2⟩
  have ha2 := ha1.fr hf2 (by simp)
  have hf12 := hf1.trans (H := []) hf2 (by simp) (by simp)
  simp only [nilc_some, fad_mk, pik_true, pik_false, cnd_true, cnd_false, gif_same, gif_tf, gif_ft, gif_undef, bi_add, bi_sub, bi_mul, bi_eql, bi_neq, bi_lss, bi_leq, bi_gtr, bi_geq, notB_bool, cvi_int, lenS_mk, lenT_mk, ext0, ext1, ext2, nilP_mk, nilS_mk, fldv_agg, jn0_k, jn1_k, jn2_k, jn1_and, jn1_or, ex_some, Option.isNone_some, Option.isNone_none, Bool.false_bne, Bool.bne_true, Bool.bne_false, Bool.true_bne, Bool.not_true, Bool.not_false, Bool.and_true, Bool.true_and, Bool.and_false, Bool.false_and, Bool.or_true, Bool.true_or, Bool.or_false, Bool.false_or, cond_true, cond_false, List.getElem?_toArray, List.getElem?_cons_zero, List.getElem?_cons_succ, Nat.zero_add, Nat.add_zero, Nat.reduceAdd, forall_const, ha2.nilP]
  refine jn1_dup ?_
  refine cal_i (few_spec (hr.fr hf12)) ?_
  rintro _ w3 ⟨f, rfl, hfew, hf3⟩
  have ha3 := ha2.fr hf3 (by simp)
  have hf13 := hf12.trans (H := []) hf3 (by simp) (by simp)
  simp only [nilc_some, fad_mk, pik_true, pik_false, cnd_true, cnd_false, gif_same, gif_tf, gif_ft, gif_undef, bi_add, bi_sub, bi_mul, bi_eql, bi_neq, bi_lss, bi_leq, bi_gtr, bi_geq, notB_bool, cvi_int, lenS_mk, lenT_mk, ext0, ext1, ext2, nilP_mk, nilS_mk, fldv_agg, jn0_k, jn1_k, jn2_k, jn1_and, jn1_or, ex_some, Option.isNone_some, Option.isNone_none, Bool.false_bne, Bool.bne_true, Bool.bne_false, Bool.true_bne, Bool.not_true, Bool.not_false, Bool.and_true, Bool.true_and, Bool.and_false, Bool.false_and, Bool.or_true, Bool.true_or, Bool.or_false, Bool.false_or, cond_true, cond_false, List.getElem?_toArray, List.getElem?_cons_zero, List.getElem?_cons_succ, Nat.zero_add, Nat.add_zero, Nat.reduceAdd, forall_const]
  cases f with
  | false =>
    simp only [nilc_some, fad_mk, pik_true, pik_false, cnd_true, cnd_false, gif_same, gif_tf, gif_ft, gif_undef, bi_add, bi_sub, bi_mul, bi_eql, bi_neq, bi_lss, bi_leq, bi_gtr, bi_geq, notB_bool, cvi_int, lenS_mk, lenT_mk, ext0, ext1, ext2, nilP_mk, nilS_mk, fldv_agg, jn0_k, jn1_k, jn2_k, jn1_and, jn1_or, ex_some, Option.isNone_some, Option.isNone_none, Bool.false_bne, Bool.bne_true, Bool.bne_false, Bool.true_bne, Bool.not_true, Bool.not_false, Bool.and_true, Bool.true_and, Bool.and_false, Bool.false_and, Bool.or_true, Bool.true_or, Bool.or_false, Bool.false_or, cond_true, cond_false, List.getElem?_toArray, List.getElem?_cons_zero, List.getElem?_cons_succ, Nat.zero_add, Nat.add_zero, Nat.reduceAdd, forall_const]
    refine cal_i live_spec ?_
    rintro _ w4 ⟨rfl, hf4⟩
    simp only [nilc_some, fad_mk, pik_true, pik_false, cnd_true, cnd_false, gif_same, gif_tf, gif_ft, gif_undef, bi_add, bi_sub, bi_mul, bi_eql, bi_neq, bi_lss, bi_leq, bi_gtr, bi_geq, notB_bool, cvi_int, lenS_mk, lenT_mk, ext0, ext1, ext2, nilP_mk, nilS_mk, fldv_agg, jn0_k, jn1_k, jn2_k, jn1_and, jn1_or, ex_some, Option.isNone_some, Option.isNone_none, Bool.false_bne, Bool.bne_true, Bool.bne_false, Bool.true_bne, Bool.not_true, Bool.not_false, Bool.and_true, Bool.true_and, Bool.and_false, Bool.false_and, Bool.or_true, Bool.true_or, Bool.or_false, Bool.false_or, cond_true, cond_false, List.getElem?_toArray, List.getElem?_cons_zero, List.getElem?_cons_succ, Nat.zero_add, Nat.add_zero, Nat.reduceAdd, forall_const, ha3.nilT]
    exact hR _ _ ⟨rfl, hf13.trans hf4 (by simp) (by simp)⟩
  | true =>
  obtain ⟨hl200, hlen⟩ := hfew rfl
  simp only [nilc_some, fad_mk, pik_true, pik_false, cnd_true, cnd_false, gif_same, gif_tf, gif_ft, gif_undef, bi_add, bi_sub, bi_mul, bi_eql, bi_neq, bi_lss, bi_leq, bi_gtr, bi_geq, notB_bool, cvi_int, lenS_mk, lenT_mk, ext0, ext1, ext2, nilP_mk, nilS_mk, fldv_agg, jn0_k, jn1_k, jn2_k, jn1_and, jn1_or, ex_some, Option.isNone_some, Option.isNone_none, Bool.false_bne, Bool.bne_true, Bool.bne_false, Bool.true_bne, Bool.not_true, Bool.not_false, Bool.and_true, Bool.true_and, Bool.and_false, Bool.false_and, Bool.or_true, Bool.true_or, Bool.or_false, Bool.false_or, cond_true, cond_false, List.getElem?_toArray, List.getElem?_cons_zero, List.getElem?_cons_succ, Nat.zero_add, Nat.add_zero, Nat.reduceAdd, forall_const]
  rw [hr.len]
  refine ⟨fun y w' => ∃ (i : Nat) (x : Pk) (A : List Nat), i ≤ l.length ∧ y = .int .i64 i ∧ x.Ok ∧ x.Sm ∧ x.made = true ∧ (x.e = 10 ∨ x.e = 3 ∨ (x.e = 0 ∧ x.b = encs (l.take i) ∧ ∀ p ∈ l.take i, p.1.fine)) ∧ IsPk w'.heap a x A ∧ (∀ k ∈ A, w.heap.size ≤ k) ∧ Fr [] w w',
    fun y _ => (l.length - RowKit.intOf y).toNat, ⟨0, Pk.new 8192, A, by omega, rfl, Pk.new_ok _, Pk.Sm.new _, rfl, .inr (.inr ⟨rfl, by simp [Pk.new, encs], by simp⟩), ha3, hA, hf13⟩, ?_⟩
  clear hA ha1 ha2 ha3
  rintro _ w7 ⟨i, x, A, hi, rfl, hok, hsm, hmade, hst, ha, hAw, hf7⟩ -
  simp only [nilc_some, fad_mk, pik_true, pik_false, cnd_true, cnd_false, gif_same, gif_tf, gif_ft, gif_undef, bi_add, bi_sub, bi_mul, bi_eql, bi_neq, bi_lss, bi_leq, bi_gtr, bi_geq, notB_bool, cvi_int, lenS_mk, lenT_mk, ext0, ext1, ext2, nilP_mk, nilS_mk, fldv_agg, jn0_k, jn1_k, jn2_k, jn1_and, jn1_or, ex_some, Option.isNone_some, Option.isNone_none, Bool.false_bne, Bool.bne_true, Bool.bne_false, Bool.true_bne, Bool.not_true, Bool.not_false, Bool.and_true, Bool.true_and, Bool.and_false, Bool.false_and, Bool.or_true, Bool.true_or, Bool.or_false, Bool.false_or, cond_true, cond_false, List.getElem?_toArray, List.getElem?_cons_zero, List.getElem?_cons_succ, Nat.zero_add, Nat.add_zero, Nat.reduceAdd, forall_const]
  rw [cnd_bool]
  refine ⟨fun h => ?_, fun h => ?_⟩
  · have hlt : i < l.length := by simp at h; omega
    obtain ⟨it, hit⟩ : ∃ it, l[i]? = some it := ⟨_, List.getElem?_eq_getElem hlt⟩
    have hmem := List.mem_of_getElem? hit
    have hbl := hlen it hmem
    have hok5 := (hr.2.2.2 it hmem).fr hf7
    refine ldxN (hr.1.fr hf7 (off_nil _)) (by omega) hlt ?_
    rw [hr.at hit]
    refine item_copy rfl (itc_one hok5) fun w8 g hg hg8 hf8 => ?_
    have hf18 := hf7.trans (H := []) hf8 (by simp) (by simp)
    rw [ldN_eq hg8]
    refine ⟨by simp [itc], ?_⟩
    rw [show (itc it).toArray.extract 0 (0 + 4) = (itc it).toArray from rfl]
    refine cal_i (put_item (ha.fr hf8 (by simp)) hok hf18 hAw (hr.2.2.2 it hmem) hbl) ?_
    rintro _ w9 ⟨rfl, A', ha9, hf9, hg9, hf19, hAw'⟩
    try simp only [nilc_some, fad_mk, pik_true, pik_false, cnd_true, cnd_false, gif_same, gif_tf, gif_ft, gif_undef, bi_add, bi_sub, bi_mul, bi_eql, bi_neq, bi_lss, bi_leq, bi_gtr, bi_geq, notB_bool, cvi_int, lenS_mk, lenT_mk, ext0, ext1, ext2, nilP_mk, nilS_mk, fldv_agg, jn0_k, jn1_k, jn2_k, jn1_and, jn1_or, ex_some, Option.isNone_some, Option.isNone_none, Bool.false_bne, Bool.bne_true, Bool.bne_false, Bool.true_bne, Bool.not_true, Bool.not_false, Bool.and_true, Bool.true_and, Bool.and_false, Bool.false_and, Bool.or_true, Bool.true_or, Bool.or_false, Bool.false_or, cond_true, cond_false, List.getElem?_toArray, List.getElem?_cons_zero, List.getElem?_cons_succ, Nat.zero_add, Nat.add_zero, Nat.reduceAdd, forall_const]
    rw [wi64 (by omega) (by omega)]
    refine ⟨⟨i + 1, x.item it.1, A', by omega, by simp, Pk.item_ok hok _, hsm.item hok _, by rw [Pk.item_made]; exact hmade, ?_, ha9, hAw', hf19⟩, by simp [RowKit.intOf]; omega⟩
    rcases hst with h1 | h1 | ⟨h1, h2, h3⟩
    · rw [item_stuck (by omega)]; exact .inl h1
    · rw [item_stuck (by omega)]; exact .inr (.inl h1)
    · rcases item_enc hmade h1 it.1 with h4 | h4 | ⟨h4, h5, h6⟩
      · exact .inl h4
      · exact .inr (.inl h4)
      · refine .inr (.inr ⟨h4, ?_, fun q hq => ?_⟩)
        · rw [h5, h2, encs_take hit]
        · rw [List.take_add_one, hit] at hq
          rcases List.mem_append.1 hq with hq | hq
          · exact h3 q hq
          · simp at hq
            subst hq
            exact h6
  have hil : i = l.length := by simp at h; omega
  rw [hil, List.take_length] at hst
  refine cal_i (Out_cap ha hsm) ?_
  rintro _ w8 ⟨s, rfl, hs8, hf8, hcap⟩
  have hf18 := hf7.trans (H := []) hf8 (by simp) (by simp)
  have herr : x.err = x.e := by simp [Pk.err, hmade]
  simp only [nilc_some, fad_mk, pik_true, pik_false, cnd_true, cnd_false, gif_same, gif_tf, gif_ft, gif_undef, bi_add, bi_sub, bi_mul, bi_eql, bi_neq, bi_lss, bi_leq, bi_gtr, bi_geq, notB_bool, cvi_int, lenS_mk, lenT_mk, ext0, ext1, ext2, nilP_mk, nilS_mk, fldv_agg, jn0_k, jn1_k, jn2_k, jn1_and, jn1_or, ex_some, Option.isNone_some, Option.isNone_none, Bool.false_bne, Bool.bne_true, Bool.bne_false, Bool.true_bne, Bool.not_true, Bool.not_false, Bool.and_true, Bool.true_and, Bool.and_false, Bool.false_and, Bool.or_true, Bool.true_or, Bool.or_false, Bool.false_or, cond_true, cond_false, List.getElem?_toArray, List.getElem?_cons_zero, List.getElem?_cons_succ, Nat.zero_add, Nat.add_zero, Nat.reduceAdd, forall_const, herr]
  rw [cnd_bool]
  refine ⟨fun h => ?_, fun h => ?_⟩
  · have he : x.e ≠ 0 := by simpa using h
    have ho : x.out = [] := by rw [Pk.out, herr, if_neg he]
    rw [ho] at hs8
    have h310 : ((x.e == 10) || (x.e == 3)) = true := by
      rcases hst with h1 | h1 | ⟨h1, _⟩
      · rw [h1]; rfl
      · rw [h1]; rfl
      · exact absurd h1 he
    simp only [nilc_some, fad_mk, pik_true, pik_false, cnd_true, cnd_false, gif_same, gif_tf, gif_ft, gif_undef, bi_add, bi_sub, bi_mul, bi_eql, bi_neq, bi_lss, bi_leq, bi_gtr, bi_geq, notB_bool, cvi_int, lenS_mk, lenT_mk, ext0, ext1, ext2, nilP_mk, nilS_mk, fldv_agg, jn0_k, jn1_k, jn2_k, jn1_and, jn1_or, ex_some, Option.isNone_some, Option.isNone_none, Bool.false_bne, Bool.bne_true, Bool.bne_false, Bool.true_bne, Bool.not_true, Bool.not_false, Bool.and_true, Bool.true_and, Bool.and_false, Bool.false_and, Bool.or_true, Bool.true_or, Bool.or_false, Bool.false_or, cond_true, cond_false, List.getElem?_toArray, List.getElem?_cons_zero, List.getElem?_cons_succ, Nat.zero_add, Nat.add_zero, Nat.reduceAdd, forall_const, hs8.len, h310]
    exact hR _ _ ⟨rfl, hf18⟩
  have he : x.e = 0 := by simpa using h
  obtain ⟨hb, hfine⟩ : x.b = encs l ∧ ∀ p ∈ l, p.1.fine := by
    rcases hst with h1 | h1 | ⟨_, h2⟩
    · omega
    · omega
    · exact h2
  have ho : x.out = encs l := by rw [Pk.out, herr, if_pos he, hb]
  have hsz : (encs l).length ≤ 8192 := by rw [← hb]; exact hsm
  rw [ho] at hs8 hcap
  refine cal_i (Read_spec hs8 (by omega)) ?_
  rintro u w9 ⟨U, hu9, hf9, hU⟩
  have hf19 := hf18.trans (H := []) hf9 (by simp) (by simp)
  have hUw : ∀ k ∈ U, w.heap.size ≤ k := fun k hk => Nat.le_trans hf18.size (hU k hk)
  rw [hu9.nilP]
  simp only [nilc_some, fad_mk, pik_true, pik_false, cnd_true, cnd_false, gif_same, gif_tf, gif_ft, gif_undef, bi_add, bi_sub, bi_mul, bi_eql, bi_neq, bi_lss, bi_leq, bi_gtr, bi_geq, notB_bool, cvi_int, lenS_mk, lenT_mk, ext0, ext1, ext2, nilP_mk, nilS_mk, fldv_agg, jn0_k, jn1_k, jn2_k, jn1_and, jn1_or, ex_some, Option.isNone_some, Option.isNone_none, Bool.false_bne, Bool.bne_true, Bool.bne_false, Bool.true_bne, Bool.not_true, Bool.not_false, Bool.and_true, Bool.true_and, Bool.and_false, Bool.false_and, Bool.or_true, Bool.true_or, Bool.or_false, Bool.false_or, cond_true, cond_false, List.getElem?_toArray, List.getElem?_cons_zero, List.getElem?_cons_succ, Nat.zero_add, Nat.add_zero, Nat.reduceAdd, forall_const, hr.len]
  refine ⟨fun y w' => ∃ i : Nat, i ≤ l.length ∧ y = .int .i64 i ∧ IsUp w'.heap u ⟨true, encs (l.drop i), 0⟩ U ∧ Fr [] w w' ∧ Fr U w9 w', fun y _ => (l.length - RowKit.intOf y).toNat, ⟨0, by omega, rfl, hu9, hf19, Fr.refl _ _⟩, ?_⟩
  rintro _ w10 ⟨j, hj, rfl, hu10, hf110, hf10⟩ -
  simp only [nilc_some, fad_mk, pik_true, pik_false, cnd_true, cnd_false, gif_same, gif_tf, gif_ft, gif_undef, bi_add, bi_sub, bi_mul, bi_eql, bi_neq, bi_lss, bi_leq, bi_gtr, bi_geq, notB_bool, cvi_int, lenS_mk, lenT_mk, ext0, ext1, ext2, nilP_mk, nilS_mk, fldv_agg, jn0_k, jn1_k, jn2_k, jn1_and, jn1_or, ex_some, Option.isNone_some, Option.isNone_none, Bool.false_bne, Bool.bne_true, Bool.bne_false, Bool.true_bne, Bool.not_true, Bool.not_false, Bool.and_true, Bool.true_and, Bool.and_false, Bool.false_and, Bool.or_true, Bool.true_or, Bool.or_false, Bool.false_or, cond_true, cond_false, List.getElem?_toArray, List.getElem?_cons_zero, List.getElem?_cons_succ, Nat.zero_add, Nat.add_zero, Nat.reduceAdd, forall_const]
  rw [cnd_bool]
  refine ⟨fun h => ?_, fun h => ?_⟩
  · have hlt : j < l.length := by simp at h; omega
    obtain ⟨it, hit⟩ : ∃ it, l[j]? = some it := ⟨_, List.getElem?_eq_getElem hlt⟩
    have hmem := List.mem_of_getElem? hit
    have hbl := hlen it hmem
    have hok5 := (hr.2.2.2 it hmem).fr hf110
    refine ldxN (hr.1.fr hf110 (off_nil _)) (by omega) hlt ?_
    rw [hr.at hit]
    refine item_copy rfl (itc_one hok5) fun w11 g hg hg11 hf11 => ?_
    have hf111 := hf110.trans (H := []) hf11 (by simp) (by simp)
    rw [ldN_eq hg11]
    refine ⟨by simp [itc], ?_⟩
    rw [show (itc it).toArray.extract 0 (0 + 4) = (itc it).toArray from rfl]
    refine cal_i (back_item (hu10.fr hf11 (by simp)) hf111 hUw (hr.2.2.2 it hmem)) ?_
    rintro _ w12 ⟨rfl, hu12, hf12', hf112⟩
    have hbk := back_ok (u := ⟨true, encs (l.drop j), 0⟩) rfl rfl (encs_drop hit) (hfine it hmem) hbl hok5.2.1
    rw [hbk] at hu12 ⊢
    simp only [nilc_some, fad_mk, pik_true, pik_false, cnd_true, cnd_false, gif_same, gif_tf, gif_ft, gif_undef, bi_add, bi_sub, bi_mul, bi_eql, bi_neq, bi_lss, bi_leq, bi_gtr, bi_geq, notB_bool, cvi_int, lenS_mk, lenT_mk, ext0, ext1, ext2, nilP_mk, nilS_mk, fldv_agg, jn0_k, jn1_k, jn2_k, jn1_and, jn1_or, ex_some, Option.isNone_some, Option.isNone_none, Bool.false_bne, Bool.bne_true, Bool.bne_false, Bool.true_bne, Bool.not_true, Bool.not_false, Bool.and_true, Bool.true_and, Bool.and_false, Bool.false_and, Bool.or_true, Bool.true_or, Bool.or_false, Bool.false_or, cond_true, cond_false, List.getElem?_toArray, List.getElem?_cons_zero, List.getElem?_cons_succ, Nat.zero_add, Nat.add_zero, Nat.reduceAdd, forall_const]
    rw [wi64 (by omega) (by omega)]
    exact ⟨⟨j + 1, by omega, by simp, hu12, hf112, hf10.trans (hf11.trans hf12' (by simp) fun k hk => .inl hk) (fun k hk => .inl hk) fun k hk => .inl hk⟩, by simp [RowKit.intOf]; omega⟩
  have hjl : j = l.length := by simp at h; omega
  rw [hjl, List.drop_length] at hu10
  refine cal_i (uEnd_spec hu10) ?_
  rintro _ _ ⟨rfl, rfl⟩
  have hfin : (⟨true, encs [], 0⟩ : Up).fin = 0 := rfl
  simp only [nilc_some, fad_mk, pik_true, pik_false, cnd_true, cnd_false, gif_same, gif_tf, gif_ft, gif_undef, bi_add, bi_sub, bi_mul, bi_eql, bi_neq, bi_lss, bi_leq, bi_gtr, bi_geq, notB_bool, cvi_int, lenS_mk, lenT_mk, ext0, ext1, ext2, nilP_mk, nilS_mk, fldv_agg, jn0_k, jn1_k, jn2_k, jn1_and, jn1_or, ex_some, Option.isNone_some, Option.isNone_none, Bool.false_bne, Bool.bne_true, Bool.bne_false, Bool.true_bne, Bool.not_true, Bool.not_false, Bool.and_true, Bool.true_and, Bool.and_false, Bool.false_and, Bool.or_true, Bool.true_or, Bool.or_false, Bool.false_or, cond_true, cond_false, List.getElem?_toArray, List.getElem?_cons_zero, List.getElem?_cons_succ, Nat.zero_add, Nat.add_zero, Nat.reduceAdd, forall_const, hfin, neq_self]
  refine jn1_dup ?_
  refine cal_i (uRest_spec hu10) ?_
  rintro _ _ ⟨rfl, rfl⟩
  have hz : (((⟨true, encs [], 0⟩ : Up).b.length : Int) != 0) = false := rfl
  have hs10 : RdB w10.heap s (encs l) := (hs8.fr hf9 (off_nil _)).fr hf10 (hs8.off' hU)
  simp only [nilc_some, fad_mk, pik_true, pik_false, cnd_true, cnd_false, gif_same, gif_tf, gif_ft, gif_undef, bi_add, bi_sub, bi_mul, bi_eql, bi_neq, bi_lss, bi_leq, bi_gtr, bi_geq, notB_bool, cvi_int, lenS_mk, lenT_mk, ext0, ext1, ext2, nilP_mk, nilS_mk, fldv_agg, jn0_k, jn1_k, jn2_k, jn1_and, jn1_or, ex_some, Option.isNone_some, Option.isNone_none, Bool.false_bne, Bool.bne_true, Bool.bne_false, Bool.true_bne, Bool.not_true, Bool.not_false, Bool.and_true, Bool.true_and, Bool.and_false, Bool.false_and, Bool.or_true, Bool.true_or, Bool.or_false, Bool.false_or, cond_true, cond_false, List.getElem?_toArray, List.getElem?_cons_zero, List.getElem?_cons_succ, Nat.zero_add, Nat.add_zero, Nat.reduceAdd, forall_const, hz, hs10.len]
  rw [cnd_bool]
  refine ⟨fun h => hR _ _ ⟨rfl, hf110⟩, fun h => ?_⟩
  have hpos : (encs l).length ≠ 0 := by simpa using h
  try simp only [nilc_some, fad_mk, pik_true, pik_false, cnd_true, cnd_false, gif_same, gif_tf, gif_ft, gif_undef, bi_add, bi_sub, bi_mul, bi_eql, bi_neq, bi_lss, bi_leq, bi_gtr, bi_geq, notB_bool, cvi_int, lenS_mk, lenT_mk, ext0, ext1, ext2, nilP_mk, nilS_mk, fldv_agg, jn0_k, jn1_k, jn2_k, jn1_and, jn1_or, ex_some, Option.isNone_some, Option.isNone_none, Bool.false_bne, Bool.bne_true, Bool.bne_false, Bool.true_bne, Bool.not_true, Bool.not_false, Bool.and_true, Bool.true_and, Bool.and_false, Bool.false_and, Bool.or_true, Bool.true_or, Bool.or_false, Bool.false_or, cond_true, cond_false, List.getElem?_toArray, List.getElem?_cons_zero, List.getElem?_cons_succ, Nat.zero_add, Nat.add_zero, Nat.reduceAdd, forall_const]
  rw [wi64 (by omega) (by omega), bi_rem _ _ _ _ (by omega), tmodn]
  have hm : cut % (encs l).length < (encs l).length := Nat.mod_lt _ (by omega)
  obtain ⟨a', c', hsv, hcl⟩ := hcap
  subst hsv
  rw [slc_to (by omega)]
  refine cal_i (Read_spec (rdB_take hs10 (by omega) c') (by simp; omega)) ?_
  rintro u2 w11 ⟨U2, hu11, hf11, hU2⟩
  have hf111 := hf110.trans (H := []) hf11 (by simp) (by simp)
  have hU2w : ∀ k ∈ U2, w.heap.size ≤ k := fun k hk => Nat.le_trans hf110.size (hU2 k hk)
  rw [hu11.nilP]
  simp only [nilc_some, fad_mk, pik_true, pik_false, cnd_true, cnd_false, gif_same, gif_tf, gif_ft, gif_undef, bi_add, bi_sub, bi_mul, bi_eql, bi_neq, bi_lss, bi_leq, bi_gtr, bi_geq, notB_bool, cvi_int, lenS_mk, lenT_mk, ext0, ext1, ext2, nilP_mk, nilS_mk, fldv_agg, jn0_k, jn1_k, jn2_k, jn1_and, jn1_or, ex_some, Option.isNone_some, Option.isNone_none, Bool.false_bne, Bool.bne_true, Bool.bne_false, Bool.true_bne, Bool.not_true, Bool.not_false, Bool.and_true, Bool.true_and, Bool.and_false, Bool.false_and, Bool.or_true, Bool.true_or, Bool.or_false, Bool.false_or, cond_true, cond_false, List.getElem?_toArray, List.getElem?_cons_zero, List.getElem?_cons_succ, Nat.zero_add, Nat.add_zero, Nat.reduceAdd, forall_const, hr.len]
  refine ⟨fun y w' => ∃ (i : Nat) (z : Up), i ≤ l.length ∧ y = .int .i64 i ∧ z.made = true ∧ (z.e = 11 ∨ (z.e = 0 ∧ ∃ t, t ≠ [] ∧ z.b ++ t = encs (l.drop i))) ∧ IsUp w'.heap u2 z U2 ∧ Fr [] w w', fun y _ => (l.length - RowKit.intOf y).toNat,
    ⟨0, ⟨true, (encs l).take (cut % (encs l).length), 0⟩, by omega, rfl, rfl, .inr ⟨rfl, (encs l).drop (cut % (encs l).length), ?_, List.take_append_drop _ _⟩, hu11, hf111⟩, ?_⟩
  · intro hh
    have := congrArg List.length hh
    simp at this
    omega
  rintro _ w12 ⟨j, z, hj, rfl, hmz, hz, hu12, hf112⟩ -
  simp only [nilc_some, fad_mk, pik_true, pik_false, cnd_true, cnd_false, gif_same, gif_tf, gif_ft, gif_undef, bi_add, bi_sub, bi_mul, bi_eql, bi_neq, bi_lss, bi_leq, bi_gtr, bi_geq, notB_bool, cvi_int, lenS_mk, lenT_mk, ext0, ext1, ext2, nilP_mk, nilS_mk, fldv_agg, jn0_k, jn1_k, jn2_k, jn1_and, jn1_or, ex_some, Option.isNone_some, Option.isNone_none, Bool.false_bne, Bool.bne_true, Bool.bne_false, Bool.true_bne, Bool.not_true, Bool.not_false, Bool.and_true, Bool.true_and, Bool.and_false, Bool.false_and, Bool.or_true, Bool.true_or, Bool.or_false, Bool.false_or, cond_true, cond_false, List.getElem?_toArray, List.getElem?_cons_zero, List.getElem?_cons_succ, Nat.zero_add, Nat.add_zero, Nat.reduceAdd, forall_const]
  rw [cnd_bool]
  refine ⟨fun h => ?_, fun h => ?_⟩
  · have hlt : j < l.length := by simp at h; omega
    obtain ⟨it, hit⟩ : ∃ it, l[j]? = some it := ⟨_, List.getElem?_eq_getElem hlt⟩
    have hmem := List.mem_of_getElem? hit
    have hbl := hlen it hmem
    have hok5 := (hr.2.2.2 it hmem).fr hf112
    refine ldxN (hr.1.fr hf112 (off_nil _)) (by omega) hlt ?_
    rw [hr.at hit]
    refine item_copy rfl (itc_one hok5) fun w13 g hg hg13 hf13 => ?_
    have hf113 := hf112.trans (H := []) hf13 (by simp) (by simp)
    rw [ldN_eq hg13]
    refine ⟨by simp [itc], ?_⟩
    rw [show (itc it).toArray.extract 0 (0 + 4) = (itc it).toArray from rfl]
    refine cal_i (back_item (hu12.fr hf13 (by simp)) hf113 hU2w (hr.2.2.2 it hmem)) ?_
    rintro _ w14 ⟨rfl, hu14, hf14', hf114⟩
    try simp only [nilc_some, fad_mk, pik_true, pik_false, cnd_true, cnd_false, gif_same, gif_tf, gif_ft, gif_undef, bi_add, bi_sub, bi_mul, bi_eql, bi_neq, bi_lss, bi_leq, bi_gtr, bi_geq, notB_bool, cvi_int, lenS_mk, lenT_mk, ext0, ext1, ext2, nilP_mk, nilS_mk, fldv_agg, jn0_k, jn1_k, jn2_k, jn1_and, jn1_or, ex_some, Option.isNone_some, Option.isNone_none, Bool.false_bne, Bool.bne_true, Bool.bne_false, Bool.true_bne, Bool.not_true, Bool.not_false, Bool.and_true, Bool.true_and, Bool.and_false, Bool.false_and, Bool.or_true, Bool.true_or, Bool.or_false, Bool.false_or, cond_true, cond_false, List.getElem?_toArray, List.getElem?_cons_zero, List.getElem?_cons_succ, Nat.zero_add, Nat.add_zero, Nat.reduceAdd, forall_const]
    rw [wi64 (by omega) (by omega)]
    refine ⟨⟨j + 1, (z.back it.1).1, by omega, by simp, ?_, ?_, hu14, hf114⟩, by simp [RowKit.intOf]; omega⟩
    · rw [back_made]; exact hmz
    · rcases hz with hz | ⟨hz, t, ht, hzt⟩
      · rw [back_stuck (by omega)]
        exact .inl hz
      · rw [encs_drop hit] at hzt
        rcases List.append_eq_append_iff.1 hzt with ⟨c, h1, h2⟩ | ⟨c, h1, h2⟩
        · by_cases hc : c = []
          · subst hc
            rw [back_ok hmz hz (rest := []) (by simpa using h1.symm) (hfine it hmem) hbl hok5.2.1]
            refine .inr ⟨hz, t, ht, by simpa using h2⟩
          · rw [back_short hmz hz h1.symm hc (hfine it hmem) hbl]
            exact .inl rfl
        · rw [back_ok hmz hz h1 (hfine it hmem) hbl hok5.2.1]
          exact .inr ⟨hz, t, ht, h2.symm⟩
  have hjl : j = l.length := by simp at h; omega
  have hz11 : z.e = 11 := by
    rcases hz with hz | ⟨_, t, ht, hzt⟩
    · exact hz
    · rw [hjl, List.drop_length] at hzt
      simp [encs] at hzt
      exact absurd hzt.2 ht
  refine cal_i (uErr_spec hu12) ?_
  rintro _ _ ⟨rfl, rfl⟩
  have he11 : z.err = 11 := by simp [Up.err, hmz, hz11]
  simp only [nilc_some, fad_mk, pik_true, pik_false, cnd_true, cnd_false, gif_same, gif_tf, gif_ft, gif_undef, bi_add, bi_sub, bi_mul, bi_eql, bi_neq, bi_lss, bi_leq, bi_gtr, bi_geq, notB_bool, cvi_int, lenS_mk, lenT_mk, ext0, ext1, ext2, nilP_mk, nilS_mk, fldv_agg, jn0_k, jn1_k, jn2_k, jn1_and, jn1_or, ex_some, Option.isNone_some, Option.isNone_none, Bool.false_bne, Bool.bne_true, Bool.bne_false, Bool.true_bne, Bool.not_true, Bool.not_false, Bool.and_true, Bool.true_and, Bool.and_false, Bool.false_and, Bool.or_true, Bool.true_or, Bool.or_false, Bool.false_or, cond_true, cond_false, List.getElem?_toArray, List.getElem?_cons_zero, List.getElem?_cons_succ, Nat.zero_add, Nat.add_zero, Nat.reduceAdd, forall_const, he11]
  exact hR _ _ ⟨rfl, hf112⟩
end Go.Fx
namespace Go.Proofs.Ytamjngkjpalchaa
open Go.ChangeShapes Go.WideShapes Go.ChangeAt Go.RowKit
set_option maxRecDepth 100000 in
theorem liftedPackBack (os : Os) (started : os.Started) (H : Type) (enc : TypeId × Value → H) :
    ReturnsInHanded {} Try.checked os 7 .any (Rows.packBackSpec.pre6 enc Try.prog Try.f7 Rows.packBackRow.domain false) (Rows.packBackSpec.post enc Try.prog Try.f7 false true false false) := by
  refine returnsInHanded_of_change (C := Try.checked) own started (by kernel_rfl) Try.func7
    (ChangeSpec.witness6 (enc := enc) (C := Try.checked) false ⟨#[], #[.slice none 0 0, .int .u16 0], []⟩ 8 (by kernel_rfl) (by kernel_rfl) (by kernel_rfl) (by kernel_rfl)) ?_
  intro W base args ds gs before hval0 hW hcnd _
  have hval : ∀ (j : Nat) t v, Try.f7.params[j]? = some t → args[j]? = some v → Value.okWide Try.prog W .any base t v := hval0
  have hW' := hW
  obtain ⟨p, q, hA0, hV, rfl, hfz, hnd⟩ := hW
  have hA : DataW.TrodAll enc Try.prog W 0 (fun _ => true) true Try.f7.params.toList args.toList ds p := hA0
  rw [Try.params7] at hA hval
  obtain ⟨v0, vs0, d0, ds0, p0, q0, hargs, rfl, rfl, h0, r0⟩ := trodAll_cons hA
  obtain ⟨v1, vs1, d1, ds1, p1, q1, rfl, rfl, rfl, h1, r1⟩ := trodAll_cons r0
  obtain ⟨rfl, rfl, rfl⟩ := trodAll_nil r1
  obtain rfl : args = #[v0, v1] := by cases args; simp_all
  obtain ⟨rfl, rfl⟩ := trodVars_none hV
  obtain ⟨a0, len0, cap0, rfl⟩ := okWide_slice Try.underlying38 (hval 0 38 v0 rfl rfl)
  have k0 := h0
  have lt0 : ∀ x ∈ p0, x.block < W.heap.size := by obtain ⟨m, hm⟩ := k0; exact DataW.trod_lt m _ _ _ hm
  obtain ⟨f0, hf0⟩ := h0
  obtain ⟨l0, rd0⟩ := Go.Fx.trod_items hf0
  obtain ⟨a1, rfl, rfl, rfl, w1⟩ := open_int Try.underlying60 (hval 1 60 v1 rfl rfl) h1
  have b1 := bounds_u16 w1
  obtain ⟨n1, rfl⟩ := Int.eq_ofNat_of_zero_le b1.1
  have b1 : n1 < 65536 := by omega
  clear hA0 hval0
  refine Calls.mono (Go.Fx.PackBack_walk (cut := n1) rd0 b1) fun e W' ⟨v, he, hv, hf⟩ => ?_
  subst hv
  subst he
  have bel : Below W.heap.size W W' := hf.below (by simp)
  exact ⟨_, rfl, _, _, _, [], _, [], hW', trodAll_mk1 (shut_bool Try.underlying4 _), (trodAll_cons_mk (Below.trod laidOut (by kernel_rfl) (of_decide_eq_true (by kernel_rfl)) k0 bel lt0) (trodAll_cons_mk (shut_int Try.underlying60 w1) trodAll_mk0)), rfl, bel.frame _, fun h => by cases h⟩
theorem packBack : Rows.PackBackSaid :=
  OpenClaim.holds_of_wide 7 Try.f7 rfl rfl rfl rfl rfl rfl rfl ⟨rfl, rfl, rfl, rfl, rfl⟩ rfl rfl rfl rfl rfl (by kernel_rfl) Try.func7 (by kernel_rfl)
    (of_decide_eq_true (by kernel_rfl)) (by unfold Func.isWrapper; first | (rw [if_pos (by decide +kernel)]; kernel_rfl) | (rw [if_neg (by decide +kernel)]; exact ⟨rfl, rfl⟩))
    (fun os started H enc _ => liftedPackBack os started H enc)
#print axioms packBack
end Go.Proofs.Ytamjngkjpalchaa
