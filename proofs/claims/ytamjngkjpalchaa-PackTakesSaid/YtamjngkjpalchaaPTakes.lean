/-
  What is proved: for every bytes and every list of items the law PackTakes returns true, and its arguments read as they did. Conditions: none.
-/
import Derived.Test.YtamjngkjpalchaaLwE
import Derived.Test.YtamjngkjpalchaaBase
set_option linter.unusedVariables false
set_option linter.unusedSimpArgs false
namespace Go.Fx
theorem IsUp.nilQ {h : Heap} {p : Value} {x : Up} {F : List Nat} (hp : IsUp h p x F) (K : Value → Prop) : nilP false p K = K (.bool false) := by
  obtain ⟨g, s, E, G, rfl, _⟩ := hp
  rw [nilP_mk]; rfl
theorem trod_bytesP {H : Type} {enc : TypeId × Value → H} {w : World} {sp : Nat → Bool} {held : Bool} {fuel : Nat} {v : Value} {x : DataW H × List MemPlace} (h : DataW.trod enc P w 0 sp held fuel T_sl_uint8 [v] = some x) :
    ∃ l, RdB w.heap v l ∧ l.length ≤ 9223372036854775807 ∧ v.oneCell' = true ∧ (∀ a n' c, v = .slice a n' c → n' ≤ c) := trod_bytes UT_bytes UT_uint8 CO_uint8 h
theorem PackTakes_walk {w : World} {b v : Value} {bs : List UInt8} {l : List (It × Value)} (hb : RdB w.heap b bs) (hr : RdI w.heap v l) :
    cal P f_law01_PackTakes [b, v] w fun r w' => r = .bool true ∧ Fr [] w w' := by
  refine s_law01_PackTakes fun R hR => ?_
  unfold c_law01_PackTakes
  refine cal_i live_spec ?_
  rintro _ w1 ⟨rfl, hf1⟩
  simp only [nilc_some, fad_mk, pik_true, pik_false, cnd_true, cnd_false, gif_same, gif_tf, gif_ft, gif_undef, bi_add, bi_sub, bi_mul, bi_eql, bi_neq, bi_lss, bi_leq, bi_gtr, bi_geq, notB_bool, cvi_int, lenS_mk, lenT_mk, ext0, ext1, ext2, nilP_mk, nilS_mk, fldv_agg, jn0_k, jn1_k, jn2_k, jn1_and, jn1_or, ex_some, Option.isNone_some, Option.isNone_none, Bool.false_bne, Bool.bne_true, Bool.bne_false, Bool.true_bne, Bool.not_true, Bool.not_false, Bool.and_true, Bool.true_and, Bool.and_false, Bool.false_and, Bool.or_true, Bool.true_or, Bool.or_false, Bool.false_or, cond_true, cond_false, List.getElem?_toArray, List.getElem?_cons_zero, List.getElem?_cons_succ, Nat.zero_add, Nat.add_zero, Nat.reduceAdd, forall_const, hb.len, hr.len]
  rw [cnd_bool]
  refine ⟨fun h => ?_, fun h => ?_⟩
  · refine cal_i live_spec ?_
    rintro _ w2 ⟨rfl, hf2⟩
    exact hR _ _ ⟨rfl, hf1.trans hf2 (by simp) (by simp)⟩
  have hbl : bs.length ≤ 20000 := by simp at h; omega
  refine cal_i (Clone_spec (hb.fr hf1 (off_nil _)) (by omega)) ?_
  rintro o w2 ⟨O, ho2, hf2, hO⟩
  refine cal_i (Read_spec ho2.rd (by omega)) ?_
  rintro u w3 ⟨U, hu3, hf3, hU⟩
  have hf12 := hf1.trans (H := []) hf2 (by simp) (by simp)
  have hf13 := hf12.trans (H := []) hf3 (by simp) (by simp)
  refine cal_i (rRead_spec (hb.fr hf13 (off_nil _)) (by omega)) ?_
  rintro _ w4 ⟨q, G, rfl, hq4, hf4, hG⟩
  have hf14 := hf13.trans (H := []) hf4 (by simp) (by simp)
  have hu4 := hu3.fr hf4 (by simp)
  have ho4 := (ho2.fr hf3 (by simp)).fr hf4 (by simp)
  have hOw : ∀ k ∈ O, w.heap.size ≤ k := fun k hk => Nat.le_trans hf1.size (hO k hk)
  have hUw : ∀ k ∈ U, w.heap.size ≤ k := fun k hk => Nat.le_trans hf12.size (hU k hk)
  have hGw : ∀ k ∈ q :: G, w.heap.size ≤ k := fun k hk => Nat.le_trans hf13.size (hG k hk)
  have hUO : ∀ k ∈ U, k ∉ O := fun k hk hm => by have h1 := Own.lt ho2 k hm; have h2 := hU k hk; omega
  have hGO : ∀ k ∈ q :: G, k ∉ O := fun k hk hm => by have h1 := Own.lt ho2 k hm; have h2 := hG k hk; have h3 := hf3.size; omega
  have hUG : ∀ k ∈ U, k ∉ q :: G := fun k hk hm => by have h1 := hu3.lt k hk; have h2 := hG k hm; omega
  rw [hu4.nilQ]
  simp only [nilc_some, fad_mk, pik_true, pik_false, cnd_true, cnd_false, gif_same, gif_tf, gif_ft, gif_undef, bi_add, bi_sub, bi_mul, bi_eql, bi_neq, bi_lss, bi_leq, bi_gtr, bi_geq, notB_bool, cvi_int, lenS_mk, lenT_mk, ext0, ext1, ext2, nilP_mk, nilS_mk, fldv_agg, jn0_k, jn1_k, jn2_k, jn1_and, jn1_or, ex_some, Option.isNone_some, Option.isNone_none, Bool.false_bne, Bool.bne_true, Bool.bne_false, Bool.true_bne, Bool.not_true, Bool.not_false, Bool.and_true, Bool.true_and, Bool.and_false, Bool.false_and, Bool.or_true, Bool.true_or, Bool.or_false, Bool.false_or, cond_true, cond_false, List.getElem?_toArray, List.getElem?_cons_zero, List.getElem?_cons_succ, Nat.zero_add, Nat.add_zero, Nat.reduceAdd, forall_const, ho4.rd.len]
  refine ⟨fun y w' => ∃ (i : Nat) (b' : List UInt8), i ≤ bs.length ∧ b'.length = bs.length ∧ y = .int .i64 i ∧ OwnB w'.heap o b' O ∧ Fr O w4 w', fun y _ => (bs.length - RowKit.intOf y).toNat, ⟨0, bs, by omega, rfl, rfl, ho4, Fr.refl _ _⟩, ?_⟩
  rintro _ w5 ⟨i, b', hi, hb', rfl, ho5, hf5⟩ -
  simp only [nilc_some, fad_mk, pik_true, pik_false, cnd_true, cnd_false, gif_same, gif_tf, gif_ft, gif_undef, bi_add, bi_sub, bi_mul, bi_eql, bi_neq, bi_lss, bi_leq, bi_gtr, bi_geq, notB_bool, cvi_int, lenS_mk, lenT_mk, ext0, ext1, ext2, nilP_mk, nilS_mk, fldv_agg, jn0_k, jn1_k, jn2_k, jn1_and, jn1_or, ex_some, Option.isNone_some, Option.isNone_none, Bool.false_bne, Bool.bne_true, Bool.bne_false, Bool.true_bne, Bool.not_true, Bool.not_false, Bool.and_true, Bool.true_and, Bool.and_false, Bool.false_and, Bool.or_true, Bool.true_or, Bool.or_false, Bool.false_or, cond_true, cond_false, List.getElem?_toArray, List.getElem?_cons_zero, List.getElem?_cons_succ, Nat.zero_add, Nat.add_zero, Nat.reduceAdd, forall_const]
  rw [cnd_bool]
  refine ⟨fun h => ?_, fun h => ?_⟩
  · have hlt : i < b'.length := by simp at h; omega
    refine ldxB ho5.rd hlt ?_
    rw [bv, bi_xor, bv_of _ (Int.natCast_nonneg _)]
    refine stxB ho5 hlt _ fun w9 ho9 hf9 => ?_
    rw [wi64 (by omega) (by omega)]
    exact ⟨⟨i + 1, _, by omega, by simpa using hb', by simp, ho9, hf5.trans hf9 (fun k hk => .inl hk) (fun k hk => .inl hk)⟩, by simp [RowKit.intOf]; omega⟩
  have hf15 := hf14.new hf5 hOw
  have hu5 := hu4.fr hf5 hUO
  have hq5 := hq4.fr hf5 hGO
  refine ⟨fun y w' => ∃ (i : Nat) (x : Up), i ≤ l.length ∧ y = .int .i64 i ∧ IsUp w'.heap u x U ∧ IsRu w'.heap q x G ∧ Fr [] w w', fun y _ => (l.length - RowKit.intOf y).toNat, ⟨0, _, by omega, rfl, hu5, hq5, hf15⟩, ?_⟩
  rintro _ w6 ⟨j, x, hj, rfl, hu6, hq6, hf16⟩ -
  simp only [nilc_some, fad_mk, pik_true, pik_false, cnd_true, cnd_false, gif_same, gif_tf, gif_ft, gif_undef, bi_add, bi_sub, bi_mul, bi_eql, bi_neq, bi_lss, bi_leq, bi_gtr, bi_geq, notB_bool, cvi_int, lenS_mk, lenT_mk, ext0, ext1, ext2, nilP_mk, nilS_mk, fldv_agg, jn0_k, jn1_k, jn2_k, jn1_and, jn1_or, ex_some, Option.isNone_some, Option.isNone_none, Bool.false_bne, Bool.bne_true, Bool.bne_false, Bool.true_bne, Bool.not_true, Bool.not_false, Bool.and_true, Bool.true_and, Bool.and_false, Bool.false_and, Bool.or_true, Bool.true_or, Bool.or_false, Bool.false_or, cond_true, cond_false, List.getElem?_toArray, List.getElem?_cons_zero, List.getElem?_cons_succ, Nat.zero_add, Nat.add_zero, Nat.reduceAdd, forall_const]
  rw [cnd_bool]
  refine ⟨fun h => ?_, fun h => ?_⟩
  · have hlt : j < l.length := by simp at h; omega
    obtain ⟨it, hit⟩ : ∃ it, l[j]? = some it := ⟨_, List.getElem?_eq_getElem hlt⟩
    have hmem := List.mem_of_getElem? hit
    have hok6 := (hr.2.2.2 it hmem).fr hf16
    refine ldxN (hr.1.fr hf16 (off_nil _)) (by omega) hlt ?_
    rw [hr.at hit]
    refine item_copy rfl (itc_one hok6) fun w7 g hg hg7 hf7 => ?_
    have hf17 := hf16.trans (H := []) hf7 (by simp) (by simp)
    refine ⟨fun w' => w'.heap = w7.heap, rfl, ?_⟩
    refine ⟨.agg (itc it).toArray, fun w' hw' => ?_, ?_⟩
    · show ldN 4 _ w'.heap _
      rw [show w'.heap = w7.heap from hw', ldN_eq hg7]
      exact ⟨by simp [itc], rfl⟩
    have hu7 : ∀ d, IsUp ({ w7 with drawn := d } : World).heap u x U := fun d => hu6.fr (hf7.drew d) (by simp)
    have hq7 : ∀ d, IsRu ({ w7 with drawn := d } : World).heap q x G := fun d => hq6.fr (hf7.drew d) (by simp)
    refine cal_i (takes_spec (i := it.1) (s := it.2) (hu7 _) (hq7 _) hUG hok6.2.2.2.2.2 hok6.2.2.2.2.1) ?_
    rintro _ w8 ⟨rfl, hu8, hq8, hf8⟩
    have hf8 : Fr (U ++ [q]) w7 w8 := hf8.ofDrew
    have hf18 : Fr [] w w8 := hf17.new hf8 fun k hk => by
      rcases List.mem_append.1 hk with hk | hk
      · exact hUw k hk
      · exact hGw k (by simp at hk; simp [hk])
    obtain ⟨s, E, hgq, hoq, hnq, hmq, hblq⟩ := id hq8
    refine ⟨fun w' => w' = w8, rfl, ?_⟩
    simp only [nilc_some, fad_mk, pik_true, pik_false, cnd_true, cnd_false, gif_same, gif_tf, gif_ft, gif_undef, bi_add, bi_sub, bi_mul, bi_eql, bi_neq, bi_lss, bi_leq, bi_gtr, bi_geq, notB_bool, cvi_int, lenS_mk, lenT_mk, ext0, ext1, ext2, nilP_mk, nilS_mk, fldv_agg, jn0_k, jn1_k, jn2_k, jn1_and, jn1_or, ex_some, Option.isNone_some, Option.isNone_none, Bool.false_bne, Bool.bne_true, Bool.bne_false, Bool.true_bne, Bool.not_true, Bool.not_false, Bool.and_true, Bool.true_and, Bool.and_false, Bool.false_and, Bool.or_true, Bool.true_or, Bool.or_false, Bool.false_or, cond_true, cond_false, List.getElem?_toArray, List.getElem?_cons_zero, List.getElem?_cons_succ, Nat.zero_add, Nat.add_zero, Nat.reduceAdd, forall_const]
    refine jn1_dup ?_
    refine ⟨s, fun w' hw' => ?_, ?_⟩
    · show ld1 _ w'.heap _
      rw [show w' = w8 from hw', ld1_eq hgq]
      simp
    simp only [hoq.rd.len, efS]
    refine cal_i (uRest_spec hu8) ?_
    rintro _ _ ⟨rfl, rfl⟩
    refine ⟨rfl, ?_⟩
    simp only [nilc_some, fad_mk, pik_true, pik_false, cnd_true, cnd_false, gif_same, gif_tf, gif_ft, gif_undef, bi_add, bi_sub, bi_mul, bi_eql, bi_neq, bi_lss, bi_leq, bi_gtr, bi_geq, notB_bool, cvi_int, lenS_mk, lenT_mk, ext0, ext1, ext2, nilP_mk, nilS_mk, fldv_agg, jn0_k, jn1_k, jn2_k, jn1_and, jn1_or, ex_some, Option.isNone_some, Option.isNone_none, Bool.false_bne, Bool.bne_true, Bool.bne_false, Bool.true_bne, Bool.not_true, Bool.not_false, Bool.and_true, Bool.true_and, Bool.and_false, Bool.false_and, Bool.or_true, Bool.true_or, Bool.or_false, Bool.false_or, cond_true, cond_false, List.getElem?_toArray, List.getElem?_cons_zero, List.getElem?_cons_succ, Nat.zero_add, Nat.add_zero, Nat.reduceAdd, forall_const, bne_self_eq_false]
    refine jn1_dup ?_
    refine ⟨.int .i64 (x.takes it.1).e, fun w' hw' => ?_, ?_⟩
    · show ld1 _ w'.heap _
      rw [show w' = _ from hw', ld1_eq hgq]
      simp
    refine cal_i (uErr_spec hu8) ?_
    rintro _ _ ⟨rfl, rfl⟩
    refine ⟨rfl, ?_⟩
    have herr : (x.takes it.1).err = (x.takes it.1).e := by simp [Up.err, hmq]
    simp only [nilc_some, fad_mk, pik_true, pik_false, cnd_true, cnd_false, gif_same, gif_tf, gif_ft, gif_undef, bi_add, bi_sub, bi_mul, bi_eql, bi_neq, bi_lss, bi_leq, bi_gtr, bi_geq, notB_bool, cvi_int, lenS_mk, lenT_mk, ext0, ext1, ext2, nilP_mk, nilS_mk, fldv_agg, jn0_k, jn1_k, jn2_k, jn1_and, jn1_or, ex_some, Option.isNone_some, Option.isNone_none, Bool.false_bne, Bool.bne_true, Bool.bne_false, Bool.true_bne, Bool.not_true, Bool.not_false, Bool.and_true, Bool.true_and, Bool.and_false, Bool.false_and, Bool.or_true, Bool.true_or, Bool.or_false, Bool.false_or, cond_true, cond_false, List.getElem?_toArray, List.getElem?_cons_zero, List.getElem?_cons_succ, Nat.zero_add, Nat.add_zero, Nat.reduceAdd, forall_const, herr, bne_self_eq_false]
    refine jn1_dup ?_
    refine cal_i (uEnd_spec hu8) ?_
    rintro _ _ ⟨rfl, rfl⟩
    refine ⟨rfl, ?_⟩
    refine cal_i (ruEnd_spec hq8) ?_
    rintro _ _ ⟨rfl, rfl⟩
    refine ⟨rfl, ?_⟩
    simp only [nilc_some, fad_mk, pik_true, pik_false, cnd_true, cnd_false, gif_same, gif_tf, gif_ft, gif_undef, bi_add, bi_sub, bi_mul, bi_eql, bi_neq, bi_lss, bi_leq, bi_gtr, bi_geq, notB_bool, cvi_int, lenS_mk, lenT_mk, ext0, ext1, ext2, nilP_mk, nilS_mk, fldv_agg, jn0_k, jn1_k, jn2_k, jn1_and, jn1_or, ex_some, Option.isNone_some, Option.isNone_none, Bool.false_bne, Bool.bne_true, Bool.bne_false, Bool.true_bne, Bool.not_true, Bool.not_false, Bool.and_true, Bool.true_and, Bool.and_false, Bool.false_and, Bool.or_true, Bool.true_or, Bool.or_false, Bool.false_or, cond_true, cond_false, List.getElem?_toArray, List.getElem?_cons_zero, List.getElem?_cons_succ, Nat.zero_add, Nat.add_zero, Nat.reduceAdd, forall_const, bne_self_eq_false]
    have hmax := hr.2.2.1
    rw [wi64 (by omega) (by omega)]
    exact ⟨⟨j + 1, _, by omega, by simp, hu8, hq8, hf18⟩, by simp [RowKit.intOf]; omega⟩
  refine cal_i (uEnd_spec hu6) ?_
  rintro _ _ ⟨rfl, rfl⟩
  refine cal_i (ruEnd_spec hq6) ?_
  rintro _ _ ⟨rfl, rfl⟩
  simp only [nilc_some, fad_mk, pik_true, pik_false, cnd_true, cnd_false, gif_same, gif_tf, gif_ft, gif_undef, bi_add, bi_sub, bi_mul, bi_eql, bi_neq, bi_lss, bi_leq, bi_gtr, bi_geq, notB_bool, cvi_int, lenS_mk, lenT_mk, ext0, ext1, ext2, nilP_mk, nilS_mk, fldv_agg, jn0_k, jn1_k, jn2_k, jn1_and, jn1_or, ex_some, Option.isNone_some, Option.isNone_none, Bool.false_bne, Bool.bne_true, Bool.bne_false, Bool.true_bne, Bool.not_true, Bool.not_false, Bool.and_true, Bool.true_and, Bool.and_false, Bool.false_and, Bool.or_true, Bool.true_or, Bool.or_false, Bool.false_or, cond_true, cond_false, List.getElem?_toArray, List.getElem?_cons_zero, List.getElem?_cons_succ, Nat.zero_add, Nat.add_zero, Nat.reduceAdd, forall_const, beq_self_eq_true]
  exact hR _ _ ⟨rfl, hf16⟩
end Go.Fx
namespace Go.Proofs.Ytamjngkjpalchaa
open Go.ChangeShapes Go.WideShapes Go.ChangeAt Go.RowKit
set_option maxRecDepth 100000 in
theorem liftedPackTakes (os : Os) (started : os.Started) (H : Type) (enc : TypeId × Value → H) :
    ReturnsInHanded {} Try.checked os 8 .any (Rows.packTakesSpec.pre6 enc Try.prog Try.f8 Rows.packTakesRow.domain false) (Rows.packTakesSpec.post enc Try.prog Try.f8 false true false false) := by
  refine returnsInHanded_of_change (C := Try.checked) own started (by kernel_rfl) Try.func8
    (ChangeSpec.witness6 (enc := enc) (C := Try.checked) false ⟨#[], #[.slice none 0 0, .slice none 0 0], []⟩ 8 (by kernel_rfl) (by kernel_rfl) (by kernel_rfl) (by kernel_rfl)) ?_
  intro W base args ds gs before hval0 hW hcnd _
  have hval : ∀ (j : Nat) t v, Try.f8.params[j]? = some t → args[j]? = some v → Value.okWide Try.prog W .any base t v := hval0
  have hW' := hW
  obtain ⟨p, q, hA0, hV, rfl, hfz, hnd⟩ := hW
  have hA : DataW.TrodAll enc Try.prog W 0 (fun _ => true) true Try.f8.params.toList args.toList ds p := hA0
  rw [Try.params8] at hA hval
  obtain ⟨v0, vs0, d0, ds0, p0, q0, hargs, rfl, rfl, h0, r0⟩ := trodAll_cons hA
  obtain ⟨v1, vs1, d1, ds1, p1, q1, rfl, rfl, rfl, h1, r1⟩ := trodAll_cons r0
  obtain ⟨rfl, rfl, rfl⟩ := trodAll_nil r1
  obtain rfl : args = #[v0, v1] := by cases args; simp_all
  obtain ⟨rfl, rfl⟩ := trodVars_none hV
  obtain ⟨a0, len0, cap0, rfl⟩ := okWide_slice Try.underlying28 (hval 0 28 v0 rfl rfl)
  have k0 := h0
  have lt0 : ∀ x ∈ p0, x.block < W.heap.size := by obtain ⟨m, hm⟩ := k0; exact DataW.trod_lt m _ _ _ hm
  obtain ⟨f0, hf0⟩ := h0
  obtain ⟨l0, rd0⟩ := Go.Fx.trod_bytesP hf0
  obtain ⟨a1, len1, cap1, rfl⟩ := okWide_slice Try.underlying38 (hval 1 38 v1 rfl rfl)
  have k1 := h1
  have lt1 : ∀ x ∈ p1, x.block < W.heap.size := by obtain ⟨m, hm⟩ := k1; exact DataW.trod_lt m _ _ _ hm
  obtain ⟨f1, hf1⟩ := h1
  obtain ⟨l1, rd1⟩ := Go.Fx.trod_items hf1
  clear hA0 hval0
  refine Calls.mono (Go.Fx.PackTakes_walk rd0.1 rd1) fun e W' ⟨v, he, hv, hf⟩ => ?_
  subst hv
  subst he
  have bel : Below W.heap.size W W' := hf.below (by simp)
  exact ⟨_, rfl, _, _, _, [], _, [], hW', trodAll_mk1 (shut_bool Try.underlying4 _), (trodAll_cons_mk (Below.trod laidOut (by kernel_rfl) (of_decide_eq_true (by kernel_rfl)) k0 bel lt0) (trodAll_cons_mk (Below.trod laidOut (by kernel_rfl) (of_decide_eq_true (by kernel_rfl)) k1 bel lt1) trodAll_mk0)), rfl, bel.frame _, fun h => by cases h⟩
theorem packTakes : Rows.PackTakesSaid :=
  OpenClaim.holds_of_wide 8 Try.f8 rfl rfl rfl rfl rfl rfl rfl ⟨rfl, rfl, rfl, rfl, rfl⟩ rfl rfl rfl rfl rfl (by kernel_rfl) Try.func8 (by kernel_rfl)
    (of_decide_eq_true (by kernel_rfl)) (by unfold Func.isWrapper; first | (rw [if_pos (by decide +kernel)]; kernel_rfl) | (rw [if_neg (by decide +kernel)]; exact ⟨rfl, rfl⟩))
    (fun os started H enc _ => liftedPackTakes os started H enc)
#print axioms packTakes
end Go.Proofs.Ytamjngkjpalchaa
