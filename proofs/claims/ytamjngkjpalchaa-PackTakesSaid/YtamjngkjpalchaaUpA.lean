/-
  Package pack: what an unpacker is in memory, and its functions' contracts.
-/
import Derived.Test.YtamjngkjpalchaaPkE
set_option linter.unusedVariables false
set_option linter.unusedSimpArgs false
namespace Go.Fx
/-- 's[j:]', s owned. -/
theorem own_from {h : Heap} {s : Value} {l : List UInt8} {F : List Nat} {k : IntKind} {j : Nat} {K : Value → Prop} (ho : OwnB h s l F) (hj : j ≤ l.length) (hk : ∀ s', OwnB h s' (l.drop j) F → s'.oneCell' = true → K s') :
    slc 1 s (some (.int k (j : Int))) none K := by
  obtain ⟨hl, ⟨rfl, h0, rfl⟩ | ⟨g, o, cap, cur, E, rfl, hn, hg, hfit, hcs, rfl⟩⟩ := ho
  · have hl0 : l = [] := List.eq_nil_of_length_eq_zero h0
    subst hl0
    have : j = 0 := by simpa using hj
    subst this
    refine ⟨none, 0, 0, rfl, ?_⟩
    refine ⟨k, 0, rfl, by omega, by omega, ?_⟩
    simp only [Int.toNat_zero]
    exact hk _ (OwnB.nil _) rfl
  · refine ⟨some ⟨g, o, none⟩, l.length, cap, rfl, ?_⟩
    refine ⟨k, (j : Int), rfl, by omega, by omega, ?_⟩
    simp only [Int.toNat_natCast]
    refine hk _ ?_ (by split <;> rfl)
    have hlen : (bvs (l.drop j)).length = (l.drop j).length := bvs_length _
    have hd : bvs (l.drop j) = (bvs l).drop j := by simp [bvs]
    refine ⟨by simp [bvs], .inr ?_⟩
    have hsz := congrArg List.length hcs
    simp only [List.length_take, List.length_drop, Array.length_toList, bvs_length] at hsz
    by_cases hc : cap = j
    · have hjl : j = l.length := by omega
      refine ⟨g, o, cap - j, cur, E, ?_, by simp; omega, hg, by omega, ?_, rfl⟩
      · rw [if_pos hc, List.length_drop]
      · rw [hd, hjl, List.drop_of_length_le (by simp [bvs])]
        simp [bvs_length]
    · refine ⟨g, o + j, cap - j, cur, E, ?_, by simp; omega, hg, by omega, ?_, rfl⟩
      · rw [if_neg hc, List.length_drop, Option.map_some, Nat.mul_one]
        unfold Addr.add
        split
        · simp_all
        · rfl
      · rw [hd, ← hcs, Nat.mul_one, Nat.mul_one, List.length_drop, List.drop_take, List.drop_drop]
theorem rdB_take {h : Heap} {a : Option Addr} {n c : Nat} {l : List UInt8} (hr : RdB h (.slice a n c) l) {k : Nat} (hk : k ≤ l.length) (c' : Nat) : RdB h (.slice a k c') (l.take k) := by
  have hn : n = l.length := by obtain ⟨_, _, hv, _⟩ := hr; cases hv; rfl
  subst hn
  have := Cel.take (k := k) hr hk c'
  unfold RdB
  rw [List.length_take, Nat.min_eq_left hk, show bvs (l.take k) = (bvs l).take (k * 1) by simp [bvs]]
  exact this
structure Up where
  made : Bool
  b : List UInt8
  e : Int
def Up.works (x : Up) : Bool := x.made && x.e == 0
def IsUp (h : Heap) (p : Value) (x : Up) (F : List Nat) : Prop :=
  ∃ g s E G, p = .pointer (some ⟨g, 0, none⟩) ∧ h[g]? = some (.cells #[.bool x.made, s, .int .i64 x.e] E (0, 0)) ∧ OwnB h s x.b G ∧ g ∉ G ∧ F = g :: G ∧ x.b.length ≤ 281474976710656
theorem IsUp.lt {h : Heap} {p : Value} {x : Up} {F : List Nat} (hp : IsUp h p x F) : ∀ k ∈ F, k < h.size := by
  obtain ⟨g, s, E, G, rfl, hg, ho, hn, rfl, hm⟩ := hp
  intro k hk
  rcases List.mem_cons.1 hk with rfl | hk
  · exact lt_of_blk hg
  · exact Own.lt ho k hk
theorem IsUp.fr {F G : List Nat} {w w' : World} {p : Value} {x : Up} (hp : IsUp w.heap p x F) (hf : Fr G w w') (hd : ∀ k ∈ F, k ∉ G) : IsUp w'.heap p x F := by
  obtain ⟨g, s, E, G', rfl, hg, ho, hn, rfl, hm⟩ := hp
  exact ⟨g, s, E, G', rfl, hf.blk hg (hd g (by simp)), ho.fr hf fun k hk => hd k (by simp [hk]), hn, rfl, hm⟩
/-- Taking so many bytes. -/
def Up.take (x : Up) (n : Int) : Up × List UInt8 :=
  if x.works then (if n < 0 then ({ x with e := 1 }, []) else if (x.b.length : Int) < n then ({ x with e := 11 }, []) else ({ x with b := x.b.drop n.toNat }, x.b.take n.toNat)) else (x, [])
/-- Taking bytes ahead of which stands how many they are. -/
def Up.counted (x : Up) (head : Nat) (most : Int) : Up × List UInt8 :=
  if x.works then (if most < 0 then ({ x with e := 1 }, []) else if x.b.length < head then ({ x with e := 11 }, []) else
    if most < (ofBe (x.b.take head) : Int) then ({ x with e := 3 }, []) else if x.b.length - head < ofBe (x.b.take head) then ({ x with e := 11 }, []) else
    ({ x with b := (x.b.drop head).drop (ofBe (x.b.take head)) }, (x.b.drop head).take (ofBe (x.b.take head)))) else (x, [])
def TakeQ (p : Value) (r : Up × List UInt8) (F : List Nat) (w : World) (v : Value) (w' : World) : Prop :=
  IsUp w'.heap p r.1 F ∧ Fr F w w' ∧ RdB w'.heap v r.2 ∧ ∀ G : List Nat, (∀ k ∈ G, k < w.heap.size) → Off v G
theorem uworks_spec {w : World} {p : Value} {x : Up} {F : List Nat} (hp : IsUp w.heap p x F) : cal P f_pack_Unpacker_works [p] w fun v w' => v = .bool x.works ∧ w = w' := by
  obtain ⟨g, s, E, G, rfl, hg, ho, hn, rfl, hm⟩ := hp
  refine s_pack_Unpacker_works fun R hR => ?_
  unfold c_pack_Unpacker_works
  simp only [nilc_some, fad_mk, pik_true, pik_false, cnd_true, cnd_false, gif_same, gif_tf, gif_ft, gif_undef, bi_add, bi_sub, bi_mul, bi_eql, bi_neq, bi_lss, bi_leq, bi_gtr, bi_geq, notB_bool, cvi_int, lenS_mk, lenT_mk, ext0, ext1, ext2, nilP_mk, nilS_mk, fldv_agg, jn0_k, jn1_k, jn2_k, jn1_and, jn1_or, ex_some, Option.isNone_some, Option.isNone_none, Bool.false_bne, Bool.bne_true, Bool.bne_false, Bool.true_bne, Bool.not_true, Bool.not_false, Bool.and_true, Bool.true_and, Bool.and_false, Bool.false_and, Bool.or_true, Bool.true_or, Bool.or_false, Bool.false_or, cond_true, cond_false, List.getElem?_toArray, List.getElem?_cons_zero, List.getElem?_cons_succ, Nat.zero_add, Nat.add_zero, Nat.reduceAdd, forall_const, ld1_eq hg]
  exact hR _ _ ⟨rfl, rfl⟩
theorem up_nil {p : Value} {x : Up} {F : List Nat} {w w' : World} (h1 : IsUp w'.heap p x F) (h2 : Fr F w w') : TakeQ p (x, []) F w (.slice none 0 0) w' :=
  ⟨h1, h2, RdB.nil _ _, fun G _ => by intro g o n c h; cases h⟩
theorem take_spec {w : World} {p : Value} {x : Up} {F : List Nat} (hp : IsUp w.heap p x F) (n : Int) : cal P f_pack_Unpacker_take [p, .int .i64 n] w (TakeQ p (x.take n) F w) := by
  refine s_pack_Unpacker_take fun R hR => ?_
  unfold c_pack_Unpacker_take
  refine cal_i (uworks_spec hp) ?_
  rintro v _ ⟨rfl, rfl⟩
  cases hw : x.works with
  | false =>
    simp only [nilc_some, fad_mk, pik_true, pik_false, cnd_true, cnd_false, gif_same, gif_tf, gif_ft, gif_undef, bi_add, bi_sub, bi_mul, bi_eql, bi_neq, bi_lss, bi_leq, bi_gtr, bi_geq, notB_bool, cvi_int, lenS_mk, lenT_mk, ext0, ext1, ext2, nilP_mk, nilS_mk, fldv_agg, jn0_k, jn1_k, jn2_k, jn1_and, jn1_or, ex_some, Option.isNone_some, Option.isNone_none, Bool.false_bne, Bool.bne_true, Bool.bne_false, Bool.true_bne, Bool.not_true, Bool.not_false, Bool.and_true, Bool.true_and, Bool.and_false, Bool.false_and, Bool.or_true, Bool.true_or, Bool.or_false, Bool.false_or, cond_true, cond_false, List.getElem?_toArray, List.getElem?_cons_zero, List.getElem?_cons_succ, Nat.zero_add, Nat.add_zero, Nat.reduceAdd, forall_const]
    exact hR _ _ (by rw [Up.take, hw]; exact up_nil hp (Fr.refl _ _))
  | true =>
    have ht : x.take n = if n < 0 then ({ x with e := 1 }, []) else if (x.b.length : Int) < n then ({ x with e := 11 }, []) else ({ x with b := x.b.drop n.toNat }, x.b.take n.toNat) := by rw [Up.take, if_pos hw]
    have he : x.e = 0 := by simp [Up.works] at hw; exact hw.2
    obtain ⟨g, s, E, G, rfl, hg, ho, hn, rfl, hm⟩ := hp
    have hgl := lt_of_blk hg
    have hfail : ∀ e : Int, cal P f_pack_kept_fails [.pointer (some ⟨g, 0, none⟩), .int .i64 e] w fun v w' => TakeQ (.pointer (some ⟨g, 0, none⟩)) ({ x with e := e }, []) (g :: G) w (.slice none 0 0) w' := fun e => by
      refine cal_i (fails_spec hg rfl) ?_
      rintro v w' ⟨rfl, hg', hf⟩
      rw [if_pos he] at hg'
      exact up_nil ⟨g, s, E, G, rfl, hg', ho.fr hf (by simpa using fun k hk (he : k = g) => hn (he ▸ hk)), hn, rfl, hm⟩ (hf.sub (by simp))
    simp only [nilc_some, fad_mk, pik_true, pik_false, cnd_true, cnd_false, gif_same, gif_tf, gif_ft, gif_undef, bi_add, bi_sub, bi_mul, bi_eql, bi_neq, bi_lss, bi_leq, bi_gtr, bi_geq, notB_bool, cvi_int, lenS_mk, lenT_mk, ext0, ext1, ext2, nilP_mk, nilS_mk, fldv_agg, jn0_k, jn1_k, jn2_k, jn1_and, jn1_or, ex_some, Option.isNone_some, Option.isNone_none, Bool.false_bne, Bool.bne_true, Bool.bne_false, Bool.true_bne, Bool.not_true, Bool.not_false, Bool.and_true, Bool.true_and, Bool.and_false, Bool.false_and, Bool.or_true, Bool.true_or, Bool.or_false, Bool.false_or, cond_true, cond_false, List.getElem?_toArray, List.getElem?_cons_zero, List.getElem?_cons_succ, Nat.zero_add, Nat.add_zero, Nat.reduceAdd, forall_const, ld1_eq hg, ho.rd.len]
    rw [cnd_bool]
    refine ⟨fun h => ?_, fun h => ?_⟩
    · have h : n < 0 := by simpa using h
      refine cal_i (hfail 1) ?_
      rintro v w' hq
      exact hR _ _ (by rw [ht, if_pos h]; exact hq)
    have h0 : ¬ n < 0 := by simpa using h
    rw [cnd_bool]
    refine ⟨fun h => ?_, fun h => ?_⟩
    · have h : (x.b.length : Int) < n := by simpa using h
      refine cal_i (hfail 11) ?_
      rintro v w' hq
      exact hR _ _ (by rw [ht, if_neg h0, if_pos h]; exact hq)
    have h1 : ¬ (x.b.length : Int) < n := by simpa using h
    obtain ⟨k, rfl⟩ := Int.eq_ofNat_of_zero_le (show 0 ≤ n by omega)
    rw [if_neg h0, if_neg h1, Int.toNat_natCast] at ht
    refine mkB ST_bytes ZC_uint8 (by omega) fun w1 g1 hg1 ho1 hf1 => ?_
    have hgg := hf1.blk hg (by simp)
    simp only [nilc_some, fad_mk, pik_true, pik_false, cnd_true, cnd_false, gif_same, gif_tf, gif_ft, gif_undef, bi_add, bi_sub, bi_mul, bi_eql, bi_neq, bi_lss, bi_leq, bi_gtr, bi_geq, notB_bool, cvi_int, lenS_mk, lenT_mk, ext0, ext1, ext2, nilP_mk, nilS_mk, fldv_agg, jn0_k, jn1_k, jn2_k, jn1_and, jn1_or, ex_some, Option.isNone_some, Option.isNone_none, Bool.false_bne, Bool.bne_true, Bool.bne_false, Bool.true_bne, Bool.not_true, Bool.not_false, Bool.and_true, Bool.true_and, Bool.and_false, Bool.false_and, Bool.or_true, Bool.true_or, Bool.or_false, Bool.false_or, cond_true, cond_false, List.getElem?_toArray, List.getElem?_cons_zero, List.getElem?_cons_succ, Nat.zero_add, Nat.add_zero, Nat.reduceAdd, forall_const, ld1_eq hgg]
    have ho' := ho.fr hf1 (by simp)
    refine cpyB ST_bytes ho1 ho'.rd fun w2 ho2 hf2 => ?_
    have e1 : x.b.take (List.replicate k (0 : UInt8)).length ++ (List.replicate k (0 : UInt8)).drop x.b.length = x.b.take k := by
      rw [List.length_replicate, List.drop_of_length_le (by simp; omega), List.append_nil]
    rw [e1] at ho2
    have hne : g ≠ g1 := by omega
    have hgG : ∀ j ∈ G, j ≠ g1 := fun j hj he => by have := Own.lt ho j hj; omega
    have hgg2 := hf2.blk hgg (by simpa using hne)
    simp only [nilc_some, fad_mk, pik_true, pik_false, cnd_true, cnd_false, gif_same, gif_tf, gif_ft, gif_undef, bi_add, bi_sub, bi_mul, bi_eql, bi_neq, bi_lss, bi_leq, bi_gtr, bi_geq, notB_bool, cvi_int, lenS_mk, lenT_mk, ext0, ext1, ext2, nilP_mk, nilS_mk, fldv_agg, jn0_k, jn1_k, jn2_k, jn1_and, jn1_or, ex_some, Option.isNone_some, Option.isNone_none, Bool.false_bne, Bool.bne_true, Bool.bne_false, Bool.true_bne, Bool.not_true, Bool.not_false, Bool.and_true, Bool.true_and, Bool.and_false, Bool.false_and, Bool.or_true, Bool.true_or, Bool.or_false, Bool.false_or, cond_true, cond_false, List.getElem?_toArray, List.getElem?_cons_zero, List.getElem?_cons_succ, Nat.zero_add, Nat.add_zero, Nat.reduceAdd, forall_const, ld1_eq hgg2]
    refine own_from (ho'.fr hf2 (by simpa using hgG)) (by omega) fun s' hs' hs1 => ?_
    refine st1_i hgg2 (by simp) hs1 fun w3 hg3 hf3 => ?_
    have hf12 : Fr [] w w2 := hf1.trans hf2 (by simp) (by simp; omega)
    refine hR _ _ ?_
    rw [ht]
    refine ⟨⟨g, s', E, G, rfl, hg3, hs'.fr hf3 (by simpa using fun j hj (he : j = g) => hn (he ▸ hj)), hn, rfl, by simp; omega⟩, hf12.trans hf3 (by simp) (by simp), ?_, fun G' hG' => ?_⟩
    · exact (OwnB.fr (by simpa using ho2) hf3 (by simpa using hne.symm)).rd
    · intro g' o n c he hn0 hm'
      cases he
      have := hG' _ hm'
      omega
theorem or_byte {a c : Nat} (ha : a < 72057594037927936) (hc : c < 256) : IntKind.u64.wrap (((BitVec.ofInt IntKind.u64.bits (IntKind.u64.wrap ((a : Int) * 2 ^ (min (8 : Int).toNat IntKind.u64.bits)))) ||| BitVec.ofInt IntKind.u64.bits (IntKind.u64.wrap (c : Int))).toNat : Int) = ((256 * a + c : Nat) : Int) := by
  have h1 : IntKind.u64.wrap ((a : Int) * 2 ^ (min (8 : Int).toNat IntKind.u64.bits)) = ((2 ^ 8 * a : Nat) : Int) := by
    rw [show min (8 : Int).toNat IntKind.u64.bits = 8 from rfl, wu64i (by omega) (by omega)]
    omega
  rw [h1, show IntKind.u64.wrap (c : Int) = c from wu64i (by omega) (by omega)]
  have h2 : ((BitVec.ofInt IntKind.u64.bits ((2 ^ 8 * a : Nat) : Int)) ||| BitVec.ofInt IntKind.u64.bits (c : Int)).toNat = 2 ^ 8 * a ||| c := by
    rw [BitVec.toNat_or]
    congr 1
    · simp [IntKind.bits]; omega
    · simp [IntKind.bits]; omega
  rw [h2, ← Nat.two_pow_add_eq_or_of_lt (by omega), wu64i (by omega) (by omega)]
theorem ofBe_take_succ {l : List UInt8} {i : Nat} (hi : i < l.length) : ofBe (l.take (i + 1)) = 256 * ofBe (l.take i) + l[i].toNat := by
  rw [List.take_add_one, List.getElem?_eq_getElem hi, Option.toList_some, ofBe_snoc]
theorem ofBe_take_lt {l : List UInt8} {i : Nat} (hl : l.length ≤ 8) (hi : i < l.length) : ofBe (l.take i) < 72057594037927936 := by
  refine Nat.lt_of_lt_of_le (ofBe_lt _) ?_
  rw [List.length_take, Nat.min_eq_left (by omega)]
  exact Nat.pow_le_pow_right (n := 256) (by decide) (show i ≤ 7 by omega)
theorem value_spec {w : World} {v : Value} {l : List UInt8} (hr : RdB w.heap v l) (hl : l.length ≤ 8) : cal P f_pack_value [v] w fun r w' => r = .int .u64 (ofBe l) ∧ w = w' := by
  refine s_pack_value fun R hR => ?_
  unfold c_pack_value
  simp only [nilc_some, fad_mk, pik_true, pik_false, cnd_true, cnd_false, gif_same, gif_tf, gif_ft, gif_undef, bi_add, bi_sub, bi_mul, bi_eql, bi_neq, bi_lss, bi_leq, bi_gtr, bi_geq, notB_bool, cvi_int, lenS_mk, lenT_mk, ext0, ext1, ext2, nilP_mk, nilS_mk, fldv_agg, jn0_k, jn1_k, jn2_k, jn1_and, jn1_or, ex_some, Option.isNone_some, Option.isNone_none, Bool.false_bne, Bool.bne_true, Bool.bne_false, Bool.true_bne, Bool.not_true, Bool.not_false, Bool.and_true, Bool.true_and, Bool.and_false, Bool.false_and, Bool.or_true, Bool.true_or, Bool.or_false, Bool.false_or, cond_true, cond_false, List.getElem?_toArray, List.getElem?_cons_zero, List.getElem?_cons_succ, Nat.zero_add, Nat.add_zero, Nat.reduceAdd, forall_const, hr.len]
  refine ⟨fun x y w' => ∃ i : Nat, i ≤ l.length ∧ x = .int .u64 (ofBe (l.take i) : Nat) ∧ y = .int .i64 i ∧ w' = w, fun _ y _ => (l.length - RowKit.intOf y).toNat, ⟨0, by omega, by simp [ofBe], rfl, rfl⟩, ?_⟩
  rintro _ _ _ ⟨i, hi, rfl, rfl, rfl⟩ -
  simp only [nilc_some, fad_mk, pik_true, pik_false, cnd_true, cnd_false, gif_same, gif_tf, gif_ft, gif_undef, bi_add, bi_sub, bi_mul, bi_eql, bi_neq, bi_lss, bi_leq, bi_gtr, bi_geq, notB_bool, cvi_int, lenS_mk, lenT_mk, ext0, ext1, ext2, nilP_mk, nilS_mk, fldv_agg, jn0_k, jn1_k, jn2_k, jn1_and, jn1_or, ex_some, Option.isNone_some, Option.isNone_none, Bool.false_bne, Bool.bne_true, Bool.bne_false, Bool.true_bne, Bool.not_true, Bool.not_false, Bool.and_true, Bool.true_and, Bool.and_false, Bool.false_and, Bool.or_true, Bool.true_or, Bool.or_false, Bool.false_or, cond_true, cond_false, List.getElem?_toArray, List.getElem?_cons_zero, List.getElem?_cons_succ, Nat.zero_add, Nat.add_zero, Nat.reduceAdd, forall_const]
  rw [cnd_bool]
  refine ⟨fun h => ?_, fun h => ?_⟩
  · have hlt : i < l.length := by simp at h; omega
    refine ldxB hr hlt ?_
    rw [sh_shl _ _ _ _ _ (by omega), bv, cvi_int, bi_or, or_byte (ofBe_take_lt hl hlt) (by have := l[i].toNat_lt; omega)]
    try simp only [nilc_some, fad_mk, pik_true, pik_false, cnd_true, cnd_false, gif_same, gif_tf, gif_ft, gif_undef, bi_add, bi_sub, bi_mul, bi_eql, bi_neq, bi_lss, bi_leq, bi_gtr, bi_geq, notB_bool, cvi_int, lenS_mk, lenT_mk, ext0, ext1, ext2, nilP_mk, nilS_mk, fldv_agg, jn0_k, jn1_k, jn2_k, jn1_and, jn1_or, ex_some, Option.isNone_some, Option.isNone_none, Bool.false_bne, Bool.bne_true, Bool.bne_false, Bool.true_bne, Bool.not_true, Bool.not_false, Bool.and_true, Bool.true_and, Bool.and_false, Bool.false_and, Bool.or_true, Bool.true_or, Bool.or_false, Bool.false_or, cond_true, cond_false, List.getElem?_toArray, List.getElem?_cons_zero, List.getElem?_cons_succ, Nat.zero_add, Nat.add_zero, Nat.reduceAdd, forall_const]
    rw [wi64 (by omega) (by omega)]
    exact ⟨⟨i + 1, by omega, by rw [ofBe_take_succ hlt], by simp, trivial⟩, by simp [RowKit.intOf]; omega⟩
  · have hge : i = l.length := by simp at h; omega
    subst hge
    rw [List.take_length]
    exact hR _ _ ⟨rfl, rfl⟩
theorem rVal_spec {w : World} {v : Value} {l : List UInt8} (hr : RdB w.heap v l) (hl : l.length ≤ 8) : cal P f_ref01_Val [v] w fun r w' => r = .int .u64 (ofBe l) ∧ w = w' := by
  refine s_ref01_Val fun R hR => ?_
  unfold c_ref01_Val
  refine ⟨fun x y w' => ∃ i : Nat, i ≤ l.length ∧ x = .int .u64 (ofBe (l.take i) : Nat) ∧ y = .int .i64 i ∧ w' = w, fun _ y _ => (l.length - RowKit.intOf y).toNat, ⟨0, by omega, by simp [ofBe], rfl, rfl⟩, ?_⟩
  rintro _ _ _ ⟨i, hi, rfl, rfl, rfl⟩ -
  simp only [nilc_some, fad_mk, pik_true, pik_false, cnd_true, cnd_false, gif_same, gif_tf, gif_ft, gif_undef, bi_add, bi_sub, bi_mul, bi_eql, bi_neq, bi_lss, bi_leq, bi_gtr, bi_geq, notB_bool, cvi_int, lenS_mk, lenT_mk, ext0, ext1, ext2, nilP_mk, nilS_mk, fldv_agg, jn0_k, jn1_k, jn2_k, jn1_and, jn1_or, ex_some, Option.isNone_some, Option.isNone_none, Bool.false_bne, Bool.bne_true, Bool.bne_false, Bool.true_bne, Bool.not_true, Bool.not_false, Bool.and_true, Bool.true_and, Bool.and_false, Bool.false_and, Bool.or_true, Bool.true_or, Bool.or_false, Bool.false_or, cond_true, cond_false, List.getElem?_toArray, List.getElem?_cons_zero, List.getElem?_cons_succ, Nat.zero_add, Nat.add_zero, Nat.reduceAdd, forall_const, hr.len]
  rw [cnd_bool]
  refine ⟨fun h => ?_, fun h => ?_⟩
  · have hlt : i < l.length := by simp at h; omega
    refine ldxB hr hlt ?_
    have hb := l[i].toNat_lt
    have hv := ofBe_take_lt hl hlt
    rw [bv, cvi_int]
    try simp only [nilc_some, fad_mk, pik_true, pik_false, cnd_true, cnd_false, gif_same, gif_tf, gif_ft, gif_undef, bi_add, bi_sub, bi_mul, bi_eql, bi_neq, bi_lss, bi_leq, bi_gtr, bi_geq, notB_bool, cvi_int, lenS_mk, lenT_mk, ext0, ext1, ext2, nilP_mk, nilS_mk, fldv_agg, jn0_k, jn1_k, jn2_k, jn1_and, jn1_or, ex_some, Option.isNone_some, Option.isNone_none, Bool.false_bne, Bool.bne_true, Bool.bne_false, Bool.true_bne, Bool.not_true, Bool.not_false, Bool.and_true, Bool.true_and, Bool.and_false, Bool.false_and, Bool.or_true, Bool.true_or, Bool.or_false, Bool.false_or, cond_true, cond_false, List.getElem?_toArray, List.getElem?_cons_zero, List.getElem?_cons_succ, Nat.zero_add, Nat.add_zero, Nat.reduceAdd, forall_const]
    rw [wi64 (by omega) (by omega), show IntKind.u64.wrap (256 * ((ofBe (l.take i) : Nat) : Int)) = ((256 * ofBe (l.take i) : Nat) : Int) from by rw [wu64i (by omega) (by omega)]; omega, show IntKind.u64.wrap (l[i].toNat : Int) = l[i].toNat from wu64i (by omega) (by omega), wu64i (by omega) (by omega)]
    exact ⟨⟨i + 1, by omega, by rw [ofBe_take_succ hlt]; rfl, by simp, trivial⟩, by simp [RowKit.intOf]; omega⟩
  · have hge : i = l.length := by simp at h; omega
    subst hge
    rw [List.take_length]
    exact hR _ _ ⟨rfl, rfl⟩
end Go.Fx
