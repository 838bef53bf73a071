/-
  Law 1: taking an item from both.
-/
import Derived.Test.YtamjngkjpalchaaUpD
set_option linter.unusedVariables false
set_option linter.unusedSimpArgs false
namespace Go.Fx
def Up.takes (x : Up) (i : It) : Up :=
  if i.Do = 0 then (x.take i.n).1 else if i.Do = 1 then (x.take 1).1 else if i.Do = 2 then (x.take 2).1 else if i.Do = 3 then (x.counted 4 i.n).1 else if i.Do = 4 then (x.take 4).1 else
  if i.Do = 5 then (x.counted 2 i.n).1 else if i.Do = 8 then (x.take 8).1 else x
def TakesQ (p : Value) (q : Nat) (x : Up) (F G : List Nat) (w : World) (v : Value) (w' : World) : Prop := v = .bool true ∧ IsUp w'.heap p x F ∧ IsRu w'.heap q x G ∧ Fr (F ++ [q]) w w'
theorem takes_spec {w : World} {p s : Value} {q : Nat} {x : Up} {F G : List Nat} {i : It} (hp : IsUp w.heap p x F) (hq : IsRu w.heap q x G) (hd : ∀ k ∈ F, k ∉ q :: G) (hn0 : i.n ≤ 9223372036854775807) (hn1 : -9223372036854775808 ≤ i.n) :
    cal P f_law01_takes [p, .pointer (some ⟨q, 0, none⟩), .agg #[.int .i64 i.Do, .int .u64 i.v, s, .int .i64 i.n]] w (TakesQ p q (x.takes i) F G w) := by
  refine s_law01_takes fun R hR => ?_
  unfold c_law01_takes
  refine bx_i fun w1 g hg hg1 hf1 => ?_
  have hp1 := hp.fr hf1 (by simp)
  have hq1 := hq.fr hf1 (by simp)
  have hp1d : ∀ d, IsUp ({ w1 with drawn := d } : World).heap p x F := fun _ => hp1
  have hgF : g ∉ F := fun hm => by have := hp.lt g hm; omega
  have hgq : g ≠ q := fun hm => by have := hq.lt q (by simp); omega
  have hqF : ∀ k ∈ q :: G, k ∉ F := fun k hk hm => hd k hm hk
  have hFq : ∀ k ∈ F, k ∉ [q] := fun k hk hm => hd k hk (by simp at hm; simp [hm])
  simp only [Value.cells] at hg1
  have hend : ∀ (w2 w3 : World) (y : Up), Fr F w1 w2 → Fr [q] w2 w3 → IsUp w2.heap p y F → IsRu w3.heap q y G → x.takes i = y → R (.bool true) w3 := fun w2 w3 y h2 h3 hy hz he => by
    refine hR _ _ ⟨rfl, ?_, ?_, ?_⟩
    · rw [he]; exact hy.fr h3 hFq
    · rw [he]; exact hz
    · exact hf1.trans (h2.trans (H := F ++ [q]) h3 (fun k hk => .inl (by simp [hk])) (fun k hk => .inl (by simp at hk; simp [hk]))) (by simp) (fun k hk => .inl hk)
  have hld : ∀ (w' : World) (o : Nat) (v : Value), w'.heap[g]? = some (.cells #[.int .i64 i.Do, .int .u64 i.v, s, .int .i64 i.n] T_flurrylaw01_Item (0, 0)) →
      (#[.int .i64 i.Do, .int .u64 i.v, s, .int .i64 i.n] : Array Value)[o]? = some v → ld1 (.pointer (some ⟨g, o, none⟩)) w'.heap fun u => u = v := fun w' o v h ho => ld1_i h ho rfl
  simp only [nilc_some, fad_mk, pik_true, pik_false, cnd_true, cnd_false, gif_same, gif_tf, gif_ft, gif_undef, bi_add, bi_sub, bi_mul, bi_eql, bi_neq, bi_lss, bi_leq, bi_gtr, bi_geq, notB_bool, cvi_int, lenS_mk, lenT_mk, ext0, ext1, ext2, nilP_mk, nilS_mk, fldv_agg, jn0_k, jn1_k, jn2_k, jn1_and, jn1_or, ex_some, Option.isNone_some, Option.isNone_none, Bool.false_bne, Bool.bne_true, Bool.bne_false, Bool.true_bne, Bool.not_true, Bool.not_false, Bool.and_true, Bool.true_and, Bool.and_false, Bool.false_and, Bool.or_true, Bool.true_or, Bool.or_false, Bool.false_or, cond_true, cond_false, List.getElem?_toArray, List.getElem?_cons_zero, List.getElem?_cons_succ, Nat.zero_add, Nat.add_zero, Nat.reduceAdd, forall_const, ld1_eq hg1]
  rw [cnd_bool]
  refine ⟨fun h => ?_, fun h0 => ?_⟩
  · have h : i.Do = 0 := by simpa using h
    refine ⟨fun w' => w'.heap[g]? = some (.cells #[.int .i64 i.Do, .int .u64 i.v, s, .int .i64 i.n] T_flurrylaw01_Item (0, 0)), hg1, ?_⟩
    refine ⟨.int .i64 i.n, fun w' hw' => hld w' 3 _ hw' rfl, ?_⟩
    refine ⟨.int .i64 i.n, fun w' hw' => hld w' 3 _ hw' rfl, ?_⟩
    refine cal_i (uFixed_spec (hp1d _) _) ?_
    rintro v w2 ⟨e1, e2, e3, e4⟩
    have e2 := e2.ofDrew
    refine ⟨e2.blk hg1 hgF, ?_⟩
    refine cal_i (ruFixed_spec (hq1.fr e2 hqF) _) ?_
    rintro u w3 ⟨d1, d2, d3⟩
    have hg3 := d2.blk (e2.blk hg1 hgF) (by simpa using hgq)
    refine ⟨hg3, ?_⟩
    refine cal_i (Equal_spec (e3.fr d2 (e4 _ (by simpa using (hq1.lt q (by simp))))) d3) ?_
    rintro _ _ ⟨rfl, rfl⟩
    refine ⟨hg3, ?_⟩
    rw [beq_self_eq_true]
    exact hend _ _ _ e2 d2 e1 d1 (by rw [Up.takes, if_pos h])
  rw [cnd_bool]
  refine ⟨fun h => ?_, fun h1 => ?_⟩
  · have h : i.Do = 1 := by simpa using h
    refine cal_i (uByte_spec hp1) ?_
    rintro v w2 ⟨rfl, e1, e2⟩
    try simp only [nilc_some, fad_mk, pik_true, pik_false, cnd_true, cnd_false, gif_same, gif_tf, gif_ft, gif_undef, bi_add, bi_sub, bi_mul, bi_eql, bi_neq, bi_lss, bi_leq, bi_gtr, bi_geq, notB_bool, cvi_int, lenS_mk, lenT_mk, ext0, ext1, ext2, nilP_mk, nilS_mk, fldv_agg, jn0_k, jn1_k, jn2_k, jn1_and, jn1_or, ex_some, Option.isNone_some, Option.isNone_none, Bool.false_bne, Bool.bne_true, Bool.bne_false, Bool.true_bne, Bool.not_true, Bool.not_false, Bool.and_true, Bool.true_and, Bool.and_false, Bool.false_and, Bool.or_true, Bool.true_or, Bool.or_false, Bool.false_or, cond_true, cond_false, List.getElem?_toArray, List.getElem?_cons_zero, List.getElem?_cons_succ, Nat.zero_add, Nat.add_zero, Nat.reduceAdd, forall_const]
    refine cal_i (ruNum_spec (n := 1) (hq1.fr e2 hqF) (by omega)) ?_
    rintro u w3 ⟨rfl, d1, d2⟩
    have hl := take_len x 1
    have hb := ofBe_len (n := 1) (m := 256) hl (by decide)
    rw [wu64i (by omega) (by omega)]
    simp only [nilc_some, fad_mk, pik_true, pik_false, cnd_true, cnd_false, gif_same, gif_tf, gif_ft, gif_undef, bi_add, bi_sub, bi_mul, bi_eql, bi_neq, bi_lss, bi_leq, bi_gtr, bi_geq, notB_bool, cvi_int, lenS_mk, lenT_mk, ext0, ext1, ext2, nilP_mk, nilS_mk, fldv_agg, jn0_k, jn1_k, jn2_k, jn1_and, jn1_or, ex_some, Option.isNone_some, Option.isNone_none, Bool.false_bne, Bool.bne_true, Bool.bne_false, Bool.true_bne, Bool.not_true, Bool.not_false, Bool.and_true, Bool.true_and, Bool.and_false, Bool.false_and, Bool.or_true, Bool.true_or, Bool.or_false, Bool.false_or, cond_true, cond_false, List.getElem?_toArray, List.getElem?_cons_zero, List.getElem?_cons_succ, Nat.zero_add, Nat.add_zero, Nat.reduceAdd, forall_const, beq_self_eq_true]
    exact hend _ _ _ e2 d2 e1 d1 (by rw [Up.takes, if_neg (by omega), if_pos h])
  rw [cnd_bool]
  refine ⟨fun h => ?_, fun h2 => ?_⟩
  · have h : i.Do = 2 := by simpa using h
    refine cal_i (uShort_spec hp1) ?_
    rintro v w2 ⟨rfl, e1, e2⟩
    try simp only [nilc_some, fad_mk, pik_true, pik_false, cnd_true, cnd_false, gif_same, gif_tf, gif_ft, gif_undef, bi_add, bi_sub, bi_mul, bi_eql, bi_neq, bi_lss, bi_leq, bi_gtr, bi_geq, notB_bool, cvi_int, lenS_mk, lenT_mk, ext0, ext1, ext2, nilP_mk, nilS_mk, fldv_agg, jn0_k, jn1_k, jn2_k, jn1_and, jn1_or, ex_some, Option.isNone_some, Option.isNone_none, Bool.false_bne, Bool.bne_true, Bool.bne_false, Bool.true_bne, Bool.not_true, Bool.not_false, Bool.and_true, Bool.true_and, Bool.and_false, Bool.false_and, Bool.or_true, Bool.true_or, Bool.or_false, Bool.false_or, cond_true, cond_false, List.getElem?_toArray, List.getElem?_cons_zero, List.getElem?_cons_succ, Nat.zero_add, Nat.add_zero, Nat.reduceAdd, forall_const]
    refine cal_i (ruNum_spec (n := 2) (hq1.fr e2 hqF) (by omega)) ?_
    rintro u w3 ⟨rfl, d1, d2⟩
    have hl := take_len x 2
    have hb := ofBe_len (n := 2) (m := 65536) hl (by decide)
    rw [wu64i (by omega) (by omega)]
    simp only [nilc_some, fad_mk, pik_true, pik_false, cnd_true, cnd_false, gif_same, gif_tf, gif_ft, gif_undef, bi_add, bi_sub, bi_mul, bi_eql, bi_neq, bi_lss, bi_leq, bi_gtr, bi_geq, notB_bool, cvi_int, lenS_mk, lenT_mk, ext0, ext1, ext2, nilP_mk, nilS_mk, fldv_agg, jn0_k, jn1_k, jn2_k, jn1_and, jn1_or, ex_some, Option.isNone_some, Option.isNone_none, Bool.false_bne, Bool.bne_true, Bool.bne_false, Bool.true_bne, Bool.not_true, Bool.not_false, Bool.and_true, Bool.true_and, Bool.and_false, Bool.false_and, Bool.or_true, Bool.true_or, Bool.or_false, Bool.false_or, cond_true, cond_false, List.getElem?_toArray, List.getElem?_cons_zero, List.getElem?_cons_succ, Nat.zero_add, Nat.add_zero, Nat.reduceAdd, forall_const, beq_self_eq_true]
    exact hend _ _ _ e2 d2 e1 d1 (by rw [Up.takes, if_neg (by omega), if_neg (by omega), if_pos h])
  rw [cnd_bool]
  refine ⟨fun h => ?_, fun h3 => ?_⟩
  · have h : i.Do = 3 := by simpa using h
    refine ⟨fun w' => w'.heap[g]? = some (.cells #[.int .i64 i.Do, .int .u64 i.v, s, .int .i64 i.n] T_flurrylaw01_Item (0, 0)), hg1, ?_⟩
    refine ⟨.int .i64 i.n, fun w' hw' => hld w' 3 _ hw' rfl, ?_⟩
    refine ⟨.int .i64 i.n, fun w' hw' => hld w' 3 _ hw' rfl, ?_⟩
    refine cal_i (uBytes_spec (hp1d _) hn0) ?_
    rintro v w2 ⟨e1, e2, e3, e4⟩
    have e2 := e2.ofDrew
    refine ⟨e2.blk hg1 hgF, ?_⟩
    refine cal_i (ruBytes_spec (hq1.fr e2 hqF) hn0 hn1) ?_
    rintro u w3 ⟨d1, d2, d3⟩
    have hg3 := d2.blk (e2.blk hg1 hgF) (by simpa using hgq)
    refine ⟨hg3, ?_⟩
    refine cal_i (Equal_spec (e3.fr d2 (e4 _ (by simpa using (hq1.lt q (by simp))))) d3) ?_
    rintro _ _ ⟨rfl, rfl⟩
    refine ⟨hg3, ?_⟩
    rw [beq_self_eq_true]
    exact hend _ _ _ e2 d2 e1 d1 (by rw [Up.takes, if_neg (by omega), if_neg (by omega), if_neg (by omega), if_pos h])
  rw [cnd_bool]
  refine ⟨fun h => ?_, fun h4 => ?_⟩
  · have h : i.Do = 4 := by simpa using h
    refine cal_i (uInt_spec hp1) ?_
    rintro v w2 ⟨rfl, e1, e2⟩
    try simp only [nilc_some, fad_mk, pik_true, pik_false, cnd_true, cnd_false, gif_same, gif_tf, gif_ft, gif_undef, bi_add, bi_sub, bi_mul, bi_eql, bi_neq, bi_lss, bi_leq, bi_gtr, bi_geq, notB_bool, cvi_int, lenS_mk, lenT_mk, ext0, ext1, ext2, nilP_mk, nilS_mk, fldv_agg, jn0_k, jn1_k, jn2_k, jn1_and, jn1_or, ex_some, Option.isNone_some, Option.isNone_none, Bool.false_bne, Bool.bne_true, Bool.bne_false, Bool.true_bne, Bool.not_true, Bool.not_false, Bool.and_true, Bool.true_and, Bool.and_false, Bool.false_and, Bool.or_true, Bool.true_or, Bool.or_false, Bool.false_or, cond_true, cond_false, List.getElem?_toArray, List.getElem?_cons_zero, List.getElem?_cons_succ, Nat.zero_add, Nat.add_zero, Nat.reduceAdd, forall_const]
    refine cal_i (ruNum_spec (n := 4) (hq1.fr e2 hqF) (by omega)) ?_
    rintro u w3 ⟨rfl, d1, d2⟩
    have hl := take_len x 4
    have hb := ofBe_len (n := 4) (m := 4294967296) hl (by decide)
    rw [wu64i (by omega) (by omega)]
    simp only [nilc_some, fad_mk, pik_true, pik_false, cnd_true, cnd_false, gif_same, gif_tf, gif_ft, gif_undef, bi_add, bi_sub, bi_mul, bi_eql, bi_neq, bi_lss, bi_leq, bi_gtr, bi_geq, notB_bool, cvi_int, lenS_mk, lenT_mk, ext0, ext1, ext2, nilP_mk, nilS_mk, fldv_agg, jn0_k, jn1_k, jn2_k, jn1_and, jn1_or, ex_some, Option.isNone_some, Option.isNone_none, Bool.false_bne, Bool.bne_true, Bool.bne_false, Bool.true_bne, Bool.not_true, Bool.not_false, Bool.and_true, Bool.true_and, Bool.and_false, Bool.false_and, Bool.or_true, Bool.true_or, Bool.or_false, Bool.false_or, cond_true, cond_false, List.getElem?_toArray, List.getElem?_cons_zero, List.getElem?_cons_succ, Nat.zero_add, Nat.add_zero, Nat.reduceAdd, forall_const, beq_self_eq_true]
    exact hend _ _ _ e2 d2 e1 d1 (by rw [Up.takes, if_neg (by omega), if_neg (by omega), if_neg (by omega), if_neg (by omega), if_pos h])
  rw [cnd_bool]
  refine ⟨fun h => ?_, fun h5 => ?_⟩
  · have h : i.Do = 5 := by simpa using h
    refine ⟨fun w' => w'.heap[g]? = some (.cells #[.int .i64 i.Do, .int .u64 i.v, s, .int .i64 i.n] T_flurrylaw01_Item (0, 0)), hg1, ?_⟩
    refine ⟨.int .i64 i.n, fun w' hw' => hld w' 3 _ hw' rfl, ?_⟩
    refine ⟨.int .i64 i.n, fun w' hw' => hld w' 3 _ hw' rfl, ?_⟩
    refine cal_i (uText_spec (hp1d _) hn0) ?_
    rintro v w2 ⟨rfl, e1, e2⟩
    have e2 := e2.ofDrew
    refine ⟨e2.blk hg1 hgF, ?_⟩
    refine cal_i (ruText_spec (hq1.fr e2 hqF) hn0 hn1) ?_
    rintro u w3 ⟨rfl, d1, d2⟩
    have hg3 := d2.blk (e2.blk hg1 hgF) (by simpa using hgq)
    refine ⟨hg3, ?_⟩
    refine ⟨.bool true, fun w' hw' => ?_, ?_⟩
    · show rdP P _ w' _
      rw [eqS_str, beq_self_eq_true]
    exact hend _ _ _ e2 d2 e1 d1 (by rw [Up.takes, if_neg (by omega), if_neg (by omega), if_neg (by omega), if_neg (by omega), if_neg (by omega), if_pos h])
  rw [cnd_bool]
  refine ⟨fun h => ?_, fun h8 => ?_⟩
  · have h : i.Do = 8 := by simpa using h
    refine cal_i (uLong_spec hp1) ?_
    rintro v w2 ⟨rfl, e1, e2⟩
    try simp only [nilc_some, fad_mk, pik_true, pik_false, cnd_true, cnd_false, gif_same, gif_tf, gif_ft, gif_undef, bi_add, bi_sub, bi_mul, bi_eql, bi_neq, bi_lss, bi_leq, bi_gtr, bi_geq, notB_bool, cvi_int, lenS_mk, lenT_mk, ext0, ext1, ext2, nilP_mk, nilS_mk, fldv_agg, jn0_k, jn1_k, jn2_k, jn1_and, jn1_or, ex_some, Option.isNone_some, Option.isNone_none, Bool.false_bne, Bool.bne_true, Bool.bne_false, Bool.true_bne, Bool.not_true, Bool.not_false, Bool.and_true, Bool.true_and, Bool.and_false, Bool.false_and, Bool.or_true, Bool.true_or, Bool.or_false, Bool.false_or, cond_true, cond_false, List.getElem?_toArray, List.getElem?_cons_zero, List.getElem?_cons_succ, Nat.zero_add, Nat.add_zero, Nat.reduceAdd, forall_const]
    refine cal_i (ruNum_spec (n := 8) (hq1.fr e2 hqF) (by omega)) ?_
    rintro u w3 ⟨rfl, d1, d2⟩
    simp only [nilc_some, fad_mk, pik_true, pik_false, cnd_true, cnd_false, gif_same, gif_tf, gif_ft, gif_undef, bi_add, bi_sub, bi_mul, bi_eql, bi_neq, bi_lss, bi_leq, bi_gtr, bi_geq, notB_bool, cvi_int, lenS_mk, lenT_mk, ext0, ext1, ext2, nilP_mk, nilS_mk, fldv_agg, jn0_k, jn1_k, jn2_k, jn1_and, jn1_or, ex_some, Option.isNone_some, Option.isNone_none, Bool.false_bne, Bool.bne_true, Bool.bne_false, Bool.true_bne, Bool.not_true, Bool.not_false, Bool.and_true, Bool.true_and, Bool.and_false, Bool.false_and, Bool.or_true, Bool.true_or, Bool.or_false, Bool.false_or, cond_true, cond_false, List.getElem?_toArray, List.getElem?_cons_zero, List.getElem?_cons_succ, Nat.zero_add, Nat.add_zero, Nat.reduceAdd, forall_const, beq_self_eq_true]
    exact hend _ _ _ e2 d2 e1 d1 (by rw [Up.takes, if_neg (by omega), if_neg (by omega), if_neg (by omega), if_neg (by omega), if_neg (by omega), if_neg (by omega), if_pos h])
  have hi : x.takes i = x := by
    simp at h0 h1 h2 h3 h4 h5 h8
    simp [Up.takes, h0, h1, h2, h3, h4, h5, h8]
  exact hend _ _ _ (Fr.refl _ _) (Fr.refl _ _) hp1 hq1 hi
theorem takes_made (x : Up) (i : It) : (x.takes i).made = x.made := by
  unfold Up.takes
  repeat' split
  all_goals first | exact take_made _ _ | exact counted_made _ _ _ | rfl
end Go.Fx
