/-
  Law 1: what putting an item does in both.
-/
import Derived.Test.YtamjngkjpalchaaPkC
import Derived.Test.YtamjngkjpalchaaLwA
set_option linter.unusedVariables false
set_option linter.unusedSimpArgs false
namespace Go.Fx
structure It where
  Do : Int
  v : Nat
  b : List UInt8
  n : Int
def Pk.item (x : Pk) (i : It) : Pk :=
  if i.Do = 0 then x.add i.b else if i.Do = 1 then x.add (be 1 i.v) else if i.Do = 2 then x.add (be 2 i.v) else if i.Do = 3 then x.add (be 4 i.b.length ++ i.b) else
  if i.Do = 4 then x.add (be 4 i.v) else if i.Do = 5 then x.text i.b else if i.Do = 8 then x.add (be 8 i.v) else x
theorem Pk.item_ok {x : Pk} (h : x.Ok) (i : It) : (x.item i).Ok := by
  unfold Pk.item
  repeat' split
  all_goals first | exact Pk.add_ok h _ | exact Pk.text_ok h _ | exact h
def PutsQ (p q : Value) (x y : Pk) (F G : List Nat) (w : World) (v : Value) (w' : World) : Prop :=
  v = .tuple #[] ∧ ∃ F' G', IsPk w'.heap p x F' ∧ IsRf w'.heap q y G' ∧ (∀ k ∈ F', k ∉ G') ∧ Fr (F ++ G) w w' ∧ Grew w F F' ∧ Grew w G G'
theorem puts_fin {w w1 w2 w3 : World} {p q : Value} {x y : Pk} {F G F' G' : List Nat} (hd : ∀ k ∈ F, k ∉ G) (hlG : ∀ k ∈ G, k < w.heap.size) (h0 : Fr [] w w1) (h1 : Fr F w1 w2) (h2 : Fr G w2 w3) (g1 : Grew w1 F F') (g2 : Grew w2 G G')
    (hp : IsPk w2.heap p x F') (hq : IsRf w3.heap q y G') : PutsQ p q x y F G w (.tuple #[]) w3 := by
  have hs0 := h0.size
  have hs1 := h1.size
  have hFG : ∀ k ∈ F', k ∉ G := fun k hk => (g1 k hk).elim (hd k) (fun hh hm => by have := hlG k hm; omega)
  refine ⟨rfl, F', G', hp.fr h2 hFG, hq, fun k hk hm => ?_, ?_, fun k hk => (g1 k hk).imp id fun hh => by omega, fun k hk => (g2 k hk).imp id fun hh => by omega⟩
  · have h3 := hp.lt k hk
    exact (g2 k hm).elim (hFG k hk) (fun hh => by omega)
  · exact h0.trans (h1.trans (H := F ++ G) h2 (fun i hi => .inl (by simp [hi])) (fun i hi => .inl (by simp [hi]))) (by simp) (fun i hi => .inl hi)
theorem puts_spec {w : World} {p q s : Value} {x y : Pk} {F G : List Nat} {i : It} (hp : IsPk w.heap p x F) (hq : IsRf w.heap q y G) (hx : x.Ok) (hy : y.Ok) (hd : ∀ k ∈ F, k ∉ G)
    (hs : RdB w.heap s i.b) (ho : Off s (F ++ G)) (hl : i.b.length ≤ 140737488355324) (hv : i.v < 18446744073709551616) (h1 : s.oneCell' = true) :
    cal P f_law01_puts [p, q, .agg #[.int .i64 i.Do, .int .u64 i.v, s, .int .i64 i.n]] w (PutsQ p q (x.item i) (y.item i) F G w) := by
  refine s_law01_puts fun R hR => ?_
  unfold c_law01_puts
  refine bx_i fun w1 g hg hg1 hf1 => ?_
  have hp1 := hp.fr hf1 (by simp)
  have hq1 := hq.fr hf1 (by simp)
  have hs1 := hs.fr hf1 (off_nil _)
  have hgF : g ∉ F := fun hm => by have := hp.lt g hm; omega
  have hlG := hq.lt
  have hF : Off s F := fun g' o n c he hn hm => ho g' o n c he hn (by simp [hm])
  have hG : Off s G := fun g' o n c he hn hm => ho g' o n c he hn (by simp [hm])
  have m1 : IntKind.u8.wrap (i.v : Int) = ((i.v % 256 : Nat) : Int) := wu8n _
  have m2 : IntKind.u16.wrap (i.v : Int) = ((i.v % 65536 : Nat) : Int) := wu16n _
  have m4 : IntKind.u32.wrap (i.v : Int) = ((i.v % 4294967296 : Nat) : Int) := wu32n _
  have n1 : (i.v : Int).tmod 256 = ((i.v % 256 : Nat) : Int) := tmodn _ 256
  have n2 : (i.v : Int).tmod 65536 = ((i.v % 65536 : Nat) : Int) := tmodn _ 65536
  have n4 : (i.v : Int).tmod 4294967296 = ((i.v % 4294967296 : Nat) : Int) := tmodn _ 4294967296
  have b1 : be 1 (i.v % 256) = be 1 i.v := be_mod 1 i.v
  have b2 : be 2 (i.v % 65536) = be 2 i.v := be_mod 2 i.v
  have b4 : be 4 (i.v % 4294967296) = be 4 i.v := be_mod 4 i.v
  simp only [Value.cells] at hg1
  simp only [nilc_some, fad_mk, pik_true, pik_false, cnd_true, cnd_false, gif_same, gif_tf, gif_ft, gif_undef, bi_add, bi_sub, bi_mul, bi_eql, bi_neq, bi_lss, bi_leq, bi_gtr, bi_geq, notB_bool, cvi_int, lenS_mk, lenT_mk, ext0, ext1, ext2, nilP_mk, nilS_mk, fldv_agg, jn0_k, jn1_k, jn2_k, jn1_and, jn1_or, ex_some, Option.isNone_some, Option.isNone_none, Bool.false_bne, Bool.bne_true, Bool.bne_false, Bool.true_bne, Bool.not_true, Bool.not_false, Bool.and_true, Bool.true_and, Bool.and_false, Bool.false_and, Bool.or_true, Bool.true_or, Bool.or_false, Bool.false_or, cond_true, cond_false, List.getElem?_toArray, List.getElem?_cons_zero, List.getElem?_cons_succ, Nat.zero_add, Nat.add_zero, Nat.reduceAdd, forall_const, ld1_eq hg1]
  rw [cnd_bool]
  refine ⟨fun h => ?_, fun h0 => ?_⟩
  · have h : i.Do = 0 := by simpa using h
    refine cal_i (Fixed_spec hp1 hx hs1 hF) ?_
    rintro _ w2 ⟨rfl, F', e1, e2, e3⟩
    simp only [nilc_some, fad_mk, pik_true, pik_false, cnd_true, cnd_false, gif_same, gif_tf, gif_ft, gif_undef, bi_add, bi_sub, bi_mul, bi_eql, bi_neq, bi_lss, bi_leq, bi_gtr, bi_geq, notB_bool, cvi_int, lenS_mk, lenT_mk, ext0, ext1, ext2, nilP_mk, nilS_mk, fldv_agg, jn0_k, jn1_k, jn2_k, jn1_and, jn1_or, ex_some, Option.isNone_some, Option.isNone_none, Bool.false_bne, Bool.bne_true, Bool.bne_false, Bool.true_bne, Bool.not_true, Bool.not_false, Bool.and_true, Bool.true_and, Bool.and_false, Bool.false_and, Bool.or_true, Bool.true_or, Bool.or_false, Bool.false_or, cond_true, cond_false, List.getElem?_toArray, List.getElem?_cons_zero, List.getElem?_cons_succ, Nat.zero_add, Nat.add_zero, Nat.reduceAdd, forall_const, ld1_eq (e2.blk hg1 hgF)]
    refine cal_i (rFixed_spec (hq1.fr e2 fun k hk hm => hd k hm hk) hy (hs1.fr e2 hF) hG) ?_
    rintro _ w3 ⟨rfl, G', d1, d2, d3⟩
    refine hR _ _ (puts_fin hd hlG hf1 e2 d2 e3 d3 (by rw [Pk.item, if_pos h]; exact e1) (by rw [Pk.item, if_pos h]; exact d1))
  rw [cnd_bool]
  refine ⟨fun h => ?_, fun h1 => ?_⟩
  · have h : i.Do = 1 := by simpa using h
    rw [m1]
    refine cal_i (Byte_spec hp1 hx (by omega)) ?_
    rintro _ w2 ⟨rfl, F', e1, e2, e3⟩
    simp only [nilc_some, fad_mk, pik_true, pik_false, cnd_true, cnd_false, gif_same, gif_tf, gif_ft, gif_undef, bi_add, bi_sub, bi_mul, bi_eql, bi_neq, bi_lss, bi_leq, bi_gtr, bi_geq, notB_bool, cvi_int, lenS_mk, lenT_mk, ext0, ext1, ext2, nilP_mk, nilS_mk, fldv_agg, jn0_k, jn1_k, jn2_k, jn1_and, jn1_or, ex_some, Option.isNone_some, Option.isNone_none, Bool.false_bne, Bool.bne_true, Bool.bne_false, Bool.true_bne, Bool.not_true, Bool.not_false, Bool.and_true, Bool.true_and, Bool.and_false, Bool.false_and, Bool.or_true, Bool.true_or, Bool.or_false, Bool.false_or, cond_true, cond_false, List.getElem?_toArray, List.getElem?_cons_zero, List.getElem?_cons_succ, Nat.zero_add, Nat.add_zero, Nat.reduceAdd, forall_const, ld1_eq (e2.blk hg1 hgF)]
    rw [bi_rem _ _ _ _ (by omega), n1]
    refine cal_i (rNumP_spec (n := 1) (hq1.fr e2 fun k hk hm => hd k hm hk) hy (by omega) (by omega)) ?_
    rintro _ w3 ⟨rfl, G', d1, d2, d3⟩
    refine hR _ _ (puts_fin hd hlG hf1 e2 d2 e3 d3 (by rw [b1] at e1; simpa [Pk.item, h] using e1) (by rw [b1] at d1; simpa [Pk.item, h] using d1))
  rw [cnd_bool]
  refine ⟨fun h => ?_, fun h2 => ?_⟩
  · have h : i.Do = 2 := by simpa using h
    rw [m2]
    refine cal_i (Short_spec hp1 hx (by omega)) ?_
    rintro _ w2 ⟨rfl, F', e1, e2, e3⟩
    simp only [nilc_some, fad_mk, pik_true, pik_false, cnd_true, cnd_false, gif_same, gif_tf, gif_ft, gif_undef, bi_add, bi_sub, bi_mul, bi_eql, bi_neq, bi_lss, bi_leq, bi_gtr, bi_geq, notB_bool, cvi_int, lenS_mk, lenT_mk, ext0, ext1, ext2, nilP_mk, nilS_mk, fldv_agg, jn0_k, jn1_k, jn2_k, jn1_and, jn1_or, ex_some, Option.isNone_some, Option.isNone_none, Bool.false_bne, Bool.bne_true, Bool.bne_false, Bool.true_bne, Bool.not_true, Bool.not_false, Bool.and_true, Bool.true_and, Bool.and_false, Bool.false_and, Bool.or_true, Bool.true_or, Bool.or_false, Bool.false_or, cond_true, cond_false, List.getElem?_toArray, List.getElem?_cons_zero, List.getElem?_cons_succ, Nat.zero_add, Nat.add_zero, Nat.reduceAdd, forall_const, ld1_eq (e2.blk hg1 hgF)]
    rw [bi_rem _ _ _ _ (by omega), n2]
    refine cal_i (rNumP_spec (n := 2) (hq1.fr e2 fun k hk hm => hd k hm hk) hy (by omega) (by omega)) ?_
    rintro _ w3 ⟨rfl, G', d1, d2, d3⟩
    refine hR _ _ (puts_fin hd hlG hf1 e2 d2 e3 d3 (by rw [b2] at e1; simpa [Pk.item, h] using e1) (by rw [b2] at d1; simpa [Pk.item, h] using d1))
  rw [cnd_bool]
  refine ⟨fun h => ?_, fun h3 => ?_⟩
  · have h : i.Do = 3 := by simpa using h
    refine cal_i (Bytes_spec hp1 hx hs1 hF (by omega)) ?_
    rintro _ w2 ⟨rfl, F', e1, e2, e3⟩
    simp only [nilc_some, fad_mk, pik_true, pik_false, cnd_true, cnd_false, gif_same, gif_tf, gif_ft, gif_undef, bi_add, bi_sub, bi_mul, bi_eql, bi_neq, bi_lss, bi_leq, bi_gtr, bi_geq, notB_bool, cvi_int, lenS_mk, lenT_mk, ext0, ext1, ext2, nilP_mk, nilS_mk, fldv_agg, jn0_k, jn1_k, jn2_k, jn1_and, jn1_or, ex_some, Option.isNone_some, Option.isNone_none, Bool.false_bne, Bool.bne_true, Bool.bne_false, Bool.true_bne, Bool.not_true, Bool.not_false, Bool.and_true, Bool.true_and, Bool.and_false, Bool.false_and, Bool.or_true, Bool.true_or, Bool.or_false, Bool.false_or, cond_true, cond_false, List.getElem?_toArray, List.getElem?_cons_zero, List.getElem?_cons_succ, Nat.zero_add, Nat.add_zero, Nat.reduceAdd, forall_const, ld1_eq (e2.blk hg1 hgF)]
    refine cal_i (rBytes_spec (hq1.fr e2 fun k hk hm => hd k hm hk) hy (hs1.fr e2 hF) hl) ?_
    rintro _ w3 ⟨rfl, G', d1, d2, d3⟩
    refine hR _ _ (puts_fin hd hlG hf1 e2 d2 e3 d3 (by simpa [Pk.item, h] using e1) (by simpa [Pk.item, h] using d1))
  rw [cnd_bool]
  refine ⟨fun h => ?_, fun h4 => ?_⟩
  · have h : i.Do = 4 := by simpa using h
    rw [m4]
    refine cal_i (Int_spec hp1 hx (by omega)) ?_
    rintro _ w2 ⟨rfl, F', e1, e2, e3⟩
    simp only [nilc_some, fad_mk, pik_true, pik_false, cnd_true, cnd_false, gif_same, gif_tf, gif_ft, gif_undef, bi_add, bi_sub, bi_mul, bi_eql, bi_neq, bi_lss, bi_leq, bi_gtr, bi_geq, notB_bool, cvi_int, lenS_mk, lenT_mk, ext0, ext1, ext2, nilP_mk, nilS_mk, fldv_agg, jn0_k, jn1_k, jn2_k, jn1_and, jn1_or, ex_some, Option.isNone_some, Option.isNone_none, Bool.false_bne, Bool.bne_true, Bool.bne_false, Bool.true_bne, Bool.not_true, Bool.not_false, Bool.and_true, Bool.true_and, Bool.and_false, Bool.false_and, Bool.or_true, Bool.true_or, Bool.or_false, Bool.false_or, cond_true, cond_false, List.getElem?_toArray, List.getElem?_cons_zero, List.getElem?_cons_succ, Nat.zero_add, Nat.add_zero, Nat.reduceAdd, forall_const, ld1_eq (e2.blk hg1 hgF)]
    rw [bi_rem _ _ _ _ (by omega), n4]
    refine cal_i (rNumP_spec (n := 4) (hq1.fr e2 fun k hk hm => hd k hm hk) hy (by omega) (by omega)) ?_
    rintro _ w3 ⟨rfl, G', d1, d2, d3⟩
    refine hR _ _ (puts_fin hd hlG hf1 e2 d2 e3 d3 (by rw [b4] at e1; simpa [Pk.item, h] using e1) (by rw [b4] at d1; simpa [Pk.item, h] using d1))
  rw [cnd_bool]
  refine ⟨fun h => ?_, fun h5 => ?_⟩
  · have h : i.Do = 5 := by simpa using h
    rw [rdP_eq (conv_str UT_bytes UT_uint8 UT_string hs1)]
    refine cal_i (Text_spec hp1 hx) ?_
    rintro _ w2 ⟨rfl, F', e1, e2, e3⟩
    simp only [nilc_some, fad_mk, pik_true, pik_false, cnd_true, cnd_false, gif_same, gif_tf, gif_ft, gif_undef, bi_add, bi_sub, bi_mul, bi_eql, bi_neq, bi_lss, bi_leq, bi_gtr, bi_geq, notB_bool, cvi_int, lenS_mk, lenT_mk, ext0, ext1, ext2, nilP_mk, nilS_mk, fldv_agg, jn0_k, jn1_k, jn2_k, jn1_and, jn1_or, ex_some, Option.isNone_some, Option.isNone_none, Bool.false_bne, Bool.bne_true, Bool.bne_false, Bool.true_bne, Bool.not_true, Bool.not_false, Bool.and_true, Bool.true_and, Bool.and_false, Bool.false_and, Bool.or_true, Bool.true_or, Bool.or_false, Bool.false_or, cond_true, cond_false, List.getElem?_toArray, List.getElem?_cons_zero, List.getElem?_cons_succ, Nat.zero_add, Nat.add_zero, Nat.reduceAdd, forall_const, ld1_eq (e2.blk hg1 hgF)]
    rw [rdP_eq (conv_str UT_bytes UT_uint8 UT_string (hs1.fr e2 hF))]
    refine cal_i (rText_spec (hq1.fr e2 fun k hk hm => hd k hm hk) hy hl) ?_
    rintro _ w3 ⟨rfl, G', d1, d2, d3⟩
    refine hR _ _ (puts_fin hd hlG hf1 e2 d2 e3 d3 (by simpa [Pk.item, h] using e1) (by simpa [Pk.item, h] using d1))
  rw [cnd_bool]
  refine ⟨fun h => ?_, fun h8 => ?_⟩
  · have h : i.Do = 8 := by simpa using h
    refine cal_i (Long_spec hp1 hx hv) ?_
    rintro _ w2 ⟨rfl, F', e1, e2, e3⟩
    simp only [nilc_some, fad_mk, pik_true, pik_false, cnd_true, cnd_false, gif_same, gif_tf, gif_ft, gif_undef, bi_add, bi_sub, bi_mul, bi_eql, bi_neq, bi_lss, bi_leq, bi_gtr, bi_geq, notB_bool, cvi_int, lenS_mk, lenT_mk, ext0, ext1, ext2, nilP_mk, nilS_mk, fldv_agg, jn0_k, jn1_k, jn2_k, jn1_and, jn1_or, ex_some, Option.isNone_some, Option.isNone_none, Bool.false_bne, Bool.bne_true, Bool.bne_false, Bool.true_bne, Bool.not_true, Bool.not_false, Bool.and_true, Bool.true_and, Bool.and_false, Bool.false_and, Bool.or_true, Bool.true_or, Bool.or_false, Bool.false_or, cond_true, cond_false, List.getElem?_toArray, List.getElem?_cons_zero, List.getElem?_cons_succ, Nat.zero_add, Nat.add_zero, Nat.reduceAdd, forall_const, ld1_eq (e2.blk hg1 hgF)]
    refine cal_i (rNumP_spec (n := 8) (hq1.fr e2 fun k hk hm => hd k hm hk) hy (by omega) hv) ?_
    rintro _ w3 ⟨rfl, G', d1, d2, d3⟩
    refine hR _ _ (puts_fin hd hlG hf1 e2 d2 e3 d3 (by simpa [Pk.item, h] using e1) (by simpa [Pk.item, h] using d1))
  have hi : ∀ z : Pk, z.item i = z := fun z => by
    simp at h0 h1 h2 h3 h4 h5 h8
    simp [Pk.item, h0, h1, h2, h3, h4, h5, h8]
  refine hR _ _ (puts_fin hd hlG hf1 (Fr.refl _ _) (Fr.refl _ _) (Grew.refl _ _) (Grew.refl _ _) (by rw [hi]; exact hp1) (by rw [hi]; exact hq1))
/-- 'put': an item alone. -/
theorem put1_spec {w : World} {p s : Value} {x : Pk} {F : List Nat} {i : It} (hp : IsPk w.heap p x F) (hx : x.Ok) (hs : RdB w.heap s i.b) (ho : Off s F)
    (hl : i.b.length ≤ 140737488355324) (hv : i.v < 18446744073709551616) (h1 : s.oneCell' = true) :
    cal P f_law01_put [p, .agg #[.int .i64 i.Do, .int .u64 i.v, s, .int .i64 i.n]] w (PutQ p (x.item i) F w) := by
  refine s_law01_put fun R hR => ?_
  unfold c_law01_put
  refine bx_i fun w1 g hg hg1 hf1 => ?_
  simp only [Value.cells] at hg1
  have hgF : g ∉ F := fun hm => by have := hp.lt g hm; omega
  refine ⟨fun w' => w'.heap[g]? = some (.cells #[.int .i64 i.Do, .int .u64 i.v, s, .int .i64 i.n] T_flurrylaw01_Item (0, 0)), hg1, ?_⟩
  refine ⟨.agg #[.int .i64 i.Do, .int .u64 i.v, s, .int .i64 i.n], fun w' hw' => ?_, ?_⟩
  · show ldN 4 (.pointer (some ⟨g, 0, none⟩)) w'.heap _
    rw [ldN_eq (show w'.heap[g]? = some (.cells #[.int .i64 i.Do, .int .u64 i.v, s, .int .i64 i.n] T_flurrylaw01_Item (0, 0)) from hw')]
    exact ⟨by simp, rfl⟩
  · unfold efS
    refine cal_i (rNew_spec (w := { w1 with drawn := _ }) 0) ?_
    rintro q w2 ⟨G, hq, hf2, hG⟩
    have hf2 : Fr [] w1 w2 := hf2.ofDrew
    have hf12 : Fr [] w w2 := hf1.trans hf2 (by simp) (by simp)
    have hG : ∀ k ∈ G, w1.heap.size ≤ k := hG
    have hs0 := hf1.size
    refine ⟨hf2.blk hg1 (by simp), ?_⟩
    refine cal_i (puts_spec (i := i) (hp.fr hf12 (by simp)) hq hx (Pk.new_ok 0) (fun k hk hm => ?_) (hs.fr hf12 (off_nil _)) (fun g o n c he hn hm => ?_) hl hv h1) ?_
    · have h1 := hp.lt k hk
      have h2 := hG k hm
      omega
    · rcases List.mem_append.1 hm with hm | hm
      · exact ho g o n c he hn hm
      · have h1 := hs.lt g o n c he hn
        have h2 := hG g hm
        omega
    · rintro _ w3 ⟨rfl, F', G', h1, h2, h3, h4, h5, h6⟩
      have hgG : g ∉ G := fun hm => by
        have h1 := lt_of_blk hg1
        have h2 := hG g hm
        omega
      refine ⟨h4.blk (hf2.blk hg1 (by simp)) (by simp [hgF, hgG]), hR _ _ ⟨rfl, F', h1, hf12.trans h4 (by simp) (fun k hk => ?_), fun k hk => (h5 k hk).imp id fun hh => Nat.le_trans hf12.size hh⟩⟩
      rcases List.mem_append.1 hk with hk | hk
      · exact .inl hk
      · have h2 := hG k hk
        exact .inr (by omega)
end Go.Fx
