/-
  Package pack: what a packer is in memory, and its functions' contracts.
-/
import Derived.Test.YtamjngkjpalchaaFxK
import Derived.Test.YtamjngkjpalchaaGen
set_option linter.unusedVariables false
set_option linter.unusedSimpArgs false
namespace Go.Fx
theorem ST_bytes : SlT P T_sl_uint8 T_uint8 1 1 := ⟨by kernel_rfl, by kernel_rfl, by kernel_rfl, by rw [show (P.info? T_uint8).bind (·.zero) = some (.int .u8 0) from by kernel_rfl]; simp, by kernel_rfl, by decide⟩
theorem UT_bytes : P.underlying T_sl_uint8 = some (.slice T_uint8) := by kernel_rfl
theorem ZC_uint8 : zc P T_uint8 = #[.int .u8 0] := by kernel_rfl
theorem UT_uint8 : P.underlying T_uint8 = some (.int .u8) := by kernel_rfl
theorem UT_string : P.underlying T_string = some .string := by kernel_rfl
theorem UT_bool : P.underlying T_bool = some .bool := by kernel_rfl

/-- What a packer holds. -/
structure Pk where
  made : Bool
  b : List UInt8
  e : Int
  limit : Int
def Pk.works (x : Pk) : Bool := x.made && x.e == 0
/-- A packer that works has a limit that may be, and no more than it. -/
def Pk.Ok (x : Pk) : Prop := x.works = true → 0 ≤ x.limit ∧ x.limit ≤ 8192 ∧ x.b.length ≤ x.limit
def IsPk (h : Heap) (p : Value) (x : Pk) (F : List Nat) : Prop :=
  ∃ g s E G, p = .pointer (some ⟨g, 0, none⟩) ∧ h[g]? = some (.cells #[.bool x.made, s, .int .i64 x.e, .int .i64 x.limit] E (0, 0)) ∧ OwnB h s x.b G ∧ g ∉ G ∧ F = g :: G
theorem IsPk.lt {h : Heap} {p : Value} {x : Pk} {F : List Nat} (hp : IsPk h p x F) : ∀ k ∈ F, k < h.size := by
  obtain ⟨g, s, E, G, rfl, hg, ho, hn, rfl⟩ := hp
  intro k hk
  rcases List.mem_cons.1 hk with rfl | hk
  · exact lt_of_blk hg
  · exact Own.lt ho k hk
theorem IsPk.fr {F G : List Nat} {w w' : World} {p : Value} {x : Pk} (hp : IsPk w.heap p x F) (hf : Fr G w w') (hd : ∀ k ∈ F, k ∉ G) : IsPk w'.heap p x F := by
  obtain ⟨g, s, E, G', rfl, hg, ho, hn, rfl⟩ := hp
  exact ⟨g, s, E, G', rfl, hf.blk hg (hd g (by simp)), ho.fr hf fun k hk => hd k (by simp [hk]), hn, rfl⟩
theorem works_spec {w : World} {p : Value} {x : Pk} {F : List Nat} (hp : IsPk w.heap p x F) : cal P f_pack_Packer_works [p] w fun v w' => v = .bool x.works ∧ w = w' := by
  obtain ⟨g, s, E, G, rfl, hg, ho, hn, rfl⟩ := hp
  refine s_pack_Packer_works fun R hR => ?_
  unfold c_pack_Packer_works
  simp only [nilc_some, fad_mk, pik_true, pik_false, cnd_true, cnd_false, gif_same, gif_tf, gif_ft, gif_undef, bi_add, bi_sub, bi_mul, bi_eql, bi_neq, bi_lss, bi_leq, bi_gtr, bi_geq, notB_bool, cvi_int, lenS_mk, lenT_mk, ext0, ext1, ext2, nilP_mk, nilS_mk, fldv_agg, jn0_k, jn1_k, jn2_k, jn1_and, jn1_or, ex_some, Option.isNone_some, Option.isNone_none, Bool.false_bne, Bool.bne_true, Bool.bne_false, Bool.true_bne, Bool.not_true, Bool.not_false, Bool.and_true, Bool.true_and, Bool.and_false, Bool.false_and, Bool.or_true, Bool.true_or, Bool.or_false, Bool.false_or, cond_true, cond_false, List.getElem?_toArray, List.getElem?_cons_zero, List.getElem?_cons_succ, Nat.zero_add, Nat.add_zero, Nat.reduceAdd, forall_const, ld1_eq hg]
  exact hR _ _ ⟨rfl, rfl⟩
theorem fails_spec {w : World} {g E : Nat} {cur : Array Value} {e0 e : Int} (hg : w.heap[g]? = some (.cells cur E (0, 0))) (h2 : cur[2]? = some (.int .i64 e0)) :
    cal P f_pack_kept_fails [.pointer (some ⟨g, 0, none⟩), .int .i64 e] w fun v w' => v = .tuple #[] ∧ w'.heap[g]? = some (.cells (if e0 = 0 then cur.setIfInBounds 2 (.int .i64 e) else cur) E (0, 0)) ∧ Fr [g] w w' := by
  refine s_pack_kept_fails fun R hR => ?_
  unfold c_pack_kept_fails
  simp only [nilc_some, fad_mk, pik_true, pik_false, cnd_true, cnd_false, gif_same, gif_tf, gif_ft, gif_undef, bi_add, bi_sub, bi_mul, bi_eql, bi_neq, bi_lss, bi_leq, bi_gtr, bi_geq, notB_bool, cvi_int, lenS_mk, lenT_mk, ext0, ext1, ext2, nilP_mk, nilS_mk, fldv_agg, jn0_k, jn1_k, jn2_k, jn1_and, jn1_or, ex_some, Option.isNone_some, Option.isNone_none, Bool.false_bne, Bool.bne_true, Bool.bne_false, Bool.true_bne, Bool.not_true, Bool.not_false, Bool.and_true, Bool.true_and, Bool.and_false, Bool.false_and, Bool.or_true, Bool.true_or, Bool.or_false, Bool.false_or, cond_true, cond_false, List.getElem?_toArray, List.getElem?_cons_zero, List.getElem?_cons_succ, Nat.zero_add, Nat.add_zero, Nat.reduceAdd, forall_const, ld1_eq hg, h2]
  rw [cnd_bool]
  refine ⟨fun h => ?_, fun h => ?_⟩
  · have h0 : e0 = 0 := by simpa using h
    refine st1_i hg (Array.getElem?_eq_some_iff.1 h2).1 rfl fun w' h1 hf => hR _ _ ⟨rfl, ?_, hf⟩
    rw [if_pos h0]; exact h1
  · have h0 : ¬ e0 = 0 := by simpa using h
    refine hR _ _ ⟨rfl, ?_, Fr.refl _ _⟩
    rw [if_neg h0]; exact hg
/-- What putting bytes does. -/
def Pk.put (x : Pk) (a b : List UInt8) : Pk :=
  if x.works then (if x.limit - x.b.length < (a.length : Int) + b.length then { x with e := 10 } else { x with b := x.b ++ (a ++ b) }) else x
theorem Pk.put_ok {x : Pk} (h : x.Ok) (a b : List UInt8) : (x.put a b).Ok := by
  unfold Pk.put
  split
  · rename_i hw
    obtain ⟨h1, h2, h3⟩ := h hw
    split
    · intro hc; simp [Pk.works] at hc
    · intro _; simp; omega
  · exact h
theorem Off.mono {v : Value} {F G : List Nat} (h : Off v F) (hs : ∀ k ∈ G, k ∈ F) : Off v G := fun g o n c hv hn hm => h g o n c hv hn (hs g hm)
theorem put_spec {w : World} {p ha hb : Value} {x : Pk} {F : List Nat} {a b : List UInt8} (hp : IsPk w.heap p x F) (hok : x.Ok) (hra : RdB w.heap ha a) (hrb : RdB w.heap hb b) (hoa : Off ha F) (hob : Off hb F) :
    cal P f_pack_Packer_put [p, ha, hb] w fun v w' => v = .tuple #[] ∧ ∃ F', IsPk w'.heap p (x.put a b) F' ∧ Fr F w w' ∧ Grew w F F' := by
  refine s_pack_Packer_put fun R hR => ?_
  unfold c_pack_Packer_put
  refine cal_i (works_spec hp) ?_
  rintro v _ ⟨rfl, rfl⟩
  cases hw : x.works with
  | false =>
    simp only [nilc_some, fad_mk, pik_true, pik_false, cnd_true, cnd_false, gif_same, gif_tf, gif_ft, gif_undef, bi_add, bi_sub, bi_mul, bi_eql, bi_neq, bi_lss, bi_leq, bi_gtr, bi_geq, notB_bool, cvi_int, lenS_mk, lenT_mk, ext0, ext1, ext2, nilP_mk, nilS_mk, fldv_agg, jn0_k, jn1_k, jn2_k, jn1_and, jn1_or, ex_some, Option.isNone_some, Option.isNone_none, Bool.false_bne, Bool.bne_true, Bool.bne_false, Bool.true_bne, Bool.not_true, Bool.not_false, Bool.and_true, Bool.true_and, Bool.and_false, Bool.false_and, Bool.or_true, Bool.true_or, Bool.or_false, Bool.false_or, cond_true, cond_false, List.getElem?_toArray, List.getElem?_cons_zero, List.getElem?_cons_succ, Nat.zero_add, Nat.add_zero, Nat.reduceAdd, forall_const]
    exact hR _ _ ⟨rfl, F, by rw [Pk.put, hw]; exact hp, Fr.refl _ _, Grew.refl _ _⟩
  | true =>
    obtain ⟨hl0, hl1, hl2⟩ := hok hw
    obtain ⟨g, s, E, G, rfl, hg, ho, hn, rfl⟩ := hp
    have hput : x.put a b = if x.limit - x.b.length < (a.length : Int) + b.length then { x with e := 10 } else { x with b := x.b ++ (a ++ b) } := by rw [Pk.put, if_pos hw]
    simp only [nilc_some, fad_mk, pik_true, pik_false, cnd_true, cnd_false, gif_same, gif_tf, gif_ft, gif_undef, bi_add, bi_sub, bi_mul, bi_eql, bi_neq, bi_lss, bi_leq, bi_gtr, bi_geq, notB_bool, cvi_int, lenS_mk, lenT_mk, ext0, ext1, ext2, nilP_mk, nilS_mk, fldv_agg, jn0_k, jn1_k, jn2_k, jn1_and, jn1_or, ex_some, Option.isNone_some, Option.isNone_none, Bool.false_bne, Bool.bne_true, Bool.bne_false, Bool.true_bne, Bool.not_true, Bool.not_false, Bool.and_true, Bool.true_and, Bool.and_false, Bool.false_and, Bool.or_true, Bool.true_or, Bool.or_false, Bool.false_or, cond_true, cond_false, List.getElem?_toArray, List.getElem?_cons_zero, List.getElem?_cons_succ, Nat.zero_add, Nat.add_zero, Nat.reduceAdd, forall_const, drw, ld1_eq hg, ho.rd.len, hra.len, hrb.len, wi64 (x := x.limit - x.b.length) (by omega) (by omega)]
    have hcond : (decide (x.limit - x.b.length < (a.length : Int)) || decide (IntKind.i64.wrap (x.limit - x.b.length - a.length) < (b.length : Int))) = decide (x.limit - x.b.length < (a.length : Int) + b.length) := by
      by_cases h : x.limit - x.b.length < (a.length : Int)
      · have : x.limit - x.b.length < (a.length : Int) + b.length := by omega
        simp [h, this]
      · rw [wi64 (by omega) (by omega)]
        have : (x.limit - x.b.length - a.length < (b.length : Int)) ↔ (x.limit - x.b.length < (a.length : Int) + b.length) := by omega
        simp [h, this]
    rw [hcond, cnd_bool]
    refine ⟨fun h => ?_, fun h => ?_⟩
    · have h : x.limit - x.b.length < (a.length : Int) + b.length := by simpa using h
      have he : x.e = 0 := by simp [Pk.works] at hw; exact hw.2
      refine cal_i (fails_spec (w := { w with drawn := _ }) hg rfl) ?_
      rintro v w' ⟨rfl, hg', hf⟩
      rw [if_pos he] at hg'
      refine hR _ _ ⟨rfl, g :: G, ?_, hf.ofDrew.sub (by simp), Grew.refl _ _⟩
      rw [hput, if_pos h]
      exact ⟨g, s, E, G, rfl, hg', ho.fr hf.ofDrew (by simpa using fun k hk (he : k = g) => hn (he ▸ hk)), hn, rfl⟩
    · have h : ¬ x.limit - x.b.length < (a.length : Int) + b.length := by simpa using h
      refine appB ST_bytes UT_bytes (by simp) (w := { w with drawn := _ }) ho hra (by omega) fun s1 w1 G1 ho1 hf1 hG1 => ?_
      have hlt := lt_of_blk hg
      have hg1 := hf1.ofDrew.blk hg hn
      have hn1 : g ∉ G1 := hG1.not hn hlt
      have hrb1 : RdB w1.heap hb b := hrb.fr hf1.ofDrew (hob.mono (by simp +contextual))
      refine appB ST_bytes UT_bytes (by simp) ho1 hrb1 (by simp; omega) fun s2 w2 G2 ho2 hf2 hG2 => ?_
      have hg2 := hf2.blk hg1 hn1
      have hn2 : g ∉ G2 := hG2.not hn1 (lt_of_blk hg1)
      have hs2 : s2.oneCell' = true := by obtain ⟨_, _, rfl⟩ := Own.slice ho2; rfl
      refine st1_i hg2 (by simp) hs2 fun w3 hg3 hf3 => ?_
      have hG02 : Grew w G G2 := Grew.trans (w := w) hG1 hf1.ofDrew.size hG2
      refine hR _ _ ⟨rfl, g :: G2, ?_, ?_, hG02.cons g⟩
      · rw [hput, if_neg h]
        refine ⟨g, s2, E, G2, rfl, hg3, ?_, hn2, rfl⟩
        rw [← List.append_assoc]
        exact ho2.fr hf3 (by simpa using fun k hk (he : k = g) => hn2 (he ▸ hk))
      · exact ((hf1.ofDrew.seq hf2 hG1).sub (G := g :: G) (by simp +contextual)).trans hf3 (fun i hi => .inl hi) (by simp)

theorem number_spec {w : World} {n v : Nat} (hn : n ≤ 8) (hv : v < 18446744073709551616) :
    cal P f_pack_number [.int .i64 n, .int .u64 v] w fun r w' => ∃ g, r = .slice (some ⟨g, 0, none⟩) n n ∧ OwnB w'.heap r (be n v) [g] ∧ Fr [] w w' ∧ w.heap.size ≤ g := by
  refine s_pack_number fun R hR => ?_
  unfold c_pack_number
  refine mkB ST_bytes ZC_uint8 (by omega) fun w1 g hg ho hf => ?_
  simp only [nilc_some, fad_mk, pik_true, pik_false, cnd_true, cnd_false, gif_same, gif_tf, gif_ft, gif_undef, bi_add, bi_sub, bi_mul, bi_eql, bi_neq, bi_lss, bi_leq, bi_gtr, bi_geq, notB_bool, cvi_int, lenS_mk, lenT_mk, ext0, ext1, ext2, nilP_mk, nilS_mk, fldv_agg, jn0_k, jn1_k, jn2_k, jn1_and, jn1_or, ex_some, Option.isNone_some, Option.isNone_none, Bool.false_bne, Bool.bne_true, Bool.bne_false, Bool.true_bne, Bool.not_true, Bool.not_false, Bool.and_true, Bool.true_and, Bool.and_false, Bool.false_and, Bool.or_true, Bool.true_or, Bool.or_false, Bool.false_or, cond_true, cond_false, List.getElem?_toArray, List.getElem?_cons_zero, List.getElem?_cons_succ, Nat.zero_add, Nat.add_zero, Nat.reduceAdd, forall_const]
  refine ⟨fun a w2 => ∃ i : Nat, i ≤ n ∧ a = .int .i64 i ∧ OwnB w2.heap (.slice (some ⟨g, 0, none⟩) n n) (List.replicate (n - i) 0 ++ be i v) [g] ∧ Fr [] w w2, fun a _ => n - (RowKit.intOf a).toNat,
    ⟨0, by omega, rfl, by simpa [be] using ho, hf⟩, ?_⟩
  rintro _ w2 ⟨i, hi, rfl, ho2, hf2⟩ -
  simp only [nilc_some, fad_mk, pik_true, pik_false, cnd_true, cnd_false, gif_same, gif_tf, gif_ft, gif_undef, bi_add, bi_sub, bi_mul, bi_eql, bi_neq, bi_lss, bi_leq, bi_gtr, bi_geq, notB_bool, cvi_int, lenS_mk, lenT_mk, ext0, ext1, ext2, nilP_mk, nilS_mk, fldv_agg, jn0_k, jn1_k, jn2_k, jn1_and, jn1_or, ex_some, Option.isNone_some, Option.isNone_none, Bool.false_bne, Bool.bne_true, Bool.bne_false, Bool.true_bne, Bool.not_true, Bool.not_false, Bool.and_true, Bool.true_and, Bool.and_false, Bool.false_and, Bool.or_true, Bool.true_or, Bool.or_false, Bool.false_or, cond_true, cond_false, List.getElem?_toArray, List.getElem?_cons_zero, List.getElem?_cons_succ, Nat.zero_add, Nat.add_zero, Nat.reduceAdd, forall_const]
  rw [cnd_bool]
  refine ⟨fun h => ?_, fun h => ?_⟩
  · have hlt : i < n := by simpa using h
    simp (disch := omega) only [nilc_some, fad_mk, pik_true, pik_false, cnd_true, cnd_false, gif_same, gif_tf, gif_ft, gif_undef, bi_add, bi_sub, bi_mul, bi_eql, bi_neq, bi_lss, bi_leq, bi_gtr, bi_geq, notB_bool, cvi_int, lenS_mk, lenT_mk, ext0, ext1, ext2, nilP_mk, nilS_mk, fldv_agg, jn0_k, jn1_k, jn2_k, jn1_and, jn1_or, ex_some, Option.isNone_some, Option.isNone_none, Bool.false_bne, Bool.bne_true, Bool.bne_false, Bool.true_bne, Bool.not_true, Bool.not_false, Bool.and_true, Bool.true_and, Bool.and_false, Bool.false_and, Bool.or_true, Bool.true_or, Bool.or_false, Bool.false_or, cond_true, cond_false, List.getElem?_toArray, List.getElem?_cons_zero, List.getElem?_cons_succ, Nat.zero_add, Nat.add_zero, Nat.reduceAdd, forall_const, wi64, sh_shr]
    have e1 : IntKind.u64.bits = 64 := rfl
    have e2 : (n : Int) - 1 - i = ((n - 1 - i : Nat) : Int) := by omega
    rw [e1, shr8 v i (by omega), bv_of _ (Int.natCast_nonneg _), Int.toNat_natCast, e2]
    refine stxB ho2 (by simp [be_length]; omega) _ fun w3 ho3 hf3 => ?_
    refine ⟨⟨i + 1, by omega, by simp, ?_, hf2.trans hf3 (by simp) (by simp; omega)⟩, by simp [RowKit.intOf]; omega⟩
    have e3 : (List.replicate (n - i) (0 : UInt8) ++ be i v).set (n - 1 - i) (UInt8.ofNat (v / 256 ^ i)) = List.replicate (n - (i + 1)) 0 ++ be (i + 1) v := by
      rw [show n - i = (n - (i + 1)) + 1 by omega, List.replicate_succ', List.append_assoc, List.set_append_right _ _ (by simp; omega), be_cons]
      congr 1
      rw [show n - 1 - i - (List.replicate (n - (i + 1)) (0 : UInt8)).length = 0 by simp; omega]
      rfl
    rw [← e3]
    exact ho3
  · have hlt : ¬ i < n := by simpa using h
    obtain rfl : i = n := by omega
    exact hR _ _ ⟨g, rfl, by simpa using ho2, hf2, by omega⟩

/-- Bytes that are put, if they fit. -/
def Pk.add (x : Pk) (a : List UInt8) : Pk :=
  if x.works then (if x.limit - x.b.length < (a.length : Int) then { x with e := 10 } else { x with b := x.b ++ a }) else x
theorem Pk.put_add (x : Pk) (a b : List UInt8) : x.put a b = x.add (a ++ b) := by
  unfold Pk.put Pk.add
  have : ((a ++ b).length : Int) = a.length + b.length := by simp
  rw [this]
theorem Pk.add_ok {x : Pk} (h : x.Ok) (a : List UInt8) : (x.add a).Ok := by
  have := Pk.put_ok h a []
  rwa [Pk.put_add, List.append_nil] at this
theorem Pk.made_add (x : Pk) (a : List UInt8) : (x.add a).made = x.made := by unfold Pk.add; split <;> (try split) <;> rfl
theorem IsPk.off {h : Heap} {p : Value} {x : Pk} {F G : List Nat} {v : Value} {l : List UInt8} (hp : IsPk h p x F) (ho : OwnB h v l G) (hd : ∀ k ∈ G, h.size ≤ k) : False ∨ Off v F := .inr (Own.off ho fun k hk hm => by have := hp.lt k hm; have := hd k hk; omega)
theorem add_spec {w : World} {p ha hb : Value} {x : Pk} {F : List Nat} {a b : List UInt8} (hp : IsPk w.heap p x F) (hok : x.Ok) (hra : RdB w.heap ha a) (hrb : RdB w.heap hb b) (hoa : Off ha F) (hob : Off hb F) :
    cal P f_pack_Packer_put [p, ha, hb] w fun v w' => ∃ F', IsPk w'.heap p (x.add (a ++ b)) F' ∧ Fr F w w' ∧ Grew w F F' :=
  cal_i (put_spec hp hok hra hrb hoa hob) fun v w' ⟨_, F', h1, h2, h3⟩ => ⟨F', by rw [← Pk.put_add]; exact h1, h2, h3⟩
/-- A number, and bytes behind it. -/
theorem putnum {w : World} {p hb : Value} {x : Pk} {F : List Nat} {b : List UInt8} {n v : Nat} {K : World → Prop} (hp : IsPk w.heap p x F) (hok : x.Ok) (hrb : RdB w.heap hb b) (hob : Off hb F) (hn : n ≤ 8) (hv : v < 18446744073709551616)
    (h : ∀ w' F', IsPk w'.heap p (x.add (be n v ++ b)) F' → Fr F w w' → Grew w F F' → K w') :
    cal P f_pack_number [.int .i64 n, .int .u64 v] w fun t w => cal P f_pack_Packer_put [p, t, hb] w fun _ w => K w := by
  refine cal_i (number_spec hn hv) ?_
  rintro t w1 ⟨g, rfl, ho, hf, hg⟩
  have hp1 := hp.fr hf (by simp)
  refine cal_i (add_spec hp1 hok ho.rd (hrb.fr hf (off_nil _)) (Own.off ho ?_) hob) ?_
  · intro k hk hm
    have := hp.lt k hm
    simp at hk
    omega
  · rintro _ w2 ⟨F', h1, h2, h3⟩
    exact h w2 F' h1 (hf.trans h2 (by simp) fun i hi => .inl hi) (fun k hk => (h3 k hk).imp id fun hh => Nat.le_trans hf.size hh)
/-- What a call on a packer gives. -/
def PutQ (p : Value) (x : Pk) (F : List Nat) (w : World) (v : Value) (w' : World) : Prop := v = .tuple #[] ∧ ∃ F', IsPk w'.heap p x F' ∧ Fr F w w' ∧ Grew w F F'
section
variable {w : World} {p : Value} {x : Pk} {F : List Nat} (hp : IsPk w.heap p x F) (hok : x.Ok)
include hp hok
theorem Byte_spec {v : Nat} (hv : v < 256) : cal P f_pack_Packer_Byte [p, .int .u8 v] w (PutQ p (x.add (be 1 v)) F w) := by
  refine s_pack_Packer_Byte fun R hR => ?_
  unfold c_pack_Packer_Byte
  simp (disch := omega) only [nilc_some, fad_mk, pik_true, pik_false, cnd_true, cnd_false, gif_same, gif_tf, gif_ft, gif_undef, bi_add, bi_sub, bi_mul, bi_eql, bi_neq, bi_lss, bi_leq, bi_gtr, bi_geq, notB_bool, cvi_int, lenS_mk, lenT_mk, ext0, ext1, ext2, nilP_mk, nilS_mk, fldv_agg, jn0_k, jn1_k, jn2_k, jn1_and, jn1_or, ex_some, Option.isNone_some, Option.isNone_none, Bool.false_bne, Bool.bne_true, Bool.bne_false, Bool.true_bne, Bool.not_true, Bool.not_false, Bool.and_true, Bool.true_and, Bool.and_false, Bool.false_and, Bool.or_true, Bool.true_or, Bool.or_false, Bool.false_or, cond_true, cond_false, List.getElem?_toArray, List.getElem?_cons_zero, List.getElem?_cons_succ, Nat.zero_add, Nat.add_zero, Nat.reduceAdd, forall_const, wu64i]
  refine putnum (n := 1) hp hok (RdB.nil _ _) (by intro g o n c h; cases h) (by omega) (by omega) fun w' F' h1 h2 h3 => ?_
  rw [List.append_nil] at h1
  exact hR _ _ ⟨rfl, F', h1, h2, h3⟩
theorem Short_spec {v : Nat} (hv : v < 65536) : cal P f_pack_Packer_Short [p, .int .u16 v] w (PutQ p (x.add (be 2 v)) F w) := by
  refine s_pack_Packer_Short fun R hR => ?_
  unfold c_pack_Packer_Short
  simp (disch := omega) only [nilc_some, fad_mk, pik_true, pik_false, cnd_true, cnd_false, gif_same, gif_tf, gif_ft, gif_undef, bi_add, bi_sub, bi_mul, bi_eql, bi_neq, bi_lss, bi_leq, bi_gtr, bi_geq, notB_bool, cvi_int, lenS_mk, lenT_mk, ext0, ext1, ext2, nilP_mk, nilS_mk, fldv_agg, jn0_k, jn1_k, jn2_k, jn1_and, jn1_or, ex_some, Option.isNone_some, Option.isNone_none, Bool.false_bne, Bool.bne_true, Bool.bne_false, Bool.true_bne, Bool.not_true, Bool.not_false, Bool.and_true, Bool.true_and, Bool.and_false, Bool.false_and, Bool.or_true, Bool.true_or, Bool.or_false, Bool.false_or, cond_true, cond_false, List.getElem?_toArray, List.getElem?_cons_zero, List.getElem?_cons_succ, Nat.zero_add, Nat.add_zero, Nat.reduceAdd, forall_const, wu64i]
  refine putnum (n := 2) hp hok (RdB.nil _ _) (by intro g o n c h; cases h) (by omega) (by omega) fun w' F' h1 h2 h3 => ?_
  rw [List.append_nil] at h1
  exact hR _ _ ⟨rfl, F', h1, h2, h3⟩
theorem Int_spec {v : Nat} (hv : v < 4294967296) : cal P f_pack_Packer_Int [p, .int .u32 v] w (PutQ p (x.add (be 4 v)) F w) := by
  refine s_pack_Packer_Int fun R hR => ?_
  unfold c_pack_Packer_Int
  simp (disch := omega) only [nilc_some, fad_mk, pik_true, pik_false, cnd_true, cnd_false, gif_same, gif_tf, gif_ft, gif_undef, bi_add, bi_sub, bi_mul, bi_eql, bi_neq, bi_lss, bi_leq, bi_gtr, bi_geq, notB_bool, cvi_int, lenS_mk, lenT_mk, ext0, ext1, ext2, nilP_mk, nilS_mk, fldv_agg, jn0_k, jn1_k, jn2_k, jn1_and, jn1_or, ex_some, Option.isNone_some, Option.isNone_none, Bool.false_bne, Bool.bne_true, Bool.bne_false, Bool.true_bne, Bool.not_true, Bool.not_false, Bool.and_true, Bool.true_and, Bool.and_false, Bool.false_and, Bool.or_true, Bool.true_or, Bool.or_false, Bool.false_or, cond_true, cond_false, List.getElem?_toArray, List.getElem?_cons_zero, List.getElem?_cons_succ, Nat.zero_add, Nat.add_zero, Nat.reduceAdd, forall_const, wu64i]
  refine putnum (n := 4) hp hok (RdB.nil _ _) (by intro g o n c h; cases h) (by omega) (by omega) fun w' F' h1 h2 h3 => ?_
  rw [List.append_nil] at h1
  exact hR _ _ ⟨rfl, F', h1, h2, h3⟩
theorem Long_spec {v : Nat} (hv : v < 18446744073709551616) : cal P f_pack_Packer_Long [p, .int .u64 v] w (PutQ p (x.add (be 8 v)) F w) := by
  refine s_pack_Packer_Long fun R hR => ?_
  unfold c_pack_Packer_Long
  refine putnum (n := 8) hp hok (RdB.nil _ _) (by intro g o n c h; cases h) (by omega) hv fun w' F' h1 h2 h3 => ?_
  rw [List.append_nil] at h1
  exact hR _ _ ⟨rfl, F', h1, h2, h3⟩
theorem Fixed_spec {hb : Value} {b : List UInt8} (hrb : RdB w.heap hb b) (hob : Off hb F) : cal P f_pack_Packer_Fixed [p, hb] w (PutQ p (x.add b) F w) := by
  refine s_pack_Packer_Fixed fun R hR => ?_
  unfold c_pack_Packer_Fixed
  refine cal_i (add_spec hp hok (RdB.nil _ _) hrb (by intro g o n c h; cases h) hob) ?_
  rintro _ w2 ⟨F', h1, h2, h3⟩
  exact hR _ _ ⟨rfl, F', h1, h2, h3⟩
theorem Bytes_spec {hb : Value} {b : List UInt8} (hrb : RdB w.heap hb b) (hob : Off hb F) (hl : b.length < 18446744073709551616) : cal P f_pack_Packer_Bytes [p, hb] w (PutQ p (x.add (be 4 b.length ++ b)) F w) := by
  refine s_pack_Packer_Bytes fun R hR => ?_
  unfold c_pack_Packer_Bytes
  simp (disch := omega) only [nilc_some, fad_mk, pik_true, pik_false, cnd_true, cnd_false, gif_same, gif_tf, gif_ft, gif_undef, bi_add, bi_sub, bi_mul, bi_eql, bi_neq, bi_lss, bi_leq, bi_gtr, bi_geq, notB_bool, cvi_int, lenS_mk, lenT_mk, ext0, ext1, ext2, nilP_mk, nilS_mk, fldv_agg, jn0_k, jn1_k, jn2_k, jn1_and, jn1_or, ex_some, Option.isNone_some, Option.isNone_none, Bool.false_bne, Bool.bne_true, Bool.bne_false, Bool.true_bne, Bool.not_true, Bool.not_false, Bool.and_true, Bool.true_and, Bool.and_false, Bool.false_and, Bool.or_true, Bool.true_or, Bool.or_false, Bool.false_or, cond_true, cond_false, List.getElem?_toArray, List.getElem?_cons_zero, List.getElem?_cons_succ, Nat.zero_add, Nat.add_zero, Nat.reduceAdd, forall_const, hrb.len, wu64i]
  exact putnum (n := 4) hp hok hrb hob (by omega) hl fun w' F' h1 h2 h3 => hR _ _ ⟨rfl, F', h1, h2, h3⟩
end
def Pk.text (x : Pk) (s : List UInt8) : Pk := if x.works then (if 65535 < s.length then { x with e := 3 } else x.add (be 2 s.length ++ s)) else x
theorem Pk.text_ok {x : Pk} (h : x.Ok) (s : List UInt8) : (x.text s).Ok := by
  unfold Pk.text
  split
  · split
    · intro hc; simp [Pk.works] at hc
    · exact Pk.add_ok h _
  · exact h
theorem Text_spec {w : World} {p : Value} {x : Pk} {F : List Nat} {s : List UInt8} (hp : IsPk w.heap p x F) (hok : x.Ok) : cal P f_pack_Packer_Text [p, .string ⟨s.toArray⟩] w (PutQ p (x.text s) F w) := by
  refine s_pack_Packer_Text fun R hR => ?_
  unfold c_pack_Packer_Text
  refine cal_i (works_spec hp) ?_
  rintro v _ ⟨rfl, rfl⟩
  have hsz : (ByteArray.mk s.toArray).size = s.length := by simp [ByteArray.size]
  cases hw : x.works with
  | false =>
    simp only [nilc_some, fad_mk, pik_true, pik_false, cnd_true, cnd_false, gif_same, gif_tf, gif_ft, gif_undef, bi_add, bi_sub, bi_mul, bi_eql, bi_neq, bi_lss, bi_leq, bi_gtr, bi_geq, notB_bool, cvi_int, lenS_mk, lenT_mk, ext0, ext1, ext2, nilP_mk, nilS_mk, fldv_agg, jn0_k, jn1_k, jn2_k, jn1_and, jn1_or, ex_some, Option.isNone_some, Option.isNone_none, Bool.false_bne, Bool.bne_true, Bool.bne_false, Bool.true_bne, Bool.not_true, Bool.not_false, Bool.and_true, Bool.true_and, Bool.and_false, Bool.false_and, Bool.or_true, Bool.true_or, Bool.or_false, Bool.false_or, cond_true, cond_false, List.getElem?_toArray, List.getElem?_cons_zero, List.getElem?_cons_succ, Nat.zero_add, Nat.add_zero, Nat.reduceAdd, forall_const]
    exact hR _ _ ⟨rfl, F, by rw [Pk.text, hw]; exact hp, Fr.refl _ _, Grew.refl _ _⟩
  | true =>
    have htext : x.text s = if 65535 < s.length then { x with e := 3 } else x.add (be 2 s.length ++ s) := by rw [Pk.text, if_pos hw]
    simp only [nilc_some, fad_mk, pik_true, pik_false, cnd_true, cnd_false, gif_same, gif_tf, gif_ft, gif_undef, bi_add, bi_sub, bi_mul, bi_eql, bi_neq, bi_lss, bi_leq, bi_gtr, bi_geq, notB_bool, cvi_int, lenS_mk, lenT_mk, ext0, ext1, ext2, nilP_mk, nilS_mk, fldv_agg, jn0_k, jn1_k, jn2_k, jn1_and, jn1_or, ex_some, Option.isNone_some, Option.isNone_none, Bool.false_bne, Bool.bne_true, Bool.bne_false, Bool.true_bne, Bool.not_true, Bool.not_false, Bool.and_true, Bool.true_and, Bool.and_false, Bool.false_and, Bool.or_true, Bool.true_or, Bool.or_false, Bool.false_or, cond_true, cond_false, List.getElem?_toArray, List.getElem?_cons_zero, List.getElem?_cons_succ, Nat.zero_add, Nat.add_zero, Nat.reduceAdd, forall_const, hsz]
    rw [cnd_bool]
    refine ⟨fun h => ?_, fun h => ?_⟩
    · have h : 65535 < s.length := by simp at h; omega
      obtain ⟨g, s', E, G, rfl, hg, ho, hn, rfl⟩ := hp
      have he : x.e = 0 := by simp [Pk.works] at hw; exact hw.2
      simp only [nilc_some, fad_mk, pik_true, pik_false, cnd_true, cnd_false, gif_same, gif_tf, gif_ft, gif_undef, bi_add, bi_sub, bi_mul, bi_eql, bi_neq, bi_lss, bi_leq, bi_gtr, bi_geq, notB_bool, cvi_int, lenS_mk, lenT_mk, ext0, ext1, ext2, nilP_mk, nilS_mk, fldv_agg, jn0_k, jn1_k, jn2_k, jn1_and, jn1_or, ex_some, Option.isNone_some, Option.isNone_none, Bool.false_bne, Bool.bne_true, Bool.bne_false, Bool.true_bne, Bool.not_true, Bool.not_false, Bool.and_true, Bool.true_and, Bool.and_false, Bool.false_and, Bool.or_true, Bool.true_or, Bool.or_false, Bool.false_or, cond_true, cond_false, List.getElem?_toArray, List.getElem?_cons_zero, List.getElem?_cons_succ, Nat.zero_add, Nat.add_zero, Nat.reduceAdd, forall_const]
      refine cal_i (fails_spec hg rfl) ?_
      rintro v w' ⟨rfl, hg', hf⟩
      rw [if_pos he] at hg'
      refine hR _ _ ⟨rfl, g :: G, ?_, hf.sub (by simp), Grew.refl _ _⟩
      rw [htext, if_pos h]
      exact ⟨g, s', E, G, rfl, hg', ho.fr hf (by simpa using fun k hk (he : k = g) => hn (he ▸ hk)), hn, rfl⟩
    · have h : ¬ 65535 < s.length := by simp at h; omega
      refine mkB ST_bytes ZC_uint8 (by omega) fun w1 g1 hg1 ho1 hf1 => ?_
      refine cpyT ST_bytes ho1 fun w2 ho2 hf2 => ?_
      have e1 : s.take (List.replicate s.length (0 : UInt8)).length ++ (List.replicate s.length (0 : UInt8)).drop s.length = s := by simp
      rw [e1] at ho2
      have hf12 : Fr [] w w2 := hf1.trans hf2 (by simp) (by simp; omega)
      simp (disch := omega) only [wu64i]
      refine putnum (n := 2) (hp.fr hf12 (by simp)) hok ho2.rd (Own.off ho2 ?_) (by omega) (by omega) fun w' F' h1 h2 h3 => ?_
      · intro k hk hm
        have := hp.lt k hm
        simp at hk
        omega
      · refine hR _ _ ⟨rfl, F', ?_, hf12.trans h2 (by simp) fun i hi => .inl hi, fun k hk => (h3 k hk).imp id fun hh => Nat.le_trans hf12.size hh⟩
        rw [htext, if_neg h]
        exact h1
theorem Len_spec {w : World} {p : Value} {x : Pk} {F : List Nat} (hp : IsPk w.heap p x F) : cal P f_pack_Packer_Len [p] w fun v w' => v = .int .i64 x.b.length ∧ w = w' := by
  obtain ⟨g, s, E, G, rfl, hg, ho, hn, rfl⟩ := hp
  refine s_pack_Packer_Len fun R hR => ?_
  unfold c_pack_Packer_Len
  simp only [nilc_some, fad_mk, pik_true, pik_false, cnd_true, cnd_false, gif_same, gif_tf, gif_ft, gif_undef, bi_add, bi_sub, bi_mul, bi_eql, bi_neq, bi_lss, bi_leq, bi_gtr, bi_geq, notB_bool, cvi_int, lenS_mk, lenT_mk, ext0, ext1, ext2, nilP_mk, nilS_mk, fldv_agg, jn0_k, jn1_k, jn2_k, jn1_and, jn1_or, ex_some, Option.isNone_some, Option.isNone_none, Bool.false_bne, Bool.bne_true, Bool.bne_false, Bool.true_bne, Bool.not_true, Bool.not_false, Bool.and_true, Bool.true_and, Bool.and_false, Bool.false_and, Bool.or_true, Bool.true_or, Bool.or_false, Bool.false_or, cond_true, cond_false, List.getElem?_toArray, List.getElem?_cons_zero, List.getElem?_cons_succ, Nat.zero_add, Nat.add_zero, Nat.reduceAdd, forall_const, ld1_eq hg, ho.rd.len]
  exact hR _ _ ⟨rfl, rfl⟩
def Pk.err (x : Pk) : Int := if x.made then x.e else 2
theorem Err_spec {w : World} {p : Value} {x : Pk} {F : List Nat} (hp : IsPk w.heap p x F) : cal P f_pack_Packer_Err [p] w fun v w' => v = .int .i64 x.err ∧ w = w' := by
  obtain ⟨g, s, E, G, rfl, hg, ho, hn, rfl⟩ := hp
  refine s_pack_Packer_Err fun R hR => ?_
  unfold c_pack_Packer_Err
  cases hm : x.made with
  | true => rw [hm] at hg; simp only [nilc_some, fad_mk, pik_true, pik_false, cnd_true, cnd_false, gif_same, gif_tf, gif_ft, gif_undef, bi_add, bi_sub, bi_mul, bi_eql, bi_neq, bi_lss, bi_leq, bi_gtr, bi_geq, notB_bool, cvi_int, lenS_mk, lenT_mk, ext0, ext1, ext2, nilP_mk, nilS_mk, fldv_agg, jn0_k, jn1_k, jn2_k, jn1_and, jn1_or, ex_some, Option.isNone_some, Option.isNone_none, Bool.false_bne, Bool.bne_true, Bool.bne_false, Bool.true_bne, Bool.not_true, Bool.not_false, Bool.and_true, Bool.true_and, Bool.and_false, Bool.false_and, Bool.or_true, Bool.true_or, Bool.or_false, Bool.false_or, cond_true, cond_false, List.getElem?_toArray, List.getElem?_cons_zero, List.getElem?_cons_succ, Nat.zero_add, Nat.add_zero, Nat.reduceAdd, forall_const, ld1_eq hg]; exact hR _ _ ⟨by simp [Pk.err, hm], rfl⟩
  | false => rw [hm] at hg; simp only [nilc_some, fad_mk, pik_true, pik_false, cnd_true, cnd_false, gif_same, gif_tf, gif_ft, gif_undef, bi_add, bi_sub, bi_mul, bi_eql, bi_neq, bi_lss, bi_leq, bi_gtr, bi_geq, notB_bool, cvi_int, lenS_mk, lenT_mk, ext0, ext1, ext2, nilP_mk, nilS_mk, fldv_agg, jn0_k, jn1_k, jn2_k, jn1_and, jn1_or, ex_some, Option.isNone_some, Option.isNone_none, Bool.false_bne, Bool.bne_true, Bool.bne_false, Bool.true_bne, Bool.not_true, Bool.not_false, Bool.and_true, Bool.true_and, Bool.and_false, Bool.false_and, Bool.or_true, Bool.true_or, Bool.or_false, Bool.false_or, cond_true, cond_false, List.getElem?_toArray, List.getElem?_cons_zero, List.getElem?_cons_succ, Nat.zero_add, Nat.add_zero, Nat.reduceAdd, forall_const, ld1_eq hg]; exact hR _ _ ⟨by simp [Pk.err, hm], rfl⟩
/-- What a packer tells at last. -/
theorem Out_spec {w : World} {p : Value} {x : Pk} {F : List Nat} (hp : IsPk w.heap p x F) (hb : x.b.length ≤ 281474976710656) : cal P f_pack_Packer_Out [p] w fun v w' =>
    Fr [] w w' ∧ ((x.err = 0 ∧ ∃ s g, v = .tuple #[s, .int .i64 0] ∧ OwnB w'.heap s x.b [g] ∧ w.heap.size ≤ g) ∨ (x.err ≠ 0 ∧ v = .tuple #[.slice none 0 0, .int .i64 x.err])) := by
  refine s_pack_Packer_Out fun R hR => ?_
  unfold c_pack_Packer_Out
  refine cal_i (Err_spec hp) ?_
  rintro v _ ⟨rfl, rfl⟩
  simp only [nilc_some, fad_mk, pik_true, pik_false, cnd_true, cnd_false, gif_same, gif_tf, gif_ft, gif_undef, bi_add, bi_sub, bi_mul, bi_eql, bi_neq, bi_lss, bi_leq, bi_gtr, bi_geq, notB_bool, cvi_int, lenS_mk, lenT_mk, ext0, ext1, ext2, nilP_mk, nilS_mk, fldv_agg, jn0_k, jn1_k, jn2_k, jn1_and, jn1_or, ex_some, Option.isNone_some, Option.isNone_none, Bool.false_bne, Bool.bne_true, Bool.bne_false, Bool.true_bne, Bool.not_true, Bool.not_false, Bool.and_true, Bool.true_and, Bool.and_false, Bool.false_and, Bool.or_true, Bool.true_or, Bool.or_false, Bool.false_or, cond_true, cond_false, List.getElem?_toArray, List.getElem?_cons_zero, List.getElem?_cons_succ, Nat.zero_add, Nat.add_zero, Nat.reduceAdd, forall_const]
  rw [cnd_bool]
  refine ⟨fun h => ?_, fun h => ?_⟩
  · exact hR _ _ ⟨Fr.refl _ _, .inr ⟨by simpa using h, rfl⟩⟩
  · obtain ⟨g, s, E, G, rfl, hg, ho, hn, rfl⟩ := hp
    simp only [nilc_some, fad_mk, pik_true, pik_false, cnd_true, cnd_false, gif_same, gif_tf, gif_ft, gif_undef, bi_add, bi_sub, bi_mul, bi_eql, bi_neq, bi_lss, bi_leq, bi_gtr, bi_geq, notB_bool, cvi_int, lenS_mk, lenT_mk, ext0, ext1, ext2, nilP_mk, nilS_mk, fldv_agg, jn0_k, jn1_k, jn2_k, jn1_and, jn1_or, ex_some, Option.isNone_some, Option.isNone_none, Bool.false_bne, Bool.bne_true, Bool.bne_false, Bool.true_bne, Bool.not_true, Bool.not_false, Bool.and_true, Bool.true_and, Bool.and_false, Bool.false_and, Bool.or_true, Bool.true_or, Bool.or_false, Bool.false_or, cond_true, cond_false, List.getElem?_toArray, List.getElem?_cons_zero, List.getElem?_cons_succ, Nat.zero_add, Nat.add_zero, Nat.reduceAdd, forall_const, ld1_eq hg, ho.rd.len]
    refine mkB ST_bytes ZC_uint8 hb fun w1 g1 hg1 ho1 hf1 => ?_
    have hgg := hf1.blk hg (by simp)
    simp only [nilc_some, fad_mk, pik_true, pik_false, cnd_true, cnd_false, gif_same, gif_tf, gif_ft, gif_undef, bi_add, bi_sub, bi_mul, bi_eql, bi_neq, bi_lss, bi_leq, bi_gtr, bi_geq, notB_bool, cvi_int, lenS_mk, lenT_mk, ext0, ext1, ext2, nilP_mk, nilS_mk, fldv_agg, jn0_k, jn1_k, jn2_k, jn1_and, jn1_or, ex_some, Option.isNone_some, Option.isNone_none, Bool.false_bne, Bool.bne_true, Bool.bne_false, Bool.true_bne, Bool.not_true, Bool.not_false, Bool.and_true, Bool.true_and, Bool.and_false, Bool.false_and, Bool.or_true, Bool.true_or, Bool.or_false, Bool.false_or, cond_true, cond_false, List.getElem?_toArray, List.getElem?_cons_zero, List.getElem?_cons_succ, Nat.zero_add, Nat.add_zero, Nat.reduceAdd, forall_const, ld1_eq hgg]
    refine cpyB ST_bytes ho1 (ho.fr hf1 (by simp)).rd fun w2 ho2 hf2 => ?_
    have e1 : x.b.take (List.replicate x.b.length (0 : UInt8)).length ++ (List.replicate x.b.length (0 : UInt8)).drop x.b.length = x.b := by simp
    rw [e1] at ho2
    exact hR _ _ ⟨hf1.trans hf2 (by simp) (by simp; omega), .inl ⟨by simpa using h, _, g1, rfl, ho2, by omega⟩⟩
/-- A packer at first. -/
def Pk.new (n : Int) : Pk := ⟨true, [], if n < 0 ∨ 8192 < n then 1 else 0, n⟩
theorem Pk.new_ok (n : Int) : (Pk.new n).Ok := by
  intro h
  simp [Pk.works, Pk.new] at h ⊢
  omega
theorem New_spec {w : World} (n : Int) : cal P f_pack_New [.int .i64 n] w fun v w' => ∃ F, IsPk w'.heap v (Pk.new n) F ∧ Fr [] w w' ∧ ∀ k ∈ F, w.heap.size ≤ k := by
  refine s_pack_New fun R hR => ?_
  unfold c_pack_New
  have hb : (Instr.build T_pack_Packer #[(1, .int .i64 n)]).run P w = .ok (.agg #[.bool false, .slice none 0 0, .int .i64 0, .int .i64 n]) w := by kernel_rfl
  rw [rdP_eq hb]
  refine bx_i fun w1 g hg hg1 hf1 => ?_
  simp only [nilc_some, fad_mk, pik_true, pik_false, cnd_true, cnd_false, gif_same, gif_tf, gif_ft, gif_undef, bi_add, bi_sub, bi_mul, bi_eql, bi_neq, bi_lss, bi_leq, bi_gtr, bi_geq, notB_bool, cvi_int, lenS_mk, lenT_mk, ext0, ext1, ext2, nilP_mk, nilS_mk, fldv_agg, jn0_k, jn1_k, jn2_k, jn1_and, jn1_or, ex_some, Option.isNone_some, Option.isNone_none, Bool.false_bne, Bool.bne_true, Bool.bne_false, Bool.true_bne, Bool.not_true, Bool.not_false, Bool.and_true, Bool.true_and, Bool.and_false, Bool.false_and, Bool.or_true, Bool.true_or, Bool.or_false, Bool.false_or, cond_true, cond_false, List.getElem?_toArray, List.getElem?_cons_zero, List.getElem?_cons_succ, Nat.zero_add, Nat.add_zero, Nat.reduceAdd, forall_const, Value.cells] at hg1 ⊢
  refine st1_i hg1 (by simp) rfl fun w2 hg2 hf2 => ?_
  have hf : Fr [] w w2 := hf1.trans hf2 (by simp) (by simp; omega)
  have hlast : ∀ w3 e, w3.heap[g]? = some (.cells #[.bool true, .slice none 0 0, .int .i64 e, .int .i64 n] T_pack_Packer (0, 0)) → Fr [] w w3 → e = (Pk.new n).e → R (.pointer (some ⟨g, 0, none⟩)) w3 := by
    intro w3 e h1 h2 he
    subst he
    exact hR _ _ ⟨[g], ⟨g, _, _, [], rfl, h1, OwnB.nil _, by simp, rfl⟩, h2, by simp; omega⟩
  rw [cnd_bool]
  refine ⟨fun h => ?_, fun h => ?_⟩
  · have h : n < 0 ∨ 8192 < n := by simpa using h
    refine st1_i hg2 (by simp) rfl fun w3 hg3 hf3 => hlast w3 1 hg3 (hf.trans hf3 (by simp) (by simp; omega)) ?_
    simp [Pk.new, h]
  · have h : ¬ (n < 0 ∨ 8192 < n) := by simpa using h
    exact hlast w2 0 hg2 hf (by simp [Pk.new, h])
end Go.Fx
