/-
  The message of bytes: the document's.
-/
import Derived.Test.YtaodibbogbkgdaaMgL
set_option linter.unusedVariables false
set_option linter.unusedSimpArgs false
namespace Go.Fx
def numM (l : List UInt8) (at' : Nat) : Int := if l.length < at' + 4 then -1 else (ofBe ((l.drop at').take 4) : Nat)
theorem four_of {l : List UInt8} {a : Nat} (h : a + 4 ≤ l.length) : (l.drop a).take 4 = [l[a], l[a + 1], l[a + 2], l[a + 3]] := by
  apply List.ext_getElem?
  intro i
  by_cases hi : i < 4
  · rw [List.getElem?_take_of_lt hi, List.getElem?_drop, List.getElem?_eq_getElem (by omega)]
    have : i = 0 ∨ i = 1 ∨ i = 2 ∨ i = 3 := by omega
    rcases this with rfl | rfl | rfl | rfl <;> rfl
  · rw [List.getElem?_eq_none (by simp; omega), List.getElem?_eq_none (by simp; omega)]
theorem Msg.bytes_ge (n : Msg) : 5 ≤ n.bytes.length := by
  unfold Msg.bytes
  simp only [List.length_append, be_length]
  omega
theorem short_no {l : List UInt8} (h : l.length < 5) : IsParse l Msg.zero 40 := .inr ⟨rfl, rfl, fun n hn hb => by have := Msg.bytes_ge n; rw [hb] at this; omega⟩
section
variable {w0 w : World} {As : List Asn} {v : Value} {l : List UInt8}
theorem num_spec (hb : RdB w.heap v l) (hl : l.length ≤ 100000) (a : Nat) (ha : a ≤ 200000) : cal P f_ref04_num [v, .int .i64 a] w fun r w' => r = .int .i64 (numM l a) ∧ Fr [] w w' := by
  refine s_ref04_num fun R hR => ?_
  unfold c_ref04_num
  rw [numM] at hR
  by_cases h1 : l.length < a + 4
  · rw [if_pos h1] at hR
    by_cases h2 : l.length < a
    · have e : decide ((l.length : Int) < (a : Int)) = true := by simp; omega
      simp only [nilc_some, fad_mk, pik_true, pik_false, cnd_true, cnd_false, gif_same, gif_tf, gif_ft, gif_undef, bi_add, bi_sub, bi_mul, bi_eql, bi_neq, bi_lss, bi_leq, bi_gtr, bi_geq, notB_bool, cvi_int, lenS_mk, lenT_mk, ext0, ext1, ext2, nilP_mk, nilS_mk, fldv_agg, jn0_k, jn1_k, jn2_k, jn1_and, jn1_or, ex_some, Option.isNone_some, Option.isNone_none, Bool.false_bne, Bool.bne_true, Bool.bne_false, Bool.true_bne, Bool.not_true, Bool.not_false, Bool.and_true, Bool.true_and, Bool.and_false, Bool.false_and, Bool.or_true, Bool.true_or, Bool.or_false, Bool.false_or, cond_true, cond_false, List.getElem?_toArray, List.getElem?_cons_zero, List.getElem?_cons_succ, Nat.zero_add, Nat.add_zero, Nat.reduceAdd, forall_const, hb.len, e]
      exact hR _ _ ⟨rfl, Fr.refl _ _⟩
    · have e : decide ((l.length : Int) < (a : Int)) = false := by simp; omega
      simp only [nilc_some, fad_mk, pik_true, pik_false, cnd_true, cnd_false, gif_same, gif_tf, gif_ft, gif_undef, bi_add, bi_sub, bi_mul, bi_eql, bi_neq, bi_lss, bi_leq, bi_gtr, bi_geq, notB_bool, cvi_int, lenS_mk, lenT_mk, ext0, ext1, ext2, nilP_mk, nilS_mk, fldv_agg, jn0_k, jn1_k, jn2_k, jn1_and, jn1_or, ex_some, Option.isNone_some, Option.isNone_none, Bool.false_bne, Bool.bne_true, Bool.bne_false, Bool.true_bne, Bool.not_true, Bool.not_false, Bool.and_true, Bool.true_and, Bool.and_false, Bool.false_and, Bool.or_true, Bool.true_or, Bool.or_false, Bool.false_or, cond_true, cond_false, List.getElem?_toArray, List.getElem?_cons_zero, List.getElem?_cons_succ, Nat.zero_add, Nat.add_zero, Nat.reduceAdd, forall_const, hb.len, e]
      rw [wi64 (by omega) (by omega)]
      have e2 : decide ((l.length : Int) - (a : Int) < 4) = true := by simp; omega
      simp only [nilc_some, fad_mk, pik_true, pik_false, cnd_true, cnd_false, gif_same, gif_tf, gif_ft, gif_undef, bi_add, bi_sub, bi_mul, bi_eql, bi_neq, bi_lss, bi_leq, bi_gtr, bi_geq, notB_bool, cvi_int, lenS_mk, lenT_mk, ext0, ext1, ext2, nilP_mk, nilS_mk, fldv_agg, jn0_k, jn1_k, jn2_k, jn1_and, jn1_or, ex_some, Option.isNone_some, Option.isNone_none, Bool.false_bne, Bool.bne_true, Bool.bne_false, Bool.true_bne, Bool.not_true, Bool.not_false, Bool.and_true, Bool.true_and, Bool.and_false, Bool.false_and, Bool.or_true, Bool.true_or, Bool.or_false, Bool.false_or, cond_true, cond_false, List.getElem?_toArray, List.getElem?_cons_zero, List.getElem?_cons_succ, Nat.zero_add, Nat.add_zero, Nat.reduceAdd, forall_const, e2]
      exact hR _ _ ⟨rfl, Fr.refl _ _⟩
  · rw [if_neg h1] at hR
    have e : decide ((l.length : Int) < (a : Int)) = false := by simp; omega
    have e2 : decide (IntKind.i64.wrap ((l.length : Int) - (a : Int)) < 4) = false := by rw [wi64 (by omega) (by omega)]; simp; omega
    simp only [nilc_some, fad_mk, pik_true, pik_false, cnd_true, cnd_false, gif_same, gif_tf, gif_ft, gif_undef, bi_add, bi_sub, bi_mul, bi_eql, bi_neq, bi_lss, bi_leq, bi_gtr, bi_geq, notB_bool, cvi_int, lenS_mk, lenT_mk, ext0, ext1, ext2, nilP_mk, nilS_mk, fldv_agg, jn0_k, jn1_k, jn2_k, jn1_and, jn1_or, ex_some, Option.isNone_some, Option.isNone_none, Bool.false_bne, Bool.bne_true, Bool.bne_false, Bool.true_bne, Bool.not_true, Bool.not_false, Bool.and_true, Bool.true_and, Bool.and_false, Bool.false_and, Bool.or_true, Bool.true_or, Bool.or_false, Bool.false_or, cond_true, cond_false, List.getElem?_toArray, List.getElem?_cons_zero, List.getElem?_cons_succ, Nat.zero_add, Nat.add_zero, Nat.reduceAdd, forall_const, hb.len, e, e2]
    refine drw_s (Sep.start w) fun w1 hs1 _ => ?_
    have ix : ∀ i : Nat, i ≤ 3 → IntKind.i64.wrap ((a : Int) + (i : Int)) = ((a + i : Nat) : Int) := fun i hi => by rw [wi64 (by omega) (by omega)]; omega
    have i1 : IntKind.i64.wrap ((a : Int) + 1) = ((a + 1 : Nat) : Int) := ix 1 (by omega)
    have i2 : IntKind.i64.wrap ((a : Int) + 2) = ((a + 2 : Nat) : Int) := ix 2 (by omega)
    have i3 : IntKind.i64.wrap ((a : Int) + 3) = ((a + 3 : Nat) : Int) := ix 3 (by omega)
    have b0 := l[a].toNat_lt
    have b1 := l[a + 1].toNat_lt
    have b2 := l[a + 2].toNat_lt
    have b3 := l[a + 3].toNat_lt
    refine ldxB (hs1.rdB hb) (j := a) (by omega) ?_
    rw [Go.Fx.bv, cvi_int, bi_mul, i1]
    refine ldxB (hs1.rdB hb) (j := a + 1) (by omega) ?_
    rw [Go.Fx.bv, cvi_int, bi_mul, bi_add, i2]
    refine ldxB (hs1.rdB hb) (j := a + 2) (by omega) ?_
    rw [Go.Fx.bv, cvi_int, bi_mul, bi_add, i3]
    refine ldxB (hs1.rdB hb) (j := a + 3) (by omega) ?_
    rw [Go.Fx.bv, cvi_int, bi_add]
    refine hR _ _ ⟨?_, hs1.fr0⟩
    rw [four_of (by omega)]
    congr 1
    have w1 : ∀ x : Nat, x < 256 → IntKind.i64.wrap (x : Int) = (x : Int) := fun x hx => wi64 (by omega) (by omega)
    rw [w1 _ b0, w1 _ b1, w1 _ b2, w1 _ b3]
    rw [wi64 (x := (l[a].toNat : Int) * 16777216) (by omega) (by omega), wi64 (x := (l[a + 1].toNat : Int) * 65536) (by omega) (by omega), wi64 (x := (l[a + 2].toNat : Int) * 256) (by omega) (by omega),
      wi64 (x := (l[a].toNat : Int) * 16777216 + (l[a + 1].toNat : Int) * 65536) (by omega) (by omega), wi64 (x := (l[a].toNat : Int) * 16777216 + (l[a + 1].toNat : Int) * 65536 + (l[a + 2].toNat : Int) * 256) (by omega) (by omega), wi64 (by omega) (by omega)]
    simp [ofBe]
    omega
end
end Go.Fx
