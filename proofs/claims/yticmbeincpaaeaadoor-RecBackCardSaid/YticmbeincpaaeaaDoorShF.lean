/-
  The document's sum.
-/
import Derived.Test.YticmbeincpaaeaaDoorShE
set_option linter.unusedVariables false
set_option linter.unusedSimpArgs false
namespace Go.Fx
section
variable {w0 w : World} {b s : Value} {l m : List UInt8} {h : List W32} {As : List Asn}
/-- The bytes of a number, one at a time. -/
theorem be8_byte (v i : Nat) (hi : i < 8) (hv : v < 18446744073709551616) : cvi .u8 (.int .u64 ((v / 256 ^ (7 - i) : Nat) : Int)) = fun K => K (bv (UInt8.ofNat (v / 256 ^ (7 - i)))) := by
  funext K
  rw [cvi_int, bv_of _ (Int.natCast_nonneg _), Int.toNat_natCast]
theorem be_get (v : Nat) : ∀ n i, i < n → (be n v)[i]? = some (UInt8.ofNat (v / 256 ^ (n - 1 - i)))
  | n + 1, 0, _ => by rw [be_cons]; simp
  | n + 1, i + 1, h => by
    rw [be_cons, List.getElem?_cons_succ, be_get v n i (by omega)]
    congr 4
    omega
theorem be_take (v n i : Nat) (hi : i < n) : (be n v).take (i + 1) = (be n v).take i ++ [UInt8.ofNat (v / 256 ^ (n - 1 - i))] := by
  rw [List.take_add_one, be_get v n i hi]
  rfl
theorem shr56 (v i : Nat) (hi : i < 8) (K : Value → Prop) : sh .shr (.int .u64 (v : Int)) (.int .u64 ((56 - 8 * i : Nat) : Int)) K = K (.int .u64 ((v / 256 ^ (7 - i) : Nat) : Int)) := by
  rw [sh_shr _ _ _ _ _ (by omega)]
  have h1 : min (((56 - 8 * i : Nat) : Int)).toNat IntKind.u64.bits = 8 * (7 - i) := by show min _ 64 = _; omega
  have h2 : (2 : Int) ^ (8 * (7 - i)) = ((256 ^ (7 - i) : Nat) : Int) := by
    rw [Int.pow_mul]
    simp
  rw [h1, h2, Int.ofNat_fdiv]
theorem padded_spec (hb : RdB w.heap b l) (hl : l.length ≤ 100000) : cal P f_ref02_padded [b] w fun r w' => Sep w w' [ownB r (padT l l.length)] := by
  refine s_ref02_padded fun R hR => ?_
  unfold c_ref02_padded
  refine appB_s S_sl_uint8 U_sl_uint8 (by simp) (Sep.start w).nil hb (by simp; omega) fun v1 w1 hs1 => ?_
  rw [List.nil_append] at hs1
  refine app0 128 (.inr rfl) hs1 (by omega) fun v2 w2 hs2 => ?_
  rw [if_neg (by decide)] at hs2
  refine ⟨fun a w' => ∃ j : Nat, j ≤ zer (l.length + 1) ∧ Sep w w' [ownB a (l ++ [128] ++ List.replicate j 0)], fun a _ => match a with
    | .slice _ n _ => (l.length + 1 + zer (l.length + 1)) - n
    | _ => 0, ⟨0, by omega, by simpa using hs2⟩, ?_⟩
  rintro v3 w3 ⟨j, hj, hs3⟩ -
  have hz := zer_le (l.length + 1)
  obtain ⟨a3, c3, rfl⟩ := Sep.sl hs3
  have hlen : (l ++ [128] ++ List.replicate j 0).length = l.length + 1 + j := by simp; omega
  simp only [lenS_mk, hlen]
  rw [bi_rem .i64 _ _ _ (by decide), show (64 : Int) = ((64 : Nat) : Int) from rfl, tmodn, bi_neq, cnd_bool]
  refine ⟨fun h => ?_, fun h => ?_⟩
  · have h56 : (l.length + 1 + j) % 64 ≠ 56 := by simp at h; omega
    have hjz : j < zer (l.length + 1) := by
      rcases Nat.lt_or_ge j (zer (l.length + 1)) with h' | h'
      · exact h'
      · have : j = zer (l.length + 1) := by omega
        rw [this, zer_eq] at h56
        exact absurd rfl h56
    rw [← hlen]
    refine app0 0 (.inl rfl) hs3 (by rw [hlen]; omega) fun v4 w4 hs4 => ?_
    rw [if_pos rfl] at hs4
    have e : l ++ [128] ++ List.replicate j 0 ++ [0] = l ++ [128] ++ List.replicate (j + 1) 0 := by rw [List.replicate_succ', List.append_assoc]
    rw [e] at hs4
    obtain ⟨a4, c4, rfl⟩ := Sep.sl hs4
    refine ⟨⟨j + 1, by omega, hs4⟩, ?_⟩
    simp
    omega
  · have h56 : (l.length + 1 + j) % 64 = 56 := by simp at h; omega
    have hjz : j = zer (l.length + 1) := by
      rcases Nat.lt_or_ge j (zer (l.length + 1)) with h' | h'
      · exact absurd h56 (zer_lt h')
      · omega
    rw [← hlen, hb.len]
    rw [cvi_int, wu64n, Nat.mod_eq_of_lt (by omega), bi_mul, show ((l.length : Int) * 8) = ((l.length * 8 : Nat) : Int) by simp, wu64n]
    generalize hv : l.length * 8 % 18446744073709551616 = v
    have hvb : v < 18446744073709551616 := by omega
    have hv8 : be 8 (l.length * 8 % 18446744073709551616) = be 8 v := by rw [hv]
    refine ⟨fun a c w' => ∃ i : Nat, c = .int .i64 i ∧ i ≤ 8 ∧ Sep w w' [ownB a (l ++ [128] ++ List.replicate j 0 ++ (be 8 v).take i)], fun _ c _ => (8 - RowKit.intOf c).toNat, ⟨0, rfl, by omega, by simpa using hs3⟩, ?_⟩
    rintro v5 _ w5 ⟨i, rfl, hi, hs5⟩ -
    simp only [nilc_some, fad_mk, pik_true, pik_false, cnd_true, cnd_false, gif_same, gif_tf, gif_ft, gif_undef, bi_add, bi_sub, bi_mul, bi_eql, bi_neq, bi_lss, bi_leq, bi_gtr, bi_geq, notB_bool, cvi_int, lenS_mk, lenT_mk, ext0, ext1, ext2, nilP_mk, nilS_mk, fldv_agg, jn0_k, jn1_k, jn2_k, jn1_and, jn1_or, ex_some, Option.isNone_some, Option.isNone_none, Bool.false_bne, Bool.bne_true, Bool.bne_false, Bool.true_bne, Bool.not_true, Bool.not_false, Bool.and_true, Bool.true_and, Bool.and_false, Bool.false_and, Bool.or_true, Bool.true_or, Bool.or_false, Bool.false_or, cond_true, cond_false, List.getElem?_toArray, List.getElem?_cons_zero, List.getElem?_cons_succ, Nat.zero_add, Nat.add_zero, Nat.reduceAdd, forall_const]
    rw [cnd_bool]
    refine ⟨fun h => ?_, fun h => ?_⟩
    · have h8 : i < 8 := by simp at h; omega
      have e1 : IntKind.u64.wrap (IntKind.i64.wrap (56 - IntKind.i64.wrap (8 * (i : Int)))) = ((56 - 8 * i : Nat) : Int) := by
        rw [wi64 (x := 8 * (i : Int)) (by omega) (by omega), wi64 (by omega) (by omega), wu64i (by omega) (by omega)]
        omega
      rw [e1, shr56 v i h8, be8_byte v i h8 hvb]
      refine app1 hs5 (by simp [be_length]; omega) fun v6 w6 hs6 => ?_
      rw [wi64 (by omega) (by omega)]
      rw [List.append_assoc, ← be_take v 8 i h8] at hs6
      exact ⟨⟨i + 1, by simp, by omega, hs6⟩, by simp [RowKit.intOf]; omega⟩
    · have h8 : i = 8 := by simp at h; omega
      subst h8
      rw [List.take_of_length_le (by rw [be_length]; omega)] at hs5
      refine hR _ _ ?_
      rw [padT, hv8, ← hjz]
      exact hs5
end
end Go.Fx
