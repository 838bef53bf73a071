/-
  Package pack, side by side with whatever else stands in memory: an unpacker; the reference's numbers.
-/
import Derived.Test.YticmbeincpaaeaaDoorPbA
set_option linter.unusedVariables false
set_option linter.unusedSimpArgs false
namespace Go.Fx
/-- 's[j:]', s owned. -/
theorem own_from {h : Heap} {s : Value} {l : List UInt8} {F : List Nat} {k : IntKind} {j : Nat} {K : Value → Prop} (ho : OwnB h s l F) (hj : j ≤ l.length) (hk : ∀ s', OwnB h s' (l.drop j) F → s'.oneCell' = true → K s') :
    slc 1 s (some (.int k (j : Int))) none K := by
  obtain ⟨hl, ⟨rfl, h0, rfl⟩ | ⟨g, o, cap, cur, E, rfl, hn, hg, hfit, hcs, rfl⟩⟩ := ho
  · have hl0 : l = [] := List.eq_nil_of_length_eq_zero h0
    subst hl0
    have : j = 0 := by simpa using hj
    subst this
    refine ⟨none, 0, 0, rfl, ?_⟩
    refine ⟨k, 0, rfl, by omega, by omega, ?_⟩
    simp only [Int.toNat_zero]
    exact hk _ (OwnB.nil _) rfl
  · refine ⟨some ⟨g, o, none⟩, l.length, cap, rfl, ?_⟩
    refine ⟨k, (j : Int), rfl, by omega, by omega, ?_⟩
    simp only [Int.toNat_natCast]
    refine hk _ ?_ (by split <;> rfl)
    have hlen : (bvs (l.drop j)).length = (l.drop j).length := bvs_length _
    have hd : bvs (l.drop j) = (bvs l).drop j := by simp [bvs]
    refine ⟨by simp [bvs], .inr ?_⟩
    have hsz := congrArg List.length hcs
    simp only [List.length_take, List.length_drop, Array.length_toList, bvs_length] at hsz
    by_cases hc : cap = j
    · have hjl : j = l.length := by omega
      refine ⟨g, o, cap - j, cur, E, ?_, by simp; omega, hg, by omega, ?_, rfl⟩
      · rw [if_pos hc, List.length_drop]
      · rw [hd, hjl, List.drop_of_length_le (by simp [bvs])]
        simp [bvs_length]
    · refine ⟨g, o + j, cap - j, cur, E, ?_, by simp; omega, hg, by omega, ?_, rfl⟩
      · rw [if_neg hc, List.length_drop, Option.map_some, Nat.mul_one]
        unfold Addr.add
        split
        · simp_all
        · rfl
      · rw [hd, ← hcs, Nat.mul_one, Nat.mul_one, List.length_drop, List.drop_take, List.drop_drop]
theorem or_byte {a c : Nat} (ha : a < 72057594037927936) (hc : c < 256) : IntKind.u64.wrap (((BitVec.ofInt IntKind.u64.bits (IntKind.u64.wrap ((a : Int) * 2 ^ (min (8 : Int).toNat IntKind.u64.bits)))) ||| BitVec.ofInt IntKind.u64.bits (IntKind.u64.wrap (c : Int))).toNat : Int) = ((256 * a + c : Nat) : Int) := by
  have h1 : IntKind.u64.wrap ((a : Int) * 2 ^ (min (8 : Int).toNat IntKind.u64.bits)) = ((2 ^ 8 * a : Nat) : Int) := by
    rw [show min (8 : Int).toNat IntKind.u64.bits = 8 from rfl, wu64i (by omega) (by omega)]
    omega
  rw [h1, show IntKind.u64.wrap (c : Int) = c from wu64i (by omega) (by omega)]
  have h2 : ((BitVec.ofInt IntKind.u64.bits ((2 ^ 8 * a : Nat) : Int)) ||| BitVec.ofInt IntKind.u64.bits (c : Int)).toNat = 2 ^ 8 * a ||| c := by
    rw [BitVec.toNat_or]
    congr 1
    · simp [IntKind.bits]; omega
    · simp [IntKind.bits]; omega
  rw [h2, ← Nat.two_pow_add_eq_or_of_lt (by omega), wu64i (by omega) (by omega)]
theorem ofBe_take_succ {l : List UInt8} {i : Nat} (hi : i < l.length) : ofBe (l.take (i + 1)) = 256 * ofBe (l.take i) + l[i].toNat := by
  rw [List.take_add_one, List.getElem?_eq_getElem hi, Option.toList_some, ofBe_snoc]
theorem ofBe_take_lt {l : List UInt8} {i : Nat} (hl : l.length ≤ 8) (hi : i < l.length) : ofBe (l.take i) < 72057594037927936 := by
  refine Nat.lt_of_lt_of_le (ofBe_lt _) ?_
  rw [List.length_take, Nat.min_eq_left (by omega)]
  exact Nat.pow_le_pow_right (n := 256) (by decide) (show i ≤ 7 by omega)
theorem value_spec {w : World} {v : Value} {l : List UInt8} (hr : RdB w.heap v l) (hl : l.length ≤ 8) : cal P f_pack_value [v] w fun r w' => r = .int .u64 (ofBe l) ∧ w = w' := by
  refine s_pack_value fun R hR => ?_
  unfold c_pack_value
  simp only [nilc_some, fad_mk, pik_true, pik_false, cnd_true, cnd_false, gif_same, gif_tf, gif_ft, gif_undef, bi_add, bi_sub, bi_mul, bi_eql, bi_neq, bi_lss, bi_leq, bi_gtr, bi_geq, notB_bool, cvi_int, lenS_mk, lenT_mk, ext0, ext1, ext2, nilP_mk, nilS_mk, fldv_agg, jn0_k, jn1_k, jn2_k, jn1_and, jn1_or, ex_some, Option.isNone_some, Option.isNone_none, Bool.false_bne, Bool.bne_true, Bool.bne_false, Bool.true_bne, Bool.not_true, Bool.not_false, Bool.and_true, Bool.true_and, Bool.and_false, Bool.false_and, Bool.or_true, Bool.true_or, Bool.or_false, Bool.false_or, cond_true, cond_false, List.getElem?_toArray, List.getElem?_cons_zero, List.getElem?_cons_succ, Nat.zero_add, Nat.add_zero, Nat.reduceAdd, forall_const, hr.len]
  refine ⟨fun x y w' => ∃ i : Nat, i ≤ l.length ∧ x = .int .u64 (ofBe (l.take i) : Nat) ∧ y = .int .i64 i ∧ w' = w, fun _ y _ => (l.length - RowKit.intOf y).toNat, ⟨0, by omega, by simp [ofBe], rfl, rfl⟩, ?_⟩
  rintro _ _ _ ⟨i, hi, rfl, rfl, rfl⟩ -
  simp only [nilc_some, fad_mk, pik_true, pik_false, cnd_true, cnd_false, gif_same, gif_tf, gif_ft, gif_undef, bi_add, bi_sub, bi_mul, bi_eql, bi_neq, bi_lss, bi_leq, bi_gtr, bi_geq, notB_bool, cvi_int, lenS_mk, lenT_mk, ext0, ext1, ext2, nilP_mk, nilS_mk, fldv_agg, jn0_k, jn1_k, jn2_k, jn1_and, jn1_or, ex_some, Option.isNone_some, Option.isNone_none, Bool.false_bne, Bool.bne_true, Bool.bne_false, Bool.true_bne, Bool.not_true, Bool.not_false, Bool.and_true, Bool.true_and, Bool.and_false, Bool.false_and, Bool.or_true, Bool.true_or, Bool.or_false, Bool.false_or, cond_true, cond_false, List.getElem?_toArray, List.getElem?_cons_zero, List.getElem?_cons_succ, Nat.zero_add, Nat.add_zero, Nat.reduceAdd, forall_const]
  rw [cnd_bool]
  refine ⟨fun h => ?_, fun h => ?_⟩
  · have hlt : i < l.length := by simp at h; omega
    refine ldxB hr hlt ?_
    rw [sh_shl _ _ _ _ _ (by omega), bv, cvi_int, bi_or, or_byte (ofBe_take_lt hl hlt) (by have := l[i].toNat_lt; omega)]
    try simp only [nilc_some, fad_mk, pik_true, pik_false, cnd_true, cnd_false, gif_same, gif_tf, gif_ft, gif_undef, bi_add, bi_sub, bi_mul, bi_eql, bi_neq, bi_lss, bi_leq, bi_gtr, bi_geq, notB_bool, cvi_int, lenS_mk, lenT_mk, ext0, ext1, ext2, nilP_mk, nilS_mk, fldv_agg, jn0_k, jn1_k, jn2_k, jn1_and, jn1_or, ex_some, Option.isNone_some, Option.isNone_none, Bool.false_bne, Bool.bne_true, Bool.bne_false, Bool.true_bne, Bool.not_true, Bool.not_false, Bool.and_true, Bool.true_and, Bool.and_false, Bool.false_and, Bool.or_true, Bool.true_or, Bool.or_false, Bool.false_or, cond_true, cond_false, List.getElem?_toArray, List.getElem?_cons_zero, List.getElem?_cons_succ, Nat.zero_add, Nat.add_zero, Nat.reduceAdd, forall_const]
    rw [wi64 (by omega) (by omega)]
    exact ⟨⟨i + 1, by omega, by rw [ofBe_take_succ hlt], by simp, trivial⟩, by simp [RowKit.intOf]; omega⟩
  · have hge : i = l.length := by simp at h; omega
    subst hge
    rw [List.take_length]
    exact hR _ _ ⟨rfl, rfl⟩
theorem rVal_spec {w : World} {v : Value} {l : List UInt8} (hr : RdB w.heap v l) (hl : l.length ≤ 8) : cal P f_ref01_Val [v] w fun r w' => r = .int .u64 (ofBe l) ∧ w = w' := by
  refine s_ref01_Val fun R hR => ?_
  unfold c_ref01_Val
  refine ⟨fun x y w' => ∃ i : Nat, i ≤ l.length ∧ x = .int .u64 (ofBe (l.take i) : Nat) ∧ y = .int .i64 i ∧ w' = w, fun _ y _ => (l.length - RowKit.intOf y).toNat, ⟨0, by omega, by simp [ofBe], rfl, rfl⟩, ?_⟩
  rintro _ _ _ ⟨i, hi, rfl, rfl, rfl⟩ -
  simp only [nilc_some, fad_mk, pik_true, pik_false, cnd_true, cnd_false, gif_same, gif_tf, gif_ft, gif_undef, bi_add, bi_sub, bi_mul, bi_eql, bi_neq, bi_lss, bi_leq, bi_gtr, bi_geq, notB_bool, cvi_int, lenS_mk, lenT_mk, ext0, ext1, ext2, nilP_mk, nilS_mk, fldv_agg, jn0_k, jn1_k, jn2_k, jn1_and, jn1_or, ex_some, Option.isNone_some, Option.isNone_none, Bool.false_bne, Bool.bne_true, Bool.bne_false, Bool.true_bne, Bool.not_true, Bool.not_false, Bool.and_true, Bool.true_and, Bool.and_false, Bool.false_and, Bool.or_true, Bool.true_or, Bool.or_false, Bool.false_or, cond_true, cond_false, List.getElem?_toArray, List.getElem?_cons_zero, List.getElem?_cons_succ, Nat.zero_add, Nat.add_zero, Nat.reduceAdd, forall_const, hr.len]
  rw [cnd_bool]
  refine ⟨fun h => ?_, fun h => ?_⟩
  · have hlt : i < l.length := by simp at h; omega
    refine ldxB hr hlt ?_
    have hb := l[i].toNat_lt
    have hv := ofBe_take_lt hl hlt
    rw [bv, cvi_int]
    try simp only [nilc_some, fad_mk, pik_true, pik_false, cnd_true, cnd_false, gif_same, gif_tf, gif_ft, gif_undef, bi_add, bi_sub, bi_mul, bi_eql, bi_neq, bi_lss, bi_leq, bi_gtr, bi_geq, notB_bool, cvi_int, lenS_mk, lenT_mk, ext0, ext1, ext2, nilP_mk, nilS_mk, fldv_agg, jn0_k, jn1_k, jn2_k, jn1_and, jn1_or, ex_some, Option.isNone_some, Option.isNone_none, Bool.false_bne, Bool.bne_true, Bool.bne_false, Bool.true_bne, Bool.not_true, Bool.not_false, Bool.and_true, Bool.true_and, Bool.and_false, Bool.false_and, Bool.or_true, Bool.true_or, Bool.or_false, Bool.false_or, cond_true, cond_false, List.getElem?_toArray, List.getElem?_cons_zero, List.getElem?_cons_succ, Nat.zero_add, Nat.add_zero, Nat.reduceAdd, forall_const]
    rw [wi64 (by omega) (by omega), show IntKind.u64.wrap (256 * ((ofBe (l.take i) : Nat) : Int)) = ((256 * ofBe (l.take i) : Nat) : Int) from by rw [wu64i (by omega) (by omega)]; omega, show IntKind.u64.wrap (l[i].toNat : Int) = l[i].toNat from wu64i (by omega) (by omega), wu64i (by omega) (by omega)]
    exact ⟨⟨i + 1, by omega, by rw [ofBe_take_succ hlt]; rfl, by simp, trivial⟩, by simp [RowKit.intOf]; omega⟩
  · have hge : i = l.length := by simp at h; omega
    subst hge
    rw [List.take_length]
    exact hR _ _ ⟨rfl, rfl⟩
section
variable {w0 w : World} {As : List Asn} {g n v : Nat} {s : Value} {a b c l : List UInt8} {e : Int}
/-- 's[j:]'. -/
theorem fromB_s {k : IntKind} {j : Nat} {K : Value → Prop} (hs : Sep w0 w (ownB s l :: As)) (hj : j ≤ l.length) (h : ∀ s', Sep w0 w (ownB s' (l.drop j) :: As) → K s') : slc 1 s (some (.int k (j : Int))) none K := by
  obtain ⟨F, ho, hu⟩ := hs.upd
  exact own_from ho hj fun s' ho' _ => h s' (hu w F (ownB _ _) ho' (Fr.refl _ _) (Grew.refl _ _))
theorem rNumS (hn : n ≤ 8) (hv : v < 18446744073709551616) : cal P f_ref01_Num [.int .i64 n, .int .u64 v] w fun r w' => Sep w w' [ownB r (be n v)] := by
  refine s_ref01_Num fun R hR => ?_
  unfold c_ref01_Num
  refine mkB_s (Sep.start w) ST_bytes ZC_uint8 (by omega) fun g w1 hs => ?_
  simp (disch := omega) only [nilc_some, fad_mk, pik_true, pik_false, cnd_true, cnd_false, gif_same, gif_tf, gif_ft, gif_undef, bi_add, bi_sub, bi_mul, bi_eql, bi_neq, bi_lss, bi_leq, bi_gtr, bi_geq, notB_bool, cvi_int, lenS_mk, lenT_mk, ext0, ext1, ext2, nilP_mk, nilS_mk, fldv_agg, jn0_k, jn1_k, jn2_k, jn1_and, jn1_or, ex_some, Option.isNone_some, Option.isNone_none, Bool.false_bne, Bool.bne_true, Bool.bne_false, Bool.true_bne, Bool.not_true, Bool.not_false, Bool.and_true, Bool.true_and, Bool.and_false, Bool.false_and, Bool.or_true, Bool.true_or, Bool.or_false, Bool.false_or, cond_true, cond_false, List.getElem?_toArray, List.getElem?_cons_zero, List.getElem?_cons_succ, Nat.zero_add, Nat.add_zero, Nat.reduceAdd, forall_const, wi64]
  refine ⟨fun a b w2 => ∃ i : Nat, i ≤ n ∧ a = .int .u64 ((v / 256 ^ i : Nat) : Int) ∧ b = .int .i64 ((n : Int) - 1 - i) ∧ Sep w w2 [ownB (.slice (some ⟨g, 0, none⟩) n n) (List.replicate (n - i) 0 ++ be i v)],
    fun _ b _ => (RowKit.intOf b + 1).toNat, ⟨0, by omega, by simp, by simp, by simpa [be] using hs⟩, ?_⟩
  rintro _ _ w2 ⟨i, hi, rfl, rfl, hs2⟩ -
  simp only [nilc_some, fad_mk, pik_true, pik_false, cnd_true, cnd_false, gif_same, gif_tf, gif_ft, gif_undef, bi_add, bi_sub, bi_mul, bi_eql, bi_neq, bi_lss, bi_leq, bi_gtr, bi_geq, notB_bool, cvi_int, lenS_mk, lenT_mk, ext0, ext1, ext2, nilP_mk, nilS_mk, fldv_agg, jn0_k, jn1_k, jn2_k, jn1_and, jn1_or, ex_some, Option.isNone_some, Option.isNone_none, Bool.false_bne, Bool.bne_true, Bool.bne_false, Bool.true_bne, Bool.not_true, Bool.not_false, Bool.and_true, Bool.true_and, Bool.and_false, Bool.false_and, Bool.or_true, Bool.true_or, Bool.or_false, Bool.false_or, cond_true, cond_false, List.getElem?_toArray, List.getElem?_cons_zero, List.getElem?_cons_succ, Nat.zero_add, Nat.add_zero, Nat.reduceAdd, forall_const]
  rw [cnd_bool]
  refine ⟨fun h => ?_, fun h => ?_⟩
  · have hlt : i < n := by simp at h; omega
    have hvi : v / 256 ^ i < 18446744073709551616 := Nat.lt_of_le_of_lt (Nat.div_le_self _ _) hv
    have e0 : (n : Int) - 1 - i = ((n - 1 - i : Nat) : Int) := by omega
    have e1 : ((v / 256 ^ i : Nat) : Int).tmod 256 = ((v / 256 ^ i % 256 : Nat) : Int) := tmodn _ 256
    have e2 : ((v / 256 ^ i : Nat) : Int).tdiv 256 = ((v / 256 ^ (i + 1) : Nat) : Int) := by
      rw [Nat.pow_succ, ← Nat.div_div_eq_div_mul]; exact tdivn _ 256
    rw [bi_rem _ _ _ _ (by omega), e1]
    simp only [cvi_int]
    rw [bv_of _ (by omega), Int.toNat_natCast, e0]
    have e4 : UInt8.ofNat (v / 256 ^ i % 256) = UInt8.ofNat (v / 256 ^ i) := by
      apply UInt8.toNat_inj.1
      simp
    rw [e4]
    refine stxB_s hs2 (by simp [be_length]; omega) _ fun w3 hs3 => ?_
    rw [bi_quo _ _ _ _ (by omega), e2]
    have hvi2 : v / 256 ^ (i + 1) < 18446744073709551616 := Nat.lt_of_le_of_lt (Nat.div_le_self _ _) hv
    rw [wu64i (Int.natCast_nonneg _) (by omega), wi64 (by omega) (by omega)]
    refine ⟨⟨i + 1, by omega, rfl, by simp; omega, ?_⟩, by simp [RowKit.intOf]⟩
    have e3 : (List.replicate (n - i) (0 : UInt8) ++ be i v).set (n - 1 - i) (UInt8.ofNat (v / 256 ^ i)) = List.replicate (n - (i + 1)) 0 ++ be (i + 1) v := by
      rw [show n - i = (n - (i + 1)) + 1 by omega, List.replicate_succ', List.append_assoc, List.set_append_right _ _ (by simp; omega), be_cons]
      congr 1
      rw [show n - 1 - i - (List.replicate (n - (i + 1)) (0 : UInt8)).length = 0 by simp; omega]
      rfl
    rw [← e3]
    exact hs3
  · have hlt : ¬ i < n := by simp at h; omega
    obtain rfl : i = n := by omega
    exact hR _ _ (by simpa using hs2)
abbrev uk (g : Nat) (s : Value) (e : Int) : Asn := blk g (Rdr.cells Q_pack_Unpacker (true, s, e)).toArray T_pack_Unpacker
theorem ReadS (hb : RdB w.heap s l) (hl : l.length ≤ 281474976710656) : cal P f_pack_Read [s] w fun v w' => ∃ g s', v = .pointer (some ⟨g, 0, none⟩) ∧ Sep w w' [uk g s' 0, ownB s' l] := by
  refine s_pack_Read fun R hR => ?_
  unfold c_pack_Read
  have hbd : ∀ K, rdP P (Instr.build T_pack_Unpacker #[]) w K = K (.agg (Rdr.cells Q_pack_Unpacker (false, .slice none 0 0, 0)).toArray) := fun K => rdP_eq (by kernel_rfl) K
  rw [hbd]
  refine bx_s (Sep.start w) fun g w1 hs => ?_
  simp only [nilc_some, fad_mk, pik_true, pik_false, cnd_true, cnd_false, gif_same, gif_tf, gif_ft, gif_undef, bi_add, bi_sub, bi_mul, bi_eql, bi_neq, bi_lss, bi_leq, bi_gtr, bi_geq, notB_bool, cvi_int, lenS_mk, lenT_mk, ext0, ext1, ext2, nilP_mk, nilS_mk, fldv_agg, jn0_k, jn1_k, jn2_k, jn1_and, jn1_or, ex_some, Option.isNone_some, Option.isNone_none, Bool.false_bne, Bool.bne_true, Bool.bne_false, Bool.true_bne, Bool.not_true, Bool.not_false, Bool.and_true, Bool.true_and, Bool.and_false, Bool.false_and, Bool.or_true, Bool.true_or, Bool.or_false, Bool.false_or, cond_true, cond_false, List.getElem?_toArray, List.getElem?_cons_zero, List.getElem?_cons_succ, Nat.zero_add, Nat.add_zero, Nat.reduceAdd, forall_const]
  refine St_pack_Unpacker__kept_made hs fun w2 hs2 => ?_
  rw [hb.len]
  refine mkB_s hs2 ST_bytes ZC_uint8 hl fun g1 w3 hs3 => ?_
  refine St_pack_Unpacker__kept_b hs3.p1 rfl fun w4 hs4 => ?_
  simp only [nilc_some, fad_mk, pik_true, pik_false, cnd_true, cnd_false, gif_same, gif_tf, gif_ft, gif_undef, bi_add, bi_sub, bi_mul, bi_eql, bi_neq, bi_lss, bi_leq, bi_gtr, bi_geq, notB_bool, cvi_int, lenS_mk, lenT_mk, ext0, ext1, ext2, nilP_mk, nilS_mk, fldv_agg, jn0_k, jn1_k, jn2_k, jn1_and, jn1_or, ex_some, Option.isNone_some, Option.isNone_none, Bool.false_bne, Bool.bne_true, Bool.bne_false, Bool.true_bne, Bool.not_true, Bool.not_false, Bool.and_true, Bool.true_and, Bool.and_false, Bool.false_and, Bool.or_true, Bool.true_or, Bool.or_false, Bool.false_or, cond_true, cond_false, List.getElem?_toArray, List.getElem?_cons_zero, List.getElem?_cons_succ, Nat.zero_add, Nat.add_zero, Nat.reduceAdd, forall_const, L_pack_Unpacker hs4.blk, L_pack_Unpacker__kept hs4.blk, L_pack_Unpacker__kept_made hs4.blk, L_pack_Unpacker__kept_b hs4.blk, L_pack_Unpacker__kept_err hs4.blk]
  refine cpyB_s ST_bytes hs4.p1 (hs4.rdB hb) fun w5 hs5 => ?_
  have e1 : l.take (List.replicate l.length (0 : UInt8)).length ++ (List.replicate l.length (0 : UInt8)).drop l.length = l := by simp
  rw [e1] at hs5
  exact hR _ _ ⟨g, _, rfl, hs5.p1⟩
theorem uworksS (hs : Sep w0 w (uk g s e :: As)) : cal P f_pack_Unpacker_works [.pointer (some ⟨g, 0, none⟩)] w fun r w' => r = .bool (e == 0) ∧ w = w' := by
  refine s_pack_Unpacker_works fun R hR => ?_
  unfold c_pack_Unpacker_works
  simp only [nilc_some, fad_mk, pik_true, pik_false, cnd_true, cnd_false, gif_same, gif_tf, gif_ft, gif_undef, bi_add, bi_sub, bi_mul, bi_eql, bi_neq, bi_lss, bi_leq, bi_gtr, bi_geq, notB_bool, cvi_int, lenS_mk, lenT_mk, ext0, ext1, ext2, nilP_mk, nilS_mk, fldv_agg, jn0_k, jn1_k, jn2_k, jn1_and, jn1_or, ex_some, Option.isNone_some, Option.isNone_none, Bool.false_bne, Bool.bne_true, Bool.bne_false, Bool.true_bne, Bool.not_true, Bool.not_false, Bool.and_true, Bool.true_and, Bool.and_false, Bool.false_and, Bool.or_true, Bool.true_or, Bool.or_false, Bool.false_or, cond_true, cond_false, List.getElem?_toArray, List.getElem?_cons_zero, List.getElem?_cons_succ, Nat.zero_add, Nat.add_zero, Nat.reduceAdd, forall_const, L_pack_Unpacker hs.blk, L_pack_Unpacker__kept hs.blk, L_pack_Unpacker__kept_made hs.blk, L_pack_Unpacker__kept_b hs.blk, L_pack_Unpacker__kept_err hs.blk]
  exact hR _ _ ⟨rfl, rfl⟩
theorem ufailsS {e' : Int} (hs : Sep w0 w (uk g s 0 :: As)) : cal P f_pack_kept_fails [.pointer (some ⟨g, 0, none⟩), .int .i64 e'] w fun r w' => Sep w0 w' (uk g s e' :: As) := by
  refine s_pack_kept_fails fun R hR => ?_
  unfold c_pack_kept_fails
  simp only [nilc_some, fad_mk, pik_true, pik_false, cnd_true, cnd_false, gif_same, gif_tf, gif_ft, gif_undef, bi_add, bi_sub, bi_mul, bi_eql, bi_neq, bi_lss, bi_leq, bi_gtr, bi_geq, notB_bool, cvi_int, lenS_mk, lenT_mk, ext0, ext1, ext2, nilP_mk, nilS_mk, fldv_agg, jn0_k, jn1_k, jn2_k, jn1_and, jn1_or, ex_some, Option.isNone_some, Option.isNone_none, Bool.false_bne, Bool.bne_true, Bool.bne_false, Bool.true_bne, Bool.not_true, Bool.not_false, Bool.and_true, Bool.true_and, Bool.and_false, Bool.false_and, Bool.or_true, Bool.true_or, Bool.or_false, Bool.false_or, cond_true, cond_false, List.getElem?_toArray, List.getElem?_cons_zero, List.getElem?_cons_succ, Nat.zero_add, Nat.add_zero, Nat.reduceAdd, forall_const, L_pack_Unpacker hs.blk, L_pack_Unpacker__kept hs.blk, L_pack_Unpacker__kept_made hs.blk, L_pack_Unpacker__kept_b hs.blk, L_pack_Unpacker__kept_err hs.blk, show ((0 : Int) == 0) = true from rfl]
  exact St_pack_Unpacker__kept_err hs fun w' hs' => hR _ _ hs'
/-- What is taken, what is left, the error. -/
def tk (n : Nat) (b : List UInt8) (e : Int) : List UInt8 × List UInt8 × Int := if e = 0 then (if b.length < n then ([], b, 11) else (b.take n, b.drop n, 0)) else ([], b, e)
theorem takeS (hs : Sep w0 w (uk g s e :: ownB s b :: As)) (hn : n ≤ 100000000) : cal P f_pack_Unpacker_take [.pointer (some ⟨g, 0, none⟩), .int .i64 n] w fun v w' => ∃ s', Sep w0 w' (ownB v (tk n b e).1 :: uk g s' (tk n b e).2.2 :: ownB s' (tk n b e).2.1 :: As) := by
  refine s_pack_Unpacker_take fun R hR => ?_
  unfold c_pack_Unpacker_take
  refine cal_i (uworksS hs) ?_
  rintro _ _ ⟨rfl, rfl⟩
  unfold tk at hR
  by_cases he : e = 0
  · subst he
    rw [if_pos rfl] at hR
    simp only [nilc_some, fad_mk, pik_true, pik_false, cnd_true, cnd_false, gif_same, gif_tf, gif_ft, gif_undef, bi_add, bi_sub, bi_mul, bi_eql, bi_neq, bi_lss, bi_leq, bi_gtr, bi_geq, notB_bool, cvi_int, lenS_mk, lenT_mk, ext0, ext1, ext2, nilP_mk, nilS_mk, fldv_agg, jn0_k, jn1_k, jn2_k, jn1_and, jn1_or, ex_some, Option.isNone_some, Option.isNone_none, Bool.false_bne, Bool.bne_true, Bool.bne_false, Bool.true_bne, Bool.not_true, Bool.not_false, Bool.and_true, Bool.true_and, Bool.and_false, Bool.false_and, Bool.or_true, Bool.true_or, Bool.or_false, Bool.false_or, cond_true, cond_false, List.getElem?_toArray, List.getElem?_cons_zero, List.getElem?_cons_succ, Nat.zero_add, Nat.add_zero, Nat.reduceAdd, forall_const, show ((0 : Int) == 0) = true from rfl]
    rw [decide_eq_false (by omega)]
    simp only [nilc_some, fad_mk, pik_true, pik_false, cnd_true, cnd_false, gif_same, gif_tf, gif_ft, gif_undef, bi_add, bi_sub, bi_mul, bi_eql, bi_neq, bi_lss, bi_leq, bi_gtr, bi_geq, notB_bool, cvi_int, lenS_mk, lenT_mk, ext0, ext1, ext2, nilP_mk, nilS_mk, fldv_agg, jn0_k, jn1_k, jn2_k, jn1_and, jn1_or, ex_some, Option.isNone_some, Option.isNone_none, Bool.false_bne, Bool.bne_true, Bool.bne_false, Bool.true_bne, Bool.not_true, Bool.not_false, Bool.and_true, Bool.true_and, Bool.and_false, Bool.false_and, Bool.or_true, Bool.true_or, Bool.or_false, Bool.false_or, cond_true, cond_false, List.getElem?_toArray, List.getElem?_cons_zero, List.getElem?_cons_succ, Nat.zero_add, Nat.add_zero, Nat.reduceAdd, forall_const, L_pack_Unpacker hs.blk, L_pack_Unpacker__kept hs.blk, L_pack_Unpacker__kept_made hs.blk, L_pack_Unpacker__kept_b hs.blk, L_pack_Unpacker__kept_err hs.blk, (Sep.rd hs.p1).len]
    rw [cnd_bool]
    refine ⟨fun h => ?_, fun h => ?_⟩
    · have h : b.length < n := by simp at h; omega
      rw [if_pos h] at hR
      refine cal_i (ufailsS hs) ?_
      intro _ w' hs'
      exact hR _ _ ⟨s, hs'.nil⟩
    · have h : ¬ b.length < n := by simp at h; omega
      rw [if_neg h] at hR
      refine mkB_s hs ST_bytes ZC_uint8 (by omega) fun g1 w1 hs1 => ?_
      simp only [nilc_some, fad_mk, pik_true, pik_false, cnd_true, cnd_false, gif_same, gif_tf, gif_ft, gif_undef, bi_add, bi_sub, bi_mul, bi_eql, bi_neq, bi_lss, bi_leq, bi_gtr, bi_geq, notB_bool, cvi_int, lenS_mk, lenT_mk, ext0, ext1, ext2, nilP_mk, nilS_mk, fldv_agg, jn0_k, jn1_k, jn2_k, jn1_and, jn1_or, ex_some, Option.isNone_some, Option.isNone_none, Bool.false_bne, Bool.bne_true, Bool.bne_false, Bool.true_bne, Bool.not_true, Bool.not_false, Bool.and_true, Bool.true_and, Bool.and_false, Bool.false_and, Bool.or_true, Bool.true_or, Bool.or_false, Bool.false_or, cond_true, cond_false, List.getElem?_toArray, List.getElem?_cons_zero, List.getElem?_cons_succ, Nat.zero_add, Nat.add_zero, Nat.reduceAdd, forall_const, L_pack_Unpacker (Sep.p1 hs1).blk, L_pack_Unpacker__kept (Sep.p1 hs1).blk, L_pack_Unpacker__kept_made (Sep.p1 hs1).blk, L_pack_Unpacker__kept_b (Sep.p1 hs1).blk, L_pack_Unpacker__kept_err (Sep.p1 hs1).blk]
      refine cpyB_s ST_bytes hs1 (Sep.rd hs1.p2) fun w2 hs2 => ?_
      have e1 : b.take (List.replicate n (0 : UInt8)).length ++ (List.replicate n (0 : UInt8)).drop b.length = b.take n := by
        rw [List.length_replicate, List.drop_of_length_le (by simp; omega), List.append_nil]
      rw [e1] at hs2
      simp only [nilc_some, fad_mk, pik_true, pik_false, cnd_true, cnd_false, gif_same, gif_tf, gif_ft, gif_undef, bi_add, bi_sub, bi_mul, bi_eql, bi_neq, bi_lss, bi_leq, bi_gtr, bi_geq, notB_bool, cvi_int, lenS_mk, lenT_mk, ext0, ext1, ext2, nilP_mk, nilS_mk, fldv_agg, jn0_k, jn1_k, jn2_k, jn1_and, jn1_or, ex_some, Option.isNone_some, Option.isNone_none, Bool.false_bne, Bool.bne_true, Bool.bne_false, Bool.true_bne, Bool.not_true, Bool.not_false, Bool.and_true, Bool.true_and, Bool.and_false, Bool.false_and, Bool.or_true, Bool.true_or, Bool.or_false, Bool.false_or, cond_true, cond_false, List.getElem?_toArray, List.getElem?_cons_zero, List.getElem?_cons_succ, Nat.zero_add, Nat.add_zero, Nat.reduceAdd, forall_const, L_pack_Unpacker (Sep.p1 hs2).blk, L_pack_Unpacker__kept (Sep.p1 hs2).blk, L_pack_Unpacker__kept_made (Sep.p1 hs2).blk, L_pack_Unpacker__kept_b (Sep.p1 hs2).blk, L_pack_Unpacker__kept_err (Sep.p1 hs2).blk]
      refine fromB_s hs2.p2 (by omega) fun s' hs3 => ?_
      refine St_pack_Unpacker__kept_b hs3.p2 (Sep.one hs3) fun w3 hs4 => ?_
      exact hR _ _ ⟨s', hs4.p2⟩
  · rw [if_neg he] at hR
    have : (e == 0) = false := by simpa using he
    rw [this]
    simp only [nilc_some, fad_mk, pik_true, pik_false, cnd_true, cnd_false, gif_same, gif_tf, gif_ft, gif_undef, bi_add, bi_sub, bi_mul, bi_eql, bi_neq, bi_lss, bi_leq, bi_gtr, bi_geq, notB_bool, cvi_int, lenS_mk, lenT_mk, ext0, ext1, ext2, nilP_mk, nilS_mk, fldv_agg, jn0_k, jn1_k, jn2_k, jn1_and, jn1_or, ex_some, Option.isNone_some, Option.isNone_none, Bool.false_bne, Bool.bne_true, Bool.bne_false, Bool.true_bne, Bool.not_true, Bool.not_false, Bool.and_true, Bool.true_and, Bool.and_false, Bool.false_and, Bool.or_true, Bool.true_or, Bool.or_false, Bool.false_or, cond_true, cond_false, List.getElem?_toArray, List.getElem?_cons_zero, List.getElem?_cons_succ, Nat.zero_add, Nat.add_zero, Nat.reduceAdd, forall_const]
    exact hR _ _ ⟨s, hs.nil⟩
theorem uErrS (hs : Sep w0 w (uk g s e :: As)) : cal P f_pack_Unpacker_Err [.pointer (some ⟨g, 0, none⟩)] w fun v w' => v = .int .i64 e ∧ w = w' := by
  refine s_pack_Unpacker_Err fun R hR => ?_
  unfold c_pack_Unpacker_Err
  simp only [nilc_some, fad_mk, pik_true, pik_false, cnd_true, cnd_false, gif_same, gif_tf, gif_ft, gif_undef, bi_add, bi_sub, bi_mul, bi_eql, bi_neq, bi_lss, bi_leq, bi_gtr, bi_geq, notB_bool, cvi_int, lenS_mk, lenT_mk, ext0, ext1, ext2, nilP_mk, nilS_mk, fldv_agg, jn0_k, jn1_k, jn2_k, jn1_and, jn1_or, ex_some, Option.isNone_some, Option.isNone_none, Bool.false_bne, Bool.bne_true, Bool.bne_false, Bool.true_bne, Bool.not_true, Bool.not_false, Bool.and_true, Bool.true_and, Bool.and_false, Bool.false_and, Bool.or_true, Bool.true_or, Bool.or_false, Bool.false_or, cond_true, cond_false, List.getElem?_toArray, List.getElem?_cons_zero, List.getElem?_cons_succ, Nat.zero_add, Nat.add_zero, Nat.reduceAdd, forall_const, L_pack_Unpacker hs.blk, L_pack_Unpacker__kept hs.blk, L_pack_Unpacker__kept_made hs.blk, L_pack_Unpacker__kept_b hs.blk, L_pack_Unpacker__kept_err hs.blk]
  exact hR _ _ ⟨rfl, rfl⟩
def uend (b : List UInt8) (e : Int) : Int := if e ≠ 0 ∨ b.length = 0 then e else 12
theorem EndS (hs : Sep w0 w (uk g s e :: ownB s b :: As)) : cal P f_pack_Unpacker_End [.pointer (some ⟨g, 0, none⟩)] w fun v w' => v = .int .i64 (uend b e) ∧ w = w' := by
  refine s_pack_Unpacker_End fun R hR => ?_
  unfold c_pack_Unpacker_End
  refine cal_i (uErrS hs) ?_
  rintro _ _ ⟨rfl, rfl⟩
  simp only [nilc_some, fad_mk, pik_true, pik_false, cnd_true, cnd_false, gif_same, gif_tf, gif_ft, gif_undef, bi_add, bi_sub, bi_mul, bi_eql, bi_neq, bi_lss, bi_leq, bi_gtr, bi_geq, notB_bool, cvi_int, lenS_mk, lenT_mk, ext0, ext1, ext2, nilP_mk, nilS_mk, fldv_agg, jn0_k, jn1_k, jn2_k, jn1_and, jn1_or, ex_some, Option.isNone_some, Option.isNone_none, Bool.false_bne, Bool.bne_true, Bool.bne_false, Bool.true_bne, Bool.not_true, Bool.not_false, Bool.and_true, Bool.true_and, Bool.and_false, Bool.false_and, Bool.or_true, Bool.true_or, Bool.or_false, Bool.false_or, cond_true, cond_false, List.getElem?_toArray, List.getElem?_cons_zero, List.getElem?_cons_succ, Nat.zero_add, Nat.add_zero, Nat.reduceAdd, forall_const, L_pack_Unpacker hs.blk, L_pack_Unpacker__kept hs.blk, L_pack_Unpacker__kept_made hs.blk, L_pack_Unpacker__kept_b hs.blk, L_pack_Unpacker__kept_err hs.blk, (Sep.rd hs.p1).len]
  unfold uend at hR
  rw [cnd_bool]
  refine ⟨fun h => ?_, fun h => ?_⟩
  · rw [if_pos (by simpa using h)] at hR
    exact hR _ _ ⟨rfl, rfl⟩
  · rw [if_neg (by simp at h; simpa using h)] at hR
    exact hR _ _ ⟨rfl, rfl⟩
section
variable (hs : Sep w0 w (uk g s e :: ownB s b :: As))
include hs
theorem tnumS {m : Nat} {K : Value → World → Prop} (hm : m ≤ 8) (h : ∀ s' w', Sep w0 w' (uk g s' (tk m b e).2.2 :: ownB s' (tk m b e).2.1 :: As) → K (.int .u64 (ofBe (tk m b e).1)) w') :
    cal P f_pack_Unpacker_take [.pointer (some ⟨g, 0, none⟩), .int .i64 m] w fun t w => cal P f_pack_value [t] w fun u w => K u w := by
  refine cal_i (takeS hs (by omega)) ?_
  rintro t w1 ⟨s', hs1⟩
  have hl : (tk m b e).1.length ≤ 8 := by unfold tk; split <;> (try split) <;> simp; omega
  refine cal_i (value_spec (Sep.rd hs1) hl) ?_
  rintro _ _ ⟨rfl, rfl⟩
  exact h s' _ hs1.tail
theorem uShortS : cal P f_pack_Unpacker_Short [.pointer (some ⟨g, 0, none⟩)] w fun v w' => v = .int .u16 (ofBe (tk 2 b e).1) ∧ ∃ s', Sep w0 w' (uk g s' (tk 2 b e).2.2 :: ownB s' (tk 2 b e).2.1 :: As) := by
  refine s_pack_Unpacker_Short fun R hR => ?_
  unfold c_pack_Unpacker_Short
  refine tnumS hs (m := 2) (by omega) fun s' w' hs' => ?_
  have hl : (tk 2 b e).1.length ≤ 2 := by unfold tk; split <;> (try split) <;> simp; omega
  have hb := ofBe_lt (tk 2 b e).1
  have hp : 256 ^ (tk 2 b e).1.length ≤ 256 ^ 2 := Nat.pow_le_pow_right (by omega) hl
  rw [cvi_int, wu16i (by omega) (by omega)]
  exact hR _ _ ⟨rfl, s', hs'⟩
theorem uIntS : cal P f_pack_Unpacker_Int [.pointer (some ⟨g, 0, none⟩)] w fun v w' => v = .int .u32 (ofBe (tk 4 b e).1) ∧ ∃ s', Sep w0 w' (uk g s' (tk 4 b e).2.2 :: ownB s' (tk 4 b e).2.1 :: As) := by
  refine s_pack_Unpacker_Int fun R hR => ?_
  unfold c_pack_Unpacker_Int
  refine tnumS hs (m := 4) (by omega) fun s' w' hs' => ?_
  have hl : (tk 4 b e).1.length ≤ 4 := by unfold tk; split <;> (try split) <;> simp; omega
  have hb := ofBe_lt (tk 4 b e).1
  have hp : 256 ^ (tk 4 b e).1.length ≤ 256 ^ 4 := Nat.pow_le_pow_right (by omega) hl
  rw [cvi_int, wu32i (by omega) (by omega)]
  exact hR _ _ ⟨rfl, s', hs'⟩
theorem uLongS : cal P f_pack_Unpacker_Long [.pointer (some ⟨g, 0, none⟩)] w fun v w' => v = .int .u64 (ofBe (tk 8 b e).1) ∧ ∃ s', Sep w0 w' (uk g s' (tk 8 b e).2.2 :: ownB s' (tk 8 b e).2.1 :: As) := by
  refine s_pack_Unpacker_Long fun R hR => ?_
  unfold c_pack_Unpacker_Long
  exact tnumS hs (m := 8) (by omega) fun s' w' hs' => hR _ _ ⟨rfl, s', hs'⟩
theorem uFixedS (hn : n ≤ 100000000) : cal P f_pack_Unpacker_Fixed [.pointer (some ⟨g, 0, none⟩), .int .i64 n] w fun v w' => ∃ s', Sep w0 w' (ownB v (tk n b e).1 :: uk g s' (tk n b e).2.2 :: ownB s' (tk n b e).2.1 :: As) := by
  refine s_pack_Unpacker_Fixed fun R hR => ?_
  unfold c_pack_Unpacker_Fixed
  exact cal_i (takeS hs hn) fun v w' h => hR _ _ h
/-- Bytes ahead of which stands how many they are. -/
def ct (most : Nat) (b : List UInt8) (e : Int) : List UInt8 × List UInt8 × Int :=
  if e = 0 then (if b.length < 4 then ([], b, 11) else if most < ofBe (b.take 4) then ([], b, 3) else if b.length - 4 < ofBe (b.take 4) then ([], b, 11) else tk (ofBe (b.take 4)) (b.drop 4) 0) else ([], b, e)
theorem uBytesS (hn : n ≤ 100000000) (hlb : b.length ≤ 281474976710656) : cal P f_pack_Unpacker_Bytes [.pointer (some ⟨g, 0, none⟩), .int .i64 n] w fun v w' => ∃ s', Sep w0 w' (ownB v (ct n b e).1 :: uk g s' (ct n b e).2.2 :: ownB s' (ct n b e).2.1 :: As) := by
  refine s_pack_Unpacker_Bytes fun R hR => ?_
  unfold c_pack_Unpacker_Bytes
  refine cal_i (s_pack_Unpacker_counted fun R hR => ?_) fun v w' h => hR v w' h
  unfold c_pack_Unpacker_counted
  refine cal_i (uworksS hs) ?_
  rintro _ _ ⟨rfl, rfl⟩
  unfold ct at hR
  by_cases he : e = 0
  · subst he
    rw [if_pos rfl] at hR
    simp only [nilc_some, fad_mk, pik_true, pik_false, cnd_true, cnd_false, gif_same, gif_tf, gif_ft, gif_undef, bi_add, bi_sub, bi_mul, bi_eql, bi_neq, bi_lss, bi_leq, bi_gtr, bi_geq, notB_bool, cvi_int, lenS_mk, lenT_mk, ext0, ext1, ext2, nilP_mk, nilS_mk, fldv_agg, jn0_k, jn1_k, jn2_k, jn1_and, jn1_or, ex_some, Option.isNone_some, Option.isNone_none, Bool.false_bne, Bool.bne_true, Bool.bne_false, Bool.true_bne, Bool.not_true, Bool.not_false, Bool.and_true, Bool.true_and, Bool.and_false, Bool.false_and, Bool.or_true, Bool.true_or, Bool.or_false, Bool.false_or, cond_true, cond_false, List.getElem?_toArray, List.getElem?_cons_zero, List.getElem?_cons_succ, Nat.zero_add, Nat.add_zero, Nat.reduceAdd, forall_const, show ((0 : Int) == 0) = true from rfl]
    rw [decide_eq_false (by omega)]
    simp only [nilc_some, fad_mk, pik_true, pik_false, cnd_true, cnd_false, gif_same, gif_tf, gif_ft, gif_undef, bi_add, bi_sub, bi_mul, bi_eql, bi_neq, bi_lss, bi_leq, bi_gtr, bi_geq, notB_bool, cvi_int, lenS_mk, lenT_mk, ext0, ext1, ext2, nilP_mk, nilS_mk, fldv_agg, jn0_k, jn1_k, jn2_k, jn1_and, jn1_or, ex_some, Option.isNone_some, Option.isNone_none, Bool.false_bne, Bool.bne_true, Bool.bne_false, Bool.true_bne, Bool.not_true, Bool.not_false, Bool.and_true, Bool.true_and, Bool.and_false, Bool.false_and, Bool.or_true, Bool.true_or, Bool.or_false, Bool.false_or, cond_true, cond_false, List.getElem?_toArray, List.getElem?_cons_zero, List.getElem?_cons_succ, Nat.zero_add, Nat.add_zero, Nat.reduceAdd, forall_const, L_pack_Unpacker hs.blk, L_pack_Unpacker__kept hs.blk, L_pack_Unpacker__kept_made hs.blk, L_pack_Unpacker__kept_b hs.blk, L_pack_Unpacker__kept_err hs.blk, (Sep.rd hs.p1).len]
    rw [cnd_bool]
    refine ⟨fun h => ?_, fun h => ?_⟩
    · have h : b.length < 4 := by simp at h; omega
      rw [if_pos h] at hR
      refine cal_i (ufailsS hs) ?_
      intro _ w' hs'
      exact hR _ _ ⟨s, hs'.nil⟩
    · have h : ¬ b.length < 4 := by simp at h; omega
      rw [if_neg h] at hR
      obtain ⟨a, c, rfl, hc⟩ := Sep.form hs.p1
      rw [show (Value.int .i64 4) = .int .i64 ((4 : Nat) : Int) from rfl, slc_to (by omega)]
      have h4 : (b.take 4).length = 4 := by simp; omega
      refine cal_i (value_spec ((Sep.rd hs.p1).take (by omega) c) (by omega)) ?_
      rintro _ _ ⟨rfl, rfl⟩
      have hv := ofBe_lt (b.take 4)
      rw [h4] at hv
      generalize ofBe (b.take 4) = m at *
      simp (disch := omega) only [nilc_some, fad_mk, pik_true, pik_false, cnd_true, cnd_false, gif_same, gif_tf, gif_ft, gif_undef, bi_add, bi_sub, bi_mul, bi_eql, bi_neq, bi_lss, bi_leq, bi_gtr, bi_geq, notB_bool, cvi_int, lenS_mk, lenT_mk, ext0, ext1, ext2, nilP_mk, nilS_mk, fldv_agg, jn0_k, jn1_k, jn2_k, jn1_and, jn1_or, ex_some, Option.isNone_some, Option.isNone_none, Bool.false_bne, Bool.bne_true, Bool.bne_false, Bool.true_bne, Bool.not_true, Bool.not_false, Bool.and_true, Bool.true_and, Bool.and_false, Bool.false_and, Bool.or_true, Bool.true_or, Bool.or_false, Bool.false_or, cond_true, cond_false, List.getElem?_toArray, List.getElem?_cons_zero, List.getElem?_cons_succ, Nat.zero_add, Nat.add_zero, Nat.reduceAdd, forall_const, wu64i]
      rw [cnd_bool]
      refine ⟨fun h => ?_, fun h => ?_⟩
      · have h : n < m := by simp at h; omega
        rw [if_pos h] at hR
        refine cal_i (ufailsS hs) ?_
        intro _ w' hs'
        exact hR _ _ ⟨_, hs'.nil⟩
      · have h : ¬ n < m := by simp at h; omega
        rw [if_neg h] at hR
        simp only [nilc_some, fad_mk, pik_true, pik_false, cnd_true, cnd_false, gif_same, gif_tf, gif_ft, gif_undef, bi_add, bi_sub, bi_mul, bi_eql, bi_neq, bi_lss, bi_leq, bi_gtr, bi_geq, notB_bool, cvi_int, lenS_mk, lenT_mk, ext0, ext1, ext2, nilP_mk, nilS_mk, fldv_agg, jn0_k, jn1_k, jn2_k, jn1_and, jn1_or, ex_some, Option.isNone_some, Option.isNone_none, Bool.false_bne, Bool.bne_true, Bool.bne_false, Bool.true_bne, Bool.not_true, Bool.not_false, Bool.and_true, Bool.true_and, Bool.and_false, Bool.false_and, Bool.or_true, Bool.true_or, Bool.or_false, Bool.false_or, cond_true, cond_false, List.getElem?_toArray, List.getElem?_cons_zero, List.getElem?_cons_succ, Nat.zero_add, Nat.add_zero, Nat.reduceAdd, forall_const, L_pack_Unpacker hs.blk, L_pack_Unpacker__kept hs.blk, L_pack_Unpacker__kept_made hs.blk, L_pack_Unpacker__kept_b hs.blk, L_pack_Unpacker__kept_err hs.blk, (Sep.rd hs.p1).len]
        rw [wi64 (by omega) (by omega), wu64i (by omega) (by omega), cnd_bool]
        refine ⟨fun h => ?_, fun h => ?_⟩
        · have h : b.length - 4 < m := by simp at h; omega
          rw [if_pos h] at hR
          refine cal_i (ufailsS hs) ?_
          intro _ w' hs'
          exact hR _ _ ⟨_, hs'.nil⟩
        · have h : ¬ b.length - 4 < m := by simp at h; omega
          rw [if_neg h] at hR
          refine fromB_s hs.p1 (by omega) fun s' hs1 => ?_
          refine St_pack_Unpacker__kept_b hs1.p1 (Sep.one hs1) fun w1 hs2 => ?_
          rw [wi64 (by omega) (by omega)]
          exact cal_i (takeS hs2 (by omega)) fun v w' h => hR _ _ h
  · rw [if_neg he] at hR
    have : (e == 0) = false := by simpa using he
    rw [this]
    simp only [nilc_some, fad_mk, pik_true, pik_false, cnd_true, cnd_false, gif_same, gif_tf, gif_ft, gif_undef, bi_add, bi_sub, bi_mul, bi_eql, bi_neq, bi_lss, bi_leq, bi_gtr, bi_geq, notB_bool, cvi_int, lenS_mk, lenT_mk, ext0, ext1, ext2, nilP_mk, nilS_mk, fldv_agg, jn0_k, jn1_k, jn2_k, jn1_and, jn1_or, ex_some, Option.isNone_some, Option.isNone_none, Bool.false_bne, Bool.bne_true, Bool.bne_false, Bool.true_bne, Bool.not_true, Bool.not_false, Bool.and_true, Bool.true_and, Bool.and_false, Bool.false_and, Bool.or_true, Bool.true_or, Bool.or_false, Bool.false_or, cond_true, cond_false, List.getElem?_toArray, List.getElem?_cons_zero, List.getElem?_cons_succ, Nat.zero_add, Nat.add_zero, Nat.reduceAdd, forall_const]
    exact hR _ _ ⟨s, hs.nil⟩
end
end
/-! ### What is taken, one behind the other -/
theorem tk_ok {n : Nat} {b : List UInt8} {e : Int} (h : (tk n b e).2.2 = 0) : e = 0 ∧ n ≤ b.length ∧ tk n b e = (b.take n, b.drop n, 0) := by
  unfold tk at h ⊢
  by_cases he : e = 0
  · rw [if_pos he] at h ⊢
    by_cases hn : b.length < n
    · rw [if_pos hn] at h; simp at h
    · rw [if_neg hn]; exact ⟨he, by omega, rfl⟩
  · rw [if_neg he] at h
    exact absurd h he
theorem uend_ok {b : List UInt8} {e : Int} (h : uend b e = 0) : e = 0 ∧ b = [] := by
  unfold uend at h
  split at h
  · rename_i hh
    subst h
    exact ⟨rfl, List.eq_nil_of_length_eq_zero (by omega)⟩
  · cases h
theorem tk_app {n : Nat} {a r : List UInt8} (h : a.length = n) : tk n (a ++ r) 0 = (a, r, 0) := by
  unfold tk
  rw [if_pos rfl, if_neg (by simp; omega), List.take_left' h, List.drop_left' h]
theorem ct_ok {m : Nat} {b : List UInt8} {e : Int} (h : (ct m b e).2.2 = 0) : e = 0 ∧ 4 ≤ b.length ∧ ofBe (b.take 4) ≤ m ∧ ofBe (b.take 4) ≤ b.length - 4 ∧ ct m b e = ((b.drop 4).take (ofBe (b.take 4)), (b.drop 4).drop (ofBe (b.take 4)), 0) := by
  unfold ct at h ⊢
  by_cases he : e = 0
  · rw [if_pos he] at h ⊢
    by_cases h1 : b.length < 4
    · rw [if_pos h1] at h; simp at h
    · rw [if_neg h1] at h ⊢
      by_cases h2 : m < ofBe (b.take 4)
      · rw [if_pos h2] at h; simp at h
      · rw [if_neg h2] at h ⊢
        by_cases h3 : b.length - 4 < ofBe (b.take 4)
        · rw [if_pos h3] at h; simp at h
        · rw [if_neg h3] at h ⊢
          exact ⟨he, by omega, by omega, by omega, (tk_ok h).2.2⟩
  · rw [if_neg he] at h
    exact absurd h he
theorem ct_app {m : Nat} {a d : List UInt8} (h : a.length = 4) (h2 : ofBe a = d.length) (hm : d.length ≤ m) : ct m (a ++ d) 0 = (d, [], 0) := by
  unfold ct
  rw [if_pos rfl, List.take_left' h, List.drop_left' h, if_neg (by simp; omega), if_neg (by omega), if_neg (by simp; omega), h2]
  unfold tk
  rw [if_pos rfl, if_neg (by omega), List.take_of_length_le (by omega), List.drop_of_length_le (by omega)]
end Go.Fx
