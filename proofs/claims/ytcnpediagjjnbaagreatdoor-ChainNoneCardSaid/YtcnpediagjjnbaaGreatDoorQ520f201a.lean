/-
  Ranges over functions, with assertions side by side: what an iterator is; the rule of the statement.
-/
import Derived.MapKept
import Derived.WideKeyRuns
import Derived.Maps.RangeRun
import Derived.Test.YtcnpediagjjnbaaGreatDoorQ0ecb6479
import Derived.Test.YtcnpediagjjnbaaGreatDoorQ70f96faf
import Derived.Test.YtcnpediagjjnbaaGreatDoorQd768562e
import Derived.Test.YtcnpediagjjnbaaGreatDoorQ00f8e6ce
set_option linter.unusedVariables false
set_option linter.unusedSimpArgs false
namespace Go.Fx
section
variable {w0 w : World} {v b s : Value} {l r : List UInt8} {As : List Asn} {g : Nat} {h : VW 8} {n : Nat}
theorem Sum_spec (hc : Cub w0) (hs : Sep w0 w (st g h s n :: ownB s r :: As)) (hr : r.length < 64) (hn : n ≤ 100000) :
    cal P f_sha_State_Sum [.pointer (some ⟨g, 0, none⟩)] w fun v w' => v = .agg (bvs ((foldM h.1 (padT r n)).flatMap wOut)).toArray ∧ Sep w0 w' (st g h s n :: ownB s r :: As) := by
  refine s_sha_State_Sum fun R hR => ?_
  unfold c_sha_State_Sum
  refine alloc_s hs (A_api_ID w) fun g2 w1 hs => ?_
  refine alloc_s hs (A_api_ID w1) fun g3 w2 hs => ?_
  refine cal_i (none_spec (Sep.p2 hs)) ?_
  rintro _ _ ⟨rfl, rfl⟩
  simp only [nilc_some, fad_mk, pik_true, pik_false, cnd_true, cnd_false, gif_same, gif_tf, gif_ft, gif_undef, bi_add, bi_sub, bi_mul, bi_eql, bi_neq, bi_lss, bi_leq, bi_gtr, bi_geq, notB_bool, cvi_int, lenS_mk, lenT_mk, ext0, ext1, ext2, nilP_mk, nilS_mk, fldv_agg, jn0_k, jn1_k, jn2_k, jn1_and, jn1_or, ex_some, Option.isNone_some, Option.isNone_none, Bool.false_bne, Bool.bne_true, Bool.bne_false, Bool.true_bne, Bool.not_true, Bool.not_false, Bool.and_true, Bool.true_and, Bool.and_false, Bool.false_and, Bool.or_true, Bool.true_or, Bool.or_false, Bool.false_or, cond_true, cond_false, List.getElem?_toArray, List.getElem?_cons_zero, List.getElem?_cons_succ, Nat.zero_add, Nat.add_zero, Nat.reduceAdd, forall_const, ldS_s (Sep.p2 hs).blk]
  refine cal_i (bClone_spec (Sep.p3 hs).rd (by omega)) ?_
  rintro v1 w3 hs1
  replace hs1 := hs.join hs1
  refine app0 128 (.inr rfl) hs1 (by omega) fun v2 w4 hs2 => ?_
  rw [if_neg (by decide)] at hs2
  obtain ⟨Bs, hBs⟩ : ∃ Bs, Bs = blk g3 (Rdr.cells (rVec 32) (vz 32)).toArray T_api_ID :: blk g2 (Rdr.cells (rVec 32) (vz 32)).toArray T_api_ID :: st g h s n :: ownB s r :: As := ⟨_, rfl⟩
  have hz := zer_le (r.length + 1)
  have hs2' : Sep w0 w4 (ownB v2 (r ++ [128]) :: Bs) := by rw [hBs]; exact hs2
  refine ⟨fun a w' => ∃ j : Nat, j ≤ zer (r.length + 1) ∧ Sep w0 w' (ownB a (r ++ [128] ++ List.replicate j 0) :: Bs), fun a _ => match a with
    | .slice _ n _ => (r.length + 1 + zer (r.length + 1)) - n
    | _ => 0, ⟨0, by omega, by simpa using hs2'⟩, ?_⟩
  rintro v3 w5 ⟨j, hj, hs3⟩ -
  obtain ⟨a3, c3, rfl⟩ := Sep.sl hs3
  have hlen : (r ++ [128] ++ List.replicate j 0).length = r.length + 1 + j := by simp; omega
  simp only [lenS_mk, hlen]
  rw [bi_rem .i64 _ _ _ (by decide), show (64 : Int) = ((64 : Nat) : Int) from rfl, tmodn, bi_neq, cnd_bool]
  refine ⟨fun hq => ?_, fun hq => ?_⟩
  · have h56 : (r.length + 1 + j) % 64 ≠ 56 := by simp at hq; omega
    have hjz : j < zer (r.length + 1) := by
      rcases Nat.lt_or_ge j (zer (r.length + 1)) with h' | h'
      · exact h'
      · have : j = zer (r.length + 1) := by omega
        rw [this, zer_eq] at h56
        exact absurd rfl h56
    rw [← hlen]
    refine app0 0 (.inl rfl) hs3 (by rw [hlen]; omega) fun v4 w6 hs4 => ?_
    rw [if_pos rfl] at hs4
    have e : r ++ [128] ++ List.replicate j 0 ++ [0] = r ++ [128] ++ List.replicate (j + 1) 0 := by rw [List.replicate_succ', List.append_assoc]
    rw [e] at hs4
    obtain ⟨a4, c4, rfl⟩ := Sep.sl hs4
    refine ⟨⟨j + 1, by omega, hs4⟩, ?_⟩
    simp
    omega
  · have h56 : (r.length + 1 + j) % 64 = 56 := by simp at hq; omega
    have hjz : j = zer (r.length + 1) := by
      rcases Nat.lt_or_ge j (zer (r.length + 1)) with h' | h'
      · exact absurd h56 (zer_lt h')
      · omega
    rw [← hlen]
    have hst : Sep w0 w5 (st g h s n :: blk g3 (Rdr.cells (rVec 32) (vz 32)).toArray T_api_ID :: blk g2 (Rdr.cells (rVec 32) (vz 32)).toArray T_api_ID :: ownB s r :: As) := by
      have := hs3.tail
      rw [hBs] at this
      exact this.p2
    simp only [nilc_some, fad_mk, pik_true, pik_false, cnd_true, cnd_false, gif_same, gif_tf, gif_ft, gif_undef, bi_add, bi_sub, bi_mul, bi_eql, bi_neq, bi_lss, bi_leq, bi_gtr, bi_geq, notB_bool, cvi_int, lenS_mk, lenT_mk, ext0, ext1, ext2, nilP_mk, nilS_mk, fldv_agg, jn0_k, jn1_k, jn2_k, jn1_and, jn1_or, ex_some, Option.isNone_some, Option.isNone_none, Bool.false_bne, Bool.bne_true, Bool.bne_false, Bool.true_bne, Bool.not_true, Bool.not_false, Bool.and_true, Bool.true_and, Bool.and_false, Bool.false_and, Bool.or_true, Bool.true_or, Bool.or_false, Bool.false_or, cond_true, cond_false, List.getElem?_toArray, List.getElem?_cons_zero, List.getElem?_cons_succ, Nat.zero_add, Nat.add_zero, Nat.reduceAdd, forall_const, ldS_n hst.blk]
    rw [wu64n, Nat.mod_eq_of_lt (by omega), show ((n : Int) * 8) = ((n * 8 : Nat) : Int) by simp, wu64n]
    generalize hv : n * 8 % 18446744073709551616 = x
    have hvb : x < 18446744073709551616 := by omega
    refine ⟨fun a c w' => ∃ i : Nat, c = .int .i64 i ∧ i ≤ 8 ∧ Sep w0 w' (ownB a (r ++ [128] ++ List.replicate j 0 ++ (be 8 x).take i) :: Bs), fun _ c _ => (8 - RowKit.intOf c).toNat, ⟨0, rfl, by omega, by simpa using hs3⟩, ?_⟩
    rintro v5 _ w6 ⟨i, rfl, hi, hs5⟩ -
    simp only [nilc_some, fad_mk, pik_true, pik_false, cnd_true, cnd_false, gif_same, gif_tf, gif_ft, gif_undef, bi_add, bi_sub, bi_mul, bi_eql, bi_neq, bi_lss, bi_leq, bi_gtr, bi_geq, notB_bool, cvi_int, lenS_mk, lenT_mk, ext0, ext1, ext2, nilP_mk, nilS_mk, fldv_agg, jn0_k, jn1_k, jn2_k, jn1_and, jn1_or, ex_some, Option.isNone_some, Option.isNone_none, Bool.false_bne, Bool.bne_true, Bool.bne_false, Bool.true_bne, Bool.not_true, Bool.not_false, Bool.and_true, Bool.true_and, Bool.and_false, Bool.false_and, Bool.or_true, Bool.true_or, Bool.or_false, Bool.false_or, cond_true, cond_false, List.getElem?_toArray, List.getElem?_cons_zero, List.getElem?_cons_succ, Nat.zero_add, Nat.add_zero, Nat.reduceAdd, forall_const]
    rw [cnd_bool]
    refine ⟨fun hq => ?_, fun hq => ?_⟩
    · have h8 : i < 8 := by simp at hq; omega
      have e1 : IntKind.i64.wrap (56 - IntKind.i64.wrap (8 * (i : Int))) = ((56 - 8 * i : Nat) : Int) := by
        rw [wi64 (x := 8 * (i : Int)) (by omega) (by omega), wi64 (by omega) (by omega)]
        omega
      have hsh : ∀ K, sh .shr (.int .u64 (x : Int)) (.int .i64 ((56 - 8 * i : Nat) : Int)) K = K (.int .u64 ((x / 256 ^ (7 - i) : Nat) : Int)) := fun K => by
        have := shr56 x i h8 K
        rw [sh_shr _ _ _ _ _ (by omega)] at this ⊢
        exact this
      rw [e1, hsh]
      rw [cvi_int, bv_of _ (Int.natCast_nonneg _), Int.toNat_natCast]
      refine app1 hs5 (by simp [be_length]; omega) fun v6 w7 hs6 => ?_
      rw [wi64 (by omega) (by omega)]
      rw [List.append_assoc, ← be_take x 8 i h8] at hs6
      exact ⟨⟨i + 1, by simp, by omega, hs6⟩, by simp [RowKit.intOf]; omega⟩
    · have h8 : i = 8 := by simp at hq; omega
      subst h8
      rw [List.take_of_length_le (by rw [be_length]; omega)] at hs5
      have hpad : r ++ [128] ++ List.replicate j 0 ++ be 8 x = padT r n := by rw [padT, hv, ← hjz]
      rw [hpad] at hs5
      have hlp : (padT r n).length ≤ 200 := by
        rw [padT]
        simp [be_length]
        omega
      have hmod := padT_len r n
      generalize padT r n = pad at *
      have hst5 : Sep w0 w6 (st g h s n :: blk g3 (Rdr.cells (rVec 32) (vz 32)).toArray T_api_ID :: blk g2 (Rdr.cells (rVec 32) (vz 32)).toArray T_api_ID :: ownB s r :: As) := by
        have := hs5.tail
        rw [hBs] at this
        exact this.p2
      simp only [nilc_some, fad_mk, pik_true, pik_false, cnd_true, cnd_false, gif_same, gif_tf, gif_ft, gif_undef, bi_add, bi_sub, bi_mul, bi_eql, bi_neq, bi_lss, bi_leq, bi_gtr, bi_geq, notB_bool, cvi_int, lenS_mk, lenT_mk, ext0, ext1, ext2, nilP_mk, nilS_mk, fldv_agg, jn0_k, jn1_k, jn2_k, jn1_and, jn1_or, ex_some, Option.isNone_some, Option.isNone_none, Bool.false_bne, Bool.bne_true, Bool.bne_false, Bool.true_bne, Bool.not_true, Bool.not_false, Bool.and_true, Bool.true_and, Bool.and_false, Bool.false_and, Bool.or_true, Bool.true_or, Bool.or_false, Bool.false_or, cond_true, cond_false, List.getElem?_toArray, List.getElem?_cons_zero, List.getElem?_cons_succ, Nat.zero_add, Nat.add_zero, Nat.reduceAdd, forall_const, ldS_h hst5.blk]
      refine alloc_s hs5 (A_a8 w6) fun g4 w7 hs6 => ?_
      refine stN_w hs6 (by simp) h.2 fun w8 hs7 => ?_
      obtain ⟨a5, c5, rfl, hc5⟩ := Sep.form (Sep.p1 hs7)
      refine ⟨fun u w' => ∃ (k : Nat) (h' : VW 8), k ≤ pad.length ∧ k % 64 = 0 ∧ foldM h.1 pad = foldM h'.1 (pad.drop k) ∧ Rest (.slice a5 pad.length c5) pad u (pad.drop k) ∧ Sep w0 w' (wa g4 h'.1 T_a8_uint32 :: ownB (.slice a5 pad.length c5) pad :: Bs), fun u _ => match u with
        | .slice _ n _ => n
        | _ => 0, ⟨0, h, by omega, rfl, rfl, Rest.start hc5, hs7⟩, ?_⟩
      rintro u w9 ⟨k, h', hk, hkm, hf, hrest, hs8⟩ -
      simp only [hrest.len, List.length_drop]
      rw [bi_gtr, cnd_bool]
      refine ⟨fun hlt => ?_, fun hlt => ?_⟩
      · have h64 : 64 ≤ (pad.drop k).length := by simp at hlt ⊢; omega
        refine drH_s hs8 fun w10 hs9 _ => ?_
        simp only [nilc_some, fad_mk, pik_true, pik_false, cnd_true, cnd_false, gif_same, gif_tf, gif_ft, gif_undef, bi_add, bi_sub, bi_mul, bi_eql, bi_neq, bi_lss, bi_leq, bi_gtr, bi_geq, notB_bool, cvi_int, lenS_mk, lenT_mk, ext0, ext1, ext2, nilP_mk, nilS_mk, fldv_agg, jn0_k, jn1_k, jn2_k, jn1_and, jn1_or, ex_some, Option.isNone_some, Option.isNone_none, Bool.false_bne, Bool.bne_true, Bool.bne_false, Bool.true_bne, Bool.not_true, Bool.not_false, Bool.and_true, Bool.true_and, Bool.and_false, Bool.false_and, Bool.or_true, Bool.true_or, Bool.or_false, Bool.false_or, cond_true, cond_false, List.getElem?_toArray, List.getElem?_cons_zero, List.getElem?_cons_succ, Nat.zero_add, Nat.add_zero, Nat.reduceAdd, forall_const, rdS_ldN]
        rw [ldN_w hs9.blk h'.2]
        refine hrest.to h64 _ fun y hy => ?_
        refine efC_cal (cal_i (mixed_spec (hc.fr hs9.fr0) (hy _ (Sep.rd hs9.p1)) (by rw [List.length_take]; omega) h'.2) ?_)
        rintro _ w11 ⟨rfl, hf11⟩
        have hs10 := hs9.old hf11
        have hml := mixM_len ((pad.drop k).take 64) h'.2
        refine efC_stN (stN_w hs10 h'.2 hml fun w12 hs11 => ?_)
        refine hrest.from h64 _ fun u' hu' => ?_
        rw [List.drop_drop] at hu'
        have hll : k + 64 ≤ pad.length := by simp at h64; omega
        refine ⟨⟨k + 64, ⟨_, hml⟩, hll, by omega, ?_, hu', hs11⟩, ?_⟩
        · rw [hf, foldM_step h64, List.drop_drop]
        · obtain ⟨_, n1, _, rfl, e1, _⟩ := hrest
          obtain ⟨_, n2, _, rfl, e2, _⟩ := hu'
          simp only [List.length_drop] at e1 e2
          simp only []
          omega
      · have hge : k = pad.length := by simp at hlt; omega
        subst hge
        rw [List.drop_length, foldM_end (h := h'.1) (l := []) (by simp)] at hf
        rw [hf] at hR
        obtain ⟨o, ho⟩ : ∃ o, o = h'.1.flatMap wOut := ⟨_, rfl⟩
        have hol : o.length = 32 := by rw [ho, wOut_len, h'.2]
        rw [← ho] at hR
        rw [ldN_w hs8.blk h'.2]
        have hs9 : Sep w0 w9 (blk g3 (Rdr.cells (rVec 32) (vz 32)).toArray T_api_ID :: blk g2 (Rdr.cells (rVec 32) (vz 32)).toArray T_api_ID :: st g h s n :: ownB s r :: As) := by
          have := hs8.tail.tail
          rw [hBs] at this
          exact this
        have e0 : bvs (part o (4 * 0)) = Rdr.cells (rVec 32) (vz 32) := by rw [Nat.mul_zero, part_zero, hol]; rfl
        refine ⟨fun a w' => ∃ i : Nat, a = .int .i64 i ∧ i ≤ 8 ∧ Sep w0 w' (blk g3 (bvs (part o (4 * i))).toArray T_api_ID :: blk g2 (Rdr.cells (rVec 32) (vz 32)).toArray T_api_ID :: st g h s n :: ownB s r :: As),
          fun z _ => (8 - RowKit.intOf z).toNat, ⟨0, rfl, by omega, by rw [e0]; exact hs9⟩, ?_⟩
        rintro _ w10 ⟨i, rfl, hi, hs10⟩ -
        simp only [nilc_some, fad_mk, pik_true, pik_false, cnd_true, cnd_false, gif_same, gif_tf, gif_ft, gif_undef, bi_add, bi_sub, bi_mul, bi_eql, bi_neq, bi_lss, bi_leq, bi_gtr, bi_geq, notB_bool, cvi_int, lenS_mk, lenT_mk, ext0, ext1, ext2, nilP_mk, nilS_mk, fldv_agg, jn0_k, jn1_k, jn2_k, jn1_and, jn1_or, ex_some, Option.isNone_some, Option.isNone_none, Bool.false_bne, Bool.bne_true, Bool.bne_false, Bool.true_bne, Bool.not_true, Bool.not_false, Bool.and_true, Bool.true_and, Bool.and_false, Bool.false_and, Bool.or_true, Bool.true_or, Bool.or_false, Bool.false_or, cond_true, cond_false, List.getElem?_toArray, List.getElem?_cons_zero, List.getElem?_cons_succ, Nat.zero_add, Nat.add_zero, Nat.reduceAdd, forall_const]
        rw [cnd_bool]
        refine ⟨fun hlt => ?_, fun hlt => ?_⟩
        · have h8 : i < 8 := by simp at hlt; omega
          have ei : IntKind.i64.wrap (4 * (i : Int)) = ((4 * i : Nat) : Int) := by rw [wi64 (by omega) (by omega)]; omega
          have e1 : IntKind.i64.wrap (((4 * i : Nat) : Int) + 1) = ((4 * i + 1 : Nat) : Int) := by rw [wi64 (by omega) (by omega)]; omega
          have e2 : IntKind.i64.wrap (((4 * i : Nat) : Int) + 2) = ((4 * i + 2 : Nat) : Int) := by rw [wi64 (by omega) (by omega)]; omega
          have e3 : IntKind.i64.wrap (((4 * i : Nat) : Int) + 3) = ((4 * i + 3 : Nat) : Int) := by rw [wi64 (by omega) (by omega)]; omega
          have hg : ∀ m : Nat, m < 4 → o[4 * i + m]? = some (UInt8.ofNat ((h'.1.getD i 0) >>> (24 - 8 * m)).toNat) := fun m hm => by
            have h8' := h'.2
            rw [ho, wOut_get (by omega), show (4 * i + m) / 4 = i by omega, show (4 * i + m) % 4 = m by omega]
          rw [ixv_w .i64 h'.2 h8, ei, e1, e2, e3, shr_l _ .u64 24 (by decide) (by decide), w_b, shr_l _ .u64 16 (by decide) (by decide), w_b, shr_l _ .u64 8 (by decide) (by decide), w_b, w_b]
          rw [ixa_w .i64 (by omega)]
          refine st_b hs10 (hg 0 (by decide)) fun w11 hs11 => ?_
          rw [ixa_w .i64 (by omega)]
          refine st_b hs11 (hg 1 (by decide)) fun w12 hs12 => ?_
          rw [ixa_w .i64 (by omega)]
          refine st_b hs12 (hg 2 (by decide)) fun w13 hs13 => ?_
          rw [ixa_w .i64 (by omega)]
          refine st_b hs13 (hg 3 (by decide)) fun w14 hs14 => ?_
          rw [wi64 (by omega) (by omega)]
          exact ⟨⟨i + 1, by simp, by omega, hs14⟩, by simp [RowKit.intOf]; omega⟩
        · have h8 : i = 8 := by simp at hlt; omega
          subst h8
          have e2 : bvs (part o (4 * 8)) = Rdr.cells (rVec 32) ⟨o, hol⟩ := by
            rw [show 4 * 8 = o.length by omega, part_all]
            rfl
          rw [e2] at hs10
          simp only [L_api_ID hs10.blk]
          refine St_api_ID hs10.p1 fun w15 hs15 => ?_
          simp only [L_api_ID hs15.blk]
          exact hR _ _ ⟨rfl, hs15.d1.tail⟩
/-- The program's sum is the plain one. -/
theorem shaSum_spec (hc : Cub w) (hb : RdB w.heap b l) (hl : l.length ≤ 100000) : cal P f_sha_Sum [b] w fun v w' => v = .agg (Rdr.cells (rVec 32) (shaM l)).toArray ∧ Fr [] w w' := by
  refine s_sha_Sum fun R hR => ?_
  unfold c_sha_Sum
  refine alloc_s (Sep.start w) (A_api_ID w) fun g2 w1 hs => ?_
  refine cal_i New_spec ?_
  rintro _ w2 ⟨g, rfl, hs1⟩
  replace hs1 := hs.join hs1
  have hbs : ∀ (w : World), (Instr.buildSlice T_sl_sl_uint8 1 #[(0, b)]).run P w = .ok (.slice (some ⟨w.heap.size, 0, none⟩) 1 1) (w.alloc (.cells ([b] : List Value).toArray T_sl_uint8)) := by
    obtain ⟨a, c, rfl, _⟩ := hb
    intro w
    kernel_rfl
  refine build_s (cs := [b]) (size := 1) hs1 rfl (hbs _) fun g3 w3 hs3 => ?_
  refine cal_i (Write_spec hc (Sep.p1 hs3) (.inr ⟨_, rfl⟩) hb hl) ?_
  rintro _ w4 ⟨a, r, h, s, rfl, ha, hr, hh, hs4⟩
  refine cal_i (Sum_spec (n := (a ++ r).length) hc hs4 hr hl) ?_
  rintro _ w5 ⟨rfl, hs5⟩
  have e : foldM h.1 (padT r (a ++ r).length) = shaL (a ++ r) := by rw [shaL, padT_app _ _ _ ha, foldM_app ha, hh]
  have e2 : bvs ((foldM h.1 (padT r (a ++ r).length)).flatMap wOut) = Rdr.cells (rVec 32) (shaM (a ++ r)) := by rw [e]; rfl
  rw [e2]
  refine St_api_ID (Sep.p3 hs5) fun w6 hs6 => ?_
  simp only [L_api_ID hs6.blk]
  exact hR _ _ ⟨rfl, hs6.fr0⟩
end
end Go.Fx
set_option linter.unusedVariables false
set_option linter.unusedSimpArgs false
namespace Go.Fx
structure Blk where
  p : Vec 32
  h : Int
  d : List UInt8
deriving DecidableEq
def Blk.none : Blk := ⟨vz 32, 0, []⟩
def Blk.chk (b : Blk) : Int := if b.h < 0 ∨ 200 < b.d.length ∨ (b.h = 0 ∧ b.p ≠ vz 32) then 30 else 0
theorem Blk.chk_or (b : Blk) : b.chk = 0 ∨ b.chk = 30 := by unfold Blk.chk; split <;> simp
theorem Blk.chk_ok {b : Blk} (h : b.chk = 0) : 0 ≤ b.h ∧ b.d.length ≤ 200 ∧ (b.h = 0 → b.p = vz 32) := by
  unfold Blk.chk at h
  split at h
  · cases h
  · rename_i hn
    refine ⟨by omega, by omega, fun h0 => ?_⟩
    by_cases hp : b.p = vz 32
    · exact hp
    · exact absurd (.inr (.inr ⟨h0, hp⟩)) hn
/-- A block as a value: its data stand where v says. -/
abbrev bq (b : Blk) (v : Value) : Value := .agg (Rdr.cells Q_api_Block (b.p, b.h, v)).toArray
theorem bq_none : Value.agg (Rdr.cells Q_api_Block (vz 32, (0 : Int), Value.slice Option.none 0 0)).toArray = bq Blk.none (.slice Option.none 0 0) := rfl
abbrev bb (g : Nat) (b : Blk) (v : Value) : Asn := blk g (Rdr.cells Q_api_Block (b.p, b.h, v)).toArray T_api_Block
theorem B_ID0 {w : World} (K : Value → Prop) : rdP P (Instr.build T_api_ID #[]) w K = K (.agg (Rdr.cells (rVec 32) (vz 32)).toArray) := rdP_eq (by kernel_rfl) K
theorem bxQ {w0 w : World} {As : List Asn} {t : TypeId} {cs : Array Value} {K : Value → World → Prop} (hs : Sep w0 w As) (h : ∀ g w', Sep w0 w' (blk g cs t :: As) → K (.pointer (some ⟨g, 0, .none⟩)) w') : bx t (.agg cs) w K := bx_s hs fun g w' hs' => h g w' hs'
theorem RdB.one {h : Heap} {v : Value} {l : List UInt8} (hr : RdB h v l) : v.oneCell' = true := by obtain ⟨a, c, rfl⟩ := hr.form; rfl
theorem RdB.lenEq {h : Heap} {v : Value} {l : List UInt8} (hr : RdB h v l) (K : Value → Prop) : lenS v K = K (.int .i64 l.length) := hr.len K
section
variable {w0 w : World} {As : List Asn} {v u : Value} {a b : Blk}
theorem Check_spec (hb : RdB w.heap v b.d) : cal P f_block_Check [bq b v] w fun r w' => r = .int .i64 b.chk ∧ Fr [] w w' := by
  refine s_block_Check fun R hR => ?_
  unfold c_block_Check
  refine bxQ (Sep.start w) fun g w1 hs => ?_
  have hl := (hs.rdB hb).len
  have hf := hs.fr0
  have fin : ∀ c : Int, b.chk = c → R (.int .i64 c) w1 := fun c hc => hR _ _ ⟨by rw [hc], hf⟩
  by_cases h : b.h < 0
  · simp only [h, decide_true, nilc_some, fad_mk, pik_true, pik_false, cnd_true, cnd_false, gif_same, gif_tf, gif_ft, gif_undef, bi_add, bi_sub, bi_mul, bi_eql, bi_neq, bi_lss, bi_leq, bi_gtr, bi_geq, notB_bool, cvi_int, lenS_mk, lenT_mk, ext0, ext1, ext2, nilP_mk, nilS_mk, fldv_agg, jn0_k, jn1_k, jn2_k, jn1_and, jn1_or, ex_some, Option.isNone_some, Option.isNone_none, Bool.false_bne, Bool.bne_true, Bool.bne_false, Bool.true_bne, Bool.not_true, Bool.not_false, Bool.and_true, Bool.true_and, Bool.and_false, Bool.false_and, Bool.or_true, Bool.true_or, Bool.or_false, Bool.false_or, cond_true, cond_false, List.getElem?_toArray, List.getElem?_cons_zero, List.getElem?_cons_succ, Nat.zero_add, Nat.add_zero, Nat.reduceAdd, forall_const, L_api_Block hs.blk, L_api_Block__Parent hs.blk, L_api_Block__Height hs.blk, L_api_Block__Data hs.blk]
    exact fin 30 (by simp [Blk.chk, h])
  · by_cases h2 : 200 < b.d.length
    · have e : decide ((200 : Int) < b.d.length) = true := by simp; omega
      simp only [h, decide_false, e, hl, nilc_some, fad_mk, pik_true, pik_false, cnd_true, cnd_false, gif_same, gif_tf, gif_ft, gif_undef, bi_add, bi_sub, bi_mul, bi_eql, bi_neq, bi_lss, bi_leq, bi_gtr, bi_geq, notB_bool, cvi_int, lenS_mk, lenT_mk, ext0, ext1, ext2, nilP_mk, nilS_mk, fldv_agg, jn0_k, jn1_k, jn2_k, jn1_and, jn1_or, ex_some, Option.isNone_some, Option.isNone_none, Bool.false_bne, Bool.bne_true, Bool.bne_false, Bool.true_bne, Bool.not_true, Bool.not_false, Bool.and_true, Bool.true_and, Bool.and_false, Bool.false_and, Bool.or_true, Bool.true_or, Bool.or_false, Bool.false_or, cond_true, cond_false, List.getElem?_toArray, List.getElem?_cons_zero, List.getElem?_cons_succ, Nat.zero_add, Nat.add_zero, Nat.reduceAdd, forall_const, L_api_Block hs.blk, L_api_Block__Parent hs.blk, L_api_Block__Height hs.blk, L_api_Block__Data hs.blk]
      exact fin 30 (by simp [Blk.chk, h2])
    · have e : decide ((200 : Int) < b.d.length) = false := by simp; omega
      by_cases h0 : b.h = 0
      · simp only [h, decide_false, e, hl, nilc_some, fad_mk, pik_true, pik_false, cnd_true, cnd_false, gif_same, gif_tf, gif_ft, gif_undef, bi_add, bi_sub, bi_mul, bi_eql, bi_neq, bi_lss, bi_leq, bi_gtr, bi_geq, notB_bool, cvi_int, lenS_mk, lenT_mk, ext0, ext1, ext2, nilP_mk, nilS_mk, fldv_agg, jn0_k, jn1_k, jn2_k, jn1_and, jn1_or, ex_some, Option.isNone_some, Option.isNone_none, Bool.false_bne, Bool.bne_true, Bool.bne_false, Bool.true_bne, Bool.not_true, Bool.not_false, Bool.and_true, Bool.true_and, Bool.and_false, Bool.false_and, Bool.or_true, Bool.true_or, Bool.or_false, Bool.false_or, cond_true, cond_false, List.getElem?_toArray, List.getElem?_cons_zero, List.getElem?_cons_succ, Nat.zero_add, Nat.add_zero, Nat.reduceAdd, forall_const, L_api_Block hs.blk, L_api_Block__Parent hs.blk, L_api_Block__Height hs.blk, L_api_Block__Data hs.blk, B_ID0, ne_api_ID, h0, show ((0 : Int) == 0) = true from rfl, show decide ((0 : Int) < 0) = false from rfl]
        rw [cnd_bool]
        refine ⟨fun h3 => fin 30 ?_, fun h3 => fin 0 ?_⟩
        · have h3 : b.p ≠ vz 32 := by simpa using h3
          simp [Blk.chk, h0, h3]
        · have h3 : b.p = vz 32 := by simpa using h3
          unfold Blk.chk
          rw [if_neg (by rw [h3]; simp; omega)]
      · have he : (b.h == 0) = false := by simpa using h0
        simp only [h, decide_false, e, hl, nilc_some, fad_mk, pik_true, pik_false, cnd_true, cnd_false, gif_same, gif_tf, gif_ft, gif_undef, bi_add, bi_sub, bi_mul, bi_eql, bi_neq, bi_lss, bi_leq, bi_gtr, bi_geq, notB_bool, cvi_int, lenS_mk, lenT_mk, ext0, ext1, ext2, nilP_mk, nilS_mk, fldv_agg, jn0_k, jn1_k, jn2_k, jn1_and, jn1_or, ex_some, Option.isNone_some, Option.isNone_none, Bool.false_bne, Bool.bne_true, Bool.bne_false, Bool.true_bne, Bool.not_true, Bool.not_false, Bool.and_true, Bool.true_and, Bool.and_false, Bool.false_and, Bool.or_true, Bool.true_or, Bool.or_false, Bool.false_or, cond_true, cond_false, List.getElem?_toArray, List.getElem?_cons_zero, List.getElem?_cons_succ, Nat.zero_add, Nat.add_zero, Nat.reduceAdd, forall_const, L_api_Block hs.blk, L_api_Block__Parent hs.blk, L_api_Block__Height hs.blk, L_api_Block__Data hs.blk, he]
        refine fin 0 ?_
        unfold Blk.chk
        rw [if_neg (by simp [h0]; omega)]
theorem rCheck_spec (hb : RdB w.heap v b.d) : cal P f_ref03_Check [bq b v] w fun r w' => r = .int .i64 b.chk ∧ Fr [] w w' := by
  refine s_ref03_Check fun R hR => ?_
  unfold c_ref03_Check
  refine bxQ (Sep.start w) fun g w1 hs => ?_
  have hl := (hs.rdB hb).len
  have hf := hs.fr0
  have fin : ∀ c : Int, b.chk = c → R (.int .i64 c) w1 := fun c hc => hR _ _ ⟨by rw [hc], hf⟩
  by_cases h : b.h < 0
  · simp only [h, decide_true, nilc_some, fad_mk, pik_true, pik_false, cnd_true, cnd_false, gif_same, gif_tf, gif_ft, gif_undef, bi_add, bi_sub, bi_mul, bi_eql, bi_neq, bi_lss, bi_leq, bi_gtr, bi_geq, notB_bool, cvi_int, lenS_mk, lenT_mk, ext0, ext1, ext2, nilP_mk, nilS_mk, fldv_agg, jn0_k, jn1_k, jn2_k, jn1_and, jn1_or, ex_some, Option.isNone_some, Option.isNone_none, Bool.false_bne, Bool.bne_true, Bool.bne_false, Bool.true_bne, Bool.not_true, Bool.not_false, Bool.and_true, Bool.true_and, Bool.and_false, Bool.false_and, Bool.or_true, Bool.true_or, Bool.or_false, Bool.false_or, cond_true, cond_false, List.getElem?_toArray, List.getElem?_cons_zero, List.getElem?_cons_succ, Nat.zero_add, Nat.add_zero, Nat.reduceAdd, forall_const, L_api_Block hs.blk, L_api_Block__Parent hs.blk, L_api_Block__Height hs.blk, L_api_Block__Data hs.blk]
    exact fin 30 (by simp [Blk.chk, h])
  · by_cases h2 : 200 < b.d.length
    · have e : decide ((200 : Int) < b.d.length) = true := by simp; omega
      simp only [h, decide_false, e, hl, nilc_some, fad_mk, pik_true, pik_false, cnd_true, cnd_false, gif_same, gif_tf, gif_ft, gif_undef, bi_add, bi_sub, bi_mul, bi_eql, bi_neq, bi_lss, bi_leq, bi_gtr, bi_geq, notB_bool, cvi_int, lenS_mk, lenT_mk, ext0, ext1, ext2, nilP_mk, nilS_mk, fldv_agg, jn0_k, jn1_k, jn2_k, jn1_and, jn1_or, ex_some, Option.isNone_some, Option.isNone_none, Bool.false_bne, Bool.bne_true, Bool.bne_false, Bool.true_bne, Bool.not_true, Bool.not_false, Bool.and_true, Bool.true_and, Bool.and_false, Bool.false_and, Bool.or_true, Bool.true_or, Bool.or_false, Bool.false_or, cond_true, cond_false, List.getElem?_toArray, List.getElem?_cons_zero, List.getElem?_cons_succ, Nat.zero_add, Nat.add_zero, Nat.reduceAdd, forall_const, L_api_Block hs.blk, L_api_Block__Parent hs.blk, L_api_Block__Height hs.blk, L_api_Block__Data hs.blk]
      exact fin 30 (by simp [Blk.chk, h2])
    · have e : decide ((200 : Int) < b.d.length) = false := by simp; omega
      by_cases h0 : b.h = 0
      · simp only [h, decide_false, e, hl, nilc_some, fad_mk, pik_true, pik_false, cnd_true, cnd_false, gif_same, gif_tf, gif_ft, gif_undef, bi_add, bi_sub, bi_mul, bi_eql, bi_neq, bi_lss, bi_leq, bi_gtr, bi_geq, notB_bool, cvi_int, lenS_mk, lenT_mk, ext0, ext1, ext2, nilP_mk, nilS_mk, fldv_agg, jn0_k, jn1_k, jn2_k, jn1_and, jn1_or, ex_some, Option.isNone_some, Option.isNone_none, Bool.false_bne, Bool.bne_true, Bool.bne_false, Bool.true_bne, Bool.not_true, Bool.not_false, Bool.and_true, Bool.true_and, Bool.and_false, Bool.false_and, Bool.or_true, Bool.true_or, Bool.or_false, Bool.false_or, cond_true, cond_false, List.getElem?_toArray, List.getElem?_cons_zero, List.getElem?_cons_succ, Nat.zero_add, Nat.add_zero, Nat.reduceAdd, forall_const, L_api_Block hs.blk, L_api_Block__Parent hs.blk, L_api_Block__Height hs.blk, L_api_Block__Data hs.blk, B_ID0, ne_api_ID, h0, show ((0 : Int) == 0) = true from rfl, show decide ((0 : Int) < 0) = false from rfl]
        rw [cnd_bool]
        refine ⟨fun h3 => fin 30 ?_, fun h3 => fin 0 ?_⟩
        · have h3 : b.p ≠ vz 32 := by simpa using h3
          simp [Blk.chk, h0, h3]
        · have h3 : b.p = vz 32 := by simpa using h3
          unfold Blk.chk
          rw [if_neg (by rw [h3]; simp; omega)]
      · have he : (b.h == 0) = false := by simpa using h0
        simp only [h, decide_false, e, hl, nilc_some, fad_mk, pik_true, pik_false, cnd_true, cnd_false, gif_same, gif_tf, gif_ft, gif_undef, bi_add, bi_sub, bi_mul, bi_eql, bi_neq, bi_lss, bi_leq, bi_gtr, bi_geq, notB_bool, cvi_int, lenS_mk, lenT_mk, ext0, ext1, ext2, nilP_mk, nilS_mk, fldv_agg, jn0_k, jn1_k, jn2_k, jn1_and, jn1_or, ex_some, Option.isNone_some, Option.isNone_none, Bool.false_bne, Bool.bne_true, Bool.bne_false, Bool.true_bne, Bool.not_true, Bool.not_false, Bool.and_true, Bool.true_and, Bool.and_false, Bool.false_and, Bool.or_true, Bool.true_or, Bool.or_false, Bool.false_or, cond_true, cond_false, List.getElem?_toArray, List.getElem?_cons_zero, List.getElem?_cons_succ, Nat.zero_add, Nat.add_zero, Nat.reduceAdd, forall_const, L_api_Block hs.blk, L_api_Block__Parent hs.blk, L_api_Block__Height hs.blk, L_api_Block__Data hs.blk, he]
        refine fin 0 ?_
        unfold Blk.chk
        rw [if_neg (by simp [h0]; omega)]
theorem Blk.ext_iff' {a b : Blk} : a = b ↔ a.p = b.p ∧ a.h = b.h ∧ a.d = b.d := by
  cases a; cases b; simp
theorem rSame_spec (ha : RdB w.heap u a.d) (hb : RdB w.heap v b.d) : cal P f_ref03_Same [bq a u, bq b v] w fun r w' => r = .bool (decide (a = b)) ∧ Fr [] w w' := by
  refine s_ref03_Same fun R hR => ?_
  unfold c_ref03_Same
  refine bxQ (Sep.start w) fun g w1 hs => ?_
  refine bxQ hs fun g2 w2 hs2 => ?_
  have hf := hs2.fr0
  have fin : ∀ c : Bool, decide (a = b) = c → R (.bool c) w2 := fun c hc => hR _ _ ⟨by rw [hc], hf⟩
  simp only [nilc_some, fad_mk, pik_true, pik_false, cnd_true, cnd_false, gif_same, gif_tf, gif_ft, gif_undef, bi_add, bi_sub, bi_mul, bi_eql, bi_neq, bi_lss, bi_leq, bi_gtr, bi_geq, notB_bool, cvi_int, lenS_mk, lenT_mk, ext0, ext1, ext2, nilP_mk, nilS_mk, fldv_agg, jn0_k, jn1_k, jn2_k, jn1_and, jn1_or, ex_some, Option.isNone_some, Option.isNone_none, Bool.false_bne, Bool.bne_true, Bool.bne_false, Bool.true_bne, Bool.not_true, Bool.not_false, Bool.and_true, Bool.true_and, Bool.and_false, Bool.false_and, Bool.or_true, Bool.true_or, Bool.or_false, Bool.false_or, cond_true, cond_false, List.getElem?_toArray, List.getElem?_cons_zero, List.getElem?_cons_succ, Nat.zero_add, Nat.add_zero, Nat.reduceAdd, forall_const, L_api_Block hs2.blk, L_api_Block__Parent hs2.blk, L_api_Block__Height hs2.blk, L_api_Block__Data hs2.blk, L_api_Block (Sep.p1 hs2).blk, L_api_Block__Parent (Sep.p1 hs2).blk, L_api_Block__Height (Sep.p1 hs2).blk, L_api_Block__Data (Sep.p1 hs2).blk, eq_api_ID]
  by_cases hp : a.p = b.p
  · simp only [hp, decide_true, nilc_some, fad_mk, pik_true, pik_false, cnd_true, cnd_false, gif_same, gif_tf, gif_ft, gif_undef, bi_add, bi_sub, bi_mul, bi_eql, bi_neq, bi_lss, bi_leq, bi_gtr, bi_geq, notB_bool, cvi_int, lenS_mk, lenT_mk, ext0, ext1, ext2, nilP_mk, nilS_mk, fldv_agg, jn0_k, jn1_k, jn2_k, jn1_and, jn1_or, ex_some, Option.isNone_some, Option.isNone_none, Bool.false_bne, Bool.bne_true, Bool.bne_false, Bool.true_bne, Bool.not_true, Bool.not_false, Bool.and_true, Bool.true_and, Bool.and_false, Bool.false_and, Bool.or_true, Bool.true_or, Bool.or_false, Bool.false_or, cond_true, cond_false, List.getElem?_toArray, List.getElem?_cons_zero, List.getElem?_cons_succ, Nat.zero_add, Nat.add_zero, Nat.reduceAdd, forall_const, L_api_Block hs2.blk, L_api_Block__Parent hs2.blk, L_api_Block__Height hs2.blk, L_api_Block__Data hs2.blk, L_api_Block (Sep.p1 hs2).blk, L_api_Block__Parent (Sep.p1 hs2).blk, L_api_Block__Height (Sep.p1 hs2).blk, L_api_Block__Data (Sep.p1 hs2).blk]
    by_cases hh : a.h = b.h
    · simp only [hh, nilc_some, fad_mk, pik_true, pik_false, cnd_true, cnd_false, gif_same, gif_tf, gif_ft, gif_undef, bi_add, bi_sub, bi_mul, bi_eql, bi_neq, bi_lss, bi_leq, bi_gtr, bi_geq, notB_bool, cvi_int, lenS_mk, lenT_mk, ext0, ext1, ext2, nilP_mk, nilS_mk, fldv_agg, jn0_k, jn1_k, jn2_k, jn1_and, jn1_or, ex_some, Option.isNone_some, Option.isNone_none, Bool.false_bne, Bool.bne_true, Bool.bne_false, Bool.true_bne, Bool.not_true, Bool.not_false, Bool.and_true, Bool.true_and, Bool.and_false, Bool.false_and, Bool.or_true, Bool.true_or, Bool.or_false, Bool.false_or, cond_true, cond_false, List.getElem?_toArray, List.getElem?_cons_zero, List.getElem?_cons_succ, Nat.zero_add, Nat.add_zero, Nat.reduceAdd, forall_const, beq_self_eq_true, L_api_Block hs2.blk, L_api_Block__Parent hs2.blk, L_api_Block__Height hs2.blk, L_api_Block__Data hs2.blk, L_api_Block (Sep.p1 hs2).blk, L_api_Block__Parent (Sep.p1 hs2).blk, L_api_Block__Height (Sep.p1 hs2).blk, L_api_Block__Data (Sep.p1 hs2).blk]
      refine jn1_dup ?_
      rw [rdP_eq (conv_str UT_bytes UT_uint8 UT_string (hs2.rdB ha)), rdP_eq (conv_str UT_bytes UT_uint8 UT_string (hs2.rdB hb)), eqS_str]
      intro _
      refine fin _ ?_
      rw [Bool.eq_iff_iff]
      simp [Blk.ext_iff', hp, hh]
    · have e : (a.h == b.h) = false := by simpa using hh
      simp only [e, nilc_some, fad_mk, pik_true, pik_false, cnd_true, cnd_false, gif_same, gif_tf, gif_ft, gif_undef, bi_add, bi_sub, bi_mul, bi_eql, bi_neq, bi_lss, bi_leq, bi_gtr, bi_geq, notB_bool, cvi_int, lenS_mk, lenT_mk, ext0, ext1, ext2, nilP_mk, nilS_mk, fldv_agg, jn0_k, jn1_k, jn2_k, jn1_and, jn1_or, ex_some, Option.isNone_some, Option.isNone_none, Bool.false_bne, Bool.bne_true, Bool.bne_false, Bool.true_bne, Bool.not_true, Bool.not_false, Bool.and_true, Bool.true_and, Bool.and_false, Bool.false_and, Bool.or_true, Bool.true_or, Bool.or_false, Bool.false_or, cond_true, cond_false, List.getElem?_toArray, List.getElem?_cons_zero, List.getElem?_cons_succ, Nat.zero_add, Nat.add_zero, Nat.reduceAdd, forall_const]
      exact fin _ (by simp [Blk.ext_iff', hh])
  · simp only [hp, decide_false, nilc_some, fad_mk, pik_true, pik_false, cnd_true, cnd_false, gif_same, gif_tf, gif_ft, gif_undef, bi_add, bi_sub, bi_mul, bi_eql, bi_neq, bi_lss, bi_leq, bi_gtr, bi_geq, notB_bool, cvi_int, lenS_mk, lenT_mk, ext0, ext1, ext2, nilP_mk, nilS_mk, fldv_agg, jn0_k, jn1_k, jn2_k, jn1_and, jn1_or, ex_some, Option.isNone_some, Option.isNone_none, Bool.false_bne, Bool.bne_true, Bool.bne_false, Bool.true_bne, Bool.not_true, Bool.not_false, Bool.and_true, Bool.true_and, Bool.and_false, Bool.false_and, Bool.or_true, Bool.true_or, Bool.or_false, Bool.false_or, cond_true, cond_false, List.getElem?_toArray, List.getElem?_cons_zero, List.getElem?_cons_succ, Nat.zero_add, Nat.add_zero, Nat.reduceAdd, forall_const]
    exact fin _ (by simp [Blk.ext_iff', hp])
theorem bkClone_spec (hb : RdB w.heap v b.d) (hl : b.d.length ≤ 140737488355328) : cal P f_block_Clone [bq b v] w fun r w' => ∃ v', r = bq b v' ∧ Sep w w' [ownB v' b.d] := by
  refine s_block_Clone fun R hR => ?_
  unfold c_block_Clone
  refine bxQ (Sep.start w) fun g w1 hs => ?_
  refine alloc_s hs (A_api_Block w1) fun g2 w2 hs2 => ?_
  simp only [nilc_some, fad_mk, pik_true, pik_false, cnd_true, cnd_false, gif_same, gif_tf, gif_ft, gif_undef, bi_add, bi_sub, bi_mul, bi_eql, bi_neq, bi_lss, bi_leq, bi_gtr, bi_geq, notB_bool, cvi_int, lenS_mk, lenT_mk, ext0, ext1, ext2, nilP_mk, nilS_mk, fldv_agg, jn0_k, jn1_k, jn2_k, jn1_and, jn1_or, ex_some, Option.isNone_some, Option.isNone_none, Bool.false_bne, Bool.bne_true, Bool.bne_false, Bool.true_bne, Bool.not_true, Bool.not_false, Bool.and_true, Bool.true_and, Bool.and_false, Bool.false_and, Bool.or_true, Bool.true_or, Bool.or_false, Bool.false_or, cond_true, cond_false, List.getElem?_toArray, List.getElem?_cons_zero, List.getElem?_cons_succ, Nat.zero_add, Nat.add_zero, Nat.reduceAdd, forall_const, L_api_Block (Sep.p1 hs2).blk, L_api_Block__Parent (Sep.p1 hs2).blk, L_api_Block__Height (Sep.p1 hs2).blk, L_api_Block__Data (Sep.p1 hs2).blk]
  refine cal_i (bClone_spec (hs2.rdB hb) hl) ?_
  rintro v' w3 hs3
  replace hs3 := (hs2.join hs3).p2
  refine St_api_Block__Data hs3 (Sep.one hs3.p1) fun w4 hs4 => ?_
  simp only [L_api_Block hs4.blk, L_api_Block__Parent hs4.blk, L_api_Block__Height hs4.blk, L_api_Block__Data hs4.blk]
  refine St_api_Block hs4.p2 (one_api_Block (Sep.one hs4.p1)) fun w5 hs5 => ?_
  simp only [L_api_Block hs5.blk, L_api_Block__Parent hs5.blk, L_api_Block__Height hs5.blk, L_api_Block__Data hs5.blk]
  exact hR _ _ ⟨v', rfl, hs5.d1.tail⟩
theorem rbClone_spec (hb : RdB w.heap v b.d) (hl : b.d.length ≤ 140737488355328) : cal P f_ref03_Clone [bq b v] w fun r w' => ∃ v', r = bq b v' ∧ Sep w w' [ownB v' b.d] := by
  refine s_ref03_Clone fun R hR => ?_
  unfold c_ref03_Clone
  refine bxQ (Sep.start w) fun g w1 hs => ?_
  refine alloc_s hs (A_api_Block w1) fun g2 w2 hs2 => ?_
  simp only [nilc_some, fad_mk, pik_true, pik_false, cnd_true, cnd_false, gif_same, gif_tf, gif_ft, gif_undef, bi_add, bi_sub, bi_mul, bi_eql, bi_neq, bi_lss, bi_leq, bi_gtr, bi_geq, notB_bool, cvi_int, lenS_mk, lenT_mk, ext0, ext1, ext2, nilP_mk, nilS_mk, fldv_agg, jn0_k, jn1_k, jn2_k, jn1_and, jn1_or, ex_some, Option.isNone_some, Option.isNone_none, Bool.false_bne, Bool.bne_true, Bool.bne_false, Bool.true_bne, Bool.not_true, Bool.not_false, Bool.and_true, Bool.true_and, Bool.and_false, Bool.false_and, Bool.or_true, Bool.true_or, Bool.or_false, Bool.false_or, cond_true, cond_false, List.getElem?_toArray, List.getElem?_cons_zero, List.getElem?_cons_succ, Nat.zero_add, Nat.add_zero, Nat.reduceAdd, forall_const, L_api_Block (Sep.p1 hs2).blk, L_api_Block__Parent (Sep.p1 hs2).blk, L_api_Block__Height (Sep.p1 hs2).blk, L_api_Block__Data (Sep.p1 hs2).blk]
  refine appB_s S_sl_uint8 U_sl_uint8 (by simp) hs2.nil (hs2.rdB hb) (by simp; omega) fun v' w3 hs3 => ?_
  rw [List.nil_append] at hs3
  replace hs3 := hs3.p2
  refine St_api_Block__Data hs3 (Sep.one hs3.p1) fun w4 hs4 => ?_
  simp only [L_api_Block hs4.blk, L_api_Block__Parent hs4.blk, L_api_Block__Height hs4.blk, L_api_Block__Data hs4.blk]
  refine St_api_Block hs4.p2 (one_api_Block (Sep.one hs4.p1)) fun w5 hs5 => ?_
  simp only [L_api_Block hs5.blk, L_api_Block__Parent hs5.blk, L_api_Block__Height hs5.blk, L_api_Block__Data hs5.blk]
  exact hR _ _ ⟨v', rfl, hs5.d1.tail⟩
/-- A block, if it may be. -/
def Blk.mk' (b : Blk) : Blk := if b.chk = 0 then b else Blk.none
theorem made_spec (hb : RdB w.heap v b.d) : cal P f_block_made [bq b v] w fun r w' => ∃ v', r = .tuple #[bq b.mk' v', .int .i64 b.chk] ∧ Sep w w' [ownB v' b.mk'.d] := by
  refine s_block_made fun R hR => ?_
  unfold c_block_made
  refine bxQ (Sep.start w) fun g w1 hs => ?_
  refine alloc_s hs (A_api_Block w1) fun g2 w2 hs2 => ?_
  simp only [nilc_some, fad_mk, pik_true, pik_false, cnd_true, cnd_false, gif_same, gif_tf, gif_ft, gif_undef, bi_add, bi_sub, bi_mul, bi_eql, bi_neq, bi_lss, bi_leq, bi_gtr, bi_geq, notB_bool, cvi_int, lenS_mk, lenT_mk, ext0, ext1, ext2, nilP_mk, nilS_mk, fldv_agg, jn0_k, jn1_k, jn2_k, jn1_and, jn1_or, ex_some, Option.isNone_some, Option.isNone_none, Bool.false_bne, Bool.bne_true, Bool.bne_false, Bool.true_bne, Bool.not_true, Bool.not_false, Bool.and_true, Bool.true_and, Bool.and_false, Bool.false_and, Bool.or_true, Bool.true_or, Bool.or_false, Bool.false_or, cond_true, cond_false, List.getElem?_toArray, List.getElem?_cons_zero, List.getElem?_cons_succ, Nat.zero_add, Nat.add_zero, Nat.reduceAdd, forall_const, L_api_Block (Sep.p1 hs2).blk, L_api_Block__Parent (Sep.p1 hs2).blk, L_api_Block__Height (Sep.p1 hs2).blk, L_api_Block__Data (Sep.p1 hs2).blk]
  refine cal_i (Check_spec (hs2.rdB hb)) ?_
  rintro _ w3 ⟨rfl, hf3⟩
  have hs3 := hs2.old hf3
  rw [bi_neq]
  rcases Blk.chk_or b with h0 | h0
  · have hck := Blk.chk_ok h0
    have hm : b.mk' = b := by rw [Blk.mk', if_pos h0]
    rw [hm, h0] at hR
    simp only [h0, nilc_some, fad_mk, pik_true, pik_false, cnd_true, cnd_false, gif_same, gif_tf, gif_ft, gif_undef, bi_add, bi_sub, bi_mul, bi_eql, bi_neq, bi_lss, bi_leq, bi_gtr, bi_geq, notB_bool, cvi_int, lenS_mk, lenT_mk, ext0, ext1, ext2, nilP_mk, nilS_mk, fldv_agg, jn0_k, jn1_k, jn2_k, jn1_and, jn1_or, ex_some, Option.isNone_some, Option.isNone_none, Bool.false_bne, Bool.bne_true, Bool.bne_false, Bool.true_bne, Bool.not_true, Bool.not_false, Bool.and_true, Bool.true_and, Bool.and_false, Bool.false_and, Bool.or_true, Bool.true_or, Bool.or_false, Bool.false_or, cond_true, cond_false, List.getElem?_toArray, List.getElem?_cons_zero, List.getElem?_cons_succ, Nat.zero_add, Nat.add_zero, Nat.reduceAdd, forall_const, L_api_Block (Sep.p1 hs3).blk, L_api_Block__Parent (Sep.p1 hs3).blk, L_api_Block__Height (Sep.p1 hs3).blk, L_api_Block__Data (Sep.p1 hs3).blk, show ((0 : Int) != 0) = false from rfl]
    refine cal_i (bkClone_spec (hs3.rdB hb) (by omega)) ?_
    rintro _ w4 ⟨v', rfl, hs4⟩
    replace hs4 := (hs3.join hs4).p1
    refine St_api_Block hs4 (one_api_Block (Sep.one hs4.p1)) fun w5 hs5 => ?_
    simp only [L_api_Block hs5.blk, L_api_Block__Parent hs5.blk, L_api_Block__Height hs5.blk, L_api_Block__Data hs5.blk]
    exact hR _ _ ⟨v', rfl, hs5.d2.tail⟩
  · have hm : b.mk' = Blk.none := by rw [Blk.mk', if_neg (by omega)]
    rw [hm, h0] at hR
    simp only [h0, nilc_some, fad_mk, pik_true, pik_false, cnd_true, cnd_false, gif_same, gif_tf, gif_ft, gif_undef, bi_add, bi_sub, bi_mul, bi_eql, bi_neq, bi_lss, bi_leq, bi_gtr, bi_geq, notB_bool, cvi_int, lenS_mk, lenT_mk, ext0, ext1, ext2, nilP_mk, nilS_mk, fldv_agg, jn0_k, jn1_k, jn2_k, jn1_and, jn1_or, ex_some, Option.isNone_some, Option.isNone_none, Bool.false_bne, Bool.bne_true, Bool.bne_false, Bool.true_bne, Bool.not_true, Bool.not_false, Bool.and_true, Bool.true_and, Bool.and_false, Bool.false_and, Bool.or_true, Bool.true_or, Bool.or_false, Bool.false_or, cond_true, cond_false, List.getElem?_toArray, List.getElem?_cons_zero, List.getElem?_cons_succ, Nat.zero_add, Nat.add_zero, Nat.reduceAdd, forall_const, B_api_Block, show ((30 : Int) != 0) = true from rfl]
    refine St_api_Block hs3 (one_api_Block rfl) fun w5 hs5 => ?_
    simp only [L_api_Block hs5.blk, L_api_Block__Parent hs5.blk, L_api_Block__Height hs5.blk, L_api_Block__Data hs5.blk]
    exact hR _ _ ⟨_, rfl, hs5.d1.tail.nil⟩
def Blk.first (d : List UInt8) : Blk := ⟨vz 32, 0, d⟩
end
end Go.Fx
set_option linter.unusedVariables false
set_option linter.unusedSimpArgs false
namespace Go.Fx
def Blk.bytes (b : Blk) : List UInt8 := [0, 0] ++ b.p.1 ++ be 8 b.h.toNat ++ be 4 b.d.length ++ b.d
theorem Blk.bytes_len (b : Blk) : b.bytes.length = 46 + b.d.length := by
  have := b.p.2
  simp [Blk.bytes, be_length, this]
  omega
def Blk.out (b : Blk) : List UInt8 := if b.chk = 0 then b.bytes else []
def Blk.id (b : Blk) : Vec 32 := shaM b.bytes
def Blk.name (b : Blk) : Vec 32 := if b.chk = 0 then b.id else vz 32
abbrev maxI : Int := 9223372036854775807
section
variable {w0 w : World} {As : List Asn} {v u : Value} {a b : Blk} {g : Nat}
theorem at_par (hs : Sep w0 w (bb g b v :: As)) : At w.heap g 0 (bvs b.p.1) := by
  have := (Fld.fst Fld.self : Fld Q_api_Block (rVec 32) 0 _ _).at (At.blk (cs := Rdr.cells Q_api_Block (b.p, b.h, v)) hs.blk)
  exact this
theorem rd_par (hs : Sep w0 w (bb g b v :: As)) (c : Nat) : RdB w.heap (.slice (some ⟨g, 0, none⟩) 32 c) b.p.1 := by
  have := At.rd (c := c) (at_par hs)
  rwa [b.p.2] at this
theorem ld_par (hs : Sep w0 w (bb g b v :: As)) {i : Nat} (hi : i < 32) (K : Value → Prop) : ld1 (.pointer (some ⟨g, i, none⟩)) w.heap K = K (bv (b.p.1[i]'(by rw [b.p.2]; exact hi))) := by
  have hl := b.p.2
  have h1 : bvs b.p.1 = bvs (b.p.1.take i) ++ [bv (b.p.1[i]'(by omega))] ++ bvs (b.p.1.drop (i + 1)) := by
    have e : b.p.1 = b.p.1.take i ++ b.p.1[i]'(by omega) :: b.p.1.drop (i + 1) := by rw [← List.drop_eq_getElem_cons, List.take_append_drop]
    unfold bvs
    conv => lhs; rw [e]
    rw [List.map_append, List.map_cons]
    simp only [List.append_assoc, List.singleton_append]
  have ha := at_par hs
  rw [h1] at ha
  have := (ha.part (k := i) (by simp [bvs]; omega)).ld1 K
  rwa [Nat.zero_add] at this
theorem u64_h {h : Int} (h0 : 0 ≤ h) (h1 : h ≤ maxI) : IntKind.u64.wrap h = (h.toNat : Int) := by
  unfold maxI at h1
  rw [wu64i h0 (by omega)]; omega
theorem bkBytes_spec (hb : RdB w.heap v b.d) (hh : b.h ≤ maxI) : cal P f_block_Bytes [bq b v] w fun r w' => ∃ s, r = .tuple #[s, .int .i64 b.chk] ∧ Sep w w' [ownB s b.out] := by
  refine s_block_Bytes fun R hR => ?_
  unfold c_block_Bytes
  refine bxQ (Sep.start w) fun g w1 hs => ?_
  simp only [L_api_Block hs.blk, L_api_Block__Parent hs.blk, L_api_Block__Height hs.blk, L_api_Block__Data hs.blk]
  refine cal_i (Check_spec (hs.rdB hb)) ?_
  rintro _ w2 ⟨rfl, hf2⟩
  have hs2 := hs.old hf2
  rw [bi_neq]
  rcases Blk.chk_or b with h0 | h0
  · have hck := Blk.chk_ok h0
    have ho : b.out = b.bytes := by rw [Blk.out, if_pos h0]
    rw [ho, h0] at hR
    simp only [h0, nilc_some, fad_mk, pik_true, pik_false, cnd_true, cnd_false, gif_same, gif_tf, gif_ft, gif_undef, bi_add, bi_sub, bi_mul, bi_eql, bi_neq, bi_lss, bi_leq, bi_gtr, bi_geq, notB_bool, cvi_int, lenS_mk, lenT_mk, ext0, ext1, ext2, nilP_mk, nilS_mk, fldv_agg, jn0_k, jn1_k, jn2_k, jn1_and, jn1_or, ex_some, Option.isNone_some, Option.isNone_none, Bool.false_bne, Bool.bne_true, Bool.bne_false, Bool.true_bne, Bool.not_true, Bool.not_false, Bool.and_true, Bool.true_and, Bool.and_false, Bool.false_and, Bool.or_true, Bool.true_or, Bool.or_false, Bool.false_or, cond_true, cond_false, List.getElem?_toArray, List.getElem?_cons_zero, List.getElem?_cons_succ, Nat.zero_add, Nat.add_zero, Nat.reduceAdd, forall_const, show ((0 : Int) != 0) = false from rfl]
    refine cal_i (NewS 246 (by omega)) ?_
    rintro _ w3 ⟨gp, rfl, hs3⟩
    replace hs3 := hs2.join hs3
    refine cal_i (ShortS hs3 (v := 0) (by omega) (by omega) (by simp)) ?_
    rintro _ w4 ⟨rfl, s4, hs4⟩
    rw [sla_all]
    refine cal_i (FixedS hs4 (c := b.p.1) (by omega) (fun z hz => rd_par hz 32) (by simp [be_length, b.p.2])) ?_
    rintro _ w5 ⟨rfl, s5, hs5⟩
    simp only [nilc_some, fad_mk, pik_true, pik_false, cnd_true, cnd_false, gif_same, gif_tf, gif_ft, gif_undef, bi_add, bi_sub, bi_mul, bi_eql, bi_neq, bi_lss, bi_leq, bi_gtr, bi_geq, notB_bool, cvi_int, lenS_mk, lenT_mk, ext0, ext1, ext2, nilP_mk, nilS_mk, fldv_agg, jn0_k, jn1_k, jn2_k, jn1_and, jn1_or, ex_some, Option.isNone_some, Option.isNone_none, Bool.false_bne, Bool.bne_true, Bool.bne_false, Bool.true_bne, Bool.not_true, Bool.not_false, Bool.and_true, Bool.true_and, Bool.and_false, Bool.false_and, Bool.or_true, Bool.true_or, Bool.or_false, Bool.false_or, cond_true, cond_false, List.getElem?_toArray, List.getElem?_cons_zero, List.getElem?_cons_succ, Nat.zero_add, Nat.add_zero, Nat.reduceAdd, forall_const, L_api_Block (Sep.p2 hs5).blk, L_api_Block__Parent (Sep.p2 hs5).blk, L_api_Block__Height (Sep.p2 hs5).blk, L_api_Block__Data (Sep.p2 hs5).blk, u64_h hck.1 hh]
    refine cal_i (LongS hs5 (by omega) (by unfold maxI at hh; omega) (by simp [be_length, b.p.2])) ?_
    rintro _ w6 ⟨rfl, s6, hs6⟩
    simp only [nilc_some, fad_mk, pik_true, pik_false, cnd_true, cnd_false, gif_same, gif_tf, gif_ft, gif_undef, bi_add, bi_sub, bi_mul, bi_eql, bi_neq, bi_lss, bi_leq, bi_gtr, bi_geq, notB_bool, cvi_int, lenS_mk, lenT_mk, ext0, ext1, ext2, nilP_mk, nilS_mk, fldv_agg, jn0_k, jn1_k, jn2_k, jn1_and, jn1_or, ex_some, Option.isNone_some, Option.isNone_none, Bool.false_bne, Bool.bne_true, Bool.bne_false, Bool.true_bne, Bool.not_true, Bool.not_false, Bool.and_true, Bool.true_and, Bool.and_false, Bool.false_and, Bool.or_true, Bool.true_or, Bool.or_false, Bool.false_or, cond_true, cond_false, List.getElem?_toArray, List.getElem?_cons_zero, List.getElem?_cons_succ, Nat.zero_add, Nat.add_zero, Nat.reduceAdd, forall_const, L_api_Block (Sep.p2 hs6).blk, L_api_Block__Parent (Sep.p2 hs6).blk, L_api_Block__Height (Sep.p2 hs6).blk, L_api_Block__Data (Sep.p2 hs6).blk]
    refine cal_i (BytesS hs6 (by omega) (fun z hz => hz.rdB hb) (by simp [be_length, b.p.2]; omega)) ?_
    rintro _ w7 ⟨rfl, s7, hs7⟩
    refine cal_i (OutS hs7 (by simp [be_length, b.p.2]; omega)) ?_
    rintro _ w8 ⟨r, rfl, hs8⟩
    simp only [nilc_some, fad_mk, pik_true, pik_false, cnd_true, cnd_false, gif_same, gif_tf, gif_ft, gif_undef, bi_add, bi_sub, bi_mul, bi_eql, bi_neq, bi_lss, bi_leq, bi_gtr, bi_geq, notB_bool, cvi_int, lenS_mk, lenT_mk, ext0, ext1, ext2, nilP_mk, nilS_mk, fldv_agg, jn0_k, jn1_k, jn2_k, jn1_and, jn1_or, ex_some, Option.isNone_some, Option.isNone_none, Bool.false_bne, Bool.bne_true, Bool.bne_false, Bool.true_bne, Bool.not_true, Bool.not_false, Bool.and_true, Bool.true_and, Bool.and_false, Bool.false_and, Bool.or_true, Bool.true_or, Bool.or_false, Bool.false_or, cond_true, cond_false, List.getElem?_toArray, List.getElem?_cons_zero, List.getElem?_cons_succ, Nat.zero_add, Nat.add_zero, Nat.reduceAdd, forall_const]
    have e : [] ++ be 2 0 ++ b.p.1 ++ be 8 b.h.toNat ++ (be 4 b.d.length ++ b.d) = b.bytes := by
      simp [Blk.bytes, be]
    rw [e] at hs8
    exact hR _ _ ⟨r, rfl, hs8.d1.d1.d1⟩
  · have ho : b.out = [] := by rw [Blk.out, if_neg (by omega)]
    rw [ho, h0] at hR
    simp only [h0, nilc_some, fad_mk, pik_true, pik_false, cnd_true, cnd_false, gif_same, gif_tf, gif_ft, gif_undef, bi_add, bi_sub, bi_mul, bi_eql, bi_neq, bi_lss, bi_leq, bi_gtr, bi_geq, notB_bool, cvi_int, lenS_mk, lenT_mk, ext0, ext1, ext2, nilP_mk, nilS_mk, fldv_agg, jn0_k, jn1_k, jn2_k, jn1_and, jn1_or, ex_some, Option.isNone_some, Option.isNone_none, Bool.false_bne, Bool.bne_true, Bool.bne_false, Bool.true_bne, Bool.not_true, Bool.not_false, Bool.and_true, Bool.true_and, Bool.and_false, Bool.false_and, Bool.or_true, Bool.true_or, Bool.or_false, Bool.false_or, cond_true, cond_false, List.getElem?_toArray, List.getElem?_cons_zero, List.getElem?_cons_succ, Nat.zero_add, Nat.add_zero, Nat.reduceAdd, forall_const, show ((30 : Int) != 0) = true from rfl]
    exact hR _ _ ⟨_, rfl, hs2.tail.nil⟩
theorem rbBytes_spec (hb : RdB w.heap v b.d) (hh : b.h ≤ maxI) : cal P f_ref03_Bytes [bq b v] w fun r w' => ∃ s, r = .tuple #[s, .int .i64 b.chk] ∧ Sep w w' [ownB s b.out] := by
  refine s_ref03_Bytes fun R hR => ?_
  unfold c_ref03_Bytes
  refine bxQ (Sep.start w) fun g w1 hs => ?_
  simp only [L_api_Block hs.blk, L_api_Block__Parent hs.blk, L_api_Block__Height hs.blk, L_api_Block__Data hs.blk]
  refine cal_i (rCheck_spec (hs.rdB hb)) ?_
  rintro _ w2 ⟨rfl, hf2⟩
  have hs2 := hs.old hf2
  rw [bi_neq]
  rcases Blk.chk_or b with h0 | h0
  · have hck := Blk.chk_ok h0
    have hp := b.p.2
    have ho : b.out = b.bytes := by rw [Blk.out, if_pos h0]
    rw [ho, h0] at hR
    simp only [h0, nilc_some, fad_mk, pik_true, pik_false, cnd_true, cnd_false, gif_same, gif_tf, gif_ft, gif_undef, bi_add, bi_sub, bi_mul, bi_eql, bi_neq, bi_lss, bi_leq, bi_gtr, bi_geq, notB_bool, cvi_int, lenS_mk, lenT_mk, ext0, ext1, ext2, nilP_mk, nilS_mk, fldv_agg, jn0_k, jn1_k, jn2_k, jn1_and, jn1_or, ex_some, Option.isNone_some, Option.isNone_none, Bool.false_bne, Bool.bne_true, Bool.bne_false, Bool.true_bne, Bool.not_true, Bool.not_false, Bool.and_true, Bool.true_and, Bool.and_false, Bool.false_and, Bool.or_true, Bool.true_or, Bool.or_false, Bool.false_or, cond_true, cond_false, List.getElem?_toArray, List.getElem?_cons_zero, List.getElem?_cons_succ, Nat.zero_add, Nat.add_zero, Nat.reduceAdd, forall_const, show ((0 : Int) != 0) = false from rfl]
    have hr : ∀ w : World, (Instr.buildSlice T_sl_uint8 2 #[(0, .int .u8 0), (1, .int .u8 0)]).run P w = .ok (.slice (some ⟨w.heap.size, 0, none⟩) 2 2) (w.alloc (.cells (bvs [0, 0]).toArray T_uint8)) := fun w => by kernel_rfl
    refine buildB_s (l := [0, 0]) hs2 rfl (hr w2) fun g3 w3 hs3 => ?_
    refine ⟨fun x y w' => ∃ i : Nat, y = .int .i64 i ∧ i ≤ 32 ∧ Sep w w' [ownB x ([0, 0] ++ b.p.1.take i), bb g b v], fun _ y _ => (32 - RowKit.intOf y).toNat, ⟨0, rfl, by omega, by simpa using hs3⟩, ?_⟩
    rintro s4 _ w4 ⟨i, rfl, hi, hs4⟩ -
    simp only [nilc_some, fad_mk, pik_true, pik_false, cnd_true, cnd_false, gif_same, gif_tf, gif_ft, gif_undef, bi_add, bi_sub, bi_mul, bi_eql, bi_neq, bi_lss, bi_leq, bi_gtr, bi_geq, notB_bool, cvi_int, lenS_mk, lenT_mk, ext0, ext1, ext2, nilP_mk, nilS_mk, fldv_agg, jn0_k, jn1_k, jn2_k, jn1_and, jn1_or, ex_some, Option.isNone_some, Option.isNone_none, Bool.false_bne, Bool.bne_true, Bool.bne_false, Bool.true_bne, Bool.not_true, Bool.not_false, Bool.and_true, Bool.true_and, Bool.and_false, Bool.false_and, Bool.or_true, Bool.true_or, Bool.or_false, Bool.false_or, cond_true, cond_false, List.getElem?_toArray, List.getElem?_cons_zero, List.getElem?_cons_succ, Nat.zero_add, Nat.add_zero, Nat.reduceAdd, forall_const]
    rw [cnd_bool]
    refine ⟨fun h => ?_, fun h => ?_⟩
    · have h32 : i < 32 := by simp at h; omega
      rw [ixa_w .i64 h32, ld_par hs4.p1 h32]
      refine app1 hs4 (by simp; omega) fun s5 w5 hs5 => ?_
      rw [wi64 (by omega) (by omega)]
      refine ⟨⟨i + 1, by simp, by omega, ?_⟩, by simp [RowKit.intOf]; omega⟩
      rw [List.take_succ_eq_append_getElem (by omega), ← List.append_assoc]
      exact hs5
    · have h32 : i = 32 := by simp at h; omega
      subst h32
      rw [List.take_of_length_le (by omega)] at hs4
      simp only [nilc_some, fad_mk, pik_true, pik_false, cnd_true, cnd_false, gif_same, gif_tf, gif_ft, gif_undef, bi_add, bi_sub, bi_mul, bi_eql, bi_neq, bi_lss, bi_leq, bi_gtr, bi_geq, notB_bool, cvi_int, lenS_mk, lenT_mk, ext0, ext1, ext2, nilP_mk, nilS_mk, fldv_agg, jn0_k, jn1_k, jn2_k, jn1_and, jn1_or, ex_some, Option.isNone_some, Option.isNone_none, Bool.false_bne, Bool.bne_true, Bool.bne_false, Bool.true_bne, Bool.not_true, Bool.not_false, Bool.and_true, Bool.true_and, Bool.and_false, Bool.false_and, Bool.or_true, Bool.true_or, Bool.or_false, Bool.false_or, cond_true, cond_false, List.getElem?_toArray, List.getElem?_cons_zero, List.getElem?_cons_succ, Nat.zero_add, Nat.add_zero, Nat.reduceAdd, forall_const, L_api_Block (Sep.p1 hs4).blk, L_api_Block__Parent (Sep.p1 hs4).blk, L_api_Block__Height (Sep.p1 hs4).blk, L_api_Block__Data (Sep.p1 hs4).blk, u64_h hck.1 hh]
      refine cal_i (rNumS (n := 8) (by omega) (by unfold maxI at hh; omega)) ?_
      rintro t5 w5 hs5
      replace hs5 := (hs4.join hs5).p1
      refine appB_s ST_bytes UT_bytes (by simp) hs5 (Sep.rd hs5.p1) (by simp [be_length, hp]) fun s6 w6 hs6 => ?_
      replace hs6 := hs6.d1
      have hl := (hs6.rdB hb).len
      simp only [nilc_some, fad_mk, pik_true, pik_false, cnd_true, cnd_false, gif_same, gif_tf, gif_ft, gif_undef, bi_add, bi_sub, bi_mul, bi_eql, bi_neq, bi_lss, bi_leq, bi_gtr, bi_geq, notB_bool, cvi_int, lenS_mk, lenT_mk, ext0, ext1, ext2, nilP_mk, nilS_mk, fldv_agg, jn0_k, jn1_k, jn2_k, jn1_and, jn1_or, ex_some, Option.isNone_some, Option.isNone_none, Bool.false_bne, Bool.bne_true, Bool.bne_false, Bool.true_bne, Bool.not_true, Bool.not_false, Bool.and_true, Bool.true_and, Bool.and_false, Bool.false_and, Bool.or_true, Bool.true_or, Bool.or_false, Bool.false_or, cond_true, cond_false, List.getElem?_toArray, List.getElem?_cons_zero, List.getElem?_cons_succ, Nat.zero_add, Nat.add_zero, Nat.reduceAdd, forall_const, L_api_Block (Sep.p1 hs6).blk, L_api_Block__Parent (Sep.p1 hs6).blk, L_api_Block__Height (Sep.p1 hs6).blk, L_api_Block__Data (Sep.p1 hs6).blk, hl]
      rw [wu64i (by omega) (by omega)]
      refine cal_i (rNumS (n := 4) (by omega) (by omega)) ?_
      rintro t7 w7 hs7
      replace hs7 := (hs6.join hs7).p1
      refine appB_s ST_bytes UT_bytes (by simp) hs7 (Sep.rd hs7.p1) (by simp [be_length, hp]) fun s8 w8 hs8 => ?_
      replace hs8 := hs8.d1
      simp only [nilc_some, fad_mk, pik_true, pik_false, cnd_true, cnd_false, gif_same, gif_tf, gif_ft, gif_undef, bi_add, bi_sub, bi_mul, bi_eql, bi_neq, bi_lss, bi_leq, bi_gtr, bi_geq, notB_bool, cvi_int, lenS_mk, lenT_mk, ext0, ext1, ext2, nilP_mk, nilS_mk, fldv_agg, jn0_k, jn1_k, jn2_k, jn1_and, jn1_or, ex_some, Option.isNone_some, Option.isNone_none, Bool.false_bne, Bool.bne_true, Bool.bne_false, Bool.true_bne, Bool.not_true, Bool.not_false, Bool.and_true, Bool.true_and, Bool.and_false, Bool.false_and, Bool.or_true, Bool.true_or, Bool.or_false, Bool.false_or, cond_true, cond_false, List.getElem?_toArray, List.getElem?_cons_zero, List.getElem?_cons_succ, Nat.zero_add, Nat.add_zero, Nat.reduceAdd, forall_const, L_api_Block (Sep.p1 hs8).blk, L_api_Block__Parent (Sep.p1 hs8).blk, L_api_Block__Height (Sep.p1 hs8).blk, L_api_Block__Data (Sep.p1 hs8).blk]
      refine appB_s ST_bytes UT_bytes (by simp) hs8 (hs8.rdB hb) (by simp [be_length, hp]; omega) fun s9 w9 hs9 => ?_
      have e : [0, 0] ++ b.p.1 ++ be 8 b.h.toNat ++ be 4 b.d.length ++ b.d = b.bytes := rfl
      rw [e] at hs9
      exact hR _ _ ⟨s9, rfl, hs9.d1⟩
  · have ho : b.out = [] := by rw [Blk.out, if_neg (by omega)]
    rw [ho, h0] at hR
    simp only [h0, nilc_some, fad_mk, pik_true, pik_false, cnd_true, cnd_false, gif_same, gif_tf, gif_ft, gif_undef, bi_add, bi_sub, bi_mul, bi_eql, bi_neq, bi_lss, bi_leq, bi_gtr, bi_geq, notB_bool, cvi_int, lenS_mk, lenT_mk, ext0, ext1, ext2, nilP_mk, nilS_mk, fldv_agg, jn0_k, jn1_k, jn2_k, jn1_and, jn1_or, ex_some, Option.isNone_some, Option.isNone_none, Bool.false_bne, Bool.bne_true, Bool.bne_false, Bool.true_bne, Bool.not_true, Bool.not_false, Bool.and_true, Bool.true_and, Bool.and_false, Bool.false_and, Bool.or_true, Bool.true_or, Bool.or_false, Bool.false_or, cond_true, cond_false, List.getElem?_toArray, List.getElem?_cons_zero, List.getElem?_cons_succ, Nat.zero_add, Nat.add_zero, Nat.reduceAdd, forall_const, show ((30 : Int) != 0) = true from rfl]
    exact hR _ _ ⟨_, rfl, hs2.tail.nil⟩
theorem bkID_spec (hc : Cub w) (hb : RdB w.heap v b.d) (hh : b.h ≤ maxI) : cal P f_block_ID [bq b v] w fun r w' => r = .tuple #[.agg (Rdr.cells (rVec 32) b.name).toArray, .int .i64 b.chk] ∧ Fr [] w w' := by
  refine s_block_ID fun R hR => ?_
  unfold c_block_ID
  refine bxQ (Sep.start w) fun g w1 hs => ?_
  refine alloc_s hs (A_api_ID w1) fun g2 w2 hs2 => ?_
  simp only [L_api_Block (Sep.p1 hs2).blk, L_api_Block__Parent (Sep.p1 hs2).blk, L_api_Block__Height (Sep.p1 hs2).blk, L_api_Block__Data (Sep.p1 hs2).blk]
  refine cal_i (bkBytes_spec (hs2.rdB hb) hh) ?_
  rintro _ w3 ⟨s, rfl, hs3⟩
  replace hs3 := hs2.join hs3
  simp only [nilc_some, fad_mk, pik_true, pik_false, cnd_true, cnd_false, gif_same, gif_tf, gif_ft, gif_undef, bi_add, bi_sub, bi_mul, bi_eql, bi_neq, bi_lss, bi_leq, bi_gtr, bi_geq, notB_bool, cvi_int, lenS_mk, lenT_mk, ext0, ext1, ext2, nilP_mk, nilS_mk, fldv_agg, jn0_k, jn1_k, jn2_k, jn1_and, jn1_or, ex_some, Option.isNone_some, Option.isNone_none, Bool.false_bne, Bool.bne_true, Bool.bne_false, Bool.true_bne, Bool.not_true, Bool.not_false, Bool.and_true, Bool.true_and, Bool.and_false, Bool.false_and, Bool.or_true, Bool.true_or, Bool.or_false, Bool.false_or, cond_true, cond_false, List.getElem?_toArray, List.getElem?_cons_zero, List.getElem?_cons_succ, Nat.zero_add, Nat.add_zero, Nat.reduceAdd, forall_const]
  rcases Blk.chk_or b with h0 | h0
  · have hck := Blk.chk_ok h0
    have ho : b.out = b.bytes := by rw [Blk.out, if_pos h0]
    have hn : b.name = shaM b.bytes := by rw [Blk.name, if_pos h0, Blk.id]
    rw [ho] at hs3
    rw [hn, h0] at hR
    simp only [h0, nilc_some, fad_mk, pik_true, pik_false, cnd_true, cnd_false, gif_same, gif_tf, gif_ft, gif_undef, bi_add, bi_sub, bi_mul, bi_eql, bi_neq, bi_lss, bi_leq, bi_gtr, bi_geq, notB_bool, cvi_int, lenS_mk, lenT_mk, ext0, ext1, ext2, nilP_mk, nilS_mk, fldv_agg, jn0_k, jn1_k, jn2_k, jn1_and, jn1_or, ex_some, Option.isNone_some, Option.isNone_none, Bool.false_bne, Bool.bne_true, Bool.bne_false, Bool.true_bne, Bool.not_true, Bool.not_false, Bool.and_true, Bool.true_and, Bool.and_false, Bool.false_and, Bool.or_true, Bool.true_or, Bool.or_false, Bool.false_or, cond_true, cond_false, List.getElem?_toArray, List.getElem?_cons_zero, List.getElem?_cons_succ, Nat.zero_add, Nat.add_zero, Nat.reduceAdd, forall_const, show ((0 : Int) != 0) = false from rfl]
    refine cal_i (shaSum_spec (hc.fr hs3.fr0) (Sep.rd hs3) (by rw [Blk.bytes_len]; omega)) ?_
    rintro _ w4 ⟨rfl, hf4⟩
    have hs4 := (hs3.old hf4).p1
    refine St_api_ID hs4 fun w5 hs5 => ?_
    simp only [L_api_ID hs5.blk]
    exact hR _ _ ⟨rfl, hs5.fr0⟩
  · have hn : b.name = vz 32 := by rw [Blk.name, if_neg (by omega)]
    rw [hn, h0] at hR
    simp only [h0, nilc_some, fad_mk, pik_true, pik_false, cnd_true, cnd_false, gif_same, gif_tf, gif_ft, gif_undef, bi_add, bi_sub, bi_mul, bi_eql, bi_neq, bi_lss, bi_leq, bi_gtr, bi_geq, notB_bool, cvi_int, lenS_mk, lenT_mk, ext0, ext1, ext2, nilP_mk, nilS_mk, fldv_agg, jn0_k, jn1_k, jn2_k, jn1_and, jn1_or, ex_some, Option.isNone_some, Option.isNone_none, Bool.false_bne, Bool.bne_true, Bool.bne_false, Bool.true_bne, Bool.not_true, Bool.not_false, Bool.and_true, Bool.true_and, Bool.and_false, Bool.false_and, Bool.or_true, Bool.true_or, Bool.or_false, Bool.false_or, cond_true, cond_false, List.getElem?_toArray, List.getElem?_cons_zero, List.getElem?_cons_succ, Nat.zero_add, Nat.add_zero, Nat.reduceAdd, forall_const, B_ID0, show ((30 : Int) != 0) = true from rfl]
    refine St_api_ID hs3.p1 fun w5 hs5 => ?_
    simp only [L_api_ID hs5.blk]
    exact hR _ _ ⟨rfl, hs5.fr0⟩
theorem rbID_spec (hb : RdB w.heap v b.d) (hh : b.h ≤ maxI) : cal P f_ref03_ID [bq b v] w fun r w' => r = .tuple #[.agg (Rdr.cells (rVec 32) b.name).toArray, .int .i64 b.chk] ∧ Fr [] w w' := by
  refine s_ref03_ID fun R hR => ?_
  unfold c_ref03_ID
  refine bxQ (Sep.start w) fun g w1 hs => ?_
  refine alloc_s hs (A_api_ID w1) fun g2 w2 hs2 => ?_
  simp only [L_api_Block (Sep.p1 hs2).blk, L_api_Block__Parent (Sep.p1 hs2).blk, L_api_Block__Height (Sep.p1 hs2).blk, L_api_Block__Data (Sep.p1 hs2).blk]
  refine cal_i (rbBytes_spec (hs2.rdB hb) hh) ?_
  rintro _ w3 ⟨s, rfl, hs3⟩
  replace hs3 := hs2.join hs3
  simp only [nilc_some, fad_mk, pik_true, pik_false, cnd_true, cnd_false, gif_same, gif_tf, gif_ft, gif_undef, bi_add, bi_sub, bi_mul, bi_eql, bi_neq, bi_lss, bi_leq, bi_gtr, bi_geq, notB_bool, cvi_int, lenS_mk, lenT_mk, ext0, ext1, ext2, nilP_mk, nilS_mk, fldv_agg, jn0_k, jn1_k, jn2_k, jn1_and, jn1_or, ex_some, Option.isNone_some, Option.isNone_none, Bool.false_bne, Bool.bne_true, Bool.bne_false, Bool.true_bne, Bool.not_true, Bool.not_false, Bool.and_true, Bool.true_and, Bool.and_false, Bool.false_and, Bool.or_true, Bool.true_or, Bool.or_false, Bool.false_or, cond_true, cond_false, List.getElem?_toArray, List.getElem?_cons_zero, List.getElem?_cons_succ, Nat.zero_add, Nat.add_zero, Nat.reduceAdd, forall_const]
  rcases Blk.chk_or b with h0 | h0
  · have hck := Blk.chk_ok h0
    have ho : b.out = b.bytes := by rw [Blk.out, if_pos h0]
    have hn : b.name = shaM b.bytes := by rw [Blk.name, if_pos h0, Blk.id]
    rw [ho] at hs3
    rw [hn, h0] at hR
    simp only [h0, nilc_some, fad_mk, pik_true, pik_false, cnd_true, cnd_false, gif_same, gif_tf, gif_ft, gif_undef, bi_add, bi_sub, bi_mul, bi_eql, bi_neq, bi_lss, bi_leq, bi_gtr, bi_geq, notB_bool, cvi_int, lenS_mk, lenT_mk, ext0, ext1, ext2, nilP_mk, nilS_mk, fldv_agg, jn0_k, jn1_k, jn2_k, jn1_and, jn1_or, ex_some, Option.isNone_some, Option.isNone_none, Bool.false_bne, Bool.bne_true, Bool.bne_false, Bool.true_bne, Bool.not_true, Bool.not_false, Bool.and_true, Bool.true_and, Bool.and_false, Bool.false_and, Bool.or_true, Bool.true_or, Bool.or_false, Bool.false_or, cond_true, cond_false, List.getElem?_toArray, List.getElem?_cons_zero, List.getElem?_cons_succ, Nat.zero_add, Nat.add_zero, Nat.reduceAdd, forall_const, show ((0 : Int) != 0) = false from rfl]
    refine cal_i (rSum_spec (Sep.rd hs3) (by rw [Blk.bytes_len]; omega)) ?_
    rintro _ w4 ⟨rfl, hf4⟩
    have hs4 := (hs3.old hf4).p1
    refine St_api_ID hs4 fun w5 hs5 => ?_
    simp only [L_api_ID hs5.blk]
    exact hR _ _ ⟨rfl, hs5.fr0⟩
  · have hn : b.name = vz 32 := by rw [Blk.name, if_neg (by omega)]
    rw [hn, h0] at hR
    simp only [h0, nilc_some, fad_mk, pik_true, pik_false, cnd_true, cnd_false, gif_same, gif_tf, gif_ft, gif_undef, bi_add, bi_sub, bi_mul, bi_eql, bi_neq, bi_lss, bi_leq, bi_gtr, bi_geq, notB_bool, cvi_int, lenS_mk, lenT_mk, ext0, ext1, ext2, nilP_mk, nilS_mk, fldv_agg, jn0_k, jn1_k, jn2_k, jn1_and, jn1_or, ex_some, Option.isNone_some, Option.isNone_none, Bool.false_bne, Bool.bne_true, Bool.bne_false, Bool.true_bne, Bool.not_true, Bool.not_false, Bool.and_true, Bool.true_and, Bool.and_false, Bool.false_and, Bool.or_true, Bool.true_or, Bool.or_false, Bool.false_or, cond_true, cond_false, List.getElem?_toArray, List.getElem?_cons_zero, List.getElem?_cons_succ, Nat.zero_add, Nat.add_zero, Nat.reduceAdd, forall_const, B_ID0, show ((30 : Int) != 0) = true from rfl]
    refine St_api_ID hs3.p1 fun w5 hs5 => ?_
    simp only [L_api_ID hs5.blk]
    exact hR _ _ ⟨rfl, hs5.fr0⟩
end
end Go.Fx
set_option linter.unusedVariables false
set_option linter.unusedSimpArgs false
namespace Go.Fx
def Blk.kid (b : Blk) (d : List UInt8) : Blk := ⟨b.id, b.h + 1, d⟩
def Blk.kidOk (b : Blk) (d : List UInt8) : Prop := b.chk = 0 ∧ b.h ≠ maxI ∧ d.length ≤ 200
instance (b : Blk) (d : List UInt8) : Decidable (b.kidOk d) := by unfold Blk.kidOk; infer_instance
def Blk.child (b : Blk) (d : List UInt8) : Blk := if b.kidOk d then b.kid d else Blk.none
def Blk.childE (b : Blk) (d : List UInt8) : Int := if b.kidOk d then 0 else 30
def Blk.link (c b : Blk) : Int := if b.chk ≠ 0 ∨ c.chk ≠ 0 then 30 else if c.p = b.id ∧ c.h = b.h + 1 then 0 else 31
theorem Blk.kid_chk {b : Blk} {d : List UInt8} (h : 0 ≤ b.h) : (b.kid d).chk = if 200 < d.length then 30 else 0 := by
  unfold Blk.chk Blk.kid
  by_cases hd : 200 < d.length
  · rw [if_pos (.inr (.inl hd)), if_pos hd]
  · rw [if_neg (by simp; omega), if_neg hd]
theorem Blk.link_kid {b : Blk} {d : List UInt8} (hk : b.kidOk d) : (b.kid d).link b = 0 ∧ b.link (b.kid d) = 31 := by
  obtain ⟨h0, hm, hd⟩ := hk
  have hck := Blk.chk_ok h0
  have hkc : (b.kid d).chk = 0 := by rw [Blk.kid_chk hck.1, if_neg (by omega)]
  refine ⟨?_, ?_⟩
  · rw [Blk.link, if_neg (by rw [h0, hkc]; simp), if_pos ⟨rfl, rfl⟩]
  · rw [Blk.link, if_neg (by rw [h0, hkc]; simp), if_neg]
    rintro ⟨_, h2⟩
    have : b.h = b.h + 1 + 1 := h2
    omega
section
variable {w0 w : World} {As : List Asn} {v u : Value} {a b : Blk} {g : Nat} {d : List UInt8}
theorem rbChild_spec (hb : RdB w.heap v b.d) (hd : RdB w.heap u d) (hh : b.h ≤ maxI) : cal P f_ref03_Child [bq b v, u] w fun r w' => ∃ v', r = .tuple #[bq (b.child d) v', .int .i64 (b.childE d)] ∧ Sep w w' [ownB v' (b.child d).d] := by
  refine s_ref03_Child fun R hR => ?_
  unfold c_ref03_Child
  refine bxQ (Sep.start w) fun g w1 hs => ?_
  refine alloc_s hs (A_api_Block w1) fun g2 w2 hs2 => ?_
  simp only [L_api_Block (Sep.p1 hs2).blk, L_api_Block__Parent (Sep.p1 hs2).blk, L_api_Block__Height (Sep.p1 hs2).blk, L_api_Block__Data (Sep.p1 hs2).blk]
  refine cal_i (rbID_spec (hs2.rdB hb) hh) ?_
  rintro _ w3 ⟨rfl, hf3⟩
  have hs3 := hs2.old hf3
  simp only [nilc_some, fad_mk, pik_true, pik_false, cnd_true, cnd_false, gif_same, gif_tf, gif_ft, gif_undef, bi_add, bi_sub, bi_mul, bi_eql, bi_neq, bi_lss, bi_leq, bi_gtr, bi_geq, notB_bool, cvi_int, lenS_mk, lenT_mk, ext0, ext1, ext2, nilP_mk, nilS_mk, fldv_agg, jn0_k, jn1_k, jn2_k, jn1_and, jn1_or, ex_some, Option.isNone_some, Option.isNone_none, Bool.false_bne, Bool.bne_true, Bool.bne_false, Bool.true_bne, Bool.not_true, Bool.not_false, Bool.and_true, Bool.true_and, Bool.and_false, Bool.false_and, Bool.or_true, Bool.true_or, Bool.or_false, Bool.false_or, cond_true, cond_false, List.getElem?_toArray, List.getElem?_cons_zero, List.getElem?_cons_succ, Nat.zero_add, Nat.add_zero, Nat.reduceAdd, forall_const]
  refine alloc_s hs3 (A_api_ID w3) fun g4 w4 hs4 => ?_
  refine St_api_ID hs4 fun w5 hs5 => ?_
  have hld := (hs5.rdB hd).len
  have bad : ¬ b.kidOk d → stN 34 (.pointer (some ⟨g2, 0, none⟩)) (bq Blk.none (.slice none 0 0)) w5 fun w => ldN 34 (.pointer (some ⟨g2, 0, none⟩)) w.heap fun r1 => R (.tuple #[r1, .int .i64 30]) w := fun hn => by
    rw [Blk.child, Blk.childE, if_neg hn, if_neg hn] at hR
    refine St_api_Block hs5.p1 (one_api_Block rfl) fun w6 hs6 => ?_
    simp only [L_api_Block hs6.blk, L_api_Block__Parent hs6.blk, L_api_Block__Height hs6.blk, L_api_Block__Data hs6.blk]
    exact hR _ _ ⟨_, rfl, hs6.tail.tail.tail.nil⟩
  rcases Blk.chk_or b with h0 | h0
  · have hck := Blk.chk_ok h0
    by_cases hm : b.h = maxI
    · have e : (b.h == 9223372036854775807) = true := by simpa using hm
      simp only [h0, e, nilc_some, fad_mk, pik_true, pik_false, cnd_true, cnd_false, gif_same, gif_tf, gif_ft, gif_undef, bi_add, bi_sub, bi_mul, bi_eql, bi_neq, bi_lss, bi_leq, bi_gtr, bi_geq, notB_bool, cvi_int, lenS_mk, lenT_mk, ext0, ext1, ext2, nilP_mk, nilS_mk, fldv_agg, jn0_k, jn1_k, jn2_k, jn1_and, jn1_or, ex_some, Option.isNone_some, Option.isNone_none, Bool.false_bne, Bool.bne_true, Bool.bne_false, Bool.true_bne, Bool.not_true, Bool.not_false, Bool.and_true, Bool.true_and, Bool.and_false, Bool.false_and, Bool.or_true, Bool.true_or, Bool.or_false, Bool.false_or, cond_true, cond_false, List.getElem?_toArray, List.getElem?_cons_zero, List.getElem?_cons_succ, Nat.zero_add, Nat.add_zero, Nat.reduceAdd, forall_const, L_api_Block (Sep.p2 hs5).blk, L_api_Block__Parent (Sep.p2 hs5).blk, L_api_Block__Height (Sep.p2 hs5).blk, L_api_Block__Data (Sep.p2 hs5).blk, B_api_Block, show ((0 : Int) != 0) = false from rfl]
      exact bad fun hk => hk.2.1 hm
    · have e : (b.h == 9223372036854775807) = false := by simpa using hm
      have hn : b.name = b.id := by rw [Blk.name, if_pos h0]
      have hlt : b.h < 9223372036854775807 := by unfold maxI at hh hm; omega
      by_cases h2 : 200 < d.length
      · have e2 : decide ((200 : Int) < d.length) = true := by simp; omega
        simp only [h0, e, hld, e2, nilc_some, fad_mk, pik_true, pik_false, cnd_true, cnd_false, gif_same, gif_tf, gif_ft, gif_undef, bi_add, bi_sub, bi_mul, bi_eql, bi_neq, bi_lss, bi_leq, bi_gtr, bi_geq, notB_bool, cvi_int, lenS_mk, lenT_mk, ext0, ext1, ext2, nilP_mk, nilS_mk, fldv_agg, jn0_k, jn1_k, jn2_k, jn1_and, jn1_or, ex_some, Option.isNone_some, Option.isNone_none, Bool.false_bne, Bool.bne_true, Bool.bne_false, Bool.true_bne, Bool.not_true, Bool.not_false, Bool.and_true, Bool.true_and, Bool.and_false, Bool.false_and, Bool.or_true, Bool.true_or, Bool.or_false, Bool.false_or, cond_true, cond_false, List.getElem?_toArray, List.getElem?_cons_zero, List.getElem?_cons_succ, Nat.zero_add, Nat.add_zero, Nat.reduceAdd, forall_const, L_api_Block (Sep.p2 hs5).blk, L_api_Block__Parent (Sep.p2 hs5).blk, L_api_Block__Height (Sep.p2 hs5).blk, L_api_Block__Data (Sep.p2 hs5).blk, L_api_ID hs5.blk, B_api_Block, show ((0 : Int) != 0) = false from rfl]
        exact bad fun hk => by have := hk.2.2; omega
      · have e2 : decide ((200 : Int) < d.length) = false := by simp; omega
        have hk : b.kidOk d := ⟨h0, hm, by omega⟩
        have hkd : (b.child d).d = d := by rw [Blk.child, if_pos hk]; rfl
        simp only [h0, e, hld, e2, nilc_some, fad_mk, pik_true, pik_false, cnd_true, cnd_false, gif_same, gif_tf, gif_ft, gif_undef, bi_add, bi_sub, bi_mul, bi_eql, bi_neq, bi_lss, bi_leq, bi_gtr, bi_geq, notB_bool, cvi_int, lenS_mk, lenT_mk, ext0, ext1, ext2, nilP_mk, nilS_mk, fldv_agg, jn0_k, jn1_k, jn2_k, jn1_and, jn1_or, ex_some, Option.isNone_some, Option.isNone_none, Bool.false_bne, Bool.bne_true, Bool.bne_false, Bool.true_bne, Bool.not_true, Bool.not_false, Bool.and_true, Bool.true_and, Bool.and_false, Bool.false_and, Bool.or_true, Bool.true_or, Bool.or_false, Bool.false_or, cond_true, cond_false, List.getElem?_toArray, List.getElem?_cons_zero, List.getElem?_cons_succ, Nat.zero_add, Nat.add_zero, Nat.reduceAdd, forall_const, L_api_Block (Sep.p2 hs5).blk, L_api_Block__Parent (Sep.p2 hs5).blk, L_api_Block__Height (Sep.p2 hs5).blk, L_api_Block__Data (Sep.p2 hs5).blk, L_api_ID hs5.blk, show ((0 : Int) != 0) = false from rfl]
        rw [wi64 (by omega) (by omega), B_api_Block_0_1_2 hd.one, hn]
        have ek : Value.agg (Rdr.cells Q_api_Block (b.id, b.h + 1, u)).toArray = bq (b.child d) u := by rw [Blk.child, if_pos hk]; rfl
        rw [ek]
        rw [Blk.childE, if_pos hk] at hR
        generalize b.child d = k at *
        refine cal_i (rbClone_spec (b := k) (by rw [hkd]; exact hs5.rdB hd) (by rw [hkd]; omega)) ?_
        rintro _ w6 ⟨v', rfl, hs6⟩
        replace hs6 := (hs5.join hs6).p2
        refine St_api_Block hs6 (one_api_Block (Sep.one hs6.p1)) fun w7 hs7 => ?_
        simp only [L_api_Block hs7.blk, L_api_Block__Parent hs7.blk, L_api_Block__Height hs7.blk, L_api_Block__Data hs7.blk]
        exact hR _ _ ⟨v', rfl, hs7.p1.d1.d1.d1⟩
  · simp only [h0, nilc_some, fad_mk, pik_true, pik_false, cnd_true, cnd_false, gif_same, gif_tf, gif_ft, gif_undef, bi_add, bi_sub, bi_mul, bi_eql, bi_neq, bi_lss, bi_leq, bi_gtr, bi_geq, notB_bool, cvi_int, lenS_mk, lenT_mk, ext0, ext1, ext2, nilP_mk, nilS_mk, fldv_agg, jn0_k, jn1_k, jn2_k, jn1_and, jn1_or, ex_some, Option.isNone_some, Option.isNone_none, Bool.false_bne, Bool.bne_true, Bool.bne_false, Bool.true_bne, Bool.not_true, Bool.not_false, Bool.and_true, Bool.true_and, Bool.and_false, Bool.false_and, Bool.or_true, Bool.true_or, Bool.or_false, Bool.false_or, cond_true, cond_false, List.getElem?_toArray, List.getElem?_cons_zero, List.getElem?_cons_succ, Nat.zero_add, Nat.add_zero, Nat.reduceAdd, forall_const, B_api_Block, show ((30 : Int) != 0) = true from rfl]
    exact bad fun hk => by have := hk.1; omega
theorem Linked_spec (hc : Cub w) (ha : RdB w.heap u a.d) (hb : RdB w.heap v b.d) (hh : b.h ≤ maxI) (hha : a.h ≤ maxI) : cal P f_block_Linked [bq a u, bq b v] w fun r w' => r = .int .i64 (a.link b) ∧ Fr [] w w' := by
  refine s_block_Linked fun R hR => ?_
  unfold c_block_Linked
  refine bxQ (Sep.start w) fun g w1 hs => ?_
  refine bxQ hs fun g2 w2 hs2 => ?_
  simp only [L_api_Block hs2.blk, L_api_Block__Parent hs2.blk, L_api_Block__Height hs2.blk, L_api_Block__Data hs2.blk]
  refine cal_i (bkID_spec (hc.fr hs2.fr0) (hs2.rdB hb) hh) ?_
  rintro _ w3 ⟨rfl, hf3⟩
  have hs3 := hs2.old hf3
  simp only [nilc_some, fad_mk, pik_true, pik_false, cnd_true, cnd_false, gif_same, gif_tf, gif_ft, gif_undef, bi_add, bi_sub, bi_mul, bi_eql, bi_neq, bi_lss, bi_leq, bi_gtr, bi_geq, notB_bool, cvi_int, lenS_mk, lenT_mk, ext0, ext1, ext2, nilP_mk, nilS_mk, fldv_agg, jn0_k, jn1_k, jn2_k, jn1_and, jn1_or, ex_some, Option.isNone_some, Option.isNone_none, Bool.false_bne, Bool.bne_true, Bool.bne_false, Bool.true_bne, Bool.not_true, Bool.not_false, Bool.and_true, Bool.true_and, Bool.and_false, Bool.false_and, Bool.or_true, Bool.true_or, Bool.or_false, Bool.false_or, cond_true, cond_false, List.getElem?_toArray, List.getElem?_cons_zero, List.getElem?_cons_succ, Nat.zero_add, Nat.add_zero, Nat.reduceAdd, forall_const]
  refine alloc_s hs3 (A_api_ID w3) fun g4 w4 hs4 => ?_
  refine St_api_ID hs4 fun w5 hs5 => ?_
  have fin : ∀ (c : Int) (w' : World), Fr [] w w' → a.link b = c → R (.int .i64 c) w' := fun c w' hf hcc => hR _ _ ⟨by rw [hcc], hf⟩
  rcases Blk.chk_or b with h0 | h0
  · have hck := Blk.chk_ok h0
    have hn : b.name = b.id := by rw [Blk.name, if_pos h0]
    simp only [h0, nilc_some, fad_mk, pik_true, pik_false, cnd_true, cnd_false, gif_same, gif_tf, gif_ft, gif_undef, bi_add, bi_sub, bi_mul, bi_eql, bi_neq, bi_lss, bi_leq, bi_gtr, bi_geq, notB_bool, cvi_int, lenS_mk, lenT_mk, ext0, ext1, ext2, nilP_mk, nilS_mk, fldv_agg, jn0_k, jn1_k, jn2_k, jn1_and, jn1_or, ex_some, Option.isNone_some, Option.isNone_none, Bool.false_bne, Bool.bne_true, Bool.bne_false, Bool.true_bne, Bool.not_true, Bool.not_false, Bool.and_true, Bool.true_and, Bool.and_false, Bool.false_and, Bool.or_true, Bool.true_or, Bool.or_false, Bool.false_or, cond_true, cond_false, List.getElem?_toArray, List.getElem?_cons_zero, List.getElem?_cons_succ, Nat.zero_add, Nat.add_zero, Nat.reduceAdd, forall_const, L_api_Block (Sep.p2 hs5).blk, L_api_Block__Parent (Sep.p2 hs5).blk, L_api_Block__Height (Sep.p2 hs5).blk, L_api_Block__Data (Sep.p2 hs5).blk, show ((0 : Int) != 0) = false from rfl]
    refine jn1_dup ?_
    refine cal_i (Check_spec (hs5.rdB ha)) ?_
    rintro _ w6 ⟨rfl, hf6⟩
    have hs6 := hs5.old hf6
    have hf := hs6.fr0
    rcases Blk.chk_or a with h1 | h1
    · have hca := Blk.chk_ok h1
      have hlk : a.link b = if a.p = b.id ∧ a.h = b.h + 1 then 0 else 31 := by rw [Blk.link, if_neg (by simp [h0, h1])]
      simp only [h1, nilc_some, fad_mk, pik_true, pik_false, cnd_true, cnd_false, gif_same, gif_tf, gif_ft, gif_undef, bi_add, bi_sub, bi_mul, bi_eql, bi_neq, bi_lss, bi_leq, bi_gtr, bi_geq, notB_bool, cvi_int, lenS_mk, lenT_mk, ext0, ext1, ext2, nilP_mk, nilS_mk, fldv_agg, jn0_k, jn1_k, jn2_k, jn1_and, jn1_or, ex_some, Option.isNone_some, Option.isNone_none, Bool.false_bne, Bool.bne_true, Bool.bne_false, Bool.true_bne, Bool.not_true, Bool.not_false, Bool.and_true, Bool.true_and, Bool.and_false, Bool.false_and, Bool.or_true, Bool.true_or, Bool.or_false, Bool.false_or, cond_true, cond_false, List.getElem?_toArray, List.getElem?_cons_zero, List.getElem?_cons_succ, Nat.zero_add, Nat.add_zero, Nat.reduceAdd, forall_const, hn, L_api_Block (Sep.p2 hs6).blk, L_api_Block__Parent (Sep.p2 hs6).blk, L_api_Block__Height (Sep.p2 hs6).blk, L_api_Block__Data (Sep.p2 hs6).blk, L_api_Block (Sep.p1 hs6).blk, L_api_Block__Parent (Sep.p1 hs6).blk, L_api_Block__Height (Sep.p1 hs6).blk, L_api_Block__Data (Sep.p1 hs6).blk, L_api_ID hs6.blk, ne_api_ID, show ((0 : Int) != 0) = false from rfl]
      by_cases hp : a.p = b.id
      · by_cases hm : b.h = maxI
        · have e : (b.h == 9223372036854775807) = true := by simpa using hm
          simp only [hp, e, decide_true, nilc_some, fad_mk, pik_true, pik_false, cnd_true, cnd_false, gif_same, gif_tf, gif_ft, gif_undef, bi_add, bi_sub, bi_mul, bi_eql, bi_neq, bi_lss, bi_leq, bi_gtr, bi_geq, notB_bool, cvi_int, lenS_mk, lenT_mk, ext0, ext1, ext2, nilP_mk, nilS_mk, fldv_agg, jn0_k, jn1_k, jn2_k, jn1_and, jn1_or, ex_some, Option.isNone_some, Option.isNone_none, Bool.false_bne, Bool.bne_true, Bool.bne_false, Bool.true_bne, Bool.not_true, Bool.not_false, Bool.and_true, Bool.true_and, Bool.and_false, Bool.false_and, Bool.or_true, Bool.true_or, Bool.or_false, Bool.false_or, cond_true, cond_false, List.getElem?_toArray, List.getElem?_cons_zero, List.getElem?_cons_succ, Nat.zero_add, Nat.add_zero, Nat.reduceAdd, forall_const]
          refine fin 31 _ hf ?_
          rw [hlk, if_neg]
          rintro ⟨_, h2⟩
          omega
        · have e : (b.h == 9223372036854775807) = false := by simpa using hm
          have hlt : b.h < 9223372036854775807 := by unfold maxI at hh hm; omega
          simp only [hp, e, decide_true, nilc_some, fad_mk, pik_true, pik_false, cnd_true, cnd_false, gif_same, gif_tf, gif_ft, gif_undef, bi_add, bi_sub, bi_mul, bi_eql, bi_neq, bi_lss, bi_leq, bi_gtr, bi_geq, notB_bool, cvi_int, lenS_mk, lenT_mk, ext0, ext1, ext2, nilP_mk, nilS_mk, fldv_agg, jn0_k, jn1_k, jn2_k, jn1_and, jn1_or, ex_some, Option.isNone_some, Option.isNone_none, Bool.false_bne, Bool.bne_true, Bool.bne_false, Bool.true_bne, Bool.not_true, Bool.not_false, Bool.and_true, Bool.true_and, Bool.and_false, Bool.false_and, Bool.or_true, Bool.true_or, Bool.or_false, Bool.false_or, cond_true, cond_false, List.getElem?_toArray, List.getElem?_cons_zero, List.getElem?_cons_succ, Nat.zero_add, Nat.add_zero, Nat.reduceAdd, forall_const]
          rw [wi64 (by omega) (by omega), cnd_bool]
          refine ⟨fun h2 => fin 31 _ hf ?_, fun h2 => fin 0 _ hf ?_⟩
          · have h2 : a.h ≠ b.h + 1 := by simpa using h2
            rw [hlk, if_neg fun h => h2 h.2]
          · have h2 : a.h = b.h + 1 := by simpa using h2
            rw [hlk, if_pos ⟨hp, h2⟩]
      · simp only [hp, decide_false, nilc_some, fad_mk, pik_true, pik_false, cnd_true, cnd_false, gif_same, gif_tf, gif_ft, gif_undef, bi_add, bi_sub, bi_mul, bi_eql, bi_neq, bi_lss, bi_leq, bi_gtr, bi_geq, notB_bool, cvi_int, lenS_mk, lenT_mk, ext0, ext1, ext2, nilP_mk, nilS_mk, fldv_agg, jn0_k, jn1_k, jn2_k, jn1_and, jn1_or, ex_some, Option.isNone_some, Option.isNone_none, Bool.false_bne, Bool.bne_true, Bool.bne_false, Bool.true_bne, Bool.not_true, Bool.not_false, Bool.and_true, Bool.true_and, Bool.and_false, Bool.false_and, Bool.or_true, Bool.true_or, Bool.or_false, Bool.false_or, cond_true, cond_false, List.getElem?_toArray, List.getElem?_cons_zero, List.getElem?_cons_succ, Nat.zero_add, Nat.add_zero, Nat.reduceAdd, forall_const]
        refine fin 31 _ hf ?_
        rw [hlk, if_neg fun h => hp h.1]
    · simp only [h1, nilc_some, fad_mk, pik_true, pik_false, cnd_true, cnd_false, gif_same, gif_tf, gif_ft, gif_undef, bi_add, bi_sub, bi_mul, bi_eql, bi_neq, bi_lss, bi_leq, bi_gtr, bi_geq, notB_bool, cvi_int, lenS_mk, lenT_mk, ext0, ext1, ext2, nilP_mk, nilS_mk, fldv_agg, jn0_k, jn1_k, jn2_k, jn1_and, jn1_or, ex_some, Option.isNone_some, Option.isNone_none, Bool.false_bne, Bool.bne_true, Bool.bne_false, Bool.true_bne, Bool.not_true, Bool.not_false, Bool.and_true, Bool.true_and, Bool.and_false, Bool.false_and, Bool.or_true, Bool.true_or, Bool.or_false, Bool.false_or, cond_true, cond_false, List.getElem?_toArray, List.getElem?_cons_zero, List.getElem?_cons_succ, Nat.zero_add, Nat.add_zero, Nat.reduceAdd, forall_const, show ((30 : Int) != 0) = true from rfl]
      exact fin 30 _ hf (by rw [Blk.link, if_pos (.inr (by omega))])
  · simp only [h0, nilc_some, fad_mk, pik_true, pik_false, cnd_true, cnd_false, gif_same, gif_tf, gif_ft, gif_undef, bi_add, bi_sub, bi_mul, bi_eql, bi_neq, bi_lss, bi_leq, bi_gtr, bi_geq, notB_bool, cvi_int, lenS_mk, lenT_mk, ext0, ext1, ext2, nilP_mk, nilS_mk, fldv_agg, jn0_k, jn1_k, jn2_k, jn1_and, jn1_or, ex_some, Option.isNone_some, Option.isNone_none, Bool.false_bne, Bool.bne_true, Bool.bne_false, Bool.true_bne, Bool.not_true, Bool.not_false, Bool.and_true, Bool.true_and, Bool.and_false, Bool.false_and, Bool.or_true, Bool.true_or, Bool.or_false, Bool.false_or, cond_true, cond_false, List.getElem?_toArray, List.getElem?_cons_zero, List.getElem?_cons_succ, Nat.zero_add, Nat.add_zero, Nat.reduceAdd, forall_const, show ((30 : Int) != 0) = true from rfl]
    exact fin 30 _ hs5.fr0 (by rw [Blk.link, if_pos (.inl (by omega))])
theorem rbLinked_spec (ha : RdB w.heap u a.d) (hb : RdB w.heap v b.d) (hh : b.h ≤ maxI) (hha : a.h ≤ maxI) : cal P f_ref03_Linked [bq a u, bq b v] w fun r w' => r = .int .i64 (a.link b) ∧ Fr [] w w' := by
  refine s_ref03_Linked fun R hR => ?_
  unfold c_ref03_Linked
  refine bxQ (Sep.start w) fun g w1 hs => ?_
  refine bxQ hs fun g2 w2 hs2 => ?_
  simp only [L_api_Block hs2.blk, L_api_Block__Parent hs2.blk, L_api_Block__Height hs2.blk, L_api_Block__Data hs2.blk]
  refine cal_i (rbID_spec (hs2.rdB hb) hh) ?_
  rintro _ w3 ⟨rfl, hf3⟩
  have hs3 := hs2.old hf3
  simp only [nilc_some, fad_mk, pik_true, pik_false, cnd_true, cnd_false, gif_same, gif_tf, gif_ft, gif_undef, bi_add, bi_sub, bi_mul, bi_eql, bi_neq, bi_lss, bi_leq, bi_gtr, bi_geq, notB_bool, cvi_int, lenS_mk, lenT_mk, ext0, ext1, ext2, nilP_mk, nilS_mk, fldv_agg, jn0_k, jn1_k, jn2_k, jn1_and, jn1_or, ex_some, Option.isNone_some, Option.isNone_none, Bool.false_bne, Bool.bne_true, Bool.bne_false, Bool.true_bne, Bool.not_true, Bool.not_false, Bool.and_true, Bool.true_and, Bool.and_false, Bool.false_and, Bool.or_true, Bool.true_or, Bool.or_false, Bool.false_or, cond_true, cond_false, List.getElem?_toArray, List.getElem?_cons_zero, List.getElem?_cons_succ, Nat.zero_add, Nat.add_zero, Nat.reduceAdd, forall_const]
  refine alloc_s hs3 (A_api_ID w3) fun g4 w4 hs4 => ?_
  refine St_api_ID hs4 fun w5 hs5 => ?_
  have fin : ∀ (c : Int) (w' : World), Fr [] w w' → a.link b = c → R (.int .i64 c) w' := fun c w' hf hcc => hR _ _ ⟨by rw [hcc], hf⟩
  rcases Blk.chk_or b with h0 | h0
  · have hck := Blk.chk_ok h0
    have hn : b.name = b.id := by rw [Blk.name, if_pos h0]
    simp only [h0, nilc_some, fad_mk, pik_true, pik_false, cnd_true, cnd_false, gif_same, gif_tf, gif_ft, gif_undef, bi_add, bi_sub, bi_mul, bi_eql, bi_neq, bi_lss, bi_leq, bi_gtr, bi_geq, notB_bool, cvi_int, lenS_mk, lenT_mk, ext0, ext1, ext2, nilP_mk, nilS_mk, fldv_agg, jn0_k, jn1_k, jn2_k, jn1_and, jn1_or, ex_some, Option.isNone_some, Option.isNone_none, Bool.false_bne, Bool.bne_true, Bool.bne_false, Bool.true_bne, Bool.not_true, Bool.not_false, Bool.and_true, Bool.true_and, Bool.and_false, Bool.false_and, Bool.or_true, Bool.true_or, Bool.or_false, Bool.false_or, cond_true, cond_false, List.getElem?_toArray, List.getElem?_cons_zero, List.getElem?_cons_succ, Nat.zero_add, Nat.add_zero, Nat.reduceAdd, forall_const, L_api_Block (Sep.p2 hs5).blk, L_api_Block__Parent (Sep.p2 hs5).blk, L_api_Block__Height (Sep.p2 hs5).blk, L_api_Block__Data (Sep.p2 hs5).blk, show ((0 : Int) != 0) = false from rfl]
    refine jn1_dup ?_
    refine cal_i (rCheck_spec (hs5.rdB ha)) ?_
    rintro _ w6 ⟨rfl, hf6⟩
    have hs6 := hs5.old hf6
    have hf := hs6.fr0
    rcases Blk.chk_or a with h1 | h1
    · have hca := Blk.chk_ok h1
      have hlk : a.link b = if a.p = b.id ∧ a.h = b.h + 1 then 0 else 31 := by rw [Blk.link, if_neg (by simp [h0, h1])]
      simp only [h1, nilc_some, fad_mk, pik_true, pik_false, cnd_true, cnd_false, gif_same, gif_tf, gif_ft, gif_undef, bi_add, bi_sub, bi_mul, bi_eql, bi_neq, bi_lss, bi_leq, bi_gtr, bi_geq, notB_bool, cvi_int, lenS_mk, lenT_mk, ext0, ext1, ext2, nilP_mk, nilS_mk, fldv_agg, jn0_k, jn1_k, jn2_k, jn1_and, jn1_or, ex_some, Option.isNone_some, Option.isNone_none, Bool.false_bne, Bool.bne_true, Bool.bne_false, Bool.true_bne, Bool.not_true, Bool.not_false, Bool.and_true, Bool.true_and, Bool.and_false, Bool.false_and, Bool.or_true, Bool.true_or, Bool.or_false, Bool.false_or, cond_true, cond_false, List.getElem?_toArray, List.getElem?_cons_zero, List.getElem?_cons_succ, Nat.zero_add, Nat.add_zero, Nat.reduceAdd, forall_const, hn, L_api_Block (Sep.p2 hs6).blk, L_api_Block__Parent (Sep.p2 hs6).blk, L_api_Block__Height (Sep.p2 hs6).blk, L_api_Block__Data (Sep.p2 hs6).blk, L_api_Block (Sep.p1 hs6).blk, L_api_Block__Parent (Sep.p1 hs6).blk, L_api_Block__Height (Sep.p1 hs6).blk, L_api_Block__Data (Sep.p1 hs6).blk, L_api_ID hs6.blk, ne_api_ID, show ((0 : Int) != 0) = false from rfl]
      by_cases hl : a.h < 1
      · simp only [hl, decide_true, nilc_some, fad_mk, pik_true, pik_false, cnd_true, cnd_false, gif_same, gif_tf, gif_ft, gif_undef, bi_add, bi_sub, bi_mul, bi_eql, bi_neq, bi_lss, bi_leq, bi_gtr, bi_geq, notB_bool, cvi_int, lenS_mk, lenT_mk, ext0, ext1, ext2, nilP_mk, nilS_mk, fldv_agg, jn0_k, jn1_k, jn2_k, jn1_and, jn1_or, ex_some, Option.isNone_some, Option.isNone_none, Bool.false_bne, Bool.bne_true, Bool.bne_false, Bool.true_bne, Bool.not_true, Bool.not_false, Bool.and_true, Bool.true_and, Bool.and_false, Bool.false_and, Bool.or_true, Bool.true_or, Bool.or_false, Bool.false_or, cond_true, cond_false, List.getElem?_toArray, List.getElem?_cons_zero, List.getElem?_cons_succ, Nat.zero_add, Nat.add_zero, Nat.reduceAdd, forall_const]
        refine fin 31 _ hf ?_
        rw [hlk, if_neg]
        rintro ⟨_, h2⟩
        omega
      · simp only [hl, decide_false, nilc_some, fad_mk, pik_true, pik_false, cnd_true, cnd_false, gif_same, gif_tf, gif_ft, gif_undef, bi_add, bi_sub, bi_mul, bi_eql, bi_neq, bi_lss, bi_leq, bi_gtr, bi_geq, notB_bool, cvi_int, lenS_mk, lenT_mk, ext0, ext1, ext2, nilP_mk, nilS_mk, fldv_agg, jn0_k, jn1_k, jn2_k, jn1_and, jn1_or, ex_some, Option.isNone_some, Option.isNone_none, Bool.false_bne, Bool.bne_true, Bool.bne_false, Bool.true_bne, Bool.not_true, Bool.not_false, Bool.and_true, Bool.true_and, Bool.and_false, Bool.false_and, Bool.or_true, Bool.true_or, Bool.or_false, Bool.false_or, cond_true, cond_false, List.getElem?_toArray, List.getElem?_cons_zero, List.getElem?_cons_succ, Nat.zero_add, Nat.add_zero, Nat.reduceAdd, forall_const]
        by_cases hp : a.p = b.id
        · unfold maxI at hh hha
          simp only [hp, decide_true, nilc_some, fad_mk, pik_true, pik_false, cnd_true, cnd_false, gif_same, gif_tf, gif_ft, gif_undef, bi_add, bi_sub, bi_mul, bi_eql, bi_neq, bi_lss, bi_leq, bi_gtr, bi_geq, notB_bool, cvi_int, lenS_mk, lenT_mk, ext0, ext1, ext2, nilP_mk, nilS_mk, fldv_agg, jn0_k, jn1_k, jn2_k, jn1_and, jn1_or, ex_some, Option.isNone_some, Option.isNone_none, Bool.false_bne, Bool.bne_true, Bool.bne_false, Bool.true_bne, Bool.not_true, Bool.not_false, Bool.and_true, Bool.true_and, Bool.and_false, Bool.false_and, Bool.or_true, Bool.true_or, Bool.or_false, Bool.false_or, cond_true, cond_false, List.getElem?_toArray, List.getElem?_cons_zero, List.getElem?_cons_succ, Nat.zero_add, Nat.add_zero, Nat.reduceAdd, forall_const, L_api_Block (Sep.p2 hs6).blk, L_api_Block__Parent (Sep.p2 hs6).blk, L_api_Block__Height (Sep.p2 hs6).blk, L_api_Block__Data (Sep.p2 hs6).blk, L_api_Block (Sep.p1 hs6).blk, L_api_Block__Parent (Sep.p1 hs6).blk, L_api_Block__Height (Sep.p1 hs6).blk, L_api_Block__Data (Sep.p1 hs6).blk]
          rw [wi64 (by omega) (by omega), cnd_bool]
          refine ⟨fun h2 => fin 31 _ hf ?_, fun h2 => fin 0 _ hf ?_⟩
          · have h2 : a.h - 1 ≠ b.h := by simpa using h2
            rw [hlk, if_neg fun h => h2 (by omega)]
          · have h2 : a.h - 1 = b.h := by simpa using h2
            rw [hlk, if_pos ⟨hp, by omega⟩]
        · simp only [hp, decide_false, nilc_some, fad_mk, pik_true, pik_false, cnd_true, cnd_false, gif_same, gif_tf, gif_ft, gif_undef, bi_add, bi_sub, bi_mul, bi_eql, bi_neq, bi_lss, bi_leq, bi_gtr, bi_geq, notB_bool, cvi_int, lenS_mk, lenT_mk, ext0, ext1, ext2, nilP_mk, nilS_mk, fldv_agg, jn0_k, jn1_k, jn2_k, jn1_and, jn1_or, ex_some, Option.isNone_some, Option.isNone_none, Bool.false_bne, Bool.bne_true, Bool.bne_false, Bool.true_bne, Bool.not_true, Bool.not_false, Bool.and_true, Bool.true_and, Bool.and_false, Bool.false_and, Bool.or_true, Bool.true_or, Bool.or_false, Bool.false_or, cond_true, cond_false, List.getElem?_toArray, List.getElem?_cons_zero, List.getElem?_cons_succ, Nat.zero_add, Nat.add_zero, Nat.reduceAdd, forall_const]
          refine fin 31 _ hf ?_
          rw [hlk, if_neg fun h => hp h.1]
    · simp only [h1, nilc_some, fad_mk, pik_true, pik_false, cnd_true, cnd_false, gif_same, gif_tf, gif_ft, gif_undef, bi_add, bi_sub, bi_mul, bi_eql, bi_neq, bi_lss, bi_leq, bi_gtr, bi_geq, notB_bool, cvi_int, lenS_mk, lenT_mk, ext0, ext1, ext2, nilP_mk, nilS_mk, fldv_agg, jn0_k, jn1_k, jn2_k, jn1_and, jn1_or, ex_some, Option.isNone_some, Option.isNone_none, Bool.false_bne, Bool.bne_true, Bool.bne_false, Bool.true_bne, Bool.not_true, Bool.not_false, Bool.and_true, Bool.true_and, Bool.and_false, Bool.false_and, Bool.or_true, Bool.true_or, Bool.or_false, Bool.false_or, cond_true, cond_false, List.getElem?_toArray, List.getElem?_cons_zero, List.getElem?_cons_succ, Nat.zero_add, Nat.add_zero, Nat.reduceAdd, forall_const, show ((30 : Int) != 0) = true from rfl]
      exact fin 30 _ hf (by rw [Blk.link, if_pos (.inr (by omega))])
  · simp only [h0, nilc_some, fad_mk, pik_true, pik_false, cnd_true, cnd_false, gif_same, gif_tf, gif_ft, gif_undef, bi_add, bi_sub, bi_mul, bi_eql, bi_neq, bi_lss, bi_leq, bi_gtr, bi_geq, notB_bool, cvi_int, lenS_mk, lenT_mk, ext0, ext1, ext2, nilP_mk, nilS_mk, fldv_agg, jn0_k, jn1_k, jn2_k, jn1_and, jn1_or, ex_some, Option.isNone_some, Option.isNone_none, Bool.false_bne, Bool.bne_true, Bool.bne_false, Bool.true_bne, Bool.not_true, Bool.not_false, Bool.and_true, Bool.true_and, Bool.and_false, Bool.false_and, Bool.or_true, Bool.true_or, Bool.or_false, Bool.false_or, cond_true, cond_false, List.getElem?_toArray, List.getElem?_cons_zero, List.getElem?_cons_succ, Nat.zero_add, Nat.add_zero, Nat.reduceAdd, forall_const, show ((30 : Int) != 0) = true from rfl]
    exact fin 30 _ hs5.fr0 (by rw [Blk.link, if_pos (.inl (by omega))])
end
end Go.Fx
set_option linter.unusedVariables false
set_option linter.unusedSimpArgs false
namespace Go.Fx
def vec32 (l : List UInt8) : Vec 32 := ⟨(l ++ List.replicate 32 0).take 32, by simp⟩
theorem vec32_of {l : List UInt8} (h : 32 ≤ l.length) : (vec32 l).1 = l.take 32 := by
  show (l ++ List.replicate 32 0).take 32 = _
  rw [List.take_append_of_le_length h]
theorem vec32_eq {l : List UInt8} {p : Vec 32} (h : l = p.1) : vec32 l = p := by
  apply Subtype.ext
  have := p.2
  rw [vec32_of (by rw [h]; omega), h, List.take_of_length_le (by omega)]
def parB (l : List UInt8) : Blk := ⟨vec32 (l.drop 2), ofBe ((l.drop 34).take 8), l.drop 46⟩
def okP (l : List UInt8) : Prop := 46 ≤ l.length ∧ (parB l).h ≤ maxI ∧ (parB l).chk = 0 ∧ (parB l).bytes = l
instance (l : List UInt8) : Decidable (okP l) := by unfold okP; infer_instance
def parse (l : List UInt8) : Blk := if okP l then parB l else Blk.none
def parseE (l : List UInt8) : Int := if okP l then 0 else 30
/-- Bytes in parts. -/
theorem cut46 {l : List UInt8} (h : 46 ≤ l.length) : ∃ (a p x n d : List UInt8), l = a ++ (p ++ (x ++ (n ++ d))) ∧ a.length = 2 ∧ p.length = 32 ∧ x.length = 8 ∧ n.length = 4 := by
  refine ⟨l.take 2, (l.drop 2).take 32, (l.drop 34).take 8, (l.drop 42).take 4, l.drop 46, ?_, by simp; omega, by simp; omega, by simp; omega, by simp; omega⟩
  have e1 : l.drop 46 = (l.drop 42).drop 4 := by rw [List.drop_drop]
  have e2 : l.drop 42 = (l.drop 34).drop 8 := by rw [List.drop_drop]
  have e3 : l.drop 34 = (l.drop 2).drop 32 := by rw [List.drop_drop]
  rw [e1, List.take_append_drop, e2, List.take_append_drop, e3, List.take_append_drop, List.take_append_drop]
theorem parB_cut {a p x n d : List UInt8} (h1 : a.length = 2) (h2 : p.length = 32) (h3 : x.length = 8) (h4 : n.length = 4) : parB (a ++ (p ++ (x ++ (n ++ d)))) = ⟨⟨p, h2⟩, ofBe x, d⟩ := by
  have e1 : (a ++ (p ++ (x ++ (n ++ d)))).drop 2 = p ++ (x ++ (n ++ d)) := List.drop_left' h1
  have e2 : (a ++ (p ++ (x ++ (n ++ d)))).drop 34 = x ++ (n ++ d) := by rw [show 34 = 2 + 32 from rfl, ← List.drop_drop, e1, List.drop_left' h2]
  have e3 : (a ++ (p ++ (x ++ (n ++ d)))).drop 46 = d := by rw [show 46 = 34 + 8 + 4 from rfl, ← List.drop_drop, ← List.drop_drop, e2, List.drop_left' h3, List.drop_left' h4]
  unfold parB
  rw [e1, e2, e3, List.take_left' h3]
  congr 1
  apply Subtype.ext
  rw [vec32_of (by simp; omega), List.take_left' h2]
theorem be2_zero {a : List UInt8} (h1 : a.length = 2) (h : ofBe a = 0) : a = [0, 0] := by
  have := be_ofBe a
  rw [h1, h] at this
  exact this.symm
theorem ofBe_b4 {n : Nat} (h : n < 4294967296) : ofBe (be 4 n) = n := by rw [ofBe_be, Nat.mod_eq_of_lt (by simpa using h)]
theorem ofBe_b8 {n : Nat} (h : n < 18446744073709551616) : ofBe (be 8 n) = n := by rw [ofBe_be, Nat.mod_eq_of_lt (by simpa using h)]
/-- What is read is laid again: that must be these bytes. -/
theorem okP_cut {a p x n d : List UInt8} (h1 : a.length = 2) (h2 : p.length = 32) (h3 : x.length = 8) (h4 : n.length = 4) :
    okP (a ++ (p ++ (x ++ (n ++ d)))) ↔ ofBe a = 0 ∧ ofBe n = d.length ∧ (ofBe x : Int) ≤ maxI ∧ (⟨⟨p, h2⟩, ofBe x, d⟩ : Blk).chk = 0 := by
  unfold okP
  rw [parB_cut h1 h2 h3 h4]
  have hb : (⟨⟨p, h2⟩, ofBe x, d⟩ : Blk).bytes = [0, 0] ++ p ++ x ++ be 4 d.length ++ d := by
    unfold Blk.bytes
    simp only [Int.toNat_natCast]
    rw [show be 8 (ofBe x) = x by rw [← h3]; exact be_ofBe x]
  refine ⟨?_, ?_⟩
  · rintro ⟨_, hh, hc, he⟩
    have hck := Blk.chk_ok hc
    simp only at hck
    rw [hb] at he
    simp only [List.append_assoc] at he
    have e1 := List.append_inj he (by simp [h1])
    have e2 := List.append_inj e1.2 rfl
    have e3 := List.append_inj e2.2 rfl
    have e4 := List.append_inj e3.2 (by rw [be_length, h4])
    refine ⟨by rw [← e1.1]; rfl, ?_, hh, hc⟩
    rw [← e4.1, ofBe_b4 (by omega)]
  · rintro ⟨ha, hn, hh, hc⟩
    refine ⟨by simp; omega, hh, hc, ?_⟩
    rw [hb, be2_zero h1 ha, ← hn]
    have : be 4 (ofBe n) = n := by rw [← h4]; exact be_ofBe n
    rw [this]
    simp
theorem parse_bytes {b : Blk} (hc : b.chk = 0) (hh : b.h ≤ maxI) : okP b.bytes ∧ parB b.bytes = b := by
  have hck := Blk.chk_ok hc
  unfold maxI at hh
  have e : b.bytes = [0, 0] ++ (b.p.1 ++ (be 8 b.h.toNat ++ (be 4 b.d.length ++ b.d))) := by simp [Blk.bytes]
  have e8 : ofBe (be 8 b.h.toNat) = b.h.toNat := ofBe_b8 (by omega)
  have eb : (⟨⟨b.p.1, b.p.2⟩, (ofBe (be 8 b.h.toNat) : Nat), b.d⟩ : Blk) = b := by
    rw [e8, Int.toNat_of_nonneg hck.1]
  have ho := (okP_cut (a := [0, 0]) (p := b.p.1) (x := be 8 b.h.toNat) (n := be 4 b.d.length) (d := b.d) rfl b.p.2 (be_length ..) (be_length ..)).2 ⟨rfl, ofBe_b4 (by omega), by rw [e8]; unfold maxI; omega, by rw [eb]; exact hc⟩
  rw [e]
  refine ⟨ho, ?_⟩
  rw [parB_cut rfl b.p.2 (be_length ..) (be_length ..)]
  exact eb
theorem okP.len {l : List UInt8} (h : okP l) : l.length ≤ 246 := by
  have := (Blk.chk_ok h.2.2.1).2.1
  have hb := congrArg List.length h.2.2.2
  rw [Blk.bytes_len] at hb
  omega
section
variable {w0 w : World} {As : List Asn} {g o n n' : Nat} {cur : Array Value} {T : TypeId} {x : Value} {m : List UInt8}
/-- 'copy(a[:], x)', a an array in a variable. -/
theorem cpyBlk_s {P : Program} {t tx ty E : Nat} {K : Value → World → Prop} (hT : SlT P t E 1 1) (hs : Sep w0 w (blk g cur T :: As)) (ho : o + n ≤ cur.size) (hx : RdB w.heap x m) (hm : m.length = n)
    (h : ∀ w', Sep w0 w' (blk g (splice cur o (bvs m)) T :: As) → K (.int .i64 n) w') : efP P (Builtin.copy_ #[t, tx] ty #[.slice (some ⟨g, o, none⟩) n n', x]) w K := by
  obtain ⟨F, ⟨hb, rfl⟩, hk⟩ := hs.upd
  subst hm
  have hlm : (bvs m).length = m.length := by simp [bvs]
  have hund := hT.und
  have hle := Cel.lenOf (P := P) (w := w) hx
  have hload := Cel.load (P := P) (w := w) hx
  have hst := run_storeCells_at P g o T (bvs m) 0 cur w hb (by omega) (bvs_one m)
  simp only [Nat.add_zero] at hst
  rw [setRow_setBlk w g cur _ T (0, 0) hb] at hst
  refine ⟨_, setBlk w g (.cells (splice cur o (bvs m)) T (0, 0)), ?_, h _ (hk _ [g] (Go.Fx.blk g _ T) ⟨setBlk_self w g _ _ hb, rfl⟩ (fr_setBlk w g _) (Grew.refl _ _))⟩
  have hmin : Nat.min m.length m.length = m.length := Nat.min_self _
  simp only [Builtin.copy_, Sem.run_bind, Sem.run_pure, List.getElem?_toArray, List.getElem?_cons_zero, List.getElem?_cons_succ, run_underlying hund, Result.andThen_ok, hle, run_sizeOf hT.siz, hmin, hload]
  simp [goInt, hst, splice]
theorem Fld.cpy {α : Type} {r : Rdr α} {off k : Nat} {get : α → Vec k} {set : α → Vec k → α} (f : Fld r (rVec k) off get set) {P : Program} {t tx ty E : Nat} {K : Value → World → Prop} {a : α} (hT : SlT P t E 1 1) (hs : Sep w0 w (blk g (r.cells a).toArray T :: As))
    (hx : RdB w.heap x m) (hm : m.length = k) (h : ∀ w', Sep w0 w' (blk g (r.cells (set a ⟨m, hm⟩)).toArray T :: As) → K (.int .i64 k) w') : efP P (Builtin.copy_ #[t, tx] ty #[.slice (some ⟨g, off, none⟩) k n', x]) w K := by
  obtain ⟨pre, post, e1, e2, e3⟩ := f.spec a ⟨m, hm⟩
  rw [e1] at hs
  rw [e2] at h
  have hg : ((rVec k).cells (get a)).length = k := (rVec k).len _
  refine cpyBlk_s hT hs (by simp; omega) hx hm fun w' hs' => h w' ?_
  have := splice_mid (post := post) e3 (show (bvs m).length = ((rVec k).cells (get a)).length by rw [hg]; simp [bvs, hm])
  rw [this] at hs'
  exact hs'
end
end Go.Fx
set_option linter.unusedVariables false
set_option linter.unusedSimpArgs false
namespace Go.Fx
theorem notOk {l : List UInt8} (h : ¬ okP l) : parse l = Blk.none ∧ parseE l = 30 := by rw [parse, parseE, if_neg h, if_neg h]; exact ⟨rfl, rfl⟩
def R1 (l : List UInt8) := tk 2 l 0
def R2 (l : List UInt8) := tk 32 (R1 l).2.1 (R1 l).2.2
def R3 (l : List UInt8) := tk 8 (R2 l).2.1 (R2 l).2.2
def R4 (l : List UInt8) := ct 200 (R3 l).2.1 (R3 l).2.2
theorem run_good {l : List UInt8} (h : uend (R4 l).2.1 (R4 l).2.2 = 0) : ∃ (a p x n d : List UInt8), l = a ++ (p ++ (x ++ (n ++ d))) ∧ a.length = 2 ∧ p.length = 32 ∧ x.length = 8 ∧ n.length = 4 ∧ ofBe n = d.length ∧ d.length ≤ 200 ∧
    (R1 l).1 = a ∧ (R2 l).1 = p ∧ (R3 l).1 = x ∧ (R4 l).1 = d := by
  obtain ⟨h4, hnil⟩ := uend_ok h
  obtain ⟨h3, hl4, hm, hk, e4⟩ := ct_ok (show (ct 200 (R3 l).2.1 (R3 l).2.2).2.2 = 0 from h4)
  obtain ⟨h2, hl3, e3⟩ := tk_ok (show (tk 8 (R2 l).2.1 (R2 l).2.2).2.2 = 0 from h3)
  obtain ⟨h1, hl2, e2⟩ := tk_ok (show (tk 32 (R1 l).2.1 (R1 l).2.2).2.2 = 0 from h2)
  obtain ⟨_, hl1, e1⟩ := tk_ok (show (tk 2 l 0).2.2 = 0 from h1)
  have E1 : R1 l = (l.take 2, l.drop 2, 0) := e1
  have E2 : R2 l = _ := e2
  rw [E1] at E2 hl2
  have E3 : R3 l = _ := e3
  rw [E2] at E3 hl3
  have E4 : R4 l = _ := e4
  rw [E3] at E4 hl4 hk hm
  rw [E4] at hnil
  simp only [List.length_drop, List.drop_drop] at *
  have h46 : 46 ≤ l.length := by omega
  obtain ⟨a, p, x, n, d, hl, ha, hp, hx, hn⟩ := cut46 h46
  subst hl
  have d1 : (a ++ (p ++ (x ++ (n ++ d)))).drop 2 = p ++ (x ++ (n ++ d)) := List.drop_left' ha
  have d2 : (a ++ (p ++ (x ++ (n ++ d)))).drop (2 + 32) = x ++ (n ++ d) := by rw [← List.drop_drop, d1, List.drop_left' hp]
  have d3 : (a ++ (p ++ (x ++ (n ++ d)))).drop (2 + 32 + 8) = n ++ d := by rw [← List.drop_drop, d2, List.drop_left' hx]
  have d4 : (a ++ (p ++ (x ++ (n ++ d)))).drop (2 + 32 + 8 + 4) = d := by rw [← List.drop_drop, d3, List.drop_left' hn]
  rw [d3, List.take_left' hn] at hm hk hnil
  have hdl : d.length ≤ ofBe n := by
    have := congrArg List.length hnil
    simp only [List.length_drop, List.length_append, List.length_nil] at this
    omega
  simp only [List.length_append] at hk
  have hnd : ofBe n = d.length := by omega
  refine ⟨a, p, x, n, d, rfl, ha, hp, hx, hn, hnd, by omega, ?_, ?_, ?_, ?_⟩
  · rw [E1]; exact List.take_left' ha
  · rw [E2, d1]; exact List.take_left' hp
  · rw [E3, d2]; exact List.take_left' hx
  · rw [E4, d4, d3, List.take_left' hn]
    exact List.take_of_length_le (by omega)
theorem run_bad {l : List UInt8} (h : uend (R4 l).2.1 (R4 l).2.2 ≠ 0) : ¬ okP l := fun hok => by
  have hlen := hok.len
  obtain ⟨a, p, x, n, d, hl, ha, hp, hx, hn⟩ := cut46 hok.1
  subst hl
  obtain ⟨h1, h2, h3, h4⟩ := (okP_cut ha hp hx hn).1 hok
  apply h
  simp only [List.length_append] at hlen
  have E1 : R1 (a ++ (p ++ (x ++ (n ++ d)))) = (a, p ++ (x ++ (n ++ d)), 0) := tk_app ha
  have E2 : R2 (a ++ (p ++ (x ++ (n ++ d)))) = (p, x ++ (n ++ d), 0) := by rw [R2, E1]; exact tk_app hp
  have E3 : R3 (a ++ (p ++ (x ++ (n ++ d)))) = (x, n ++ d, 0) := by rw [R3, E2]; exact tk_app hx
  have E4 : R4 (a ++ (p ++ (x ++ (n ++ d)))) = (d, [], 0) := by rw [R4, E3]; exact ct_app hn h2 (by omega)
  rw [E4]
  rfl
theorem tk_rest (n : Nat) (b : List UInt8) (e : Int) : (tk n b e).2.1.length ≤ b.length := by unfold tk; split <;> (try split) <;> simp
section
variable {w0 w : World} {As : List Asn} {v : Value} {l : List UInt8}
theorem Parse_spec (hb : RdB w.heap v l) : cal P f_block_Parse [v] w fun r w' => ∃ v', r = .tuple #[bq (parse l) v', .int .i64 (parseE l)] ∧ Sep w w' [ownB v' (parse l).d] := by
  refine s_block_Parse fun R hR => ?_
  unfold c_block_Parse
  refine alloc_s (Sep.start w) (A_api_Block w) fun g2 w1 hs => ?_
  have bad : ¬ okP l → ∀ {w2 : World} {As}, Sep w w2 (blk g2 (Rdr.cells Q_api_Block (vz 32, (0 : Int), Value.slice none 0 0)).toArray T_api_Block :: As) → stN 34 (.pointer (some ⟨g2, 0, none⟩)) (bq Blk.none (.slice none 0 0)) w2 fun w => ldN 34 (.pointer (some ⟨g2, 0, none⟩)) w.heap fun r1 => R (.tuple #[r1, .int .i64 30]) w := fun hn w2 As hs => by
    rw [(notOk hn).1, (notOk hn).2] at hR
    refine St_api_Block hs (one_api_Block rfl) fun w6 hs6 => ?_
    simp only [L_api_Block hs6.blk, L_api_Block__Parent hs6.blk, L_api_Block__Height hs6.blk, L_api_Block__Data hs6.blk]
    refine hR _ _ ⟨_, rfl, ?_⟩
    exact (Sep.start w).old hs6.fr0 |>.nil
  have hlv := hb.len
  simp only [nilc_some, fad_mk, pik_true, pik_false, cnd_true, cnd_false, gif_same, gif_tf, gif_ft, gif_undef, bi_add, bi_sub, bi_mul, bi_eql, bi_neq, bi_lss, bi_leq, bi_gtr, bi_geq, notB_bool, cvi_int, lenS_mk, lenT_mk, ext0, ext1, ext2, nilP_mk, nilS_mk, fldv_agg, jn0_k, jn1_k, jn2_k, jn1_and, jn1_or, ex_some, Option.isNone_some, Option.isNone_none, Bool.false_bne, Bool.bne_true, Bool.bne_false, Bool.true_bne, Bool.not_true, Bool.not_false, Bool.and_true, Bool.true_and, Bool.and_false, Bool.false_and, Bool.or_true, Bool.true_or, Bool.or_false, Bool.false_or, cond_true, cond_false, List.getElem?_toArray, List.getElem?_cons_zero, List.getElem?_cons_succ, Nat.zero_add, Nat.add_zero, Nat.reduceAdd, forall_const, hlv, B_api_Block]
  rw [cnd_bool]
  refine ⟨fun h => ?_, fun h => ?_⟩
  · have h : 246 < l.length := by simp at h; omega
    exact bad (fun hk => by have := hk.len; omega) hs
  · have h : l.length ≤ 246 := by simp at h; omega
    refine cal_i (ReadS (hs.rdB hb) (by omega)) ?_
    rintro _ w2 ⟨g, s1, rfl, hs2⟩
    replace hs2 := hs.join hs2
    refine cal_i (uShortS hs2) ?_
    rintro v3 w3 ⟨hv3, s3, hs3⟩
    obtain rfl : v3 = .int .u16 ((ofBe (R1 l).1 : Nat) : Int) := hv3
    refine cal_i (uFixedS (n := 32) hs3 (by omega)) ?_
    rintro v4 w4 ⟨s4, hs4⟩
    replace hs4 := hs4.q2
    refine cal_i (uLongS hs4) ?_
    rintro v5 w5 ⟨hv5, s5, hs5⟩
    obtain rfl : v5 = .int .u64 ((ofBe (R3 l).1 : Nat) : Int) := hv5
    have hl3 : (R3 l).2.1.length ≤ 246 := Nat.le_trans (tk_rest _ _ _) (Nat.le_trans (tk_rest _ _ _) (Nat.le_trans (tk_rest _ _ _) h))
    refine cal_i (uBytesS (n := 200) hs5 (by omega) (Nat.le_trans hl3 (by omega))) ?_
    rintro v6 w6 ⟨s6, hs6⟩
    replace hs6 : Sep w w6 (ownB v6 (R4 l).1 :: uk g s6 (R4 l).2.2 :: ownB s6 (R4 l).2.1 :: ownB v4 (R2 l).1 :: blk g2 (Rdr.cells Q_api_Block (vz 32, (0 : Int), Value.slice none 0 0)).toArray T_api_Block :: []) := hs6
    refine cal_i (EndS hs6.q2) ?_
    rintro _ _ ⟨rfl, rfl⟩
    by_cases hu : uend (R4 l).2.1 (R4 l).2.2 = 0
    · obtain ⟨a, p, x, n, d, rfl, ha, hp, hx, hn, hnd, hd, e1, e2, e3, e4⟩ := run_good hu
      have hiff := okP_cut (d := d) ha hp hx hn
      have hpb := parB_cut (d := d) ha hp hx hn
      rw [e2, e4] at hs6
      generalize a ++ (p ++ (x ++ (n ++ d))) = l at *
      have hxl := ofBe_lt x
      rw [hx] at hxl
      simp only [hu, e1, e3, nilc_some, fad_mk, pik_true, pik_false, cnd_true, cnd_false, gif_same, gif_tf, gif_ft, gif_undef, bi_add, bi_sub, bi_mul, bi_eql, bi_neq, bi_lss, bi_leq, bi_gtr, bi_geq, notB_bool, cvi_int, lenS_mk, lenT_mk, ext0, ext1, ext2, nilP_mk, nilS_mk, fldv_agg, jn0_k, jn1_k, jn2_k, jn1_and, jn1_or, ex_some, Option.isNone_some, Option.isNone_none, Bool.false_bne, Bool.bne_true, Bool.bne_false, Bool.true_bne, Bool.not_true, Bool.not_false, Bool.and_true, Bool.true_and, Bool.and_false, Bool.false_and, Bool.or_true, Bool.true_or, Bool.or_false, Bool.false_or, cond_true, cond_false, List.getElem?_toArray, List.getElem?_cons_zero, List.getElem?_cons_succ, Nat.zero_add, Nat.add_zero, Nat.reduceAdd, forall_const, show ((0 : Int) != 0) = false from rfl]
      by_cases hv : ofBe a = 0
      · simp only [hv, nilc_some, fad_mk, pik_true, pik_false, cnd_true, cnd_false, gif_same, gif_tf, gif_ft, gif_undef, bi_add, bi_sub, bi_mul, bi_eql, bi_neq, bi_lss, bi_leq, bi_gtr, bi_geq, notB_bool, cvi_int, lenS_mk, lenT_mk, ext0, ext1, ext2, nilP_mk, nilS_mk, fldv_agg, jn0_k, jn1_k, jn2_k, jn1_and, jn1_or, ex_some, Option.isNone_some, Option.isNone_none, Bool.false_bne, Bool.bne_true, Bool.bne_false, Bool.true_bne, Bool.not_true, Bool.not_false, Bool.and_true, Bool.true_and, Bool.and_false, Bool.false_and, Bool.or_true, Bool.true_or, Bool.or_false, Bool.false_or, cond_true, cond_false, List.getElem?_toArray, List.getElem?_cons_zero, List.getElem?_cons_succ, Nat.zero_add, Nat.add_zero, Nat.reduceAdd, forall_const, Int.natCast_zero, show ((0 : Int) != 0) = false from rfl]
        rw [cnd_bool]
        refine ⟨fun hh => ?_, fun hh => ?_⟩
        · have hh : 9223372036854775807 < (ofBe x : Int) := by simpa using hh
          exact bad (fun hk => by have := (hiff.1 hk).2.2.1; unfold maxI at this; omega) hs6.p4
        · have hh : (ofBe x : Int) ≤ maxI := by unfold maxI; simpa using hh
          rw [wi64 (by omega) (by unfold maxI at hh; omega), B_api_Block_1_2 (Sep.one hs6)]
          refine alloc_s hs6 (A_api_Block _) fun g7 w7 hs7 => ?_
          refine St_api_Block hs7 (one_api_Block (Sep.one hs7.p1)) fun w8 hs8 => ?_
          simp only [nilc_some, fad_mk, pik_true, pik_false, cnd_true, cnd_false, gif_same, gif_tf, gif_ft, gif_undef, bi_add, bi_sub, bi_mul, bi_eql, bi_neq, bi_lss, bi_leq, bi_gtr, bi_geq, notB_bool, cvi_int, lenS_mk, lenT_mk, ext0, ext1, ext2, nilP_mk, nilS_mk, fldv_agg, jn0_k, jn1_k, jn2_k, jn1_and, jn1_or, ex_some, Option.isNone_some, Option.isNone_none, Bool.false_bne, Bool.bne_true, Bool.bne_false, Bool.true_bne, Bool.not_true, Bool.not_false, Bool.and_true, Bool.true_and, Bool.and_false, Bool.false_and, Bool.or_true, Bool.true_or, Bool.or_false, Bool.false_or, cond_true, cond_false, List.getElem?_toArray, List.getElem?_cons_zero, List.getElem?_cons_succ, Nat.zero_add, Nat.add_zero, Nat.reduceAdd, forall_const, sla_all]
          refine Fld.cpy (r := Q_api_Block) (Fld.fst Fld.self) S_sl_uint8 hs8 (Sep.rd hs8.p4) hp fun w9 hs9 => ?_
          obtain ⟨b, hbb⟩ : ∃ b, b = parB l := ⟨_, rfl⟩
          have hb1 : b = ⟨⟨p, hp⟩, ofBe x, d⟩ := by rw [hbb, hpb]
          have e5 : Rdr.cells Q_api_Block ((⟨p, hp⟩ : Vec 32), ((ofBe x : Nat) : Int), v6) = Rdr.cells Q_api_Block (b.p, b.h, v6) := by rw [hb1]
          have hs9' : Sep w w9 (blk g7 (Rdr.cells Q_api_Block (b.p, b.h, v6)).toArray T_api_Block :: ownB v6 d :: uk g s6 (R4 l).2.2 :: ownB s6 (R4 l).2.1 :: ownB v4 p :: blk g2 (Rdr.cells Q_api_Block (vz 32, (0 : Int), Value.slice none 0 0)).toArray T_api_Block :: []) := by rw [← e5]; exact hs9
          have hbd : b.d = d := by rw [hb1]
          simp only [L_api_Block hs9'.blk, L_api_Block__Parent hs9'.blk, L_api_Block__Height hs9'.blk, L_api_Block__Data hs9'.blk]
          refine cal_i (made_spec (b := b) (by rw [hbd]; exact Sep.rd hs9'.p1)) ?_
          rintro _ w10 ⟨v', rfl, hs10⟩
          replace hs10 := (hs9'.join hs10).pick [6, 0] 7
          simp only [nilc_some, fad_mk, pik_true, pik_false, cnd_true, cnd_false, gif_same, gif_tf, gif_ft, gif_undef, bi_add, bi_sub, bi_mul, bi_eql, bi_neq, bi_lss, bi_leq, bi_gtr, bi_geq, notB_bool, cvi_int, lenS_mk, lenT_mk, ext0, ext1, ext2, nilP_mk, nilS_mk, fldv_agg, jn0_k, jn1_k, jn2_k, jn1_and, jn1_or, ex_some, Option.isNone_some, Option.isNone_none, Bool.false_bne, Bool.bne_true, Bool.bne_false, Bool.true_bne, Bool.not_true, Bool.not_false, Bool.and_true, Bool.true_and, Bool.and_false, Bool.false_and, Bool.or_true, Bool.true_or, Bool.or_false, Bool.false_or, cond_true, cond_false, List.getElem?_toArray, List.getElem?_cons_zero, List.getElem?_cons_succ, Nat.zero_add, Nat.add_zero, Nat.reduceAdd, forall_const]
          refine St_api_Block hs10 (one_api_Block (Sep.one hs10.p1)) fun w11 hs11 => ?_
          simp only [L_api_Block hs11.blk, L_api_Block__Parent hs11.blk, L_api_Block__Height hs11.blk, L_api_Block__Data hs11.blk]
          have hp1 : parse l = b.mk' := by
            rw [hbb]
            by_cases hk : okP l
            · rw [parse, if_pos hk, Blk.mk', if_pos hk.2.2.1]
            · have : ¬ (parB l).chk = 0 := fun hc => hk (hiff.2 ⟨hv, hnd, hh, by rw [← hpb]; exact hc⟩)
              rw [parse, if_neg hk, Blk.mk', if_neg this]
          have hp2 : parseE l = b.chk := by
            rw [hbb]
            by_cases hk : okP l
            · rw [parseE, if_pos hk, hk.2.2.1]
            · have : ¬ (parB l).chk = 0 := fun hc => hk (hiff.2 ⟨hv, hnd, hh, by rw [← hpb]; exact hc⟩)
              rw [parseE, if_neg hk]
              rcases Blk.chk_or (parB l) with h0 | h0
              · exact absurd h0 this
              · exact h0.symm
          rw [hp1, hp2] at hR
          exact hR _ _ ⟨v', rfl, hs11.tail⟩
      · have e5 : (((ofBe a : Nat) : Int) != 0) = true := by simpa using hv
        simp only [e5, nilc_some, fad_mk, pik_true, pik_false, cnd_true, cnd_false, gif_same, gif_tf, gif_ft, gif_undef, bi_add, bi_sub, bi_mul, bi_eql, bi_neq, bi_lss, bi_leq, bi_gtr, bi_geq, notB_bool, cvi_int, lenS_mk, lenT_mk, ext0, ext1, ext2, nilP_mk, nilS_mk, fldv_agg, jn0_k, jn1_k, jn2_k, jn1_and, jn1_or, ex_some, Option.isNone_some, Option.isNone_none, Bool.false_bne, Bool.bne_true, Bool.bne_false, Bool.true_bne, Bool.not_true, Bool.not_false, Bool.and_true, Bool.true_and, Bool.and_false, Bool.false_and, Bool.or_true, Bool.true_or, Bool.or_false, Bool.false_or, cond_true, cond_false, List.getElem?_toArray, List.getElem?_cons_zero, List.getElem?_cons_succ, Nat.zero_add, Nat.add_zero, Nat.reduceAdd, forall_const]
        exact bad (fun hk => hv (hiff.1 hk).1) hs6.p4
    · have e5 : (uend (R4 l).2.1 (R4 l).2.2 != 0) = true := by simpa using hu
      simp only [e5, nilc_some, fad_mk, pik_true, pik_false, cnd_true, cnd_false, gif_same, gif_tf, gif_ft, gif_undef, bi_add, bi_sub, bi_mul, bi_eql, bi_neq, bi_lss, bi_leq, bi_gtr, bi_geq, notB_bool, cvi_int, lenS_mk, lenT_mk, ext0, ext1, ext2, nilP_mk, nilS_mk, fldv_agg, jn0_k, jn1_k, jn2_k, jn1_and, jn1_or, ex_some, Option.isNone_some, Option.isNone_none, Bool.false_bne, Bool.bne_true, Bool.bne_false, Bool.true_bne, Bool.not_true, Bool.not_false, Bool.and_true, Bool.true_and, Bool.and_false, Bool.false_and, Bool.or_true, Bool.true_or, Bool.or_false, Bool.false_or, cond_true, cond_false, List.getElem?_toArray, List.getElem?_cons_zero, List.getElem?_cons_succ, Nat.zero_add, Nat.add_zero, Nat.reduceAdd, forall_const]
      exact bad (run_bad hu) hs6.p4
end
end Go.Fx
set_option linter.unusedVariables false
set_option linter.unusedSimpArgs false
namespace Go.Fx
section
variable {w0 w : World} {As : List Asn} {v : Value} {l : List UInt8}
/-- The cells of a name, so far. -/
theorem part_par {p : Vec 32} {i : Nat} : (part p.1 i).length = 32 ∨ 32 < i := by
  rcases Nat.lt_or_ge 32 i with h | h
  · exact .inr h
  · left; rw [part_len _ (by rw [p.2]; exact h), p.2]
theorem rParse_spec (hb : RdB w.heap v l) (hcap : capOk v) (hln : l.length ≤ 9223372036854775807) : cal P f_ref03_Parse [v] w fun r w' => ∃ v', r = .tuple #[bq (parse l) v', .int .i64 (parseE l)] ∧ Sep w w' [ownB v' (parse l).d] := by
  refine s_ref03_Parse fun R hR => ?_
  unfold c_ref03_Parse
  refine alloc_s (Sep.start w) (A_api_Block w) fun g2 w1 hs => ?_
  have bad : ¬ okP l → ∀ {w2 : World} {As}, Sep w w2 (blk g2 (Rdr.cells Q_api_Block (vz 32, (0 : Int), Value.slice none 0 0)).toArray T_api_Block :: As) → stN 34 (.pointer (some ⟨g2, 0, none⟩)) (bq Blk.none (.slice none 0 0)) w2 fun w => ldN 34 (.pointer (some ⟨g2, 0, none⟩)) w.heap fun r1 => R (.tuple #[r1, .int .i64 30]) w := fun hn w2 As hs => by
    rw [(notOk hn).1, (notOk hn).2] at hR
    refine St_api_Block hs (one_api_Block rfl) fun w6 hs6 => ?_
    simp only [L_api_Block hs6.blk, L_api_Block__Parent hs6.blk, L_api_Block__Height hs6.blk, L_api_Block__Data hs6.blk]
    refine hR _ _ ⟨_, rfl, ?_⟩
    exact (Sep.start w).old hs6.fr0 |>.nil
  have hlv := hb.len
  simp only [nilc_some, fad_mk, pik_true, pik_false, cnd_true, cnd_false, gif_same, gif_tf, gif_ft, gif_undef, bi_add, bi_sub, bi_mul, bi_eql, bi_neq, bi_lss, bi_leq, bi_gtr, bi_geq, notB_bool, cvi_int, lenS_mk, lenT_mk, ext0, ext1, ext2, nilP_mk, nilS_mk, fldv_agg, jn0_k, jn1_k, jn2_k, jn1_and, jn1_or, ex_some, Option.isNone_some, Option.isNone_none, Bool.false_bne, Bool.bne_true, Bool.bne_false, Bool.true_bne, Bool.not_true, Bool.not_false, Bool.and_true, Bool.true_and, Bool.and_false, Bool.false_and, Bool.or_true, Bool.true_or, Bool.or_false, Bool.false_or, cond_true, cond_false, List.getElem?_toArray, List.getElem?_cons_zero, List.getElem?_cons_succ, Nat.zero_add, Nat.add_zero, Nat.reduceAdd, forall_const, hlv, B_api_Block]
  rw [cnd_bool]
  refine ⟨fun h => ?_, fun h => ?_⟩
  · have h : l.length < 46 := by simp at h; omega
    exact bad (fun hk => by have := hk.1; omega) hs
  have h : 46 ≤ l.length := by simp at h; omega
  obtain ⟨av, cv, rfl⟩ := hb.form
  have hcv : l.length ≤ cv := hcap _ _ _ rfl
  obtain ⟨x, hxx⟩ : ∃ x, x = (l.drop 34).take 8 := ⟨_, rfl⟩
  obtain ⟨hw, hhw⟩ : ∃ hw, hw = IntKind.i64.wrap ((ofBe x : Nat) : Int) := ⟨_, rfl⟩
  obtain ⟨u, huu⟩ : ∃ u, u = Value.slice (if cv = 46 then av else av.map (·.add (46 * 1))) (l.length - 46) (cv - 46) := ⟨_, rfl⟩
  have hu : ∀ z : World, RdB z.heap (.slice av l.length cv) l → RdB z.heap u (l.drop 46) := fun z hz => by rw [huu]; exact hz.drop h hcv (cv - 46)
  have hu1 : u.oneCell' = true := by rw [huu]; split <;> rfl
  refine drH_T hs fun w2 hs2 _ => ?_
  refine ⟨fun t w' => ∃ g4, t = .pointer (some ⟨g4, 0, none⟩) ∧ Sep w w' (blk g4 (Rdr.cells Q_api_Block (vz 32, hw, u)).toArray T_api_Block :: blk g2 (Rdr.cells Q_api_Block (vz 32, (0 : Int), Value.slice none 0 0)).toArray T_api_Block :: []), ?_, ?_⟩
  · change slc 1 _ _ _ _
    rw [show (Value.int .i64 34) = .int .i64 ((34 : Nat) : Int) from rfl, show (Value.int .i64 42) = .int .i64 ((42 : Nat) : Int) from rfl, slc_mid (by omega) (by omega), show (Value.int .i64 46) = .int .i64 ((46 : Nat) : Int) from rfl, slc_from h, ← huu]
    have hv : ∀ {z : World} {As}, Sep w z As → RdB z.heap (Value.slice (if cv = 34 then av else av.map (·.add (34 * 1))) (42 - 34) (cv - 34)) x := fun {z As} hz => by
      rw [hxx]
      exact ((hz.rdB hb).drop (k := 34) (by omega) hcv (cv - 34)).take (k := 8) (by omega) (cv - 34)
    have hx8 : x.length = 8 := by rw [hxx]; simp; omega
    refine ⟨efC_calT (cal_i (rVal_spec (hv hs2) (by omega)) ?_), efS_i (alloc_s hs2 (A_api_Block w2) fun g4 w3 hs3 => ⟨trivial, efC_calT (cal_i (rVal_spec (hv hs3) (by omega)) ?_)⟩), trivial⟩
    · rintro _ _ ⟨rfl, rfl⟩
      rw [cvi_int, ← hhw]
      refine ⟨_, fun z _ => (B_api_Block_1_2 hu1 _).mpr rfl, ?_⟩
      refine efS_i (alloc_s hs2 (A_api_Block w2) fun g4 w3 hs3 => ⟨trivial, ?_⟩)
      refine efC_stN (St_api_Block hs3 (one_api_Block hu1) fun w4 hs4 => ⟨g4, rfl, hs4⟩)
    · rintro _ _ ⟨rfl, rfl⟩
      rw [cvi_int, ← hhw]
      refine ⟨_, fun z _ => (B_api_Block_1_2 hu1 _).mpr rfl, ?_⟩
      refine efC_stN (St_api_Block hs3 (one_api_Block hu1) fun w4 hs4 => ⟨g4, rfl, hs4⟩)
  · rintro _ w3 ⟨g4, rfl, hs3⟩ _
    obtain ⟨p, hpp⟩ : ∃ p, p = vec32 (l.drop 2) := ⟨_, rfl⟩
    have hpv : p.1 = (l.drop 2).take 32 := by rw [hpp]; exact vec32_of (by simp; omega)
    have hpl := p.2
    have pv : ∀ i, i ≤ 32 → ∃ q : Vec 32, q.1 = part p.1 i := fun i hi => ⟨⟨part p.1 i, by rw [part_len _ (by omega), hpl]⟩, rfl⟩
    refine ⟨fun y w' => ∃ (i : Nat) (q : Vec 32), y = .int .i64 i ∧ i ≤ 32 ∧ q.1 = part p.1 i ∧ Sep w w' (blk g4 (Rdr.cells Q_api_Block (q, hw, u)).toArray T_api_Block :: blk g2 (Rdr.cells Q_api_Block (vz 32, (0 : Int), Value.slice none 0 0)).toArray T_api_Block :: []),
      fun y _ => (32 - RowKit.intOf y).toNat, ⟨0, vz 32, rfl, by omega, by rw [part_zero, hpl]; rfl, hs3⟩, ?_⟩
    rintro _ w4 ⟨i, q, rfl, hi, hq, hs4⟩ -
    simp only [nilc_some, fad_mk, pik_true, pik_false, cnd_true, cnd_false, gif_same, gif_tf, gif_ft, gif_undef, bi_add, bi_sub, bi_mul, bi_eql, bi_neq, bi_lss, bi_leq, bi_gtr, bi_geq, notB_bool, cvi_int, lenS_mk, lenT_mk, ext0, ext1, ext2, nilP_mk, nilS_mk, fldv_agg, jn0_k, jn1_k, jn2_k, jn1_and, jn1_or, ex_some, Option.isNone_some, Option.isNone_none, Bool.false_bne, Bool.bne_true, Bool.bne_false, Bool.true_bne, Bool.not_true, Bool.not_false, Bool.and_true, Bool.true_and, Bool.and_false, Bool.false_and, Bool.or_true, Bool.true_or, Bool.or_false, Bool.false_or, cond_true, cond_false, List.getElem?_toArray, List.getElem?_cons_zero, List.getElem?_cons_succ, Nat.zero_add, Nat.add_zero, Nat.reduceAdd, forall_const]
    rw [cnd_bool]
    refine ⟨fun hlt => ?_, fun hlt => ?_⟩
    · have h32 : i < 32 := by simp at hlt; omega
      have e : IntKind.i64.wrap (2 + (i : Int)) = ((2 + i : Nat) : Int) := by rw [wi64 (by omega) (by omega)]; omega
      rw [e]
      refine ldxB (hs4.rdB hb) (by omega) ?_
      rw [ixa_w .i64 h32]
      have hby : p.1[i]? = some (l[2 + i]'(by omega)) := by
        rw [hpv, List.getElem?_take_of_lt h32, List.getElem?_drop, List.getElem?_eq_getElem (by omega)]
      obtain ⟨q', hq'⟩ := pv (i + 1) (by omega)
      have e1 : Rdr.cells Q_api_Block (q, hw, u) = bvs (part p.1 i) ++ [.int .i64 hw, u] := by rw [← hq]; rfl
      have e2 : Rdr.cells Q_api_Block (q', hw, u) = bvs (part p.1 (i + 1)) ++ [.int .i64 hw, u] := by rw [← hq']; rfl
      rw [e1] at hs4
      have hpi := part_len p.1 (i := i) (by omega)
      refine st1_s hs4 (by simp [bvs]; omega) rfl fun w5 hs5 => ?_
      have e3 : (bvs (part p.1 i) ++ [.int .i64 hw, u]).toArray.setIfInBounds i (bv (l[2 + i]'(by omega))) = (Rdr.cells Q_api_Block (q', hw, u)).toArray := by
        rw [e2, ← part_set hby]
        apply Array.ext'
        simp only [Array.toList_setIfInBounds]
        rw [List.set_append_left _ _ (by simp [bvs]; omega)]
        simp [bvs, List.map_set]
      rw [e3] at hs5
      rw [wi64 (by omega) (by omega)]
      exact ⟨⟨i + 1, q', by simp, by omega, hq', hs5⟩, by simp [RowKit.intOf]; omega⟩
    · have h32 : i = 32 := by simp at hlt; omega
      subst h32
      have hqp : q = p := by
        apply Subtype.ext
        rw [hq]
        have := part_all (o := p.1)
        rwa [hpl] at this
      subst hqp
      obtain ⟨b, hbb⟩ : ∃ b : Blk, b = ⟨q, hw, l.drop 46⟩ := ⟨_, rfl⟩
      have e1 : Rdr.cells Q_api_Block (q, hw, u) = Rdr.cells Q_api_Block (b.p, b.h, u) := by rw [hbb]
      have hbd : b.d = l.drop 46 := by rw [hbb]
      have hbh : b.h = hw := by rw [hbb]
      rw [e1] at hs4
      have hhm : hw ≤ maxI := by
        have hxl := ofBe_lt x
        have hx8 : x.length = 8 := by rw [hxx]; simp; omega
        rw [hx8] at hxl
        rw [hhw, IntKind.wrap_i64]
        unfold maxI
        omega
      have hrd : ∀ {z : World} {As}, Sep w z As → RdB z.heap u b.d := fun {z As} hz => by rw [hbd]; exact hu _ (hz.rdB hb)
      simp only [L_api_Block hs4.blk, L_api_Block__Parent hs4.blk, L_api_Block__Height hs4.blk, L_api_Block__Data hs4.blk]
      refine cal_i (rbBytes_spec (b := b) (hrd hs4) (by rw [hbh]; exact hhm)) ?_
      rintro _ w5 ⟨s5, rfl, hs5⟩
      replace hs5 := hs4.join hs5
      simp only [nilc_some, fad_mk, pik_true, pik_false, cnd_true, cnd_false, gif_same, gif_tf, gif_ft, gif_undef, bi_add, bi_sub, bi_mul, bi_eql, bi_neq, bi_lss, bi_leq, bi_gtr, bi_geq, notB_bool, cvi_int, lenS_mk, lenT_mk, ext0, ext1, ext2, nilP_mk, nilS_mk, fldv_agg, jn0_k, jn1_k, jn2_k, jn1_and, jn1_or, ex_some, Option.isNone_some, Option.isNone_none, Bool.false_bne, Bool.bne_true, Bool.bne_false, Bool.true_bne, Bool.not_true, Bool.not_false, Bool.and_true, Bool.true_and, Bool.and_false, Bool.false_and, Bool.or_true, Bool.true_or, Bool.or_false, Bool.false_or, cond_true, cond_false, List.getElem?_toArray, List.getElem?_cons_zero, List.getElem?_cons_succ, Nat.zero_add, Nat.add_zero, Nat.reduceAdd, forall_const]
      -- whether it may be
      have hokh : okP l → b = parB l := fun hk => by
        have h2 := hk.2.1
        rw [hbb, parB, hhw, hxx, hpp]
        congr 1
        exact wi64 (by omega) h2
      have hbok : b.chk = 0 → b.bytes = l → okP l := fun hc he => by
        have hck := Blk.chk_ok hc
        have := (parse_bytes hc (by rw [hbh]; exact hhm)).1
        rwa [he] at this
      rcases Blk.chk_or b with h0 | h0
      · have hck := Blk.chk_ok h0
        have ho : b.out = b.bytes := by rw [Blk.out, if_pos h0]
        rw [ho] at hs5
        simp only [h0, nilc_some, fad_mk, pik_true, pik_false, cnd_true, cnd_false, gif_same, gif_tf, gif_ft, gif_undef, bi_add, bi_sub, bi_mul, bi_eql, bi_neq, bi_lss, bi_leq, bi_gtr, bi_geq, notB_bool, cvi_int, lenS_mk, lenT_mk, ext0, ext1, ext2, nilP_mk, nilS_mk, fldv_agg, jn0_k, jn1_k, jn2_k, jn1_and, jn1_or, ex_some, Option.isNone_some, Option.isNone_none, Bool.false_bne, Bool.bne_true, Bool.bne_false, Bool.true_bne, Bool.not_true, Bool.not_false, Bool.and_true, Bool.true_and, Bool.and_false, Bool.false_and, Bool.or_true, Bool.true_or, Bool.or_false, Bool.false_or, cond_true, cond_false, List.getElem?_toArray, List.getElem?_cons_zero, List.getElem?_cons_succ, Nat.zero_add, Nat.add_zero, Nat.reduceAdd, forall_const, show ((0 : Int) != 0) = false from rfl]
        refine jn1_dup ?_
        rw [rdP_eq (conv_str UT_bytes UT_uint8 UT_string (Sep.rd hs5)), rdP_eq (conv_str UT_bytes UT_uint8 UT_string (hs5.rdB hb)), neS_str]
        intro _
        rw [cnd_bool]
        refine ⟨fun he => ?_, fun he => ?_⟩
        · have he : b.bytes ≠ l := by simpa using he
          exact bad (fun hk => he (by rw [hokh hk]; exact hk.2.2.2)) (hs5.pick [2] 3)
        · have he : b.bytes = l := by simpa using he
          have hk := hbok h0 he
          have hp : parse l = b := by rw [parse, if_pos hk, hokh hk]
          have hpe : parseE l = 0 := by rw [parseE, if_pos hk]
          rw [hp, hpe] at hR
          simp only [L_api_Block (Sep.p1 hs5).blk, L_api_Block__Parent (Sep.p1 hs5).blk, L_api_Block__Height (Sep.p1 hs5).blk, L_api_Block__Data (Sep.p1 hs5).blk]
          refine cal_i (rbClone_spec (b := b) (hrd hs5) (by omega)) ?_
          rintro _ w6 ⟨v', rfl, hs6⟩
          replace hs6 := (hs5.join hs6).pick [3, 0] 4
          refine St_api_Block hs6 (one_api_Block (Sep.one hs6.p1)) fun w7 hs7 => ?_
          simp only [L_api_Block hs7.blk, L_api_Block__Parent hs7.blk, L_api_Block__Height hs7.blk, L_api_Block__Data hs7.blk]
          exact hR _ _ ⟨v', rfl, hs7.tail⟩
      · simp only [h0, nilc_some, fad_mk, pik_true, pik_false, cnd_true, cnd_false, gif_same, gif_tf, gif_ft, gif_undef, bi_add, bi_sub, bi_mul, bi_eql, bi_neq, bi_lss, bi_leq, bi_gtr, bi_geq, notB_bool, cvi_int, lenS_mk, lenT_mk, ext0, ext1, ext2, nilP_mk, nilS_mk, fldv_agg, jn0_k, jn1_k, jn2_k, jn1_and, jn1_or, ex_some, Option.isNone_some, Option.isNone_none, Bool.false_bne, Bool.bne_true, Bool.bne_false, Bool.true_bne, Bool.not_true, Bool.not_false, Bool.and_true, Bool.true_and, Bool.and_false, Bool.false_and, Bool.or_true, Bool.true_or, Bool.or_false, Bool.false_or, cond_true, cond_false, List.getElem?_toArray, List.getElem?_cons_zero, List.getElem?_cons_succ, Nat.zero_add, Nat.add_zero, Nat.reduceAdd, forall_const, show ((30 : Int) != 0) = true from rfl]
        exact bad (fun hk => by rw [hokh hk, hk.2.2.1] at h0; cases h0) (hs5.pick [2] 3)
end
end Go.Fx
set_option linter.unusedVariables false
set_option linter.unusedSimpArgs false
namespace Go.Fx
abbrev BV := Blk × Value
def BV.t (x : BV) : Vec 32 × Int × Value := (x.1.p, x.1.h, x.2)
/-- A slice of blocks, each with what its data read as. -/
def BRows (h : Heap) (v : Value) (l : List BV) : Prop := Rows' Q_api_Block h v (l.map BV.t) ∧ ∀ x ∈ l, RdB h x.2 x.1.d
theorem BRows.fr {w w' : World} {v : Value} {l : List BV} (h : BRows w.heap v l) (hf : Fr [] w w') : BRows w'.heap v l := ⟨h.1.fr hf, fun x hx => (h.2 x hx).fr hf (off_nil _)⟩
theorem BRows.len {h : Heap} {v : Value} {l : List BV} (hr : BRows h v l) (K : Value → Prop) : lenS v K = K (.int .i64 l.length) := by
  have := hr.1.len K
  rwa [List.length_map] at this
/-- 'l[j]'. -/
theorem BRows.ld {w : World} {v : Value} {l : List BV} {j : Nat} {x : BV} (hr : BRows w.heap v l) (hj : l[j]? = some x) (k : IntKind) {K : Value → Prop} (h : K (bq x.1 x.2)) : ixs 34 v (.int k (j : Int)) fun t => ldN 34 t w.heap K := by
  have : (l.map BV.t)[j]? = some x.t := by rw [List.getElem?_map, hj]; rfl
  exact Rows'.ldN (q := Q_api_Block) (by decide) hr.1 this k h
theorem qV (a : Vec 32 × Int × Value) : (Value.agg (Rdr.cells Q_api_Block a).toArray).cells = (Rdr.cells Q_api_Block a).toArray := rfl
section
variable {w0 w : World} {As : List Asn} {v : Value}
def ga : Blk := Blk.first [103]
theorem ga_chk : ga.chk = 0 := by decide +kernel
theorem ga_bytes : ga.bytes = List.replicate 42 0 ++ [0, 0, 0, 1, 103] := by decide +kernel
/-- A block's variable, read in a region that draws. -/
theorem rdS_bb {S : World → Prop} {g : Nat} {b : Blk} {v : Value} {K : Value → Prop} (hS : ∀ u, S u → ∃ t fr, u.heap[g]? = some (.cells (Rdr.cells Q_api_Block (b.p, b.h, v)).toArray t fr)) (hk : K (bq b v)) :
    rdS S (fun w => ldN 34 (.pointer (some ⟨g, 0, none⟩)) w.heap) K := ⟨_, fun u hu => by obtain ⟨t, fr, hg⟩ := hS u hu; exact (L_api_Block hg _).mpr rfl, hk⟩
/-- A block that is an argument. -/
abbrev ab (x : Vec 32 × Int × Sl UInt8) : Blk := ⟨x.1, x.2.1, x.2.2.l⟩
theorem ab_rd {h : Heap} {x : Vec 32 × Int × Sl UInt8} (hx : Rdr.ok R_api_Block h x) : RdB h x.2.2.v (ab x).d := hx.2.2.1
theorem ab_h {h : Heap} {x : Vec 32 × Int × Sl UInt8} (hx : Rdr.ok R_api_Block h x) : (ab x).h ≤ maxI := by
  have := Go.bounds_i64 hx.2.1
  unfold maxI
  show x.2.1 ≤ _
  omega
theorem ab_len {h : Heap} {x : Vec 32 × Int × Sl UInt8} (hx : Rdr.ok R_api_Block h x) : (ab x).d.length ≤ 9223372036854775807 := hx.2.2.2.1
end
end Go.Fx
set_option linter.unusedVariables false
set_option linter.unusedSimpArgs false
namespace Go.Fx
/-- What stands ahead of a record's tail. -/
def Blk.hd (b : Blk) : List UInt8 := be 4 b.bytes.length ++ be 8 b.h.toNat ++ b.bytes
def tail8 (l : List UInt8) : List UInt8 := (shaM l).1.take 8
def Blk.rcd (b : Blk) : List UInt8 := b.hd ++ tail8 b.hd
def Blk.recO (b : Blk) : List UInt8 := if b.chk = 0 then b.rcd else []
theorem tail8_len (l : List UInt8) : (tail8 l).length = 8 := by unfold tail8; rw [List.length_take, (shaM l).2]; rfl
theorem Blk.hd_len (b : Blk) : b.hd.length = 58 + b.d.length := by
  unfold Blk.hd
  simp only [List.length_append, be_length, Blk.bytes_len]
  omega
theorem Blk.rec_len (b : Blk) : b.rcd.length = 66 + b.d.length := by
  unfold Blk.rcd
  rw [List.length_append, Blk.hd_len, tail8_len]
  omega
theorem Blk.recO_len (b : Blk) : b.recO.length = if b.chk = 0 then 66 + b.d.length else 0 := by
  unfold Blk.recO
  split
  · exact Blk.rec_len b
  · rfl
theorem Blk.recO_le (b : Blk) : b.recO.length ≤ 266 := by
  rw [Blk.recO_len]
  split
  · rename_i h
    have := Blk.chk_ok h
    omega
  · omega
/-- 'x[:j]', x an array. -/
theorem sla_to {size g len j : Nat} (hj : j ≤ len) (K : Value → Prop) : sla len size (.pointer (some ⟨g, 0, none⟩)) none (some (.int .i64 (j : Int))) K = K (.slice (some ⟨g, 0, none⟩) j len) := by
  have e : (if len = 0 then (⟨g, 0, none⟩ : Addr) else Addr.add ⟨g, 0, none⟩ (0 * size)) = ⟨g, 0, none⟩ := by
    split
    · rfl
    · rw [Nat.zero_mul, Addr_add_mk, Nat.add_zero]
  refine propext ⟨?_, fun hk => ⟨_, rfl, ?_⟩⟩
  · rintro ⟨a, ha, hk⟩
    cases ha
    obtain ⟨k, j', hj', h0, h1, hk⟩ := hk
    cases hj'
    simp only [bndO, e, Nat.sub_zero, Int.toNat_natCast] at hk
    exact hk
  · refine ⟨.i64, (j : Int), rfl, by omega, by omega, ?_⟩
    simp only [bndO, e, Nat.sub_zero, Int.toNat_natCast]
    exact hk
section
variable {w0 w z : World} {As : List Asn} {v : Value} {b : Blk}
/-- An array's first bytes. -/
theorem rd_arr {g n c k : Nat} {a : Vec n} {T : TypeId} (h : Sep w0 z (blk g (Rdr.cells (rVec n) a).toArray T :: As)) (hk : k ≤ n) : RdB z.heap (.slice (some ⟨g, 0, none⟩) k c) (a.1.take k) := by
  have hat : At z.heap g 0 (bvs a.1) := At.blk (cs := Rdr.cells (rVec n) a) h.blk
  have := At.rd (c := c) hat
  rw [a.2] at this
  exact this.take hk c
theorem recBytes_spec (hc : Cub w) (hb : RdB w.heap v b.d) (hh : b.h ≤ maxI) : cal P f_rec_Bytes [bq b v] w fun r w' => ∃ s, r = .tuple #[s, .int .i64 b.chk] ∧ Sep w w' [ownB s b.recO] := by
  refine s_rec_Bytes fun R hR => ?_
  unfold c_rec_Bytes
  refine bxQ (Sep.start w) fun g w1 hs => ?_
  simp only [L_api_Block hs.blk, L_api_Block__Parent hs.blk, L_api_Block__Height hs.blk, L_api_Block__Data hs.blk]
  refine cal_i (bkBytes_spec (hs.rdB hb) hh) ?_
  rintro _ w2 ⟨s2, rfl, hs2⟩
  replace hs2 := hs.join hs2
  simp only [nilc_some, fad_mk, pik_true, pik_false, cnd_true, cnd_false, gif_same, gif_tf, gif_ft, gif_undef, bi_add, bi_sub, bi_mul, bi_eql, bi_neq, bi_lss, bi_leq, bi_gtr, bi_geq, notB_bool, cvi_int, lenS_mk, lenT_mk, ext0, ext1, ext2, nilP_mk, nilS_mk, fldv_agg, jn0_k, jn1_k, jn2_k, jn1_and, jn1_or, ex_some, Option.isNone_some, Option.isNone_none, Bool.false_bne, Bool.bne_true, Bool.bne_false, Bool.true_bne, Bool.not_true, Bool.not_false, Bool.and_true, Bool.true_and, Bool.and_false, Bool.false_and, Bool.or_true, Bool.true_or, Bool.or_false, Bool.false_or, cond_true, cond_false, List.getElem?_toArray, List.getElem?_cons_zero, List.getElem?_cons_succ, Nat.zero_add, Nat.add_zero, Nat.reduceAdd, forall_const]
  rcases Blk.chk_or b with h0 | h0
  · have hck := Blk.chk_ok h0
    have ho : b.out = b.bytes := if_pos h0
    have hro : b.recO = b.rcd := if_pos h0
    have hbl := b.bytes_len
    rw [ho] at hs2
    rw [hro, h0] at hR
    simp only [h0, nilc_some, fad_mk, pik_true, pik_false, cnd_true, cnd_false, gif_same, gif_tf, gif_ft, gif_undef, bi_add, bi_sub, bi_mul, bi_eql, bi_neq, bi_lss, bi_leq, bi_gtr, bi_geq, notB_bool, cvi_int, lenS_mk, lenT_mk, ext0, ext1, ext2, nilP_mk, nilS_mk, fldv_agg, jn0_k, jn1_k, jn2_k, jn1_and, jn1_or, ex_some, Option.isNone_some, Option.isNone_none, Bool.false_bne, Bool.bne_true, Bool.bne_false, Bool.true_bne, Bool.not_true, Bool.not_false, Bool.and_true, Bool.true_and, Bool.and_false, Bool.false_and, Bool.or_true, Bool.true_or, Bool.or_false, Bool.false_or, cond_true, cond_false, List.getElem?_toArray, List.getElem?_cons_zero, List.getElem?_cons_succ, Nat.zero_add, Nat.add_zero, Nat.reduceAdd, forall_const, show ((0 : Int) != 0) = false from rfl]
    refine cal_i (NewS 258 (by omega)) ?_
    rintro _ w3 ⟨gp, rfl, hs3⟩
    replace hs3 := hs2.join hs3
    simp only [nilc_some, fad_mk, pik_true, pik_false, cnd_true, cnd_false, gif_same, gif_tf, gif_ft, gif_undef, bi_add, bi_sub, bi_mul, bi_eql, bi_neq, bi_lss, bi_leq, bi_gtr, bi_geq, notB_bool, cvi_int, lenS_mk, lenT_mk, ext0, ext1, ext2, nilP_mk, nilS_mk, fldv_agg, jn0_k, jn1_k, jn2_k, jn1_and, jn1_or, ex_some, Option.isNone_some, Option.isNone_none, Bool.false_bne, Bool.bne_true, Bool.bne_false, Bool.true_bne, Bool.not_true, Bool.not_false, Bool.and_true, Bool.true_and, Bool.and_false, Bool.false_and, Bool.or_true, Bool.true_or, Bool.or_false, Bool.false_or, cond_true, cond_false, List.getElem?_toArray, List.getElem?_cons_zero, List.getElem?_cons_succ, Nat.zero_add, Nat.add_zero, Nat.reduceAdd, forall_const, (Sep.rd hs2).len]
    rw [wu32i (by omega) (by omega)]
    refine cal_i (IntS hs3 (by omega) (by omega) (by simp)) ?_
    rintro _ w4 ⟨rfl, s4, hs4⟩
    simp only [nilc_some, fad_mk, pik_true, pik_false, cnd_true, cnd_false, gif_same, gif_tf, gif_ft, gif_undef, bi_add, bi_sub, bi_mul, bi_eql, bi_neq, bi_lss, bi_leq, bi_gtr, bi_geq, notB_bool, cvi_int, lenS_mk, lenT_mk, ext0, ext1, ext2, nilP_mk, nilS_mk, fldv_agg, jn0_k, jn1_k, jn2_k, jn1_and, jn1_or, ex_some, Option.isNone_some, Option.isNone_none, Bool.false_bne, Bool.bne_true, Bool.bne_false, Bool.true_bne, Bool.not_true, Bool.not_false, Bool.and_true, Bool.true_and, Bool.and_false, Bool.false_and, Bool.or_true, Bool.true_or, Bool.or_false, Bool.false_or, cond_true, cond_false, List.getElem?_toArray, List.getElem?_cons_zero, List.getElem?_cons_succ, Nat.zero_add, Nat.add_zero, Nat.reduceAdd, forall_const, L_api_Block (Sep.p3 hs4).blk, L_api_Block__Parent (Sep.p3 hs4).blk, L_api_Block__Height (Sep.p3 hs4).blk, L_api_Block__Data (Sep.p3 hs4).blk, u64_h hck.1 hh]
    refine cal_i (LongS hs4 (by omega) (by unfold maxI at hh; omega) (by simp [be_length])) ?_
    rintro _ w5 ⟨rfl, s5, hs5⟩
    refine cal_i (FixedS hs5 (c := b.bytes) (by omega) (fun z hz => hz.rd) (by simp [be_length]; omega)) ?_
    rintro _ w6 ⟨rfl, s6, hs6⟩
    refine cal_i (OutS hs6 (by simp [be_length]; omega)) ?_
    rintro _ w8 ⟨r, rfl, hs8⟩
    have e : [] ++ be 4 b.bytes.length ++ be 8 b.h.toNat ++ b.bytes = b.hd := by simp [Blk.hd]
    rw [e] at hs8
    simp only [nilc_some, fad_mk, pik_true, pik_false, cnd_true, cnd_false, gif_same, gif_tf, gif_ft, gif_undef, bi_add, bi_sub, bi_mul, bi_eql, bi_neq, bi_lss, bi_leq, bi_gtr, bi_geq, notB_bool, cvi_int, lenS_mk, lenT_mk, ext0, ext1, ext2, nilP_mk, nilS_mk, fldv_agg, jn0_k, jn1_k, jn2_k, jn1_and, jn1_or, ex_some, Option.isNone_some, Option.isNone_none, Bool.false_bne, Bool.bne_true, Bool.bne_false, Bool.true_bne, Bool.not_true, Bool.not_false, Bool.and_true, Bool.true_and, Bool.and_false, Bool.false_and, Bool.or_true, Bool.true_or, Bool.or_false, Bool.false_or, cond_true, cond_false, List.getElem?_toArray, List.getElem?_cons_zero, List.getElem?_cons_succ, Nat.zero_add, Nat.add_zero, Nat.reduceAdd, forall_const, show ((0 : Int) != 0) = false from rfl]
    refine cal_i (shaSum_spec (hc.fr hs8.fr0) (Sep.rd hs8) (by rw [Blk.hd_len]; omega)) ?_
    rintro _ w9 ⟨rfl, hf9⟩
    have hs9 := hs8.old hf9
    refine alloc_s hs9 (A_api_ID w9) fun g10 w10 hs10 => ?_
    refine St_api_ID hs10 fun w11 hs11 => ?_
    rw [show (Value.int .i64 8) = .int .i64 ((8 : Nat) : Int) from rfl, sla_to (by omega)]
    refine appB_s S_sl_uint8 U_sl_uint8 (by simp) hs11.p1 (rd_arr (k := 8) hs11 (by omega)) (by rw [Blk.hd_len, List.length_take]; omega) fun s12 w12 hs12 => ?_
    exact hR _ _ ⟨s12, rfl, Sep.dropR (As := [ownB s12 b.rcd]) hs12⟩
  · have hro : b.recO = [] := by rw [Blk.recO, if_neg (by omega)]
    rw [hro, h0] at hR
    simp only [h0, nilc_some, fad_mk, pik_true, pik_false, cnd_true, cnd_false, gif_same, gif_tf, gif_ft, gif_undef, bi_add, bi_sub, bi_mul, bi_eql, bi_neq, bi_lss, bi_leq, bi_gtr, bi_geq, notB_bool, cvi_int, lenS_mk, lenT_mk, ext0, ext1, ext2, nilP_mk, nilS_mk, fldv_agg, jn0_k, jn1_k, jn2_k, jn1_and, jn1_or, ex_some, Option.isNone_some, Option.isNone_none, Bool.false_bne, Bool.bne_true, Bool.bne_false, Bool.true_bne, Bool.not_true, Bool.not_false, Bool.and_true, Bool.true_and, Bool.and_false, Bool.false_and, Bool.or_true, Bool.true_or, Bool.or_false, Bool.false_or, cond_true, cond_false, List.getElem?_toArray, List.getElem?_cons_zero, List.getElem?_cons_succ, Nat.zero_add, Nat.add_zero, Nat.reduceAdd, forall_const, show ((30 : Int) != 0) = true from rfl]
    exact hR _ _ ⟨_, rfl, (Sep.start w).old hs2.fr0 |>.nil⟩
theorem rRecBytes_spec (hb : RdB w.heap v b.d) (hh : b.h ≤ maxI) : cal P f_ref09_Bytes [bq b v] w fun r w' => ∃ s, r = .tuple #[s, .int .i64 b.chk] ∧ Sep w w' [ownB s b.recO] := by
  refine s_ref09_Bytes fun R hR => ?_
  unfold c_ref09_Bytes
  refine bxQ (Sep.start w) fun g w1 hs => ?_
  simp only [L_api_Block hs.blk, L_api_Block__Parent hs.blk, L_api_Block__Height hs.blk, L_api_Block__Data hs.blk]
  refine cal_i (rbBytes_spec (hs.rdB hb) hh) ?_
  rintro _ w2 ⟨s2, rfl, hs2⟩
  replace hs2 := hs.join hs2
  simp only [nilc_some, fad_mk, pik_true, pik_false, cnd_true, cnd_false, gif_same, gif_tf, gif_ft, gif_undef, bi_add, bi_sub, bi_mul, bi_eql, bi_neq, bi_lss, bi_leq, bi_gtr, bi_geq, notB_bool, cvi_int, lenS_mk, lenT_mk, ext0, ext1, ext2, nilP_mk, nilS_mk, fldv_agg, jn0_k, jn1_k, jn2_k, jn1_and, jn1_or, ex_some, Option.isNone_some, Option.isNone_none, Bool.false_bne, Bool.bne_true, Bool.bne_false, Bool.true_bne, Bool.not_true, Bool.not_false, Bool.and_true, Bool.true_and, Bool.and_false, Bool.false_and, Bool.or_true, Bool.true_or, Bool.or_false, Bool.false_or, cond_true, cond_false, List.getElem?_toArray, List.getElem?_cons_zero, List.getElem?_cons_succ, Nat.zero_add, Nat.add_zero, Nat.reduceAdd, forall_const]
  rcases Blk.chk_or b with h0 | h0
  · have hck := Blk.chk_ok h0
    have ho : b.out = b.bytes := if_pos h0
    have hro : b.recO = b.rcd := if_pos h0
    have hbl := b.bytes_len
    rw [ho] at hs2
    rw [hro, h0] at hR
    simp only [h0, nilc_some, fad_mk, pik_true, pik_false, cnd_true, cnd_false, gif_same, gif_tf, gif_ft, gif_undef, bi_add, bi_sub, bi_mul, bi_eql, bi_neq, bi_lss, bi_leq, bi_gtr, bi_geq, notB_bool, cvi_int, lenS_mk, lenT_mk, ext0, ext1, ext2, nilP_mk, nilS_mk, fldv_agg, jn0_k, jn1_k, jn2_k, jn1_and, jn1_or, ex_some, Option.isNone_some, Option.isNone_none, Bool.false_bne, Bool.bne_true, Bool.bne_false, Bool.true_bne, Bool.not_true, Bool.not_false, Bool.and_true, Bool.true_and, Bool.and_false, Bool.false_and, Bool.or_true, Bool.true_or, Bool.or_false, Bool.false_or, cond_true, cond_false, List.getElem?_toArray, List.getElem?_cons_zero, List.getElem?_cons_succ, Nat.zero_add, Nat.add_zero, Nat.reduceAdd, forall_const, show ((0 : Int) != 0) = false from rfl, (Sep.rd hs2).len]
    rw [wu64i (by omega) (by omega)]
    refine drH_S hs2 fun w3 hs3 _ => ?_
    refine rdS_ld (v := .int .i64 b.h) (fun u hu K hk => (L_api_Block__Height (Sep.p1 hu).blk K).mpr hk) ?_
    simp only [nilc_some, fad_mk, pik_true, pik_false, cnd_true, cnd_false, gif_same, gif_tf, gif_ft, gif_undef, bi_add, bi_sub, bi_mul, bi_eql, bi_neq, bi_lss, bi_leq, bi_gtr, bi_geq, notB_bool, cvi_int, lenS_mk, lenT_mk, ext0, ext1, ext2, nilP_mk, nilS_mk, fldv_agg, jn0_k, jn1_k, jn2_k, jn1_and, jn1_or, ex_some, Option.isNone_some, Option.isNone_none, Bool.false_bne, Bool.bne_true, Bool.bne_false, Bool.true_bne, Bool.not_true, Bool.not_false, Bool.and_true, Bool.true_and, Bool.and_false, Bool.false_and, Bool.or_true, Bool.true_or, Bool.or_false, Bool.false_or, cond_true, cond_false, List.getElem?_toArray, List.getElem?_cons_zero, List.getElem?_cons_succ, Nat.zero_add, Nat.add_zero, Nat.reduceAdd, forall_const, u64_h hck.1 hh]
    refine efS_i (cal_i (rNumS (n := 4) (by omega) (by omega)) ?_)
    rintro t4 w4 hs4
    replace hs4 := hs3.join hs4
    refine ⟨hs4.tail, ?_⟩
    refine efC_calA (w0 := w) (As := ownB t4 (be 4 b.bytes.length) :: [ownB s2 b.bytes, bb g b v]) (cal_i (rNumS (n := 8) (by omega) (by unfold maxI at hh; omega)) ?_)
    rintro t5 w5 hs5
    replace hs5 := hs4.join hs5
    refine ⟨hs5.tail, ?_⟩
    refine efC_efP (appB_s S_sl_uint8 U_sl_uint8 (by simp) hs5.p1 (Sep.rd hs5) (by simp [be_length]) fun s6 w6 hs6 => ?_)
    refine appB_s S_sl_uint8 U_sl_uint8 (by simp) hs6 (Sep.rd hs6.p2) (by simp [be_length]; omega) fun s7 w7 hs7 => ?_
    have e : be 4 b.bytes.length ++ be 8 b.h.toNat ++ b.bytes = b.hd := rfl
    rw [e] at hs7
    refine cal_i (rSum_spec (Sep.rd hs7) (by rw [Blk.hd_len]; omega)) ?_
    rintro _ w8 ⟨rfl, hf8⟩
    have hs8 := hs7.old hf8
    refine alloc_s hs8 (A_api_ID w8) fun g9 w9 hs9 => ?_
    refine St_api_ID hs9 fun w10 hs10 => ?_
    have hs11 : Sep w w10 [ownB s7 b.hd, blk g9 (Rdr.cells (rVec 32) (shaM b.hd)).toArray T_api_ID] := (Sep.dropR (As := [blk g9 (Rdr.cells (rVec 32) (shaM b.hd)).toArray T_api_ID, ownB s7 b.hd]) hs10).p1
    have h32 := (shaM b.hd).2
    have hhl := b.hd_len
    refine ⟨fun x y w' => ∃ i : Nat, y = .int .i64 i ∧ i ≤ 8 ∧ Sep w w' [ownB x (b.hd ++ (shaM b.hd).1.take i), blk g9 (Rdr.cells (rVec 32) (shaM b.hd)).toArray T_api_ID], fun _ y _ => (8 - RowKit.intOf y).toNat, ⟨0, rfl, by omega, by simpa using hs11⟩, ?_⟩
    rintro s12 _ w12 ⟨i, rfl, hi, hs12⟩ -
    simp only [nilc_some, fad_mk, pik_true, pik_false, cnd_true, cnd_false, gif_same, gif_tf, gif_ft, gif_undef, bi_add, bi_sub, bi_mul, bi_eql, bi_neq, bi_lss, bi_leq, bi_gtr, bi_geq, notB_bool, cvi_int, lenS_mk, lenT_mk, ext0, ext1, ext2, nilP_mk, nilS_mk, fldv_agg, jn0_k, jn1_k, jn2_k, jn1_and, jn1_or, ex_some, Option.isNone_some, Option.isNone_none, Bool.false_bne, Bool.bne_true, Bool.bne_false, Bool.true_bne, Bool.not_true, Bool.not_false, Bool.and_true, Bool.true_and, Bool.and_false, Bool.false_and, Bool.or_true, Bool.true_or, Bool.or_false, Bool.false_or, cond_true, cond_false, List.getElem?_toArray, List.getElem?_cons_zero, List.getElem?_cons_succ, Nat.zero_add, Nat.add_zero, Nat.reduceAdd, forall_const]
    rw [cnd_bool]
    refine ⟨fun h => ?_, fun h => ?_⟩
    · have hlt : i < 8 := by simp at h; omega
      rw [ixa_w .i64 (by omega)]
      have hat : At w12.heap g9 0 (bvs (shaM b.hd).1) := At.blk (cs := Rdr.cells (rVec 32) (shaM b.hd)) (Sep.p1 hs12).blk
      have hld := At.byte hat (i := i) (by omega) 
      rw [Nat.zero_add] at hld
      rw [hld]
      refine app1 hs12 (by simp; omega) fun s13 w13 hs13 => ?_
      rw [wi64 (by omega) (by omega)]
      refine ⟨⟨i + 1, by simp, by omega, ?_⟩, by simp [RowKit.intOf]; omega⟩
      rw [List.take_succ_eq_append_getElem (by omega), ← List.append_assoc]
      exact hs13
    · have h8 : i = 8 := by simp at h; omega
      subst h8
      exact hR _ _ ⟨s12, rfl, Sep.dropR (As := [ownB s12 b.rcd]) hs12⟩
  · have hro : b.recO = [] := by rw [Blk.recO, if_neg (by omega)]
    rw [hro, h0] at hR
    simp only [h0, nilc_some, fad_mk, pik_true, pik_false, cnd_true, cnd_false, gif_same, gif_tf, gif_ft, gif_undef, bi_add, bi_sub, bi_mul, bi_eql, bi_neq, bi_lss, bi_leq, bi_gtr, bi_geq, notB_bool, cvi_int, lenS_mk, lenT_mk, ext0, ext1, ext2, nilP_mk, nilS_mk, fldv_agg, jn0_k, jn1_k, jn2_k, jn1_and, jn1_or, ex_some, Option.isNone_some, Option.isNone_none, Bool.false_bne, Bool.bne_true, Bool.bne_false, Bool.true_bne, Bool.not_true, Bool.not_false, Bool.and_true, Bool.true_and, Bool.and_false, Bool.false_and, Bool.or_true, Bool.true_or, Bool.or_false, Bool.false_or, cond_true, cond_false, List.getElem?_toArray, List.getElem?_cons_zero, List.getElem?_cons_succ, Nat.zero_add, Nat.add_zero, Nat.reduceAdd, forall_const, show ((30 : Int) != 0) = true from rfl]
    exact hR _ _ ⟨_, rfl, (Sep.start w).old hs2.fr0 |>.nil⟩
theorem recSize_spec (hb : RdB w.heap v b.d) : cal P f_rec_Size [bq b v] w fun r w' => r = .int .i64 b.recO.length ∧ Fr [] w w' := by
  refine s_rec_Size fun R hR => ?_
  unfold c_rec_Size
  refine bxQ (Sep.start w) fun g w1 hs => ?_
  simp only [L_api_Block hs.blk, L_api_Block__Parent hs.blk, L_api_Block__Height hs.blk, L_api_Block__Data hs.blk]
  refine cal_i (Check_spec (hs.rdB hb)) ?_
  rintro _ w2 ⟨rfl, hf2⟩
  have hs2 := hs.old hf2
  simp only [nilc_some, fad_mk, pik_true, pik_false, cnd_true, cnd_false, gif_same, gif_tf, gif_ft, gif_undef, bi_add, bi_sub, bi_mul, bi_eql, bi_neq, bi_lss, bi_leq, bi_gtr, bi_geq, notB_bool, cvi_int, lenS_mk, lenT_mk, ext0, ext1, ext2, nilP_mk, nilS_mk, fldv_agg, jn0_k, jn1_k, jn2_k, jn1_and, jn1_or, ex_some, Option.isNone_some, Option.isNone_none, Bool.false_bne, Bool.bne_true, Bool.bne_false, Bool.true_bne, Bool.not_true, Bool.not_false, Bool.and_true, Bool.true_and, Bool.and_false, Bool.false_and, Bool.or_true, Bool.true_or, Bool.or_false, Bool.false_or, cond_true, cond_false, List.getElem?_toArray, List.getElem?_cons_zero, List.getElem?_cons_succ, Nat.zero_add, Nat.add_zero, Nat.reduceAdd, forall_const]
  rw [Blk.recO_len] at hR
  rcases Blk.chk_or b with h0 | h0
  · have hck := Blk.chk_ok h0
    rw [if_pos h0] at hR
    simp only [h0, nilc_some, fad_mk, pik_true, pik_false, cnd_true, cnd_false, gif_same, gif_tf, gif_ft, gif_undef, bi_add, bi_sub, bi_mul, bi_eql, bi_neq, bi_lss, bi_leq, bi_gtr, bi_geq, notB_bool, cvi_int, lenS_mk, lenT_mk, ext0, ext1, ext2, nilP_mk, nilS_mk, fldv_agg, jn0_k, jn1_k, jn2_k, jn1_and, jn1_or, ex_some, Option.isNone_some, Option.isNone_none, Bool.false_bne, Bool.bne_true, Bool.bne_false, Bool.true_bne, Bool.not_true, Bool.not_false, Bool.and_true, Bool.true_and, Bool.and_false, Bool.false_and, Bool.or_true, Bool.true_or, Bool.or_false, Bool.false_or, cond_true, cond_false, List.getElem?_toArray, List.getElem?_cons_zero, List.getElem?_cons_succ, Nat.zero_add, Nat.add_zero, Nat.reduceAdd, forall_const, show ((0 : Int) != 0) = false from rfl, L_api_Block hs2.blk, L_api_Block__Parent hs2.blk, L_api_Block__Height hs2.blk, L_api_Block__Data hs2.blk, (hs2.rdB hb).len]
    refine hR _ _ ⟨?_, hs2.fr0⟩
    rw [wi64 (x := 58 + (b.d.length : Int)) (by omega) (by omega), wi64 (by omega) (by omega)]
    congr 1
    omega
  · rw [if_neg (by omega)] at hR
    simp only [h0, nilc_some, fad_mk, pik_true, pik_false, cnd_true, cnd_false, gif_same, gif_tf, gif_ft, gif_undef, bi_add, bi_sub, bi_mul, bi_eql, bi_neq, bi_lss, bi_leq, bi_gtr, bi_geq, notB_bool, cvi_int, lenS_mk, lenT_mk, ext0, ext1, ext2, nilP_mk, nilS_mk, fldv_agg, jn0_k, jn1_k, jn2_k, jn1_and, jn1_or, ex_some, Option.isNone_some, Option.isNone_none, Bool.false_bne, Bool.bne_true, Bool.bne_false, Bool.true_bne, Bool.not_true, Bool.not_false, Bool.and_true, Bool.true_and, Bool.and_false, Bool.false_and, Bool.or_true, Bool.true_or, Bool.or_false, Bool.false_or, cond_true, cond_false, List.getElem?_toArray, List.getElem?_cons_zero, List.getElem?_cons_succ, Nat.zero_add, Nat.add_zero, Nat.reduceAdd, forall_const, show ((30 : Int) != 0) = true from rfl]
    exact hR _ _ ⟨rfl, hs2.fr0⟩
theorem rRecSize_spec (hb : RdB w.heap v b.d) (hh : b.h ≤ maxI) : cal P f_ref09_Size [bq b v] w fun r w' => r = .int .i64 b.recO.length ∧ Fr [] w w' := by
  refine s_ref09_Size fun R hR => ?_
  unfold c_ref09_Size
  refine bxQ (Sep.start w) fun g w1 hs => ?_
  simp only [L_api_Block hs.blk, L_api_Block__Parent hs.blk, L_api_Block__Height hs.blk, L_api_Block__Data hs.blk]
  refine cal_i (rRecBytes_spec (hs.rdB hb) hh) ?_
  rintro _ w2 ⟨s2, rfl, hs2⟩
  replace hs2 := hs.join hs2
  simp only [nilc_some, fad_mk, pik_true, pik_false, cnd_true, cnd_false, gif_same, gif_tf, gif_ft, gif_undef, bi_add, bi_sub, bi_mul, bi_eql, bi_neq, bi_lss, bi_leq, bi_gtr, bi_geq, notB_bool, cvi_int, lenS_mk, lenT_mk, ext0, ext1, ext2, nilP_mk, nilS_mk, fldv_agg, jn0_k, jn1_k, jn2_k, jn1_and, jn1_or, ex_some, Option.isNone_some, Option.isNone_none, Bool.false_bne, Bool.bne_true, Bool.bne_false, Bool.true_bne, Bool.not_true, Bool.not_false, Bool.and_true, Bool.true_and, Bool.and_false, Bool.false_and, Bool.or_true, Bool.true_or, Bool.or_false, Bool.false_or, cond_true, cond_false, List.getElem?_toArray, List.getElem?_cons_zero, List.getElem?_cons_succ, Nat.zero_add, Nat.add_zero, Nat.reduceAdd, forall_const, (Sep.rd hs2).len]
  exact hR _ _ ⟨rfl, hs2.fr0⟩
end
end Go.Fx
set_option linter.unusedVariables false
set_option linter.unusedSimpArgs false
namespace Go.Fx
def gpay (r : List UInt8) (n : Nat) : List UInt8 := (r.drop 12).take n
def goodR (r : List UInt8) (n : Nat) : Prop := okP (gpay r n) ∧ (parB (gpay r n)).rcd = r.take (20 + n)
instance (r : List UInt8) (n : Nat) : Decidable (goodR r n) := by unfold goodR; infer_instance
/-- What stands at the beginning of r, and how many bytes it has; its error. -/
def takeR (r : List UInt8) : Blk × Nat × Int :=
  if r.length < 12 then (Blk.none, 0, 11)
  else if 246 < ofBe (r.take 4) then (Blk.none, 0, 90)
  else if r.length < 20 + ofBe (r.take 4) then (Blk.none, 0, 11)
  else if goodR r (ofBe (r.take 4)) then (parB (gpay r (ofBe (r.take 4))), 20 + ofBe (r.take 4), 0) else (Blk.none, 0, 90)
def takeX (l : List UInt8) (a : Int) : Blk × Int × Int :=
  if a < 0 ∨ (l.length : Int) < a then (Blk.none, 0, 1)
  else ((takeR (l.drop a.toNat)).1, (if (takeR (l.drop a.toNat)).2.2 = 0 then a + (takeR (l.drop a.toNat)).2.1 else 0), (takeR (l.drop a.toNat)).2.2)
theorem cut_rec {r : List UInt8} {n : Nat} : r.take (20 + n) = r.take 4 ++ (r.drop 4).take 8 ++ gpay r n ++ (r.drop (12 + n)).take 8 := by
  have h1 : r.take (20 + n) = r.take 4 ++ (r.drop 4).take (8 + (n + 8)) := by rw [← List.take_add]; congr 1; omega
  have h2 : (r.drop 4).take (8 + (n + 8)) = (r.drop 4).take 8 ++ (r.drop 12).take (n + 8) := by rw [List.take_add, List.drop_drop]
  have h3 : (r.drop 12).take (n + 8) = gpay r n ++ (r.drop (12 + n)).take 8 := by rw [List.take_add, List.drop_drop]; rfl
  rw [h1, h2, h3]
  simp only [List.append_assoc]
theorem cut_hd {r : List UInt8} {n : Nat} : r.take (12 + n) = r.take 4 ++ (r.drop 4).take 8 ++ gpay r n := by
  have h1 : r.take (12 + n) = r.take 4 ++ (r.drop 4).take (8 + n) := by rw [← List.take_add]; congr 1; omega
  have h2 : (r.drop 4).take (8 + n) = (r.drop 4).take 8 ++ (r.drop 12).take n := by rw [List.take_add, List.drop_drop]
  rw [h1, h2]
  simp only [gpay, List.append_assoc]
theorem good_iff {r : List UInt8} (hl : 20 + ofBe (r.take 4) ≤ r.length) (hok : okP (gpay r (ofBe (r.take 4)))) :
    (parB (gpay r (ofBe (r.take 4)))).rcd = r.take (20 + ofBe (r.take 4)) ↔ (parB (gpay r (ofBe (r.take 4)))).h.toNat = ofBe ((r.drop 4).take 8) ∧ tail8 (r.take (12 + ofBe (r.take 4))) = (r.drop (12 + ofBe (r.take 4))).take 8 := by
  have h4 : (r.take 4).length = 4 := by simp; omega
  have h8 : ((r.drop 4).take 8).length = 8 := by simp; omega
  have hb4 := be_ofBe (r.take 4)
  have hb8 := be_ofBe ((r.drop 4).take 8)
  rw [h4] at hb4
  rw [h8] at hb8
  generalize hn : ofBe (r.take 4) = n at *
  have hp : (gpay r n).length = n := by simp [gpay]; omega
  have hx : (parB (gpay r n)).bytes = gpay r n := hok.2.2.2
  have hh : (parB (gpay r n)).h ≤ maxI := hok.2.1
  generalize parB (gpay r n) = x at *
  have hhd : x.hd = r.take 4 ++ be 8 x.h.toNat ++ gpay r n := by unfold Blk.hd; rw [hx, hp, hb4]
  unfold Blk.rcd
  rw [hhd, cut_rec, cut_hd]
  constructor
  · intro h
    have h1 := List.append_inj h (by simp only [List.length_append, be_length, h8])
    have h2 := List.append_inj h1.1 (by simp only [List.length_append, be_length, h8])
    have h3 := (List.append_inj h2.1 rfl).2
    refine ⟨?_, ?_⟩
    · have := congrArg ofBe h3
      rw [ofBe_b8 (by unfold maxI at hh; omega)] at this
      exact this
    · rw [← h3]; exact h1.2
  · rintro ⟨h1, h2⟩
    have h3 : be 8 x.h.toNat = (r.drop 4).take 8 := by rw [h1, hb8]
    rw [h3, h2]
theorem goodR_iff {r : List UInt8} (hl : 20 + ofBe (r.take 4) ≤ r.length) : goodR r (ofBe (r.take 4)) ↔ okP (gpay r (ofBe (r.take 4))) ∧ (parB (gpay r (ofBe (r.take 4)))).h.toNat = ofBe ((r.drop 4).take 8) ∧ tail8 (r.take (12 + ofBe (r.take 4))) = (r.drop (12 + ofBe (r.take 4))).take 8 := by
  constructor
  · rintro ⟨h1, h2⟩
    exact ⟨h1, (good_iff hl h1).1 h2⟩
  · rintro ⟨h1, h2⟩
    exact ⟨h1, (good_iff hl h1).2 h2⟩
section
variable {w0 w : World} {As : List Asn} {v : Value} {l : List UInt8} {a : Int}
abbrev nb (g : Nat) : Asn := blk g (Rdr.cells Q_api_Block (vz 32, (0 : Int), Value.slice Option.none 0 0)).toArray T_api_Block
theorem recTake_spec (hc : Cub w) (hb : RdB w.heap v l) (hcap : capOk v) (hl : l.length ≤ 9223372036854775807) (ha : -9223372036854775808 ≤ a ∧ a ≤ 9223372036854775807) : cal P f_rec_Take [v, .int .i64 a] w fun r w' =>
    ∃ v', r = .tuple #[bq (takeX l a).1 v', .int .i64 (takeX l a).2.1, .int .i64 (takeX l a).2.2] ∧ Sep w w' [ownB v' (takeX l a).1.d] := by
  refine s_rec_Take fun R hR => ?_
  unfold c_rec_Take
  refine alloc_s (Sep.start w) (A_api_Block w) fun g2 w1 hs1 => ?_
  have bad : ∀ {z : World} {Bs : List Asn} {c : Int}, Sep w z (nb g2 :: Bs) → takeX l a = (Blk.none, 0, c) → rdP P (Instr.build T_api_Block #[]) z fun t52 => stN 34 (.pointer (some ⟨g2, 0, none⟩)) t52 z fun w => ldN 34 (.pointer (some ⟨g2, 0, none⟩)) w.heap fun r1 => R (.tuple #[r1, .int .i64 0, .int .i64 c]) w := fun {z Bs c} h hp => by
    rw [B_api_Block]
    refine St_api_Block h (one_api_Block rfl) fun w10 hs10 => ?_
    simp only [L_api_Block hs10.blk, L_api_Block__Parent hs10.blk, L_api_Block__Height hs10.blk, L_api_Block__Data hs10.blk]
    rw [hp] at hR
    exact hR _ _ ⟨.slice none 0 0, rfl, ((Sep.start w).old hs10.fr0).nil⟩
  simp only [nilc_some, fad_mk, pik_true, pik_false, cnd_true, cnd_false, gif_same, gif_tf, gif_ft, gif_undef, bi_add, bi_sub, bi_mul, bi_eql, bi_neq, bi_lss, bi_leq, bi_gtr, bi_geq, notB_bool, cvi_int, lenS_mk, lenT_mk, ext0, ext1, ext2, nilP_mk, nilS_mk, fldv_agg, jn0_k, jn1_k, jn2_k, jn1_and, jn1_or, ex_some, Option.isNone_some, Option.isNone_none, Bool.false_bne, Bool.bne_true, Bool.bne_false, Bool.true_bne, Bool.not_true, Bool.not_false, Bool.and_true, Bool.true_and, Bool.and_false, Bool.false_and, Bool.or_true, Bool.true_or, Bool.or_false, Bool.false_or, cond_true, cond_false, List.getElem?_toArray, List.getElem?_cons_zero, List.getElem?_cons_succ, Nat.zero_add, Nat.add_zero, Nat.reduceAdd, forall_const, hb.len]
  rw [cnd_bool]
  refine ⟨fun h => ?_, fun h => ?_⟩
  · simp only [Bool.or_eq_true, decide_eq_true_eq] at h
    refine bad hs1 ?_
    unfold takeX
    rw [if_pos (by omega)]
  simp only [Bool.or_eq_false_iff, decide_eq_false_iff_not] at h
  obtain ⟨i, rfl⟩ := Int.eq_ofNat_of_zero_le (show 0 ≤ a by omega)
  have hx : takeX l (i : Int) = ((takeR (l.drop i)).1, (if (takeR (l.drop i)).2.2 = 0 then (i : Int) + (takeR (l.drop i)).2.1 else 0), (takeR (l.drop i)).2.2) := by unfold takeX; rw [if_neg (by omega)]; rfl
  have hil : i ≤ l.length := by omega
  obtain ⟨av, cv, rfl⟩ := hb.form
  have hcv : l.length ≤ cv := hcap _ _ _ rfl
  rw [slc_from hil]
  have hr0 : ∀ {z : World} {Bs : List Asn}, Sep w z Bs → RdB z.heap (.slice (if cv = i then av else av.map (·.add (i * 1))) (l.length - i) (cv - i)) (l.drop i) := fun {z Bs} hz => (hz.rdB hb).drop (k := i) hil hcv (cv - i)
  generalize (if cv = i then av else av.map (·.add (i * 1))) = ar at *
  have hrl : l.length - i = (l.drop i).length := by simp
  rw [hrl] at hr0 ⊢
  obtain ⟨rc, hrc⟩ : ∃ rc, rc = cv - i := ⟨_, rfl⟩
  rw [← hrc] at hr0 ⊢
  have hrcl : (l.drop i).length ≤ rc := by simp; omega
  have hrm : i + (l.drop i).length ≤ 9223372036854775807 := by simp; omega
  generalize l.drop i = r at *
  clear hrl hrc
  simp only [nilc_some, fad_mk, pik_true, pik_false, cnd_true, cnd_false, gif_same, gif_tf, gif_ft, gif_undef, bi_add, bi_sub, bi_mul, bi_eql, bi_neq, bi_lss, bi_leq, bi_gtr, bi_geq, notB_bool, cvi_int, lenS_mk, lenT_mk, ext0, ext1, ext2, nilP_mk, nilS_mk, fldv_agg, jn0_k, jn1_k, jn2_k, jn1_and, jn1_or, ex_some, Option.isNone_some, Option.isNone_none, Bool.false_bne, Bool.bne_true, Bool.bne_false, Bool.true_bne, Bool.not_true, Bool.not_false, Bool.and_true, Bool.true_and, Bool.and_false, Bool.false_and, Bool.or_true, Bool.true_or, Bool.or_false, Bool.false_or, cond_true, cond_false, List.getElem?_toArray, List.getElem?_cons_zero, List.getElem?_cons_succ, Nat.zero_add, Nat.add_zero, Nat.reduceAdd, forall_const]
  rw [cnd_bool]
  refine ⟨fun h => ?_, fun h12 => ?_⟩
  · refine bad hs1 ?_
    have : r.length < 12 := by simp at h; omega
    rw [hx]; unfold takeR; rw [if_pos this]; rfl
  have h12 : ¬ r.length < 12 := by simp at h12; omega
  rw [show (Value.int .i64 4) = .int .i64 ((4 : Nat) : Int) from rfl, slc_to (by omega)]
  have h4 : (r.take 4).length = 4 := by simp; omega
  refine cal_i (ReadS ((hr0 hs1).take (k := 4) (by omega) rc) (by omega)) ?_
  rintro _ w2 ⟨gu, s2, rfl, hs2⟩
  replace hs2 := hs1.join hs2
  refine cal_i (uIntS hs2) ?_
  rintro _ w3 ⟨rfl, s3, hs3⟩
  have hs3 : Sep w w3 [nb g2] := hs3.tail.tail
  have et : (tk 4 (r.take 4) 0).1 = r.take 4 := by unfold tk; rw [if_pos rfl, if_neg (by omega)]; exact List.take_of_length_le (Nat.le_of_eq h4)
  rw [et]
  have hn4 := ofBe_lt (r.take 4)
  rw [h4] at hn4
  obtain ⟨n, hn⟩ : ∃ n, n = ofBe (r.take 4) := ⟨_, rfl⟩
  rw [← hn] at hn4 ⊢
  have hR4 : takeR r = if 246 < n then (Blk.none, 0, 90) else if r.length < 20 + n then (Blk.none, 0, 11) else if goodR r n then (parB (gpay r n), 20 + n, 0) else (Blk.none, 0, 90) := by unfold takeR; rw [if_neg h12, ← hn]
  simp only [nilc_some, fad_mk, pik_true, pik_false, cnd_true, cnd_false, gif_same, gif_tf, gif_ft, gif_undef, bi_add, bi_sub, bi_mul, bi_eql, bi_neq, bi_lss, bi_leq, bi_gtr, bi_geq, notB_bool, cvi_int, lenS_mk, lenT_mk, ext0, ext1, ext2, nilP_mk, nilS_mk, fldv_agg, jn0_k, jn1_k, jn2_k, jn1_and, jn1_or, ex_some, Option.isNone_some, Option.isNone_none, Bool.false_bne, Bool.bne_true, Bool.bne_false, Bool.true_bne, Bool.not_true, Bool.not_false, Bool.and_true, Bool.true_and, Bool.and_false, Bool.false_and, Bool.or_true, Bool.true_or, Bool.or_false, Bool.false_or, cond_true, cond_false, List.getElem?_toArray, List.getElem?_cons_zero, List.getElem?_cons_succ, Nat.zero_add, Nat.add_zero, Nat.reduceAdd, forall_const]
  rw [cnd_bool]
  refine ⟨fun h => ?_, fun h246 => ?_⟩
  · refine bad hs3 ?_
    have : 246 < n := by simp at h; omega
    rw [hx, hR4, if_pos this]; rfl
  have h246 : ¬ 246 < n := by simp at h246; omega
  rw [if_neg h246] at hR4
  have e1 : IntKind.i64.wrap (12 + IntKind.i64.wrap (n : Int)) = ((12 + n : Nat) : Int) := by rw [wi64 (x := (n : Int)) (by omega) (by omega), wi64 (by omega) (by omega)]; omega
  have e2 : IntKind.i64.wrap (((12 + n : Nat) : Int) + 8) = ((20 + n : Nat) : Int) := by rw [wi64 (by omega) (by omega)]; omega
  simp only [e1, e2, nilc_some, fad_mk, pik_true, pik_false, cnd_true, cnd_false, gif_same, gif_tf, gif_ft, gif_undef, bi_add, bi_sub, bi_mul, bi_eql, bi_neq, bi_lss, bi_leq, bi_gtr, bi_geq, notB_bool, cvi_int, lenS_mk, lenT_mk, ext0, ext1, ext2, nilP_mk, nilS_mk, fldv_agg, jn0_k, jn1_k, jn2_k, jn1_and, jn1_or, ex_some, Option.isNone_some, Option.isNone_none, Bool.false_bne, Bool.bne_true, Bool.bne_false, Bool.true_bne, Bool.not_true, Bool.not_false, Bool.and_true, Bool.true_and, Bool.and_false, Bool.false_and, Bool.or_true, Bool.true_or, Bool.or_false, Bool.false_or, cond_true, cond_false, List.getElem?_toArray, List.getElem?_cons_zero, List.getElem?_cons_succ, Nat.zero_add, Nat.add_zero, Nat.reduceAdd, forall_const]
  rw [cnd_bool]
  refine ⟨fun h => ?_, fun h20 => ?_⟩
  · refine bad hs3 ?_
    have : r.length < 20 + n := by simp at h; omega
    rw [hx, hR4, if_pos this]; rfl
  have h20 : ¬ r.length < 20 + n := by simp at h20; omega
  rw [if_neg h20] at hR4
  rw [show (Value.int .i64 12) = .int .i64 ((12 : Nat) : Int) from rfl, slc_mid (by omega) (by omega)]
  have hpay : ∀ {z : World} {Bs : List Asn}, Sep w z Bs → RdB z.heap (.slice (if rc = 12 then ar else ar.map (·.add (12 * 1))) (12 + n - 12) (rc - 12)) (gpay r n) := fun {z Bs} hz => by
    have := RdB.mid (i := 12) (j := 12 + n) (hr0 hz) hrcl (by omega) (by omega)
    rw [Nat.add_sub_cancel_left] at this
    rw [Nat.add_sub_cancel_left]
    exact this
  refine cal_i (Parse_spec (hpay hs3)) ?_
  rintro _ w4 ⟨v4, rfl, hs4⟩
  replace hs4 := hs3.join hs4
  simp only [nilc_some, fad_mk, pik_true, pik_false, cnd_true, cnd_false, gif_same, gif_tf, gif_ft, gif_undef, bi_add, bi_sub, bi_mul, bi_eql, bi_neq, bi_lss, bi_leq, bi_gtr, bi_geq, notB_bool, cvi_int, lenS_mk, lenT_mk, ext0, ext1, ext2, nilP_mk, nilS_mk, fldv_agg, jn0_k, jn1_k, jn2_k, jn1_and, jn1_or, ex_some, Option.isNone_some, Option.isNone_none, Bool.false_bne, Bool.bne_true, Bool.bne_false, Bool.true_bne, Bool.not_true, Bool.not_false, Bool.and_true, Bool.true_and, Bool.and_false, Bool.false_and, Bool.or_true, Bool.true_or, Bool.or_false, Bool.false_or, cond_true, cond_false, List.getElem?_toArray, List.getElem?_cons_zero, List.getElem?_cons_succ, Nat.zero_add, Nat.add_zero, Nat.reduceAdd, forall_const]
  refine alloc_s hs4 (A_api_Block w4) fun g5 w5 hs5 => ?_
  refine St_api_Block hs5 (one_api_Block (Sep.one hs5.p1)) fun w6 hs6 => ?_
  rw [slc_to (by omega)]
  refine cal_i (shaSum_spec (hc.fr hs6.fr0) ((hr0 hs6).take (k := 12 + n) (by omega) rc) (by simp; omega)) ?_
  rintro _ w7 ⟨rfl, hf7⟩
  have hs7 := hs6.old hf7
  refine alloc_s hs7 (A_api_ID w7) fun g8 w8 hs8 => ?_
  refine St_api_ID hs8 fun w9 hs9 => ?_
  have gI := goodR_iff (r := r) (by rw [← hn]; omega)
  rw [← hn] at gI
  have e3 : IntKind.i64.wrap (IntKind.i64.wrap ((i : Int) + ((12 + n : Nat) : Int)) + 8) = (i : Int) + ((20 + n : Nat) : Int) := by
    rw [wi64 (x := (i : Int) + ((12 + n : Nat) : Int)) (by omega) (by omega), wi64 (by omega) (by omega)]; omega
  have hng : ¬ goodR r n → takeX l (i : Int) = (Blk.none, 0, 90) := fun hg => by rw [hx, hR4, if_neg hg]; rfl
  replace hs9 : Sep w w9 [blk g8 (Rdr.cells (rVec 32) (shaM (r.take (12 + n)))).toArray T_api_ID, bb g5 (parse (gpay r n)) v4, ownB v4 (parse (gpay r n)).d, nb g2] := hs9
  refine drH_S hs9 fun w10 hs10 _ => ?_
  by_cases hok : okP (gpay r n)
  case neg =>
    have he : parseE (gpay r n) = 30 := if_neg hok
    simp only [he, nilc_some, fad_mk, pik_true, pik_false, cnd_true, cnd_false, gif_same, gif_tf, gif_ft, gif_undef, bi_add, bi_sub, bi_mul, bi_eql, bi_neq, bi_lss, bi_leq, bi_gtr, bi_geq, notB_bool, cvi_int, lenS_mk, lenT_mk, ext0, ext1, ext2, nilP_mk, nilS_mk, fldv_agg, jn0_k, jn1_k, jn2_k, jn1_and, jn1_or, ex_some, Option.isNone_some, Option.isNone_none, Bool.false_bne, Bool.bne_true, Bool.bne_false, Bool.true_bne, Bool.not_true, Bool.not_false, Bool.and_true, Bool.true_and, Bool.and_false, Bool.false_and, Bool.or_true, Bool.true_or, Bool.or_false, Bool.false_or, cond_true, cond_false, List.getElem?_toArray, List.getElem?_cons_zero, List.getElem?_cons_succ, Nat.zero_add, Nat.add_zero, Nat.reduceAdd, forall_const, show ((30 : Int) != 0) = true from rfl]
    exact bad hs10.p3 (hng fun hg => hok hg.1)
  have hp : parse (gpay r n) = parB (gpay r n) := if_pos hok
  have he : parseE (gpay r n) = 0 := if_pos hok
  have hck := Blk.chk_ok hok.2.2.1
  have hh := hok.2.1
  rw [hp] at hs10
  simp only [hp, he, nilc_some, fad_mk, pik_true, pik_false, cnd_true, cnd_false, gif_same, gif_tf, gif_ft, gif_undef, bi_add, bi_sub, bi_mul, bi_eql, bi_neq, bi_lss, bi_leq, bi_gtr, bi_geq, notB_bool, cvi_int, lenS_mk, lenT_mk, ext0, ext1, ext2, nilP_mk, nilS_mk, fldv_agg, jn0_k, jn1_k, jn2_k, jn1_and, jn1_or, ex_some, Option.isNone_some, Option.isNone_none, Bool.false_bne, Bool.bne_true, Bool.bne_false, Bool.true_bne, Bool.not_true, Bool.not_false, Bool.and_true, Bool.true_and, Bool.and_false, Bool.false_and, Bool.or_true, Bool.true_or, Bool.or_false, Bool.false_or, cond_true, cond_false, List.getElem?_toArray, List.getElem?_cons_zero, List.getElem?_cons_succ, Nat.zero_add, Nat.add_zero, Nat.reduceAdd, forall_const, show ((0 : Int) != 0) = false from rfl]
  obtain ⟨x, hxx⟩ : ∃ x, x = parB (gpay r n) := ⟨_, rfl⟩
  rw [← hxx] at hs10 gI hck hh hR4
  rw [← hxx]
  obtain ⟨As, hAs⟩ : ∃ As, As = [blk g8 (Rdr.cells (rVec 32) (shaM (r.take (12 + n)))).toArray T_api_ID, bb g5 x v4, ownB v4 x.d, nb g2] := ⟨_, rfl⟩
  replace hs10 : Sep w w10 As := by rw [hAs]; exact hs10
  rw [← hAs]
  have h48 : RdB w.heap (.slice ar r.length rc) r := hr0 (Sep.start w)
  refine jn1_dup ?_
  refine rdS_ld (v := .int .i64 x.h) (fun u hu K hk => by rw [hAs] at hu; exact (L_api_Block__Height (Sep.p1 hu).blk K).mpr hk) ?_
  simp only [nilc_some, fad_mk, pik_true, pik_false, cnd_true, cnd_false, gif_same, gif_tf, gif_ft, gif_undef, bi_add, bi_sub, bi_mul, bi_eql, bi_neq, bi_lss, bi_leq, bi_gtr, bi_geq, notB_bool, cvi_int, lenS_mk, lenT_mk, ext0, ext1, ext2, nilP_mk, nilS_mk, fldv_agg, jn0_k, jn1_k, jn2_k, jn1_and, jn1_or, ex_some, Option.isNone_some, Option.isNone_none, Bool.false_bne, Bool.bne_true, Bool.bne_false, Bool.true_bne, Bool.not_true, Bool.not_false, Bool.and_true, Bool.true_and, Bool.and_false, Bool.false_and, Bool.or_true, Bool.true_or, Bool.or_false, Bool.false_or, cond_true, cond_false, List.getElem?_toArray, List.getElem?_cons_zero, List.getElem?_cons_succ, Nat.zero_add, Nat.add_zero, Nat.reduceAdd, forall_const, u64_h hck.1 hh]
  rw [slc_mid (by omega) (by omega)]
  have h8 : ((r.drop 4).take 8).length = 8 := by simp; omega
  refine efS_i (cal_i (ReadS (l := (r.drop 4).take 8) (RdB.mid (i := 4) (j := 12) (hr0 hs10) hrcl (by omega) (by omega)) (by omega)) ?_)
  rintro _ w11 ⟨gu2, s11, rfl, hs11⟩
  replace hs11 := hs10.join hs11
  refine ⟨hs11.tail.tail, ?_⟩
  refine efS_i (cal_i (uLongS hs11) ?_)
  rintro _ w12 ⟨rfl, s12, hs12⟩
  have hs12 : Sep w w12 As := hs12.tail.tail
  refine ⟨hs12, ?_⟩
  have et8 : (tk 8 ((r.drop 4).take 8) 0).1 = (r.drop 4).take 8 := by unfold tk; rw [if_pos rfl, if_neg (by omega)]; exact List.take_of_length_le (Nat.le_of_eq h8)
  rw [et8]
  by_cases hcmp : x.h.toNat = ofBe ((r.drop 4).take 8)
  case neg =>
    have e : (((x.h.toNat : Nat) : Int) != ((ofBe ((r.drop 4).take 8) : Nat) : Int)) = true := by simp only [bne_iff_ne, ne_eq]; omega
    simp only [nilc_some, fad_mk, pik_true, pik_false, cnd_true, cnd_false, gif_same, gif_tf, gif_ft, gif_undef, bi_add, bi_sub, bi_mul, bi_eql, bi_neq, bi_lss, bi_leq, bi_gtr, bi_geq, notB_bool, cvi_int, lenS_mk, lenT_mk, ext0, ext1, ext2, nilP_mk, nilS_mk, fldv_agg, jn0_k, jn1_k, jn2_k, jn1_and, jn1_or, ex_some, Option.isNone_some, Option.isNone_none, Bool.false_bne, Bool.bne_true, Bool.bne_false, Bool.true_bne, Bool.not_true, Bool.not_false, Bool.and_true, Bool.true_and, Bool.and_false, Bool.false_and, Bool.or_true, Bool.true_or, Bool.or_false, Bool.false_or, cond_true, cond_false, List.getElem?_toArray, List.getElem?_cons_zero, List.getElem?_cons_succ, Nat.zero_add, Nat.add_zero, Nat.reduceAdd, forall_const, e]
    rw [hAs] at hs12
    exact bad hs12.p3 (hng fun hg => hcmp (gI.1 hg).2.1)
  have e : (((x.h.toNat : Nat) : Int) != ((ofBe ((r.drop 4).take 8) : Nat) : Int)) = false := by rw [hcmp]; simp
  simp only [nilc_some, fad_mk, pik_true, pik_false, cnd_true, cnd_false, gif_same, gif_tf, gif_ft, gif_undef, bi_add, bi_sub, bi_mul, bi_eql, bi_neq, bi_lss, bi_leq, bi_gtr, bi_geq, notB_bool, cvi_int, lenS_mk, lenT_mk, ext0, ext1, ext2, nilP_mk, nilS_mk, fldv_agg, jn0_k, jn1_k, jn2_k, jn1_and, jn1_or, ex_some, Option.isNone_some, Option.isNone_none, Bool.false_bne, Bool.bne_true, Bool.bne_false, Bool.true_bne, Bool.not_true, Bool.not_false, Bool.and_true, Bool.true_and, Bool.and_false, Bool.false_and, Bool.or_true, Bool.true_or, Bool.or_false, Bool.false_or, cond_true, cond_false, List.getElem?_toArray, List.getElem?_cons_zero, List.getElem?_cons_succ, Nat.zero_add, Nat.add_zero, Nat.reduceAdd, forall_const, e]
  refine jn1_dup ?_
  rw [show (Value.int .i64 8) = .int .i64 ((8 : Nat) : Int) from rfl, sla_to (by omega), slc_mid (by omega) (by omega)]
  have hrs : RdB w12.heap (.slice (some ⟨g8, 0, none⟩) 8 32) (tail8 (r.take (12 + n))) := by
    rw [hAs] at hs12
    exact rd_arr (k := 8) hs12 (by omega)
  have hrt := RdB.mid (i := 12 + n) (j := 20 + n) (hr0 hs12) hrcl (by omega) (by omega)
  have e20 : 20 + n - (12 + n) = 8 := by omega
  rw [e20] at hrt
  rw [e20]
  refine efS_i (cal_i (bEqual_spec hrs hrt) ?_)
  rintro _ _ ⟨rfl, rfl⟩
  refine ⟨hs12, ?_⟩
  simp only [nilc_some, fad_mk, pik_true, pik_false, cnd_true, cnd_false, gif_same, gif_tf, gif_ft, gif_undef, bi_add, bi_sub, bi_mul, bi_eql, bi_neq, bi_lss, bi_leq, bi_gtr, bi_geq, notB_bool, cvi_int, lenS_mk, lenT_mk, ext0, ext1, ext2, nilP_mk, nilS_mk, fldv_agg, jn0_k, jn1_k, jn2_k, jn1_and, jn1_or, ex_some, Option.isNone_some, Option.isNone_none, Bool.false_bne, Bool.bne_true, Bool.bne_false, Bool.true_bne, Bool.not_true, Bool.not_false, Bool.and_true, Bool.true_and, Bool.and_false, Bool.false_and, Bool.or_true, Bool.true_or, Bool.or_false, Bool.false_or, cond_true, cond_false, List.getElem?_toArray, List.getElem?_cons_zero, List.getElem?_cons_succ, Nat.zero_add, Nat.add_zero, Nat.reduceAdd, forall_const]
  rw [cnd_bool]
  rw [hAs] at hs12
  refine ⟨fun h => ?_, fun h => ?_⟩
  · have h : ¬ tail8 (r.take (12 + n)) = (r.drop (12 + n)).take 8 := by simpa using h
    exact bad hs12.p3 (hng fun hg => h (gI.1 hg).2.2)
  · have h : tail8 (r.take (12 + n)) = (r.drop (12 + n)).take 8 := by simpa using h
    have hg : goodR r n := gI.2 ⟨hok, hcmp, h⟩
    rw [if_pos hg] at hR4
    simp only [L_api_Block (Sep.p1 hs12).blk, L_api_Block__Parent (Sep.p1 hs12).blk, L_api_Block__Height (Sep.p1 hs12).blk, L_api_Block__Data (Sep.p1 hs12).blk]
    refine St_api_Block hs12.p3 (one_api_Block (Sep.one (hs12.pick [2] 4))) fun w13 hs13 => ?_
    simp only [L_api_Block hs13.blk, L_api_Block__Parent hs13.blk, L_api_Block__Height hs13.blk, L_api_Block__Data hs13.blk, e3]
    rw [hx, hR4] at hR
    exact hR _ _ ⟨v4, by simp, Sep.dropR (As := [ownB v4 x.d]) hs13.p3⟩
theorem rRecTake_spec (hb : RdB w.heap v l) (hcap : capOk v) (hl : l.length ≤ 9223372036854775807) (ha : -9223372036854775808 ≤ a ∧ a ≤ 9223372036854775807) : cal P f_ref09_Take [v, .int .i64 a] w fun r w' =>
    ∃ v', r = .tuple #[bq (takeX l a).1 v', .int .i64 (takeX l a).2.1, .int .i64 (takeX l a).2.2] ∧ Sep w w' [ownB v' (takeX l a).1.d] := by
  refine s_ref09_Take fun R hR => ?_
  unfold c_ref09_Take
  refine alloc_s (Sep.start w) (A_api_Block w) fun g2 w1 hs1 => ?_
  have bad : ∀ {z : World} {Bs : List Asn} {c : Int}, Sep w z (nb g2 :: Bs) → takeX l a = (Blk.none, 0, c) → rdP P (Instr.build T_api_Block #[]) z fun t52 => stN 34 (.pointer (some ⟨g2, 0, none⟩)) t52 z fun w => ldN 34 (.pointer (some ⟨g2, 0, none⟩)) w.heap fun r1 => R (.tuple #[r1, .int .i64 0, .int .i64 c]) w := fun {z Bs c} h hp => by
    rw [B_api_Block]
    refine St_api_Block h (one_api_Block rfl) fun w10 hs10 => ?_
    simp only [L_api_Block hs10.blk, L_api_Block__Parent hs10.blk, L_api_Block__Height hs10.blk, L_api_Block__Data hs10.blk]
    rw [hp] at hR
    exact hR _ _ ⟨.slice none 0 0, rfl, ((Sep.start w).old hs10.fr0).nil⟩
  simp only [nilc_some, fad_mk, pik_true, pik_false, cnd_true, cnd_false, gif_same, gif_tf, gif_ft, gif_undef, bi_add, bi_sub, bi_mul, bi_eql, bi_neq, bi_lss, bi_leq, bi_gtr, bi_geq, notB_bool, cvi_int, lenS_mk, lenT_mk, ext0, ext1, ext2, nilP_mk, nilS_mk, fldv_agg, jn0_k, jn1_k, jn2_k, jn1_and, jn1_or, ex_some, Option.isNone_some, Option.isNone_none, Bool.false_bne, Bool.bne_true, Bool.bne_false, Bool.true_bne, Bool.not_true, Bool.not_false, Bool.and_true, Bool.true_and, Bool.and_false, Bool.false_and, Bool.or_true, Bool.true_or, Bool.or_false, Bool.false_or, cond_true, cond_false, List.getElem?_toArray, List.getElem?_cons_zero, List.getElem?_cons_succ, Nat.zero_add, Nat.add_zero, Nat.reduceAdd, forall_const, hb.len]
  rw [cnd_bool]
  refine ⟨fun h => ?_, fun h => ?_⟩
  · simp only [Bool.or_eq_true, decide_eq_true_eq] at h
    refine bad hs1 ?_
    unfold takeX
    rw [if_pos (by omega)]
  simp only [Bool.or_eq_false_iff, decide_eq_false_iff_not] at h
  obtain ⟨i, rfl⟩ := Int.eq_ofNat_of_zero_le (show 0 ≤ a by omega)
  have hx : takeX l (i : Int) = ((takeR (l.drop i)).1, (if (takeR (l.drop i)).2.2 = 0 then (i : Int) + (takeR (l.drop i)).2.1 else 0), (takeR (l.drop i)).2.2) := by unfold takeX; rw [if_neg (by omega)]; rfl
  have hil : i ≤ l.length := by omega
  obtain ⟨av, cv, rfl⟩ := hb.form
  have hcv : l.length ≤ cv := hcap _ _ _ rfl
  rw [slc_from hil]
  have hr0 : ∀ {z : World} {Bs : List Asn}, Sep w z Bs → RdB z.heap (.slice (if cv = i then av else av.map (·.add (i * 1))) (l.length - i) (cv - i)) (l.drop i) := fun {z Bs} hz => (hz.rdB hb).drop (k := i) hil hcv (cv - i)
  generalize (if cv = i then av else av.map (·.add (i * 1))) = ar at *
  have hrl : l.length - i = (l.drop i).length := by simp
  rw [hrl] at hr0 ⊢
  obtain ⟨rc, hrc⟩ : ∃ rc, rc = cv - i := ⟨_, rfl⟩
  rw [← hrc] at hr0 ⊢
  have hrcl : (l.drop i).length ≤ rc := by simp; omega
  have hrm : i + (l.drop i).length ≤ 9223372036854775807 := by simp; omega
  generalize l.drop i = r at *
  clear hrl hrc
  simp only [nilc_some, fad_mk, pik_true, pik_false, cnd_true, cnd_false, gif_same, gif_tf, gif_ft, gif_undef, bi_add, bi_sub, bi_mul, bi_eql, bi_neq, bi_lss, bi_leq, bi_gtr, bi_geq, notB_bool, cvi_int, lenS_mk, lenT_mk, ext0, ext1, ext2, nilP_mk, nilS_mk, fldv_agg, jn0_k, jn1_k, jn2_k, jn1_and, jn1_or, ex_some, Option.isNone_some, Option.isNone_none, Bool.false_bne, Bool.bne_true, Bool.bne_false, Bool.true_bne, Bool.not_true, Bool.not_false, Bool.and_true, Bool.true_and, Bool.and_false, Bool.false_and, Bool.or_true, Bool.true_or, Bool.or_false, Bool.false_or, cond_true, cond_false, List.getElem?_toArray, List.getElem?_cons_zero, List.getElem?_cons_succ, Nat.zero_add, Nat.add_zero, Nat.reduceAdd, forall_const]
  rw [cnd_bool]
  refine ⟨fun h => ?_, fun h12 => ?_⟩
  · refine bad hs1 ?_
    have : r.length < 12 := by simp at h; omega
    rw [hx]; unfold takeR; rw [if_pos this]; rfl
  have h12 : ¬ r.length < 12 := by simp at h12; omega
  rw [show (Value.int .i64 4) = .int .i64 ((4 : Nat) : Int) from rfl, slc_to (by omega)]
  have h4 : (r.take 4).length = 4 := by simp; omega
  refine cal_i (rVal_spec ((hr0 hs1).take (k := 4) (by omega) rc) (by omega)) ?_
  rintro _ _ ⟨rfl, rfl⟩
  have hn4 := ofBe_lt (r.take 4)
  rw [h4] at hn4
  obtain ⟨n, hn⟩ : ∃ n, n = ofBe (r.take 4) := ⟨_, rfl⟩
  rw [← hn] at hn4 ⊢
  have hR4 : takeR r = if 246 < n then (Blk.none, 0, 90) else if r.length < 20 + n then (Blk.none, 0, 11) else if goodR r n then (parB (gpay r n), 20 + n, 0) else (Blk.none, 0, 90) := by unfold takeR; rw [if_neg h12, ← hn]
  simp only [nilc_some, fad_mk, pik_true, pik_false, cnd_true, cnd_false, gif_same, gif_tf, gif_ft, gif_undef, bi_add, bi_sub, bi_mul, bi_eql, bi_neq, bi_lss, bi_leq, bi_gtr, bi_geq, notB_bool, cvi_int, lenS_mk, lenT_mk, ext0, ext1, ext2, nilP_mk, nilS_mk, fldv_agg, jn0_k, jn1_k, jn2_k, jn1_and, jn1_or, ex_some, Option.isNone_some, Option.isNone_none, Bool.false_bne, Bool.bne_true, Bool.bne_false, Bool.true_bne, Bool.not_true, Bool.not_false, Bool.and_true, Bool.true_and, Bool.and_false, Bool.false_and, Bool.or_true, Bool.true_or, Bool.or_false, Bool.false_or, cond_true, cond_false, List.getElem?_toArray, List.getElem?_cons_zero, List.getElem?_cons_succ, Nat.zero_add, Nat.add_zero, Nat.reduceAdd, forall_const]
  rw [cnd_bool]
  refine ⟨fun h => ?_, fun h246 => ?_⟩
  · refine bad hs1 ?_
    have : 246 < n := by simp at h; omega
    rw [hx, hR4, if_pos this]; rfl
  have h246 : ¬ 246 < n := by simp at h246; omega
  rw [if_neg h246] at hR4
  have e1 : IntKind.i64.wrap (12 + IntKind.i64.wrap (n : Int)) = ((12 + n : Nat) : Int) := by rw [wi64 (x := (n : Int)) (by omega) (by omega), wi64 (by omega) (by omega)]; omega
  have e2 : IntKind.i64.wrap (((12 + n : Nat) : Int) + 8) = ((20 + n : Nat) : Int) := by rw [wi64 (by omega) (by omega)]; omega
  simp only [e1, e2, nilc_some, fad_mk, pik_true, pik_false, cnd_true, cnd_false, gif_same, gif_tf, gif_ft, gif_undef, bi_add, bi_sub, bi_mul, bi_eql, bi_neq, bi_lss, bi_leq, bi_gtr, bi_geq, notB_bool, cvi_int, lenS_mk, lenT_mk, ext0, ext1, ext2, nilP_mk, nilS_mk, fldv_agg, jn0_k, jn1_k, jn2_k, jn1_and, jn1_or, ex_some, Option.isNone_some, Option.isNone_none, Bool.false_bne, Bool.bne_true, Bool.bne_false, Bool.true_bne, Bool.not_true, Bool.not_false, Bool.and_true, Bool.true_and, Bool.and_false, Bool.false_and, Bool.or_true, Bool.true_or, Bool.or_false, Bool.false_or, cond_true, cond_false, List.getElem?_toArray, List.getElem?_cons_zero, List.getElem?_cons_succ, Nat.zero_add, Nat.add_zero, Nat.reduceAdd, forall_const]
  rw [cnd_bool]
  refine ⟨fun h => ?_, fun h20 => ?_⟩
  · refine bad hs1 ?_
    have : r.length < 20 + n := by simp at h; omega
    rw [hx, hR4, if_pos this]; rfl
  have h20 : ¬ r.length < 20 + n := by simp at h20; omega
  rw [if_neg h20] at hR4
  have hng : ¬ goodR r n → takeX l (i : Int) = (Blk.none, 0, 90) := fun hg => by rw [hx, hR4, if_neg hg]; rfl
  rw [show (Value.int .i64 12) = .int .i64 ((12 : Nat) : Int) from rfl, slc_mid (by omega) (by omega)]
  have hpay : ∀ {z : World} {Bs : List Asn}, Sep w z Bs → RdB z.heap (.slice (if rc = 12 then ar else ar.map (·.add (12 * 1))) (12 + n - 12) (rc - 12)) (gpay r n) := fun {z Bs} hz => by
    have := RdB.mid (i := 12) (j := 12 + n) (hr0 hz) hrcl (by omega) (by omega)
    rw [Nat.add_sub_cancel_left] at this
    rw [Nat.add_sub_cancel_left]
    exact this
  have hpl : (gpay r n).length = n := by simp [gpay]; omega
  refine cal_i (rParse_spec (hpay hs1) (fun a' n' c' he => by
    simp only [Value.slice.injEq] at he
    obtain ⟨_, rfl, rfl⟩ := he
    omega) (by omega)) ?_
  rintro _ w4 ⟨v4, rfl, hs4⟩
  replace hs4 := hs1.join hs4
  simp only [nilc_some, fad_mk, pik_true, pik_false, cnd_true, cnd_false, gif_same, gif_tf, gif_ft, gif_undef, bi_add, bi_sub, bi_mul, bi_eql, bi_neq, bi_lss, bi_leq, bi_gtr, bi_geq, notB_bool, cvi_int, lenS_mk, lenT_mk, ext0, ext1, ext2, nilP_mk, nilS_mk, fldv_agg, jn0_k, jn1_k, jn2_k, jn1_and, jn1_or, ex_some, Option.isNone_some, Option.isNone_none, Bool.false_bne, Bool.bne_true, Bool.bne_false, Bool.true_bne, Bool.not_true, Bool.not_false, Bool.and_true, Bool.true_and, Bool.and_false, Bool.false_and, Bool.or_true, Bool.true_or, Bool.or_false, Bool.false_or, cond_true, cond_false, List.getElem?_toArray, List.getElem?_cons_zero, List.getElem?_cons_succ, Nat.zero_add, Nat.add_zero, Nat.reduceAdd, forall_const]
  refine alloc_s hs4 (A_api_Block w4) fun g5 w5 hs5 => ?_
  refine St_api_Block hs5 (one_api_Block (Sep.one hs5.p1)) fun w6 hs6 => ?_
  by_cases hok : okP (gpay r n)
  case neg =>
    have he : parseE (gpay r n) = 30 := if_neg hok
    simp only [he, nilc_some, fad_mk, pik_true, pik_false, cnd_true, cnd_false, gif_same, gif_tf, gif_ft, gif_undef, bi_add, bi_sub, bi_mul, bi_eql, bi_neq, bi_lss, bi_leq, bi_gtr, bi_geq, notB_bool, cvi_int, lenS_mk, lenT_mk, ext0, ext1, ext2, nilP_mk, nilS_mk, fldv_agg, jn0_k, jn1_k, jn2_k, jn1_and, jn1_or, ex_some, Option.isNone_some, Option.isNone_none, Bool.false_bne, Bool.bne_true, Bool.bne_false, Bool.true_bne, Bool.not_true, Bool.not_false, Bool.and_true, Bool.true_and, Bool.and_false, Bool.false_and, Bool.or_true, Bool.true_or, Bool.or_false, Bool.false_or, cond_true, cond_false, List.getElem?_toArray, List.getElem?_cons_zero, List.getElem?_cons_succ, Nat.zero_add, Nat.add_zero, Nat.reduceAdd, forall_const, show ((30 : Int) != 0) = true from rfl]
    exact bad hs6.p2 (hng fun hg => hok hg.1)
  have hp : parse (gpay r n) = parB (gpay r n) := if_pos hok
  have he : parseE (gpay r n) = 0 := if_pos hok
  have hgd : goodR r n ↔ (parB (gpay r n)).rcd = r.take (20 + n) := ⟨fun h => h.2, fun h => ⟨hok, h⟩⟩
  have hck0 := hok.2.2.1
  have hh := hok.2.1
  rw [hp] at hs6
  simp only [hp, he, nilc_some, fad_mk, pik_true, pik_false, cnd_true, cnd_false, gif_same, gif_tf, gif_ft, gif_undef, bi_add, bi_sub, bi_mul, bi_eql, bi_neq, bi_lss, bi_leq, bi_gtr, bi_geq, notB_bool, cvi_int, lenS_mk, lenT_mk, ext0, ext1, ext2, nilP_mk, nilS_mk, fldv_agg, jn0_k, jn1_k, jn2_k, jn1_and, jn1_or, ex_some, Option.isNone_some, Option.isNone_none, Bool.false_bne, Bool.bne_true, Bool.bne_false, Bool.true_bne, Bool.not_true, Bool.not_false, Bool.and_true, Bool.true_and, Bool.and_false, Bool.false_and, Bool.or_true, Bool.true_or, Bool.or_false, Bool.false_or, cond_true, cond_false, List.getElem?_toArray, List.getElem?_cons_zero, List.getElem?_cons_succ, Nat.zero_add, Nat.add_zero, Nat.reduceAdd, forall_const, show ((0 : Int) != 0) = false from rfl]
  obtain ⟨x, hxx⟩ : ∃ x, x = parB (gpay r n) := ⟨_, rfl⟩
  rw [← hxx] at hs6 hgd hh hck0 hR4
  replace hs6 : Sep w w6 [bb g5 x v4, ownB v4 x.d, nb g2] := hs6
  simp only [L_api_Block hs6.blk, L_api_Block__Parent hs6.blk, L_api_Block__Height hs6.blk, L_api_Block__Data hs6.blk]
  refine cal_i (rRecBytes_spec (b := x) (Sep.rd hs6.p1) hh) ?_
  rintro _ w7 ⟨s7, rfl, hs7⟩
  have ho : x.recO = x.rcd := if_pos hck0
  rw [ho] at hs7
  replace hs7 : Sep w w7 [ownB s7 x.rcd, bb g5 x v4, ownB v4 x.d, nb g2] := hs6.join hs7
  simp only [nilc_some, fad_mk, pik_true, pik_false, cnd_true, cnd_false, gif_same, gif_tf, gif_ft, gif_undef, bi_add, bi_sub, bi_mul, bi_eql, bi_neq, bi_lss, bi_leq, bi_gtr, bi_geq, notB_bool, cvi_int, lenS_mk, lenT_mk, ext0, ext1, ext2, nilP_mk, nilS_mk, fldv_agg, jn0_k, jn1_k, jn2_k, jn1_and, jn1_or, ex_some, Option.isNone_some, Option.isNone_none, Bool.false_bne, Bool.bne_true, Bool.bne_false, Bool.true_bne, Bool.not_true, Bool.not_false, Bool.and_true, Bool.true_and, Bool.and_false, Bool.false_and, Bool.or_true, Bool.true_or, Bool.or_false, Bool.false_or, cond_true, cond_false, List.getElem?_toArray, List.getElem?_cons_zero, List.getElem?_cons_succ, Nat.zero_add, Nat.add_zero, Nat.reduceAdd, forall_const]
  refine drw_s hs7 fun w8 hs8 _ => ?_
  rw [rdP_eq (conv_str UT_bytes UT_uint8 UT_string (Sep.rd hs8)), slc_to (by omega), rdP_eq (conv_str UT_bytes UT_uint8 UT_string ((hr0 hs8).take (k := 20 + n) (by omega) rc)), neS_str]
  rw [cnd_bool]
  refine ⟨fun h => ?_, fun h => ?_⟩
  · have h : ¬ x.rcd = r.take (20 + n) := by simpa using h
    exact bad hs8.p3 (hng fun hg => h (hgd.1 hg))
  · have h : x.rcd = r.take (20 + n) := by simpa using h
    have hg : goodR r n := hgd.2 h
    rw [if_pos hg] at hR4
    simp only [L_api_Block (Sep.p1 hs8).blk, L_api_Block__Parent (Sep.p1 hs8).blk, L_api_Block__Height (Sep.p1 hs8).blk, L_api_Block__Data (Sep.p1 hs8).blk]
    refine St_api_Block hs8.p3 (one_api_Block (Sep.one (hs8.pick [2] 4))) fun w13 hs13 => ?_
    have e3 : IntKind.i64.wrap ((i : Int) + ((20 + n : Nat) : Int)) = (i : Int) + ((20 + n : Nat) : Int) := by rw [wi64 (by omega) (by omega)]
    simp only [L_api_Block hs13.blk, L_api_Block__Parent hs13.blk, L_api_Block__Height hs13.blk, L_api_Block__Data hs13.blk, e3]
    rw [hx, hR4] at hR
    exact hR _ _ ⟨v4, by simp, Sep.dropR (As := [ownB v4 x.d]) hs13.p3⟩
end
end Go.Fx
set_option linter.unusedVariables false
set_option linter.unusedSimpArgs false
namespace Go.Fx
/-- The records of blocks, if all of them may be. -/
def layOk (l : List Blk) : Prop := ∀ b ∈ l, b.chk = 0
instance (l : List Blk) : Decidable (layOk l) := by unfold layOk; infer_instance
def layL (l : List Blk) : List UInt8 := l.flatMap Blk.rcd
def layO (l : List Blk) : List UInt8 := if layOk l then layL l else []
def layE (l : List Blk) : Int := if layOk l then 0 else 30
theorem layL_len : ∀ l : List Blk, layOk l → (layL l).length ≤ 266 * l.length
  | [], _ => by simp [layL]
  | b :: l, h => by
    have h1 := layL_len l fun c hc => h c (by simp [hc])
    have h2 := b.recO_le
    rw [Blk.recO, if_pos (h b (by simp))] at h2
    unfold layL at *
    rw [List.flatMap_cons, List.length_append, List.length_cons]
    omega
theorem layL_take {l : List Blk} {i : Nat} {b : Blk} (h : l[i]? = some b) : layL (l.take (i + 1)) = layL (l.take i) ++ b.rcd := by
  unfold layL
  rw [List.take_add_one, h]
  simp
section
variable {w0 w : World} {As : List Asn} {v : Value} {l : List BV}
theorem BRows.get {h : Heap} (hr : BRows h v l) {j : Nat} {x : BV} (hj : l[j]? = some x) : RdB h x.2 x.1.d := hr.2 x (List.mem_of_getElem? hj)
end
end Go.Fx
set_option linter.unusedVariables false
set_option linter.unusedSimpArgs false
namespace Go.Fx
theorem min_i64 {w : World} (a b : Int) (K : Value → Prop) : rdP P (Builtin.min_ #[T_int, T_int] T_int #[.int .i64 a, .int .i64 b]) w K = K (.int .i64 (if b < a then b else a)) := by
  refine rdP_eq ?_ K
  simp [Builtin.min_, Builtin.min2]
/-- A record is read where it stands. -/
theorem take_rcd {b : Blk} {t : List UInt8} (hc : b.chk = 0) (hh : b.h ≤ maxI) : takeR (b.rcd ++ t) = (b, b.rcd.length, 0) := by
  have hck := Blk.chk_ok hc
  have hbl := b.bytes_len
  have hrl := b.rec_len
  obtain ⟨n, hn⟩ : ∃ n, n = b.bytes.length := ⟨_, rfl⟩
  have er : b.rcd ++ t = be 4 n ++ (be 8 b.h.toNat ++ (b.bytes ++ (tail8 b.hd ++ t))) := by
    rw [hn]; unfold Blk.rcd; conv => lhs; unfold Blk.hd
    simp only [List.append_assoc]
    rfl
  have e4 : (b.rcd ++ t).take 4 = be 4 n := by rw [er]; exact List.take_left' (be_length _ _)
  have en : ofBe ((b.rcd ++ t).take 4) = n := by rw [e4, ofBe_b4 (by omega)]
  have e12 : (b.rcd ++ t).drop 12 = b.bytes ++ (tail8 b.hd ++ t) := by
    rw [er, show 12 = 4 + 8 from rfl, ← List.drop_drop, List.drop_left' (be_length _ _)]
    exact List.drop_left' (be_length _ _)
  have ep : gpay (b.rcd ++ t) n = b.bytes := by unfold gpay; rw [e12]; exact List.take_left' hn.symm
  have hok := parse_bytes hc hh
  have hg : goodR (b.rcd ++ t) n := by
    unfold goodR
    rw [ep, hok.2]
    exact ⟨hok.1, (List.take_left' (by omega)).symm⟩
  unfold takeR
  rw [en, if_neg (by simp; omega), if_neg (by omega), if_neg (by simp; omega), if_pos hg, ep, hok.2]
  congr 2
  omega
/-- What is read is a record. -/
theorem take_inv {r : List UInt8} {x : Blk} {n : Nat} (h : takeR r = (x, n, 0)) : x.chk = 0 ∧ x.h ≤ maxI ∧ n = x.rcd.length ∧ r = x.rcd ++ r.drop n := by
  unfold takeR at h
  split at h
  · simp at h
  rename_i h12
  split at h
  · simp at h
  rename_i h246
  split at h
  · simp at h
  rename_i h20
  split at h
  · rename_i hg
    simp only [Prod.mk.injEq, and_true] at h
    obtain ⟨rfl, rfl⟩ := h
    refine ⟨hg.1.2.2.1, hg.1.2.1, ?_, ?_⟩
    · rw [hg.2, List.length_take]; omega
    · rw [hg.2, List.take_append_drop]
  · simp at h
theorem takeR_err (r : List UInt8) : (takeR r).2.2 = 0 ∨ ((takeR r).1 = Blk.none ∧ (takeR r).2.1 = 0 ∧ ((takeR r).2.2 = 11 ∨ (takeR r).2.2 = 90)) := by
  unfold takeR
  repeat' split
  all_goals simp
section
variable {w0 w : World} {As : List Asn} {v : Value} {l : List BV}
def FewB (l : List BV) : Prop := l.length ≤ 30 ∧ ∀ x ∈ l, x.1.d.length ≤ 3000
theorem BRows.cut {h : Heap} {a : Option Addr} {m c k : Nat} (hr : BRows h (.slice a m c) l) (hk : k ≤ m) (c' : Nat) : BRows h (.slice a k c') (l.take k) := by
  refine ⟨?_, fun x hx => hr.2 x (List.mem_of_mem_take hx)⟩
  have hm : m = l.length := by obtain ⟨_, _, hv, _⟩ := hr.1; simp only [Value.slice.injEq, List.length_map] at hv; exact hv.2.1
  have := hr.1.take (k := k) (by simp; omega) c'
  rwa [← List.map_take] at this
theorem b0_chk : Blk.none.chk = 0 := by decide +kernel
theorem b0_bytes : Blk.none.bytes.length = 46 := by rw [Blk.bytes_len]; rfl
end
end Go.Fx
set_option linter.unusedVariables false
set_option linter.unusedSimpArgs false
namespace Go.Fx
def goodB (l : List Blk) : Prop := ∀ b ∈ l, b.chk = 0 ∧ b.h ≤ maxI
theorem goodB.ok {l : List Blk} (h : goodB l) : layOk l := fun b hb => (h b hb).1
theorem layL_append (a b : List Blk) : layL (a ++ b) = layL a ++ layL b := by unfold layL; simp
theorem layL_cons (a : Blk) (b : List Blk) : layL (a :: b) = a.rcd ++ layL b := by unfold layL; simp
/-- L is what stands at the beginning of r. -/
def IsScan (r : List UInt8) (L : List Blk) : Prop := goodB L ∧ ∃ t, r = layL L ++ t ∧ (takeR t).2.2 ≠ 0
theorem takeR_nil : takeR [] = (Blk.none, 0, 11) := by unfold takeR; rw [if_pos (by decide)]
theorem IsScan.uniq : ∀ {L M : List Blk} {r : List UInt8}, IsScan r L → IsScan r M → L = M
  | [], [], _, _, _ => rfl
  | [], b :: M, r, ⟨_, t, h1, h2⟩, ⟨g, s, k1, k2⟩ => by
    have hb := g b (by simp)
    have ht : t = b.rcd ++ (layL M ++ s) := by
      have : layL ([] : List Blk) ++ t = t := rfl
      rw [← this, ← h1, k1, layL_cons, List.append_assoc]
    rw [ht, take_rcd hb.1 hb.2] at h2
    exact absurd rfl h2
  | a :: L, [], r, ⟨g, t, h1, h2⟩, ⟨_, s, k1, k2⟩ => by
    have ha := g a (by simp)
    have hs : s = a.rcd ++ (layL L ++ t) := by
      have : layL ([] : List Blk) ++ s = s := rfl
      rw [← this, ← k1, h1, layL_cons, List.append_assoc]
    rw [hs, take_rcd ha.1 ha.2] at k2
    exact absurd rfl k2
  | a :: L, b :: M, r, ⟨g, t, h1, h2⟩, ⟨g', s, k1, k2⟩ => by
    have ha := g a (by simp)
    have hb := g' b (by simp)
    have e1 : takeR r = (a, a.rcd.length, 0) := by rw [h1, layL_cons, List.append_assoc]; exact take_rcd ha.1 ha.2
    have e2 : takeR r = (b, b.rcd.length, 0) := by rw [k1, layL_cons, List.append_assoc]; exact take_rcd hb.1 hb.2
    have hab : a = b := congrArg Prod.fst (e1.symm.trans e2)
    subst hab
    have h3 : layL L ++ t = layL M ++ s := by
      have := h1.symm.trans k1
      rw [layL_cons, layL_cons, List.append_assoc, List.append_assoc] at this
      exact List.append_cancel_left this
    have := IsScan.uniq (L := L) (M := M) (r := layL L ++ t) ⟨fun x hx => g x (by simp [hx]), t, rfl, h2⟩ ⟨fun x hx => g' x (by simp [hx]), s, h3, k2⟩
    rw [this]
theorem IsScan.len {r : List UInt8} {L : List Blk} (h : IsScan r L) : (layL L).length ≤ r.length := by
  obtain ⟨_, t, h1, _⟩ := h
  rw [h1]; simp
theorem IsScan.take {r : List UInt8} {L : List Blk} (h : IsScan r L) : r.take (layL L).length = layL L := by
  obtain ⟨_, t, h1, _⟩ := h
  rw [h1]; simp
theorem layL_ge : ∀ L : List Blk, 66 * L.length ≤ (layL L).length
  | [] => by simp
  | b :: L => by
    have h1 := layL_ge L
    have h2 := b.rec_len
    rw [layL_cons, List.length_append, List.length_cons]
    omega
/-- A record that is cut off. -/
theorem take_cut {b : Blk} {s : List UInt8} {j : Nat} (hc : b.chk = 0) (hj : j < b.rcd.length) : takeR ((b.rcd ++ s).take j) = (Blk.none, 0, 11) := by
  have hck := Blk.chk_ok hc
  have hbl := b.bytes_len
  have hrl := b.rec_len
  have e1 : (b.rcd ++ s).take j = b.rcd.take j := by rw [List.take_append_of_le_length (by omega)]
  have hl : (b.rcd.take j).length = j := by simp; omega
  rw [e1]
  unfold takeR
  by_cases h12 : j < 12
  · rw [if_pos (by omega)]
  · rw [if_neg (by omega)]
    have e4 : (b.rcd.take j).take 4 = be 4 b.bytes.length := by
      rw [List.take_take, Nat.min_eq_left (by omega)]
      unfold Blk.rcd Blk.hd
      rw [List.append_assoc, List.append_assoc]
      exact List.take_left' (be_length _ _)
    rw [e4, ofBe_b4 (by omega), if_neg (by omega), if_pos (by omega)]
theorem drop_cons_get {l : List Blk} {i : Nat} {b : Blk} (h : l[i]? = some b) : l.drop i = b :: l.drop (i + 1) := by
  obtain ⟨hlt, hb⟩ := List.getElem?_eq_some_iff.1 h
  rw [List.drop_eq_getElem_cons hlt, hb]
/-- Cut off behind k bytes, n records are whole. -/
theorem scan_cut {L : List Blk} {k n : Nat} (hg : goodB L) (hk : k ≤ (layL L).length) (hn : n ≤ L.length) (h1 : (layL (L.take n)).length ≤ k) (h2 : ∀ b, L[n]? = some b → k - (layL (L.take n)).length < b.rcd.length) :
    IsScan ((layL L).take k) (L.take n) ∧ takeR (((layL L).take k).drop (layL (L.take n)).length) = (Blk.none, 0, 11) := by
  have e : layL L = layL (L.take n) ++ layL (L.drop n) := by rw [← layL_append, List.take_append_drop]
  obtain ⟨m, hm⟩ : ∃ m, m = (layL (L.take n)).length := ⟨_, rfl⟩
  have ek : (layL L).take k = layL (L.take n) ++ (layL (L.drop n)).take (k - m) := by
    rw [e, List.take_append, hm, List.take_of_length_le (by omega)]
  have ht : takeR ((layL (L.drop n)).take (k - m)) = (Blk.none, 0, 11) := by
    cases hx : L[n]? with
    | none =>
      have hge := List.getElem?_eq_none_iff.1 hx
      rw [List.drop_of_length_le hge]
      show takeR (([] : List UInt8).take _) = _
      rw [List.take_nil]
      exact takeR_nil
    | some b =>
      rw [drop_cons_get hx, layL_cons]
      have := h2 b hx
      exact take_cut (hg b (List.mem_of_getElem? hx)).1 (by omega)
  refine ⟨⟨fun b hb => hg b (List.mem_of_mem_take hb), _, ek, by rw [ht]; decide⟩, ?_⟩
  rw [← hm, ek, List.drop_left' hm.symm]
  exact ht
end Go.Fx
set_option linter.unusedVariables false
set_option linter.unusedSimpArgs false
namespace Go.Fx
abbrev oV (x : BV) : Asn := ownB x.2 x.1.d
/-- A row of blocks that the call owns. -/
def brow (v : Value) (B : List BV) : List Asn := rows Q_api_Block v (B.map BV.t) :: B.map oV
theorem brow_rd {w0 w : World} {v : Value} {B : List BV} {Bs : List Asn} (h : Sep w0 w (brow v B ++ Bs)) : BRows w.heap v B := by
  refine ⟨Sep.rows h, fun s hs => ?_⟩
  obtain ⟨F, hF⟩ := h.onL (A := ownB s.2 s.1.d) (by simp only [brow, List.cons_append, List.mem_cons, List.mem_append, List.mem_map]; exact .inr (.inl ⟨s, hs, rfl⟩))
  exact OwnB.rd hF
theorem Rows'.ldI {w : World} {v : Value} {l : List Int} {j : Nat} {a : Int} (hr : Rows' (rInt .i64) w.heap v l) (hj : l[j]? = some a) (k : IntKind) {K : Value → Prop} (h : K (.int .i64 a)) : ixs 1 v (.int k (j : Int)) fun t => Go.Fx.ld1 t w.heap K := by
  obtain ⟨g, o, ha, hx⟩ := hr.ix (by decide) hj
  have hx' : ∀ K, ixs 1 v (.int k (j : Int)) K = K (.pointer (some ⟨g, o, none⟩)) := hx k
  rw [hx', At.ld1 (v := .int .i64 a) ha]
  exact h
/-- A row, read in a region that draws. -/
theorem rdS_rowN {α : Type} {q : Rdr α} {S : World → Prop} {w : World} {v : Value} {l : List α} {j : Nat} {a : α} {K : Value → Prop} (hp : 0 < q.size)
    (hw : S w) (hS : ∀ u, S u → Rows' q u.heap v l) (hj : l[j]? = some a) (k : IntKind) (h : K (.agg (q.cells a).toArray)) : ixs q.size v (.int k (j : Int)) fun t => rdS S (fun w => ldN q.size t w.heap) K := by
  obtain ⟨g, o, c, rfl⟩ := (hS w hw).form hp hj
  have hlt := (List.getElem?_eq_some_iff.1 hj).1
  rw [ixs_mk _ _ _ _ _ _ _ _ (by omega) (by omega), Int.toNat_natCast]
  refine ⟨.agg (q.cells a).toArray, fun z hz => ?_, h⟩
  have hat := At.of hp (hS z hz) hj
  exact (At.ldN hat (q.len a) _).mpr rfl
/-- Where the records end. -/
def endsOf (L : List Blk) : List Int := (List.range L.length).map fun i => ((layL (L.take (i + 1))).length : Int)
theorem endsOf_snoc (L : List Blk) (x : Blk) : endsOf (L ++ [x]) = endsOf L ++ [((layL (L ++ [x])).length : Int)] := by
  unfold endsOf
  rw [List.length_append, List.length_singleton, List.range_succ, List.map_append, List.map_singleton]
  congr 1
  · apply List.map_congr_left
    intro i hi
    have := List.mem_range.1 hi
    rw [List.take_append_of_le_length (by omega)]
  · rw [List.take_of_length_le (by simp)]
theorem endsOf_len (L : List Blk) : (endsOf L).length = L.length := by simp [endsOf]
theorem endsOf_last {L : List Blk} (h : L ≠ []) : (endsOf L)[L.length - 1]? = some ((layL L).length : Int) := by
  have hl : 0 < L.length := List.length_pos_iff.2 h
  unfold endsOf
  rw [List.getElem?_map, List.getElem?_range (by omega)]
  simp only [Option.map_some]
  rw [List.take_of_length_le (by omega)]
section
variable {w0 w : World} {As T : List Asn} {v u : Value} {l : List UInt8} {B C : List BV}
/-- 'append(l, x)', one block more. -/
theorem app_blk {Xs : List Asn} {g : Nat} {x : Blk} {vx : Value} {K : Value → World → Prop} (hs : Sep w0 w (bb g x vx :: ownB vx x.d :: rows Q_api_Block u (B.map BV.t) :: (Xs ++ (B.map oV ++ T)))) (hB : B.length ≤ 1000000)
    (h : ∀ v' w', Sep w0 w' (rows Q_api_Block v' ((B ++ [(x, vx)]).map BV.t) :: (Xs ++ ((B ++ [(x, vx)]).map oV ++ T))) → K v' w') :
    efP P (Instr.buildSlice T_sl_api_Block 1 #[(0, bq x vx)]) w fun t w => efP P (Builtin.append_ #[T_sl_api_Block, T_sl_api_Block] T_sl_api_Block #[u, t]) w K := by
  have h1 := Sep.one hs.p1
  refine rows_lit hs S_sl_api_Block (l := [(x.p, x.h, vx)]) (V := fun a => .agg (Rdr.cells Q_api_Block a).toArray) qV rfl rfl (by decide) (by decide) fun g4 w4 hs4 => ?_
  refine rows_app S_sl_api_Block U_sl_api_Block (by simp) hs4.p3 (Sep.rows hs4) ?_ (by simp; omega) (by simp; omega) fun v' w2 hs2 => ?_
  · simp only [List.flatMap_cons, List.flatMap_nil, List.append_nil]
    exact one_api_Block h1
  · refine h v' w2 ?_
    rw [List.map_append]
    exact Sep.put (f := oV) (s := (x, vx)) (Xs := rows Q_api_Block v' (B.map BV.t ++ [BV.t (x, vx)]) :: Xs) (hs2.pick [3, 0] 4)
theorem takeX_at {k : Nat} (hk : k ≤ l.length) : takeX l (k : Int) = ((takeR (l.drop k)).1, (if (takeR (l.drop k)).2.2 = 0 then (k : Int) + (takeR (l.drop k)).2.1 else 0), (takeR (l.drop k)).2.2) := by unfold takeX; rw [if_neg (by omega)]; rfl
theorem scan_spec (hc : Cub w) (hb : RdB w.heap v l) (hcap : capOk v) (hl : l.length ≤ 1000000) : cal P f_rec_scan [v] w fun r w' => ∃ (x y : Value) (B : List BV), r = .tuple #[x, y] ∧ IsScan l (B.map (·.1)) ∧ Sep w w' (rows Q_api_Block x (B.map BV.t) :: rows (rInt .i64) y (endsOf (B.map (·.1))) :: B.map oV) := by
  refine s_rec_scan fun R hR => ?_
  unfold c_rec_scan
  refine ⟨fun x y z w' => ∃ (B : List BV) (t : List UInt8), z = .int .i64 (layL (B.map (·.1))).length ∧ goodB (B.map (·.1)) ∧ l = layL (B.map (·.1)) ++ t ∧ Sep w w' (rows Q_api_Block x (B.map BV.t) :: rows (rInt .i64) y (endsOf (B.map (·.1))) :: (B.map oV ++ [])), fun _ _ z _ => (l.length - RowKit.intOf z).toNat,
    ⟨[], l, rfl, by intro b hb; simp at hb, rfl, (Sep.start w).nilR.nilR⟩, ?_⟩
  rintro x y _ w1 ⟨B, t, rfl, hg, hlt, hs1⟩ -
  obtain ⟨L, hL⟩ : ∃ L, L = B.map (·.1) := ⟨_, rfl⟩
  rw [← hL] at hg hlt hs1 ⊢
  have hle : (layL L).length ≤ l.length := by rw [hlt]; simp
  have hLl : L.length = B.length := by rw [hL]; simp
  have h66 := layL_ge L
  refine cal_i (recTake_spec (a := ((layL L).length : Nat)) (hc.fr hs1.fr0) (hs1.rdB hb) hcap (by omega) (by omega)) ?_
  rintro _ w2 ⟨v2, rfl, hs2⟩
  replace hs2 := hs1.join hs2
  have hd : l.drop (layL L).length = t := by rw [hlt]; exact List.drop_left' rfl
  rw [takeX_at hle, hd] at hs2
  rw [takeX_at hle, hd]
  simp only [nilc_some, fad_mk, pik_true, pik_false, cnd_true, cnd_false, gif_same, gif_tf, gif_ft, gif_undef, bi_add, bi_sub, bi_mul, bi_eql, bi_neq, bi_lss, bi_leq, bi_gtr, bi_geq, notB_bool, cvi_int, lenS_mk, lenT_mk, ext0, ext1, ext2, nilP_mk, nilS_mk, fldv_agg, jn0_k, jn1_k, jn2_k, jn1_and, jn1_or, ex_some, Option.isNone_some, Option.isNone_none, Bool.false_bne, Bool.bne_true, Bool.bne_false, Bool.true_bne, Bool.not_true, Bool.not_false, Bool.and_true, Bool.true_and, Bool.and_false, Bool.false_and, Bool.or_true, Bool.true_or, Bool.or_false, Bool.false_or, cond_true, cond_false, List.getElem?_toArray, List.getElem?_cons_zero, List.getElem?_cons_succ, Nat.zero_add, Nat.add_zero, Nat.reduceAdd, forall_const]
  refine alloc_s hs2 (A_api_Block w2) fun g3 w3 hs3 => ?_
  refine St_api_Block hs3 (one_api_Block (Sep.one hs3.p1)) fun w4 hs4 => ?_
  rcases takeR_err t with h0 | ⟨hn, hn0, hne⟩
  · obtain ⟨b, n, hx⟩ : ∃ b n, takeR t = (b, n, 0) := ⟨_, _, by rw [← h0]⟩
    rw [hx] at hs4 ⊢
    have hinv := take_inv hx
    simp only [nilc_some, fad_mk, pik_true, pik_false, cnd_true, cnd_false, gif_same, gif_tf, gif_ft, gif_undef, bi_add, bi_sub, bi_mul, bi_eql, bi_neq, bi_lss, bi_leq, bi_gtr, bi_geq, notB_bool, cvi_int, lenS_mk, lenT_mk, ext0, ext1, ext2, nilP_mk, nilS_mk, fldv_agg, jn0_k, jn1_k, jn2_k, jn1_and, jn1_or, ex_some, Option.isNone_some, Option.isNone_none, Bool.false_bne, Bool.bne_true, Bool.bne_false, Bool.true_bne, Bool.not_true, Bool.not_false, Bool.and_true, Bool.true_and, Bool.and_false, Bool.false_and, Bool.or_true, Bool.true_or, Bool.or_false, Bool.false_or, cond_true, cond_false, List.getElem?_toArray, List.getElem?_cons_zero, List.getElem?_cons_succ, Nat.zero_add, Nat.add_zero, Nat.reduceAdd, forall_const, show ((0 : Int) != 0) = false from rfl, ↓reduceIte]
    simp only [L_api_Block hs4.blk, L_api_Block__Parent hs4.blk, L_api_Block__Height hs4.blk, L_api_Block__Data hs4.blk]
    have e : L ++ [b] = (B ++ [(b, v2)]).map (·.1) := by rw [hL]; simp
    refine app_blk (x := b) (vx := v2) (Xs := [rows (rInt .i64) y (endsOf L)]) (T := []) hs4 (by omega) fun v5 w5 hs5 => ?_
    have hb66 := b.rec_len
    have hends : ((layL L).length : Int) + (n : Int) = ((layL (L ++ [b])).length : Int) := by
      rw [layL_append, List.length_append, hinv.2.2.1]
      show _ = (((layL L).length + (layL [b]).length : Nat) : Int)
      rw [layL_cons]
      simp [layL]
    rw [hends]
    refine rows_lit hs5 S_sl_int (q := rInt .i64) (l := [((layL (L ++ [b])).length : Int)]) (V := fun a => .int .i64 a) (fun a => rfl) rfl rfl (by decide) (by decide) fun g6 w6 hs6 => ?_
    refine rows_app S_sl_int U_sl_int (q := rInt .i64) (by simp) hs6.p2 (Sep.rows hs6) ?_ ?_ ?_ fun v7 w7 hs7 => ?_
    · simp only [List.flatMap_cons, List.flatMap_nil, List.append_nil]
      exact oneI
    · rw [endsOf_len]; simp; omega
    · rw [endsOf_len]; simp; omega
    have hlen : (layL (L ++ [b])).length ≤ l.length := by
      have h3 := congrArg List.length hinv.2.2.2
      have h4 := congrArg List.length hlt
      rw [layL_append, List.length_append]
      simp only [List.length_append] at h3 h4
      have : (layL [b]).length = b.rcd.length := by rw [layL_cons]; simp [layL]
      omega
    refine ⟨⟨B ++ [(b, v2)], t.drop n, by rw [← e], ?_, ?_, ?_⟩, ?_⟩
    · rw [← e]
      intro z hz
      rcases List.mem_append.1 hz with hz | hz
      · exact hg z hz
      · obtain rfl : z = b := by simpa using hz
        exact ⟨hinv.1, hinv.2.1⟩
    · rw [← e, layL_append, hlt, List.append_assoc]
      congr 1
      rw [hinv.2.2.2]
      rw [layL_cons]
      simp [layL, ← hinv.2.2.1]
    · rw [← e, endsOf_snoc]
      exact hs7.pick [2, 0] 3
    · have : (layL L).length < (layL (L ++ [b])).length := by omega
      simp only [RowKit.intOf]
      omega
  · have e : ((takeR t).2.2 != 0) = true := by rcases hne with h | h <;> rw [h] <;> rfl
    simp only [nilc_some, fad_mk, pik_true, pik_false, cnd_true, cnd_false, gif_same, gif_tf, gif_ft, gif_undef, bi_add, bi_sub, bi_mul, bi_eql, bi_neq, bi_lss, bi_leq, bi_gtr, bi_geq, notB_bool, cvi_int, lenS_mk, lenT_mk, ext0, ext1, ext2, nilP_mk, nilS_mk, fldv_agg, jn0_k, jn1_k, jn2_k, jn1_and, jn1_or, ex_some, Option.isNone_some, Option.isNone_none, Bool.false_bne, Bool.bne_true, Bool.bne_false, Bool.true_bne, Bool.not_true, Bool.not_false, Bool.and_true, Bool.true_and, Bool.and_false, Bool.false_and, Bool.or_true, Bool.true_or, Bool.or_false, Bool.false_or, cond_true, cond_false, List.getElem?_toArray, List.getElem?_cons_zero, List.getElem?_cons_succ, Nat.zero_add, Nat.add_zero, Nat.reduceAdd, forall_const, e]
    refine hR _ _ ⟨x, y, B, rfl, ?_, ?_⟩
    · rw [← hL]
      refine ⟨hg, t, hlt, by omega⟩
    · have h := Sep.tail (Sep.tail hs4)
      rw [List.append_nil] at h
      rw [← hL]
      exact h
theorem Scan_spec (hc : Cub w) (hb : RdB w.heap v l) (hcap : capOk v) (hl : l.length ≤ 1000000) : cal P f_rec_Scan [v] w fun r w' => ∃ (x : Value) (B : List BV), r = .tuple #[x, .int .i64 (layL (B.map (·.1))).length] ∧ IsScan l (B.map (·.1)) ∧ Sep w w' (brow x B) := by
  refine s_rec_Scan fun R hR => ?_
  unfold c_rec_Scan
  refine cal_i (scan_spec hc hb hcap hl) ?_
  rintro _ w1 ⟨x, y, B, rfl, hsc, hs1⟩
  have hrl := (Sep.rows hs1.p1).len
  have hle := layL_ge (B.map (·.1))
  have hsl := hsc.len
  rw [endsOf_len] at hrl
  simp only [nilc_some, fad_mk, pik_true, pik_false, cnd_true, cnd_false, gif_same, gif_tf, gif_ft, gif_undef, bi_add, bi_sub, bi_mul, bi_eql, bi_neq, bi_lss, bi_leq, bi_gtr, bi_geq, notB_bool, cvi_int, lenS_mk, lenT_mk, ext0, ext1, ext2, nilP_mk, nilS_mk, fldv_agg, jn0_k, jn1_k, jn2_k, jn1_and, jn1_or, ex_some, Option.isNone_some, Option.isNone_none, Bool.false_bne, Bool.bne_true, Bool.bne_false, Bool.true_bne, Bool.not_true, Bool.not_false, Bool.and_true, Bool.true_and, Bool.and_false, Bool.false_and, Bool.or_true, Bool.true_or, Bool.or_false, Bool.false_or, cond_true, cond_false, List.getElem?_toArray, List.getElem?_cons_zero, List.getElem?_cons_succ, Nat.zero_add, Nat.add_zero, Nat.reduceAdd, forall_const, hrl]
  by_cases h0 : B = []
  · subst h0
    simp only [List.map_nil, List.length_nil, nilc_some, fad_mk, pik_true, pik_false, cnd_true, cnd_false, gif_same, gif_tf, gif_ft, gif_undef, bi_add, bi_sub, bi_mul, bi_eql, bi_neq, bi_lss, bi_leq, bi_gtr, bi_geq, notB_bool, cvi_int, lenS_mk, lenT_mk, ext0, ext1, ext2, nilP_mk, nilS_mk, fldv_agg, jn0_k, jn1_k, jn2_k, jn1_and, jn1_or, ex_some, Option.isNone_some, Option.isNone_none, Bool.false_bne, Bool.bne_true, Bool.bne_false, Bool.true_bne, Bool.not_true, Bool.not_false, Bool.and_true, Bool.true_and, Bool.and_false, Bool.false_and, Bool.or_true, Bool.true_or, Bool.or_false, Bool.false_or, cond_true, cond_false, List.getElem?_toArray, List.getElem?_cons_zero, List.getElem?_cons_succ, Nat.zero_add, Nat.add_zero, Nat.reduceAdd, forall_const, show (((0 : Nat) : Int) == 0) = true from rfl]
    exact hR _ _ ⟨.slice none 0 0, [], rfl, hsc, hs1.tail.tail.nilR⟩
  · have hpos : 0 < B.length := List.length_pos_iff.2 h0
    have e : (((B.map (·.1)).length : Int) == 0) = false := by simp; omega
    simp only [nilc_some, fad_mk, pik_true, pik_false, cnd_true, cnd_false, gif_same, gif_tf, gif_ft, gif_undef, bi_add, bi_sub, bi_mul, bi_eql, bi_neq, bi_lss, bi_leq, bi_gtr, bi_geq, notB_bool, cvi_int, lenS_mk, lenT_mk, ext0, ext1, ext2, nilP_mk, nilS_mk, fldv_agg, jn0_k, jn1_k, jn2_k, jn1_and, jn1_or, ex_some, Option.isNone_some, Option.isNone_none, Bool.false_bne, Bool.bne_true, Bool.bne_false, Bool.true_bne, Bool.not_true, Bool.not_false, Bool.and_true, Bool.true_and, Bool.and_false, Bool.false_and, Bool.or_true, Bool.true_or, Bool.or_false, Bool.false_or, cond_true, cond_false, List.getElem?_toArray, List.getElem?_cons_zero, List.getElem?_cons_succ, Nat.zero_add, Nat.add_zero, Nat.reduceAdd, forall_const, e]
    refine drw_s hs1 fun w2 hs2 _ => ?_
    have hi : IntKind.i64.wrap (((B.map (·.1)).length : Int) - 1) = (((B.map (·.1)).length - 1 : Nat) : Int) := by
      simp only [List.length_map] at *
      rw [wi64 (by omega) (by omega)]; omega
    simp only [nilc_some, fad_mk, pik_true, pik_false, cnd_true, cnd_false, gif_same, gif_tf, gif_ft, gif_undef, bi_add, bi_sub, bi_mul, bi_eql, bi_neq, bi_lss, bi_leq, bi_gtr, bi_geq, notB_bool, cvi_int, lenS_mk, lenT_mk, ext0, ext1, ext2, nilP_mk, nilS_mk, fldv_agg, jn0_k, jn1_k, jn2_k, jn1_and, jn1_or, ex_some, Option.isNone_some, Option.isNone_none, Bool.false_bne, Bool.bne_true, Bool.bne_false, Bool.true_bne, Bool.not_true, Bool.not_false, Bool.and_true, Bool.true_and, Bool.and_false, Bool.false_and, Bool.or_true, Bool.true_or, Bool.or_false, Bool.false_or, cond_true, cond_false, List.getElem?_toArray, List.getElem?_cons_zero, List.getElem?_cons_succ, Nat.zero_add, Nat.add_zero, Nat.reduceAdd, forall_const, hi]
    refine Rows'.ldI (Sep.rows hs2.p1) (endsOf_last (by simpa using h0)) .i64 ?_
    refine hR _ _ ⟨x, B, rfl, hsc, ?_⟩
    exact (hs2.p1).tail
theorem rScan_spec (hb : RdB w.heap v l) (hcap : capOk v) (hl : l.length ≤ 1000000) : cal P f_ref09_Scan [v] w fun r w' => ∃ (x : Value) (B : List BV), r = .tuple #[x, .int .i64 (layL (B.map (·.1))).length] ∧ IsScan l (B.map (·.1)) ∧ Sep w w' (brow x B) := by
  refine s_ref09_Scan fun R hR => ?_
  unfold c_ref09_Scan
  refine ⟨fun x z w' => ∃ (B : List BV) (t : List UInt8), z = .int .i64 (layL (B.map (·.1))).length ∧ goodB (B.map (·.1)) ∧ l = layL (B.map (·.1)) ++ t ∧ Sep w w' (rows Q_api_Block x (B.map BV.t) :: (B.map oV ++ [])), fun _ z _ => (l.length - RowKit.intOf z).toNat,
    ⟨[], l, rfl, by intro b hb; simp at hb, rfl, (Sep.start w).nilR⟩, ?_⟩
  rintro x _ w1 ⟨B, t, rfl, hg, hlt, hs1⟩ -
  obtain ⟨L, hL⟩ : ∃ L, L = B.map (·.1) := ⟨_, rfl⟩
  rw [← hL] at hg hlt ⊢
  have hle : (layL L).length ≤ l.length := by rw [hlt]; simp
  have hLl : L.length = B.length := by rw [hL]; simp
  have h66 := layL_ge L
  refine cal_i (rRecTake_spec (a := ((layL L).length : Nat)) (hs1.rdB hb) hcap (by omega) (by omega)) ?_
  rintro _ w2 ⟨v2, rfl, hs2⟩
  replace hs2 := hs1.join hs2
  have hd : l.drop (layL L).length = t := by rw [hlt]; exact List.drop_left' rfl
  rw [takeX_at hle, hd] at hs2
  rw [takeX_at hle, hd]
  simp only [nilc_some, fad_mk, pik_true, pik_false, cnd_true, cnd_false, gif_same, gif_tf, gif_ft, gif_undef, bi_add, bi_sub, bi_mul, bi_eql, bi_neq, bi_lss, bi_leq, bi_gtr, bi_geq, notB_bool, cvi_int, lenS_mk, lenT_mk, ext0, ext1, ext2, nilP_mk, nilS_mk, fldv_agg, jn0_k, jn1_k, jn2_k, jn1_and, jn1_or, ex_some, Option.isNone_some, Option.isNone_none, Bool.false_bne, Bool.bne_true, Bool.bne_false, Bool.true_bne, Bool.not_true, Bool.not_false, Bool.and_true, Bool.true_and, Bool.and_false, Bool.false_and, Bool.or_true, Bool.true_or, Bool.or_false, Bool.false_or, cond_true, cond_false, List.getElem?_toArray, List.getElem?_cons_zero, List.getElem?_cons_succ, Nat.zero_add, Nat.add_zero, Nat.reduceAdd, forall_const]
  refine alloc_s hs2 (A_api_Block w2) fun g3 w3 hs3 => ?_
  refine St_api_Block hs3 (one_api_Block (Sep.one hs3.p1)) fun w4 hs4 => ?_
  rcases takeR_err t with h0 | ⟨hn, hn0, hne⟩
  · obtain ⟨b, n, hx⟩ : ∃ b n, takeR t = (b, n, 0) := ⟨_, _, by rw [← h0]⟩
    rw [hx] at hs4 ⊢
    have hinv := take_inv hx
    simp only [nilc_some, fad_mk, pik_true, pik_false, cnd_true, cnd_false, gif_same, gif_tf, gif_ft, gif_undef, bi_add, bi_sub, bi_mul, bi_eql, bi_neq, bi_lss, bi_leq, bi_gtr, bi_geq, notB_bool, cvi_int, lenS_mk, lenT_mk, ext0, ext1, ext2, nilP_mk, nilS_mk, fldv_agg, jn0_k, jn1_k, jn2_k, jn1_and, jn1_or, ex_some, Option.isNone_some, Option.isNone_none, Bool.false_bne, Bool.bne_true, Bool.bne_false, Bool.true_bne, Bool.not_true, Bool.not_false, Bool.and_true, Bool.true_and, Bool.and_false, Bool.false_and, Bool.or_true, Bool.true_or, Bool.or_false, Bool.false_or, cond_true, cond_false, List.getElem?_toArray, List.getElem?_cons_zero, List.getElem?_cons_succ, Nat.zero_add, Nat.add_zero, Nat.reduceAdd, forall_const, show ((0 : Int) != 0) = false from rfl, ↓reduceIte]
    simp only [L_api_Block hs4.blk, L_api_Block__Parent hs4.blk, L_api_Block__Height hs4.blk, L_api_Block__Data hs4.blk]
    have e : L ++ [b] = (B ++ [(b, v2)]).map (·.1) := by rw [hL]; simp
    refine app_blk (x := b) (vx := v2) (Xs := []) (T := []) hs4 (by omega) fun v5 w5 hs5 => ?_
    have hb66 := b.rec_len
    have hends : ((layL L).length : Int) + (n : Int) = ((layL (L ++ [b])).length : Int) := by
      rw [layL_append, List.length_append, hinv.2.2.1]
      show _ = (((layL L).length + (layL [b]).length : Nat) : Int)
      rw [layL_cons]
      simp [layL]
    rw [hends]
    have hlen : (layL (L ++ [b])).length ≤ l.length := by
      have h3 := congrArg List.length hinv.2.2.2
      have h4 := congrArg List.length hlt
      rw [layL_append, List.length_append]
      simp only [List.length_append] at h3 h4
      have : (layL [b]).length = b.rcd.length := by rw [layL_cons]; simp [layL]
      omega
    refine ⟨⟨B ++ [(b, v2)], t.drop n, by rw [← e], ?_, ?_, hs5⟩, ?_⟩
    · rw [← e]
      intro z hz
      rcases List.mem_append.1 hz with hz | hz
      · exact hg z hz
      · obtain rfl : z = b := by simpa using hz
        exact ⟨hinv.1, hinv.2.1⟩
    · rw [← e, layL_append, hlt, List.append_assoc]
      congr 1
      rw [hinv.2.2.2]
      rw [layL_cons]
      simp [layL, ← hinv.2.2.1]
    · have : (layL L).length < (layL (L ++ [b])).length := by omega
      simp only [RowKit.intOf]
      omega
  · have e : ((takeR t).2.2 != 0) = true := by rcases hne with h | h <;> rw [h] <;> rfl
    simp only [nilc_some, fad_mk, pik_true, pik_false, cnd_true, cnd_false, gif_same, gif_tf, gif_ft, gif_undef, bi_add, bi_sub, bi_mul, bi_eql, bi_neq, bi_lss, bi_leq, bi_gtr, bi_geq, notB_bool, cvi_int, lenS_mk, lenT_mk, ext0, ext1, ext2, nilP_mk, nilS_mk, fldv_agg, jn0_k, jn1_k, jn2_k, jn1_and, jn1_or, ex_some, Option.isNone_some, Option.isNone_none, Bool.false_bne, Bool.bne_true, Bool.bne_false, Bool.true_bne, Bool.not_true, Bool.not_false, Bool.and_true, Bool.true_and, Bool.and_false, Bool.false_and, Bool.or_true, Bool.true_or, Bool.or_false, Bool.false_or, cond_true, cond_false, List.getElem?_toArray, List.getElem?_cons_zero, List.getElem?_cons_succ, Nat.zero_add, Nat.add_zero, Nat.reduceAdd, forall_const, e]
    refine hR _ _ ⟨x, B, by rw [← hL], ?_, ?_⟩
    · rw [← hL]
      refine ⟨hg, t, hlt, by omega⟩
    · have h := Sep.tail (Sep.tail hs4)
      rw [List.append_nil] at h
      exact h
theorem SameAll_spec (hu : BRows w.heap u B) (hv : BRows w.heap v C) (h63 : B.length ≤ 9223372036854775807) : cal P f_ref09_SameAll [u, v] w fun r w' => r = .bool (decide (B.map (·.1) = C.map (·.1))) ∧ Fr [] w w' := by
  refine s_ref09_SameAll fun R hR => ?_
  unfold c_ref09_SameAll
  simp only [hu.len, hv.len, nilc_some, fad_mk, pik_true, pik_false, cnd_true, cnd_false, gif_same, gif_tf, gif_ft, gif_undef, bi_add, bi_sub, bi_mul, bi_eql, bi_neq, bi_lss, bi_leq, bi_gtr, bi_geq, notB_bool, cvi_int, lenS_mk, lenT_mk, ext0, ext1, ext2, nilP_mk, nilS_mk, fldv_agg, jn0_k, jn1_k, jn2_k, jn1_and, jn1_or, ex_some, Option.isNone_some, Option.isNone_none, Bool.false_bne, Bool.bne_true, Bool.bne_false, Bool.true_bne, Bool.not_true, Bool.not_false, Bool.and_true, Bool.true_and, Bool.and_false, Bool.false_and, Bool.or_true, Bool.true_or, Bool.or_false, Bool.false_or, cond_true, cond_false, List.getElem?_toArray, List.getElem?_cons_zero, List.getElem?_cons_succ, Nat.zero_add, Nat.add_zero, Nat.reduceAdd, forall_const]
  rw [cnd_bool]
  refine ⟨fun h => ?_, fun h => ?_⟩
  · refine hR _ _ ⟨?_, Fr.refl _ _⟩
    have h : ¬ B.length = C.length := by simp at h; omega
    rw [decide_eq_false fun he => h (by have := congrArg List.length he; simpa using this)]
  · have hlen : B.length = C.length := by simp at h; omega
    refine ⟨fun y w' => ∃ i : Nat, y = .int .i64 i ∧ i ≤ B.length ∧ (B.map (·.1)).take i = (C.map (·.1)).take i ∧ Sep w w' [], fun y _ => (B.length - RowKit.intOf y).toNat, ⟨0, rfl, by omega, by simp, Sep.start w⟩, ?_⟩
    rintro _ w1 ⟨i, rfl, hi, heq, hs1⟩ -
    simp only [nilc_some, fad_mk, pik_true, pik_false, cnd_true, cnd_false, gif_same, gif_tf, gif_ft, gif_undef, bi_add, bi_sub, bi_mul, bi_eql, bi_neq, bi_lss, bi_leq, bi_gtr, bi_geq, notB_bool, cvi_int, lenS_mk, lenT_mk, ext0, ext1, ext2, nilP_mk, nilS_mk, fldv_agg, jn0_k, jn1_k, jn2_k, jn1_and, jn1_or, ex_some, Option.isNone_some, Option.isNone_none, Bool.false_bne, Bool.bne_true, Bool.bne_false, Bool.true_bne, Bool.not_true, Bool.not_false, Bool.and_true, Bool.true_and, Bool.and_false, Bool.false_and, Bool.or_true, Bool.true_or, Bool.or_false, Bool.false_or, cond_true, cond_false, List.getElem?_toArray, List.getElem?_cons_zero, List.getElem?_cons_succ, Nat.zero_add, Nat.add_zero, Nat.reduceAdd, forall_const]
    rw [cnd_bool]
    refine ⟨fun h => ?_, fun h => ?_⟩
    · have hlt : i < B.length := by simp at h; omega
      have hx := List.getElem?_eq_getElem hlt
      have hy := List.getElem?_eq_getElem (show i < C.length by omega)
      generalize B[i] = x at hx
      generalize C[i] = y at hy
      refine drH_S hs1 fun w2 hs2 _ => ?_
      refine rdS_rowN (q := Q_api_Block) (l := B.map BV.t) (a := x.t) (by decide) hs2 (fun u hu' => (hu.fr hu'.fr0).1) (by rw [List.getElem?_map, hx]; rfl) .i64 ?_
      refine rdS_rowN (q := Q_api_Block) (l := C.map BV.t) (a := y.t) (by decide) hs2 (fun u hu' => (hv.fr hu'.fr0).1) (by rw [List.getElem?_map, hy]; rfl) .i64 ?_
      refine efC_calA (w0 := w) (As := []) (cal_i (rSame_spec (a := x.1) (b := y.1) (u := x.2) (v := y.2) (hs2.rdB (hu.get hx)) (hs2.rdB (hv.get hy))) ?_)
      rintro _ w3 ⟨rfl, hf3⟩
      have hs3 := hs2.old hf3
      refine ⟨hs3, ?_⟩
      have hx' : (B.map (·.1))[i]? = some x.1 := by rw [List.getElem?_map, hx]; rfl
      have hy' : (C.map (·.1))[i]? = some y.1 := by rw [List.getElem?_map, hy]; rfl
      simp only [nilc_some, fad_mk, pik_true, pik_false, cnd_true, cnd_false, gif_same, gif_tf, gif_ft, gif_undef, bi_add, bi_sub, bi_mul, bi_eql, bi_neq, bi_lss, bi_leq, bi_gtr, bi_geq, notB_bool, cvi_int, lenS_mk, lenT_mk, ext0, ext1, ext2, nilP_mk, nilS_mk, fldv_agg, jn0_k, jn1_k, jn2_k, jn1_and, jn1_or, ex_some, Option.isNone_some, Option.isNone_none, Bool.false_bne, Bool.bne_true, Bool.bne_false, Bool.true_bne, Bool.not_true, Bool.not_false, Bool.and_true, Bool.true_and, Bool.and_false, Bool.false_and, Bool.or_true, Bool.true_or, Bool.or_false, Bool.false_or, cond_true, cond_false, List.getElem?_toArray, List.getElem?_cons_zero, List.getElem?_cons_succ, Nat.zero_add, Nat.add_zero, Nat.reduceAdd, forall_const]
      rw [cnd_bool]
      refine ⟨fun hne => ?_, fun he => ?_⟩
      · have hne : ¬ x.1 = y.1 := by simpa using hne
        refine hR _ _ ⟨?_, hs3.fr0⟩
        rw [decide_eq_false fun he => hne ?_]
        rw [he, hy'] at hx'
        exact (Option.some.inj hx').symm
      · have he : x.1 = y.1 := by simpa using he
        rw [wi64 (by omega) (by omega)]
        refine ⟨⟨i + 1, by simp, by omega, take_more heq (by rw [hx', hy', he]), hs3⟩, by simp [RowKit.intOf]; omega⟩
    · have hge : i = B.length := by simp at h; omega
      subst hge
      refine hR _ _ ⟨?_, hs1.fr0⟩
      rw [List.take_of_length_le (by simp), List.take_of_length_le (by simp; omega)] at heq
      rw [decide_eq_true heq]
end
end Go.Fx
set_option linter.unusedVariables false
set_option linter.unusedSimpArgs false
namespace Go.Fx
/-- Each is a child of the one ahead of it. -/
def linked : Blk → List Blk → Prop
  | _, [] => True
  | a, b :: l => b.link a = 0 ∧ linked b l
def linkT : Blk → List Blk → List Blk
  | _, [] => []
  | a, b :: l => if b.link a = 0 then b :: linkT b l else []
def lastB : Blk → List Blk → Blk
  | a, [] => a
  | _, b :: l => lastB b l
theorem lastB_get : ∀ (a : Blk) (l : List Blk), (a :: l)[l.length]? = some (lastB a l)
  | a, [] => rfl
  | a, b :: l => by
    rw [List.length_cons, List.getElem?_cons_succ]
    exact lastB_get b l
theorem lastB_snoc : ∀ (a : Blk) (l : List Blk) (b : Blk), lastB a (l ++ [b]) = b
  | a, [], b => rfl
  | a, c :: l, b => lastB_snoc c l b
theorem linkT_self : ∀ {a : Blk} {l : List Blk}, linked a l → linkT a l = l
  | a, [], _ => rfl
  | a, b :: l, h => by
    unfold linkT
    rw [if_pos h.1, linkT_self h.2]
theorem linkT_linked : ∀ (a : Blk) (l : List Blk), linked a (linkT a l)
  | a, [] => trivial
  | a, b :: l => by
    unfold linkT
    by_cases h : b.link a = 0
    · rw [if_pos h]
      exact ⟨h, linkT_linked b l⟩
    · rw [if_neg h]
      trivial
theorem linked_snoc : ∀ {a : Blk} {l : List Blk} {b : Blk}, linked a l → b.link (lastB a l) = 0 → linked a (l ++ [b])
  | a, [], b, _, h => ⟨h, trivial⟩
  | a, c :: l, b, hl, h => ⟨hl.1, linked_snoc hl.2 h⟩
theorem linkT_take : ∀ {l : List Blk} {a b : Blk} {i : Nat}, linked a (l.take i) → l[i]? = some b → b.link (lastB a (l.take i)) ≠ 0 → linkT a l = l.take i
  | [], a, b, i, _, h, _ => by simp at h
  | c :: l, a, b, 0, _, h, hn => by
    simp only [List.getElem?_cons_zero, Option.some.injEq] at h
    subst h
    have hn : c.link a ≠ 0 := hn
    unfold linkT
    rw [if_neg hn]
    rfl
  | c :: l, a, b, i + 1, hl, h, hn => by
    rw [List.take_succ_cons] at hl hn ⊢
    unfold linkT
    rw [if_pos hl.1, linkT_take hl.2 (by simpa using h) hn]
theorem linkT_pre : ∀ (a : Blk) (l : List Blk), ∃ t, l = linkT a l ++ t
  | a, [] => ⟨[], rfl⟩
  | a, b :: l => by
    unfold linkT
    by_cases h : b.link a = 0
    · obtain ⟨t, ht⟩ := linkT_pre b l
      rw [if_pos h]
      exact ⟨t, by rw [List.cons_append, ← ht]⟩
    · rw [if_neg h]
      exact ⟨b :: l, rfl⟩
theorem link_chk {c b : Blk} (h : c.link b = 0) : c.chk = 0 ∧ b.chk = 0 ∧ c.p = b.id ∧ c.h = b.h + 1 := by
  unfold Blk.link at h
  split at h
  · cases h
  rename_i h1
  split at h
  · rename_i h2
    exact ⟨Decidable.byContradiction fun hc => h1 (.inr hc) |> fun h => h, Decidable.byContradiction fun hc => h1 (.inl hc), h2⟩
  · cases h
/-- What a tape's bytes are scanned as, whatever is left of a record that the power cut off. -/
theorem scan_part {L : List Blk} (hg : goodB L) {b : Blk} (hc : b.chk = 0) {j : Nat} (hj : j < b.rcd.length) : IsScan (layL L ++ b.rcd.take j) L := by
  refine ⟨hg, b.rcd.take j, rfl, ?_⟩
  have h := take_cut (s := []) hc hj
  rw [List.append_nil] at h
  rw [h]
  decide
theorem scan_all {L : List Blk} (hg : goodB L) : IsScan (layL L) L := ⟨hg, [], (List.append_nil _).symm, by rw [takeR_nil]; decide⟩
end Go.Fx
set_option linter.unusedVariables false
set_option linter.unusedSimpArgs false
namespace Go.Fx
/-- An entry: its key, its value, and when it came. -/
abbrev Ent (n : Nat) := Vec n × Value × Nat
abbrev kv {n : Nat} (k : Vec n) : Value := .agg (Rdr.cells (rVec n) k).toArray
def entM {n : Nat} (x : Ent n) : MapEntry := { key := kv x.1, val := x.2.1, born := x.2.2 }
def ents {n : Nat} (l : List (Ent n)) : Array MapEntry := (l.map entM).toArray
/-- Where a key stands, and what it has. -/
def findE {n : Nat} (k : Vec n) : List (Ent n) → Nat → Option (Nat × Value)
  | [], _ => none
  | x :: l, i => if k = x.1 then some (i, x.2.1) else findE k l (i + 1)
/-- The facts on a type of keys. -/
structure KeyT (P : Program) (T E n : Nat) : Prop where
  und : P.underlying T = some (.array n E)
  el : P.underlying E = some (.int .u8)
  siz : size? P E = some 1
  agg : aggr P E = some false
  eq : EqT P T (rVec n) true 2
section
variable {P : Program} {T E n : Nat} {w : World}
theorem run_key (hT : KeyT P T E n) (k : Vec n) (b : Bool) (d : Nat) : (Instr.checkKey b (d + 2) T (kv k)).run P w = .ok () w := by
  rw [show d + 2 = (d + 1) + 1 from rfl, Instr.checkKey]
  simp only [Sem.run_bind, run_underlying hT.und, Result.andThen_ok]
  simp only [Std.Legacy.Range.forIn_eq_forIn_range', Std.Legacy.Range.size, Nat.sub_zero, Nat.add_one_sub_one, Nat.div_one]
  have each : ∀ j ∈ List.range' 0 n, j < n := fun j hj => by simpa using hj
  generalize List.range' 0 n = is at each
  induction is with
  | nil => simp
  | cons j is ih =>
    have hj := each j (by simp)
    have hv : (Rdr.cells (rVec n) k).toArray[j]? = some (bv (k.1[j]'(by rw [k.2]; exact hj))) := by
      show (bvs k.1).toArray[j]? = _
      rw [List.getElem?_toArray]
      unfold bvs
      rw [List.getElem?_map, List.getElem?_eq_getElem (by rw [k.2]; exact hj)]
      rfl
    have p1 : (Go.part E (Rdr.cells (rVec n) k).toArray (j * 1)).run P w = .ok (bv (k.1[j]'(by rw [k.2]; exact hj))) w := by
      unfold Go.part
      simp [run_isAgg hT.agg, hv]
    have p2 : (Instr.checkKey b (d + 1) E (bv (k.1[j]'(by rw [k.2]; exact hj)))).run P w = .ok () w := by
      rw [Instr.checkKey]
      simp [run_underlying hT.el, bv]
    simp only [List.forIn_cons, Sem.run_bind, run_sizeOf hT.siz, Result.andThen_ok, p1, p2, Sem.run_pure]
    exact ih fun y hy => each y (by simp [hy])
theorem run_keyEq (hT : KeyT P T E n) (a b : Vec n) : (Op.equal T (kv a) (kv b)).run P w = .ok (decide (a = b)) w := hT.eq.eq 10000 (by decide) w a b
theorem run_find (hT : KeyT P T E n) (k : Vec n) : ∀ (l : List (Ent n)) (i : Nat), (Instr.findAsking T (kv k) (l.map entM) i).run P w = .ok (findE k l i) w
  | [], i => by simp [Instr.findAsking, findE]
  | x :: l, i => by
    rw [List.map_cons, Instr.findAsking]
    have h := run_keyEq (w := w) hT k x.1
    simp only [Sem.run_bind]
    rw [show (entM x).key = kv x.1 from rfl, h]
    simp only [Result.andThen_ok, findE]
    by_cases hk : k = x.1
    · simp [hk, entM]
    · simp only [hk, decide_false, Bool.false_eq_true, if_false]
      exact run_find hT k l (i + 1)
theorem run_findKey (hT : KeyT P T E n) (k : Vec n) (l : List (Ent n)) : (Instr.findKey T (kv k) (ents l).toList).run P w = .ok (findE k l 0) w := by
  rw [run_findKey_eq w (by rw [hT.und])]
  exact run_find hT k l 0
theorem get_map {g c : Nat} {es : Array MapEntry} (hg : w.heap[g]? = some (.map es c)) : (getObj g).run P w = .ok (.map es c) w := by simp [getObj, Sem.run, hg]
theorem set_map {g c : Nat} {es : Array MapEntry} (o : Obj) (hg : w.heap[g]? = some (.map es c)) : (setObj g o).run P w = .ok () (setBlk w g o) := by simp [setObj, Sem.run, hg, setBlk]
/-- What a key has. -/
def getE (k : Vec n) (l : List (Ent n)) : Option Value := (l.find? fun x => decide (k = x.1)).map (·.2.1)
theorem findE_get (k : Vec n) : ∀ (l : List (Ent n)) (i : Nat), (findE k l i).map (·.2) = getE k l
  | [], i => rfl
  | x :: l, i => by
    unfold findE getE
    by_cases h : k = x.1
    · simp [h]
    · simp only [h, if_false, List.find?_cons, decide_false]
      exact findE_get k l (i + 1)
theorem lookup_map {M V g c : Nat} {l : List (Ent n)} {z : Value} (hM : P.underlying M = some (.map T V)) (hT : KeyT P T E n) (hz : (zeroValue V).run P w = .ok z w) (hg : w.heap[g]? = some (.map (ents l) c)) (k : Vec n) (K : Value → Prop) :
    rdP P (Instr.lookup M (.map (some g)) (kv k) true) w K = K (.tuple #[(getE k l).getD z, .bool (getE k l).isSome]) := by
  refine rdP_eq ?_ K
  unfold Instr.lookup
  simp only [Sem.run_bind, run_underlying hM, Result.andThen_ok, get_map hg, Sem.run_pure, run_key hT k _ 9998, run_findKey hT k l]
  rw [← findE_get k l 0]
  cases h : findE k l 0 with
  | none => simp [hz]
  | some x => simp
theorem lookup_map1 {M V g c : Nat} {l : List (Ent n)} {z : Value} (hM : P.underlying M = some (.map T V)) (hT : KeyT P T E n) (hz : (zeroValue V).run P w = .ok z w) (hg : w.heap[g]? = some (.map (ents l) c)) (k : Vec n) (K : Value → Prop) :
    rdP P (Instr.lookup M (.map (some g)) (kv k) false) w K = K ((getE k l).getD z) := by
  refine rdP_eq ?_ K
  unfold Instr.lookup
  simp only [Sem.run_bind, run_underlying hM, Result.andThen_ok, get_map hg, Sem.run_pure, run_key hT k _ 9998, run_findKey hT k l]
  rw [← findE_get k l 0]
  cases h : findE k l 0 with
  | none => simp [hz]
  | some x => simp
theorem getE_none {k : Vec n} {l : List (Ent n)} (h : getE k l = none) (i : Nat) : findE k l i = none := by
  have := findE_get k l i
  rw [h] at this
  simpa using this
theorem map_erase {α β : Type} (f : α → β) : ∀ (l : List α) (i : Nat), (l.map f).eraseIdx i = (l.eraseIdx i).map f
  | [], _ => by simp
  | _ :: _, 0 => rfl
  | a :: l, i + 1 => by simp [map_erase f l i]
/-- What a key has no longer. -/
def delE (k : Vec n) (l : List (Ent n)) : List (Ent n) := match findE k l 0 with
  | some (i, _) => l.eraseIdx i
  | none => l
abbrev mp (g : Nat) (l : List (Ent n)) (c : Nat) : Asn := Asn.obj g (.map (ents l) c)
variable {w0 : World} {As : List Asn}
theorem makeMap_s {t : TypeId} {K : Value → World → Prop} (hs : Sep w0 w As) (h : ∀ g w', Sep w0 w' (mp (n := n) g [] 0 :: As) → K (.map (some g)) w') : efP P (Instr.makeMap t none) w K :=
  ⟨.map (some w.heap.size), w.alloc (.map #[] 0), rfl, h _ _ (hs.new (fr_alloc w _) (B := mp _ [] 0) ⟨alloc_new w _, rfl⟩ (by simp))⟩
theorem Sep.map {g c : Nat} {l : List (Ent n)} (hs : Sep w0 w (mp g l c :: As)) : w.heap[g]? = some (.map (ents l) c) := by
  obtain ⟨F, hF, _⟩ := hs.head
  exact hF
/-- A key that is not there yet. -/
theorem putNew_s {M V g c : Nat} {l : List (Ent n)} {k : Vec n} {v : Value} {K : World → Prop} (hM : P.underlying M = some (.map T V)) (hT : KeyT P T E n) (hs : Sep w0 w (mp g l c :: As)) (hk : getE k l = none)
    (h : ∀ w', Sep w0 w' (mp g (l ++ [(k, v, c)]) (c + 1) :: As) → K w') : efU P (Instr.mapUpdate M (.map (some g)) (kv k) v) w K := by
  have hg := hs.map
  obtain ⟨F, ⟨hb, rfl⟩, hu⟩ := hs.upd
  have e : (ents l).push (entM (k, v, c)) = ents (l ++ [(k, v, c)]) := by
    apply Array.ext'
    simp [ents]
  refine ⟨setBlk w g (.map (ents (l ++ [(k, v, c)])) (c + 1)), ?_, h _ (hu _ [g] (mp g _ _) ⟨setBlk_self w g _ _ hb, rfl⟩ (fr_setBlk w g _) (Grew.refl _ _))⟩
  unfold Instr.mapUpdate
  simp only [Sem.run_bind, run_underlying hM, Result.andThen_ok, get_map hg, run_key hT k _ 9998, run_findKey hT k l, getE_none hk 0]
  rw [← e]
  exact set_map _ hg
theorem del_s {M V g c t ty : Nat} {l : List (Ent n)} {k : Vec n} {K : Value → World → Prop} (hM : P.underlying M = some (.map T V)) (hT : KeyT P T E n) (hs : Sep w0 w (mp g l c :: As))
    (h : ∀ w', Sep w0 w' (mp g (delE k l) c :: As) → K (.tuple #[]) w') : efP P (Builtin.delete_ #[M, t] ty #[.map (some g), kv k]) w K := by
  have hg := hs.map
  obtain ⟨F, ⟨hb, rfl⟩, hu⟩ := hs.upd
  refine ⟨.tuple #[], setBlk w g (.map (ents (delE k l)) c), ?_, h _ (hu _ [g] (mp g _ _) ⟨setBlk_self w g _ _ hb, rfl⟩ (fr_setBlk w g _) (Grew.refl _ _))⟩
  unfold Builtin.delete_
  simp only [List.getElem?_toArray, List.getElem?_cons_zero, List.getElem?_cons_succ, Sem.run_bind, run_underlying hM, Result.andThen_ok, get_map hg, run_key hT k _ 9998, run_findKey hT k l]
  unfold delE
  cases hf : findE k l 0 with
  | none => simp [set_map _ hg]
  | some x =>
    obtain ⟨i, y⟩ := x
    have e : (ents l).eraseIdxIfInBounds i = ents (l.eraseIdx i) := by
      apply Array.ext'
      simp [ents, map_erase]
    simp [set_map _ hg, e]
theorem len_map {M V g c ty : Nat} {l : List (Ent n)} (hM : P.underlying M = some (.map T V)) (hg : w.heap[g]? = some (.map (ents l) c)) (hl : l.length ≤ 9223372036854775807) (K : Value → Prop) : rdP P (Builtin.len_ #[M] ty #[.map (some g)]) w K = K (.int .i64 l.length) := by
  refine rdP_eq ?_ K
  unfold Builtin.len_
  simp [run_underlying hM, get_map hg, ents, goInt]
end
end Go.Fx
set_option linter.unusedVariables false
set_option linter.unusedSimpArgs false
namespace Go.Fx
section
variable {P : Program} {n : Nat} {w0 w : World} {As : List Asn}
abbrev mit (gi gm c : Nat) (D : List (Ent n)) : Asn := Asn.obj gi (.mapIter (some gm) c (D.map (·.2.2)).toArray c)
theorem range_s {M T V gm c : Nat} {E : List (Ent n)} {K : Value → World → Prop} (hM : P.underlying M = some (.map T V)) (hs : Sep w0 w As) (hm : w.heap[gm]? = some (.map (ents E) c))
    (h : ∀ gi w', Sep w0 w' (mit (n := n) gi gm c [] :: As) → K (.pointer (some ⟨gi, 0, none⟩)) w') : efP P (Instr.range M (.map (some gm))) w K := by
  refine ⟨.pointer (some ⟨w.heap.size, 0, none⟩), w.alloc (.mapIter (some gm) c #[] c), ?_, h _ _ (hs.new (fr_alloc w _) (B := mit w.heap.size gm c []) ⟨alloc_new w _, rfl⟩ (by simp))⟩
  unfold Instr.range
  simp only [Sem.run_bind, run_underlying hM, Result.andThen_ok, get_map hm, Sem.run_pure]
  rfl
theorem mem_left {E : List (Ent n)} {D : List (Ent n)} {e : MapEntry} : e ∈ (leftOf (ents E) (D.map (·.2.2)).toArray).toList ↔ ∃ x ∈ E, e = entM x ∧ x.2.2 ∉ D.map (·.2.2) := by
  unfold leftOf ents
  simp only [Array.toList_filter, List.mem_filter, List.mem_map, Bool.not_eq_true', Array.contains_toList, List.contains_toArray]
  constructor
  · rintro ⟨⟨x, hx, rfl⟩, h⟩
    refine ⟨x, hx, rfl, ?_⟩
    rintro ⟨y, hy, he⟩
    have : (List.map (fun x => x.2.2) D).contains (entM x).born = true := by
      rw [List.contains_iff_mem]
      exact List.mem_map.2 ⟨y, hy, he⟩
    rw [h] at this
    cases this
  · rintro ⟨x, hx, rfl, h⟩
    refine ⟨⟨x, hx, rfl⟩, ?_⟩
    cases hc : (List.map (fun x => x.2.2) D).contains (entM x).born with
    | false => rfl
    | true =>
      rw [List.contains_iff_mem] at hc
      exact absurd (List.mem_map.1 hc) h
theorem next_s {gi gm c ty : Nat} {E D : List (Ent n)} {K : Value → World → Prop} (hs : Sep w0 w (mit gi gm c D :: As)) (hm : w.heap[gm]? = some (.map (ents E) c)) (hlt : ∀ x ∈ E, x.2.2 < c)
    (hend : (∀ x ∈ E, x.2.2 ∈ D.map (·.2.2)) → K (.tuple #[.bool false]) w)
    (hstep : ∀ x w', x ∈ E → x.2.2 ∉ D.map (·.2.2) → w'.heap[gm]? = some (.map (ents E) c) → Sep w0 w' (mit gi gm c (D ++ [x]) :: As) → K (.tuple #[.bool true, kv x.1, x.2.1]) w') :
    efP P (Instr.next (.pointer (some ⟨gi, 0, none⟩)) false ty) w K := by
  have hg : w.heap[gi]? = some (.mapIter (some gm) c (D.map (·.2.2)).toArray c) := by
    obtain ⟨F, ⟨hb, rfl⟩, hk⟩ := hs.upd
    exact hb
  have hne : gm ≠ gi := fun he => by rw [he, hg] at hm; cases hm
  rcases run_next_at (P := P) w ty gi gm c c (D.map (·.2.2)).toArray (ents E) c hg hm (fun x hx => by
      obtain ⟨y, hy, rfl⟩ : ∃ y ∈ E, entM y = x := by simpa [ents] using hx
      exact hlt y hy) (Nat.le_refl _) with ⟨h0, hr⟩ | ⟨e, he, w1, hw1, hr⟩
  · refine ⟨_, _, hr, hend fun x hx => ?_⟩
    cases hc : decide (x.2.2 ∈ D.map (·.2.2)) with
    | true => exact of_decide_eq_true hc
    | false =>
      have := mem_left.2 ⟨x, hx, rfl, of_decide_eq_false hc⟩
      have h1 : (leftOf (ents E) (D.map (·.2.2)).toArray).toList = [] := List.eq_nil_of_length_eq_zero (by simpa using h0)
      rw [h1] at this
      cases this
  · obtain ⟨x, hx, rfl, hn⟩ := mem_left.1 he
    refine ⟨_, _, hr, ?_⟩
    have hs1 : Sep w0 w1 (mit gi gm c D :: As) := by
      rcases hw1 with rfl | rfl
      · exact hs
      · exact hs.drew _
    have hm1 : w1.heap[gm]? = some (.map (ents E) c) := by rcases hw1 with rfl | rfl <;> exact hm
    obtain ⟨F, ⟨hb, rfl⟩, hk⟩ := hs1.upd
    have e1 : (D.map (·.2.2)).toArray.push (entM x).born = ((D ++ [x]).map (·.2.2)).toArray := by
      apply Array.ext'
      simp [entM]
    rw [e1]
    refine hstep x _ hx hn ?_ (hk _ [gi] (mit gi gm c (D ++ [x])) ⟨setBlk_self w1 gi _ _ hb, rfl⟩ (fr_setBlk w1 gi _) (Grew.refl _ _))
    show (setBlk w1 gi _).heap[gm]? = _
    rw [setBlk_ne w1 _ hne]
    exact hm1
theorem entry_i {gi gm c : Nat} {E D : List (Ent n)} {x : Ent n} {h : Heap} (hg : w.heap[gi]? = some (.mapIter (some gm) c ((D ++ [x]).map (·.2.2)).toArray c)) (hm : w.heap[gm]? = some (.map (ents E) c)) (hx : x ∈ E) (hb : (E.map (·.2.2)).Nodup) (K : Value → Prop) :
    rdP P (Instr.entry (.pointer (some ⟨gi, 0, none⟩))) w K = K (.tuple #[kv x.1, x.2.1]) := by
  refine rdP_eq ?_ K
  have e1 : (D.map (·.2.2)).toArray.push (entM x).born = ((D ++ [x]).map (·.2.2)).toArray := by
    apply Array.ext'
    simp [entM]
  rw [← e1] at hg
  exact run_entry_at w gi gm c _ (ents E) c (entM x) hg hm (by simp only [ents, List.mem_map]; exact ⟨x, hx, rfl⟩) (by
    have : (ents E).toList.map (·.born) = E.map (·.2.2) := by simp [ents, entM, Function.comp_def]
    rw [this]; exact hb)
/-- A key's value, by the entries. -/
theorem getE_iff {k : Vec n} {v : Value} : ∀ {l : List (Ent n)}, (l.map (·.1)).Nodup → (getE k l = some v ↔ ∃ x ∈ l, x.1 = k ∧ x.2.1 = v)
  | [], _ => by simp [getE]
  | y :: l, hn => by
    rw [List.map_cons, List.nodup_cons] at hn
    have ih := getE_iff (k := k) (v := v) hn.2
    unfold getE at ih ⊢
    by_cases hk : k = y.1
    · subst hk
      rw [List.find?_cons_of_pos (by simp)]
      simp only [Option.map_some, Option.some.injEq]
      constructor
      · intro h; exact ⟨y, by simp, rfl, h⟩
      · rintro ⟨x, hx, h1, h2⟩
        rcases List.mem_cons.1 hx with rfl | hx
        · exact h2
        · exact absurd (h1 ▸ List.mem_map_of_mem hx) hn.1
    · rw [List.find?_cons_of_neg (by simpa using hk), ih]
      constructor
      · rintro ⟨x, hx, h⟩; exact ⟨x, by simp [hx], h⟩
      · rintro ⟨x, hx, h1, h2⟩
        rcases List.mem_cons.1 hx with rfl | hx
        · exact absurd h1.symm hk
        · exact ⟨x, hx, h1, h2⟩
theorem getE_perm {k : Vec n} {l m : List (Ent n)} (hp : l.Perm m) (hn : (l.map (·.1)).Nodup) : getE k l = getE k m := by
  have hn2 : (m.map (·.1)).Nodup := (hp.map _).nodup_iff.1 hn
  cases h1 : getE k l with
  | some v =>
    obtain ⟨x, hx, h⟩ := (getE_iff hn).1 h1
    exact ((getE_iff hn2).2 ⟨x, hp.mem_iff.1 hx, h⟩).symm
  | none =>
    cases h2 : getE k m with
    | none => rfl
    | some v =>
      obtain ⟨x, hx, h⟩ := (getE_iff hn2).1 h2
      rw [(getE_iff hn).2 ⟨x, hp.mem_iff.2 hx, h⟩] at h1
      cases h1
theorem getE_same {k : Vec n} : ∀ {l m : List (Ent n)}, l.map (fun x => (x.1, x.2.1)) = m.map (fun x => (x.1, x.2.1)) → getE k l = getE k m
  | [], [], _ => rfl
  | [], _ :: _, h => by simp at h
  | _ :: _, [], h => by simp at h
  | x :: l, y :: m, h => by
    simp only [List.map_cons, List.cons.injEq, Prod.mk.injEq] at h
    have ih := getE_same (k := k) h.2
    unfold getE at ih ⊢
    by_cases hk : k = x.1
    · rw [List.find?_cons_of_pos (by simpa using hk), List.find?_cons_of_pos (by rw [← h.1.1]; simpa using hk)]
      simp [h.1.2]
    · rw [List.find?_cons_of_neg (by simpa using hk), List.find?_cons_of_neg (by rw [← h.1.1]; simpa using hk)]
      exact ih
end
end Go.Fx
set_option linter.unusedVariables false
set_option linter.unusedSimpArgs false
namespace Go.Fx
section
variable {P : Program} {T E n : Nat} {w0 w : World} {As : List Asn}
theorem bits_bv : ∀ (l : List UInt8) (m : Nat), ((bvs l).zip (bvs l)).all (fun x => Instr.sameBits (m + 1) x.1 x.2) = true
  | [], m => rfl
  | b :: l, m => by
    have ih := bits_bv l m
    unfold bvs at ih ⊢
    rw [List.map_cons, List.zip_cons_cons, List.all_cons, ih]
    simp [Instr.sameBits, bv]
theorem same_key (k : Vec n) (m : Nat) : Instr.sameBits (m + 2) (kv k) (kv k) = true := by
  show (((bvs k.1).toArray.size == (bvs k.1).toArray.size) && ((bvs k.1).toArray.toList.zip (bvs k.1).toArray.toList).all fun x => Instr.sameBits (m + 1) x.1 x.2) = true
  rw [List.toList_toArray, bits_bv]
  simp
theorem run_stays (k : Vec n) : (Instr.keyThatStays (kv k) (kv k)).run P w = .ok (kv k) w := by
  unfold Instr.keyThatStays
  rw [if_pos (same_key k 9998)]
  rfl
/-- An entry with another value. -/
def updE (k : Vec n) (v : Value) : List (Ent n) → List (Ent n)
  | [] => []
  | x :: l => if k = x.1 then (k, v, x.2.2) :: l else x :: updE k v l
theorem updE_born (k : Vec n) (v : Value) : ∀ l : List (Ent n), (updE k v l).map (·.2.2) = l.map (·.2.2)
  | [] => rfl
  | x :: l => by
    unfold updE
    split
    · rfl
    · rw [List.map_cons, updE_born k v l, List.map_cons]
theorem updE_get (k : Vec n) (v : Value) (k' : Vec n) : ∀ l : List (Ent n), (getE k l).isSome = true → getE k' (updE k v l) = if k' = k then some v else getE k' l
  | [], h => by simp [getE] at h
  | x :: l, h => by
    unfold updE
    by_cases hk : k = x.1
    · rw [if_pos hk]
      by_cases hk' : k' = k
      · unfold getE; rw [List.find?_cons_of_pos (by simpa using hk'), if_pos hk']; rfl
      · unfold getE
        rw [if_neg hk', List.find?_cons_of_neg (by simpa using hk'), List.find?_cons_of_neg (by rw [← hk]; simpa using hk')]
    · have h1 : (getE k l).isSome = true := by
        unfold getE at h ⊢
        rwa [List.find?_cons_of_neg (by simpa using hk)] at h
      have ih := updE_get k v k' l h1
      rw [if_neg hk]
      unfold getE at ih ⊢
      by_cases hx : k' = x.1
      · rw [List.find?_cons_of_pos (by simpa using hx), List.find?_cons_of_pos (by simpa using hx), if_neg (by rw [hx]; exact fun he => hk he.symm)]
      · rw [List.find?_cons_of_neg (by simpa using hx), List.find?_cons_of_neg (by simpa using hx)]
        exact ih
theorem findE_ge (k : Vec n) : ∀ (l : List (Ent n)) (i j : Nat) (y : Value), findE k l i = some (j, y) → i ≤ j
  | [], i, j, y, h => by simp [findE] at h
  | x :: l, i, j, y, h => by
    unfold findE at h
    split at h
    · simp only [Option.some.injEq, Prod.mk.injEq] at h; omega
    · have := findE_ge k l (i + 1) j y h; omega
theorem findE_key (k : Vec n) : ∀ (l : List (Ent n)) (i j : Nat) (y : Value), findE k l i = some (j, y) → ∃ x, l[j - i]? = some x ∧ x.1 = k ∧ x.2.1 = y
  | [], i, j, y, h => by simp [findE] at h
  | x :: l, i, j, y, h => by
    unfold findE at h
    split at h
    · rename_i hk
      simp only [Option.some.injEq, Prod.mk.injEq] at h
      refine ⟨x, ?_, hk.symm, h.2⟩
      rw [show j - i = 0 by omega]; rfl
    · have hg := findE_ge k l (i + 1) j y h
      obtain ⟨z, hz, h2⟩ := findE_key k l (i + 1) j y h
      refine ⟨z, ?_, h2⟩
      rw [show j - i = (j - (i + 1)) + 1 by omega]
      exact hz
theorem updE_mod (k : Vec n) (v : Value) : ∀ (l : List (Ent n)) (i j : Nat) (y : Value), findE k l i = some (j, y) → (l.map entM).modify (j - i) (fun e => { e with key := kv k, val := v }) = (updE k v l).map entM
  | [], i, j, y, h => by simp [findE] at h
  | x :: l, i, j, y, h => by
    unfold findE at h
    unfold updE
    split at h
    · rename_i hk
      simp only [Option.some.injEq, Prod.mk.injEq] at h
      rw [if_pos hk, show j - i = 0 by omega]
      rfl
    · rename_i hk
      have hg := findE_ge k l (i + 1) j y h
      have ih := updE_mod k v l (i + 1) j y h
      rw [if_neg hk, show j - i = (j - (i + 1)) + 1 by omega, List.map_cons, List.modify_succ_cons, ih, List.map_cons]
/-- When a key's entry came. -/
def bornE (k : Vec n) (l : List (Ent n)) : Option Nat := (l.find? fun x => decide (k = x.1)).map (·.2.2)
structure MOk (l : List (Ent n)) (c : Nat) : Prop where
  nd : (l.map (·.2.2)).Nodup
  lt : ∀ x ∈ l, x.2.2 < c
theorem MOk.nil : MOk ([] : List (Ent n)) 0 := ⟨by simp, fun x hx => by cases hx⟩
theorem MOk.push {l : List (Ent n)} {c : Nat} (h : MOk l c) (k : Vec n) (v : Value) : MOk (l ++ [(k, v, c)]) (c + 1) := by
  refine ⟨?_, fun x hx => ?_⟩
  · rw [List.map_append, List.nodup_append]
    refine ⟨h.nd, by simp, fun x hx y hy he => ?_⟩
    simp only [List.map_cons, List.map_nil, List.mem_singleton] at hy
    subst hy
    obtain ⟨z, hz, rfl⟩ := List.mem_map.1 hx
    have := h.lt z hz
    omega
  · rcases List.mem_append.1 hx with hx | hx
    · have := h.lt x hx; omega
    · obtain rfl : x = (k, v, c) := by simpa using hx
      show c < c + 1
      omega
theorem MOk.upd {l : List (Ent n)} {c : Nat} (h : MOk l c) (k : Vec n) (v : Value) : MOk (updE k v l) c := by
  refine ⟨by rw [updE_born]; exact h.nd, fun x hx => ?_⟩
  have h1 : x.2.2 ∈ (updE k v l).map (·.2.2) := List.mem_map_of_mem hx
  rw [updE_born] at h1
  obtain ⟨z, hz, he⟩ := List.mem_map.1 h1
  have := h.lt z hz
  omega
theorem push_get (k : Vec n) (v : Value) (c : Nat) {l : List (Ent n)} (hn : getE k l = none) (k' : Vec n) : getE k' (l ++ [(k, v, c)]) = if k' = k then some v else getE k' l := by
  unfold getE at hn ⊢
  rw [Option.map_eq_none_iff] at hn
  rw [List.find?_append]
  by_cases hk : k' = k
  · subst hk
    rw [hn, if_pos rfl]
    simp
  · rw [if_neg hk, List.find?_cons_of_neg (by simpa using hk)]
    simp
/-- The entry that came then, with another value. -/
theorem updE_at (k : Vec n) (v : Value) : ∀ (l : List (Ent n)) (b : Nat), bornE k l = some b → (l.map (·.2.2)).Nodup → ∃ i, (l.map entM).findIdx? (fun e => (e.born : Int) == (b : Int)) = some i ∧ (l.map entM).modify i (fun e => { e with val := v }) = (updE k v l).map entM
  | [], b, h, _ => by simp [bornE] at h
  | x :: l, b, h, hn => by
    rw [List.map_cons, List.nodup_cons] at hn
    unfold updE
    by_cases hk : k = x.1
    · unfold bornE at h
      rw [List.find?_cons_of_pos (by simpa using hk)] at h
      simp only [Option.map_some, Option.some.injEq] at h
      refine ⟨0, ?_, ?_⟩
      · rw [List.map_cons, List.findIdx?_cons]
        simp [entM, h]
      · rw [if_pos hk]
        subst hk
        rfl
    · have h1 : bornE k l = some b := by
        unfold bornE at h ⊢
        rwa [List.find?_cons_of_neg (by simpa using hk)] at h
      obtain ⟨i, hi, hm⟩ := updE_at k v l b h1 hn.2
      have hb : b ∈ l.map (·.2.2) := by
        unfold bornE at h1
        obtain ⟨z, hz, rfl⟩ := Option.map_eq_some_iff.1 h1
        exact List.mem_map_of_mem (List.mem_of_find?_eq_some hz)
      refine ⟨i + 1, ?_, ?_⟩
      · rw [List.map_cons, List.findIdx?_cons, hi]
        have : (((entM x).born : Int) == (b : Int)) = false := by
          rw [beq_eq_false_iff_ne]
          intro he
          have he' : x.2.2 = b := by
            have : ((entM x).born : Int) = (x.2.2 : Int) := rfl
            omega
          exact hn.1 (he' ▸ hb)
        rw [this]
        rfl
      · rw [if_neg hk, List.map_cons, List.modify_succ_cons, hm, List.map_cons]
/-- A map, by what each key has. -/
def MpR (h : Heap) (g : Nat) (f : Vec n → Option Value) : Prop := ∃ l c, MOk l c ∧ (∀ k, getE k l = f k) ∧ h[g]? = some (.map (ents l) c)
def mpF (g : Nat) (f : Vec n → Option Value) : Asn := Asn.ex fun l => Asn.ex fun c => (Asn.pr (MOk l c ∧ ∀ k, getE k l = f k)).star (mp g l c)
def mpB (g : Nat) (f : Vec n → Option Value) (k : Vec n) (b : Nat) : Asn := Asn.ex fun l => Asn.ex fun c => (Asn.pr (MOk l c ∧ bornE k l = some b ∧ ∀ k, getE k l = f k)).star (mp g l c)
def updF (f : Vec n → Option Value) (k : Vec n) (v : Value) : Vec n → Option Value := fun k' => if k' = k then some v else f k'
theorem mpF_open {g : Nat} {f : Vec n → Option Value} (h : Sep w0 w (mpF g f :: As)) : ∃ l c, (MOk l c ∧ ∀ k, getE k l = f k) ∧ Sep w0 w (mp g l c :: As) := by
  unfold mpF at h
  rw [Sep_ex] at h
  obtain ⟨l, h⟩ := h
  rw [Sep_ex] at h
  obtain ⟨c, h⟩ := h
  rw [Sep_star, Sep_pr] at h
  exact ⟨l, c, h.1, h.2⟩
theorem mpF_close {g c : Nat} {f : Vec n → Option Value} {l : List (Ent n)} (hl : MOk l c ∧ ∀ k, getE k l = f k) (h : Sep w0 w (mp g l c :: As)) : Sep w0 w (mpF g f :: As) := by
  unfold mpF
  rw [Sep_ex]
  refine ⟨l, ?_⟩
  rw [Sep_ex]
  exact ⟨c, by rw [Sep_star, Sep_pr]; exact ⟨hl, h⟩⟩
theorem mpB_open {g b : Nat} {k : Vec n} {f : Vec n → Option Value} (h : Sep w0 w (mpB g f k b :: As)) : ∃ l c, (MOk l c ∧ bornE k l = some b ∧ ∀ k, getE k l = f k) ∧ Sep w0 w (mp g l c :: As) := by
  unfold mpB at h
  rw [Sep_ex] at h
  obtain ⟨l, h⟩ := h
  rw [Sep_ex] at h
  obtain ⟨c, h⟩ := h
  rw [Sep_star, Sep_pr] at h
  exact ⟨l, c, h.1, h.2⟩
theorem mpB_close {g c b : Nat} {k : Vec n} {f : Vec n → Option Value} {l : List (Ent n)} (hl : MOk l c ∧ bornE k l = some b ∧ ∀ k, getE k l = f k) (h : Sep w0 w (mp g l c :: As)) : Sep w0 w (mpB g f k b :: As) := by
  unfold mpB
  rw [Sep_ex]
  refine ⟨l, ?_⟩
  rw [Sep_ex]
  exact ⟨c, by rw [Sep_star, Sep_pr]; exact ⟨hl, h⟩⟩
theorem mpF_rd {g : Nat} {f : Vec n → Option Value} (h : Sep w0 w (mpF g f :: As)) : MpR w.heap g f := by
  obtain ⟨l, c, hl, hs⟩ := mpF_open h
  exact ⟨l, c, hl.1, hl.2, hs.map⟩
theorem mpB_rd {g b : Nat} {k : Vec n} {f : Vec n → Option Value} (h : Sep w0 w (mpB g f k b :: As)) : MpR w.heap g f := by
  obtain ⟨l, c, hl, hs⟩ := mpB_open h
  exact ⟨l, c, hl.1, hl.2.2, hs.map⟩
theorem makeF_s {t : TypeId} {K : Value → World → Prop} (hs : Sep w0 w As) (h : ∀ g w', Sep w0 w' (mpF (n := n) g (fun _ => none) :: As) → K (.map (some g)) w') : efP P (Instr.makeMap t none) w K :=
  makeMap_s (n := n) hs fun g w' hs' => h g w' (mpF_close ⟨MOk.nil, fun _ => rfl⟩ hs')
theorem lookF1 {M V g : Nat} {f : Vec n → Option Value} {z : Value} (hM : P.underlying M = some (.map T V)) (hT : KeyT P T E n) (hz : ∀ w : World, (zeroValue V).run P w = .ok z w) (hg : MpR w.heap g f) (k : Vec n) (K : Value → Prop) :
    rdP P (Instr.lookup M (.map (some g)) (kv k) false) w K = K ((f k).getD z) := by
  obtain ⟨l, c, _, hf, hm⟩ := hg
  rw [lookup_map1 hM hT (hz w) hm k, hf]
/-- A key gets a value. -/
theorem putF_s {M V g : Nat} {f : Vec n → Option Value} {k : Vec n} {v : Value} {K : World → Prop} (hM : P.underlying M = some (.map T V)) (hT : KeyT P T E n) (hs : Sep w0 w (mpF g f :: As))
    (h : ∀ w', Sep w0 w' (mpF g (updF f k v) :: As) → K w') : efU P (Instr.mapUpdate M (.map (some g)) (kv k) v) w K := by
  obtain ⟨l, c, ⟨hok, hf⟩, hs⟩ := mpF_open hs
  cases hk : getE k l with
  | none => exact putNew_s hM hT hs hk fun w' hs' => h w' (mpF_close ⟨hok.push k v, fun k' => by rw [push_get k v c hk]; unfold updF; rw [hf]⟩ hs')
  | some y =>
    have hg := hs.map
    obtain ⟨F, ⟨hb, rfl⟩, hu⟩ := hs.upd
    have hfe := findE_get k l 0
    rw [hk] at hfe
    obtain ⟨⟨i, y'⟩, hfi, _⟩ := Option.map_eq_some_iff.1 hfe
    obtain ⟨x, hx, hxk, _⟩ := findE_key k l 0 i y' hfi
    have hm := updE_mod k v l 0 i y' hfi
    rw [Nat.sub_zero] at hx hm
    have e2 : (ents l).modify i (fun e => { e with key := kv k, val := v }) = ents (updE k v l) := by
      apply Array.ext'
      unfold ents
      rw [Array.toList_modify]
      exact hm
    refine ⟨setBlk w g (.map (ents (updE k v l)) c), ?_, h _ (mpF_close ⟨hok.upd k v, fun k' => by rw [updE_get k v k' l (by rw [hk]; rfl)]; unfold updF; rw [hf]⟩ (hu _ [g] (mp g _ _) ⟨setBlk_self w g _ _ hb, rfl⟩ (fr_setBlk w g _) (Grew.refl _ _)))⟩
    have e1 : (((ents l)[i]?).map (·.key)).getD (kv k) = kv k := by
      unfold ents
      rw [List.getElem?_toArray, List.getElem?_map, hx]
      show kv x.1 = kv k
      rw [hxk]
    unfold Instr.mapUpdate
    simp only [Sem.run_bind, run_underlying hM, Result.andThen_ok, get_map hg, run_key hT k _ 9998, run_findKey hT k l, hfi, e1, run_stays]
    rw [← e2]
    exact set_map _ hg
/-- A key's entry; a new one, if there was none. -/
theorem entF_s {M V g : Nat} {f : Vec n → Option Value} {k : Vec n} {z : Value} {K : Value → World → Prop} (hM : P.underlying M = some (.map T V)) (hT : KeyT P T E n) (hz : ∀ w : World, (zeroValue V).run P w = .ok z w) (hs : Sep w0 w (mpF g f :: As))
    (h : ∀ b w', Sep w0 w' (mpB g (updF f k ((f k).getD z)) k b :: As) → K (.tuple #[(f k).getD z, .int .i64 (b : Nat)]) w') : efP P (Instr.mapEntry M (.map (some g)) (kv k)) w K := by
  obtain ⟨l, c, ⟨hok, hf⟩, hs⟩ := mpF_open hs
  have hg := hs.map
  obtain ⟨F, ⟨hb, rfl⟩, hu⟩ := hs.upd
  cases hk : getE k l with
  | none =>
    have e : (ents l).push (entM (k, z, c)) = ents (l ++ [(k, z, c)]) := by
      apply Array.ext'
      simp [ents]
    have hfk : f k = none := by rw [← hf, hk]
    have hbn : bornE k (l ++ [(k, z, c)]) = some c := by
      unfold getE at hk
      rw [Option.map_eq_none_iff] at hk
      unfold bornE
      rw [List.find?_append, hk]
      simp
    refine ⟨.tuple #[z, .int .i64 c], setBlk w g (.map (ents (l ++ [(k, z, c)])) (c + 1)), ?_, ?_⟩
    · unfold Instr.mapEntry
      simp only [Sem.run_bind, run_underlying hM, Result.andThen_ok, get_map hg, run_key hT k _ 9998, run_findKey hT k l, getE_none hk 0, hz]
      rw [← e]
      have h2 := set_map (P := P) (.map ((ents l).push (entM (k, z, c))) (c + 1)) hg
      simp only [entM] at h2 ⊢
      rw [h2]
      rfl
    · have := h c (setBlk w g (.map (ents (l ++ [(k, z, c)])) (c + 1))) (mpB_close ⟨hok.push k z, hbn, fun k' => by rw [push_get k z c hk]; unfold updF; rw [hf, hfk]; rfl⟩ (hu _ [g] (mp g _ _) ⟨setBlk_self w g _ _ hb, rfl⟩ (fr_setBlk w g _) (Grew.refl _ _)))
      rw [hfk] at this
      exact this
  | some y =>
    have hfk : f k = some y := by rw [← hf, hk]
    have hfe := findE_get k l 0
    rw [hk] at hfe
    obtain ⟨⟨i, y'⟩, hfi, hyy⟩ := Option.map_eq_some_iff.1 hfe
    have hyy : y' = y := hyy
    subst hyy
    obtain ⟨x, hx, hxk, hxy⟩ := findE_key k l 0 i y' hfi
    have hm := updE_mod k y' l 0 i y' hfi
    rw [Nat.sub_zero] at hx hm
    have e2 : (ents l).modify i (fun e => { e with key := kv k }) = ents l := by
      apply Array.ext'
      unfold ents
      rw [Array.toList_modify]
      apply List.ext_getElem?
      intro j
      rw [List.getElem?_modify]
      by_cases hj : i = j
      · subst hj
        have : (l.map entM).toArray.toList[i]? = some (entM x) := by rw [List.toList_toArray, List.getElem?_map, hx]; rfl
        rw [this]
        simp only [Option.map_eq_map, Option.map_some, if_true]
        rw [← hxk]
        rfl
      · simp [hj]
    have hbn : ∃ b, bornE k l = some b := by
      unfold getE at hk
      obtain ⟨q, hq, _⟩ := Option.map_eq_some_iff.1 hk
      exact ⟨q.2.2, by unfold bornE; rw [hq]; rfl⟩
    obtain ⟨b, hbn⟩ := hbn
    have hxb : x.2.2 = b := by
      clear hm e2 hu hb hg hs hok hf hfk hfe h
      have : ∀ (l : List (Ent n)) (i0 : Nat), findE k l i0 = some (i, y') → l[i - i0]? = some x → bornE k l = some b → x.2.2 = b := by
        intro l
        induction l with
        | nil => intro i0 h1; simp [findE] at h1
        | cons a l ih =>
          intro i0 h1 h2 h3
          unfold findE at h1
          by_cases ha : k = a.1
          · rw [if_pos ha] at h1
            simp only [Option.some.injEq, Prod.mk.injEq] at h1
            rw [show i - i0 = 0 by omega] at h2
            unfold bornE at h3
            rw [List.find?_cons_of_pos (by simpa using ha)] at h3
            simp only [List.getElem?_cons_zero, Option.some.injEq] at h2
            simp only [Option.map_some, Option.some.injEq] at h3
            rw [← h2]; exact h3
          · rw [if_neg ha] at h1
            have hg := findE_ge k l (i0 + 1) i y' h1
            rw [show i - i0 = (i - (i0 + 1)) + 1 by omega, List.getElem?_cons_succ] at h2
            unfold bornE at h3
            rw [List.find?_cons_of_neg (by simpa using ha)] at h3
            exact ih (i0 + 1) h1 h2 h3
      exact this l 0 hfi (by rw [Nat.sub_zero]; exact hx) hbn
    refine ⟨.tuple #[y', .int .i64 b], setBlk w g (.map (ents l) c), ?_, ?_⟩
    · have e1 : (((ents l)[i]?).map (·.key)).getD (kv k) = kv k := by
        unfold ents
        rw [List.getElem?_toArray, List.getElem?_map, hx]
        show kv x.1 = kv k
        rw [hxk]
      have e3 : (((ents l)[i]?).map fun e => (e.born : Int)).getD 0 = (b : Int) := by
        unfold ents
        rw [List.getElem?_toArray, List.getElem?_map, hx]
        show (x.2.2 : Int) = b
        rw [hxb]
      unfold Instr.mapEntry
      simp only [Sem.run_bind, run_underlying hM, Result.andThen_ok, get_map hg, run_key hT k _ 9998, run_findKey hT k l, hfi, e1, run_stays]
      rw [e2, set_map (P := P) _ hg]
      simp only [Result.andThen_ok, e3]
      rfl
    · have := h b (setBlk w g (.map (ents l) c)) (mpB_close ⟨hok, hbn, fun k' => by
        unfold updF
        by_cases hk' : k' = k
        · rw [if_pos hk', hk', hk, hfk]; rfl
        · rw [if_neg hk', hf]⟩ (hu _ [g] (mp g _ _) ⟨setBlk_self w g _ _ hb, rfl⟩ (fr_setBlk w g _) (Grew.refl _ _)))
      rw [hfk] at this
      exact this
theorem entStF_s {M g b : Nat} {f : Vec n → Option Value} {k : Vec n} {v : Value} {K : World → Prop} (hs : Sep w0 w (mpB g f k b :: As)) (h : ∀ w', Sep w0 w' (mpF g (updF f k v) :: As) → K w') : efU P (Instr.entryStore M (.map (some g)) (.int .i64 (b : Nat)) v) w K := by
  obtain ⟨l, c, ⟨hok, hbn, hf⟩, hs⟩ := mpB_open hs
  have hg := hs.map
  obtain ⟨F, ⟨hb, rfl⟩, hu⟩ := hs.upd
  obtain ⟨i, hi, hm⟩ := updE_at k v l b hbn hok.nd
  have hsm : (getE k l).isSome = true := by
    unfold bornE at hbn
    obtain ⟨q, hq, _⟩ := Option.map_eq_some_iff.1 hbn
    unfold getE
    rw [hq]
    rfl
  refine ⟨setBlk w g (.map (ents (updE k v l)) c), ?_, h _ (mpF_close ⟨hok.upd k v, fun k' => by rw [updE_get k v k' l hsm]; unfold updF; rw [hf]⟩ (hu _ [g] (mp g _ _) ⟨setBlk_self w g _ _ hb, rfl⟩ (fr_setBlk w g _) (Grew.refl _ _)))⟩
  have e1 : (ents l).findIdx? (fun e => (e.born : Int) == (b : Int)) = some i := by
    unfold ents
    rw [List.findIdx?_toArray]
    exact hi
  have e2 : (ents l).modify i (fun e => { e with val := v }) = ents (updE k v l) := by
    apply Array.ext'
    unfold ents
    rw [Array.toList_modify]
    exact hm
  unfold Instr.entryStore
  simp only [Sem.run_bind, Result.andThen_ok, get_map hg, asInt, asIntOf, Sem.run_pure]
  rw [e1]
  simp only [e2]
  exact set_map _ hg
end
end Go.Fx
set_option linter.unusedVariables false
set_option linter.unusedSimpArgs false
namespace Go.Fx
/-- An effect that is a cut, behind which whatever holds. -/
theorem efC_cut {f : World → (Value → World → Prop) → Prop} {w : World} {K : (World → Prop) → Value → World → Prop} (h : f w fun v w' => ∃ S : World → Prop, S w' ∧ K S v w') : efC f w K := h
/-- An iterator of n values: what it hands over at place i is known by 'arg'; M: the memory that it looks at is as it was. -/
def Iter (P : Program) (g : Value) (M : Heap → Prop) (n : Nat) (arg : Nat → World → List Value → Prop) : Prop :=
  ∃ gf cap, g = .func (.func gf) #[] cap ∧ callable P gf = true ∧ ∀ (y : Value) (w0 w : World) (J : Nat → List Asn → Prop) (X : List Asn → Prop) (As : List Asn), y.oneCell' = true → J 0 As → Sep w0 w As →
    (∀ i Bs Ls z, J i Bs → Sep w0 z (Bs ++ Ls) → M z.heap) →
    (∀ i args z Bs Ls, i < n → arg i z args → J i Bs → Sep w0 z (Bs ++ Ls) → calY P y args z fun r z' => (r = .bool true ∧ ∃ Cs, J (i + 1) Cs ∧ Sep w0 z' (Cs ++ Ls)) ∨ (r = .bool false ∧ ∃ Cs, X Cs ∧ Sep w0 z' (Cs ++ Ls))) →
    cal P gf (y :: cap.toList) w fun r z' => r = .tuple #[] ∧ ((∃ Cs, J n Cs ∧ Sep w0 z' Cs) ∨ ∃ Cs, X Cs ∧ Sep w0 z' Cs)
section
variable {w0 w w' : World} {As Bs : List Asn}
theorem Sep.rot (h : Sep w0 w (As ++ Bs)) : Sep w0 w (Bs ++ As) := h.perm List.perm_append_comm
theorem Sep.objUpd {g : Nat} {o : Obj} (o' : Obj) (h : Sep w0 w (.obj g o :: As)) : Sep w0 (setBlk w g o') (.obj g o' :: As) := by
  obtain ⟨F, ⟨hb, rfl⟩, hk⟩ := h.upd
  exact hk _ [g] (.obj g o') ⟨setBlk_self w g _ _ hb, rfl⟩ (fr_setBlk w g _) (Grew.refl _ _)
theorem Sep.objAt {g : Nat} {o : Obj} (h : Sep w0 w (.obj g o :: As)) : w.heap[g]? = some o := by
  obtain ⟨F, ⟨hb, rfl⟩, hk⟩ := h.upd
  exact hb
theorem takeD_s {D : Nat} {K : World → Prop} (hs : Sep w0 w (.obj D dfB :: As)) (h : ∀ w', Sep w0 w' As → K w') : takeD [D] w K :=
  ⟨hs.objAt, h _ (hs.objUpd _).tail⟩
theorem rng_s {P : Program} {g : Value} {M : Heap → Prop} {n k : Nat} {arg : Nat → World → List Value → Prop} {rnd : List Value → World → (World → (World → Prop) → Prop) → (Option Code → World → Prop) → Prop}
    {out : Nat → List (Option Code × (World → Prop))} (hs : Sep w0 w As) (hit : Iter P g M n arg) (hk : ∀ i z args, arg i z args → args.length = k)
    (J : Nat → List Asn → Prop) (X : Code → List Asn → Prop) (h0 : J 0 As) (hM : ∀ i Bs Ls z, J i Bs → Sep w0 z (Bs ++ Ls) → M z.heap)
    (hrnd : ∀ (i : Nat) (args : List Value) (z : World) (Bs LR LB : List Asn) (bg : World → (World → Prop) → Prop) (fin : Option Code → World → Prop), i < n → J i Bs → arg i z args → Sep w0 z (Bs ++ LR) →
      (∀ z' Cs K, Sep w0 z' (Cs ++ LR) → (∀ z'', Sep w0 z'' (Cs ++ LB) → K z'') → bg z' K) →
      (∀ z' Cs, J (i + 1) Cs → Sep w0 z' (Cs ++ LB) → fin none z') → (∀ j z' Cs, X j Cs → Sep w0 z' (Cs ++ LB) → fin (some j) z') → rnd args z bg fin)
    (hN : ∀ D Bs z, J n Bs → Sep w0 z (.obj D dfB :: Bs) → outL none z (out D)) (hX : ∀ D j Bs z, X j Bs → Sep w0 z (.obj D dfB :: Bs) → outL (some j) z (out D)) : rng P g k w rnd out := by
  obtain ⟨gf, cap, hg, hcal, hI⟩ := hit
  refine ⟨gf, cap, hg, hcal, fun y rec h1 hy => ?_⟩
  have swap2 : ∀ {z : World} {Cs : List Asn} {A B : Asn}, Sep w0 z (Cs ++ [A, B]) → Sep w0 z (A :: B :: Cs) := fun h => Sep.rot h
  have swap3 : ∀ {z : World} {Cs : List Asn} {A B : Asn}, Sep w0 z (A :: B :: Cs) → Sep w0 z (Cs ++ [A, B]) := fun {z Cs A B} h => Sep.rot (As := [A, B]) h
  -- the record at the head, and back
  have hd : ∀ {z : World} {Cs Ls : List Asn} {A : Asn}, Sep w0 z (Cs ++ (A :: Ls)) → Sep w0 z (A :: (Cs ++ Ls)) := fun h => h.perm List.perm_middle
  have bk : ∀ {z : World} {Cs Ls : List Asn} {A : Asn}, Sep w0 z (A :: (Cs ++ Ls)) → Sep w0 z (Cs ++ (A :: Ls)) := fun h => h.perm List.perm_middle.symm
  refine cal_i (hI y w0 _ (fun i Bs => ∃ Cs, J i Cs ∧ Bs = Cs ++ [.obj (w.heap.size + 1) (rec .ready none), .obj w.heap.size dfB])
    (fun Bs => ∃ j Cs, X j Cs ∧ Bs = Cs ++ [.obj (w.heap.size + 1) (rec .done (some j)), .obj w.heap.size dfB]) (As ++ [.obj (w.heap.size + 1) (rec .ready none), .obj w.heap.size dfB]) h1 ⟨As, h0, rfl⟩ (swap3 ?_) ?_ ?_) ?_
  · have h2 : Sep w0 (w.alloc dfB) (.obj w.heap.size dfB :: As) := hs.new (F' := [w.heap.size]) (fr_alloc w _) (B := .obj w.heap.size dfB) ⟨alloc_new w _, rfl⟩ (by simp)
    have e : (w.alloc dfB).heap.size = w.heap.size + 1 := by simp
    refine h2.new (F' := [w.heap.size + 1]) (fr_alloc _ _) (B := .obj (w.heap.size + 1) (rec .ready none)) ⟨?_, rfl⟩ (by simp)
    have := alloc_new (w.alloc dfB) (rec .ready none)
    rwa [e] at this
  · rintro i _ Ls z ⟨Cs, hJ, rfl⟩ hB
    rw [List.append_assoc] at hB
    exact hM i Cs _ z hJ hB
  · rintro i args z _ Ls hi harg ⟨Bs, hJ, rfl⟩ hB
    rw [List.append_assoc] at hB
    refine hy args z _ (hk i z args harg) (hd hB).objAt ?_
    refine hrnd i args z Bs _ (.obj (w.heap.size + 1) (rec .busy none) :: .obj w.heap.size dfB :: Ls) _ _ hi hJ harg hB ?_ ?_ ?_
    · intro z' Cs K hz hK
      exact ⟨(hd hz).objAt, hK _ (bk ((hd hz).objUpd _))⟩
    · intro z' Cs hC hz
      exact ⟨(hd hz).objAt, .inl ⟨rfl, _, ⟨Cs, hC, rfl⟩, by rw [List.append_assoc]; exact bk ((hd hz).objUpd _)⟩⟩
    · intro j z' Cs hC hz
      exact ⟨(hd hz).objAt, .inr ⟨rfl, _, ⟨j, Cs, hC, rfl⟩, by rw [List.append_assoc]; exact bk ((hd hz).objUpd _)⟩⟩
  · rintro v z ⟨-, ⟨_, ⟨Bs, hJ, rfl⟩, hB⟩ | ⟨_, ⟨j, Bs, hX', rfl⟩, hB⟩⟩
    · exact ⟨none, (swap2 hB).objAt, hN _ Bs _ hJ ((swap2 hB).objUpd _).tail⟩
    · exact ⟨some j, (swap2 hB).objAt, hX _ j Bs _ hX' ((swap2 hB).objUpd _).tail⟩
end
end Go.Fx
