/-
  The program's sum: State.Sum.
-/
import Derived.Test.YticmbeincpaaeaaDoorShK
set_option linter.unusedVariables false
set_option linter.unusedSimpArgs false
namespace Go.Fx
section
variable {w0 w : World} {v b s : Value} {l r : List UInt8} {As : List Asn} {g : Nat} {h : VW 8} {n : Nat}
theorem Sum_spec (hc : Cub w0) (hs : Sep w0 w (st g h s n :: ownB s r :: As)) (hr : r.length < 64) (hn : n ≤ 100000) :
    cal P f_sha_State_Sum [.pointer (some ⟨g, 0, none⟩)] w fun v w' => v = .agg (bvs ((foldM h.1 (padT r n)).flatMap wOut)).toArray ∧ Sep w0 w' (st g h s n :: ownB s r :: As) := by
  refine s_sha_State_Sum fun R hR => ?_
  unfold c_sha_State_Sum
  refine alloc_s hs (A_api_ID w) fun g2 w1 hs => ?_
  refine alloc_s hs (A_api_ID w1) fun g3 w2 hs => ?_
  refine cal_i (none_spec (Sep.p2 hs)) ?_
  rintro _ _ ⟨rfl, rfl⟩
  simp only [nilc_some, fad_mk, pik_true, pik_false, cnd_true, cnd_false, gif_same, gif_tf, gif_ft, gif_undef, bi_add, bi_sub, bi_mul, bi_eql, bi_neq, bi_lss, bi_leq, bi_gtr, bi_geq, notB_bool, cvi_int, lenS_mk, lenT_mk, ext0, ext1, ext2, nilP_mk, nilS_mk, fldv_agg, jn0_k, jn1_k, jn2_k, jn1_and, jn1_or, ex_some, Option.isNone_some, Option.isNone_none, Bool.false_bne, Bool.bne_true, Bool.bne_false, Bool.true_bne, Bool.not_true, Bool.not_false, Bool.and_true, Bool.true_and, Bool.and_false, Bool.false_and, Bool.or_true, Bool.true_or, Bool.or_false, Bool.false_or, cond_true, cond_false, List.getElem?_toArray, List.getElem?_cons_zero, List.getElem?_cons_succ, Nat.zero_add, Nat.add_zero, Nat.reduceAdd, forall_const, ldS_s (Sep.p2 hs).blk]
  refine cal_i (bClone_spec (Sep.p3 hs).rd (by omega)) ?_
  rintro v1 w3 hs1
  replace hs1 := hs.join hs1
  refine app0 128 (.inr rfl) hs1 (by omega) fun v2 w4 hs2 => ?_
  rw [if_neg (by decide)] at hs2
  obtain ⟨Bs, hBs⟩ : ∃ Bs, Bs = blk g3 (Rdr.cells (rVec 32) (vz 32)).toArray T_api_ID :: blk g2 (Rdr.cells (rVec 32) (vz 32)).toArray T_api_ID :: st g h s n :: ownB s r :: As := ⟨_, rfl⟩
  have hz := zer_le (r.length + 1)
  have hs2' : Sep w0 w4 (ownB v2 (r ++ [128]) :: Bs) := by rw [hBs]; exact hs2
  refine ⟨fun a w' => ∃ j : Nat, j ≤ zer (r.length + 1) ∧ Sep w0 w' (ownB a (r ++ [128] ++ List.replicate j 0) :: Bs), fun a _ => match a with
    | .slice _ n _ => (r.length + 1 + zer (r.length + 1)) - n
    | _ => 0, ⟨0, by omega, by simpa using hs2'⟩, ?_⟩
  rintro v3 w5 ⟨j, hj, hs3⟩ -
  obtain ⟨a3, c3, rfl⟩ := Sep.sl hs3
  have hlen : (r ++ [128] ++ List.replicate j 0).length = r.length + 1 + j := by simp; omega
  simp only [lenS_mk, hlen]
  rw [bi_rem .i64 _ _ _ (by decide), show (64 : Int) = ((64 : Nat) : Int) from rfl, tmodn, bi_neq, cnd_bool]
  refine ⟨fun hq => ?_, fun hq => ?_⟩
  · have h56 : (r.length + 1 + j) % 64 ≠ 56 := by simp at hq; omega
    have hjz : j < zer (r.length + 1) := by
      rcases Nat.lt_or_ge j (zer (r.length + 1)) with h' | h'
      · exact h'
      · have : j = zer (r.length + 1) := by omega
        rw [this, zer_eq] at h56
        exact absurd rfl h56
    rw [← hlen]
    refine app0 0 (.inl rfl) hs3 (by rw [hlen]; omega) fun v4 w6 hs4 => ?_
    rw [if_pos rfl] at hs4
    have e : r ++ [128] ++ List.replicate j 0 ++ [0] = r ++ [128] ++ List.replicate (j + 1) 0 := by rw [List.replicate_succ', List.append_assoc]
    rw [e] at hs4
    obtain ⟨a4, c4, rfl⟩ := Sep.sl hs4
    refine ⟨⟨j + 1, by omega, hs4⟩, ?_⟩
    simp
    omega
  · have h56 : (r.length + 1 + j) % 64 = 56 := by simp at hq; omega
    have hjz : j = zer (r.length + 1) := by
      rcases Nat.lt_or_ge j (zer (r.length + 1)) with h' | h'
      · exact absurd h56 (zer_lt h')
      · omega
    rw [← hlen]
    have hst : Sep w0 w5 (st g h s n :: blk g3 (Rdr.cells (rVec 32) (vz 32)).toArray T_api_ID :: blk g2 (Rdr.cells (rVec 32) (vz 32)).toArray T_api_ID :: ownB s r :: As) := by
      have := hs3.tail
      rw [hBs] at this
      exact this.p2
    simp only [nilc_some, fad_mk, pik_true, pik_false, cnd_true, cnd_false, gif_same, gif_tf, gif_ft, gif_undef, bi_add, bi_sub, bi_mul, bi_eql, bi_neq, bi_lss, bi_leq, bi_gtr, bi_geq, notB_bool, cvi_int, lenS_mk, lenT_mk, ext0, ext1, ext2, nilP_mk, nilS_mk, fldv_agg, jn0_k, jn1_k, jn2_k, jn1_and, jn1_or, ex_some, Option.isNone_some, Option.isNone_none, Bool.false_bne, Bool.bne_true, Bool.bne_false, Bool.true_bne, Bool.not_true, Bool.not_false, Bool.and_true, Bool.true_and, Bool.and_false, Bool.false_and, Bool.or_true, Bool.true_or, Bool.or_false, Bool.false_or, cond_true, cond_false, List.getElem?_toArray, List.getElem?_cons_zero, List.getElem?_cons_succ, Nat.zero_add, Nat.add_zero, Nat.reduceAdd, forall_const, ldS_n hst.blk]
    rw [wu64n, Nat.mod_eq_of_lt (by omega), show ((n : Int) * 8) = ((n * 8 : Nat) : Int) by simp, wu64n]
    generalize hv : n * 8 % 18446744073709551616 = x
    have hvb : x < 18446744073709551616 := by omega
    refine ⟨fun a c w' => ∃ i : Nat, c = .int .i64 i ∧ i ≤ 8 ∧ Sep w0 w' (ownB a (r ++ [128] ++ List.replicate j 0 ++ (be 8 x).take i) :: Bs), fun _ c _ => (8 - RowKit.intOf c).toNat, ⟨0, rfl, by omega, by simpa using hs3⟩, ?_⟩
    rintro v5 _ w6 ⟨i, rfl, hi, hs5⟩ -
    simp only [nilc_some, fad_mk, pik_true, pik_false, cnd_true, cnd_false, gif_same, gif_tf, gif_ft, gif_undef, bi_add, bi_sub, bi_mul, bi_eql, bi_neq, bi_lss, bi_leq, bi_gtr, bi_geq, notB_bool, cvi_int, lenS_mk, lenT_mk, ext0, ext1, ext2, nilP_mk, nilS_mk, fldv_agg, jn0_k, jn1_k, jn2_k, jn1_and, jn1_or, ex_some, Option.isNone_some, Option.isNone_none, Bool.false_bne, Bool.bne_true, Bool.bne_false, Bool.true_bne, Bool.not_true, Bool.not_false, Bool.and_true, Bool.true_and, Bool.and_false, Bool.false_and, Bool.or_true, Bool.true_or, Bool.or_false, Bool.false_or, cond_true, cond_false, List.getElem?_toArray, List.getElem?_cons_zero, List.getElem?_cons_succ, Nat.zero_add, Nat.add_zero, Nat.reduceAdd, forall_const]
    rw [cnd_bool]
    refine ⟨fun hq => ?_, fun hq => ?_⟩
    · have h8 : i < 8 := by simp at hq; omega
      have e1 : IntKind.i64.wrap (56 - IntKind.i64.wrap (8 * (i : Int))) = ((56 - 8 * i : Nat) : Int) := by
        rw [wi64 (x := 8 * (i : Int)) (by omega) (by omega), wi64 (by omega) (by omega)]
        omega
      have hsh : ∀ K, sh .shr (.int .u64 (x : Int)) (.int .i64 ((56 - 8 * i : Nat) : Int)) K = K (.int .u64 ((x / 256 ^ (7 - i) : Nat) : Int)) := fun K => by
        have := shr56 x i h8 K
        rw [sh_shr _ _ _ _ _ (by omega)] at this ⊢
        exact this
      rw [e1, hsh]
      rw [cvi_int, bv_of _ (Int.natCast_nonneg _), Int.toNat_natCast]
      refine app1 hs5 (by simp [be_length]; omega) fun v6 w7 hs6 => ?_
      rw [wi64 (by omega) (by omega)]
      rw [List.append_assoc, ← be_take x 8 i h8] at hs6
      exact ⟨⟨i + 1, by simp, by omega, hs6⟩, by simp [RowKit.intOf]; omega⟩
    · have h8 : i = 8 := by simp at hq; omega
      subst h8
      rw [List.take_of_length_le (by rw [be_length]; omega)] at hs5
      have hpad : r ++ [128] ++ List.replicate j 0 ++ be 8 x = padT r n := by rw [padT, hv, ← hjz]
      rw [hpad] at hs5
      have hlp : (padT r n).length ≤ 200 := by
        rw [padT]
        simp [be_length]
        omega
      have hmod := padT_len r n
      generalize padT r n = pad at *
      have hst5 : Sep w0 w6 (st g h s n :: blk g3 (Rdr.cells (rVec 32) (vz 32)).toArray T_api_ID :: blk g2 (Rdr.cells (rVec 32) (vz 32)).toArray T_api_ID :: ownB s r :: As) := by
        have := hs5.tail
        rw [hBs] at this
        exact this.p2
      simp only [nilc_some, fad_mk, pik_true, pik_false, cnd_true, cnd_false, gif_same, gif_tf, gif_ft, gif_undef, bi_add, bi_sub, bi_mul, bi_eql, bi_neq, bi_lss, bi_leq, bi_gtr, bi_geq, notB_bool, cvi_int, lenS_mk, lenT_mk, ext0, ext1, ext2, nilP_mk, nilS_mk, fldv_agg, jn0_k, jn1_k, jn2_k, jn1_and, jn1_or, ex_some, Option.isNone_some, Option.isNone_none, Bool.false_bne, Bool.bne_true, Bool.bne_false, Bool.true_bne, Bool.not_true, Bool.not_false, Bool.and_true, Bool.true_and, Bool.and_false, Bool.false_and, Bool.or_true, Bool.true_or, Bool.or_false, Bool.false_or, cond_true, cond_false, List.getElem?_toArray, List.getElem?_cons_zero, List.getElem?_cons_succ, Nat.zero_add, Nat.add_zero, Nat.reduceAdd, forall_const, ldS_h hst5.blk]
      refine alloc_s hs5 (A_a8 w6) fun g4 w7 hs6 => ?_
      refine stN_w hs6 (by simp) h.2 fun w8 hs7 => ?_
      obtain ⟨a5, c5, rfl, hc5⟩ := Sep.form (Sep.p1 hs7)
      refine ⟨fun u w' => ∃ (k : Nat) (h' : VW 8), k ≤ pad.length ∧ k % 64 = 0 ∧ foldM h.1 pad = foldM h'.1 (pad.drop k) ∧ Rest (.slice a5 pad.length c5) pad u (pad.drop k) ∧ Sep w0 w' (wa g4 h'.1 T_a8_uint32 :: ownB (.slice a5 pad.length c5) pad :: Bs), fun u _ => match u with
        | .slice _ n _ => n
        | _ => 0, ⟨0, h, by omega, rfl, rfl, Rest.start hc5, hs7⟩, ?_⟩
      rintro u w9 ⟨k, h', hk, hkm, hf, hrest, hs8⟩ -
      simp only [hrest.len, List.length_drop]
      rw [bi_gtr, cnd_bool]
      refine ⟨fun hlt => ?_, fun hlt => ?_⟩
      · have h64 : 64 ≤ (pad.drop k).length := by simp at hlt ⊢; omega
        refine drH_s hs8 fun w10 hs9 _ => ?_
        simp only [nilc_some, fad_mk, pik_true, pik_false, cnd_true, cnd_false, gif_same, gif_tf, gif_ft, gif_undef, bi_add, bi_sub, bi_mul, bi_eql, bi_neq, bi_lss, bi_leq, bi_gtr, bi_geq, notB_bool, cvi_int, lenS_mk, lenT_mk, ext0, ext1, ext2, nilP_mk, nilS_mk, fldv_agg, jn0_k, jn1_k, jn2_k, jn1_and, jn1_or, ex_some, Option.isNone_some, Option.isNone_none, Bool.false_bne, Bool.bne_true, Bool.bne_false, Bool.true_bne, Bool.not_true, Bool.not_false, Bool.and_true, Bool.true_and, Bool.and_false, Bool.false_and, Bool.or_true, Bool.true_or, Bool.or_false, Bool.false_or, cond_true, cond_false, List.getElem?_toArray, List.getElem?_cons_zero, List.getElem?_cons_succ, Nat.zero_add, Nat.add_zero, Nat.reduceAdd, forall_const, rdS_ldN]
        rw [ldN_w hs9.blk h'.2]
        refine hrest.to h64 _ fun y hy => ?_
        refine efC_cal (cal_i (mixed_spec (hc.fr hs9.fr0) (hy _ (Sep.rd hs9.p1)) (by rw [List.length_take]; omega) h'.2) ?_)
        rintro _ w11 ⟨rfl, hf11⟩
        have hs10 := hs9.old hf11
        have hml := mixM_len ((pad.drop k).take 64) h'.2
        refine efC_stN (stN_w hs10 h'.2 hml fun w12 hs11 => ?_)
        refine hrest.from h64 _ fun u' hu' => ?_
        rw [List.drop_drop] at hu'
        have hll : k + 64 ≤ pad.length := by simp at h64; omega
        refine ⟨⟨k + 64, ⟨_, hml⟩, hll, by omega, ?_, hu', hs11⟩, ?_⟩
        · rw [hf, foldM_step h64, List.drop_drop]
        · obtain ⟨_, n1, _, rfl, e1, _⟩ := hrest
          obtain ⟨_, n2, _, rfl, e2, _⟩ := hu'
          simp only [List.length_drop] at e1 e2
          simp only []
          omega
      · have hge : k = pad.length := by simp at hlt; omega
        subst hge
        rw [List.drop_length, foldM_end (h := h'.1) (l := []) (by simp)] at hf
        rw [hf] at hR
        obtain ⟨o, ho⟩ : ∃ o, o = h'.1.flatMap wOut := ⟨_, rfl⟩
        have hol : o.length = 32 := by rw [ho, wOut_len, h'.2]
        rw [← ho] at hR
        rw [ldN_w hs8.blk h'.2]
        have hs9 : Sep w0 w9 (blk g3 (Rdr.cells (rVec 32) (vz 32)).toArray T_api_ID :: blk g2 (Rdr.cells (rVec 32) (vz 32)).toArray T_api_ID :: st g h s n :: ownB s r :: As) := by
          have := hs8.tail.tail
          rw [hBs] at this
          exact this
        have e0 : bvs (part o (4 * 0)) = Rdr.cells (rVec 32) (vz 32) := by rw [Nat.mul_zero, part_zero, hol]; rfl
        refine ⟨fun a w' => ∃ i : Nat, a = .int .i64 i ∧ i ≤ 8 ∧ Sep w0 w' (blk g3 (bvs (part o (4 * i))).toArray T_api_ID :: blk g2 (Rdr.cells (rVec 32) (vz 32)).toArray T_api_ID :: st g h s n :: ownB s r :: As),
          fun z _ => (8 - RowKit.intOf z).toNat, ⟨0, rfl, by omega, by rw [e0]; exact hs9⟩, ?_⟩
        rintro _ w10 ⟨i, rfl, hi, hs10⟩ -
        simp only [nilc_some, fad_mk, pik_true, pik_false, cnd_true, cnd_false, gif_same, gif_tf, gif_ft, gif_undef, bi_add, bi_sub, bi_mul, bi_eql, bi_neq, bi_lss, bi_leq, bi_gtr, bi_geq, notB_bool, cvi_int, lenS_mk, lenT_mk, ext0, ext1, ext2, nilP_mk, nilS_mk, fldv_agg, jn0_k, jn1_k, jn2_k, jn1_and, jn1_or, ex_some, Option.isNone_some, Option.isNone_none, Bool.false_bne, Bool.bne_true, Bool.bne_false, Bool.true_bne, Bool.not_true, Bool.not_false, Bool.and_true, Bool.true_and, Bool.and_false, Bool.false_and, Bool.or_true, Bool.true_or, Bool.or_false, Bool.false_or, cond_true, cond_false, List.getElem?_toArray, List.getElem?_cons_zero, List.getElem?_cons_succ, Nat.zero_add, Nat.add_zero, Nat.reduceAdd, forall_const]
        rw [cnd_bool]
        refine ⟨fun hlt => ?_, fun hlt => ?_⟩
        · have h8 : i < 8 := by simp at hlt; omega
          have ei : IntKind.i64.wrap (4 * (i : Int)) = ((4 * i : Nat) : Int) := by rw [wi64 (by omega) (by omega)]; omega
          have e1 : IntKind.i64.wrap (((4 * i : Nat) : Int) + 1) = ((4 * i + 1 : Nat) : Int) := by rw [wi64 (by omega) (by omega)]; omega
          have e2 : IntKind.i64.wrap (((4 * i : Nat) : Int) + 2) = ((4 * i + 2 : Nat) : Int) := by rw [wi64 (by omega) (by omega)]; omega
          have e3 : IntKind.i64.wrap (((4 * i : Nat) : Int) + 3) = ((4 * i + 3 : Nat) : Int) := by rw [wi64 (by omega) (by omega)]; omega
          have hg : ∀ m : Nat, m < 4 → o[4 * i + m]? = some (UInt8.ofNat ((h'.1.getD i 0) >>> (24 - 8 * m)).toNat) := fun m hm => by
            have h8' := h'.2
            rw [ho, wOut_get (by omega), show (4 * i + m) / 4 = i by omega, show (4 * i + m) % 4 = m by omega]
          rw [ixv_w .i64 h'.2 h8, ei, e1, e2, e3, shr_l _ .u64 24 (by decide) (by decide), w_b, shr_l _ .u64 16 (by decide) (by decide), w_b, shr_l _ .u64 8 (by decide) (by decide), w_b, w_b]
          rw [ixa_w .i64 (by omega)]
          refine st_b hs10 (hg 0 (by decide)) fun w11 hs11 => ?_
          rw [ixa_w .i64 (by omega)]
          refine st_b hs11 (hg 1 (by decide)) fun w12 hs12 => ?_
          rw [ixa_w .i64 (by omega)]
          refine st_b hs12 (hg 2 (by decide)) fun w13 hs13 => ?_
          rw [ixa_w .i64 (by omega)]
          refine st_b hs13 (hg 3 (by decide)) fun w14 hs14 => ?_
          rw [wi64 (by omega) (by omega)]
          exact ⟨⟨i + 1, by simp, by omega, hs14⟩, by simp [RowKit.intOf]; omega⟩
        · have h8 : i = 8 := by simp at hlt; omega
          subst h8
          have e2 : bvs (part o (4 * 8)) = Rdr.cells (rVec 32) ⟨o, hol⟩ := by
            rw [show 4 * 8 = o.length by omega, part_all]
            rfl
          rw [e2] at hs10
          simp only [L_api_ID hs10.blk]
          refine St_api_ID hs10.p1 fun w15 hs15 => ?_
          simp only [L_api_ID hs15.blk]
          exact hR _ _ ⟨rfl, hs15.d1.tail⟩
/-- The program's sum is the plain one. -/
theorem shaSum_spec (hc : Cub w) (hb : RdB w.heap b l) (hl : l.length ≤ 100000) : cal P f_sha_Sum [b] w fun v w' => v = .agg (Rdr.cells (rVec 32) (shaM l)).toArray ∧ Fr [] w w' := by
  refine s_sha_Sum fun R hR => ?_
  unfold c_sha_Sum
  refine alloc_s (Sep.start w) (A_api_ID w) fun g2 w1 hs => ?_
  refine cal_i New_spec ?_
  rintro _ w2 ⟨g, rfl, hs1⟩
  replace hs1 := hs.join hs1
  have hbs : ∀ (w : World), (Instr.buildSlice T_sl_sl_uint8 1 #[(0, b)]).run P w = .ok (.slice (some ⟨w.heap.size, 0, none⟩) 1 1) (w.alloc (.cells ([b] : List Value).toArray T_sl_uint8)) := by
    obtain ⟨a, c, rfl, _⟩ := hb
    intro w
    kernel_rfl
  refine build_s (cs := [b]) (size := 1) hs1 rfl (hbs _) fun g3 w3 hs3 => ?_
  refine cal_i (Write_spec hc (Sep.p1 hs3) (.inr ⟨_, rfl⟩) hb hl) ?_
  rintro _ w4 ⟨a, r, h, s, rfl, ha, hr, hh, hs4⟩
  refine cal_i (Sum_spec (n := (a ++ r).length) hc hs4 hr hl) ?_
  rintro _ w5 ⟨rfl, hs5⟩
  have e : foldM h.1 (padT r (a ++ r).length) = shaL (a ++ r) := by rw [shaL, padT_app _ _ _ ha, foldM_app ha, hh]
  have e2 : bvs ((foldM h.1 (padT r (a ++ r).length)).flatMap wOut) = Rdr.cells (rVec 32) (shaM (a ++ r)) := by rw [e]; rfl
  rw [e2]
  refine St_api_ID (Sep.p3 hs5) fun w6 hs6 => ?_
  simp only [L_api_ID hs6.blk]
  exact hR _ _ ⟨rfl, hs6.fr0⟩
end
end Go.Fx
