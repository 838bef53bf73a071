/-
  The document's sum: chunks, and the name's bytes.
-/
import Derived.Test.YticmbeincpaaeaaDoorShF
set_option linter.unusedVariables false
set_option linter.unusedSimpArgs false
namespace Go.Fx
theorem wOut_get {h : List W32} {i : Nat} (hi : i < 4 * h.length) : (h.flatMap wOut)[i]? = some (UInt8.ofNat ((h.getD (i / 4) 0) >>> (24 - 8 * (i % 4))).toNat) := by
  induction h generalizing i with
  | nil => simp at hi
  | cons x h ih =>
    rw [List.flatMap_cons]
    by_cases h4 : i < 4
    · rw [List.getElem?_append_left (by simp [wOut]; omega)]
      have : i = 0 ∨ i = 1 ∨ i = 2 ∨ i = 3 := by omega
      rcases this with rfl | rfl | rfl | rfl <;> simp [wOut]
    · have hl : (wOut x).length = 4 := rfl
      rw [List.getElem?_append_right (by omega), hl, ih (by simp at hi; omega)]
      have e1 : i / 4 = (i - 4) / 4 + 1 := by omega
      have e2 : (i - 4) % 4 = i % 4 := by omega
      rw [e1, e2]
      rfl
section
variable {w0 w : World} {b : Value} {l : List UInt8} {As : List Asn}
theorem B_first (K : Value → Prop) : rdP P (Instr.build T_a8_uint32 #[(0, (Value.int IntKind.u32 1779033703)), (1, (Value.int IntKind.u32 3144134277)), (2, (Value.int IntKind.u32 1013904242)), (3, (Value.int IntKind.u32 2773480762)), (4, (Value.int IntKind.u32 1359893119)), (5, (Value.int IntKind.u32 2600822924)), (6, (Value.int IntKind.u32 528734635)), (7, (Value.int IntKind.u32 1541459225))]) w K = K (.agg (wvs firstL).toArray) := rdP_eq (by kernel_rfl) K
theorem rSum_spec (hb : RdB w.heap b l) (hl : l.length ≤ 100000) : cal P f_ref02_Sum [b] w fun r w' => r = .agg (Rdr.cells (rVec 32) (shaM l)).toArray ∧ Fr [] w w' := by
  refine s_ref02_Sum fun R hR => ?_
  unfold c_ref02_Sum
  refine alloc_s (Sep.start w) (A_api_ID w) fun g2 w1 hs => ?_
  refine cal_i (padded_spec (hs.rdB hb) hl) ?_
  rintro v9 w2 hs2
  replace hs2 := hs.join hs2
  rw [B_first]
  refine alloc_s hs2 (A_a8 w2) fun g4 w3 hs3 => ?_
  refine stN_w hs3 (by simp) rfl fun w4 hs4 => ?_
  obtain ⟨a9, c9, rfl, hc9⟩ := Sep.form hs4.p1
  have hmod := padT_len l l.length
  generalize hpad : padT l l.length = pad at *
  have hlp : pad.length ≤ 200000 := by
    have := zer_le (l.length + 1)
    rw [← hpad, padT]
    simp [be_length]
    omega
  refine ⟨fun a w' => ∃ (i : Nat) (h : List W32), a = .int .i64 i ∧ i ≤ pad.length ∧ i % 64 = 0 ∧ h.length = 8 ∧ foldM firstL pad = foldM h (pad.drop i) ∧ Sep w w' [wa g4 h T_a8_uint32, ownB (.slice a9 pad.length c9) pad, blk g2 (Rdr.cells (rVec 32) (vz 32)).toArray T_api_ID],
    fun z _ => (pad.length - RowKit.intOf z).toNat, ⟨0, firstL, rfl, by omega, rfl, rfl, rfl, hs4⟩, ?_⟩
  rintro _ w5 ⟨i, h, rfl, hi, him, hh, hfold, hs5⟩ -
  simp only [nilc_some, fad_mk, pik_true, pik_false, cnd_true, cnd_false, gif_same, gif_tf, gif_ft, gif_undef, bi_add, bi_sub, bi_mul, bi_eql, bi_neq, bi_lss, bi_leq, bi_gtr, bi_geq, notB_bool, cvi_int, lenS_mk, lenT_mk, ext0, ext1, ext2, nilP_mk, nilS_mk, fldv_agg, jn0_k, jn1_k, jn2_k, jn1_and, jn1_or, ex_some, Option.isNone_some, Option.isNone_none, Bool.false_bne, Bool.bne_true, Bool.bne_false, Bool.true_bne, Bool.not_true, Bool.not_false, Bool.and_true, Bool.true_and, Bool.and_false, Bool.false_and, Bool.or_true, Bool.true_or, Bool.or_false, Bool.false_or, cond_true, cond_false, List.getElem?_toArray, List.getElem?_cons_zero, List.getElem?_cons_succ, Nat.zero_add, Nat.add_zero, Nat.reduceAdd, forall_const]
  rw [cnd_bool]
  refine ⟨fun hlt => ?_, fun hlt => ?_⟩
  · have hlt : i < pad.length := by simp at hlt; omega
    have h64 : i + 64 ≤ pad.length := by omega
    refine drH_s hs5 fun w6 hs6 _ => ?_
    have e : IntKind.i64.wrap ((i : Int) + 64) = ((i + 64 : Nat) : Int) := by rw [wi64 (by omega) (by omega)]; omega
    simp only [rdS_ldN, e]
    rw [ldN_w hs6.blk hh, slc_mid (by omega) (by omega), Nat.add_sub_cancel_left]
    have hrd := (((Sep.p1 hs6).rd).drop (k := i) (by omega) hc9 (c9 - i)).take (k := 64) (by omega) (c9 - i)
    refine efC_cal (cal_i (goes_spec hrd (by simp; omega) hh) ?_)
    rintro _ w7 ⟨rfl, hf7⟩
    have hs7 := hs6.old hf7
    have hml := mixM_len ((pad.drop i).take 64) hh
    refine efC_stN (stN_w hs7 hh hml fun w8 hs8 => ?_)
    refine ⟨⟨i + 64, _, rfl, by omega, by omega, hml, ?_, hs8⟩, by simp [RowKit.intOf]; omega⟩
    rw [hfold, foldM_step (by simp; omega), List.drop_drop]
  · have hge : i = pad.length := by simp at hlt; omega
    subst hge
    rw [List.drop_length, foldM_end (h := h) (l := []) (by simp)] at hfold
    have hsha : shaL l = h := by rw [shaL, hpad, hfold]
    obtain ⟨o, ho⟩ : ∃ o, o = h.flatMap wOut := ⟨_, rfl⟩
    have hol : o.length = 32 := by rw [ho, wOut_len, hh]
    refine alloc_s hs5 (A_api_ID w5) fun g6 w6 hs6 => ?_
    refine ⟨fun a w' => ∃ i : Nat, a = .int .i64 i ∧ i ≤ 32 ∧ Sep w w' [blk g6 (bvs (part o i)).toArray T_api_ID, wa g4 h T_a8_uint32, blk g2 (Rdr.cells (rVec 32) (vz 32)).toArray T_api_ID],
      fun z _ => (32 - RowKit.intOf z).toNat, ⟨0, rfl, by omega, ?_⟩, ?_⟩
    · have e0 : bvs (part o 0) = Rdr.cells (rVec 32) (vz 32) := by rw [part_zero, hol]; rfl
      rw [e0]
      exact hs6.d2
    rintro _ w7 ⟨i, rfl, hi, hs7⟩ -
    simp only [nilc_some, fad_mk, pik_true, pik_false, cnd_true, cnd_false, gif_same, gif_tf, gif_ft, gif_undef, bi_add, bi_sub, bi_mul, bi_eql, bi_neq, bi_lss, bi_leq, bi_gtr, bi_geq, notB_bool, cvi_int, lenS_mk, lenT_mk, ext0, ext1, ext2, nilP_mk, nilS_mk, fldv_agg, jn0_k, jn1_k, jn2_k, jn1_and, jn1_or, ex_some, Option.isNone_some, Option.isNone_none, Bool.false_bne, Bool.bne_true, Bool.bne_false, Bool.true_bne, Bool.not_true, Bool.not_false, Bool.and_true, Bool.true_and, Bool.and_false, Bool.false_and, Bool.or_true, Bool.true_or, Bool.or_false, Bool.false_or, cond_true, cond_false, List.getElem?_toArray, List.getElem?_cons_zero, List.getElem?_cons_succ, Nat.zero_add, Nat.add_zero, Nat.reduceAdd, forall_const]
    rw [cnd_bool]
    refine ⟨fun hlt => ?_, fun hlt => ?_⟩
    · have h32 : i < 32 := by simp at hlt; omega
      rw [bi_quo .i64 _ _ _ (by decide), show (4 : Int) = ((4 : Nat) : Int) from rfl, tdivn, wi64 (by omega) (by omega), ixa_w .i64 (by omega), ld_w (Sep.p1 hs7).blk (by omega), bi_rem .i64 _ _ _ (by decide), tmodn]
      have e1 : IntKind.u64.wrap (IntKind.i64.wrap (24 - IntKind.i64.wrap (8 * ((i % 4 : Nat) : Int)))) = ((24 - 8 * (i % 4) : Nat) : Int) := by
        rw [wi64 (x := 8 * ((i % 4 : Nat) : Int)) (by omega) (by omega), wi64 (by omega) (by omega), wu64i (by omega) (by omega)]
        omega
      simp only [bi_mul, bi_sub, cvi_int, e1]
      rw [wv_shr _ _ .u64 (by omega), w_b, ixa_w .i64 h32]
      refine st_b hs7 (by rw [ho]; exact wOut_get (by omega)) fun w8 hs8 => ?_
      rw [wi64 (by omega) (by omega)]
      exact ⟨⟨i + 1, by simp, by omega, hs8⟩, by simp [RowKit.intOf]; omega⟩
    · have h32 : i = 32 := by simp at hlt; omega
      subst h32
      have e2 : bvs (part o 32) = Rdr.cells (rVec 32) (shaM l) := by
        have hsm : (shaM l).1 = o := by rw [ho, ← hsha]; rfl
        show bvs (part o 32) = bvs (shaM l).1
        rw [hsm, ← hol, part_all]
      rw [e2] at hs7
      simp only [L_api_ID hs7.blk]
      refine St_api_ID hs7.p2 fun w8 hs8 => ?_
      simp only [L_api_ID hs8.blk]
      exact hR _ _ ⟨rfl, hs8.fr0⟩
end
end Go.Fx
