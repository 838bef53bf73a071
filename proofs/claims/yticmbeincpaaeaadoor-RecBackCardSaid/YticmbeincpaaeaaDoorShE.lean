/-
  Words behind a chunk.
-/
import Derived.Test.YticmbeincpaaeaaDoorShD
set_option linter.unusedVariables false
set_option linter.unusedSimpArgs false
namespace Go.Fx
/-- The words that are added stand in the program's variable. -/
def Cub (w : World) : Prop := ∃ t fr, w.heap[0]? = some (.cells (wvs cubesL).toArray t fr)
theorem Cub.fr {w w' : World} (h : Cub w) (hf : Fr [] w w') : Cub w' := by
  obtain ⟨t, fr, h⟩ := h
  exact ⟨t, fr, hf.blk h (by simp)⟩
section
variable {w0 w : World} {b : Value} {l : List UInt8} {h : List W32}
theorem B_a8 (a0 a1 a2 a3 a4 a5 a6 a7 : W32) (K : Value → Prop) : rdP P (Instr.build T_a8_uint32 #[(0, wv a0), (1, wv a1), (2, wv a2), (3, wv a3), (4, wv a4), (5, wv a5), (6, wv a6), (7, wv a7)]) w K = K (.agg (wvs [a0, a1, a2, a3, a4, a5, a6, a7]).toArray) := rdP_eq (by kernel_rfl) K
theorem B_cubes (K : Value → Prop) : rdP P (Instr.build T_a64_uint32 #[(0, (Value.int IntKind.u32 1116352408)), (1, (Value.int IntKind.u32 1899447441)), (2, (Value.int IntKind.u32 3049323471)), (3, (Value.int IntKind.u32 3921009573)), (4, (Value.int IntKind.u32 961987163)), (5, (Value.int IntKind.u32 1508970993)), (6, (Value.int IntKind.u32 2453635748)), (7, (Value.int IntKind.u32 2870763221)), (8, (Value.int IntKind.u32 3624381080)), (9, (Value.int IntKind.u32 310598401)), (10, (Value.int IntKind.u32 607225278)), (11, (Value.int IntKind.u32 1426881987)), (12, (Value.int IntKind.u32 1925078388)), (13, (Value.int IntKind.u32 2162078206)), (14, (Value.int IntKind.u32 2614888103)), (15, (Value.int IntKind.u32 3248222580)), (16, (Value.int IntKind.u32 3835390401)), (17, (Value.int IntKind.u32 4022224774)), (18, (Value.int IntKind.u32 264347078)), (19, (Value.int IntKind.u32 604807628)), (20, (Value.int IntKind.u32 770255983)), (21, (Value.int IntKind.u32 1249150122)), (22, (Value.int IntKind.u32 1555081692)), (23, (Value.int IntKind.u32 1996064986)), (24, (Value.int IntKind.u32 2554220882)), (25, (Value.int IntKind.u32 2821834349)), (26, (Value.int IntKind.u32 2952996808)), (27, (Value.int IntKind.u32 3210313671)), (28, (Value.int IntKind.u32 3336571891)), (29, (Value.int IntKind.u32 3584528711)), (30, (Value.int IntKind.u32 113926993)), (31, (Value.int IntKind.u32 338241895)), (32, (Value.int IntKind.u32 666307205)), (33, (Value.int IntKind.u32 773529912)), (34, (Value.int IntKind.u32 1294757372)), (35, (Value.int IntKind.u32 1396182291)), (36, (Value.int IntKind.u32 1695183700)), (37, (Value.int IntKind.u32 1986661051)), (38, (Value.int IntKind.u32 2177026350)), (39, (Value.int IntKind.u32 2456956037)), (40, (Value.int IntKind.u32 2730485921)), (41, (Value.int IntKind.u32 2820302411)), (42, (Value.int IntKind.u32 3259730800)), (43, (Value.int IntKind.u32 3345764771)), (44, (Value.int IntKind.u32 3516065817)), (45, (Value.int IntKind.u32 3600352804)), (46, (Value.int IntKind.u32 4094571909)), (47, (Value.int IntKind.u32 275423344)), (48, (Value.int IntKind.u32 430227734)), (49, (Value.int IntKind.u32 506948616)), (50, (Value.int IntKind.u32 659060556)), (51, (Value.int IntKind.u32 883997877)), (52, (Value.int IntKind.u32 958139571)), (53, (Value.int IntKind.u32 1322822218)), (54, (Value.int IntKind.u32 1537002063)), (55, (Value.int IntKind.u32 1747873779)), (56, (Value.int IntKind.u32 1955562222)), (57, (Value.int IntKind.u32 2024104815)), (58, (Value.int IntKind.u32 2227730452)), (59, (Value.int IntKind.u32 2361852424)), (60, (Value.int IntKind.u32 2428436474)), (61, (Value.int IntKind.u32 2756734187)), (62, (Value.int IntKind.u32 3204031479)), (63, (Value.int IntKind.u32 3329325298))]) w K = K (.agg (wvs cubesL).toArray) := rdP_eq (by kernel_rfl) K
theorem constants_spec : cal P f_ref02_constants [] w fun r w' => r = .agg (wvs cubesL).toArray ∧ Fr [] w w' := by
  refine s_ref02_constants fun R hR => ?_
  unfold c_ref02_constants
  refine alloc_s (Sep.start w) (A_a64 w) fun g w1 hs => ?_
  rw [B_cubes]
  refine stN_w hs (by simp) rfl fun w2 hs => ?_
  rw [ldN_w (n := 64) hs.blk rfl]
  exact hR _ _ ⟨rfl, hs.fr0⟩
def hz (h v : List W32) (i : Nat) : List W32 := (List.zipWith (· + ·) h v).take i ++ h.drop i
theorem hz_zero (h v : List W32) : hz h v 0 = h := by simp [hz]
theorem hz_len {h v : List W32} (hh : h.length = 8) (hv : v.length = 8) {i : Nat} (hi : i ≤ 8) : (hz h v i).length = 8 := by simp [hz, hh, hv]; omega
theorem hz_get {h v : List W32} (hh : h.length = 8) (hv : v.length = 8) {i : Nat} (hi : i < 8) : (hz h v i).getD i 0 = h.getD i 0 := by
  have hl : ((List.zipWith (· + ·) h v).take i).length = i := by simp [hh, hv]; omega
  rw [List.getD_eq_getElem?_getD, hz, List.getElem?_append_right (by omega), hl, Nat.sub_self, List.getElem?_drop, Nat.add_zero, List.getD_eq_getElem?_getD]
theorem hz_step {h v : List W32} (hh : h.length = 8) (hv : v.length = 8) {i : Nat} (hi : i < 8) : (hz h v i).set i (h.getD i 0 + v.getD i 0) = hz h v (i + 1) := by
  have hl : ((List.zipWith (· + ·) h v).take i).length = i := by simp [hh, hv]; omega
  have hzl : (List.zipWith (· + ·) h v).length = 8 := by simp [hh, hv]
  unfold hz
  rw [List.set_append_right _ _ (by omega), hl, Nat.sub_self, List.drop_eq_getElem_cons (show i < h.length by omega), List.set_cons_zero, List.take_add_one, List.getElem?_eq_getElem (show i < (List.zipWith (· + ·) h v).length by omega)]
  simp [List.getD_eq_getElem?_getD, List.getElem?_eq_getElem (show i < h.length by omega), List.getElem?_eq_getElem (show i < v.length by omega)]
theorem hz_end {h v : List W32} (hh : h.length = 8) (hv : v.length = 8) : hz h v 8 = List.zipWith (· + ·) h v := by
  unfold hz
  rw [List.take_of_length_le (by simp [hh, hv]), List.drop_of_length_le (by omega), List.append_nil]
theorem mixed_spec (hc : Cub w) (hb : RdB w.heap b l) (hl : l.length = 64) (hh : h.length = 8) : cal P f_sha_mixed [.agg (wvs h).toArray, b] w fun r w' => r = .agg (wvs (mixM h l)).toArray ∧ Fr [] w w' := by
  refine s_sha_mixed fun R hR => ?_
  unfold c_sha_mixed
  refine bx_s (Sep.start w) fun g2 w1 hs => ?_
  simp only [Value.cells] at hs
  refine alloc_s hs (A_a8 w1) fun g4 w2 hs => ?_
  rw [ldN_w (Sep.p1 hs).blk hh]
  refine alloc_s hs (A_a8 w2) fun g5 w3 hs => ?_
  refine stN_w hs (by simp) hh fun w4 hs => ?_
  refine cal_i (schedule_spec (hs.rdB hb) hl) ?_
  rintro _ w5 ⟨rfl, hf5⟩
  replace hs := hs.old hf5
  have hsl := sch_len l 64
  refine ⟨fun a w' => ∃ t : Nat, a = .int .i64 t ∧ t ≤ 64 ∧ Sep w w' [wa g5 (rns l h t) T_a8_uint32, wa g4 (List.replicate 8 0) T_a8_uint32, wa g2 h T_a8_uint32], fun z _ => (64 - RowKit.intOf z).toNat, ⟨0, rfl, by omega, hs⟩, ?_⟩
  rintro _ w6 ⟨t, rfl, ht, hs6⟩ -
  simp only [nilc_some, fad_mk, pik_true, pik_false, cnd_true, cnd_false, gif_same, gif_tf, gif_ft, gif_undef, bi_add, bi_sub, bi_mul, bi_eql, bi_neq, bi_lss, bi_leq, bi_gtr, bi_geq, notB_bool, cvi_int, lenS_mk, lenT_mk, ext0, ext1, ext2, nilP_mk, nilS_mk, fldv_agg, jn0_k, jn1_k, jn2_k, jn1_and, jn1_or, ex_some, Option.isNone_some, Option.isNone_none, Bool.false_bne, Bool.bne_true, Bool.bne_false, Bool.true_bne, Bool.not_true, Bool.not_false, Bool.and_true, Bool.true_and, Bool.and_false, Bool.false_and, Bool.or_true, Bool.true_or, Bool.or_false, Bool.false_or, cond_true, cond_false, List.getElem?_toArray, List.getElem?_cons_zero, List.getElem?_cons_succ, Nat.zero_add, Nat.add_zero, Nat.reduceAdd, forall_const]
  have hvl := rns_len l hh t
  rw [cnd_bool]
  refine ⟨fun hlt => ?_, fun hlt => ?_⟩
  · have h64 : t < 64 := by simp at hlt; omega
    rw [ixv_w .i64 hsl h64]
    refine drw_s hs6 fun w7 hs7 _ => ?_
    generalize hv : rns l h t = v at *
    have i0 : ∀ K, ixa 8 1 (.pointer (some ⟨g5, 0, none⟩)) (.int .i64 0) K = K (.pointer (some ⟨g5, 0, none⟩)) := fun K => ixa_l .i64 0 (by decide) (by decide) K
    have i1 : ∀ K, ixa 8 1 (.pointer (some ⟨g5, 0, none⟩)) (.int .i64 1) K = K (.pointer (some ⟨g5, 1, none⟩)) := fun K => ixa_l .i64 1 (by decide) (by decide) K
    have i2 : ∀ K, ixa 8 1 (.pointer (some ⟨g5, 0, none⟩)) (.int .i64 2) K = K (.pointer (some ⟨g5, 2, none⟩)) := fun K => ixa_l .i64 2 (by decide) (by decide) K
    have i3 : ∀ K, ixa 8 1 (.pointer (some ⟨g5, 0, none⟩)) (.int .i64 3) K = K (.pointer (some ⟨g5, 3, none⟩)) := fun K => ixa_l .i64 3 (by decide) (by decide) K
    have i4 : ∀ K, ixa 8 1 (.pointer (some ⟨g5, 0, none⟩)) (.int .i64 4) K = K (.pointer (some ⟨g5, 4, none⟩)) := fun K => ixa_l .i64 4 (by decide) (by decide) K
    have i5 : ∀ K, ixa 8 1 (.pointer (some ⟨g5, 0, none⟩)) (.int .i64 5) K = K (.pointer (some ⟨g5, 5, none⟩)) := fun K => ixa_l .i64 5 (by decide) (by decide) K
    have i6 : ∀ K, ixa 8 1 (.pointer (some ⟨g5, 0, none⟩)) (.int .i64 6) K = K (.pointer (some ⟨g5, 6, none⟩)) := fun K => ixa_l .i64 6 (by decide) (by decide) K
    have i7 : ∀ K, ixa 8 1 (.pointer (some ⟨g5, 0, none⟩)) (.int .i64 7) K = K (.pointer (some ⟨g5, 7, none⟩)) := fun K => ixa_l .i64 7 (by decide) (by decide) K
    rw [i0, ld_w hs7.blk (by omega), i4, ld_w hs7.blk (by omega)]
    refine cal_i (Rot_spec (-6) 6 (by decide) (by decide)) ?_
    rintro _ _ ⟨rfl, rfl⟩
    refine cal_i (Rot_spec (-11) 11 (by decide) (by decide)) ?_
    rintro _ _ ⟨rfl, rfl⟩
    rw [wv_xor]
    refine cal_i (Rot_spec (-25) 25 (by decide) (by decide)) ?_
    rintro _ _ ⟨rfl, rfl⟩
    rw [wv_xor]
    refine drw_s hs7 fun w8 hs8 _ => ?_
    obtain ⟨tc, fc, hcub⟩ := hc.fr hs8.fr0
    rw [i7, ld_w hs8.blk (by omega), wv_add, i5, ld_w hs8.blk (by omega), wv_and, wv_not, i6, ld_w hs8.blk (by omega), wv_and, wv_xor, wv_add, ixa_w .i64 h64, ld_w hcub (by show t < 64; omega), wv_add, wv_add]
    refine cal_i (Rot_spec (-2) 2 (by decide) (by decide)) ?_
    rintro _ _ ⟨rfl, rfl⟩
    refine cal_i (Rot_spec (-13) 13 (by decide) (by decide)) ?_
    rintro _ _ ⟨rfl, rfl⟩
    rw [wv_xor]
    refine cal_i (Rot_spec (-22) 22 (by decide) (by decide)) ?_
    rintro _ _ ⟨rfl, rfl⟩
    have hld : ∀ i, i < 8 → ∀ K, ld1 (.pointer (some ⟨g5, i, none⟩)) w8.heap K = K (wv (v.getD i 0)) := fun i hi K => ld_w hs8.blk (by omega) K
    rw [wv_xor, i1, hld 1 (by decide), wv_and, i2, hld 2 (by decide), wv_and, wv_xor, i1, hld 1 (by decide), i2, hld 2 (by decide), wv_and, wv_xor, wv_add, wv_add, i1, hld 1 (by decide), i2, hld 2 (by decide), i3, hld 3 (by decide), wv_add, i5, hld 5 (by decide), i6, hld 6 (by decide), B_a8]
    refine stN_w hs8 (by omega) rfl fun w9 hs9 => ?_
    rw [wi64 (by omega) (by omega)]
    refine ⟨⟨t + 1, by simp, by omega, ?_⟩, by simp [RowKit.intOf]; omega⟩
    rw [rns, hv]
    exact hs9
  · have h64 : t = 64 := by simp at hlt; omega
    subst h64
    generalize hv : rns l h 64 = v at *
    refine ⟨fun a w' => ∃ i : Nat, a = .int .i64 i ∧ i ≤ 8 ∧ Sep w w' [wa g2 (hz h v i) T_a8_uint32, wa g5 v T_a8_uint32, wa g4 (List.replicate 8 0) T_a8_uint32], fun z _ => (8 - RowKit.intOf z).toNat, ⟨0, rfl, by omega, by rw [hz_zero]; exact hs6.p2⟩, ?_⟩
    rintro _ w7 ⟨i, rfl, hi, hs7⟩ -
    simp only [nilc_some, fad_mk, pik_true, pik_false, cnd_true, cnd_false, gif_same, gif_tf, gif_ft, gif_undef, bi_add, bi_sub, bi_mul, bi_eql, bi_neq, bi_lss, bi_leq, bi_gtr, bi_geq, notB_bool, cvi_int, lenS_mk, lenT_mk, ext0, ext1, ext2, nilP_mk, nilS_mk, fldv_agg, jn0_k, jn1_k, jn2_k, jn1_and, jn1_or, ex_some, Option.isNone_some, Option.isNone_none, Bool.false_bne, Bool.bne_true, Bool.bne_false, Bool.true_bne, Bool.not_true, Bool.not_false, Bool.and_true, Bool.true_and, Bool.and_false, Bool.false_and, Bool.or_true, Bool.true_or, Bool.or_false, Bool.false_or, cond_true, cond_false, List.getElem?_toArray, List.getElem?_cons_zero, List.getElem?_cons_succ, Nat.zero_add, Nat.add_zero, Nat.reduceAdd, forall_const]
    have hzl := hz_len hh hvl hi
    rw [cnd_bool]
    refine ⟨fun hlt => ?_, fun hlt => ?_⟩
    · have h8 : i < 8 := by simp at hlt; omega
      refine drH_s hs7 fun w8 hs8 _ => ?_
      simp only [rdS_ld1]
      rw [ixa_w .i64 h8, ld_w hs8.blk (by omega), ixa_w .i64 h8, ld_w (Sep.p1 hs8).blk (by omega), wv_add, ixa_w .i64 h8, hz_get hh hvl h8]
      refine efC_st1 (st_w hs8 (by omega) _ fun w9 hs9 => ?_)
      rw [wi64 (by omega) (by omega)]
      rw [hz_step hh hvl h8] at hs9
      exact ⟨⟨i + 1, by simp, by omega, hs9⟩, by simp [RowKit.intOf]; omega⟩
    · have h8 : i = 8 := by simp at hlt; omega
      subst h8
      rw [ldN_w hs7.blk hzl]
      refine stN_w hs7.p2 (by simp) hzl fun w8 hs8 => ?_
      rw [ldN_w hs8.blk hzl]
      refine hR _ _ ⟨?_, hs8.fr0⟩
      rw [hz_end hh hvl, mixM, hv]
theorem goes_spec (hb : RdB w.heap b l) (hl : l.length = 64) (hh : h.length = 8) : cal P f_ref02_goes [.agg (wvs h).toArray, b] w fun r w' => r = .agg (wvs (mixM h l)).toArray ∧ Fr [] w w' := by
  refine s_ref02_goes fun R hR => ?_
  unfold c_ref02_goes
  refine bx_s (Sep.start w) fun g2 w1 hs => ?_
  simp only [Value.cells] at hs
  refine alloc_s hs (A_a8 w1) fun g4 w2 hs => ?_
  refine cal_i (words_spec (hs.rdB hb) hl) ?_
  rintro _ w3 ⟨rfl, hf3⟩
  replace hs := hs.old hf3
  have hsl := sch_len l 64
  refine alloc_s hs (A_a64 w3) fun g5 w4 hs => ?_
  refine stN_w hs (by simp) hsl fun w5 hs => ?_
  refine cal_i constants_spec ?_
  rintro _ w6 ⟨rfl, hf6⟩
  replace hs := hs.old hf6
  refine alloc_s hs (A_a64 w6) fun g6 w7 hs => ?_
  refine stN_w hs (by simp) rfl fun w8 hs => ?_
  rw [ldN_w (Sep.p3 hs).blk hh]
  refine alloc_s hs (A_a8 w8) fun g7 w9 hs => ?_
  refine stN_w hs (by simp) hh fun w10 hs => ?_
  refine ⟨fun a w' => ∃ t : Nat, a = .int .i64 t ∧ t ≤ 64 ∧ Sep w w' [wa g7 (rns l h t) T_a8_uint32, wa g6 cubesL T_a64_uint32, wa g5 (sch l 64) T_a64_uint32, wa g4 (List.replicate 8 0) T_a8_uint32, wa g2 h T_a8_uint32], fun z _ => (64 - RowKit.intOf z).toNat, ⟨0, rfl, by omega, hs⟩, ?_⟩
  rintro _ w11 ⟨t, rfl, ht, hs6⟩ -
  simp only [nilc_some, fad_mk, pik_true, pik_false, cnd_true, cnd_false, gif_same, gif_tf, gif_ft, gif_undef, bi_add, bi_sub, bi_mul, bi_eql, bi_neq, bi_lss, bi_leq, bi_gtr, bi_geq, notB_bool, cvi_int, lenS_mk, lenT_mk, ext0, ext1, ext2, nilP_mk, nilS_mk, fldv_agg, jn0_k, jn1_k, jn2_k, jn1_and, jn1_or, ex_some, Option.isNone_some, Option.isNone_none, Bool.false_bne, Bool.bne_true, Bool.bne_false, Bool.true_bne, Bool.not_true, Bool.not_false, Bool.and_true, Bool.true_and, Bool.and_false, Bool.false_and, Bool.or_true, Bool.true_or, Bool.or_false, Bool.false_or, cond_true, cond_false, List.getElem?_toArray, List.getElem?_cons_zero, List.getElem?_cons_succ, Nat.zero_add, Nat.add_zero, Nat.reduceAdd, forall_const]
  have hvl := rns_len l hh t
  have hcl : cubesL.length = 64 := rfl
  rw [cnd_bool]
  refine ⟨fun hlt => ?_, fun hlt => ?_⟩
  · have h64 : t < 64 := by simp at hlt; omega
    generalize hv : rns l h t = v at *
    have i0 : ∀ K, ixa 8 1 (.pointer (some ⟨g7, 0, none⟩)) (.int .i64 0) K = K (.pointer (some ⟨g7, 0, none⟩)) := fun K => ixa_l .i64 0 (by decide) (by decide) K
    have i1 : ∀ K, ixa 8 1 (.pointer (some ⟨g7, 0, none⟩)) (.int .i64 1) K = K (.pointer (some ⟨g7, 1, none⟩)) := fun K => ixa_l .i64 1 (by decide) (by decide) K
    have i2 : ∀ K, ixa 8 1 (.pointer (some ⟨g7, 0, none⟩)) (.int .i64 2) K = K (.pointer (some ⟨g7, 2, none⟩)) := fun K => ixa_l .i64 2 (by decide) (by decide) K
    have i3 : ∀ K, ixa 8 1 (.pointer (some ⟨g7, 0, none⟩)) (.int .i64 3) K = K (.pointer (some ⟨g7, 3, none⟩)) := fun K => ixa_l .i64 3 (by decide) (by decide) K
    have i4 : ∀ K, ixa 8 1 (.pointer (some ⟨g7, 0, none⟩)) (.int .i64 4) K = K (.pointer (some ⟨g7, 4, none⟩)) := fun K => ixa_l .i64 4 (by decide) (by decide) K
    have i5 : ∀ K, ixa 8 1 (.pointer (some ⟨g7, 0, none⟩)) (.int .i64 5) K = K (.pointer (some ⟨g7, 5, none⟩)) := fun K => ixa_l .i64 5 (by decide) (by decide) K
    have i6 : ∀ K, ixa 8 1 (.pointer (some ⟨g7, 0, none⟩)) (.int .i64 6) K = K (.pointer (some ⟨g7, 6, none⟩)) := fun K => ixa_l .i64 6 (by decide) (by decide) K
    have i7 : ∀ K, ixa 8 1 (.pointer (some ⟨g7, 0, none⟩)) (.int .i64 7) K = K (.pointer (some ⟨g7, 7, none⟩)) := fun K => ixa_l .i64 7 (by decide) (by decide) K
    rw [i4, ld_w hs6.blk (by omega), i0, ld_w hs6.blk (by omega)]
    refine drH_s hs6 fun w12 hs7 _ => ?_
    have hld : ∀ i, i < 8 → ∀ K, ld1 (.pointer (some ⟨g7, i, none⟩)) w12.heap K = K (wv (v.getD i 0)) := fun i hi K => ld_w hs7.blk (by omega) K
    simp only [rdS_ld1, rdS_rdP, i7, i5, i6, hld 7 (by decide), hld 5 (by decide), hld 6 (by decide), wv_and, wv_not, wv_xor]
    rw [ixa_w .i64 h64, ld_w (Sep.p1 hs7).blk (by omega), ixa_w .i64 h64, ld_w (Sep.p2 hs7).blk (by omega)]
    refine efS_i (cal_i (turned_spec 6 6 rfl (by decide)) ?_)
    rintro _ _ ⟨rfl, rfl⟩
    refine ⟨rfl, efS_i (cal_i (turned_spec 11 11 rfl (by decide)) ?_)⟩
    rintro _ _ ⟨rfl, rfl⟩
    rw [wv_xor]
    refine ⟨rfl, efS_i (cal_i (turned_spec 25 25 rfl (by decide)) ?_)⟩
    rintro _ _ ⟨rfl, rfl⟩
    rw [wv_xor, wv_add, wv_add, wv_add, wv_add]
    refine ⟨rfl, drH_s hs7 fun w13 hs8 _ => ?_⟩
    have hld : ∀ i, i < 8 → ∀ K, ld1 (.pointer (some ⟨g7, i, none⟩)) w13.heap K = K (wv (v.getD i 0)) := fun i hi K => ld_w hs8.blk (by omega) K
    simp only [rdS_ld1, i1, i2, hld 1 (by decide), hld 2 (by decide), wv_and, wv_xor]
    refine efS_i (cal_i (turned_spec 2 2 rfl (by decide)) ?_)
    rintro _ _ ⟨rfl, rfl⟩
    refine ⟨rfl, efS_i (cal_i (turned_spec 13 13 rfl (by decide)) ?_)⟩
    rintro _ _ ⟨rfl, rfl⟩
    rw [wv_xor]
    refine ⟨rfl, efS_i (cal_i (turned_spec 22 22 rfl (by decide)) ?_)⟩
    rintro _ _ ⟨rfl, rfl⟩
    refine ⟨rfl, ?_⟩
    simp only [wv_xor, wv_add, i0, i3, i4, hld 0 (by decide), hld 1 (by decide), hld 2 (by decide), hld 3 (by decide), hld 4 (by decide), hld 5 (by decide), hld 6 (by decide), B_a8]
    refine stN_w hs8 (by omega) rfl fun w14 hs9 => ?_
    rw [wi64 (by omega) (by omega)]
    refine ⟨⟨t + 1, by simp, by omega, ?_⟩, by simp [RowKit.intOf]; omega⟩
    rw [rns, hv]
    exact hs9
  · have h64 : t = 64 := by simp at hlt; omega
    subst h64
    generalize hv : rns l h 64 = v at *
    refine ⟨fun a w' => ∃ i : Nat, a = .int .i64 i ∧ i ≤ 8 ∧ Sep w w' [wa g2 (hz h v i) T_a8_uint32, wa g7 v T_a8_uint32, wa g4 (List.replicate 8 0) T_a8_uint32], fun z _ => (8 - RowKit.intOf z).toNat, ⟨0, rfl, by omega, by rw [hz_zero]; exact hs6.d1.d1.p2⟩, ?_⟩
    rintro _ w12 ⟨i, rfl, hi, hs7⟩ -
    simp only [nilc_some, fad_mk, pik_true, pik_false, cnd_true, cnd_false, gif_same, gif_tf, gif_ft, gif_undef, bi_add, bi_sub, bi_mul, bi_eql, bi_neq, bi_lss, bi_leq, bi_gtr, bi_geq, notB_bool, cvi_int, lenS_mk, lenT_mk, ext0, ext1, ext2, nilP_mk, nilS_mk, fldv_agg, jn0_k, jn1_k, jn2_k, jn1_and, jn1_or, ex_some, Option.isNone_some, Option.isNone_none, Bool.false_bne, Bool.bne_true, Bool.bne_false, Bool.true_bne, Bool.not_true, Bool.not_false, Bool.and_true, Bool.true_and, Bool.and_false, Bool.false_and, Bool.or_true, Bool.true_or, Bool.or_false, Bool.false_or, cond_true, cond_false, List.getElem?_toArray, List.getElem?_cons_zero, List.getElem?_cons_succ, Nat.zero_add, Nat.add_zero, Nat.reduceAdd, forall_const]
    have hzl := hz_len hh hvl hi
    rw [cnd_bool]
    refine ⟨fun hlt => ?_, fun hlt => ?_⟩
    · have h8 : i < 8 := by simp at hlt; omega
      refine drH_s hs7 fun w13 hs8 _ => ?_
      simp only [rdS_ld1]
      rw [ixa_w .i64 h8, ld_w hs8.blk (by omega), ixa_w .i64 h8, ld_w (Sep.p1 hs8).blk (by omega), wv_add, ixa_w .i64 h8, hz_get hh hvl h8]
      refine efC_st1 (st_w hs8 (by omega) _ fun w14 hs9 => ?_)
      rw [wi64 (by omega) (by omega)]
      rw [hz_step hh hvl h8] at hs9
      exact ⟨⟨i + 1, by simp, by omega, hs9⟩, by simp [RowKit.intOf]; omega⟩
    · have h8 : i = 8 := by simp at hlt; omega
      subst h8
      rw [ldN_w hs7.blk hzl]
      refine stN_w hs7.p2 (by simp) hzl fun w13 hs8 => ?_
      rw [ldN_w hs8.blk hzl]
      refine hR _ _ ⟨?_, hs8.fr0⟩
      rw [hz_end hh hvl, mixM, hv]
end
end Go.Fx
