/-
  Records: a block's record; how long it is: the program's and the document's.
-/
import Derived.Test.YticmbeincpaaeaaDoorBlA
set_option linter.unusedVariables false
set_option linter.unusedSimpArgs false
namespace Go.Fx
/-- What stands ahead of a record's tail. -/
def Blk.hd (b : Blk) : List UInt8 := be 4 b.bytes.length ++ be 8 b.h.toNat ++ b.bytes
def tail8 (l : List UInt8) : List UInt8 := (shaM l).1.take 8
def Blk.rcd (b : Blk) : List UInt8 := b.hd ++ tail8 b.hd
def Blk.recO (b : Blk) : List UInt8 := if b.chk = 0 then b.rcd else []
theorem tail8_len (l : List UInt8) : (tail8 l).length = 8 := by unfold tail8; rw [List.length_take, (shaM l).2]; rfl
theorem Blk.hd_len (b : Blk) : b.hd.length = 58 + b.d.length := by
  unfold Blk.hd
  simp only [List.length_append, be_length, Blk.bytes_len]
  omega
theorem Blk.rec_len (b : Blk) : b.rcd.length = 66 + b.d.length := by
  unfold Blk.rcd
  rw [List.length_append, Blk.hd_len, tail8_len]
  omega
theorem Blk.recO_len (b : Blk) : b.recO.length = if b.chk = 0 then 66 + b.d.length else 0 := by
  unfold Blk.recO
  split
  · exact Blk.rec_len b
  · rfl
theorem Blk.recO_le (b : Blk) : b.recO.length ≤ 266 := by
  rw [Blk.recO_len]
  split
  · rename_i h
    have := Blk.chk_ok h
    omega
  · omega
/-- 'x[:j]', x an array. -/
theorem sla_to {size g len j : Nat} (hj : j ≤ len) (K : Value → Prop) : sla len size (.pointer (some ⟨g, 0, none⟩)) none (some (.int .i64 (j : Int))) K = K (.slice (some ⟨g, 0, none⟩) j len) := by
  have e : (if len = 0 then (⟨g, 0, none⟩ : Addr) else Addr.add ⟨g, 0, none⟩ (0 * size)) = ⟨g, 0, none⟩ := by
    split
    · rfl
    · rw [Nat.zero_mul, Addr_add_mk, Nat.add_zero]
  refine propext ⟨?_, fun hk => ⟨_, rfl, ?_⟩⟩
  · rintro ⟨a, ha, hk⟩
    cases ha
    obtain ⟨k, j', hj', h0, h1, hk⟩ := hk
    cases hj'
    simp only [bndO, e, Nat.sub_zero, Int.toNat_natCast] at hk
    exact hk
  · refine ⟨.i64, (j : Int), rfl, by omega, by omega, ?_⟩
    simp only [bndO, e, Nat.sub_zero, Int.toNat_natCast]
    exact hk
section
variable {w0 w z : World} {As : List Asn} {v : Value} {b : Blk}
/-- An array's first bytes. -/
theorem rd_arr {g n c k : Nat} {a : Vec n} {T : TypeId} (h : Sep w0 z (blk g (Rdr.cells (rVec n) a).toArray T :: As)) (hk : k ≤ n) : RdB z.heap (.slice (some ⟨g, 0, none⟩) k c) (a.1.take k) := by
  have hat : At z.heap g 0 (bvs a.1) := At.blk (cs := Rdr.cells (rVec n) a) h.blk
  have := At.rd (c := c) hat
  rw [a.2] at this
  exact this.take hk c
theorem recBytes_spec (hc : Cub w) (hb : RdB w.heap v b.d) (hh : b.h ≤ maxI) : cal P f_rec_Bytes [bq b v] w fun r w' => ∃ s, r = .tuple #[s, .int .i64 b.chk] ∧ Sep w w' [ownB s b.recO] := by
  refine s_rec_Bytes fun R hR => ?_
  unfold c_rec_Bytes
  refine bxQ (Sep.start w) fun g w1 hs => ?_
  simp only [L_api_Block hs.blk, L_api_Block__Parent hs.blk, L_api_Block__Height hs.blk, L_api_Block__Data hs.blk]
  refine cal_i (bkBytes_spec (hs.rdB hb) hh) ?_
  rintro _ w2 ⟨s2, rfl, hs2⟩
  replace hs2 := hs.join hs2
  simp only [nilc_some, fad_mk, pik_true, pik_false, cnd_true, cnd_false, gif_same, gif_tf, gif_ft, gif_undef, bi_add, bi_sub, bi_mul, bi_eql, bi_neq, bi_lss, bi_leq, bi_gtr, bi_geq, notB_bool, cvi_int, lenS_mk, lenT_mk, ext0, ext1, ext2, nilP_mk, nilS_mk, fldv_agg, jn0_k, jn1_k, jn2_k, jn1_and, jn1_or, ex_some, Option.isNone_some, Option.isNone_none, Bool.false_bne, Bool.bne_true, Bool.bne_false, Bool.true_bne, Bool.not_true, Bool.not_false, Bool.and_true, Bool.true_and, Bool.and_false, Bool.false_and, Bool.or_true, Bool.true_or, Bool.or_false, Bool.false_or, cond_true, cond_false, List.getElem?_toArray, List.getElem?_cons_zero, List.getElem?_cons_succ, Nat.zero_add, Nat.add_zero, Nat.reduceAdd, forall_const]
  rcases Blk.chk_or b with h0 | h0
  · have hck := Blk.chk_ok h0
    have ho : b.out = b.bytes := if_pos h0
    have hro : b.recO = b.rcd := if_pos h0
    have hbl := b.bytes_len
    rw [ho] at hs2
    rw [hro, h0] at hR
    simp only [h0, nilc_some, fad_mk, pik_true, pik_false, cnd_true, cnd_false, gif_same, gif_tf, gif_ft, gif_undef, bi_add, bi_sub, bi_mul, bi_eql, bi_neq, bi_lss, bi_leq, bi_gtr, bi_geq, notB_bool, cvi_int, lenS_mk, lenT_mk, ext0, ext1, ext2, nilP_mk, nilS_mk, fldv_agg, jn0_k, jn1_k, jn2_k, jn1_and, jn1_or, ex_some, Option.isNone_some, Option.isNone_none, Bool.false_bne, Bool.bne_true, Bool.bne_false, Bool.true_bne, Bool.not_true, Bool.not_false, Bool.and_true, Bool.true_and, Bool.and_false, Bool.false_and, Bool.or_true, Bool.true_or, Bool.or_false, Bool.false_or, cond_true, cond_false, List.getElem?_toArray, List.getElem?_cons_zero, List.getElem?_cons_succ, Nat.zero_add, Nat.add_zero, Nat.reduceAdd, forall_const, show ((0 : Int) != 0) = false from rfl]
    refine cal_i (NewS 258 (by omega)) ?_
    rintro _ w3 ⟨gp, rfl, hs3⟩
    replace hs3 := hs2.join hs3
    simp only [nilc_some, fad_mk, pik_true, pik_false, cnd_true, cnd_false, gif_same, gif_tf, gif_ft, gif_undef, bi_add, bi_sub, bi_mul, bi_eql, bi_neq, bi_lss, bi_leq, bi_gtr, bi_geq, notB_bool, cvi_int, lenS_mk, lenT_mk, ext0, ext1, ext2, nilP_mk, nilS_mk, fldv_agg, jn0_k, jn1_k, jn2_k, jn1_and, jn1_or, ex_some, Option.isNone_some, Option.isNone_none, Bool.false_bne, Bool.bne_true, Bool.bne_false, Bool.true_bne, Bool.not_true, Bool.not_false, Bool.and_true, Bool.true_and, Bool.and_false, Bool.false_and, Bool.or_true, Bool.true_or, Bool.or_false, Bool.false_or, cond_true, cond_false, List.getElem?_toArray, List.getElem?_cons_zero, List.getElem?_cons_succ, Nat.zero_add, Nat.add_zero, Nat.reduceAdd, forall_const, (Sep.rd hs2).len]
    rw [wu32i (by omega) (by omega)]
    refine cal_i (IntS hs3 (by omega) (by omega) (by simp)) ?_
    rintro _ w4 ⟨rfl, s4, hs4⟩
    simp only [nilc_some, fad_mk, pik_true, pik_false, cnd_true, cnd_false, gif_same, gif_tf, gif_ft, gif_undef, bi_add, bi_sub, bi_mul, bi_eql, bi_neq, bi_lss, bi_leq, bi_gtr, bi_geq, notB_bool, cvi_int, lenS_mk, lenT_mk, ext0, ext1, ext2, nilP_mk, nilS_mk, fldv_agg, jn0_k, jn1_k, jn2_k, jn1_and, jn1_or, ex_some, Option.isNone_some, Option.isNone_none, Bool.false_bne, Bool.bne_true, Bool.bne_false, Bool.true_bne, Bool.not_true, Bool.not_false, Bool.and_true, Bool.true_and, Bool.and_false, Bool.false_and, Bool.or_true, Bool.true_or, Bool.or_false, Bool.false_or, cond_true, cond_false, List.getElem?_toArray, List.getElem?_cons_zero, List.getElem?_cons_succ, Nat.zero_add, Nat.add_zero, Nat.reduceAdd, forall_const, L_api_Block (Sep.p3 hs4).blk, L_api_Block__Parent (Sep.p3 hs4).blk, L_api_Block__Height (Sep.p3 hs4).blk, L_api_Block__Data (Sep.p3 hs4).blk, u64_h hck.1 hh]
    refine cal_i (LongS hs4 (by omega) (by unfold maxI at hh; omega) (by simp [be_length])) ?_
    rintro _ w5 ⟨rfl, s5, hs5⟩
    refine cal_i (FixedS hs5 (c := b.bytes) (by omega) (fun z hz => hz.rd) (by simp [be_length]; omega)) ?_
    rintro _ w6 ⟨rfl, s6, hs6⟩
    refine cal_i (OutS hs6 (by simp [be_length]; omega)) ?_
    rintro _ w8 ⟨r, rfl, hs8⟩
    have e : [] ++ be 4 b.bytes.length ++ be 8 b.h.toNat ++ b.bytes = b.hd := by simp [Blk.hd]
    rw [e] at hs8
    simp only [nilc_some, fad_mk, pik_true, pik_false, cnd_true, cnd_false, gif_same, gif_tf, gif_ft, gif_undef, bi_add, bi_sub, bi_mul, bi_eql, bi_neq, bi_lss, bi_leq, bi_gtr, bi_geq, notB_bool, cvi_int, lenS_mk, lenT_mk, ext0, ext1, ext2, nilP_mk, nilS_mk, fldv_agg, jn0_k, jn1_k, jn2_k, jn1_and, jn1_or, ex_some, Option.isNone_some, Option.isNone_none, Bool.false_bne, Bool.bne_true, Bool.bne_false, Bool.true_bne, Bool.not_true, Bool.not_false, Bool.and_true, Bool.true_and, Bool.and_false, Bool.false_and, Bool.or_true, Bool.true_or, Bool.or_false, Bool.false_or, cond_true, cond_false, List.getElem?_toArray, List.getElem?_cons_zero, List.getElem?_cons_succ, Nat.zero_add, Nat.add_zero, Nat.reduceAdd, forall_const, show ((0 : Int) != 0) = false from rfl]
    refine cal_i (shaSum_spec (hc.fr hs8.fr0) (Sep.rd hs8) (by rw [Blk.hd_len]; omega)) ?_
    rintro _ w9 ⟨rfl, hf9⟩
    have hs9 := hs8.old hf9
    refine alloc_s hs9 (A_api_ID w9) fun g10 w10 hs10 => ?_
    refine St_api_ID hs10 fun w11 hs11 => ?_
    rw [show (Value.int .i64 8) = .int .i64 ((8 : Nat) : Int) from rfl, sla_to (by omega)]
    refine appB_s S_sl_uint8 U_sl_uint8 (by simp) hs11.p1 (rd_arr (k := 8) hs11 (by omega)) (by rw [Blk.hd_len, List.length_take]; omega) fun s12 w12 hs12 => ?_
    exact hR _ _ ⟨s12, rfl, Sep.dropR (As := [ownB s12 b.rcd]) hs12⟩
  · have hro : b.recO = [] := by rw [Blk.recO, if_neg (by omega)]
    rw [hro, h0] at hR
    simp only [h0, nilc_some, fad_mk, pik_true, pik_false, cnd_true, cnd_false, gif_same, gif_tf, gif_ft, gif_undef, bi_add, bi_sub, bi_mul, bi_eql, bi_neq, bi_lss, bi_leq, bi_gtr, bi_geq, notB_bool, cvi_int, lenS_mk, lenT_mk, ext0, ext1, ext2, nilP_mk, nilS_mk, fldv_agg, jn0_k, jn1_k, jn2_k, jn1_and, jn1_or, ex_some, Option.isNone_some, Option.isNone_none, Bool.false_bne, Bool.bne_true, Bool.bne_false, Bool.true_bne, Bool.not_true, Bool.not_false, Bool.and_true, Bool.true_and, Bool.and_false, Bool.false_and, Bool.or_true, Bool.true_or, Bool.or_false, Bool.false_or, cond_true, cond_false, List.getElem?_toArray, List.getElem?_cons_zero, List.getElem?_cons_succ, Nat.zero_add, Nat.add_zero, Nat.reduceAdd, forall_const, show ((30 : Int) != 0) = true from rfl]
    exact hR _ _ ⟨_, rfl, (Sep.start w).old hs2.fr0 |>.nil⟩
theorem rRecBytes_spec (hb : RdB w.heap v b.d) (hh : b.h ≤ maxI) : cal P f_ref09_Bytes [bq b v] w fun r w' => ∃ s, r = .tuple #[s, .int .i64 b.chk] ∧ Sep w w' [ownB s b.recO] := by
  refine s_ref09_Bytes fun R hR => ?_
  unfold c_ref09_Bytes
  refine bxQ (Sep.start w) fun g w1 hs => ?_
  simp only [L_api_Block hs.blk, L_api_Block__Parent hs.blk, L_api_Block__Height hs.blk, L_api_Block__Data hs.blk]
  refine cal_i (rbBytes_spec (hs.rdB hb) hh) ?_
  rintro _ w2 ⟨s2, rfl, hs2⟩
  replace hs2 := hs.join hs2
  simp only [nilc_some, fad_mk, pik_true, pik_false, cnd_true, cnd_false, gif_same, gif_tf, gif_ft, gif_undef, bi_add, bi_sub, bi_mul, bi_eql, bi_neq, bi_lss, bi_leq, bi_gtr, bi_geq, notB_bool, cvi_int, lenS_mk, lenT_mk, ext0, ext1, ext2, nilP_mk, nilS_mk, fldv_agg, jn0_k, jn1_k, jn2_k, jn1_and, jn1_or, ex_some, Option.isNone_some, Option.isNone_none, Bool.false_bne, Bool.bne_true, Bool.bne_false, Bool.true_bne, Bool.not_true, Bool.not_false, Bool.and_true, Bool.true_and, Bool.and_false, Bool.false_and, Bool.or_true, Bool.true_or, Bool.or_false, Bool.false_or, cond_true, cond_false, List.getElem?_toArray, List.getElem?_cons_zero, List.getElem?_cons_succ, Nat.zero_add, Nat.add_zero, Nat.reduceAdd, forall_const]
  rcases Blk.chk_or b with h0 | h0
  · have hck := Blk.chk_ok h0
    have ho : b.out = b.bytes := if_pos h0
    have hro : b.recO = b.rcd := if_pos h0
    have hbl := b.bytes_len
    rw [ho] at hs2
    rw [hro, h0] at hR
    simp only [h0, nilc_some, fad_mk, pik_true, pik_false, cnd_true, cnd_false, gif_same, gif_tf, gif_ft, gif_undef, bi_add, bi_sub, bi_mul, bi_eql, bi_neq, bi_lss, bi_leq, bi_gtr, bi_geq, notB_bool, cvi_int, lenS_mk, lenT_mk, ext0, ext1, ext2, nilP_mk, nilS_mk, fldv_agg, jn0_k, jn1_k, jn2_k, jn1_and, jn1_or, ex_some, Option.isNone_some, Option.isNone_none, Bool.false_bne, Bool.bne_true, Bool.bne_false, Bool.true_bne, Bool.not_true, Bool.not_false, Bool.and_true, Bool.true_and, Bool.and_false, Bool.false_and, Bool.or_true, Bool.true_or, Bool.or_false, Bool.false_or, cond_true, cond_false, List.getElem?_toArray, List.getElem?_cons_zero, List.getElem?_cons_succ, Nat.zero_add, Nat.add_zero, Nat.reduceAdd, forall_const, show ((0 : Int) != 0) = false from rfl, (Sep.rd hs2).len]
    rw [wu64i (by omega) (by omega)]
    refine drH_S hs2 fun w3 hs3 _ => ?_
    refine rdS_ld (v := .int .i64 b.h) (fun u hu K hk => (L_api_Block__Height (Sep.p1 hu).blk K).mpr hk) ?_
    simp only [nilc_some, fad_mk, pik_true, pik_false, cnd_true, cnd_false, gif_same, gif_tf, gif_ft, gif_undef, bi_add, bi_sub, bi_mul, bi_eql, bi_neq, bi_lss, bi_leq, bi_gtr, bi_geq, notB_bool, cvi_int, lenS_mk, lenT_mk, ext0, ext1, ext2, nilP_mk, nilS_mk, fldv_agg, jn0_k, jn1_k, jn2_k, jn1_and, jn1_or, ex_some, Option.isNone_some, Option.isNone_none, Bool.false_bne, Bool.bne_true, Bool.bne_false, Bool.true_bne, Bool.not_true, Bool.not_false, Bool.and_true, Bool.true_and, Bool.and_false, Bool.false_and, Bool.or_true, Bool.true_or, Bool.or_false, Bool.false_or, cond_true, cond_false, List.getElem?_toArray, List.getElem?_cons_zero, List.getElem?_cons_succ, Nat.zero_add, Nat.add_zero, Nat.reduceAdd, forall_const, u64_h hck.1 hh]
    refine efS_i (cal_i (rNumS (n := 4) (by omega) (by omega)) ?_)
    rintro t4 w4 hs4
    replace hs4 := hs3.join hs4
    refine ⟨hs4.tail, ?_⟩
    refine efC_calA (w0 := w) (As := ownB t4 (be 4 b.bytes.length) :: [ownB s2 b.bytes, bb g b v]) (cal_i (rNumS (n := 8) (by omega) (by unfold maxI at hh; omega)) ?_)
    rintro t5 w5 hs5
    replace hs5 := hs4.join hs5
    refine ⟨hs5.tail, ?_⟩
    refine efC_efP (appB_s S_sl_uint8 U_sl_uint8 (by simp) hs5.p1 (Sep.rd hs5) (by simp [be_length]) fun s6 w6 hs6 => ?_)
    refine appB_s S_sl_uint8 U_sl_uint8 (by simp) hs6 (Sep.rd hs6.p2) (by simp [be_length]; omega) fun s7 w7 hs7 => ?_
    have e : be 4 b.bytes.length ++ be 8 b.h.toNat ++ b.bytes = b.hd := rfl
    rw [e] at hs7
    refine cal_i (rSum_spec (Sep.rd hs7) (by rw [Blk.hd_len]; omega)) ?_
    rintro _ w8 ⟨rfl, hf8⟩
    have hs8 := hs7.old hf8
    refine alloc_s hs8 (A_api_ID w8) fun g9 w9 hs9 => ?_
    refine St_api_ID hs9 fun w10 hs10 => ?_
    have hs11 : Sep w w10 [ownB s7 b.hd, blk g9 (Rdr.cells (rVec 32) (shaM b.hd)).toArray T_api_ID] := (Sep.dropR (As := [blk g9 (Rdr.cells (rVec 32) (shaM b.hd)).toArray T_api_ID, ownB s7 b.hd]) hs10).p1
    have h32 := (shaM b.hd).2
    have hhl := b.hd_len
    refine ⟨fun x y w' => ∃ i : Nat, y = .int .i64 i ∧ i ≤ 8 ∧ Sep w w' [ownB x (b.hd ++ (shaM b.hd).1.take i), blk g9 (Rdr.cells (rVec 32) (shaM b.hd)).toArray T_api_ID], fun _ y _ => (8 - RowKit.intOf y).toNat, ⟨0, rfl, by omega, by simpa using hs11⟩, ?_⟩
    rintro s12 _ w12 ⟨i, rfl, hi, hs12⟩ -
    simp only [nilc_some, fad_mk, pik_true, pik_false, cnd_true, cnd_false, gif_same, gif_tf, gif_ft, gif_undef, bi_add, bi_sub, bi_mul, bi_eql, bi_neq, bi_lss, bi_leq, bi_gtr, bi_geq, notB_bool, cvi_int, lenS_mk, lenT_mk, ext0, ext1, ext2, nilP_mk, nilS_mk, fldv_agg, jn0_k, jn1_k, jn2_k, jn1_and, jn1_or, ex_some, Option.isNone_some, Option.isNone_none, Bool.false_bne, Bool.bne_true, Bool.bne_false, Bool.true_bne, Bool.not_true, Bool.not_false, Bool.and_true, Bool.true_and, Bool.and_false, Bool.false_and, Bool.or_true, Bool.true_or, Bool.or_false, Bool.false_or, cond_true, cond_false, List.getElem?_toArray, List.getElem?_cons_zero, List.getElem?_cons_succ, Nat.zero_add, Nat.add_zero, Nat.reduceAdd, forall_const]
    rw [cnd_bool]
    refine ⟨fun h => ?_, fun h => ?_⟩
    · have hlt : i < 8 := by simp at h; omega
      rw [ixa_w .i64 (by omega)]
      have hat : At w12.heap g9 0 (bvs (shaM b.hd).1) := At.blk (cs := Rdr.cells (rVec 32) (shaM b.hd)) (Sep.p1 hs12).blk
      have hld := At.byte hat (i := i) (by omega) 
      rw [Nat.zero_add] at hld
      rw [hld]
      refine app1 hs12 (by simp; omega) fun s13 w13 hs13 => ?_
      rw [wi64 (by omega) (by omega)]
      refine ⟨⟨i + 1, by simp, by omega, ?_⟩, by simp [RowKit.intOf]; omega⟩
      rw [List.take_succ_eq_append_getElem (by omega), ← List.append_assoc]
      exact hs13
    · have h8 : i = 8 := by simp at h; omega
      subst h8
      exact hR _ _ ⟨s12, rfl, Sep.dropR (As := [ownB s12 b.rcd]) hs12⟩
  · have hro : b.recO = [] := by rw [Blk.recO, if_neg (by omega)]
    rw [hro, h0] at hR
    simp only [h0, nilc_some, fad_mk, pik_true, pik_false, cnd_true, cnd_false, gif_same, gif_tf, gif_ft, gif_undef, bi_add, bi_sub, bi_mul, bi_eql, bi_neq, bi_lss, bi_leq, bi_gtr, bi_geq, notB_bool, cvi_int, lenS_mk, lenT_mk, ext0, ext1, ext2, nilP_mk, nilS_mk, fldv_agg, jn0_k, jn1_k, jn2_k, jn1_and, jn1_or, ex_some, Option.isNone_some, Option.isNone_none, Bool.false_bne, Bool.bne_true, Bool.bne_false, Bool.true_bne, Bool.not_true, Bool.not_false, Bool.and_true, Bool.true_and, Bool.and_false, Bool.false_and, Bool.or_true, Bool.true_or, Bool.or_false, Bool.false_or, cond_true, cond_false, List.getElem?_toArray, List.getElem?_cons_zero, List.getElem?_cons_succ, Nat.zero_add, Nat.add_zero, Nat.reduceAdd, forall_const, show ((30 : Int) != 0) = true from rfl]
    exact hR _ _ ⟨_, rfl, (Sep.start w).old hs2.fr0 |>.nil⟩
theorem recSize_spec (hb : RdB w.heap v b.d) : cal P f_rec_Size [bq b v] w fun r w' => r = .int .i64 b.recO.length ∧ Fr [] w w' := by
  refine s_rec_Size fun R hR => ?_
  unfold c_rec_Size
  refine bxQ (Sep.start w) fun g w1 hs => ?_
  simp only [L_api_Block hs.blk, L_api_Block__Parent hs.blk, L_api_Block__Height hs.blk, L_api_Block__Data hs.blk]
  refine cal_i (Check_spec (hs.rdB hb)) ?_
  rintro _ w2 ⟨rfl, hf2⟩
  have hs2 := hs.old hf2
  simp only [nilc_some, fad_mk, pik_true, pik_false, cnd_true, cnd_false, gif_same, gif_tf, gif_ft, gif_undef, bi_add, bi_sub, bi_mul, bi_eql, bi_neq, bi_lss, bi_leq, bi_gtr, bi_geq, notB_bool, cvi_int, lenS_mk, lenT_mk, ext0, ext1, ext2, nilP_mk, nilS_mk, fldv_agg, jn0_k, jn1_k, jn2_k, jn1_and, jn1_or, ex_some, Option.isNone_some, Option.isNone_none, Bool.false_bne, Bool.bne_true, Bool.bne_false, Bool.true_bne, Bool.not_true, Bool.not_false, Bool.and_true, Bool.true_and, Bool.and_false, Bool.false_and, Bool.or_true, Bool.true_or, Bool.or_false, Bool.false_or, cond_true, cond_false, List.getElem?_toArray, List.getElem?_cons_zero, List.getElem?_cons_succ, Nat.zero_add, Nat.add_zero, Nat.reduceAdd, forall_const]
  rw [Blk.recO_len] at hR
  rcases Blk.chk_or b with h0 | h0
  · have hck := Blk.chk_ok h0
    rw [if_pos h0] at hR
    simp only [h0, nilc_some, fad_mk, pik_true, pik_false, cnd_true, cnd_false, gif_same, gif_tf, gif_ft, gif_undef, bi_add, bi_sub, bi_mul, bi_eql, bi_neq, bi_lss, bi_leq, bi_gtr, bi_geq, notB_bool, cvi_int, lenS_mk, lenT_mk, ext0, ext1, ext2, nilP_mk, nilS_mk, fldv_agg, jn0_k, jn1_k, jn2_k, jn1_and, jn1_or, ex_some, Option.isNone_some, Option.isNone_none, Bool.false_bne, Bool.bne_true, Bool.bne_false, Bool.true_bne, Bool.not_true, Bool.not_false, Bool.and_true, Bool.true_and, Bool.and_false, Bool.false_and, Bool.or_true, Bool.true_or, Bool.or_false, Bool.false_or, cond_true, cond_false, List.getElem?_toArray, List.getElem?_cons_zero, List.getElem?_cons_succ, Nat.zero_add, Nat.add_zero, Nat.reduceAdd, forall_const, show ((0 : Int) != 0) = false from rfl, L_api_Block hs2.blk, L_api_Block__Parent hs2.blk, L_api_Block__Height hs2.blk, L_api_Block__Data hs2.blk, (hs2.rdB hb).len]
    refine hR _ _ ⟨?_, hs2.fr0⟩
    rw [wi64 (x := 58 + (b.d.length : Int)) (by omega) (by omega), wi64 (by omega) (by omega)]
    congr 1
    omega
  · rw [if_neg (by omega)] at hR
    simp only [h0, nilc_some, fad_mk, pik_true, pik_false, cnd_true, cnd_false, gif_same, gif_tf, gif_ft, gif_undef, bi_add, bi_sub, bi_mul, bi_eql, bi_neq, bi_lss, bi_leq, bi_gtr, bi_geq, notB_bool, cvi_int, lenS_mk, lenT_mk, ext0, ext1, ext2, nilP_mk, nilS_mk, fldv_agg, jn0_k, jn1_k, jn2_k, jn1_and, jn1_or, ex_some, Option.isNone_some, Option.isNone_none, Bool.false_bne, Bool.bne_true, Bool.bne_false, Bool.true_bne, Bool.not_true, Bool.not_false, Bool.and_true, Bool.true_and, Bool.and_false, Bool.false_and, Bool.or_true, Bool.true_or, Bool.or_false, Bool.false_or, cond_true, cond_false, List.getElem?_toArray, List.getElem?_cons_zero, List.getElem?_cons_succ, Nat.zero_add, Nat.add_zero, Nat.reduceAdd, forall_const, show ((30 : Int) != 0) = true from rfl]
    exact hR _ _ ⟨rfl, hs2.fr0⟩
theorem rRecSize_spec (hb : RdB w.heap v b.d) (hh : b.h ≤ maxI) : cal P f_ref09_Size [bq b v] w fun r w' => r = .int .i64 b.recO.length ∧ Fr [] w w' := by
  refine s_ref09_Size fun R hR => ?_
  unfold c_ref09_Size
  refine bxQ (Sep.start w) fun g w1 hs => ?_
  simp only [L_api_Block hs.blk, L_api_Block__Parent hs.blk, L_api_Block__Height hs.blk, L_api_Block__Data hs.blk]
  refine cal_i (rRecBytes_spec (hs.rdB hb) hh) ?_
  rintro _ w2 ⟨s2, rfl, hs2⟩
  replace hs2 := hs.join hs2
  simp only [nilc_some, fad_mk, pik_true, pik_false, cnd_true, cnd_false, gif_same, gif_tf, gif_ft, gif_undef, bi_add, bi_sub, bi_mul, bi_eql, bi_neq, bi_lss, bi_leq, bi_gtr, bi_geq, notB_bool, cvi_int, lenS_mk, lenT_mk, ext0, ext1, ext2, nilP_mk, nilS_mk, fldv_agg, jn0_k, jn1_k, jn2_k, jn1_and, jn1_or, ex_some, Option.isNone_some, Option.isNone_none, Bool.false_bne, Bool.bne_true, Bool.bne_false, Bool.true_bne, Bool.not_true, Bool.not_false, Bool.and_true, Bool.true_and, Bool.and_false, Bool.false_and, Bool.or_true, Bool.true_or, Bool.or_false, Bool.false_or, cond_true, cond_false, List.getElem?_toArray, List.getElem?_cons_zero, List.getElem?_cons_succ, Nat.zero_add, Nat.add_zero, Nat.reduceAdd, forall_const, (Sep.rd hs2).len]
  exact hR _ _ ⟨rfl, hs2.fr0⟩
end
end Go.Fx
