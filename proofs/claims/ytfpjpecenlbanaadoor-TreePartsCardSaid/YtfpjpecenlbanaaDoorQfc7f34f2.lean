/-
  A tree's clone: the program's.
-/
import Derived.Maps.RangeRun
import Derived.Test.YtfpjpecenlbanaaDoorQ51bd8519
import Derived.Test.YtfpjpecenlbanaaDoorQ38683303
import Derived.Test.YtfpjpecenlbanaaDoorQ29331318
import Derived.Test.YtfpjpecenlbanaaDoorQ7ac55a2a
set_option linter.unusedVariables false
set_option linter.unusedSimpArgs false
namespace Go.Fx
def Blk.bytes (b : Blk) : List UInt8 := [0, 0] ++ b.p.1 ++ be 8 b.h.toNat ++ be 4 b.d.length ++ b.d
theorem Blk.bytes_len (b : Blk) : b.bytes.length = 46 + b.d.length := by
  have := b.p.2
  simp [Blk.bytes, be_length, this]
  omega
def Blk.out (b : Blk) : List UInt8 := if b.chk = 0 then b.bytes else []
def Blk.id (b : Blk) : Vec 32 := shaM b.bytes
def Blk.name (b : Blk) : Vec 32 := if b.chk = 0 then b.id else vz 32
abbrev maxI : Int := 9223372036854775807
section
variable {w0 w : World} {As : List Asn} {v u : Value} {a b : Blk} {g : Nat}
theorem at_par (hs : Sep w0 w (bb g b v :: As)) : At w.heap g 0 (bvs b.p.1) := by
  have := (Fld.fst Fld.self : Fld Q_api_Block (rVec 32) 0 _ _).at (At.blk (cs := Rdr.cells Q_api_Block (b.p, b.h, v)) hs.blk)
  exact this
theorem rd_par (hs : Sep w0 w (bb g b v :: As)) (c : Nat) : RdB w.heap (.slice (some ⟨g, 0, none⟩) 32 c) b.p.1 := by
  have := At.rd (c := c) (at_par hs)
  rwa [b.p.2] at this
theorem ld_par (hs : Sep w0 w (bb g b v :: As)) {i : Nat} (hi : i < 32) (K : Value → Prop) : ld1 (.pointer (some ⟨g, i, none⟩)) w.heap K = K (bv (b.p.1[i]'(by rw [b.p.2]; exact hi))) := by
  have hl := b.p.2
  have h1 : bvs b.p.1 = bvs (b.p.1.take i) ++ [bv (b.p.1[i]'(by omega))] ++ bvs (b.p.1.drop (i + 1)) := by
    have e : b.p.1 = b.p.1.take i ++ b.p.1[i]'(by omega) :: b.p.1.drop (i + 1) := by rw [← List.drop_eq_getElem_cons, List.take_append_drop]
    unfold bvs
    conv => lhs; rw [e]
    rw [List.map_append, List.map_cons]
    simp only [List.append_assoc, List.singleton_append]
  have ha := at_par hs
  rw [h1] at ha
  have := (ha.part (k := i) (by simp [bvs]; omega)).ld1 K
  rwa [Nat.zero_add] at this
theorem u64_h {h : Int} (h0 : 0 ≤ h) (h1 : h ≤ maxI) : IntKind.u64.wrap h = (h.toNat : Int) := by
  unfold maxI at h1
  rw [wu64i h0 (by omega)]; omega
theorem bkBytes_spec (hb : RdB w.heap v b.d) (hh : b.h ≤ maxI) : cal P f_block_Bytes [bq b v] w fun r w' => ∃ s, r = .tuple #[s, .int .i64 b.chk] ∧ Sep w w' [ownB s b.out] := by
  refine s_block_Bytes fun R hR => ?_
  unfold c_block_Bytes
  refine bxQ (Sep.start w) fun g w1 hs => ?_
  simp only [L_api_Block hs.blk, L_api_Block__Parent hs.blk, L_api_Block__Height hs.blk, L_api_Block__Data hs.blk]
  refine cal_i (Check_spec (hs.rdB hb)) ?_
  rintro _ w2 ⟨rfl, hf2⟩
  have hs2 := hs.old hf2
  rw [bi_neq]
  rcases Blk.chk_or b with h0 | h0
  · have hck := Blk.chk_ok h0
    have ho : b.out = b.bytes := by rw [Blk.out, if_pos h0]
    rw [ho, h0] at hR
    simp only [h0, nilc_some, fad_mk, pik_true, pik_false, cnd_true, cnd_false, gif_same, gif_tf, gif_ft, gif_undef, bi_add, bi_sub, bi_mul, bi_eql, bi_neq, bi_lss, bi_leq, bi_gtr, bi_geq, notB_bool, cvi_int, lenS_mk, lenT_mk, ext0, ext1, ext2, nilP_mk, nilS_mk, fldv_agg, jn0_k, jn1_k, jn2_k, jn1_and, jn1_or, ex_some, Option.isNone_some, Option.isNone_none, Bool.false_bne, Bool.bne_true, Bool.bne_false, Bool.true_bne, Bool.not_true, Bool.not_false, Bool.and_true, Bool.true_and, Bool.and_false, Bool.false_and, Bool.or_true, Bool.true_or, Bool.or_false, Bool.false_or, cond_true, cond_false, List.getElem?_toArray, List.getElem?_cons_zero, List.getElem?_cons_succ, Nat.zero_add, Nat.add_zero, Nat.reduceAdd, forall_const, show ((0 : Int) != 0) = false from rfl]
    refine cal_i (NewS 246 (by omega)) ?_
    rintro _ w3 ⟨gp, rfl, hs3⟩
    replace hs3 := hs2.join hs3
    refine cal_i (ShortS hs3 (v := 0) (by omega) (by omega) (by simp)) ?_
    rintro _ w4 ⟨rfl, s4, hs4⟩
    rw [sla_all]
    refine cal_i (FixedS hs4 (c := b.p.1) (by omega) (fun z hz => rd_par hz 32) (by simp [be_length, b.p.2])) ?_
    rintro _ w5 ⟨rfl, s5, hs5⟩
    simp only [nilc_some, fad_mk, pik_true, pik_false, cnd_true, cnd_false, gif_same, gif_tf, gif_ft, gif_undef, bi_add, bi_sub, bi_mul, bi_eql, bi_neq, bi_lss, bi_leq, bi_gtr, bi_geq, notB_bool, cvi_int, lenS_mk, lenT_mk, ext0, ext1, ext2, nilP_mk, nilS_mk, fldv_agg, jn0_k, jn1_k, jn2_k, jn1_and, jn1_or, ex_some, Option.isNone_some, Option.isNone_none, Bool.false_bne, Bool.bne_true, Bool.bne_false, Bool.true_bne, Bool.not_true, Bool.not_false, Bool.and_true, Bool.true_and, Bool.and_false, Bool.false_and, Bool.or_true, Bool.true_or, Bool.or_false, Bool.false_or, cond_true, cond_false, List.getElem?_toArray, List.getElem?_cons_zero, List.getElem?_cons_succ, Nat.zero_add, Nat.add_zero, Nat.reduceAdd, forall_const, L_api_Block (Sep.p2 hs5).blk, L_api_Block__Parent (Sep.p2 hs5).blk, L_api_Block__Height (Sep.p2 hs5).blk, L_api_Block__Data (Sep.p2 hs5).blk, u64_h hck.1 hh]
    refine cal_i (LongS hs5 (by omega) (by unfold maxI at hh; omega) (by simp [be_length, b.p.2])) ?_
    rintro _ w6 ⟨rfl, s6, hs6⟩
    simp only [nilc_some, fad_mk, pik_true, pik_false, cnd_true, cnd_false, gif_same, gif_tf, gif_ft, gif_undef, bi_add, bi_sub, bi_mul, bi_eql, bi_neq, bi_lss, bi_leq, bi_gtr, bi_geq, notB_bool, cvi_int, lenS_mk, lenT_mk, ext0, ext1, ext2, nilP_mk, nilS_mk, fldv_agg, jn0_k, jn1_k, jn2_k, jn1_and, jn1_or, ex_some, Option.isNone_some, Option.isNone_none, Bool.false_bne, Bool.bne_true, Bool.bne_false, Bool.true_bne, Bool.not_true, Bool.not_false, Bool.and_true, Bool.true_and, Bool.and_false, Bool.false_and, Bool.or_true, Bool.true_or, Bool.or_false, Bool.false_or, cond_true, cond_false, List.getElem?_toArray, List.getElem?_cons_zero, List.getElem?_cons_succ, Nat.zero_add, Nat.add_zero, Nat.reduceAdd, forall_const, L_api_Block (Sep.p2 hs6).blk, L_api_Block__Parent (Sep.p2 hs6).blk, L_api_Block__Height (Sep.p2 hs6).blk, L_api_Block__Data (Sep.p2 hs6).blk]
    refine cal_i (BytesS hs6 (by omega) (fun z hz => hz.rdB hb) (by simp [be_length, b.p.2]; omega)) ?_
    rintro _ w7 ⟨rfl, s7, hs7⟩
    refine cal_i (OutS hs7 (by simp [be_length, b.p.2]; omega)) ?_
    rintro _ w8 ⟨r, rfl, hs8⟩
    simp only [nilc_some, fad_mk, pik_true, pik_false, cnd_true, cnd_false, gif_same, gif_tf, gif_ft, gif_undef, bi_add, bi_sub, bi_mul, bi_eql, bi_neq, bi_lss, bi_leq, bi_gtr, bi_geq, notB_bool, cvi_int, lenS_mk, lenT_mk, ext0, ext1, ext2, nilP_mk, nilS_mk, fldv_agg, jn0_k, jn1_k, jn2_k, jn1_and, jn1_or, ex_some, Option.isNone_some, Option.isNone_none, Bool.false_bne, Bool.bne_true, Bool.bne_false, Bool.true_bne, Bool.not_true, Bool.not_false, Bool.and_true, Bool.true_and, Bool.and_false, Bool.false_and, Bool.or_true, Bool.true_or, Bool.or_false, Bool.false_or, cond_true, cond_false, List.getElem?_toArray, List.getElem?_cons_zero, List.getElem?_cons_succ, Nat.zero_add, Nat.add_zero, Nat.reduceAdd, forall_const]
    have e : [] ++ be 2 0 ++ b.p.1 ++ be 8 b.h.toNat ++ (be 4 b.d.length ++ b.d) = b.bytes := by
      simp [Blk.bytes, be]
    rw [e] at hs8
    exact hR _ _ ⟨r, rfl, hs8.d1.d1.d1⟩
  · have ho : b.out = [] := by rw [Blk.out, if_neg (by omega)]
    rw [ho, h0] at hR
    simp only [h0, nilc_some, fad_mk, pik_true, pik_false, cnd_true, cnd_false, gif_same, gif_tf, gif_ft, gif_undef, bi_add, bi_sub, bi_mul, bi_eql, bi_neq, bi_lss, bi_leq, bi_gtr, bi_geq, notB_bool, cvi_int, lenS_mk, lenT_mk, ext0, ext1, ext2, nilP_mk, nilS_mk, fldv_agg, jn0_k, jn1_k, jn2_k, jn1_and, jn1_or, ex_some, Option.isNone_some, Option.isNone_none, Bool.false_bne, Bool.bne_true, Bool.bne_false, Bool.true_bne, Bool.not_true, Bool.not_false, Bool.and_true, Bool.true_and, Bool.and_false, Bool.false_and, Bool.or_true, Bool.true_or, Bool.or_false, Bool.false_or, cond_true, cond_false, List.getElem?_toArray, List.getElem?_cons_zero, List.getElem?_cons_succ, Nat.zero_add, Nat.add_zero, Nat.reduceAdd, forall_const, show ((30 : Int) != 0) = true from rfl]
    exact hR _ _ ⟨_, rfl, hs2.tail.nil⟩
theorem rbBytes_spec (hb : RdB w.heap v b.d) (hh : b.h ≤ maxI) : cal P f_ref03_Bytes [bq b v] w fun r w' => ∃ s, r = .tuple #[s, .int .i64 b.chk] ∧ Sep w w' [ownB s b.out] := by
  refine s_ref03_Bytes fun R hR => ?_
  unfold c_ref03_Bytes
  refine bxQ (Sep.start w) fun g w1 hs => ?_
  simp only [L_api_Block hs.blk, L_api_Block__Parent hs.blk, L_api_Block__Height hs.blk, L_api_Block__Data hs.blk]
  refine cal_i (rCheck_spec (hs.rdB hb)) ?_
  rintro _ w2 ⟨rfl, hf2⟩
  have hs2 := hs.old hf2
  rw [bi_neq]
  rcases Blk.chk_or b with h0 | h0
  · have hck := Blk.chk_ok h0
    have hp := b.p.2
    have ho : b.out = b.bytes := by rw [Blk.out, if_pos h0]
    rw [ho, h0] at hR
    simp only [h0, nilc_some, fad_mk, pik_true, pik_false, cnd_true, cnd_false, gif_same, gif_tf, gif_ft, gif_undef, bi_add, bi_sub, bi_mul, bi_eql, bi_neq, bi_lss, bi_leq, bi_gtr, bi_geq, notB_bool, cvi_int, lenS_mk, lenT_mk, ext0, ext1, ext2, nilP_mk, nilS_mk, fldv_agg, jn0_k, jn1_k, jn2_k, jn1_and, jn1_or, ex_some, Option.isNone_some, Option.isNone_none, Bool.false_bne, Bool.bne_true, Bool.bne_false, Bool.true_bne, Bool.not_true, Bool.not_false, Bool.and_true, Bool.true_and, Bool.and_false, Bool.false_and, Bool.or_true, Bool.true_or, Bool.or_false, Bool.false_or, cond_true, cond_false, List.getElem?_toArray, List.getElem?_cons_zero, List.getElem?_cons_succ, Nat.zero_add, Nat.add_zero, Nat.reduceAdd, forall_const, show ((0 : Int) != 0) = false from rfl]
    have hr : ∀ w : World, (Instr.buildSlice T_sl_uint8 2 #[(0, .int .u8 0), (1, .int .u8 0)]).run P w = .ok (.slice (some ⟨w.heap.size, 0, none⟩) 2 2) (w.alloc (.cells (bvs [0, 0]).toArray T_uint8)) := fun w => by kernel_rfl
    refine buildB_s (l := [0, 0]) hs2 rfl (hr w2) fun g3 w3 hs3 => ?_
    refine ⟨fun x y w' => ∃ i : Nat, y = .int .i64 i ∧ i ≤ 32 ∧ Sep w w' [ownB x ([0, 0] ++ b.p.1.take i), bb g b v], fun _ y _ => (32 - RowKit.intOf y).toNat, ⟨0, rfl, by omega, by simpa using hs3⟩, ?_⟩
    rintro s4 _ w4 ⟨i, rfl, hi, hs4⟩ -
    simp only [nilc_some, fad_mk, pik_true, pik_false, cnd_true, cnd_false, gif_same, gif_tf, gif_ft, gif_undef, bi_add, bi_sub, bi_mul, bi_eql, bi_neq, bi_lss, bi_leq, bi_gtr, bi_geq, notB_bool, cvi_int, lenS_mk, lenT_mk, ext0, ext1, ext2, nilP_mk, nilS_mk, fldv_agg, jn0_k, jn1_k, jn2_k, jn1_and, jn1_or, ex_some, Option.isNone_some, Option.isNone_none, Bool.false_bne, Bool.bne_true, Bool.bne_false, Bool.true_bne, Bool.not_true, Bool.not_false, Bool.and_true, Bool.true_and, Bool.and_false, Bool.false_and, Bool.or_true, Bool.true_or, Bool.or_false, Bool.false_or, cond_true, cond_false, List.getElem?_toArray, List.getElem?_cons_zero, List.getElem?_cons_succ, Nat.zero_add, Nat.add_zero, Nat.reduceAdd, forall_const]
    rw [cnd_bool]
    refine ⟨fun h => ?_, fun h => ?_⟩
    · have h32 : i < 32 := by simp at h; omega
      rw [ixa_w .i64 h32, ld_par hs4.p1 h32]
      refine app1 hs4 (by simp; omega) fun s5 w5 hs5 => ?_
      rw [wi64 (by omega) (by omega)]
      refine ⟨⟨i + 1, by simp, by omega, ?_⟩, by simp [RowKit.intOf]; omega⟩
      rw [List.take_succ_eq_append_getElem (by omega), ← List.append_assoc]
      exact hs5
    · have h32 : i = 32 := by simp at h; omega
      subst h32
      rw [List.take_of_length_le (by omega)] at hs4
      simp only [nilc_some, fad_mk, pik_true, pik_false, cnd_true, cnd_false, gif_same, gif_tf, gif_ft, gif_undef, bi_add, bi_sub, bi_mul, bi_eql, bi_neq, bi_lss, bi_leq, bi_gtr, bi_geq, notB_bool, cvi_int, lenS_mk, lenT_mk, ext0, ext1, ext2, nilP_mk, nilS_mk, fldv_agg, jn0_k, jn1_k, jn2_k, jn1_and, jn1_or, ex_some, Option.isNone_some, Option.isNone_none, Bool.false_bne, Bool.bne_true, Bool.bne_false, Bool.true_bne, Bool.not_true, Bool.not_false, Bool.and_true, Bool.true_and, Bool.and_false, Bool.false_and, Bool.or_true, Bool.true_or, Bool.or_false, Bool.false_or, cond_true, cond_false, List.getElem?_toArray, List.getElem?_cons_zero, List.getElem?_cons_succ, Nat.zero_add, Nat.add_zero, Nat.reduceAdd, forall_const, L_api_Block (Sep.p1 hs4).blk, L_api_Block__Parent (Sep.p1 hs4).blk, L_api_Block__Height (Sep.p1 hs4).blk, L_api_Block__Data (Sep.p1 hs4).blk, u64_h hck.1 hh]
      refine cal_i (rNumS (n := 8) (by omega) (by unfold maxI at hh; omega)) ?_
      rintro t5 w5 hs5
      replace hs5 := (hs4.join hs5).p1
      refine appB_s ST_bytes UT_bytes (by simp) hs5 (Sep.rd hs5.p1) (by simp [be_length, hp]) fun s6 w6 hs6 => ?_
      replace hs6 := hs6.d1
      have hl := (hs6.rdB hb).len
      simp only [nilc_some, fad_mk, pik_true, pik_false, cnd_true, cnd_false, gif_same, gif_tf, gif_ft, gif_undef, bi_add, bi_sub, bi_mul, bi_eql, bi_neq, bi_lss, bi_leq, bi_gtr, bi_geq, notB_bool, cvi_int, lenS_mk, lenT_mk, ext0, ext1, ext2, nilP_mk, nilS_mk, fldv_agg, jn0_k, jn1_k, jn2_k, jn1_and, jn1_or, ex_some, Option.isNone_some, Option.isNone_none, Bool.false_bne, Bool.bne_true, Bool.bne_false, Bool.true_bne, Bool.not_true, Bool.not_false, Bool.and_true, Bool.true_and, Bool.and_false, Bool.false_and, Bool.or_true, Bool.true_or, Bool.or_false, Bool.false_or, cond_true, cond_false, List.getElem?_toArray, List.getElem?_cons_zero, List.getElem?_cons_succ, Nat.zero_add, Nat.add_zero, Nat.reduceAdd, forall_const, L_api_Block (Sep.p1 hs6).blk, L_api_Block__Parent (Sep.p1 hs6).blk, L_api_Block__Height (Sep.p1 hs6).blk, L_api_Block__Data (Sep.p1 hs6).blk, hl]
      rw [wu64i (by omega) (by omega)]
      refine cal_i (rNumS (n := 4) (by omega) (by omega)) ?_
      rintro t7 w7 hs7
      replace hs7 := (hs6.join hs7).p1
      refine appB_s ST_bytes UT_bytes (by simp) hs7 (Sep.rd hs7.p1) (by simp [be_length, hp]) fun s8 w8 hs8 => ?_
      replace hs8 := hs8.d1
      simp only [nilc_some, fad_mk, pik_true, pik_false, cnd_true, cnd_false, gif_same, gif_tf, gif_ft, gif_undef, bi_add, bi_sub, bi_mul, bi_eql, bi_neq, bi_lss, bi_leq, bi_gtr, bi_geq, notB_bool, cvi_int, lenS_mk, lenT_mk, ext0, ext1, ext2, nilP_mk, nilS_mk, fldv_agg, jn0_k, jn1_k, jn2_k, jn1_and, jn1_or, ex_some, Option.isNone_some, Option.isNone_none, Bool.false_bne, Bool.bne_true, Bool.bne_false, Bool.true_bne, Bool.not_true, Bool.not_false, Bool.and_true, Bool.true_and, Bool.and_false, Bool.false_and, Bool.or_true, Bool.true_or, Bool.or_false, Bool.false_or, cond_true, cond_false, List.getElem?_toArray, List.getElem?_cons_zero, List.getElem?_cons_succ, Nat.zero_add, Nat.add_zero, Nat.reduceAdd, forall_const, L_api_Block (Sep.p1 hs8).blk, L_api_Block__Parent (Sep.p1 hs8).blk, L_api_Block__Height (Sep.p1 hs8).blk, L_api_Block__Data (Sep.p1 hs8).blk]
      refine appB_s ST_bytes UT_bytes (by simp) hs8 (hs8.rdB hb) (by simp [be_length, hp]; omega) fun s9 w9 hs9 => ?_
      have e : [0, 0] ++ b.p.1 ++ be 8 b.h.toNat ++ be 4 b.d.length ++ b.d = b.bytes := rfl
      rw [e] at hs9
      exact hR _ _ ⟨s9, rfl, hs9.d1⟩
  · have ho : b.out = [] := by rw [Blk.out, if_neg (by omega)]
    rw [ho, h0] at hR
    simp only [h0, nilc_some, fad_mk, pik_true, pik_false, cnd_true, cnd_false, gif_same, gif_tf, gif_ft, gif_undef, bi_add, bi_sub, bi_mul, bi_eql, bi_neq, bi_lss, bi_leq, bi_gtr, bi_geq, notB_bool, cvi_int, lenS_mk, lenT_mk, ext0, ext1, ext2, nilP_mk, nilS_mk, fldv_agg, jn0_k, jn1_k, jn2_k, jn1_and, jn1_or, ex_some, Option.isNone_some, Option.isNone_none, Bool.false_bne, Bool.bne_true, Bool.bne_false, Bool.true_bne, Bool.not_true, Bool.not_false, Bool.and_true, Bool.true_and, Bool.and_false, Bool.false_and, Bool.or_true, Bool.true_or, Bool.or_false, Bool.false_or, cond_true, cond_false, List.getElem?_toArray, List.getElem?_cons_zero, List.getElem?_cons_succ, Nat.zero_add, Nat.add_zero, Nat.reduceAdd, forall_const, show ((30 : Int) != 0) = true from rfl]
    exact hR _ _ ⟨_, rfl, hs2.tail.nil⟩
theorem bkID_spec (hc : Cub w) (hb : RdB w.heap v b.d) (hh : b.h ≤ maxI) : cal P f_block_ID [bq b v] w fun r w' => r = .tuple #[.agg (Rdr.cells (rVec 32) b.name).toArray, .int .i64 b.chk] ∧ Fr [] w w' := by
  refine s_block_ID fun R hR => ?_
  unfold c_block_ID
  refine bxQ (Sep.start w) fun g w1 hs => ?_
  refine alloc_s hs (A_api_ID w1) fun g2 w2 hs2 => ?_
  simp only [L_api_Block (Sep.p1 hs2).blk, L_api_Block__Parent (Sep.p1 hs2).blk, L_api_Block__Height (Sep.p1 hs2).blk, L_api_Block__Data (Sep.p1 hs2).blk]
  refine cal_i (bkBytes_spec (hs2.rdB hb) hh) ?_
  rintro _ w3 ⟨s, rfl, hs3⟩
  replace hs3 := hs2.join hs3
  simp only [nilc_some, fad_mk, pik_true, pik_false, cnd_true, cnd_false, gif_same, gif_tf, gif_ft, gif_undef, bi_add, bi_sub, bi_mul, bi_eql, bi_neq, bi_lss, bi_leq, bi_gtr, bi_geq, notB_bool, cvi_int, lenS_mk, lenT_mk, ext0, ext1, ext2, nilP_mk, nilS_mk, fldv_agg, jn0_k, jn1_k, jn2_k, jn1_and, jn1_or, ex_some, Option.isNone_some, Option.isNone_none, Bool.false_bne, Bool.bne_true, Bool.bne_false, Bool.true_bne, Bool.not_true, Bool.not_false, Bool.and_true, Bool.true_and, Bool.and_false, Bool.false_and, Bool.or_true, Bool.true_or, Bool.or_false, Bool.false_or, cond_true, cond_false, List.getElem?_toArray, List.getElem?_cons_zero, List.getElem?_cons_succ, Nat.zero_add, Nat.add_zero, Nat.reduceAdd, forall_const]
  rcases Blk.chk_or b with h0 | h0
  · have hck := Blk.chk_ok h0
    have ho : b.out = b.bytes := by rw [Blk.out, if_pos h0]
    have hn : b.name = shaM b.bytes := by rw [Blk.name, if_pos h0, Blk.id]
    rw [ho] at hs3
    rw [hn, h0] at hR
    simp only [h0, nilc_some, fad_mk, pik_true, pik_false, cnd_true, cnd_false, gif_same, gif_tf, gif_ft, gif_undef, bi_add, bi_sub, bi_mul, bi_eql, bi_neq, bi_lss, bi_leq, bi_gtr, bi_geq, notB_bool, cvi_int, lenS_mk, lenT_mk, ext0, ext1, ext2, nilP_mk, nilS_mk, fldv_agg, jn0_k, jn1_k, jn2_k, jn1_and, jn1_or, ex_some, Option.isNone_some, Option.isNone_none, Bool.false_bne, Bool.bne_true, Bool.bne_false, Bool.true_bne, Bool.not_true, Bool.not_false, Bool.and_true, Bool.true_and, Bool.and_false, Bool.false_and, Bool.or_true, Bool.true_or, Bool.or_false, Bool.false_or, cond_true, cond_false, List.getElem?_toArray, List.getElem?_cons_zero, List.getElem?_cons_succ, Nat.zero_add, Nat.add_zero, Nat.reduceAdd, forall_const, show ((0 : Int) != 0) = false from rfl]
    refine cal_i (shaSum_spec (hc.fr hs3.fr0) (Sep.rd hs3) (by rw [Blk.bytes_len]; omega)) ?_
    rintro _ w4 ⟨rfl, hf4⟩
    have hs4 := (hs3.old hf4).p1
    refine St_api_ID hs4 fun w5 hs5 => ?_
    simp only [L_api_ID hs5.blk]
    exact hR _ _ ⟨rfl, hs5.fr0⟩
  · have hn : b.name = vz 32 := by rw [Blk.name, if_neg (by omega)]
    rw [hn, h0] at hR
    simp only [h0, nilc_some, fad_mk, pik_true, pik_false, cnd_true, cnd_false, gif_same, gif_tf, gif_ft, gif_undef, bi_add, bi_sub, bi_mul, bi_eql, bi_neq, bi_lss, bi_leq, bi_gtr, bi_geq, notB_bool, cvi_int, lenS_mk, lenT_mk, ext0, ext1, ext2, nilP_mk, nilS_mk, fldv_agg, jn0_k, jn1_k, jn2_k, jn1_and, jn1_or, ex_some, Option.isNone_some, Option.isNone_none, Bool.false_bne, Bool.bne_true, Bool.bne_false, Bool.true_bne, Bool.not_true, Bool.not_false, Bool.and_true, Bool.true_and, Bool.and_false, Bool.false_and, Bool.or_true, Bool.true_or, Bool.or_false, Bool.false_or, cond_true, cond_false, List.getElem?_toArray, List.getElem?_cons_zero, List.getElem?_cons_succ, Nat.zero_add, Nat.add_zero, Nat.reduceAdd, forall_const, B_ID0, show ((30 : Int) != 0) = true from rfl]
    refine St_api_ID hs3.p1 fun w5 hs5 => ?_
    simp only [L_api_ID hs5.blk]
    exact hR _ _ ⟨rfl, hs5.fr0⟩
theorem rbID_spec (hb : RdB w.heap v b.d) (hh : b.h ≤ maxI) : cal P f_ref03_ID [bq b v] w fun r w' => r = .tuple #[.agg (Rdr.cells (rVec 32) b.name).toArray, .int .i64 b.chk] ∧ Fr [] w w' := by
  refine s_ref03_ID fun R hR => ?_
  unfold c_ref03_ID
  refine bxQ (Sep.start w) fun g w1 hs => ?_
  refine alloc_s hs (A_api_ID w1) fun g2 w2 hs2 => ?_
  simp only [L_api_Block (Sep.p1 hs2).blk, L_api_Block__Parent (Sep.p1 hs2).blk, L_api_Block__Height (Sep.p1 hs2).blk, L_api_Block__Data (Sep.p1 hs2).blk]
  refine cal_i (rbBytes_spec (hs2.rdB hb) hh) ?_
  rintro _ w3 ⟨s, rfl, hs3⟩
  replace hs3 := hs2.join hs3
  simp only [nilc_some, fad_mk, pik_true, pik_false, cnd_true, cnd_false, gif_same, gif_tf, gif_ft, gif_undef, bi_add, bi_sub, bi_mul, bi_eql, bi_neq, bi_lss, bi_leq, bi_gtr, bi_geq, notB_bool, cvi_int, lenS_mk, lenT_mk, ext0, ext1, ext2, nilP_mk, nilS_mk, fldv_agg, jn0_k, jn1_k, jn2_k, jn1_and, jn1_or, ex_some, Option.isNone_some, Option.isNone_none, Bool.false_bne, Bool.bne_true, Bool.bne_false, Bool.true_bne, Bool.not_true, Bool.not_false, Bool.and_true, Bool.true_and, Bool.and_false, Bool.false_and, Bool.or_true, Bool.true_or, Bool.or_false, Bool.false_or, cond_true, cond_false, List.getElem?_toArray, List.getElem?_cons_zero, List.getElem?_cons_succ, Nat.zero_add, Nat.add_zero, Nat.reduceAdd, forall_const]
  rcases Blk.chk_or b with h0 | h0
  · have hck := Blk.chk_ok h0
    have ho : b.out = b.bytes := by rw [Blk.out, if_pos h0]
    have hn : b.name = shaM b.bytes := by rw [Blk.name, if_pos h0, Blk.id]
    rw [ho] at hs3
    rw [hn, h0] at hR
    simp only [h0, nilc_some, fad_mk, pik_true, pik_false, cnd_true, cnd_false, gif_same, gif_tf, gif_ft, gif_undef, bi_add, bi_sub, bi_mul, bi_eql, bi_neq, bi_lss, bi_leq, bi_gtr, bi_geq, notB_bool, cvi_int, lenS_mk, lenT_mk, ext0, ext1, ext2, nilP_mk, nilS_mk, fldv_agg, jn0_k, jn1_k, jn2_k, jn1_and, jn1_or, ex_some, Option.isNone_some, Option.isNone_none, Bool.false_bne, Bool.bne_true, Bool.bne_false, Bool.true_bne, Bool.not_true, Bool.not_false, Bool.and_true, Bool.true_and, Bool.and_false, Bool.false_and, Bool.or_true, Bool.true_or, Bool.or_false, Bool.false_or, cond_true, cond_false, List.getElem?_toArray, List.getElem?_cons_zero, List.getElem?_cons_succ, Nat.zero_add, Nat.add_zero, Nat.reduceAdd, forall_const, show ((0 : Int) != 0) = false from rfl]
    refine cal_i (rSum_spec (Sep.rd hs3) (by rw [Blk.bytes_len]; omega)) ?_
    rintro _ w4 ⟨rfl, hf4⟩
    have hs4 := (hs3.old hf4).p1
    refine St_api_ID hs4 fun w5 hs5 => ?_
    simp only [L_api_ID hs5.blk]
    exact hR _ _ ⟨rfl, hs5.fr0⟩
  · have hn : b.name = vz 32 := by rw [Blk.name, if_neg (by omega)]
    rw [hn, h0] at hR
    simp only [h0, nilc_some, fad_mk, pik_true, pik_false, cnd_true, cnd_false, gif_same, gif_tf, gif_ft, gif_undef, bi_add, bi_sub, bi_mul, bi_eql, bi_neq, bi_lss, bi_leq, bi_gtr, bi_geq, notB_bool, cvi_int, lenS_mk, lenT_mk, ext0, ext1, ext2, nilP_mk, nilS_mk, fldv_agg, jn0_k, jn1_k, jn2_k, jn1_and, jn1_or, ex_some, Option.isNone_some, Option.isNone_none, Bool.false_bne, Bool.bne_true, Bool.bne_false, Bool.true_bne, Bool.not_true, Bool.not_false, Bool.and_true, Bool.true_and, Bool.and_false, Bool.false_and, Bool.or_true, Bool.true_or, Bool.or_false, Bool.false_or, cond_true, cond_false, List.getElem?_toArray, List.getElem?_cons_zero, List.getElem?_cons_succ, Nat.zero_add, Nat.add_zero, Nat.reduceAdd, forall_const, B_ID0, show ((30 : Int) != 0) = true from rfl]
    refine St_api_ID hs3.p1 fun w5 hs5 => ?_
    simp only [L_api_ID hs5.blk]
    exact hR _ _ ⟨rfl, hs5.fr0⟩
end
end Go.Fx
set_option linter.unusedVariables false
set_option linter.unusedSimpArgs false
namespace Go.Fx
def Blk.kid (b : Blk) (d : List UInt8) : Blk := ⟨b.id, b.h + 1, d⟩
def Blk.kidOk (b : Blk) (d : List UInt8) : Prop := b.chk = 0 ∧ b.h ≠ maxI ∧ d.length ≤ 200
instance (b : Blk) (d : List UInt8) : Decidable (b.kidOk d) := by unfold Blk.kidOk; infer_instance
def Blk.child (b : Blk) (d : List UInt8) : Blk := if b.kidOk d then b.kid d else Blk.none
def Blk.childE (b : Blk) (d : List UInt8) : Int := if b.kidOk d then 0 else 30
def Blk.link (c b : Blk) : Int := if b.chk ≠ 0 ∨ c.chk ≠ 0 then 30 else if c.p = b.id ∧ c.h = b.h + 1 then 0 else 31
theorem Blk.kid_chk {b : Blk} {d : List UInt8} (h : 0 ≤ b.h) : (b.kid d).chk = if 200 < d.length then 30 else 0 := by
  unfold Blk.chk Blk.kid
  by_cases hd : 200 < d.length
  · rw [if_pos (.inr (.inl hd)), if_pos hd]
  · rw [if_neg (by simp; omega), if_neg hd]
theorem Blk.link_kid {b : Blk} {d : List UInt8} (hk : b.kidOk d) : (b.kid d).link b = 0 ∧ b.link (b.kid d) = 31 := by
  obtain ⟨h0, hm, hd⟩ := hk
  have hck := Blk.chk_ok h0
  have hkc : (b.kid d).chk = 0 := by rw [Blk.kid_chk hck.1, if_neg (by omega)]
  refine ⟨?_, ?_⟩
  · rw [Blk.link, if_neg (by rw [h0, hkc]; simp), if_pos ⟨rfl, rfl⟩]
  · rw [Blk.link, if_neg (by rw [h0, hkc]; simp), if_neg]
    rintro ⟨_, h2⟩
    have : b.h = b.h + 1 + 1 := h2
    omega
section
variable {w0 w : World} {As : List Asn} {v u : Value} {a b : Blk} {g : Nat} {d : List UInt8}
end
end Go.Fx
set_option linter.unusedVariables false
set_option linter.unusedSimpArgs false
namespace Go.Fx
def vec32 (l : List UInt8) : Vec 32 := ⟨(l ++ List.replicate 32 0).take 32, by simp⟩
theorem vec32_of {l : List UInt8} (h : 32 ≤ l.length) : (vec32 l).1 = l.take 32 := by
  show (l ++ List.replicate 32 0).take 32 = _
  rw [List.take_append_of_le_length h]
theorem vec32_eq {l : List UInt8} {p : Vec 32} (h : l = p.1) : vec32 l = p := by
  apply Subtype.ext
  have := p.2
  rw [vec32_of (by rw [h]; omega), h, List.take_of_length_le (by omega)]
def parB (l : List UInt8) : Blk := ⟨vec32 (l.drop 2), ofBe ((l.drop 34).take 8), l.drop 46⟩
def okP (l : List UInt8) : Prop := 46 ≤ l.length ∧ (parB l).h ≤ maxI ∧ (parB l).chk = 0 ∧ (parB l).bytes = l
instance (l : List UInt8) : Decidable (okP l) := by unfold okP; infer_instance
def parse (l : List UInt8) : Blk := if okP l then parB l else Blk.none
def parseE (l : List UInt8) : Int := if okP l then 0 else 30
/-- Bytes in parts. -/
theorem cut46 {l : List UInt8} (h : 46 ≤ l.length) : ∃ (a p x n d : List UInt8), l = a ++ (p ++ (x ++ (n ++ d))) ∧ a.length = 2 ∧ p.length = 32 ∧ x.length = 8 ∧ n.length = 4 := by
  refine ⟨l.take 2, (l.drop 2).take 32, (l.drop 34).take 8, (l.drop 42).take 4, l.drop 46, ?_, by simp; omega, by simp; omega, by simp; omega, by simp; omega⟩
  have e1 : l.drop 46 = (l.drop 42).drop 4 := by rw [List.drop_drop]
  have e2 : l.drop 42 = (l.drop 34).drop 8 := by rw [List.drop_drop]
  have e3 : l.drop 34 = (l.drop 2).drop 32 := by rw [List.drop_drop]
  rw [e1, List.take_append_drop, e2, List.take_append_drop, e3, List.take_append_drop, List.take_append_drop]
theorem parB_cut {a p x n d : List UInt8} (h1 : a.length = 2) (h2 : p.length = 32) (h3 : x.length = 8) (h4 : n.length = 4) : parB (a ++ (p ++ (x ++ (n ++ d)))) = ⟨⟨p, h2⟩, ofBe x, d⟩ := by
  have e1 : (a ++ (p ++ (x ++ (n ++ d)))).drop 2 = p ++ (x ++ (n ++ d)) := List.drop_left' h1
  have e2 : (a ++ (p ++ (x ++ (n ++ d)))).drop 34 = x ++ (n ++ d) := by rw [show 34 = 2 + 32 from rfl, ← List.drop_drop, e1, List.drop_left' h2]
  have e3 : (a ++ (p ++ (x ++ (n ++ d)))).drop 46 = d := by rw [show 46 = 34 + 8 + 4 from rfl, ← List.drop_drop, ← List.drop_drop, e2, List.drop_left' h3, List.drop_left' h4]
  unfold parB
  rw [e1, e2, e3, List.take_left' h3]
  congr 1
  apply Subtype.ext
  rw [vec32_of (by simp; omega), List.take_left' h2]
theorem be2_zero {a : List UInt8} (h1 : a.length = 2) (h : ofBe a = 0) : a = [0, 0] := by
  have := be_ofBe a
  rw [h1, h] at this
  exact this.symm
theorem ofBe_b4 {n : Nat} (h : n < 4294967296) : ofBe (be 4 n) = n := by rw [ofBe_be, Nat.mod_eq_of_lt (by simpa using h)]
theorem ofBe_b8 {n : Nat} (h : n < 18446744073709551616) : ofBe (be 8 n) = n := by rw [ofBe_be, Nat.mod_eq_of_lt (by simpa using h)]
/-- What is read is laid again: that must be these bytes. -/
theorem okP_cut {a p x n d : List UInt8} (h1 : a.length = 2) (h2 : p.length = 32) (h3 : x.length = 8) (h4 : n.length = 4) :
    okP (a ++ (p ++ (x ++ (n ++ d)))) ↔ ofBe a = 0 ∧ ofBe n = d.length ∧ (ofBe x : Int) ≤ maxI ∧ (⟨⟨p, h2⟩, ofBe x, d⟩ : Blk).chk = 0 := by
  unfold okP
  rw [parB_cut h1 h2 h3 h4]
  have hb : (⟨⟨p, h2⟩, ofBe x, d⟩ : Blk).bytes = [0, 0] ++ p ++ x ++ be 4 d.length ++ d := by
    unfold Blk.bytes
    simp only [Int.toNat_natCast]
    rw [show be 8 (ofBe x) = x by rw [← h3]; exact be_ofBe x]
  refine ⟨?_, ?_⟩
  · rintro ⟨_, hh, hc, he⟩
    have hck := Blk.chk_ok hc
    simp only at hck
    rw [hb] at he
    simp only [List.append_assoc] at he
    have e1 := List.append_inj he (by simp [h1])
    have e2 := List.append_inj e1.2 rfl
    have e3 := List.append_inj e2.2 rfl
    have e4 := List.append_inj e3.2 (by rw [be_length, h4])
    refine ⟨by rw [← e1.1]; rfl, ?_, hh, hc⟩
    rw [← e4.1, ofBe_b4 (by omega)]
  · rintro ⟨ha, hn, hh, hc⟩
    refine ⟨by simp; omega, hh, hc, ?_⟩
    rw [hb, be2_zero h1 ha, ← hn]
    have : be 4 (ofBe n) = n := by rw [← h4]; exact be_ofBe n
    rw [this]
    simp
theorem parse_bytes {b : Blk} (hc : b.chk = 0) (hh : b.h ≤ maxI) : okP b.bytes ∧ parB b.bytes = b := by
  have hck := Blk.chk_ok hc
  unfold maxI at hh
  have e : b.bytes = [0, 0] ++ (b.p.1 ++ (be 8 b.h.toNat ++ (be 4 b.d.length ++ b.d))) := by simp [Blk.bytes]
  have e8 : ofBe (be 8 b.h.toNat) = b.h.toNat := ofBe_b8 (by omega)
  have eb : (⟨⟨b.p.1, b.p.2⟩, (ofBe (be 8 b.h.toNat) : Nat), b.d⟩ : Blk) = b := by
    rw [e8, Int.toNat_of_nonneg hck.1]
  have ho := (okP_cut (a := [0, 0]) (p := b.p.1) (x := be 8 b.h.toNat) (n := be 4 b.d.length) (d := b.d) rfl b.p.2 (be_length ..) (be_length ..)).2 ⟨rfl, ofBe_b4 (by omega), by rw [e8]; unfold maxI; omega, by rw [eb]; exact hc⟩
  rw [e]
  refine ⟨ho, ?_⟩
  rw [parB_cut rfl b.p.2 (be_length ..) (be_length ..)]
  exact eb
theorem okP.len {l : List UInt8} (h : okP l) : l.length ≤ 246 := by
  have := (Blk.chk_ok h.2.2.1).2.1
  have hb := congrArg List.length h.2.2.2
  rw [Blk.bytes_len] at hb
  omega
section
variable {w0 w : World} {As : List Asn} {g o n n' : Nat} {cur : Array Value} {T : TypeId} {x : Value} {m : List UInt8}
/-- 'copy(a[:], x)', a an array in a variable. -/
theorem cpyBlk_s {P : Program} {t tx ty E : Nat} {K : Value → World → Prop} (hT : SlT P t E 1 1) (hs : Sep w0 w (blk g cur T :: As)) (ho : o + n ≤ cur.size) (hx : RdB w.heap x m) (hm : m.length = n)
    (h : ∀ w', Sep w0 w' (blk g (splice cur o (bvs m)) T :: As) → K (.int .i64 n) w') : efP P (Builtin.copy_ #[t, tx] ty #[.slice (some ⟨g, o, none⟩) n n', x]) w K := by
  obtain ⟨F, ⟨hb, rfl⟩, hk⟩ := hs.upd
  subst hm
  have hlm : (bvs m).length = m.length := by simp [bvs]
  have hund := hT.und
  have hle := Cel.lenOf (P := P) (w := w) hx
  have hload := Cel.load (P := P) (w := w) hx
  have hst := run_storeCells_at P g o T (bvs m) 0 cur w hb (by omega) (bvs_one m)
  simp only [Nat.add_zero] at hst
  rw [setRow_setBlk w g cur _ T (0, 0) hb] at hst
  refine ⟨_, setBlk w g (.cells (splice cur o (bvs m)) T (0, 0)), ?_, h _ (hk _ [g] (Go.Fx.blk g _ T) ⟨setBlk_self w g _ _ hb, rfl⟩ (fr_setBlk w g _) (Grew.refl _ _))⟩
  have hmin : Nat.min m.length m.length = m.length := Nat.min_self _
  simp only [Builtin.copy_, Sem.run_bind, Sem.run_pure, List.getElem?_toArray, List.getElem?_cons_zero, List.getElem?_cons_succ, run_underlying hund, Result.andThen_ok, hle, run_sizeOf hT.siz, hmin, hload]
  simp [goInt, hst, splice]
theorem Fld.cpy {α : Type} {r : Rdr α} {off k : Nat} {get : α → Vec k} {set : α → Vec k → α} (f : Fld r (rVec k) off get set) {P : Program} {t tx ty E : Nat} {K : Value → World → Prop} {a : α} (hT : SlT P t E 1 1) (hs : Sep w0 w (blk g (r.cells a).toArray T :: As))
    (hx : RdB w.heap x m) (hm : m.length = k) (h : ∀ w', Sep w0 w' (blk g (r.cells (set a ⟨m, hm⟩)).toArray T :: As) → K (.int .i64 k) w') : efP P (Builtin.copy_ #[t, tx] ty #[.slice (some ⟨g, off, none⟩) k n', x]) w K := by
  obtain ⟨pre, post, e1, e2, e3⟩ := f.spec a ⟨m, hm⟩
  rw [e1] at hs
  rw [e2] at h
  have hg : ((rVec k).cells (get a)).length = k := (rVec k).len _
  refine cpyBlk_s hT hs (by simp; omega) hx hm fun w' hs' => h w' ?_
  have := splice_mid (post := post) e3 (show (bvs m).length = ((rVec k).cells (get a)).length by rw [hg]; simp [bvs, hm])
  rw [this] at hs'
  exact hs'
end
end Go.Fx
set_option linter.unusedVariables false
set_option linter.unusedSimpArgs false
namespace Go.Fx
theorem notOk {l : List UInt8} (h : ¬ okP l) : parse l = Blk.none ∧ parseE l = 30 := by rw [parse, parseE, if_neg h, if_neg h]; exact ⟨rfl, rfl⟩
end Go.Fx
set_option linter.unusedVariables false
set_option linter.unusedSimpArgs false
namespace Go.Fx
end Go.Fx
set_option linter.unusedVariables false
set_option linter.unusedSimpArgs false
namespace Go.Fx
abbrev BV := Blk × Value
def BV.t (x : BV) : Vec 32 × Int × Value := (x.1.p, x.1.h, x.2)
/-- A slice of blocks, each with what its data read as. -/
def BRows (h : Heap) (v : Value) (l : List BV) : Prop := Rows' Q_api_Block h v (l.map BV.t) ∧ ∀ x ∈ l, RdB h x.2 x.1.d
theorem BRows.fr {w w' : World} {v : Value} {l : List BV} (h : BRows w.heap v l) (hf : Fr [] w w') : BRows w'.heap v l := ⟨h.1.fr hf, fun x hx => (h.2 x hx).fr hf (off_nil _)⟩
theorem BRows.len {h : Heap} {v : Value} {l : List BV} (hr : BRows h v l) (K : Value → Prop) : lenS v K = K (.int .i64 l.length) := by
  have := hr.1.len K
  rwa [List.length_map] at this
/-- 'l[j]'. -/
theorem BRows.ld {w : World} {v : Value} {l : List BV} {j : Nat} {x : BV} (hr : BRows w.heap v l) (hj : l[j]? = some x) (k : IntKind) {K : Value → Prop} (h : K (bq x.1 x.2)) : ixs 34 v (.int k (j : Int)) fun t => ldN 34 t w.heap K := by
  have : (l.map BV.t)[j]? = some x.t := by rw [List.getElem?_map, hj]; rfl
  exact Rows'.ldN (q := Q_api_Block) (by decide) hr.1 this k h
theorem qV (a : Vec 32 × Int × Value) : (Value.agg (Rdr.cells Q_api_Block a).toArray).cells = (Rdr.cells Q_api_Block a).toArray := rfl
section
variable {w0 w : World} {As : List Asn} {v : Value}
def ga : Blk := Blk.first [103]
theorem ga_chk : ga.chk = 0 := by decide +kernel
theorem ga_bytes : ga.bytes = List.replicate 42 0 ++ [0, 0, 0, 1, 103] := by decide +kernel
/-- A block's variable, read in a region that draws. -/
theorem rdS_bb {S : World → Prop} {g : Nat} {b : Blk} {v : Value} {K : Value → Prop} (hS : ∀ u, S u → ∃ t fr, u.heap[g]? = some (.cells (Rdr.cells Q_api_Block (b.p, b.h, v)).toArray t fr)) (hk : K (bq b v)) :
    rdS S (fun w => ldN 34 (.pointer (some ⟨g, 0, none⟩)) w.heap) K := ⟨_, fun u hu => by obtain ⟨t, fr, hg⟩ := hS u hu; exact (L_api_Block hg _).mpr rfl, hk⟩
/-- A block that is an argument. -/
abbrev ab (x : Vec 32 × Int × Sl UInt8) : Blk := ⟨x.1, x.2.1, x.2.2.l⟩
theorem ab_rd {h : Heap} {x : Vec 32 × Int × Sl UInt8} (hx : Rdr.ok R_api_Block h x) : RdB h x.2.2.v (ab x).d := hx.2.2.1
theorem ab_h {h : Heap} {x : Vec 32 × Int × Sl UInt8} (hx : Rdr.ok R_api_Block h x) : (ab x).h ≤ maxI := by
  have := Go.bounds_i64 hx.2.1
  unfold maxI
  show x.2.1 ≤ _
  omega
theorem ab_len {h : Heap} {x : Vec 32 × Int × Sl UInt8} (hx : Rdr.ok R_api_Block h x) : (ab x).d.length ≤ 9223372036854775807 := hx.2.2.2.1
end
end Go.Fx
set_option linter.unusedVariables false
set_option linter.unusedSimpArgs false
namespace Go.Fx
/-- A block of a tree: its name, itself, where its data stand, when it came. -/
abbrev TN := Vec 32 × Blk × Value × Nat
def TN.ent (x : TN) : Ent 32 := (x.1, bq x.2.1 x.2.2.1, x.2.2.2)
/-- A tree's head. -/
structure Tr where
  root : Vec 32
  ht : Int
  most : Int
def nodeOf (k : Vec 32) (N : List TN) : Option TN := N.find? fun x => decide (k = x.1)
def blkOf (k : Vec 32) (N : List TN) : Option Blk := (nodeOf k N).map (·.2.1)
theorem getE_node (k : Vec 32) : ∀ N : List TN, getE k (N.map TN.ent) = (nodeOf k N).map fun x => bq x.2.1 x.2.2.1
  | [] => rfl
  | x :: N => by
    unfold getE nodeOf
    rw [List.map_cons, List.find?_cons, List.find?_cons]
    by_cases h : k = x.1
    · simp [h, TN.ent]
    · have e1 : decide (k = (TN.ent x).1) = false := decide_eq_false h
      have e2 : decide (k = x.1) = false := decide_eq_false h
      rw [e1, e2]
      exact getE_node k N
theorem KT : KeyT P T_api_ID T_uint8 32 := ⟨U_api_ID, U_uint8, by kernel_rfl, by kernel_rfl, EQ_api_ID⟩
theorem zB (w : World) : (zeroValue T_api_Block).run P w = .ok (bq Blk.none (.slice none 0 0)) w := by kernel_rfl
/-- A map's entries, in whatever order they came, are the blocks. -/
structure EOk (E : List (Ent 32)) (N : List TN) (c : Nat) : Prop where
  pm : (E.map (·.1)).Perm (N.map (·.1))
  nd : (E.map (·.1)).Nodup
  get : ∀ k, getE k E = getE k (N.map TN.ent)
  bn : (E.map (·.2.2)).Nodup
  lt : ∀ x ∈ E, x.2.2 < c
theorem EOk.nil (c : Nat) : EOk [] [] c := ⟨List.Perm.refl _, by simp, fun _ => rfl, by simp, fun x hx => by cases hx⟩
theorem EOk.len {E : List (Ent 32)} {N : List TN} {c : Nat} (h : EOk E N c) : E.length = N.length := by
  have := h.pm.length_eq
  simpa using this
/-- A map of blocks. -/
def mpN (gm : Nat) (N : List TN) (c : Nat) : Asn := Asn.ex fun E => (Asn.pr (EOk E N c)).star (mp gm E c)
theorem mpN_open {w0 w : World} {As : List Asn} {gm c : Nat} {N : List TN} (h : Sep w0 w (mpN gm N c :: As)) : ∃ E, EOk E N c ∧ Sep w0 w (mp gm E c :: As) := by
  unfold mpN at h
  rw [Sep_ex] at h
  obtain ⟨E, h⟩ := h
  rw [Sep_star, Sep_pr] at h
  exact ⟨E, h.1, h.2⟩
theorem mpN_close {w0 w : World} {As : List Asn} {gm c : Nat} {N : List TN} {E : List (Ent 32)} (hE : EOk E N c) (h : Sep w0 w (mp gm E c :: As)) : Sep w0 w (mpN gm N c :: As) := by
  unfold mpN
  rw [Sep_ex]
  exact ⟨E, by rw [Sep_star, Sep_pr]; exact ⟨hE, h⟩⟩
theorem getE_mem {n : Nat} {k : Vec n} {l : List (Ent n)} : (getE k l).isSome = true ↔ k ∈ l.map (·.1) := by
  unfold getE
  rw [Option.isSome_map, List.find?_isSome]
  constructor
  · rintro ⟨x, hx, h⟩
    have : k = x.1 := by simpa using h
    exact this ▸ List.mem_map_of_mem hx
  · intro h
    obtain ⟨x, hx, rfl⟩ := List.mem_map.1 h
    exact ⟨x, hx, by simp⟩
theorem getE_snoc {n : Nat} {k : Vec n} {H : List (Ent n)} {x : Ent n} : getE k (H ++ [x]) = (getE k H).or (if k = x.1 then some x.2.1 else none) := by
  unfold getE
  rw [List.find?_append]
  cases hf : List.find? (fun x => decide (k = x.1)) H with
  | some y => simp
  | none =>
    by_cases h : k = x.1 <;> simp [h]
theorem getE_filter {n : Nat} (p : Vec n → Bool) (k : Vec n) : ∀ l : List (Ent n), getE k (l.filter fun x => p x.1) = if p k = true then getE k l else none
  | [] => by simp [getE]
  | x :: N => by
    have ih := getE_filter p k N
    unfold getE at ih ⊢
    by_cases hk : k = x.1
    · subst hk
      by_cases hp : p x.1 = true
      · rw [List.filter_cons_of_pos (p := fun x : Ent n => p x.1) hp, if_pos hp]
        simp
      · rw [List.filter_cons_of_neg (p := fun x : Ent n => p x.1) hp, ih, if_neg hp, if_neg hp]
    · rw [List.find?_cons_of_neg (by simpa using hk), ← ih]
      by_cases hp : p x.1 = true
      · rw [List.filter_cons_of_pos (p := fun x : Ent n => p x.1) hp, List.find?_cons_of_neg (by simpa using hk)]
      · rw [List.filter_cons_of_neg (p := fun x : Ent n => p x.1) hp]
theorem getE_nin {n : Nat} {k : Vec n} {H : List (Ent n)} (h : k ∉ H.map (·.1)) : getE k H = none := by
  cases hg : getE k H with
  | none => rfl
  | some x => exact absurd (getE_mem.1 (by rw [hg]; rfl)) h
theorem EOk.add {E : List (Ent 32)} {N : List TN} {c c' : Nat} {k : Vec 32} {b : Blk} {v : Value} (h : EOk E N c) (hk : getE k (N.map TN.ent) = none) : EOk (E ++ [(k, bq b v, c)]) (N ++ [(k, b, v, c')]) (c + 1) := by
  have hkE : k ∉ E.map (·.1) := fun hm => by
    have := getE_mem.2 hm
    rw [h.get, hk] at this
    cases this
  refine ⟨?_, ?_, fun k' => ?_, ?_, fun x hx => ?_⟩
  · rw [List.map_append, List.map_append]
    exact h.pm.append_right _
  · rw [List.map_append, List.nodup_append]
    refine ⟨h.nd, by simp, fun x hx y hy he => ?_⟩
    simp only [List.map_cons, List.map_nil, List.mem_singleton] at hy
    subst hy
    exact hkE (he ▸ hx)
  · rw [List.map_append, List.map_singleton, getE_snoc, getE_snoc, h.get]
    rfl
  · rw [List.map_append, List.nodup_append]
    refine ⟨h.bn, by simp, fun x hx y hy he => ?_⟩
    simp only [List.map_cons, List.map_nil, List.mem_singleton] at hy
    subst hy
    obtain ⟨z, hz, rfl⟩ := List.mem_map.1 hx
    have := h.lt z hz
    omega
  · rcases List.mem_append.1 hx with hx | hx
    · have := h.lt x hx; omega
    · obtain rfl : x = (k, bq b v, c) := by simpa using hx
      show c < c + 1
      omega
theorem EOk.filter {E : List (Ent 32)} {N : List TN} {c : Nat} (p : Vec 32 → Bool) (h : EOk E N c) : EOk (E.filter fun x => p x.1) (N.filter fun x => p x.1) c := by
  have e1 : (E.filter fun x => p x.1).map (·.1) = (E.map (·.1)).filter p := by rw [List.filter_map]; rfl
  have e2 : (N.filter fun x => p x.1).map (·.1) = (N.map (·.1)).filter p := by rw [List.filter_map]; rfl
  have e3 : (N.filter fun x => p x.1).map TN.ent = (N.map TN.ent).filter fun x => p x.1 := by rw [List.filter_map]; rfl
  refine ⟨by rw [e1, e2]; exact h.pm.filter p, by rw [e1]; exact h.nd.sublist List.filter_sublist, fun k => ?_, h.bn.sublist (List.filter_sublist.map _), fun x hx => h.lt x (List.mem_filter.1 hx).1⟩
  rw [getE_filter, e3, getE_filter, h.get]
abbrev tq (t : Tr) (gm : Nat) (ov : Value) : Bool × Vec 32 × Int × Int × Value × Value := (true, t.root, t.ht, t.most, .map (some gm), ov)
structure TrR (h : Heap) (g gm : Nat) (ov : Value) (t : Tr) (N : List TN) (c : Nat) : Prop where
  cell : ∃ T fr, h[g]? = some (.cells (Rdr.cells Q_tree_Tree (tq t gm ov)).toArray T fr)
  map : ∃ E, EOk E N c ∧ h[gm]? = some (.map (ents E) c)
  ord : Rows' (rVec 32) h ov (N.map (·.1))
  dat : ∀ x ∈ N, RdB h x.2.2.1 x.2.1.d
section
variable {w0 w w' : World} {As : List Asn} {g gm c : Nat} {ov : Value} {t : Tr} {N : List TN}
theorem TrR.fr (h : TrR w.heap g gm ov t N c) (hf : Fr [] w w') : TrR w'.heap g gm ov t N c := by
  obtain ⟨T, fr, hc⟩ := h.cell
  obtain ⟨E, hE, hm⟩ := h.map
  exact ⟨⟨T, fr, hf.blk hc (by simp)⟩, ⟨E, hE, hf.blk hm (by simp)⟩, h.ord.fr hf, fun x hx => (h.dat x hx).fr hf (off_nil _)⟩
theorem TrR.look (hr : TrR w.heap g gm ov t N c) (k : Vec 32) (K : Value → Prop) : rdP P (Instr.lookup T_map_api_ID_api_Block (.map (some gm)) (kv k) true) w K =
    K (.tuple #[(getE k (N.map TN.ent)).getD (bq Blk.none (.slice none 0 0)), .bool (getE k (N.map TN.ent)).isSome]) := by
  obtain ⟨E, hE, hm⟩ := hr.map
  rw [lookup_map U_map_api_ID_api_Block KT (zB w) hm k, hE.get]
theorem TrR.look1 (hr : TrR w.heap g gm ov t N c) (k : Vec 32) (K : Value → Prop) : rdP P (Instr.lookup T_map_api_ID_api_Block (.map (some gm)) (kv k) false) w K =
    K ((getE k (N.map TN.ent)).getD (bq Blk.none (.slice none 0 0))) := by
  obtain ⟨E, hE, hm⟩ := hr.map
  rw [lookup_map1 U_map_api_ID_api_Block KT (zB w) hm k, hE.get]
theorem TrR.mlen {ty : TypeId} (hr : TrR w.heap g gm ov t N c) (hl : N.length ≤ 9223372036854775807) (K : Value → Prop) : rdP P (Builtin.len_ #[T_map_api_ID_api_Block] ty #[.map (some gm)]) w K = K (.int .i64 N.length) := by
  obtain ⟨E, hE, hm⟩ := hr.map
  rw [len_map U_map_api_ID_api_Block hm (by rw [hE.len]; exact hl), hE.len]
theorem Sep.tr (h : Sep w0 w As) (hr : TrR w0.heap g gm ov t N c) : TrR w.heap g gm ov t N c := hr.fr h.1
theorem tnone_spec (hr : TrR w.heap g gm ov t N c) : cal P f_tree_Tree_none [.pointer (some ⟨g, 0, none⟩)] w fun r w' => r = .bool false ∧ w = w' := by
  refine s_tree_Tree_none fun R hR => ?_
  unfold c_tree_Tree_none
  obtain ⟨T, fr, hc⟩ := hr.cell
  simp only [nilc_some, fad_mk, pik_true, pik_false, cnd_true, cnd_false, gif_same, gif_tf, gif_ft, gif_undef, bi_add, bi_sub, bi_mul, bi_eql, bi_neq, bi_lss, bi_leq, bi_gtr, bi_geq, notB_bool, cvi_int, lenS_mk, lenT_mk, ext0, ext1, ext2, nilP_mk, nilS_mk, fldv_agg, jn0_k, jn1_k, jn2_k, jn1_and, jn1_or, ex_some, Option.isNone_some, Option.isNone_none, Bool.false_bne, Bool.bne_true, Bool.bne_false, Bool.true_bne, Bool.not_true, Bool.not_false, Bool.and_true, Bool.true_and, Bool.and_false, Bool.false_and, Bool.or_true, Bool.true_or, Bool.or_false, Bool.false_or, cond_true, cond_false, List.getElem?_toArray, List.getElem?_cons_zero, List.getElem?_cons_succ, Nat.zero_add, Nat.add_zero, Nat.reduceAdd, forall_const, Option.isNone_some, L_tree_Tree hc, L_tree_Tree__made hc, L_tree_Tree__root hc, L_tree_Tree__height hc, L_tree_Tree__most hc, L_tree_Tree__blocks hc, L_tree_Tree__order hc]
  exact hR _ _ ⟨rfl, rfl⟩
/-- What a lookup of a name gives. -/
def nb (k : Vec 32) (N : List TN) : Blk × Value := ((nodeOf k N).map fun x => (x.2.1, x.2.2.1)).getD (Blk.none, .slice none 0 0)
theorem nb_get (k : Vec 32) (N : List TN) : (getE k (N.map TN.ent)).getD (bq Blk.none (.slice none 0 0)) = bq (nb k N).1 (nb k N).2 := by
  rw [getE_node]
  unfold nb
  cases nodeOf k N <;> rfl
theorem nb_is (k : Vec 32) (N : List TN) : (getE k (N.map TN.ent)).isSome = (blkOf k N).isSome := by
  rw [getE_node]
  unfold blkOf
  cases nodeOf k N <;> rfl
theorem nb_rd (hr : TrR w.heap g gm ov t N c) (k : Vec 32) : RdB w.heap (nb k N).2 (nb k N).1.d := by
  unfold nb
  cases h : nodeOf k N with
  | none => exact rdNil w
  | some x => exact hr.dat x (List.mem_of_find?_eq_some h)
theorem nb_blk {k : Vec 32} {N : List TN} : (blkOf k N = none ∧ (nb k N).1 = Blk.none) ∨ blkOf k N = some (nb k N).1 := by
  unfold nb blkOf
  cases nodeOf k N with
  | none => exact .inl ⟨rfl, rfl⟩
  | some x => exact .inr rfl
/-- How high a name stands; whether it is there. -/
def levH (t : Tr) (N : List TN) (k : Vec 32) : Int := if k = t.root then t.ht else match blkOf k N with
  | some b => b.h
  | none => 0
def has (t : Tr) (N : List TN) (k : Vec 32) : Bool := decide (k = t.root) || (blkOf k N).isSome
theorem level_spec (hr : TrR w.heap g gm ov t N c) (k : Vec 32) : cal P f_tree_Tree_level [.pointer (some ⟨g, 0, none⟩), kv k] w fun r w' => r = .tuple #[.int .i64 (levH t N k), .bool (has t N k)] ∧ Fr [] w w' := by
  refine s_tree_Tree_level fun R hR => ?_
  unfold c_tree_Tree_level
  refine bxQ (Sep.start w) fun g3 w1 hs1 => ?_
  refine cal_i (tnone_spec (hs1.tr hr)) ?_
  rintro _ _ ⟨rfl, rfl⟩
  simp only [nilc_some, fad_mk, pik_true, pik_false, cnd_true, cnd_false, gif_same, gif_tf, gif_ft, gif_undef, bi_add, bi_sub, bi_mul, bi_eql, bi_neq, bi_lss, bi_leq, bi_gtr, bi_geq, notB_bool, cvi_int, lenS_mk, lenT_mk, ext0, ext1, ext2, nilP_mk, nilS_mk, fldv_agg, jn0_k, jn1_k, jn2_k, jn1_and, jn1_or, ex_some, Option.isNone_some, Option.isNone_none, Bool.false_bne, Bool.bne_true, Bool.bne_false, Bool.true_bne, Bool.not_true, Bool.not_false, Bool.and_true, Bool.true_and, Bool.and_false, Bool.false_and, Bool.or_true, Bool.true_or, Bool.or_false, Bool.false_or, cond_true, cond_false, List.getElem?_toArray, List.getElem?_cons_zero, List.getElem?_cons_succ, Nat.zero_add, Nat.add_zero, Nat.reduceAdd, forall_const]
  refine drw_s hs1 fun w2 hs2 _ => ?_
  obtain ⟨T, fr, hc⟩ := (hs2.tr hr).cell
  simp only [nilc_some, fad_mk, pik_true, pik_false, cnd_true, cnd_false, gif_same, gif_tf, gif_ft, gif_undef, bi_add, bi_sub, bi_mul, bi_eql, bi_neq, bi_lss, bi_leq, bi_gtr, bi_geq, notB_bool, cvi_int, lenS_mk, lenT_mk, ext0, ext1, ext2, nilP_mk, nilS_mk, fldv_agg, jn0_k, jn1_k, jn2_k, jn1_and, jn1_or, ex_some, Option.isNone_some, Option.isNone_none, Bool.false_bne, Bool.bne_true, Bool.bne_false, Bool.true_bne, Bool.not_true, Bool.not_false, Bool.and_true, Bool.true_and, Bool.and_false, Bool.false_and, Bool.or_true, Bool.true_or, Bool.or_false, Bool.false_or, cond_true, cond_false, List.getElem?_toArray, List.getElem?_cons_zero, List.getElem?_cons_succ, Nat.zero_add, Nat.add_zero, Nat.reduceAdd, forall_const, L_api_ID hs2.blk, L_tree_Tree hc, L_tree_Tree__made hc, L_tree_Tree__root hc, L_tree_Tree__height hc, L_tree_Tree__most hc, L_tree_Tree__blocks hc, L_tree_Tree__order hc, eq_api_ID]
  rw [cnd_bool]
  refine ⟨fun h => ?_, fun h => ?_⟩
  · have h : k = t.root := by simpa using h
    refine hR _ _ ⟨?_, hs2.fr0⟩
    unfold levH has
    rw [if_pos h, decide_eq_true h]
    rfl
  · have h : ¬ k = t.root := by simpa using h
    refine drH_S hs2 fun w3 hs3 _ => ?_
    refine rdS_ld (v := .map (some gm)) (fun u hu K hk => by
      obtain ⟨T, fr, hc⟩ := (hu.tr hr).cell
      exact (L_tree_Tree__blocks hc K).mpr hk) ?_
    refine ⟨kv k, fun u hu => (L_api_ID hu.blk _).mpr rfl, ?_⟩
    refine ⟨.tuple #[(getE k (N.map TN.ent)).getD (bq Blk.none (.slice none 0 0)), .bool (getE k (N.map TN.ent)).isSome], fun u hu => ((hu.tr hr).look k _).mpr rfl, ?_⟩
    rw [nb_get, nb_is]
    simp only [nilc_some, fad_mk, pik_true, pik_false, cnd_true, cnd_false, gif_same, gif_tf, gif_ft, gif_undef, bi_add, bi_sub, bi_mul, bi_eql, bi_neq, bi_lss, bi_leq, bi_gtr, bi_geq, notB_bool, cvi_int, lenS_mk, lenT_mk, ext0, ext1, ext2, nilP_mk, nilS_mk, fldv_agg, jn0_k, jn1_k, jn2_k, jn1_and, jn1_or, ex_some, Option.isNone_some, Option.isNone_none, Bool.false_bne, Bool.bne_true, Bool.bne_false, Bool.true_bne, Bool.not_true, Bool.not_false, Bool.and_true, Bool.true_and, Bool.and_false, Bool.false_and, Bool.or_true, Bool.true_or, Bool.or_false, Bool.false_or, cond_true, cond_false, List.getElem?_toArray, List.getElem?_cons_zero, List.getElem?_cons_succ, Nat.zero_add, Nat.add_zero, Nat.reduceAdd, forall_const]
    refine efS_i (alloc_s hs3 (A_api_Block w3) fun g4 w4 hs4 => ⟨hs4.tail, ?_⟩)
    refine efC_stN (St_api_Block hs4 (one_api_Block (nb_rd (hs4.tr hr) k).one) fun w5 hs5 => ?_)
    simp only [nilc_some, fad_mk, pik_true, pik_false, cnd_true, cnd_false, gif_same, gif_tf, gif_ft, gif_undef, bi_add, bi_sub, bi_mul, bi_eql, bi_neq, bi_lss, bi_leq, bi_gtr, bi_geq, notB_bool, cvi_int, lenS_mk, lenT_mk, ext0, ext1, ext2, nilP_mk, nilS_mk, fldv_agg, jn0_k, jn1_k, jn2_k, jn1_and, jn1_or, ex_some, Option.isNone_some, Option.isNone_none, Bool.false_bne, Bool.bne_true, Bool.bne_false, Bool.true_bne, Bool.not_true, Bool.not_false, Bool.and_true, Bool.true_and, Bool.and_false, Bool.false_and, Bool.or_true, Bool.true_or, Bool.or_false, Bool.false_or, cond_true, cond_false, List.getElem?_toArray, List.getElem?_cons_zero, List.getElem?_cons_succ, Nat.zero_add, Nat.add_zero, Nat.reduceAdd, forall_const, L_api_Block hs5.blk, L_api_Block__Parent hs5.blk, L_api_Block__Height hs5.blk, L_api_Block__Data hs5.blk]
    refine hR _ _ ⟨?_, hs5.fr0⟩
    unfold levH has
    rw [if_neg h, decide_eq_false h, Bool.false_or]
    rcases nb_blk (k := k) (N := N) with ⟨h1, h2⟩ | h1
    · rw [h1, h2]; rfl
    · rw [h1]
theorem Has_spec (hr : TrR w.heap g gm ov t N c) (k : Vec 32) : cal P f_tree_Tree_Has [.pointer (some ⟨g, 0, none⟩), kv k] w fun r w' => r = .bool (has t N k) ∧ Fr [] w w' := by
  refine s_tree_Tree_Has fun R hR => ?_
  unfold c_tree_Tree_Has
  refine bxQ (Sep.start w) fun g3 w1 hs1 => ?_
  simp only [L_api_ID hs1.blk]
  refine cal_i (level_spec (hs1.tr hr) k) ?_
  rintro _ w2 ⟨rfl, hf2⟩
  simp only [nilc_some, fad_mk, pik_true, pik_false, cnd_true, cnd_false, gif_same, gif_tf, gif_ft, gif_undef, bi_add, bi_sub, bi_mul, bi_eql, bi_neq, bi_lss, bi_leq, bi_gtr, bi_geq, notB_bool, cvi_int, lenS_mk, lenT_mk, ext0, ext1, ext2, nilP_mk, nilS_mk, fldv_agg, jn0_k, jn1_k, jn2_k, jn1_and, jn1_or, ex_some, Option.isNone_some, Option.isNone_none, Bool.false_bne, Bool.bne_true, Bool.bne_false, Bool.true_bne, Bool.not_true, Bool.not_false, Bool.and_true, Bool.true_and, Bool.and_false, Bool.false_and, Bool.or_true, Bool.true_or, Bool.or_false, Bool.false_or, cond_true, cond_false, List.getElem?_toArray, List.getElem?_cons_zero, List.getElem?_cons_succ, Nat.zero_add, Nat.add_zero, Nat.reduceAdd, forall_const]
  exact hR _ _ ⟨rfl, (hs1.old hf2).fr0⟩
theorem Root_spec (hr : TrR w.heap g gm ov t N c) : cal P f_tree_Tree_Root [.pointer (some ⟨g, 0, none⟩)] w fun r w' => r = .tuple #[kv t.root, .int .i64 t.ht] ∧ Fr [] w w' := by
  refine s_tree_Tree_Root fun R hR => ?_
  unfold c_tree_Tree_Root
  refine alloc_s (Sep.start w) (A_api_ID w) fun g3 w1 hs1 => ?_
  refine cal_i (tnone_spec (hs1.tr hr)) ?_
  rintro _ _ ⟨rfl, rfl⟩
  simp only [nilc_some, fad_mk, pik_true, pik_false, cnd_true, cnd_false, gif_same, gif_tf, gif_ft, gif_undef, bi_add, bi_sub, bi_mul, bi_eql, bi_neq, bi_lss, bi_leq, bi_gtr, bi_geq, notB_bool, cvi_int, lenS_mk, lenT_mk, ext0, ext1, ext2, nilP_mk, nilS_mk, fldv_agg, jn0_k, jn1_k, jn2_k, jn1_and, jn1_or, ex_some, Option.isNone_some, Option.isNone_none, Bool.false_bne, Bool.bne_true, Bool.bne_false, Bool.true_bne, Bool.not_true, Bool.not_false, Bool.and_true, Bool.true_and, Bool.and_false, Bool.false_and, Bool.or_true, Bool.true_or, Bool.or_false, Bool.false_or, cond_true, cond_false, List.getElem?_toArray, List.getElem?_cons_zero, List.getElem?_cons_succ, Nat.zero_add, Nat.add_zero, Nat.reduceAdd, forall_const]
  refine ⟨fun u => ∃ v, Sep w u [blk g3 (Rdr.cells (rVec 32) v).toArray T_api_ID], ⟨_, hs1.drew _⟩, ?_⟩
  refine ⟨kv t.root, fun u ⟨v, hu⟩ => by
    obtain ⟨T, fr, hc⟩ := (hu.tr hr).cell
    exact (L_tree_Tree__root hc _).mpr rfl, ?_⟩
  refine rdS_ld (v := .int .i64 t.ht) (fun u ⟨v, hu⟩ K hk => by
    obtain ⟨T, fr, hc⟩ := (hu.tr hr).cell
    exact (L_tree_Tree__height hc K).mpr hk) ?_
  refine efS_i (St_api_ID (hs1.drew _) fun w3 hs3 => ⟨⟨_, hs3⟩, ?_⟩)
  simp only [L_api_ID hs3.blk]
  exact hR _ _ ⟨rfl, hs3.fr0⟩
end
end Go.Fx
set_option linter.unusedVariables false
set_option linter.unusedSimpArgs false
namespace Go.Fx
/-- Each block's parent is there, one lower; no name twice. -/
structure TrW (t : Tr) (N : List TN) : Prop where
  up : ∀ k b, blkOf k N = some b → has t N b.p = true ∧ b.h = levH t N b.p + 1
  above : ∀ k b, blkOf k N = some b → t.ht < b.h
  noroot : blkOf t.root N = none
  small : ∀ x ∈ N, x.2.1.d.length ≤ 200
/-- The next name up. -/
def upOf (k : Vec 32) (N : List TN) : Vec 32 := (nb k N).1.p
/-- The way up: no more steps than the height tells. -/
def wayUp (t : Tr) (N : List TN) : Nat → Vec 32 → List (Vec 32)
  | 0, _ => []
  | n + 1, k => if k = t.root then [] else k :: wayUp t N n (upOf k N)
def hgt (t : Tr) (N : List TN) (k : Vec 32) : Nat := (levH t N k - t.ht).toNat
theorem has_blk {t : Tr} {N : List TN} {k : Vec 32} (h : has t N k = true) (hk : k ≠ t.root) : blkOf k N = some (nb k N).1 := by
  unfold has at h
  rw [decide_eq_false hk, Bool.false_or] at h
  rcases nb_blk (k := k) (N := N) with ⟨h1, _⟩ | h1
  · rw [h1] at h; cases h
  · exact h1
theorem up_has {t : Tr} {N : List TN} {k : Vec 32} (hw : TrW t N) (h : has t N k = true) (hk : k ≠ t.root) : has t N (upOf k N) = true ∧ hgt t N k = hgt t N (upOf k N) + 1 := by
  have hb := has_blk h hk
  obtain ⟨h1, h2⟩ := hw.up k _ hb
  have h3 := hw.above k _ hb
  refine ⟨h1, ?_⟩
  have e : levH t N k = (nb k N).1.h := by
    unfold levH
    rw [if_neg hk, hb]
  have h4 : t.ht ≤ levH t N (upOf k N) := by
    by_cases hr : upOf k N = t.root
    · unfold levH; rw [if_pos hr]; omega
    · have hb2 := has_blk (show has t N (upOf k N) = true from h1) hr
      have := hw.above _ _ hb2
      unfold levH
      rw [if_neg hr, hb2]
      simp only
      omega
  unfold hgt
  rw [e, h2]
  show (levH t N (upOf k N) + 1 - t.ht).toNat = _
  omega
section
variable {w0 w w' : World} {As : List Asn} {g gm c : Nat} {ov : Value} {t : Tr} {N : List TN}
theorem Get_spec (hr : TrR w.heap g gm ov t N c) (hw : TrW t N) (k : Vec 32) : cal P f_tree_Tree_Get [.pointer (some ⟨g, 0, none⟩), kv k] w fun r w' => ∃ v, r = .tuple #[bq (nb k N).1 v, .int .i64 (if (blkOf k N).isSome then 0 else 4)] ∧ Sep w w' [ownB v (nb k N).1.d] := by
  refine s_tree_Tree_Get fun R hR => ?_
  unfold c_tree_Tree_Get
  refine bxQ (Sep.start w) fun g3 w1 hs1 => ?_
  refine alloc_s hs1 (A_api_Block w1) fun g4 w2 hs2 => ?_
  refine cal_i (tnone_spec (hs2.tr hr)) ?_
  rintro _ _ ⟨rfl, rfl⟩
  simp only [nilc_some, fad_mk, pik_true, pik_false, cnd_true, cnd_false, gif_same, gif_tf, gif_ft, gif_undef, bi_add, bi_sub, bi_mul, bi_eql, bi_neq, bi_lss, bi_leq, bi_gtr, bi_geq, notB_bool, cvi_int, lenS_mk, lenT_mk, ext0, ext1, ext2, nilP_mk, nilS_mk, fldv_agg, jn0_k, jn1_k, jn2_k, jn1_and, jn1_or, ex_some, Option.isNone_some, Option.isNone_none, Bool.false_bne, Bool.bne_true, Bool.bne_false, Bool.true_bne, Bool.not_true, Bool.not_false, Bool.and_true, Bool.true_and, Bool.and_false, Bool.false_and, Bool.or_true, Bool.true_or, Bool.or_false, Bool.false_or, cond_true, cond_false, List.getElem?_toArray, List.getElem?_cons_zero, List.getElem?_cons_succ, Nat.zero_add, Nat.add_zero, Nat.reduceAdd, forall_const]
  refine drH_S hs2 fun w3 hs3 _ => ?_
  refine rdS_ld (v := .map (some gm)) (fun u hu K hk => by
    obtain ⟨T, fr, hc⟩ := (hu.tr hr).cell
    exact (L_tree_Tree__blocks hc K).mpr hk) ?_
  refine ⟨kv k, fun u hu => (L_api_ID (Sep.p1 hu).blk _).mpr rfl, ?_⟩
  refine ⟨.tuple #[(getE k (N.map TN.ent)).getD (bq Blk.none (.slice none 0 0)), .bool (getE k (N.map TN.ent)).isSome], fun u hu => ((hu.tr hr).look k _).mpr rfl, ?_⟩
  rw [nb_get, nb_is]
  simp only [nilc_some, fad_mk, pik_true, pik_false, cnd_true, cnd_false, gif_same, gif_tf, gif_ft, gif_undef, bi_add, bi_sub, bi_mul, bi_eql, bi_neq, bi_lss, bi_leq, bi_gtr, bi_geq, notB_bool, cvi_int, lenS_mk, lenT_mk, ext0, ext1, ext2, nilP_mk, nilS_mk, fldv_agg, jn0_k, jn1_k, jn2_k, jn1_and, jn1_or, ex_some, Option.isNone_some, Option.isNone_none, Bool.false_bne, Bool.bne_true, Bool.bne_false, Bool.true_bne, Bool.not_true, Bool.not_false, Bool.and_true, Bool.true_and, Bool.and_false, Bool.false_and, Bool.or_true, Bool.true_or, Bool.or_false, Bool.false_or, cond_true, cond_false, List.getElem?_toArray, List.getElem?_cons_zero, List.getElem?_cons_succ, Nat.zero_add, Nat.add_zero, Nat.reduceAdd, forall_const]
  refine efS_i (alloc_s hs3 (A_api_Block w3) fun g5 w4 hs4 => ⟨hs4.tail, ?_⟩)
  refine efC_stN (St_api_Block hs4 (one_api_Block (nb_rd (hs4.tr hr) k).one) fun w5 hs5 => ?_)
  rw [cnd_bool]
  refine ⟨fun h => ?_, fun h => ?_⟩
  · have h : (blkOf k N).isSome = false := by simpa using h
    rw [B_api_Block]
    refine St_api_Block hs5.p1 (one_api_Block rfl) fun w6 hs6 => ?_
    simp only [L_api_Block hs6.blk, L_api_Block__Parent hs6.blk, L_api_Block__Height hs6.blk, L_api_Block__Data hs6.blk]
    rcases nb_blk (k := k) (N := N) with ⟨h1, h2⟩ | h1
    · refine hR _ _ ⟨.slice none 0 0, by rw [h2, h]; rfl, ?_⟩
      rw [h2]
      exact ((Sep.start w).old hs6.fr0).nil
    · rw [h1] at h; cases h
  · have h : (blkOf k N).isSome = true := by simpa using h
    simp only [L_api_Block hs5.blk, L_api_Block__Parent hs5.blk, L_api_Block__Height hs5.blk, L_api_Block__Data hs5.blk]
    have hrd := nb_rd (hs5.tr hr) k
    have hl : (nb k N).1.d.length ≤ 200 := by
      unfold nb
      cases hx : nodeOf k N with
      | none => simp [Blk.none]
      | some x => exact hw.small x (List.mem_of_find?_eq_some hx)
    refine cal_i (bkClone_spec hrd (by omega)) ?_
    rintro _ w6 ⟨v6, rfl, hs6⟩
    replace hs6 := hs5.join hs6
    refine St_api_Block hs6.p2 (one_api_Block (Sep.one hs6)) fun w7 hs7 => ?_
    simp only [L_api_Block hs7.blk, L_api_Block__Parent hs7.blk, L_api_Block__Height hs7.blk, L_api_Block__Data hs7.blk]
    exact hR _ _ ⟨v6, by rw [h]; rfl, Sep.dropR (As := [ownB v6 _]) hs7.p1⟩
theorem Len_spec (hr : TrR w.heap g gm ov t N c) (hl : N.length ≤ 1000000) : cal P f_tree_Tree_Len [.pointer (some ⟨g, 0, none⟩)] w fun r w' => r = .int .i64 N.length ∧ w = w' := by
  refine s_tree_Tree_Len fun R hR => ?_
  unfold c_tree_Tree_Len
  refine cal_i (tnone_spec hr) ?_
  rintro _ _ ⟨rfl, rfl⟩
  obtain ⟨T, fr, hc⟩ := hr.cell
  simp only [nilc_some, fad_mk, pik_true, pik_false, cnd_true, cnd_false, gif_same, gif_tf, gif_ft, gif_undef, bi_add, bi_sub, bi_mul, bi_eql, bi_neq, bi_lss, bi_leq, bi_gtr, bi_geq, notB_bool, cvi_int, lenS_mk, lenT_mk, ext0, ext1, ext2, nilP_mk, nilS_mk, fldv_agg, jn0_k, jn1_k, jn2_k, jn1_and, jn1_or, ex_some, Option.isNone_some, Option.isNone_none, Bool.false_bne, Bool.bne_true, Bool.bne_false, Bool.true_bne, Bool.not_true, Bool.not_false, Bool.and_true, Bool.true_and, Bool.and_false, Bool.false_and, Bool.or_true, Bool.true_or, Bool.or_false, Bool.false_or, cond_true, cond_false, List.getElem?_toArray, List.getElem?_cons_zero, List.getElem?_cons_succ, Nat.zero_add, Nat.add_zero, Nat.reduceAdd, forall_const, L_tree_Tree hc, L_tree_Tree__made hc, L_tree_Tree__root hc, L_tree_Tree__height hc, L_tree_Tree__most hc, L_tree_Tree__blocks hc, L_tree_Tree__order hc]
  rw [hr.mlen (by omega)]
  exact hR _ _ ⟨rfl, rfl⟩
theorem bvs_inj : ∀ {a b : List UInt8}, bvs a = bvs b → a = b
  | [], [], _ => rfl
  | [], _ :: _, h => by simp [bvs] at h
  | _ :: _, [], h => by simp [bvs] at h
  | x :: a, y :: b, h => by
    simp only [bvs, List.map_cons, List.cons.injEq, bv, Value.int.injEq, true_and] at h
    have hx : x = y := UInt8.toNat_inj.1 (by have := h.1; omega)
    rw [hx, bvs_inj (a := a) (b := b) h.2]
/-- The name that a block of memory holds. -/
noncomputable def keyAt (g : Nat) (z : World) : Vec 32 :=
  open Classical in if h : ∃ k : Vec 32, z.heap[g]? = some (.cells (Rdr.cells (rVec 32) k).toArray T_api_ID (0, 0)) then Classical.choose h else vz 32
theorem keyAt_eq {g : Nat} {z : World} {k : Vec 32} (h : z.heap[g]? = some (.cells (Rdr.cells (rVec 32) k).toArray T_api_ID (0, 0))) : keyAt g z = k := by
  have hx : ∃ k : Vec 32, z.heap[g]? = some (.cells (Rdr.cells (rVec 32) k).toArray T_api_ID (0, 0)) := ⟨k, h⟩
  unfold keyAt
  rw [dif_pos hx]
  have h2 := Classical.choose_spec hx
  generalize Classical.choose hx = k' at h2 ⊢
  rw [h] at h2
  simp only [Option.some.injEq, Obj.cells.injEq, and_true] at h2
  have h3 : bvs k.1 = bvs k'.1 := by
    have h4 : (Rdr.cells (rVec 32) k) = Rdr.cells (rVec 32) k' := by
      have := congrArg Array.toList h2
      simpa using this
    exact h4
  exact (Subtype.ext (bvs_inj h3)).symm
/-- On the way up from a name stands another one. -/
def under (t : Tr) (N : List TN) (a b : Vec 32) : Bool := has t N a && (has t N b && (decide (b = t.root) || decide (b ∈ wayUp t N (hgt t N a) a)))
theorem wayUp_root (t : Tr) (N : List TN) (n : Nat) : wayUp t N n t.root = [] := by
  cases n <;> simp [wayUp]
theorem wayUp_step {k : Vec 32} (hw : TrW t N) (h : has t N k = true) (hk : k ≠ t.root) : wayUp t N (hgt t N k) k = k :: wayUp t N (hgt t N (upOf k N)) (upOf k N) := by
  obtain ⟨h1, h2⟩ := up_has hw h hk
  rw [h2, wayUp, if_neg hk]
theorem Within_spec (hr : TrR w.heap g gm ov t N c) (hw : TrW t N) (a b : Vec 32) : cal P f_tree_Tree_Within [.pointer (some ⟨g, 0, none⟩), kv a, kv b] w fun r w' => r = .bool (under t N a b) ∧ Fr [] w w' := by
  refine s_tree_Tree_Within fun R hR => ?_
  unfold c_tree_Tree_Within
  refine bxQ (Sep.start w) fun g3 w1 hs1 => ?_
  refine bxQ hs1 fun g4 w2 hs2 => ?_
  simp only [L_api_ID (Sep.p1 hs2).blk]
  refine cal_i (Has_spec (hs2.tr hr) a) ?_
  rintro _ w3 ⟨rfl, hf3⟩
  have hs3 := hs2.old hf3
  by_cases ha : has t N a = true
  case neg =>
    have ha : has t N a = false := by simpa using ha
    simp only [ha, nilc_some, fad_mk, pik_true, pik_false, cnd_true, cnd_false, gif_same, gif_tf, gif_ft, gif_undef, bi_add, bi_sub, bi_mul, bi_eql, bi_neq, bi_lss, bi_leq, bi_gtr, bi_geq, notB_bool, cvi_int, lenS_mk, lenT_mk, ext0, ext1, ext2, nilP_mk, nilS_mk, fldv_agg, jn0_k, jn1_k, jn2_k, jn1_and, jn1_or, ex_some, Option.isNone_some, Option.isNone_none, Bool.false_bne, Bool.bne_true, Bool.bne_false, Bool.true_bne, Bool.not_true, Bool.not_false, Bool.and_true, Bool.true_and, Bool.and_false, Bool.false_and, Bool.or_true, Bool.true_or, Bool.or_false, Bool.false_or, cond_true, cond_false, List.getElem?_toArray, List.getElem?_cons_zero, List.getElem?_cons_succ, Nat.zero_add, Nat.add_zero, Nat.reduceAdd, forall_const, Bool.not_false]
    exact hR _ _ ⟨by unfold under; rw [ha]; rfl, hs3.fr0⟩
  simp only [ha, nilc_some, fad_mk, pik_true, pik_false, cnd_true, cnd_false, gif_same, gif_tf, gif_ft, gif_undef, bi_add, bi_sub, bi_mul, bi_eql, bi_neq, bi_lss, bi_leq, bi_gtr, bi_geq, notB_bool, cvi_int, lenS_mk, lenT_mk, ext0, ext1, ext2, nilP_mk, nilS_mk, fldv_agg, jn0_k, jn1_k, jn2_k, jn1_and, jn1_or, ex_some, Option.isNone_some, Option.isNone_none, Bool.false_bne, Bool.bne_true, Bool.bne_false, Bool.true_bne, Bool.not_true, Bool.not_false, Bool.and_true, Bool.true_and, Bool.and_false, Bool.false_and, Bool.or_true, Bool.true_or, Bool.or_false, Bool.false_or, cond_true, cond_false, List.getElem?_toArray, List.getElem?_cons_zero, List.getElem?_cons_succ, Nat.zero_add, Nat.add_zero, Nat.reduceAdd, forall_const, Bool.not_true, L_api_ID hs3.blk]
  refine jn1_dup ?_
  refine cal_i (Has_spec (hs3.tr hr) b) ?_
  rintro _ w4 ⟨rfl, hf4⟩
  have hs4 := hs3.old hf4
  by_cases hb : has t N b = true
  case neg =>
    have hb : has t N b = false := by simpa using hb
    simp only [hb, nilc_some, fad_mk, pik_true, pik_false, cnd_true, cnd_false, gif_same, gif_tf, gif_ft, gif_undef, bi_add, bi_sub, bi_mul, bi_eql, bi_neq, bi_lss, bi_leq, bi_gtr, bi_geq, notB_bool, cvi_int, lenS_mk, lenT_mk, ext0, ext1, ext2, nilP_mk, nilS_mk, fldv_agg, jn0_k, jn1_k, jn2_k, jn1_and, jn1_or, ex_some, Option.isNone_some, Option.isNone_none, Bool.false_bne, Bool.bne_true, Bool.bne_false, Bool.true_bne, Bool.not_true, Bool.not_false, Bool.and_true, Bool.true_and, Bool.and_false, Bool.false_and, Bool.or_true, Bool.true_or, Bool.or_false, Bool.false_or, cond_true, cond_false, List.getElem?_toArray, List.getElem?_cons_zero, List.getElem?_cons_succ, Nat.zero_add, Nat.add_zero, Nat.reduceAdd, forall_const, Bool.not_false]
    exact hR _ _ ⟨by unfold under; rw [hb, Bool.false_and, Bool.and_false], hs4.fr0⟩
  simp only [hb, nilc_some, fad_mk, pik_true, pik_false, cnd_true, cnd_false, gif_same, gif_tf, gif_ft, gif_undef, bi_add, bi_sub, bi_mul, bi_eql, bi_neq, bi_lss, bi_leq, bi_gtr, bi_geq, notB_bool, cvi_int, lenS_mk, lenT_mk, ext0, ext1, ext2, nilP_mk, nilS_mk, fldv_agg, jn0_k, jn1_k, jn2_k, jn1_and, jn1_or, ex_some, Option.isNone_some, Option.isNone_none, Bool.false_bne, Bool.bne_true, Bool.bne_false, Bool.true_bne, Bool.not_true, Bool.not_false, Bool.and_true, Bool.true_and, Bool.and_false, Bool.false_and, Bool.or_true, Bool.true_or, Bool.or_false, Bool.false_or, cond_true, cond_false, List.getElem?_toArray, List.getElem?_cons_zero, List.getElem?_cons_succ, Nat.zero_add, Nat.add_zero, Nat.reduceAdd, forall_const, Bool.not_true]
  refine ⟨fun z => ∃ k, has t N k = true ∧ under t N a b = under t N k b ∧ Sep w z [blk g4 (Rdr.cells (rVec 32) b).toArray T_api_ID, blk g3 (Rdr.cells (rVec 32) k).toArray T_api_ID], fun z => hgt t N (keyAt g3 z), ⟨a, ha, rfl, hs4⟩, ?_⟩
  rintro w5 ⟨k, hk, hu, hs5⟩ -
  refine drw_s hs5 fun w6 hs6 hw6 => ?_
  obtain ⟨T, fr, hc⟩ := (hs6.tr hr).cell
  simp only [L_api_ID hs6.blk, L_api_ID (Sep.p1 hs6).blk, ne_api_ID, L_tree_Tree hc, L_tree_Tree__made hc, L_tree_Tree__root hc, L_tree_Tree__height hc, L_tree_Tree__most hc, L_tree_Tree__blocks hc, L_tree_Tree__order hc, nilc_some, fad_mk, pik_true, pik_false, cnd_true, cnd_false, gif_same, gif_tf, gif_ft, gif_undef, bi_add, bi_sub, bi_mul, bi_eql, bi_neq, bi_lss, bi_leq, bi_gtr, bi_geq, notB_bool, cvi_int, lenS_mk, lenT_mk, ext0, ext1, ext2, nilP_mk, nilS_mk, fldv_agg, jn0_k, jn1_k, jn2_k, jn1_and, jn1_or, ex_some, Option.isNone_some, Option.isNone_none, Bool.false_bne, Bool.bne_true, Bool.bne_false, Bool.true_bne, Bool.not_true, Bool.not_false, Bool.and_true, Bool.true_and, Bool.and_false, Bool.false_and, Bool.or_true, Bool.true_or, Bool.or_false, Bool.false_or, cond_true, cond_false, List.getElem?_toArray, List.getElem?_cons_zero, List.getElem?_cons_succ, Nat.zero_add, Nat.add_zero, Nat.reduceAdd, forall_const]
  have fin : (k = b ∨ k = t.root) → R (.bool (decide (k = b))) w6 := fun he => by
    refine hR _ _ ⟨?_, hs6.fr0⟩
    rw [hu]
    congr 1
    unfold under
    rw [hk, hb, Bool.true_and, Bool.true_and]
    by_cases hkb : k = b
    · subst hkb
      rw [decide_eq_true rfl]
      by_cases hkr : k = t.root
      · rw [decide_eq_true hkr]; rfl
      · rw [wayUp_step hw hk hkr]; simp
    · have hkr : k = t.root := he.resolve_left hkb
      rw [decide_eq_false hkb, hkr, wayUp_root]
      have : ¬ b = t.root := fun hbr => hkb (by rw [hkr, hbr])
      simp [this]
  rw [cnd_bool]
  refine ⟨fun h => ?_, fun h => ?_⟩
  · have h1 : ¬ k = b ∧ ¬ k = t.root := by simpa using h
    obtain ⟨h2, h3⟩ := up_has hw hk h1.2
    refine drH_S hs6 fun w7 hs7 hw7 => ?_
    refine rdS_ld (v := .map (some gm)) (fun u hu K hk => by
      obtain ⟨T, fr, hc⟩ := (hu.tr hr).cell
      exact (L_tree_Tree__blocks hc K).mpr hk) ?_
    refine ⟨kv k, fun u hu => (L_api_ID (Sep.p1 hu).blk _).mpr rfl, ?_⟩
    refine ⟨(getE k (N.map TN.ent)).getD (bq Blk.none (.slice none 0 0)), fun u hu => ((hu.tr hr).look1 k _).mpr rfl, ?_⟩
    rw [nb_get]
    have e : ∀ K, fldv 0 32 true (bq (nb k N).1 (nb k N).2) K = K (kv (upOf k N)) := fun K => by
      have hl : (bvs (nb k N).1.p.1).length = 32 := by rw [bvs_length]; exact (nb k N).1.p.2
      have ex : (Rdr.cells Q_api_Block ((nb k N).1.p, (nb k N).1.h, (nb k N).2)).toArray.extract 0 (0 + 32) = (bvs (nb k N).1.p.1).toArray := by
        apply Array.ext'
        show ((bvs (nb k N).1.p.1 ++ ([Value.int .i64 (nb k N).1.h] ++ [(nb k N).2])).toArray.extract 0 (0 + 32)).toList = _
        simp only [List.extract_toArray, List.drop_zero]
        simp [List.extract, hl]
      refine propext ⟨?_, fun hk => ⟨_, rfl, ?_, ?_⟩⟩
      · rintro ⟨cs, hcs, h⟩
        cases hcs
        have h2 := h.2
        rw [ex] at h2
        exact h2
      · show 0 + 32 ≤ (bvs (nb k N).1.p.1 ++ ([Value.int .i64 (nb k N).1.h] ++ [(nb k N).2])).toArray.size
        simp [hl]
      · rw [ex]
        exact hk
    change fldv _ _ _ _ _
    rw [e]
    refine efC_stN (St_api_ID hs7.p1 fun w8 hs8 => ?_)
    refine ⟨⟨upOf k N, h2, ?_, hs8.p1⟩, ?_⟩
    · rw [hu]
      unfold under
      rw [hk, h2, wayUp_step hw hk h1.2]
      have : ¬ b = k := fun hbk => h1.1 hbk.symm
      simp [this]
    · rw [keyAt_eq hs8.blk, keyAt_eq (Sep.p1 hs5).blk]
      omega
  · have h1 : k = b ∨ k = t.root := by
      rcases Decidable.em (k = b) with hh | hh
      · exact .inl hh
      · refine .inr (Decidable.byContradiction fun hr' => ?_)
        simp [hh, hr'] at h
    simp only [eq_api_ID, L_api_ID hs6.blk, L_api_ID (Sep.p1 hs6).blk]
    exact fin h1
end
end Go.Fx
set_option linter.unusedVariables false
set_option linter.unusedSimpArgs false
namespace Go.Fx
theorem splice_take {β : Type} {D vs pre qa post : List β} {k n : Nat} (hp : pre.length = k) (hv : vs.length = qa.length) (h : D.take n = pre ++ qa ++ post) (hn : n = k + qa.length + post.length) : (D.take k ++ vs ++ D.drop (k + vs.length)).take n = pre ++ vs ++ post := by
  obtain ⟨R, hR⟩ : ∃ R, D = pre ++ (qa ++ (post ++ R)) := ⟨D.drop n, by conv => lhs; rw [← List.take_append_drop n D, h]; simp⟩
  have h1 : D.take k = pre := by rw [hR]; exact List.take_left' hp
  have h2 : D.drop (k + vs.length) = post ++ R := by rw [hR, ← List.drop_drop, List.drop_left' hp, hv]; exact List.drop_left' rfl
  rw [h1, h2, ← List.append_assoc]
  exact List.take_left' (by simp; omega)
section
variable {w0 w w' : World} {As : List Asn} {α : Type} {q : Rdr α}
/-- A store of a whole row. -/
theorem rows_stN {g o c j : Nat} {l : List α} {a b : α} {K : World → Prop} (hs : Sep w0 w (Go.Fx.rows q (.slice (some ⟨g, o, none⟩) l.length c) l :: As)) (hj : l[j]? = some a)
    (h1 : ∀ u ∈ q.cells b, u.oneCell' = true) (h : ∀ w', Sep w0 w' (Go.Fx.rows q (.slice (some ⟨g, o, none⟩) l.length c) (l.set j b) :: As) → K w') : stN q.size (.pointer (some ⟨g, o + j * q.size, none⟩)) (.agg (q.cells b).toArray) w K := by
  obtain ⟨F, ho, hu⟩ := hs.upd
  have hlt := (List.getElem?_eq_some_iff.1 hj).1
  obtain ⟨pre', post', d1, d2, d3⟩ := flatMap_set (q := q) (b := b) hj
  have hb : j * q.size + q.size ≤ l.length * q.size := by rw [← Nat.succ_mul]; exact Nat.mul_le_mul_right _ hlt
  obtain ⟨hl, ⟨hv, _⟩ | ⟨g', o', cap, cur, E, hv, hn, hg, hfit, hcs, rfl⟩⟩ := ho
  · cases hv
  · cases hv
    have hcap : l.length * q.size ≤ c * q.size := Nat.mul_le_mul_right _ hn
    have hqa := q.len a
    have hqb := q.len b
    refine stN_i hg (by simp [hqb]) (by omega) (by simpa using h1) fun w' hg' hf => h w' ?_
    have hll : (l.set j b).length = l.length := by simp
    refine hu w' [g] _ ?_ hf (Grew.refl _ _)
    show Own w'.heap _ q.size (l.set j b).length _ [g]
    rw [hll]
    have hsz : (splice cur (o + j * q.size) (q.cells b)).size = cur.size := by
      simp only [splice, List.size_toArray, List.length_append, List.length_take, List.length_drop, Array.length_toList, hqb]
      omega
    refine ⟨by rw [parts_length q.len, hll], .inr ⟨g, o, c, _, E, rfl, hn, hg', by rw [hsz]; exact hfit, ?_, rfl⟩⟩
    rw [d2]
    rw [d1] at hcs
    have hlen : l.length * q.size = j * q.size + q.size + post'.length := by
      have h2 := congrArg List.length d1
      rw [parts_length q.len, List.length_append, List.length_append, hqa, d3] at h2
      exact h2
    have e : (splice cur (o + j * q.size) (q.cells b)).toList.drop o = (cur.toList.drop o).take (j * q.size) ++ q.cells b ++ (cur.toList.drop o).drop (j * q.size + (q.cells b).length) := by
      have e1 : List.drop o (cur.toList.take (o + j * q.size)) = (cur.toList.drop o).take (j * q.size) := by rw [List.drop_take]; congr 1; omega
      have e2 : (cur.toList.drop o).drop (j * q.size + (q.cells b).length) = cur.toList.drop (o + j * q.size + (q.cells b).length) := by rw [List.drop_drop]; congr 1; omega
      rw [e2]
      simp only [splice]
      rw [List.append_assoc, List.drop_append_of_le_length (by simp only [List.length_take, Array.length_toList]; omega), e1, List.append_assoc]
    rw [e]
    exact splice_take d3 (by rw [hqa, hqb]) hcs (by rw [hqa]; exact hlen)
/-- A row, read in a region that draws. -/
theorem rdS_rowV {S : World → Prop} {v : Value} {l : List α} {j : Nat} {a : α} {K : Value → Prop} (hp : 0 < q.size)
    (hw : S w) (hS : ∀ u, S u → Rows' q u.heap v l) (hj : l[j]? = some a) (k : IntKind) (h : K (.agg (q.cells a).toArray)) : ixs q.size v (.int k (j : Int)) fun t => rdS S (fun w => ldN q.size t w.heap) K := by
  obtain ⟨g, o, c, rfl⟩ := (hS w hw).form hp hj
  have hlt := (List.getElem?_eq_some_iff.1 hj).1
  rw [ixs_mk _ _ _ _ _ _ _ _ (by omega) (by omega), Int.toNat_natCast]
  refine ⟨.agg (q.cells a).toArray, fun z hz => ?_, h⟩
  have hat := At.of hp (hS z hz) hj
  exact (At.ldN hat (q.len a) _).mpr rfl
theorem Reverse_spec {v : Value} {l : List (Vec 32)} (hs : Sep w0 w (rows (rVec 32) v l :: As)) (hl : l.length ≤ 1000000) : cal P f_slices_Reverse_api_ID_api_ID [v] w fun r w' => r = .tuple #[] ∧ Sep w0 w' (rows (rVec 32) v l.reverse :: As) := by
  refine s_slices_Reverse_api_ID_api_ID fun R hR => ?_
  unfold c_slices_Reverse_api_ID_api_ID
  simp only [(Sep.rows hs).len, nilc_some, fad_mk, pik_true, pik_false, cnd_true, cnd_false, gif_same, gif_tf, gif_ft, gif_undef, bi_add, bi_sub, bi_mul, bi_eql, bi_neq, bi_lss, bi_leq, bi_gtr, bi_geq, notB_bool, cvi_int, lenS_mk, lenT_mk, ext0, ext1, ext2, nilP_mk, nilS_mk, fldv_agg, jn0_k, jn1_k, jn2_k, jn1_and, jn1_or, ex_some, Option.isNone_some, Option.isNone_none, Bool.false_bne, Bool.bne_true, Bool.bne_false, Bool.true_bne, Bool.not_true, Bool.not_false, Bool.and_true, Bool.true_and, Bool.and_false, Bool.false_and, Bool.or_true, Bool.true_or, Bool.or_false, Bool.false_or, cond_true, cond_false, List.getElem?_toArray, List.getElem?_cons_zero, List.getElem?_cons_succ, Nat.zero_add, Nat.add_zero, Nat.reduceAdd, forall_const]
  rw [wi64 (by omega) (by omega)]
  refine ⟨fun x y z => ∃ (i : Nat) (m : List (Vec 32)), x = .int .i64 i ∧ y = .int .i64 ((l.length : Int) - 1 - i) ∧ 2 * i ≤ l.length + 1 ∧ m.length = l.length ∧ (∀ p, p < l.length → m[p]? = if p < i ∨ l.length ≤ p + i then l[l.length - 1 - p]? else l[p]?) ∧ Sep w0 z (rows (rVec 32) v m :: As),
    fun x _ _ => (l.length - RowKit.intOf x).toNat, ⟨0, l, rfl, by simp, by omega, rfl, fun p hp => by rw [if_neg (by omega)], hs⟩, ?_⟩
  rintro _ _ w1 ⟨i, m, rfl, rfl, hi, hml, hm, hs1⟩ -
  simp only [nilc_some, fad_mk, pik_true, pik_false, cnd_true, cnd_false, gif_same, gif_tf, gif_ft, gif_undef, bi_add, bi_sub, bi_mul, bi_eql, bi_neq, bi_lss, bi_leq, bi_gtr, bi_geq, notB_bool, cvi_int, lenS_mk, lenT_mk, ext0, ext1, ext2, nilP_mk, nilS_mk, fldv_agg, jn0_k, jn1_k, jn2_k, jn1_and, jn1_or, ex_some, Option.isNone_some, Option.isNone_none, Bool.false_bne, Bool.bne_true, Bool.bne_false, Bool.true_bne, Bool.not_true, Bool.not_false, Bool.and_true, Bool.true_and, Bool.and_false, Bool.false_and, Bool.or_true, Bool.true_or, Bool.or_false, Bool.false_or, cond_true, cond_false, List.getElem?_toArray, List.getElem?_cons_zero, List.getElem?_cons_succ, Nat.zero_add, Nat.add_zero, Nat.reduceAdd, forall_const]
  rw [cnd_bool]
  refine ⟨fun h => ?_, fun h => ?_⟩
  · have hij : i + 1 + i < l.length := by simp at h; omega
    obtain ⟨j, hj⟩ : ∃ j : Nat, (l.length : Int) - 1 - i = (j : Int) := ⟨l.length - 1 - i, by omega⟩
    have hjl : j = l.length - 1 - i := by omega
    rw [hj]
    obtain ⟨a, c, rfl, hac⟩ := Sep.formR hs1
    have hmi := List.getElem?_eq_getElem (l := m) (i := i) (by omega)
    have hmj := List.getElem?_eq_getElem (l := m) (i := j) (by omega)
    generalize m[i] = x at hmi
    generalize m[j] = y at hmj
    refine drH_S hs1 fun w2 hs2 _ => ?_
    refine rdS_rowV (q := rVec 32) (by decide) hs2 (fun u hu => Sep.rows hu) hmj .i64 ?_
    refine rdS_rowV (q := rVec 32) (by decide) hs2 (fun u hu => Sep.rows hu) hmi .i64 ?_
    obtain ⟨g, o, c', hv⟩ := (Sep.rows hs2).form (by decide) hmi
    simp only [Value.slice.injEq] at hv
    obtain ⟨rfl, _, rfl⟩ := hv
    rw [ixs_mk _ _ _ _ _ _ _ _ (by omega) (by omega), Int.toNat_natCast]
    refine efC_stN (rows_stN hs2 hmi oneVec fun w3 hs3 => ?_)
    rw [ixs_mk _ _ _ _ _ _ _ _ (by omega) (by omega), Int.toNat_natCast]
    have hmj' : (m.set i y)[j]? = some y := by rw [List.getElem?_set_ne (by omega)]; exact hmj
    have e3 : m.length = (m.set i y).length := by simp
    rw [e3] at hs3
    refine efC_stN (rows_stN hs3 hmj' oneVec fun w4 hs4 => ?_)
    rw [← e3] at hs4
    rw [wi64 (by omega) (by omega), wi64 (by omega) (by omega)]
    refine ⟨⟨i + 1, (m.set i y).set j x, by simp, by congr 1; omega, by omega, by simp [hml], fun p hp => ?_, hs4⟩, by simp [RowKit.intOf]; omega⟩
    have hmp := hm p hp
    have hix := hm i (by omega)
    have hjy := hm j (by omega)
    rw [if_neg (by omega)] at hix hjy
    by_cases hpj : p = j
    · subst hpj
      rw [List.getElem?_set_self (by simp; omega), if_pos (by omega), show l.length - 1 - p = i by omega, ← hix, hmi]
    · rw [List.getElem?_set_ne (by omega)]
      by_cases hpi : p = i
      · subst hpi
        rw [List.getElem?_set_self (by omega), if_pos (by omega), show l.length - 1 - p = j by omega, ← hjy, hmj]
      · rw [List.getElem?_set_ne (by omega), hmp]
        by_cases hc : p < i ∨ l.length ≤ p + i
        · rw [if_pos hc, if_pos (by omega)]
        · rw [if_neg hc, if_neg (by omega)]
  · have hge : l.length ≤ i + 1 + i := by simp at h; omega
    have e : m = l.reverse := by
      apply List.ext_getElem?
      intro p
      by_cases hp : p < l.length
      · rw [hm p hp, List.getElem?_reverse hp]
        by_cases hc : p < i ∨ l.length ≤ p + i
        · rw [if_pos hc]
        · rw [if_neg hc, show l.length - 1 - p = p by omega]
      · rw [List.getElem?_eq_none (by omega), List.getElem?_eq_none (by simp; omega)]
    rw [e] at hs1
    exact hR _ _ ⟨rfl, hs1⟩
end
end Go.Fx
set_option linter.unusedVariables false
set_option linter.unusedSimpArgs false
namespace Go.Fx
def pathOf (t : Tr) (N : List TN) (k : Vec 32) : List (Vec 32) := if has t N k then (wayUp t N (hgt t N k) k).reverse else []
theorem wayUp_len (t : Tr) (N : List TN) : ∀ (n : Nat) (k : Vec 32), (wayUp t N n k).length ≤ n
  | 0, _ => by simp [wayUp]
  | n + 1, k => by
    unfold wayUp
    split
    · simp
    · have := wayUp_len t N n (upOf k N)
      simp only [List.length_cons]
      omega
theorem fldv_par (b : Blk) (v : Value) (K : Value → Prop) : fldv 0 32 true (bq b v) K = K (kv b.p) := by
  have hl : (bvs b.p.1).length = 32 := by rw [bvs_length]; exact b.p.2
  have ex : (Rdr.cells Q_api_Block (b.p, b.h, v)).toArray.extract 0 (0 + 32) = (bvs b.p.1).toArray := by
    apply Array.ext'
    show ((bvs b.p.1 ++ ([Value.int .i64 b.h] ++ [v])).toArray.extract 0 (0 + 32)).toList = _
    simp only [List.extract_toArray, List.drop_zero]
    simp [List.extract, hl]
  refine propext ⟨?_, fun hk => ⟨_, rfl, ?_, ?_⟩⟩
  · rintro ⟨cs, hcs, h⟩
    cases hcs
    have h2 := h.2
    rw [ex] at h2
    exact h2
  · show 0 + 32 ≤ (bvs b.p.1 ++ ([Value.int .i64 b.h] ++ [v])).toArray.size
    simp [hl]
  · rw [ex]
    exact hk
section
variable {w0 w w' : World} {As : List Asn} {g gm c : Nat} {ov : Value} {t : Tr} {N : List TN}
theorem Path_spec (hr : TrR w.heap g gm ov t N c) (hw : TrW t N) (a : Vec 32) (hh : hgt t N a ≤ 1000000) : cal P f_tree_Tree_Path [.pointer (some ⟨g, 0, none⟩), kv a] w fun r w' => Sep w w' [rows (rVec 32) r (pathOf t N a)] := by
  refine s_tree_Tree_Path fun R hR => ?_
  unfold c_tree_Tree_Path
  refine bxQ (Sep.start w) fun g3 w1 hs1 => ?_
  simp only [L_api_ID hs1.blk]
  refine cal_i (Has_spec (hs1.tr hr) a) ?_
  rintro _ w2 ⟨rfl, hf2⟩
  have hs2 := hs1.old hf2
  simp only [nilc_some, fad_mk, pik_true, pik_false, cnd_true, cnd_false, gif_same, gif_tf, gif_ft, gif_undef, bi_add, bi_sub, bi_mul, bi_eql, bi_neq, bi_lss, bi_leq, bi_gtr, bi_geq, notB_bool, cvi_int, lenS_mk, lenT_mk, ext0, ext1, ext2, nilP_mk, nilS_mk, fldv_agg, jn0_k, jn1_k, jn2_k, jn1_and, jn1_or, ex_some, Option.isNone_some, Option.isNone_none, Bool.false_bne, Bool.bne_true, Bool.bne_false, Bool.true_bne, Bool.not_true, Bool.not_false, Bool.and_true, Bool.true_and, Bool.and_false, Bool.false_and, Bool.or_true, Bool.true_or, Bool.or_false, Bool.false_or, cond_true, cond_false, List.getElem?_toArray, List.getElem?_cons_zero, List.getElem?_cons_succ, Nat.zero_add, Nat.add_zero, Nat.reduceAdd, forall_const]
  rw [cnd_bool]
  refine ⟨fun h => ?_, fun h => ?_⟩
  · have ha : has t N a = false := by simpa using h
    refine hR _ _ ?_
    unfold pathOf
    rw [ha]
    exact ((Sep.start w).old hs2.fr0).nilR
  have ha : has t N a = true := by simpa using h
  have hwl := wayUp_len t N (hgt t N a) a
  refine ⟨fun x z => ∃ (k : Vec 32) (D : List (Vec 32)), has t N k = true ∧ D ++ wayUp t N (hgt t N k) k = wayUp t N (hgt t N a) a ∧ Sep w z [rows (rVec 32) x D, blk g3 (Rdr.cells (rVec 32) k).toArray T_api_ID], fun _ z => hgt t N (keyAt g3 z), ⟨a, [], ha, rfl, hs2.nilR⟩, ?_⟩
  rintro x w5 ⟨k, D, hk, hD, hs5⟩ -
  have hDl : D.length ≤ 1000000 := by
    have := congrArg List.length hD
    rw [List.length_append] at this
    omega
  refine drw_s hs5 fun w6 hs6 hw6 => ?_
  obtain ⟨T, fr, hc⟩ := (hs6.tr hr).cell
  simp only [L_api_ID (Sep.p1 hs6).blk, ne_api_ID, L_tree_Tree hc, L_tree_Tree__made hc, L_tree_Tree__root hc, L_tree_Tree__height hc, L_tree_Tree__most hc, L_tree_Tree__blocks hc, L_tree_Tree__order hc, nilc_some, fad_mk, pik_true, pik_false, cnd_true, cnd_false, gif_same, gif_tf, gif_ft, gif_undef, bi_add, bi_sub, bi_mul, bi_eql, bi_neq, bi_lss, bi_leq, bi_gtr, bi_geq, notB_bool, cvi_int, lenS_mk, lenT_mk, ext0, ext1, ext2, nilP_mk, nilS_mk, fldv_agg, jn0_k, jn1_k, jn2_k, jn1_and, jn1_or, ex_some, Option.isNone_some, Option.isNone_none, Bool.false_bne, Bool.bne_true, Bool.bne_false, Bool.true_bne, Bool.not_true, Bool.not_false, Bool.and_true, Bool.true_and, Bool.and_false, Bool.false_and, Bool.or_true, Bool.true_or, Bool.or_false, Bool.false_or, cond_true, cond_false, List.getElem?_toArray, List.getElem?_cons_zero, List.getElem?_cons_succ, Nat.zero_add, Nat.add_zero, Nat.reduceAdd, forall_const]
  rw [cnd_bool]
  refine ⟨fun h => ?_, fun h => ?_⟩
  · have h1 : ¬ k = t.root := by simpa using h
    obtain ⟨h2, h3⟩ := up_has hw hk h1
    refine rows_lit hs6 S_sl_api_ID (l := [k]) (V := fun a => .agg (Rdr.cells (rVec 32) a).toArray) (fun a => rfl) rfl rfl (by decide) (by decide) fun g7 w7 hs7 => ?_
    refine rows_app S_sl_api_ID U_sl_api_ID (by simp) hs7.p1 (Sep.rows hs7) ?_ (by simp; omega) (by simp; omega) fun v8 w8 hs8 => ?_
    · simp only [List.flatMap_cons, List.flatMap_nil, List.append_nil]
      exact oneVec
    have hs9 : Sep w w8 [rows (rVec 32) v8 (D ++ [k]), blk g3 (Rdr.cells (rVec 32) k).toArray T_api_ID] := (hs8.pick [0, 2] 3).dropR (As := [_, _])
    refine drH_S hs9 fun w10 hs10 _ => ?_
    refine rdS_ld (v := .map (some gm)) (fun u hu K hk => by
      obtain ⟨T, fr, hc⟩ := (hu.tr hr).cell
      exact (L_tree_Tree__blocks hc K).mpr hk) ?_
    refine ⟨kv k, fun u hu => (L_api_ID (Sep.p1 hu).blk _).mpr rfl, ?_⟩
    refine ⟨(getE k (N.map TN.ent)).getD (bq Blk.none (.slice none 0 0)), fun u hu => ((hu.tr hr).look1 k _).mpr rfl, ?_⟩
    rw [nb_get]
    change fldv _ _ _ _ _
    rw [fldv_par]
    refine efC_stN (St_api_ID hs10.p1 fun w11 hs11 => ?_)
    refine ⟨⟨upOf k N, D ++ [k], h2, ?_, hs11.p1⟩, ?_⟩
    · rw [← hD, wayUp_step hw hk h1]; simp
    · rw [keyAt_eq hs11.blk, keyAt_eq (Sep.p1 hs5).blk]
      show hgt t N (upOf k N) < hgt t N k
      omega
  · have h1 : k = t.root := by simpa using h
    rw [h1, wayUp_root, List.append_nil] at hD
    refine cal_i (Reverse_spec hs6 hDl) ?_
    rintro _ w7 ⟨rfl, hs7⟩
    refine hR _ _ ?_
    unfold pathOf
    rw [if_pos ha, ← hD]
    exact Sep.dropR (As := [rows (rVec 32) x D.reverse]) hs7
end
end Go.Fx
set_option linter.unusedVariables false
set_option linter.unusedSimpArgs false
namespace Go.Fx
theorem filter_opt {α : Type} (so : α → Bool) (k : α) : List.filter so (some k).toList = if so k = true then [k] else [] := by
  cases h : so k <;> simp [h]
section
variable {w0 w w' : World} {As : List Asn} {g gm c : Nat} {ov : Value} {t : Tr} {N : List TN}
theorem calV_mk {f : FuncId} {cap args : List Value} {K : Value → World → Prop} (hc : callable P f = true) (h : cal P f (args ++ cap) w K) : calV P (.func (.func f) #[] cap.toArray) args w K :=
  ⟨f, #[], cap.toArray, rfl, hc, by simpa [cal] using h⟩
theorem those_spec {f : FuncId} {cap : List Value} {so : Vec 32 → Bool} (hr : TrR w.heap g gm ov t N c) (hn : N.length ≤ 1000000) (hc : callable P f = true)
    (hso : ∀ (z : World) (k : Vec 32), Fr [] w z → cal P f ([kv k] ++ cap) z fun r w' => r = .bool (so k) ∧ Fr [] z w') :
    cal P f_tree_Tree_those [.pointer (some ⟨g, 0, none⟩), .func (.func f) #[] cap.toArray] w fun r w' => Sep w w' [rows (rVec 32) r ((N.map (·.1)).filter so)] := by
  refine s_tree_Tree_those fun R hR => ?_
  unfold c_tree_Tree_those
  refine cal_i (tnone_spec hr) ?_
  rintro _ _ ⟨rfl, rfl⟩
  obtain ⟨T, fr, hcl⟩ := hr.cell
  have hl : ∀ K, lenS ov K = K (.int .i64 N.length) := fun K => by
    have := hr.ord.len K
    rwa [List.length_map] at this
  simp only [nilc_some, fad_mk, pik_true, pik_false, cnd_true, cnd_false, gif_same, gif_tf, gif_ft, gif_undef, bi_add, bi_sub, bi_mul, bi_eql, bi_neq, bi_lss, bi_leq, bi_gtr, bi_geq, notB_bool, cvi_int, lenS_mk, lenT_mk, ext0, ext1, ext2, nilP_mk, nilS_mk, fldv_agg, jn0_k, jn1_k, jn2_k, jn1_and, jn1_or, ex_some, Option.isNone_some, Option.isNone_none, Bool.false_bne, Bool.bne_true, Bool.bne_false, Bool.true_bne, Bool.not_true, Bool.not_false, Bool.and_true, Bool.true_and, Bool.and_false, Bool.false_and, Bool.or_true, Bool.true_or, Bool.or_false, Bool.false_or, cond_true, cond_false, List.getElem?_toArray, List.getElem?_cons_zero, List.getElem?_cons_succ, Nat.zero_add, Nat.add_zero, Nat.reduceAdd, forall_const, L_tree_Tree hcl, L_tree_Tree__made hcl, L_tree_Tree__root hcl, L_tree_Tree__height hcl, L_tree_Tree__most hcl, L_tree_Tree__blocks hcl, L_tree_Tree__order hcl, hl]
  refine ⟨fun x y z => ∃ i : Nat, y = .int .i64 i ∧ i ≤ N.length ∧ Sep w z [rows (rVec 32) x (((N.map (·.1)).take i).filter so)], fun _ y _ => (N.length - RowKit.intOf y).toNat, ⟨0, rfl, by omega, (Sep.start w).nilR⟩, ?_⟩
  rintro x _ w1 ⟨i, rfl, hi, hs1⟩ -
  simp only [nilc_some, fad_mk, pik_true, pik_false, cnd_true, cnd_false, gif_same, gif_tf, gif_ft, gif_undef, bi_add, bi_sub, bi_mul, bi_eql, bi_neq, bi_lss, bi_leq, bi_gtr, bi_geq, notB_bool, cvi_int, lenS_mk, lenT_mk, ext0, ext1, ext2, nilP_mk, nilS_mk, fldv_agg, jn0_k, jn1_k, jn2_k, jn1_and, jn1_or, ex_some, Option.isNone_some, Option.isNone_none, Bool.false_bne, Bool.bne_true, Bool.bne_false, Bool.true_bne, Bool.not_true, Bool.not_false, Bool.and_true, Bool.true_and, Bool.and_false, Bool.false_and, Bool.or_true, Bool.true_or, Bool.or_false, Bool.false_or, cond_true, cond_false, List.getElem?_toArray, List.getElem?_cons_zero, List.getElem?_cons_succ, Nat.zero_add, Nat.add_zero, Nat.reduceAdd, forall_const]
  rw [cnd_bool]
  refine ⟨fun h => ?_, fun h => ?_⟩
  · have hlt : i < N.length := by simp at h; omega
    obtain ⟨Ks, hKs⟩ : ∃ Ks : List (Vec 32), Ks = N.map (·.1) := ⟨_, rfl⟩
    have hKl : Ks.length = N.length := by rw [hKs, List.length_map]
    rw [← hKs] at hs1 ⊢
    have hord := hr.ord
    rw [← hKs] at hord
    obtain ⟨k, hx⟩ : ∃ k, Ks[i]? = some k := ⟨_, List.getElem?_eq_getElem (by omega)⟩
    clear hKs
    have ht : (Ks.take (i + 1)).filter so = (Ks.take i).filter so ++ (if so k then [k] else []) := by
      rw [List.take_add_one, hx, List.filter_append, filter_opt]
    have hfl : ((Ks.take i).filter so).length ≤ i := by
      have h1 := List.length_filter_le so (Ks.take i)
      have h2 : (Ks.take i).length ≤ i := List.length_take_le _ _
      omega
    refine ⟨fun v z => Sep w z [rows (rVec 32) v ((Ks.take (i + 1)).filter so)], ?_, ?_⟩
    · change ixs 32 _ _ _
      refine Rows'.ldN (q := rVec 32) (by decide) (hord.fr hs1.fr0) hx .i64 ?_
      refine alloc_s hs1 (A_api_ID w1) fun g7 w2 hs2 => ?_
      refine St_api_ID (b := k) hs2 fun w3 hs3 => ?_
      simp only [L_api_ID hs3.blk]
      refine calV_mk hc (cal_i (hso w3 k hs3.fr0) ?_)
      rintro _ w4 ⟨rfl, hf4⟩
      have hs4 := hs3.old hf4
      rw [cnd_bool]
      refine ⟨fun hk => ?_, fun hk => ?_⟩
      · simp only [L_api_ID hs4.blk]
        refine rows_lit hs4 S_sl_api_ID (l := [k]) (V := fun a => .agg (Rdr.cells (rVec 32) a).toArray) (fun a => rfl) rfl rfl (by decide) (by decide) fun g8 w5 hs5 => ?_
        refine rows_app S_sl_api_ID U_sl_api_ID (by simp) hs5.p2 (Sep.rows hs5) ?_ (by simp; omega) (by simp; omega) fun v8 w8 hs8 => ?_
        · simp only [List.flatMap_cons, List.flatMap_nil, List.append_nil]
          exact oneVec
        rw [ht, hk, if_pos rfl]
        exact Sep.dropR (As := [rows (rVec 32) v8 _]) hs8
      · rw [ht, hk]
        simpa using hs4.tail
    · rintro v w2 hs2 _
      rw [wi64 (by omega) (by omega)]
      exact ⟨⟨i + 1, by simp, by omega, hs2⟩, by simp [RowKit.intOf]; omega⟩
  · have hge : i = N.length := by simp at h; omega
    subst hge
    rw [List.take_of_length_le (by simp)] at hs1
    exact hR _ _ hs1
end
end Go.Fx
set_option linter.unusedVariables false
set_option linter.unusedSimpArgs false
namespace Go.Fx
/-- A tree that the call owns. -/
def trL (g gm : Nat) (ov : Value) (t : Tr) (N : List TN) (c : Nat) : List Asn :=
  blk g (Rdr.cells Q_tree_Tree (tq t gm ov)).toArray T_tree_Tree :: mpN gm N c :: rows (rVec 32) ov (N.map (·.1)) :: N.map fun x => ownB x.2.2.1 x.2.1.d
section
variable {w0 w w' : World} {As : List Asn} {g gm c : Nat} {ov : Value} {t : Tr} {N : List TN}
theorem trL_rd (h : Sep w0 w (trL g gm ov t N c ++ As)) : TrR w.heap g gm ov t N c := by
  refine ⟨⟨_, _, Sep.blk h⟩, (by obtain ⟨E, hE, h2⟩ := mpN_open (Sep.tail h); exact ⟨E, hE, Sep.map h2⟩), Sep.rows (Sep.tail (Sep.tail h)), fun x hx => ?_⟩
  obtain ⟨F, hF⟩ := h.onL (A := ownB x.2.2.1 x.2.1.d) (by
    simp only [trL, List.cons_append, List.mem_cons, List.mem_append, List.mem_map]
    exact .inr (.inr (.inr (.inl ⟨x, hx, rfl⟩))))
  exact OwnB.rd hF
theorem TrW.nil (t : Tr) : TrW t [] := ⟨fun k b h => by simp [blkOf, nodeOf] at h, fun k b h => by simp [blkOf, nodeOf] at h, rfl, fun x hx => by cases hx⟩
theorem tNew_spec (r : Vec 32) (h m : Int) : cal P f_tree_New [kv r, .int .i64 h, .int .i64 m] w fun v w' => (¬ (0 ≤ h ∧ 1 ≤ m ∧ m ≤ 256) ∧ v = .tuple #[.pointer none, .int .i64 1] ∧ Fr [] w w') ∨
    ((0 ≤ h ∧ 1 ≤ m ∧ m ≤ 256) ∧ ∃ g gm, v = .tuple #[.pointer (some ⟨g, 0, none⟩), .int .i64 0] ∧ Sep w w' (trL g gm (.slice none 0 0) ⟨r, h, m⟩ [] 0)) := by
  refine s_tree_New fun R hR => ?_
  unfold c_tree_New
  refine bxQ (Sep.start w) fun g1 w1 hs1 => ?_
  simp only [nilc_some, fad_mk, pik_true, pik_false, cnd_true, cnd_false, gif_same, gif_tf, gif_ft, gif_undef, bi_add, bi_sub, bi_mul, bi_eql, bi_neq, bi_lss, bi_leq, bi_gtr, bi_geq, notB_bool, cvi_int, lenS_mk, lenT_mk, ext0, ext1, ext2, nilP_mk, nilS_mk, fldv_agg, jn0_k, jn1_k, jn2_k, jn1_and, jn1_or, ex_some, Option.isNone_some, Option.isNone_none, Bool.false_bne, Bool.bne_true, Bool.bne_false, Bool.true_bne, Bool.not_true, Bool.not_false, Bool.and_true, Bool.true_and, Bool.and_false, Bool.false_and, Bool.or_true, Bool.true_or, Bool.or_false, Bool.false_or, cond_true, cond_false, List.getElem?_toArray, List.getElem?_cons_zero, List.getElem?_cons_succ, Nat.zero_add, Nat.add_zero, Nat.reduceAdd, forall_const]
  rw [cnd_bool]
  refine ⟨fun hc => ?_, fun hc => ?_⟩
  · simp only [Bool.or_eq_true, decide_eq_true_eq] at hc
    exact hR _ _ (.inl ⟨by omega, rfl, hs1.fr0⟩)
  · simp only [Bool.or_eq_false_iff, decide_eq_false_iff_not] at hc
    simp only [L_api_ID hs1.blk]
    refine makeMap_s (n := 32) hs1 fun gm w2 hs2 => ?_
    rw [B_tree_Tree_0_1_2_3_4 rfl]
    refine bxQ hs2 fun g3 w3 hs3 => ?_
    refine hR _ _ (.inr ⟨by omega, g3, gm, rfl, ?_⟩)
    have h4 := mpN_close (EOk.nil 0) (Sep.p2 (hs3.nilR (q := rVec 32)))
    exact Sep.dropR (As := trL g3 gm (.slice none 0 0) ⟨r, h, m⟩ [] 0) (Sep.pick h4 [2, 0, 1] 4)
end
end Go.Fx
set_option linter.unusedVariables false
set_option linter.unusedSimpArgs false
namespace Go.Fx
section
variable {w0 w w' : World} {As : List Asn} {g gm c : Nat} {ov : Value} {t : Tr} {N : List TN}
theorem Under_spec (hr : TrR w.heap g gm ov t N c) (hw : TrW t N) (hn : N.length ≤ 1000000) (k : Vec 32) : cal P f_tree_Tree_Under [.pointer (some ⟨g, 0, none⟩), kv k] w fun r w' => Sep w w' [rows (rVec 32) r ((N.map (·.1)).filter fun x => under t N x k)] := by
  refine s_tree_Tree_Under fun R hR => ?_
  unfold c_tree_Tree_Under
  refine bx_s (Sep.start w) fun g2 w1 hs1 => ?_
  replace hs1 : Sep w w1 [blk g2 #[.pointer (some ⟨g, 0, none⟩)] T_p_tree_Tree] := hs1
  refine bxQ hs1 fun g3 w2 hs2 => ?_
  refine ld1_i (Sep.p1 hs2).blk rfl ?_
  refine cal_i (those_spec (f := f_tree_Tree_Under_1) (cap := [.pointer (some ⟨g2, 0, none⟩), .pointer (some ⟨g3, 0, none⟩)]) (so := fun x => under t N x k) (hs2.tr hr) hn (by kernel_rfl) ?_) ?_
  · intro z x hz
    have hsz := hs2.old hz
    refine s_tree_Tree_Under_1 fun R hR => ?_
    unfold c_tree_Tree_Under_1
    have hs0 : Sep z z [] := Sep.start z
    refine bxQ hs0 fun g5 w5 hs5 => ?_
    have h2 := hs5.fr0.blk (Sep.p1 hsz).blk (by simp)
    have h3 := hs5.fr0.blk hsz.blk (by simp)
    refine ld1_i h2 rfl ?_
    simp only [L_api_ID hs5.blk, L_api_ID h3]
    refine cal_i (Within_spec (TrR.fr (hsz.tr hr) hs5.fr0) hw x k) ?_
    rintro _ w6 ⟨rfl, hf6⟩
    exact hR _ _ ⟨rfl, (hs5.old hf6).fr0⟩
  · rintro r w3 hs3
    exact hR _ _ (Sep.dropR (As := [rows (rVec 32) r _]) (hs2.join hs3))
end
end Go.Fx
set_option linter.unusedVariables false
set_option linter.unusedSimpArgs false
namespace Go.Fx
/-- A tree that the call owns, but for the blocks' data. -/
def trH (g gm : Nat) (ov : Value) (t : Tr) (N : List TN) (c : Nat) : List Asn :=
  [blk g (Rdr.cells Q_tree_Tree (tq t gm ov)).toArray T_tree_Tree, mpN gm N c, rows (rVec 32) ov (N.map (·.1))]
/-- The blocks' data stand among what the call owns. -/
def Dat (N : List TN) (As : List Asn) : Prop := ∀ x ∈ N, ownB x.2.2.1 x.2.1.d ∈ As
theorem trL_nil (g gm : Nat) (ov : Value) (t : Tr) (c : Nat) : trL g gm ov t [] c = trH g gm ov t [] c := rfl
theorem Dat.nil (As : List Asn) : Dat [] As := fun x hx => by cases hx
theorem Dat.sub {N : List TN} {As Bs : List Asn} (h : Dat N As) (hs : ∀ A ∈ As, A ∈ Bs) : Dat N Bs := fun x hx => hs _ (h x hx)
theorem Dat.add {N : List TN} {As : List Asn} {k : Vec 32} {b : Blk} {v : Value} {c : Nat} (h : Dat N As) : Dat (N ++ [(k, b, v, c)]) (ownB v b.d :: As) := fun x hx => by
  rcases List.mem_append.1 hx with hx | hx
  · exact List.mem_cons_of_mem _ (h x hx)
  · obtain rfl : x = (k, b, v, c) := by simpa using hx
    simp
section
variable {w0 w w' : World} {As : List Asn} {g gm c : Nat} {ov : Value} {t : Tr} {N : List TN}
theorem trH_rd (h : Sep w0 w (trH g gm ov t N c ++ As)) (hd : Dat N As) : TrR w.heap g gm ov t N c := by
  refine ⟨⟨_, _, Sep.blk h⟩, (by obtain ⟨E, hE, h2⟩ := mpN_open (Sep.tail h); exact ⟨E, hE, Sep.map h2⟩), Sep.rows (Sep.tail (Sep.tail h)), fun x hx => ?_⟩
  obtain ⟨F, hF⟩ := h.onL (A := ownB x.2.2.1 x.2.1.d) (by
    simp only [trH, List.cons_append, List.mem_cons, List.nil_append]
    exact .inr (.inr (.inr (hd x hx))))
  exact OwnB.rd hF
/-- Which error an Add has. -/
def addE (t : Tr) (N : List TN) (b : Blk) : Int :=
  if b.chk ≠ 0 then b.chk else if has t N b.id = true then 110 else if has t N b.p = false ∨ b.h < 1 ∨ b.h - 1 ≠ levH t N b.p then 31 else if t.most ≤ N.length then 6 else 0
theorem chk30 (b : Blk) : b.chk = 0 ∨ b.chk = 30 := by
  unfold Blk.chk
  split
  · exact .inr rfl
  · exact .inl rfl
theorem Add_spec {b : Blk} {v : Value} (hs : Sep w0 w (trH g gm ov t N c ++ As)) (hd : Dat N As) (hw : TrW t N) (hC : Cub w) (hb : RdB w.heap v b.d) (hh : b.h ≤ maxI) (hn : N.length ≤ 1000000) :
    cal P f_tree_Tree_Add [.pointer (some ⟨g, 0, none⟩), bq b v] w fun r w' =>
      (addE t N b ≠ 0 ∧ r = .tuple #[kv (vz 32), .int .i64 (addE t N b)] ∧ Sep w0 w' (trH g gm ov t N c ++ As)) ∨
      (addE t N b = 0 ∧ r = .tuple #[kv b.id, .int .i64 0] ∧ ∃ ov' vd, Sep w0 w' (trH g gm ov' t (N ++ [(b.id, b, vd, c)]) (c + 1) ++ (ownB vd b.d :: As))) := by
  have hr := trH_rd hs hd
  refine s_tree_Tree_Add fun R hR => ?_
  unfold c_tree_Tree_Add
  refine bxQ (Sep.start w) fun g3 w1 hs1 => ?_
  refine alloc_s hs1 (A_api_ID w1) fun g4 w2 hs2 => ?_
  refine cal_i (tnone_spec (hs2.tr hr)) ?_
  rintro _ _ ⟨rfl, rfl⟩
  simp only [nilc_some, fad_mk, pik_true, pik_false, cnd_true, cnd_false, gif_same, gif_tf, gif_ft, gif_undef, bi_add, bi_sub, bi_mul, bi_eql, bi_neq, bi_lss, bi_leq, bi_gtr, bi_geq, notB_bool, cvi_int, lenS_mk, lenT_mk, ext0, ext1, ext2, nilP_mk, nilS_mk, fldv_agg, jn0_k, jn1_k, jn2_k, jn1_and, jn1_or, ex_some, Option.isNone_some, Option.isNone_none, Bool.false_bne, Bool.bne_true, Bool.bne_false, Bool.true_bne, Bool.not_true, Bool.not_false, Bool.and_true, Bool.true_and, Bool.and_false, Bool.false_and, Bool.or_true, Bool.true_or, Bool.or_false, Bool.false_or, cond_true, cond_false, List.getElem?_toArray, List.getElem?_cons_zero, List.getElem?_cons_succ, Nat.zero_add, Nat.add_zero, Nat.reduceAdd, forall_const, L_api_Block (Sep.p1 hs2).blk, L_api_Block__Parent (Sep.p1 hs2).blk, L_api_Block__Height (Sep.p1 hs2).blk, L_api_Block__Data (Sep.p1 hs2).blk]
  refine cal_i (bkID_spec (hC.fr hs2.fr0) (hb.fr hs2.fr0 (off_nil _)) hh) ?_
  rintro _ w3 ⟨rfl, hf3⟩
  have hs3 := hs2.old hf3
  simp only [nilc_some, fad_mk, pik_true, pik_false, cnd_true, cnd_false, gif_same, gif_tf, gif_ft, gif_undef, bi_add, bi_sub, bi_mul, bi_eql, bi_neq, bi_lss, bi_leq, bi_gtr, bi_geq, notB_bool, cvi_int, lenS_mk, lenT_mk, ext0, ext1, ext2, nilP_mk, nilS_mk, fldv_agg, jn0_k, jn1_k, jn2_k, jn1_and, jn1_or, ex_some, Option.isNone_some, Option.isNone_none, Bool.false_bne, Bool.bne_true, Bool.bne_false, Bool.true_bne, Bool.not_true, Bool.not_false, Bool.and_true, Bool.true_and, Bool.and_false, Bool.false_and, Bool.or_true, Bool.true_or, Bool.or_false, Bool.false_or, cond_true, cond_false, List.getElem?_toArray, List.getElem?_cons_zero, List.getElem?_cons_succ, Nat.zero_add, Nat.add_zero, Nat.reduceAdd, forall_const]
  refine alloc_s hs3 (A_api_ID w3) fun g6 w4 hs4 => ?_
  refine St_api_ID hs4 fun w5 hs5 => ?_
  have bad : ∀ (w6 : World) (e : Int), Sep w w6 [blk g6 (Rdr.cells (rVec 32) b.name).toArray T_api_ID, blk g4 (Rdr.cells (rVec 32) (vz 32)).toArray T_api_ID, blk g3 (Rdr.cells Q_api_Block (b.p, b.h, v)).toArray T_api_Block] → addE t N b = e → e ≠ 0 →
      rdP P (Instr.build T_api_ID #[]) w6 fun t20 => stN 32 (.pointer (some ⟨g4, 0, none⟩)) t20 w6 fun w => ldN 32 (.pointer (some ⟨g4, 0, none⟩)) w.heap fun r1 => R (.tuple #[r1, .int .i64 e]) w := fun w6 e hs6 he h0 => by
    rw [B_ID0]
    refine St_api_ID hs6.p1 fun w7 hs7 => ?_
    simp only [L_api_ID hs7.blk]
    exact hR _ _ (.inl ⟨by rw [he]; exact h0, by rw [he], hs.old hs7.fr0⟩)
  rw [cnd_bool]
  refine ⟨fun h => ?_, fun h => ?_⟩
  · have h : b.chk ≠ 0 := by simpa using h
    exact bad w5 b.chk hs5 (by unfold addE; rw [if_pos h]) h
  have h1 : b.chk = 0 := by simpa using h
  have hnm : b.name = b.id := by unfold Blk.name; rw [if_pos h1]
  rw [hnm] at hs5 bad
  simp only [L_api_ID hs5.blk]
  refine cal_i (Has_spec (hs5.tr hr) b.id) ?_
  rintro _ w6 ⟨rfl, hf6⟩
  have hs6 := hs5.old hf6
  rw [cnd_bool]
  refine ⟨fun h => ?_, fun h => ?_⟩
  · exact bad w6 110 hs6 (by unfold addE; rw [if_neg (by simpa using h1), if_pos h]) (by decide)
  have h2 : ¬ has t N b.id = true := by rw [h]; simp
  simp only [nilc_some, fad_mk, pik_true, pik_false, cnd_true, cnd_false, gif_same, gif_tf, gif_ft, gif_undef, bi_add, bi_sub, bi_mul, bi_eql, bi_neq, bi_lss, bi_leq, bi_gtr, bi_geq, notB_bool, cvi_int, lenS_mk, lenT_mk, ext0, ext1, ext2, nilP_mk, nilS_mk, fldv_agg, jn0_k, jn1_k, jn2_k, jn1_and, jn1_or, ex_some, Option.isNone_some, Option.isNone_none, Bool.false_bne, Bool.bne_true, Bool.bne_false, Bool.true_bne, Bool.not_true, Bool.not_false, Bool.and_true, Bool.true_and, Bool.and_false, Bool.false_and, Bool.or_true, Bool.true_or, Bool.or_false, Bool.false_or, cond_true, cond_false, List.getElem?_toArray, List.getElem?_cons_zero, List.getElem?_cons_succ, Nat.zero_add, Nat.add_zero, Nat.reduceAdd, forall_const, L_api_Block (Sep.p2 hs6).blk, L_api_Block__Parent (Sep.p2 hs6).blk, L_api_Block__Height (Sep.p2 hs6).blk, L_api_Block__Data (Sep.p2 hs6).blk]
  refine cal_i (level_spec (hs6.tr hr) b.p) ?_
  rintro _ w7 ⟨rfl, hf7⟩
  have hs7 := hs6.old hf7
  simp only [nilc_some, fad_mk, pik_true, pik_false, cnd_true, cnd_false, gif_same, gif_tf, gif_ft, gif_undef, bi_add, bi_sub, bi_mul, bi_eql, bi_neq, bi_lss, bi_leq, bi_gtr, bi_geq, notB_bool, cvi_int, lenS_mk, lenT_mk, ext0, ext1, ext2, nilP_mk, nilS_mk, fldv_agg, jn0_k, jn1_k, jn2_k, jn1_and, jn1_or, ex_some, Option.isNone_some, Option.isNone_none, Bool.false_bne, Bool.bne_true, Bool.bne_false, Bool.true_bne, Bool.not_true, Bool.not_false, Bool.and_true, Bool.true_and, Bool.and_false, Bool.false_and, Bool.or_true, Bool.true_or, Bool.or_false, Bool.false_or, cond_true, cond_false, List.getElem?_toArray, List.getElem?_cons_zero, List.getElem?_cons_succ, Nat.zero_add, Nat.add_zero, Nat.reduceAdd, forall_const, L_api_Block (Sep.p2 hs7).blk, L_api_Block__Parent (Sep.p2 hs7).blk, L_api_Block__Height (Sep.p2 hs7).blk, L_api_Block__Data (Sep.p2 hs7).blk]
  rw [cnd_bool]
  refine ⟨fun h => ?_, fun h => ?_⟩
  · refine bad w7 31 hs7 ?_ (by decide)
    unfold addE
    rw [if_neg (by simpa using h1), if_neg h2, if_pos]
    simp only [Bool.or_eq_true, Bool.not_eq_true', decide_eq_true_eq, bne_iff_ne, ne_eq] at h
    rcases h with (h | h) | h
    · exact .inl h
    · exact .inr (.inl h)
    · by_cases h4 : b.h < 1
      · exact .inr (.inl h4)
      · rw [wi64 (by omega) (by unfold maxI at hh; omega)] at h
        exact .inr (.inr h)
  simp only [Bool.or_eq_false_iff, Bool.not_eq_false', decide_eq_false_iff_not, bne_eq_false_iff_eq] at h
  obtain ⟨⟨h3, h4⟩, h5⟩ := h
  rw [wi64 (by omega) (by unfold maxI at hh; omega)] at h5
  have h31 : ¬ (has t N b.p = false ∨ b.h < 1 ∨ b.h - 1 ≠ levH t N b.p) := by
    rintro (h | h | h)
    · rw [h3] at h; cases h
    · exact h4 h
    · exact h h5
  refine drw_s hs7 fun w8 hs8 _ => ?_
  obtain ⟨T, fr, hc⟩ := (hs8.tr hr).cell
  simp only [nilc_some, fad_mk, pik_true, pik_false, cnd_true, cnd_false, gif_same, gif_tf, gif_ft, gif_undef, bi_add, bi_sub, bi_mul, bi_eql, bi_neq, bi_lss, bi_leq, bi_gtr, bi_geq, notB_bool, cvi_int, lenS_mk, lenT_mk, ext0, ext1, ext2, nilP_mk, nilS_mk, fldv_agg, jn0_k, jn1_k, jn2_k, jn1_and, jn1_or, ex_some, Option.isNone_some, Option.isNone_none, Bool.false_bne, Bool.bne_true, Bool.bne_false, Bool.true_bne, Bool.not_true, Bool.not_false, Bool.and_true, Bool.true_and, Bool.and_false, Bool.false_and, Bool.or_true, Bool.true_or, Bool.or_false, Bool.false_or, cond_true, cond_false, List.getElem?_toArray, List.getElem?_cons_zero, List.getElem?_cons_succ, Nat.zero_add, Nat.add_zero, Nat.reduceAdd, forall_const, L_tree_Tree hc, L_tree_Tree__made hc, L_tree_Tree__root hc, L_tree_Tree__height hc, L_tree_Tree__most hc, L_tree_Tree__blocks hc, L_tree_Tree__order hc]
  rw [(hs8.tr hr).mlen (by omega)]
  simp only [nilc_some, fad_mk, pik_true, pik_false, cnd_true, cnd_false, gif_same, gif_tf, gif_ft, gif_undef, bi_add, bi_sub, bi_mul, bi_eql, bi_neq, bi_lss, bi_leq, bi_gtr, bi_geq, notB_bool, cvi_int, lenS_mk, lenT_mk, ext0, ext1, ext2, nilP_mk, nilS_mk, fldv_agg, jn0_k, jn1_k, jn2_k, jn1_and, jn1_or, ex_some, Option.isNone_some, Option.isNone_none, Bool.false_bne, Bool.bne_true, Bool.bne_false, Bool.true_bne, Bool.not_true, Bool.not_false, Bool.and_true, Bool.true_and, Bool.and_false, Bool.false_and, Bool.or_true, Bool.true_or, Bool.or_false, Bool.false_or, cond_true, cond_false, List.getElem?_toArray, List.getElem?_cons_zero, List.getElem?_cons_succ, Nat.zero_add, Nat.add_zero, Nat.reduceAdd, forall_const]
  rw [cnd_bool]
  refine ⟨fun h => ?_, fun h => ?_⟩
  · have h : t.most ≤ (N.length : Int) := by simpa using h
    exact bad w8 6 hs8 (by unfold addE; rw [if_neg (by simpa using h1), if_neg h2, if_neg h31, if_pos h]) (by decide)
  have h6 : ¬ t.most ≤ (N.length : Int) := by simpa using h
  have hE : addE t N b = 0 := by unfold addE; rw [if_neg (by simpa using h1), if_neg h2, if_neg h31, if_neg h6]
  have hg0 : getE b.id (N.map TN.ent) = none := by
    have h7 : has t N b.id = false := by simpa using h2
    unfold has at h7
    simp only [Bool.or_eq_false_iff] at h7
    have h8 := nb_is b.id N
    rw [h7.2] at h8
    cases hgE : getE b.id (N.map TN.ent) with
    | none => rfl
    | some x => rw [hgE] at h8; cases h8
  have hsA := hs.join hs8
  refine drH_S hsA fun w9 hs9 hh9 => ?_
  refine rdS_ld (v := .map (some gm)) (fun u hu K hk => (L_tree_Tree__blocks (Sep.p3 hu).blk K).mpr hk) ?_
  refine ⟨kv b.id, fun u hu => (L_api_ID (Sep.blk hu) _).mpr rfl, ?_⟩
  refine ⟨bq b v, fun u hu => (L_api_Block (Sep.blk (Sep.p2 hu)) _).mpr rfl, ?_⟩
  have hl : b.d.length ≤ 200 := by
    unfold Blk.chk at h1
    split at h1
    · cases h1
    · omega
  refine efS_i (cal_i (bkClone_spec (b := b) (v := v) (by rw [hh9]; exact hb.fr hs8.fr0 (off_nil _)) (by omega)) ?_)
  rintro _ w10 ⟨vd, rfl, hs10⟩
  have hs10' := hs9.join hs10
  refine ⟨Sep.tail hs10', ?_⟩
  obtain ⟨E, hEO, hs10e⟩ := mpN_open (Sep.p5 hs10')
  refine efC_efU (putNew_s (c := c) U_map_api_ID_api_Block KT hs10e (by rw [hEO.get]; exact hg0) fun w11 hs11 => ?_)
  replace hs11 := mpN_close (hEO.add (c' := c) hg0) hs11
  refine drH_S hs11 fun w12 hs12 _ => ?_
  refine rdS_ld (v := ov) (fun u hu K hk => (L_tree_Tree__order (Sep.p5 hu).blk K).mpr hk) ?_
  refine ⟨kv b.id, fun u hu => (L_api_ID (Sep.p2 hu).blk _).mpr rfl, ?_⟩
  refine efS_i (rows_lit hs12 S_sl_api_ID (l := [b.id]) (V := fun a => .agg (Rdr.cells (rVec 32) a).toArray) (fun a => rfl) rfl rfl (by decide) (by decide) fun g7 w13 hs13 => ⟨hs13.tail, ?_⟩)
  refine efC_efP (rows_app S_sl_api_ID U_sl_api_ID (by simp) (Sep.pick hs13 [7, 0, 1, 2, 3, 4, 5, 6] 8) (Sep.rows hs13) ?_ (by simp; omega) (by simp; omega) fun v14 w14 hs14 => ?_)
  · simp only [List.flatMap_cons, List.flatMap_nil, List.append_nil]
    exact oneVec
  have hs15 := Sep.pick hs14 [7, 0, 1, 2, 3, 4, 5, 6] 8
  refine efC_st1 (St_tree_Tree__order hs15 (Sep.oneR hs14) fun w16 hs16 => ?_)
  simp only [L_api_ID (Sep.blk (Sep.p5 hs16))]
  refine St_api_ID (Sep.pick hs16 [6, 0, 1, 2, 3, 4, 5, 7] 8) fun w17 hs17 => ?_
  simp only [L_api_ID (Sep.blk hs17)]
  refine hR _ _ (.inr ⟨hE, rfl, v14, vd, ?_⟩)
  have hs18 := Sep.pick hs17 [1, 4, 2, 5] 8
  have e2 : (N ++ [(b.id, b, vd, c)]).map (·.1) = N.map (·.1) ++ [b.id] := by simp
  unfold trH
  rw [e2]
  exact hs18
end
/-- With one more the tree is well-formed. -/
theorem nodeOf_snoc {k : Vec 32} {N : List TN} {x : TN} : nodeOf k (N ++ [x]) = (nodeOf k N).or (if k = x.1 then some x else none) := by
  unfold nodeOf
  rw [List.find?_append]
  congr 1
  by_cases h : k = x.1 <;> simp [h]
theorem blkOf_snoc {k : Vec 32} {N : List TN} {x : TN} : blkOf k (N ++ [x]) = (blkOf k N).or (if k = x.1 then some x.2.1 else none) := by
  unfold blkOf
  rw [nodeOf_snoc]
  cases nodeOf k N with
  | some y => rfl
  | none => by_cases h : k = x.1 <;> simp [h]
theorem has_old {t : Tr} {N : List TN} {x : TN} {k : Vec 32} (h : has t N k = true) : has t (N ++ [x]) k = true ∧ levH t (N ++ [x]) k = levH t N k := by
  by_cases hr : k = t.root
  · subst hr
    unfold has levH
    simp
  · have hb := has_blk h hr
    have h2 : blkOf k (N ++ [x]) = some (nb k N).1 := by rw [blkOf_snoc, hb]; rfl
    unfold has levH
    rw [h2, hb, if_neg hr]
    simp
theorem TrW.add {t : Tr} {N : List TN} {b : Blk} {vd : Value} {c : Nat} (hw : TrW t N) (h : addE t N b = 0) : TrW t (N ++ [(b.id, b, vd, c)]) := by
  unfold addE at h
  split at h
  · rename_i h1; exact absurd h h1
  rename_i h1
  split at h
  · cases h
  rename_i h2
  split at h
  · cases h
  rename_i h3
  have h1 : b.chk = 0 := by simpa using h1
  have h2 : has t N b.id = false := by simpa using h2
  have h4 : has t N b.p = true ∧ ¬ b.h < 1 ∧ b.h - 1 = levH t N b.p := by
    refine ⟨?_, fun h => h3 (.inr (.inl h)), ?_⟩
    · cases hp : has t N b.p with
      | true => rfl
      | false => exact absurd (.inl hp) h3
    · by_cases hq : b.h - 1 = levH t N b.p
      · exact hq
      · exact absurd (.inr (.inr hq)) h3
  have hlev : ∀ k, has t N k = true → t.ht ≤ levH t N k := fun k hk => by
    by_cases hr : k = t.root
    · unfold levH; rw [if_pos hr]; omega
    · have hb := has_blk hk hr
      have := hw.above _ _ hb
      unfold levH
      rw [if_neg hr, hb]
      simp only
      omega
  have hnr : ¬ b.id = t.root := fun he => by
    unfold has at h2
    rw [decide_eq_true he] at h2
    cases h2
  have key : ∀ k b', blkOf k (N ++ [(b.id, b, vd, c)]) = some b' → blkOf k N = some b' ∨ (k = b.id ∧ b' = b) := fun k b' hk => by
    rw [blkOf_snoc] at hk
    cases hb : blkOf k N with
    | some y => rw [hb] at hk; exact .inl hk
    | none =>
      rw [hb] at hk
      by_cases he : k = b.id
      · simp [he] at hk; exact .inr ⟨he, hk.symm⟩
      · simp [he] at hk
  refine ⟨fun k b' hk => ?_, fun k b' hk => ?_, ?_, fun x hx => ?_⟩
  · rcases key k b' hk with hk | ⟨rfl, rfl⟩
    · obtain ⟨h5, h6⟩ := hw.up k b' hk
      obtain ⟨h7, h8⟩ := has_old (x := (b.id, b, vd, c)) h5
      exact ⟨h7, by rw [h8]; exact h6⟩
    · obtain ⟨h7, h8⟩ := has_old (x := (b'.id, b', vd, c)) h4.1
      exact ⟨h7, by rw [h8, ← h4.2.2]; omega⟩
  · rcases key k b' hk with hk | ⟨rfl, rfl⟩
    · exact hw.above k b' hk
    · have := hlev _ h4.1
      omega
  · rw [blkOf_snoc, hw.noroot, if_neg (fun he => hnr he.symm)]
    rfl
  · rcases List.mem_append.1 hx with hx | hx
    · exact hw.small x hx
    · obtain rfl : x = (b.id, b, vd, c) := by simpa using hx
      unfold Blk.chk at h1
      split at h1
      · cases h1
      · show b.d.length ≤ 200
        omega
end Go.Fx
set_option linter.unusedVariables false
set_option linter.unusedSimpArgs false
namespace Go.Fx
def mvOk (t : Tr) (N : List TN) (k : Vec 32) : Bool := (blkOf k N).isSome && decide ((nb k N).1.p = t.root)
def mvT (t : Tr) (N : List TN) (k : Vec 32) : Tr := ⟨k, (nb k N).1.h, t.most⟩
def mvGone (t : Tr) (N : List TN) (k : Vec 32) : List (Vec 32) := (N.map (·.1)).filter fun x => !under t N x k
def mvStay (t : Tr) (N : List TN) (k : Vec 32) : List (Vec 32) := (N.map (·.1)).filter fun x => !decide (x = k) && under t N x k
def mvN (t : Tr) (N : List TN) (k : Vec 32) : List TN := N.filter fun x => !decide (x.1 = k) && under t N x.1 k
theorem findE_none {n : Nat} {k : Vec n} : ∀ {l : List (Ent n)} {i : Nat}, k ∉ l.map (·.1) → findE k l i = none
  | [], _, _ => rfl
  | x :: l, i, h => by
    simp only [List.map_cons, List.mem_cons, not_or] at h
    unfold findE
    rw [if_neg h.1]
    exact findE_none h.2
theorem findE_idx {n : Nat} {k : Vec n} : ∀ {l : List (Ent n)} {i j : Nat} {v : Value}, findE k l i = some (j, v) → i ≤ j
  | [], _, _, _, h => by simp [findE] at h
  | x :: l, i, j, v, h => by
    unfold findE at h
    split at h
    · simp at h; omega
    · have := findE_idx h; omega
theorem filter_ne_self {n : Nat} {k : Vec n} {l : List (Ent n)} (h : k ∉ l.map (·.1)) : l.filter (fun x => !decide (x.1 = k)) = l := by
  rw [List.filter_eq_self]
  intro x hx
  have : x.1 ≠ k := fun he => h (he ▸ List.mem_map_of_mem hx)
  simp [this]
theorem delE_filter {n : Nat} {k : Vec n} {l : List (Ent n)} (hn : (l.map (·.1)).Nodup) : delE k l = l.filter fun x => !decide (x.1 = k) := by
  have go : ∀ (l : List (Ent n)) (i : Nat), (l.map (·.1)).Nodup → (match findE k l i with
      | some (j, _) => l.eraseIdx (j - i)
      | none => l) = l.filter fun x => !decide (x.1 = k) := by
    intro l
    induction l with
    | nil => intro i _; rfl
    | cons x l ih =>
      intro i hn
      simp only [List.map_cons, List.nodup_cons] at hn
      unfold findE
      by_cases hx : k = x.1
      · rw [if_pos hx]
        subst hx
        simp only [Nat.sub_self, List.eraseIdx_zero, List.tail_cons]
        rw [List.filter_cons_of_neg (by simp), filter_ne_self hn.1]
      · rw [if_neg hx, List.filter_cons_of_pos (by simp; exact fun h => hx h.symm), ← ih (i + 1) hn.2]
        cases hf : findE k l (i + 1) with
        | none => rfl
        | some y =>
          obtain ⟨j, v⟩ := y
          have := findE_idx hf
          simp only
          rw [show j - i = (j - (i + 1)) + 1 by omega, List.eraseIdx_cons_succ]
  unfold delE
  have := go l 0 hn
  cases hf : findE k l 0 with
  | none => rw [hf] at this; exact this
  | some y => rw [hf] at this; exact this
theorem nodup_filter {n : Nat} {l : List (Ent n)} (p : Ent n → Bool) (hn : (l.map (·.1)).Nodup) : ((l.filter p).map (·.1)).Nodup := hn.sublist (List.filter_sublist.map _)
theorem del_N {w0 w : World} {As : List Asn} {gm c : Nat} {N : List TN} {k : Vec 32} {K : Value → World → Prop} (hs : Sep w0 w (mpN gm N c :: As)) (h : ∀ w', Sep w0 w' (mpN gm (N.filter fun x => !decide (x.1 = k)) c :: As) → K (.tuple #[]) w') :
    efP P (Builtin.delete_ #[T_map_api_ID_api_Block, T_api_ID] T_ #[.map (some gm), kv k]) w K := by
  obtain ⟨E, hE, hs2⟩ := mpN_open hs
  refine del_s U_map_api_ID_api_Block KT hs2 fun w' hs' => h w' ?_
  rw [delE_filter hE.nd] at hs'
  exact mpN_close (hE.filter fun y => !decide (y = k)) hs'
theorem keep_step {N : List TN} {G : List (Vec 32)} {x : Vec 32} : (N.filter fun y => !decide (y.1 ∈ G)).filter (fun y => !decide (y.1 = x)) = N.filter fun y => !decide (y.1 ∈ G ++ [x]) := by
  rw [List.filter_filter]
  congr 1
  funext y
  by_cases h1 : y.1 = x <;> by_cases h2 : y.1 ∈ G <;> simp [h1, h2]
section
variable {w0 w w' : World} {As : List Asn} {g gm c : Nat} {ov : Value} {t : Tr} {N : List TN}
theorem Move_spec (hs : Sep w0 w (trH g gm ov t N c ++ As)) (hd : Dat N As) (hw : TrW t N) (hu : (N.map (·.1)).Nodup) (hn : N.length ≤ 1000000) (k : Vec 32) :
    cal P f_tree_Tree_Move [.pointer (some ⟨g, 0, none⟩), kv k] w fun r w' =>
      (mvOk t N k = false ∧ r = .tuple #[.slice none 0 0, .int .i64 4] ∧ Sep w0 w' (trH g gm ov t N c ++ As)) ∨
      (mvOk t N k = true ∧ ∃ gv ov', r = .tuple #[gv, .int .i64 0] ∧ Sep w0 w' (trH g gm ov' (mvT t N k) (mvN t N k) c ++ (rows (rVec 32) gv (mvGone t N k) :: As))) := by
  have hr := trH_rd hs hd
  refine s_tree_Tree_Move fun R hR => ?_
  unfold c_tree_Tree_Move
  refine bx_s (Sep.start w) fun g2 w1 hs1 => ?_
  replace hs1 : Sep w w1 [blk g2 #[.pointer (some ⟨g, 0, none⟩)] T_p_tree_Tree] := hs1
  refine bxQ hs1 fun g3 w2 hs2 => ?_
  refine ld1_i (Sep.p1 hs2).blk rfl ?_
  refine cal_i (tnone_spec (hs2.tr hr)) ?_
  rintro _ _ ⟨rfl, rfl⟩
  simp only [nilc_some, fad_mk, pik_true, pik_false, cnd_true, cnd_false, gif_same, gif_tf, gif_ft, gif_undef, bi_add, bi_sub, bi_mul, bi_eql, bi_neq, bi_lss, bi_leq, bi_gtr, bi_geq, notB_bool, cvi_int, lenS_mk, lenT_mk, ext0, ext1, ext2, nilP_mk, nilS_mk, fldv_agg, jn0_k, jn1_k, jn2_k, jn1_and, jn1_or, ex_some, Option.isNone_some, Option.isNone_none, Bool.false_bne, Bool.bne_true, Bool.bne_false, Bool.true_bne, Bool.not_true, Bool.not_false, Bool.and_true, Bool.true_and, Bool.and_false, Bool.false_and, Bool.or_true, Bool.true_or, Bool.or_false, Bool.false_or, cond_true, cond_false, List.getElem?_toArray, List.getElem?_cons_zero, List.getElem?_cons_succ, Nat.zero_add, Nat.add_zero, Nat.reduceAdd, forall_const]
  refine drH_S hs2 fun w3 hs3 _ => ?_
  refine rdS_ld (v := .pointer (some ⟨g, 0, none⟩)) (fun u hu K hk => ld1_i (Sep.p1 hu).blk rfl hk) ?_
  simp only [nilc_some, fad_mk, pik_true, pik_false, cnd_true, cnd_false, gif_same, gif_tf, gif_ft, gif_undef, bi_add, bi_sub, bi_mul, bi_eql, bi_neq, bi_lss, bi_leq, bi_gtr, bi_geq, notB_bool, cvi_int, lenS_mk, lenT_mk, ext0, ext1, ext2, nilP_mk, nilS_mk, fldv_agg, jn0_k, jn1_k, jn2_k, jn1_and, jn1_or, ex_some, Option.isNone_some, Option.isNone_none, Bool.false_bne, Bool.bne_true, Bool.bne_false, Bool.true_bne, Bool.not_true, Bool.not_false, Bool.and_true, Bool.true_and, Bool.and_false, Bool.false_and, Bool.or_true, Bool.true_or, Bool.or_false, Bool.false_or, cond_true, cond_false, List.getElem?_toArray, List.getElem?_cons_zero, List.getElem?_cons_succ, Nat.zero_add, Nat.add_zero, Nat.reduceAdd, forall_const]
  refine rdS_ld (v := .map (some gm)) (fun u hu K hk => by
    obtain ⟨T, fr, hc⟩ := (hu.tr hr).cell
    exact (L_tree_Tree__blocks hc K).mpr hk) ?_
  refine ⟨kv k, fun u hu => (L_api_ID hu.blk _).mpr rfl, ?_⟩
  refine ⟨.tuple #[(getE k (N.map TN.ent)).getD (bq Blk.none (.slice none 0 0)), .bool (getE k (N.map TN.ent)).isSome], fun u hu => ((hu.tr hr).look k _).mpr rfl, ?_⟩
  rw [nb_get, nb_is]
  simp only [nilc_some, fad_mk, pik_true, pik_false, cnd_true, cnd_false, gif_same, gif_tf, gif_ft, gif_undef, bi_add, bi_sub, bi_mul, bi_eql, bi_neq, bi_lss, bi_leq, bi_gtr, bi_geq, notB_bool, cvi_int, lenS_mk, lenT_mk, ext0, ext1, ext2, nilP_mk, nilS_mk, fldv_agg, jn0_k, jn1_k, jn2_k, jn1_and, jn1_or, ex_some, Option.isNone_some, Option.isNone_none, Bool.false_bne, Bool.bne_true, Bool.bne_false, Bool.true_bne, Bool.not_true, Bool.not_false, Bool.and_true, Bool.true_and, Bool.and_false, Bool.false_and, Bool.or_true, Bool.true_or, Bool.or_false, Bool.false_or, cond_true, cond_false, List.getElem?_toArray, List.getElem?_cons_zero, List.getElem?_cons_succ, Nat.zero_add, Nat.add_zero, Nat.reduceAdd, forall_const]
  refine efS_i (alloc_s hs3 (A_api_Block w3) fun g6 w4 hs4 => ⟨hs4.tail, ?_⟩)
  refine efC_stN (St_api_Block hs4 (one_api_Block (nb_rd (hs4.tr hr) k).one) fun w5 hs5 => ?_)
  refine drw_s hs5 fun w6 hs6 _ => ?_
  obtain ⟨T, fr, hc⟩ := (hs6.tr hr).cell
  have hl2 : ∀ K : Value → Prop, ld1 (.pointer (some ⟨g2, 0, none⟩)) w6.heap K = K (.pointer (some ⟨g, 0, none⟩)) := fun K => by rw [ld1_eq (Sep.p2 hs6).blk]; exact ex_some _ K
  simp only [nilc_some, fad_mk, pik_true, pik_false, cnd_true, cnd_false, gif_same, gif_tf, gif_ft, gif_undef, bi_add, bi_sub, bi_mul, bi_eql, bi_neq, bi_lss, bi_leq, bi_gtr, bi_geq, notB_bool, cvi_int, lenS_mk, lenT_mk, ext0, ext1, ext2, nilP_mk, nilS_mk, fldv_agg, jn0_k, jn1_k, jn2_k, jn1_and, jn1_or, ex_some, Option.isNone_some, Option.isNone_none, Bool.false_bne, Bool.bne_true, Bool.bne_false, Bool.true_bne, Bool.not_true, Bool.not_false, Bool.and_true, Bool.true_and, Bool.and_false, Bool.false_and, Bool.or_true, Bool.true_or, Bool.or_false, Bool.false_or, cond_true, cond_false, List.getElem?_toArray, List.getElem?_cons_zero, List.getElem?_cons_succ, Nat.zero_add, Nat.add_zero, Nat.reduceAdd, forall_const, L_api_Block hs6.blk, L_api_Block__Parent hs6.blk, L_api_Block__Height hs6.blk, L_api_Block__Data hs6.blk, hl2, L_tree_Tree hc, L_tree_Tree__made hc, L_tree_Tree__root hc, L_tree_Tree__height hc, L_tree_Tree__most hc, L_tree_Tree__blocks hc, L_tree_Tree__order hc, ne_api_ID]
  rw [cnd_bool]
  refine ⟨fun h => ?_, fun h => ?_⟩
  · refine hR _ _ (.inl ⟨?_, rfl, hs.old hs6.fr0⟩)
    unfold mvOk
    simp only [Bool.or_eq_true, Bool.not_eq_true'] at h
    rcases h with h | h
    · rw [h, Bool.false_and]
    · rw [h, Bool.and_false]
  have hok : mvOk t N k = true := by
    unfold mvOk
    simp only [Bool.or_eq_false_iff, Bool.not_eq_false'] at h
    rw [h.1, h.2]
    rfl
  refine cal_i (those_spec (f := f_tree_Tree_Move_1) (cap := [.pointer (some ⟨g2, 0, none⟩), .pointer (some ⟨g3, 0, none⟩)]) (so := fun x => !under t N x k) (hs6.tr hr) hn (by kernel_rfl) ?_) ?_
  · intro z x hz
    have hsz := hs6.old hz
    refine s_tree_Tree_Move_1 fun R hR => ?_
    unfold c_tree_Tree_Move_1
    refine bxQ (Sep.start z) fun g5 w5 hs5 => ?_
    have h2 := hs5.fr0.blk (Sep.p2 hsz).blk (by simp)
    have h3 := hs5.fr0.blk (Sep.p1 hsz).blk (by simp)
    refine ld1_i h2 rfl ?_
    simp only [L_api_ID hs5.blk, L_api_ID h3]
    refine cal_i (Within_spec (TrR.fr (hsz.tr hr) hs5.fr0) hw x k) ?_
    rintro _ w6 ⟨rfl, hf6⟩
    simp only [nilc_some, fad_mk, pik_true, pik_false, cnd_true, cnd_false, gif_same, gif_tf, gif_ft, gif_undef, bi_add, bi_sub, bi_mul, bi_eql, bi_neq, bi_lss, bi_leq, bi_gtr, bi_geq, notB_bool, cvi_int, lenS_mk, lenT_mk, ext0, ext1, ext2, nilP_mk, nilS_mk, fldv_agg, jn0_k, jn1_k, jn2_k, jn1_and, jn1_or, ex_some, Option.isNone_some, Option.isNone_none, Bool.false_bne, Bool.bne_true, Bool.bne_false, Bool.true_bne, Bool.not_true, Bool.not_false, Bool.and_true, Bool.true_and, Bool.and_false, Bool.false_and, Bool.or_true, Bool.true_or, Bool.or_false, Bool.false_or, cond_true, cond_false, List.getElem?_toArray, List.getElem?_cons_zero, List.getElem?_cons_succ, Nat.zero_add, Nat.add_zero, Nat.reduceAdd, forall_const]
    exact hR _ _ ⟨rfl, (hs5.old hf6).fr0⟩
  rintro gv w7 hs7
  replace hs7 := hs6.join hs7
  rw [ld1_eq (Sep.blk (Sep.p3 hs7))]
  refine ⟨_, rfl, ?_⟩
  refine cal_i (those_spec (f := f_tree_Tree_Move_2) (cap := [.pointer (some ⟨g3, 0, none⟩), .pointer (some ⟨g2, 0, none⟩)]) (so := fun x => !decide (x = k) && under t N x k) (hs7.tr hr) hn (by kernel_rfl) ?_) ?_
  · intro z x hz
    have hsz := hs7.old hz
    refine s_tree_Tree_Move_2 fun R hR => ?_
    unfold c_tree_Tree_Move_2
    refine bxQ (Sep.start z) fun g5 w5 hs5 => ?_
    have h2 := hs5.fr0.blk (Sep.blk (Sep.p3 hsz)) (by simp)
    have h3 := hs5.fr0.blk (Sep.blk (Sep.p2 hsz)) (by simp)
    have hl2 : ∀ K : Value → Prop, ld1 (.pointer (some ⟨g2, 0, none⟩)) w5.heap K = K (.pointer (some ⟨g, 0, none⟩)) := fun K => by rw [ld1_eq h2]; exact ex_some _ K
    simp only [L_api_ID hs5.blk, L_api_ID h3, ne_api_ID]
    by_cases hx : x = k
    · simp only [hx, decide_true, nilc_some, fad_mk, pik_true, pik_false, cnd_true, cnd_false, gif_same, gif_tf, gif_ft, gif_undef, bi_add, bi_sub, bi_mul, bi_eql, bi_neq, bi_lss, bi_leq, bi_gtr, bi_geq, notB_bool, cvi_int, lenS_mk, lenT_mk, ext0, ext1, ext2, nilP_mk, nilS_mk, fldv_agg, jn0_k, jn1_k, jn2_k, jn1_and, jn1_or, ex_some, Option.isNone_some, Option.isNone_none, Bool.false_bne, Bool.bne_true, Bool.bne_false, Bool.true_bne, Bool.not_true, Bool.not_false, Bool.and_true, Bool.true_and, Bool.and_false, Bool.false_and, Bool.or_true, Bool.true_or, Bool.or_false, Bool.false_or, cond_true, cond_false, List.getElem?_toArray, List.getElem?_cons_zero, List.getElem?_cons_succ, Nat.zero_add, Nat.add_zero, Nat.reduceAdd, forall_const]
      exact hR _ _ ⟨by simp [hx], hs5.fr0⟩
    · simp only [hx, decide_false, nilc_some, fad_mk, pik_true, pik_false, cnd_true, cnd_false, gif_same, gif_tf, gif_ft, gif_undef, bi_add, bi_sub, bi_mul, bi_eql, bi_neq, bi_lss, bi_leq, bi_gtr, bi_geq, notB_bool, cvi_int, lenS_mk, lenT_mk, ext0, ext1, ext2, nilP_mk, nilS_mk, fldv_agg, jn0_k, jn1_k, jn2_k, jn1_and, jn1_or, ex_some, Option.isNone_some, Option.isNone_none, Bool.false_bne, Bool.bne_true, Bool.bne_false, Bool.true_bne, Bool.not_true, Bool.not_false, Bool.and_true, Bool.true_and, Bool.and_false, Bool.false_and, Bool.or_true, Bool.true_or, Bool.or_false, Bool.false_or, cond_true, cond_false, List.getElem?_toArray, List.getElem?_cons_zero, List.getElem?_cons_succ, Nat.zero_add, Nat.add_zero, Nat.reduceAdd, forall_const]
      refine jn1_dup ?_
      rw [hl2]
      refine cal_i (Within_spec (TrR.fr (hsz.tr hr) hs5.fr0) hw x k) ?_
      rintro _ w6 ⟨rfl, hf6⟩
      simp only [nilc_some, fad_mk, pik_true, pik_false, cnd_true, cnd_false, gif_same, gif_tf, gif_ft, gif_undef, bi_add, bi_sub, bi_mul, bi_eql, bi_neq, bi_lss, bi_leq, bi_gtr, bi_geq, notB_bool, cvi_int, lenS_mk, lenT_mk, ext0, ext1, ext2, nilP_mk, nilS_mk, fldv_agg, jn0_k, jn1_k, jn2_k, jn1_and, jn1_or, ex_some, Option.isNone_some, Option.isNone_none, Bool.false_bne, Bool.bne_true, Bool.bne_false, Bool.true_bne, Bool.not_true, Bool.not_false, Bool.and_true, Bool.true_and, Bool.and_false, Bool.false_and, Bool.or_true, Bool.true_or, Bool.or_false, Bool.false_or, cond_true, cond_false, List.getElem?_toArray, List.getElem?_cons_zero, List.getElem?_cons_succ, Nat.zero_add, Nat.add_zero, Nat.reduceAdd, forall_const]
      exact hR _ _ ⟨by simp [hx], (hs5.old hf6).fr0⟩
  rintro sv w8 hs8
  replace hs8 := hs7.join hs8
  change Sep w w8 [rows (rVec 32) sv (mvStay t N k), rows (rVec 32) gv (mvGone t N k), blk g6 _ T_api_Block, blk g3 _ T_api_ID, blk g2 _ T_p_tree_Tree] at hs8
  have hA := hs.join hs8
  obtain ⟨G, hG⟩ : ∃ G, G = mvGone t N k := ⟨_, rfl⟩
  have hGl : G.length ≤ 1000000 := by
    rw [hG]
    unfold mvGone
    have := List.length_filter_le (fun x => !under t N x k) (N.map (·.1))
    rw [List.length_map] at this
    omega
  rw [← hG] at hA
  have hA' : Sep w0 w8 (mpN gm (N.filter fun y => !decide (y.1 ∈ G.take 0)) c :: rows (rVec 32) gv G :: blk g3 (Rdr.cells (rVec 32) k).toArray T_api_ID :: blk g2 #[.pointer (some ⟨g, 0, none⟩)] T_p_tree_Tree :: blk g (Rdr.cells Q_tree_Tree (tq t gm ov)).toArray T_tree_Tree ::
      rows (rVec 32) sv (mvStay t N k) :: blk g6 (Rdr.cells Q_api_Block ((nb k N).1.p, (nb k N).1.h, (nb k N).2)).toArray T_api_Block :: rows (rVec 32) ov (N.map (·.1)) :: As) := by
    have e0 : (N.filter fun y => !decide (y.1 ∈ G.take 0)) = N := List.filter_eq_self.2 fun y _ => by simp
    rw [e0]
    exact Sep.pick hA [6, 1, 3, 4, 5, 0, 2, 7] 8
  have hlen : ∀ K, lenS gv K = K (.int .i64 G.length) := fun K => (Sep.rows hA'.p1).len K
  simp only [hlen]
  refine ⟨fun x z => ∃ i : Nat, x = .int .i64 i ∧ i ≤ G.length ∧ Sep w0 z (mpN gm (N.filter fun y => !decide (y.1 ∈ G.take i)) c :: rows (rVec 32) gv G :: blk g3 (Rdr.cells (rVec 32) k).toArray T_api_ID :: blk g2 #[.pointer (some ⟨g, 0, none⟩)] T_p_tree_Tree :: blk g (Rdr.cells Q_tree_Tree (tq t gm ov)).toArray T_tree_Tree ::
      rows (rVec 32) sv (mvStay t N k) :: blk g6 (Rdr.cells Q_api_Block ((nb k N).1.p, (nb k N).1.h, (nb k N).2)).toArray T_api_Block :: rows (rVec 32) ov (N.map (·.1)) :: As), fun x _ => (G.length - RowKit.intOf x).toNat, ⟨0, rfl, by omega, hA'⟩, ?_⟩
  rintro _ w9 ⟨i, rfl, hi, hs9⟩ -
  simp only [nilc_some, fad_mk, pik_true, pik_false, cnd_true, cnd_false, gif_same, gif_tf, gif_ft, gif_undef, bi_add, bi_sub, bi_mul, bi_eql, bi_neq, bi_lss, bi_leq, bi_gtr, bi_geq, notB_bool, cvi_int, lenS_mk, lenT_mk, ext0, ext1, ext2, nilP_mk, nilS_mk, fldv_agg, jn0_k, jn1_k, jn2_k, jn1_and, jn1_or, ex_some, Option.isNone_some, Option.isNone_none, Bool.false_bne, Bool.bne_true, Bool.bne_false, Bool.true_bne, Bool.not_true, Bool.not_false, Bool.and_true, Bool.true_and, Bool.and_false, Bool.false_and, Bool.or_true, Bool.true_or, Bool.or_false, Bool.false_or, cond_true, cond_false, List.getElem?_toArray, List.getElem?_cons_zero, List.getElem?_cons_succ, Nat.zero_add, Nat.add_zero, Nat.reduceAdd, forall_const]
  rw [cnd_bool]
  refine ⟨fun h => ?_, fun h => ?_⟩
  · have hlt : i < G.length := by simp at h; omega
    obtain ⟨x, hx⟩ : ∃ x, G[i]? = some x := ⟨_, List.getElem?_eq_getElem hlt⟩
    change ixs 32 _ _ _
    refine Rows'.ldN (q := rVec 32) (by decide) (Sep.rows hs9.p1) hx .i64 ?_
    refine alloc_s hs9 (A_api_ID w9) fun g11 w10 hs10 => ?_
    refine St_api_ID (b := x) hs10 fun w11 hs11 => ?_
    refine drH_S hs11 fun w12 hs12 _ => ?_
    refine rdS_ld (v := .pointer (some ⟨g, 0, none⟩)) (fun u hu K hk => ld1_i (Sep.blk (Sep.p4 hu)) rfl hk) ?_
    simp only [nilc_some, fad_mk, pik_true, pik_false, cnd_true, cnd_false, gif_same, gif_tf, gif_ft, gif_undef, bi_add, bi_sub, bi_mul, bi_eql, bi_neq, bi_lss, bi_leq, bi_gtr, bi_geq, notB_bool, cvi_int, lenS_mk, lenT_mk, ext0, ext1, ext2, nilP_mk, nilS_mk, fldv_agg, jn0_k, jn1_k, jn2_k, jn1_and, jn1_or, ex_some, Option.isNone_some, Option.isNone_none, Bool.false_bne, Bool.bne_true, Bool.bne_false, Bool.true_bne, Bool.not_true, Bool.not_false, Bool.and_true, Bool.true_and, Bool.and_false, Bool.false_and, Bool.or_true, Bool.true_or, Bool.or_false, Bool.false_or, cond_true, cond_false, List.getElem?_toArray, List.getElem?_cons_zero, List.getElem?_cons_succ, Nat.zero_add, Nat.add_zero, Nat.reduceAdd, forall_const]
    refine rdS_ld (v := .map (some gm)) (fun u hu K hk => (L_tree_Tree__blocks (Sep.p5 hu).blk K).mpr hk) ?_
    refine ⟨kv x, fun u hu => (L_api_ID (Sep.blk hu) _).mpr rfl, ?_⟩
    refine efC_efP (del_N hs12.p1 fun w13 hs13 => ?_)
    rw [wi64 (by omega) (by omega)]
    refine ⟨⟨i + 1, by simp, by omega, ?_⟩, by simp [RowKit.intOf]; omega⟩
    have e : (N.filter fun y => !decide (y.1 ∈ G.take (i + 1))) = (N.filter fun y => !decide (y.1 ∈ G.take i)).filter fun y => !decide (y.1 = x) := by
      rw [keep_step, List.take_add_one, hx]
      rfl
    rw [e]
    exact hs13.d1
  have hge : i = G.length := by simp at h; omega
  rw [hge, List.take_of_length_le (Nat.le_refl _)] at hs9
  clear hlen hA' hA
  refine drH_S hs9 fun w10 hs10 _ => ?_
  refine rdS_ld (v := .pointer (some ⟨g, 0, none⟩)) (fun u hu K hk => ld1_i (Sep.blk (Sep.p3 hu)) rfl hk) ?_
  simp only [nilc_some, fad_mk, pik_true, pik_false, cnd_true, cnd_false, gif_same, gif_tf, gif_ft, gif_undef, bi_add, bi_sub, bi_mul, bi_eql, bi_neq, bi_lss, bi_leq, bi_gtr, bi_geq, notB_bool, cvi_int, lenS_mk, lenT_mk, ext0, ext1, ext2, nilP_mk, nilS_mk, fldv_agg, jn0_k, jn1_k, jn2_k, jn1_and, jn1_or, ex_some, Option.isNone_some, Option.isNone_none, Bool.false_bne, Bool.bne_true, Bool.bne_false, Bool.true_bne, Bool.not_true, Bool.not_false, Bool.and_true, Bool.true_and, Bool.and_false, Bool.false_and, Bool.or_true, Bool.true_or, Bool.or_false, Bool.false_or, cond_true, cond_false, List.getElem?_toArray, List.getElem?_cons_zero, List.getElem?_cons_succ, Nat.zero_add, Nat.add_zero, Nat.reduceAdd, forall_const]
  refine rdS_ld (v := .map (some gm)) (fun u hu K hk => (L_tree_Tree__blocks (Sep.p4 hu).blk K).mpr hk) ?_
  refine ⟨kv k, fun u hu => (L_api_ID (Sep.blk (Sep.p2 hu)) _).mpr rfl, ?_⟩
  refine efC_efP (del_N hs10 fun w11 hs11 => ?_)
  have hfin : (N.filter fun y => !decide (y.1 ∈ G)).filter (fun y => !decide (y.1 = k)) = mvN t N k := by
    rw [List.filter_filter, hG]
    unfold mvN
    refine List.filter_congr fun x hx => ?_
    have hxm : x.1 ∈ N.map (·.1) := List.mem_map_of_mem hx
    show (!decide (x.1 = k) && !decide (x.1 ∈ mvGone t N k)) = _
    congr 1
    have hm : x.1 ∈ mvGone t N k ↔ under t N x.1 k = false := by
      unfold mvGone
      rw [List.mem_filter]
      simp [hxm]
    cases hq : under t N x.1 k
    · simp [hm, hq]
    · simp [hm, hq]
  rw [hfin] at hs11
  have hs12 := Sep.pick hs11 [4, 3, 2, 6, 0, 1, 5, 7] 8
  refine ⟨fun u => ∃ q, Sep w0 u (blk g (Rdr.cells Q_tree_Tree q).toArray T_tree_Tree :: blk g2 #[.pointer (some ⟨g, 0, none⟩)] T_p_tree_Tree :: blk g3 (Rdr.cells (rVec 32) k).toArray T_api_ID ::
    blk g6 (Rdr.cells Q_api_Block ((nb k N).1.p, (nb k N).1.h, (nb k N).2)).toArray T_api_Block :: mpN gm (mvN t N k) c :: rows (rVec 32) gv G :: rows (rVec 32) sv (mvStay t N k) :: rows (rVec 32) ov (N.map (·.1)) :: As), ⟨_, hs12.drew _⟩, ?_⟩
  refine rdS_ld (v := .pointer (some ⟨g, 0, none⟩)) (fun u ⟨q, hu⟩ K hk => ld1_i (Sep.blk (Sep.p1 hu)) rfl hk) ?_
  refine rdS_ld (v := .pointer (some ⟨g, 0, none⟩)) (fun u ⟨q, hu⟩ K hk => ld1_i (Sep.blk (Sep.p1 hu)) rfl hk) ?_
  refine rdS_ld (v := .pointer (some ⟨g, 0, none⟩)) (fun u ⟨q, hu⟩ K hk => ld1_i (Sep.blk (Sep.p1 hu)) rfl hk) ?_
  refine ⟨kv k, fun u ⟨q, hu⟩ => (L_api_ID (Sep.blk (Sep.p2 hu)) _).mpr rfl, ?_⟩
  simp only [nilc_some, fad_mk, pik_true, pik_false, cnd_true, cnd_false, gif_same, gif_tf, gif_ft, gif_undef, bi_add, bi_sub, bi_mul, bi_eql, bi_neq, bi_lss, bi_leq, bi_gtr, bi_geq, notB_bool, cvi_int, lenS_mk, lenT_mk, ext0, ext1, ext2, nilP_mk, nilS_mk, fldv_agg, jn0_k, jn1_k, jn2_k, jn1_and, jn1_or, ex_some, Option.isNone_some, Option.isNone_none, Bool.false_bne, Bool.bne_true, Bool.bne_false, Bool.true_bne, Bool.not_true, Bool.not_false, Bool.and_true, Bool.true_and, Bool.and_false, Bool.false_and, Bool.or_true, Bool.true_or, Bool.or_false, Bool.false_or, cond_true, cond_false, List.getElem?_toArray, List.getElem?_cons_zero, List.getElem?_cons_succ, Nat.zero_add, Nat.add_zero, Nat.reduceAdd, forall_const]
  refine rdS_ld (v := .int .i64 (nb k N).1.h) (fun u ⟨q, hu⟩ K hk => (L_api_Block__Height (Sep.blk (Sep.p3 hu)) K).mpr hk) ?_
  refine efS_i (St_tree_Tree__root (hs12.drew _) oneVec fun w13 hs13 => ⟨⟨_, hs13⟩, ?_⟩)
  refine efS_i (St_tree_Tree__height hs13 fun w14 hs14 => ⟨⟨_, hs14⟩, ?_⟩)
  refine efC_st1 (St_tree_Tree__order hs14 (Sep.oneR (Sep.pick hs14 [6] 7)) fun w15 hs15 => ?_)
  refine hR _ _ (.inr ⟨hok, gv, sv, rfl, ?_⟩)
  have hs16 := Sep.pick hs15 [0, 4, 6, 5] 8
  have e2 : (mvN t N k).map (·.1) = mvStay t N k := by
    unfold mvN mvStay
    rw [List.filter_map]
    rfl
  subst hG
  unfold trH
  rw [e2]
  exact hs16
end
end Go.Fx
set_option linter.unusedVariables false
set_option linter.unusedSimpArgs false
namespace Go.Fx
/-- A tree to which blocks were added. -/
structure TI (t : Tr) (N : List TN) : Prop where
  w : TrW t N
  nd : (N.map (·.1)).Nodup
  hb : ∀ k, has t N k = true → hgt t N k ≤ N.length
  hi : ∀ x ∈ N, x.2.1.h ≤ maxI
  ht : 0 ≤ t.ht
section
variable {t : Tr} {N : List TN}
theorem TI.nil (h : 0 ≤ t.ht) : TI t [] := ⟨TrW.nil t, by simp, fun k hk => by
  have : k = t.root := by simpa [has, blkOf, nodeOf] using hk
  subst this
  simp [hgt, levH], (fun x hx => by cases hx), h⟩
theorem addE_ok {b : Blk} (h : addE t N b = 0) : b.chk = 0 ∧ has t N b.id = false ∧ has t N b.p = true ∧ 1 ≤ b.h ∧ b.h = levH t N b.p + 1 ∧ (N.length : Int) < t.most := by
  unfold addE at h
  split at h
  · rename_i h1; exact absurd h h1
  rename_i h1
  split at h
  · cases h
  rename_i h2
  split at h
  · cases h
  rename_i h3
  split at h
  · cases h
  rename_i h4
  refine ⟨by simpa using h1, by simpa using h2, ?_, ?_, ?_, by omega⟩
  · cases hp : has t N b.p with
    | true => rfl
    | false => exact absurd (.inl hp) h3
  · by_cases hq : b.h < 1
    · exact absurd (.inr (.inl hq)) h3
    · omega
  · by_cases hq : b.h - 1 = levH t N b.p
    · omega
    · exact absurd (.inr (.inr hq)) h3
theorem has_mem {k : Vec 32} (h : has t N k = true) : k = t.root ∨ k ∈ N.map (·.1) := by
  unfold has at h
  simp only [Bool.or_eq_true, decide_eq_true_eq] at h
  refine h.imp id fun h => ?_
  unfold blkOf nodeOf at h
  rw [Option.isSome_map, List.find?_isSome] at h
  obtain ⟨x, hx, hk⟩ := h
  have hk : k = x.1 := by simpa using hk
  exact hk ▸ List.mem_map_of_mem hx
theorem mem_has {k : Vec 32} (h : k = t.root ∨ k ∈ N.map (·.1)) : has t N k = true := by
  unfold has
  rcases h with rfl | h
  · simp
  · obtain ⟨x, hx, rfl⟩ := List.mem_map.1 h
    have : (blkOf x.1 N).isSome = true := by
      unfold blkOf nodeOf
      rw [Option.isSome_map, List.find?_isSome]
      exact ⟨x, hx, by simp⟩
    simp [this]
theorem lev_ge (hw : TrW t N) {k : Vec 32} (hk : has t N k = true) : t.ht ≤ levH t N k := by
  by_cases hr : k = t.root
  · unfold levH; rw [if_pos hr]; omega
  · have hb := has_blk hk hr
    have := hw.above _ _ hb
    unfold levH
    rw [if_neg hr, hb]
    simp only
    omega
theorem lev_hgt (hw : TrW t N) {k : Vec 32} (hk : has t N k = true) : levH t N k = t.ht + (hgt t N k : Int) := by
  have := lev_ge hw hk
  unfold hgt
  omega
theorem TI.add {b : Blk} {vd : Value} {c : Nat} (hi : TI t N) (h : addE t N b = 0) (hm : b.h ≤ maxI) : TI t (N ++ [(b.id, b, vd, c)]) := by
  obtain ⟨h1, h2, h3, h4, h5, h6⟩ := addE_ok h
  have hnm : b.id ∉ N.map (·.1) := fun hm => by rw [mem_has (.inr hm)] at h2; cases h2
  have hnr : b.id ≠ t.root := fun he => by rw [mem_has (.inl he)] at h2; cases h2
  refine ⟨hi.w.add h, ?_, fun k hk => ?_, fun x hx => ?_, hi.ht⟩
  · rw [List.map_append, List.nodup_append]
    refine ⟨hi.nd, by simp, fun x hx y hy => ?_⟩
    simp only [List.map_cons, List.map_nil, List.mem_singleton] at hy
    subst hy
    intro he
    exact hnm (he ▸ hx)
  · rw [List.length_append, List.length_singleton]
    by_cases hold : has t N k = true
    · have h7 := has_old (x := (b.id, b, vd, c)) hold
      have h8 := hi.hb k hold
      unfold hgt at h8 ⊢
      rw [h7.2]
      omega
    · have hk' : k = b.id := by
        rcases has_mem hk with rfl | hm'
        · exact absurd (mem_has (.inl rfl)) hold
        · rw [List.map_append, List.mem_append] at hm'
          rcases hm' with hm' | hm'
          · exact absurd (mem_has (.inr hm')) hold
          · simpa using hm'
      subst hk'
      have h8 := hi.hb _ h3
      have hl := lev_hgt hi.w h3
      have hb : blkOf b.id (N ++ [(b.id, b, vd, c)]) = some b := by
        rw [blkOf_snoc]
        have : blkOf b.id N = none := by
          unfold has at h2
          simp only [Bool.or_eq_false_iff] at h2
          simpa using h2.2
        rw [this]
        simp
      have : levH t (N ++ [(b.id, b, vd, c)]) b.id = b.h := by
        unfold levH
        rw [if_neg hnr, hb]
      unfold hgt
      rw [this, h5, hl]
      omega
  · rcases List.mem_append.1 hx with hx | hx
    · exact hi.hi x hx
    · obtain rfl : x = (b.id, b, vd, c) := by simpa using hx
      exact hm
/-! ### Ways -/
theorem path_root : pathOf t N t.root = [] := by
  unfold pathOf
  rw [wayUp_root]
  split <;> rfl
theorem path_step (hw : TrW t N) {k : Vec 32} (h : has t N k = true) (hk : k ≠ t.root) : pathOf t N k = pathOf t N (upOf k N) ++ [k] := by
  have h2 := (up_has hw h hk).1
  unfold pathOf
  rw [if_pos h, if_pos h2, wayUp_step hw h hk, List.reverse_cons]
theorem path_none {k : Vec 32} (h : has t N k = false) : pathOf t N k = [] := by unfold pathOf; rw [h]; rfl
theorem path_ind (hw : TrW t N) {C : Vec 32 → Prop} (h0 : C t.root) (h1 : ∀ k, has t N k = true → k ≠ t.root → C (upOf k N) → C k) : ∀ k, has t N k = true → C k := by
  intro k
  generalize hn : hgt t N k = n
  induction n using Nat.strongRecOn generalizing k with
  | ind n ih =>
    intro hk
    by_cases hr : k = t.root
    · subst hr; exact h0
    · obtain ⟨h2, h3⟩ := up_has hw hk hr
      exact h1 k hk hr (ih _ (by omega) _ rfl h2)
theorem hgt_root : hgt t N t.root = 0 := by simp [hgt, levH]
theorem path_len (hw : TrW t N) : ∀ k, has t N k = true → (pathOf t N k).length = hgt t N k := by
  refine path_ind hw (by rw [path_root, hgt_root]; rfl) fun k hk hr ih => ?_
  rw [path_step hw hk hr, List.length_append, ih, (up_has hw hk hr).2]
  rfl
/-- What stands at a place of a way. -/
theorem path_at (hw : TrW t N) : ∀ k, has t N k = true → ∀ i x, (pathOf t N k)[i]? = some x →
    has t N x = true ∧ x ≠ t.root ∧ hgt t N x = i + 1 ∧ (if i = 0 then some t.root else (pathOf t N k)[i - 1]?) = some (upOf x N) := by
  refine path_ind hw (fun i x hx => by rw [path_root] at hx; simp at hx) fun k hk hr ih i x hx => ?_
  obtain ⟨h2, h3⟩ := up_has hw hk hr
  have hl := path_len hw _ h2
  rw [path_step hw hk hr] at hx ⊢
  by_cases hi : i < (pathOf t N (upOf k N)).length
  · rw [List.getElem?_append_left hi] at hx
    obtain ⟨h4, h5, h6, h7⟩ := ih i x hx
    refine ⟨h4, h5, h6, ?_⟩
    rw [List.getElem?_append_left (by omega)]
    exact h7
  · have hi2 : i = (pathOf t N (upOf k N)).length := by
      have := (List.getElem?_eq_some_iff.1 hx).1
      rw [List.length_append, List.length_singleton] at this
      omega
    subst hi2
    rw [List.getElem?_append_right (Nat.le_refl _), Nat.sub_self] at hx
    simp only [List.getElem?_cons_zero, Option.some.injEq] at hx
    subst hx
    refine ⟨hk, hr, by rw [h3, hl], ?_⟩
    by_cases h0 : (pathOf t N (upOf k N)).length = 0
    · rw [if_pos h0]
      by_cases hur : upOf k N = t.root
      · rw [hur]
      · rw [path_step hw h2 hur, List.length_append] at h0
        simp at h0
    · rw [if_neg h0, List.getElem?_append_left (by omega)]
      have hur : upOf k N ≠ t.root := fun he => by rw [he, path_root] at h0; exact h0 rfl
      rw [path_step hw h2 hur, List.length_append, List.length_singleton, Nat.add_sub_cancel, List.getElem?_append_right (Nat.le_refl _), Nat.sub_self]
      rfl
theorem under_path {a b : Vec 32} (ha : has t N a = true) (hb : has t N b = true) : under t N a b = (decide (b = t.root) || decide (b ∈ pathOf t N a)) := by
  unfold under pathOf
  rw [ha, hb, if_pos rfl]
  simp
theorem blk_h (hw : TrW t N) {k : Vec 32} (hk : has t N k = true) (hr : k ≠ t.root) : (nb k N).1.h = t.ht + (hgt t N k : Int) := by
  rw [← lev_hgt hw hk]
  unfold levH
  rw [if_neg hr, has_blk hk hr]
end
end Go.Fx
set_option linter.unusedVariables false
set_option linter.unusedSimpArgs false
namespace Go.Fx
theorem Rows'.ldInt {w : World} {v : Value} {l : List Int} {j : Nat} {a : Int} (hr : Rows' (rInt .i64) w.heap v l) (hj : l[j]? = some a) (k : IntKind) {K : Value → Prop} (h : K (.int .i64 a)) : ixs 1 v (.int k (j : Int)) fun t => Go.Fx.ld1 t w.heap K := by
  obtain ⟨g, o, ha, hx⟩ := hr.ix (by decide) hj
  have hx' : ∀ K, ixs 1 v (.int k (j : Int)) K = K (.pointer (some ⟨g, o, none⟩)) := hx k
  rw [hx', At.ld1 (v := .int .i64 a) ha]
  exact h
theorem rdS_rowI {S : World → Prop} {w : World} {v : Value} {l : List Int} {j : Nat} {a : Int} {K : Value → Prop}
    (hw : S w) (hS : ∀ u, S u → Rows' (rInt .i64) u.heap v l) (hj : l[j]? = some a) (k : IntKind) (h : K (.int .i64 a)) : ixs 1 v (.int k (j : Int)) fun t => rdS S (fun w => Go.Fx.ld1 t w.heap) K := by
  obtain ⟨g, o, c, rfl⟩ := (hS w hw).form (by decide) hj
  have hlt := (List.getElem?_eq_some_iff.1 hj).1
  rw [ixs_mk _ _ _ _ _ _ _ _ (by omega) (by omega), Int.toNat_natCast]
  refine ⟨.int .i64 a, fun z hz => ?_, h⟩
  have hat := At.of (by decide) (hS z hz) hj
  have e : (rInt .i64).size = 1 := rfl
  rw [e] at hat
  show Go.Fx.ld1 _ z.heap _
  rw [At.ld1 (v := .int .i64 a) hat]
section
variable {w0 w : World} {As : List Asn}
/-- slices.Equal on names. -/
theorem idsEqual_spec {u v : Value} {a b : List (Vec 32)} (ha : Rows' (rVec 32) w.heap u a) (hb : Rows' (rVec 32) w.heap v b) (hl : a.length ≤ 1000000) : cal P f_slices_Equal_api_ID_api_ID [u, v] w fun r w' => r = .bool (decide (a = b)) ∧ Fr [] w w' := by
  refine s_slices_Equal_api_ID_api_ID fun R hR => ?_
  unfold c_slices_Equal_api_ID_api_ID
  simp only [ha.len, hb.len, nilc_some, fad_mk, pik_true, pik_false, cnd_true, cnd_false, gif_same, gif_tf, gif_ft, gif_undef, bi_add, bi_sub, bi_mul, bi_eql, bi_neq, bi_lss, bi_leq, bi_gtr, bi_geq, notB_bool, cvi_int, lenS_mk, lenT_mk, ext0, ext1, ext2, nilP_mk, nilS_mk, fldv_agg, jn0_k, jn1_k, jn2_k, jn1_and, jn1_or, ex_some, Option.isNone_some, Option.isNone_none, Bool.false_bne, Bool.bne_true, Bool.bne_false, Bool.true_bne, Bool.not_true, Bool.not_false, Bool.and_true, Bool.true_and, Bool.and_false, Bool.false_and, Bool.or_true, Bool.true_or, Bool.or_false, Bool.false_or, cond_true, cond_false, List.getElem?_toArray, List.getElem?_cons_zero, List.getElem?_cons_succ, Nat.zero_add, Nat.add_zero, Nat.reduceAdd, forall_const]
  rw [cnd_bool]
  refine ⟨fun h => ?_, fun h => ?_⟩
  · have h : a.length ≠ b.length := by simp at h; omega
    exact hR _ _ ⟨by rw [decide_eq_false (fun he => h (by rw [he]))], Fr.refl _ _⟩
  have hab : a.length = b.length := by simp at h; omega
  refine ⟨fun y z => ∃ i : Nat, y = .int .i64 i ∧ i ≤ a.length ∧ a.take i = b.take i ∧ Fr [] w z, fun y _ => (a.length - RowKit.intOf y).toNat, ⟨0, rfl, by omega, by simp, Fr.refl _ _⟩, ?_⟩
  rintro _ w1 ⟨i, rfl, hi, ht, hf⟩ -
  simp only [nilc_some, fad_mk, pik_true, pik_false, cnd_true, cnd_false, gif_same, gif_tf, gif_ft, gif_undef, bi_add, bi_sub, bi_mul, bi_eql, bi_neq, bi_lss, bi_leq, bi_gtr, bi_geq, notB_bool, cvi_int, lenS_mk, lenT_mk, ext0, ext1, ext2, nilP_mk, nilS_mk, fldv_agg, jn0_k, jn1_k, jn2_k, jn1_and, jn1_or, ex_some, Option.isNone_some, Option.isNone_none, Bool.false_bne, Bool.bne_true, Bool.bne_false, Bool.true_bne, Bool.not_true, Bool.not_false, Bool.and_true, Bool.true_and, Bool.and_false, Bool.false_and, Bool.or_true, Bool.true_or, Bool.or_false, Bool.false_or, cond_true, cond_false, List.getElem?_toArray, List.getElem?_cons_zero, List.getElem?_cons_succ, Nat.zero_add, Nat.add_zero, Nat.reduceAdd, forall_const]
  rw [cnd_bool]
  refine ⟨fun h => ?_, fun h => ?_⟩
  · have hlt : i < a.length := by simp at h; omega
    obtain ⟨x, hx⟩ : ∃ x, a[i]? = some x := ⟨_, List.getElem?_eq_getElem hlt⟩
    obtain ⟨y, hy⟩ : ∃ y, b[i]? = some y := ⟨_, List.getElem?_eq_getElem (by omega)⟩
    refine drw_s ((Sep.start w).old hf) fun w2 hs2 _ => ?_
    change ixs 32 _ _ _
    refine Rows'.ldN (q := rVec 32) (by decide) (ha.fr hs2.fr0) hx .i64 ?_
    change ixs 32 _ _ _
    refine Rows'.ldN (q := rVec 32) (by decide) (hb.fr hs2.fr0) hy .i64 ?_
    rw [ne_api_ID, cnd_bool]
    refine ⟨fun h => ?_, fun h => ?_⟩
    · have h : ¬ x = y := by simpa using h
      refine hR _ _ ⟨?_, hs2.fr0⟩
      rw [decide_eq_false fun he => h (by rw [he, hy] at hx; simpa using hx.symm)]
    · have h : x = y := by simpa using h
      rw [wi64 (by omega) (by omega)]
      exact ⟨⟨i + 1, by simp, by omega, by rw [List.take_add_one, List.take_add_one, ht, hx, hy, h], hs2.fr0⟩, by simp [RowKit.intOf]; omega⟩
  · have hge : i = a.length := by simp at h; omega
    rw [hge, List.take_of_length_le (Nat.le_refl _), List.take_of_length_le (by omega)] at ht
    exact hR _ _ ⟨by rw [decide_eq_true ht], hf⟩
theorem idsIndex_spec {u : Value} {a : List (Vec 32)} (ha : Rows' (rVec 32) w.heap u a) (hl : a.length ≤ 1000000) (k : Vec 32) : cal P f_slices_Index_api_ID_api_ID [u, kv k] w fun r w' => (∃ i : Int, r = .int .i64 i ∧ (decide (0 ≤ i) = decide (k ∈ a))) ∧ Fr [] w w' := by
  refine s_slices_Index_api_ID_api_ID fun R hR => ?_
  unfold c_slices_Index_api_ID_api_ID
  refine bxQ (Sep.start w) fun g w1 hs => ?_
  simp only [ha.len]
  refine ⟨fun y z => ∃ i : Nat, y = .int .i64 i ∧ i ≤ a.length ∧ k ∉ a.take i ∧ Sep w z [blk g (Rdr.cells (rVec 32) k).toArray T_api_ID], fun y _ => (a.length - RowKit.intOf y).toNat, ⟨0, rfl, by omega, by simp, hs⟩, ?_⟩
  rintro _ w2 ⟨i, rfl, hi, ht, hs2⟩ -
  simp only [nilc_some, fad_mk, pik_true, pik_false, cnd_true, cnd_false, gif_same, gif_tf, gif_ft, gif_undef, bi_add, bi_sub, bi_mul, bi_eql, bi_neq, bi_lss, bi_leq, bi_gtr, bi_geq, notB_bool, cvi_int, lenS_mk, lenT_mk, ext0, ext1, ext2, nilP_mk, nilS_mk, fldv_agg, jn0_k, jn1_k, jn2_k, jn1_and, jn1_or, ex_some, Option.isNone_some, Option.isNone_none, Bool.false_bne, Bool.bne_true, Bool.bne_false, Bool.true_bne, Bool.not_true, Bool.not_false, Bool.and_true, Bool.true_and, Bool.and_false, Bool.false_and, Bool.or_true, Bool.true_or, Bool.or_false, Bool.false_or, cond_true, cond_false, List.getElem?_toArray, List.getElem?_cons_zero, List.getElem?_cons_succ, Nat.zero_add, Nat.add_zero, Nat.reduceAdd, forall_const]
  rw [cnd_bool]
  refine ⟨fun h => ?_, fun h => ?_⟩
  · have hlt : i < a.length := by simp at h; omega
    obtain ⟨x, hx⟩ : ∃ x, a[i]? = some x := ⟨_, List.getElem?_eq_getElem hlt⟩
    refine drw_s hs2 fun w3 hs3 _ => ?_
    simp only [L_api_ID hs3.blk]
    change ixs 32 _ _ _
    refine Rows'.ldN (q := rVec 32) (by decide) (ha.fr hs3.fr0) hx .i64 ?_
    rw [eq_api_ID, cnd_bool]
    refine ⟨fun h => ?_, fun h => ?_⟩
    · have h : k = x := by simpa using h
      refine hR _ _ ⟨⟨i, rfl, ?_⟩, hs3.fr0⟩
      rw [decide_eq_true (by omega), decide_eq_true (h ▸ List.mem_of_getElem? hx)]
    · have h : ¬ k = x := by simpa using h
      rw [wi64 (by omega) (by omega)]
      refine ⟨⟨i + 1, by simp, by omega, ?_, hs3⟩, by simp [RowKit.intOf]; omega⟩
      rw [List.take_add_one, hx, List.mem_append]
      rintro (hm | hm)
      · exact ht hm
      · exact h (by simpa using hm)
  · have hge : i = a.length := by simp at h; omega
    rw [hge, List.take_of_length_le (Nat.le_refl _)] at ht
    exact hR _ _ ⟨⟨-1, rfl, by rw [decide_eq_false (by omega), decide_eq_false ht]⟩, hs2.fr0⟩
theorem idsContains_spec {u : Value} {a : List (Vec 32)} (ha : Rows' (rVec 32) w.heap u a) (hl : a.length ≤ 1000000) (k : Vec 32) : cal P f_slices_Contains_api_ID_api_ID [u, kv k] w fun r w' => r = .bool (decide (k ∈ a)) ∧ Fr [] w w' := by
  refine s_slices_Contains_api_ID_api_ID fun R hR => ?_
  unfold c_slices_Contains_api_ID_api_ID
  refine bxQ (Sep.start w) fun g w1 hs => ?_
  simp only [L_api_ID hs.blk]
  refine cal_i (idsIndex_spec (ha.fr hs.fr0) hl k) ?_
  rintro _ w2 ⟨⟨i, rfl, hi⟩, hf⟩
  simp only [nilc_some, fad_mk, pik_true, pik_false, cnd_true, cnd_false, gif_same, gif_tf, gif_ft, gif_undef, bi_add, bi_sub, bi_mul, bi_eql, bi_neq, bi_lss, bi_leq, bi_gtr, bi_geq, notB_bool, cvi_int, lenS_mk, lenT_mk, ext0, ext1, ext2, nilP_mk, nilS_mk, fldv_agg, jn0_k, jn1_k, jn2_k, jn1_and, jn1_or, ex_some, Option.isNone_some, Option.isNone_none, Bool.false_bne, Bool.bne_true, Bool.bne_false, Bool.true_bne, Bool.not_true, Bool.not_false, Bool.and_true, Bool.true_and, Bool.and_false, Bool.false_and, Bool.or_true, Bool.true_or, Bool.or_false, Bool.false_or, cond_true, cond_false, List.getElem?_toArray, List.getElem?_cons_zero, List.getElem?_cons_succ, Nat.zero_add, Nat.add_zero, Nat.reduceAdd, forall_const]
  exact hR _ _ ⟨by rw [hi], (hs.old hf).fr0⟩
end
/-! ### What is to be added -/
structure GA where
  k : Nat
  d : List UInt8
  dv : Value
  raw : Bool
  b : Blk
  bv : Value
def GA.t (x : GA) : Int × Value × Bool × Vec 32 × Int × Value := ((x.k : Int), x.dv, x.raw, x.b.p, x.b.h, x.bv)
structure GRows (h : Heap) (v : Value) (l : List GA) : Prop where
  rw : Rows' Q_flurrylaw11_Grow h v (l.map GA.t)
  d : ∀ x ∈ l, RdB h x.dv x.d ∧ RdB h x.bv x.b.d
theorem GRows.fr {w w' : World} {v : Value} {l : List GA} (h : GRows w.heap v l) (hf : Fr [] w w') : GRows w'.heap v l := ⟨h.rw.fr hf, fun x hx => ⟨(h.d x hx).1.fr hf (off_nil _), (h.d x hx).2.fr hf (off_nil _)⟩⟩
theorem GRows.len {h : Heap} {v : Value} {l : List GA} (hr : GRows h v l) (K : Value → Prop) : lenS v K = K (.int .i64 l.length) := by
  have := hr.rw.len K
  rwa [List.length_map] at this
/-- What a number of Go may be. -/
def GOk (l : List GA) : Prop := ∀ x ∈ l, x.k < 256 ∧ x.b.h ≤ maxI ∧ x.d.length ≤ 9223372036854775807 ∧ x.b.d.length ≤ 9223372036854775807
theorem grows_arg {h : Heap} {s : Sl (Nat × Sl UInt8 × Bool × (Vec 32 × Int × Sl UInt8))} (hs : (rSl R_flurrylaw11_Grow).ok h s) : ∃ l : List GA, GRows h s.v l ∧ capOk s.v ∧ l.length ≤ 9223372036854775807 ∧ GOk l := by
  obtain ⟨h1, h2, h3, h4⟩ := hs
  refine ⟨s.l.map fun x => ⟨x.1, x.2.1.l, x.2.1.v, x.2.2.1, ab x.2.2.2, x.2.2.2.2.2.v⟩, ⟨?_, fun x hx => ?_⟩, h3, by simpa using h2, fun x hx => ?_⟩
  · have e : s.l.flatMap R_flurrylaw11_Grow.cells = ((s.l.map fun x => (⟨x.1, x.2.1.l, x.2.1.v, x.2.2.1, ab x.2.2.2, x.2.2.2.2.2.v⟩ : GA)).map GA.t).flatMap Q_flurrylaw11_Grow.cells := by
      generalize s.l = l
      induction l with
      | nil => rfl
      | cons a l ih => rw [List.flatMap_cons, ih]; rfl
    unfold Rows'
    rw [e] at h1
    simp only [List.length_map] at h1 ⊢
    exact h1
  · obtain ⟨y, hy, rfl⟩ := List.mem_map.1 hx
    obtain ⟨o1, o2, o3, o4⟩ := h4 y hy
    exact ⟨o2.1, ab_rd o4⟩
  · obtain ⟨y, hy, rfl⟩ := List.mem_map.1 hx
    obtain ⟨o1, o2, o3, o4⟩ := h4 y hy
    exact ⟨o1, ab_h o4, o2.2.1, ab_len o4⟩
/-- The block that is to be added. -/
def bG (ids : List (Vec 32)) (hs : List Int) (x : GA) : Blk := if x.raw then x.b else ⟨ids.getD (x.k % ids.length) (vz 32), min (hs.getD (x.k % ids.length) 0) 4611686018427387904 + 1, x.d⟩
def GA.v (x : GA) : Value := if x.raw then x.bv else x.dv
section
variable {w0 w : World} {As : List Asn}
theorem few11_spec {v : Value} {l : List GA} (hr : GRows w.heap v l) (hcap : capOk v) (h63 : l.length ≤ 9223372036854775807) (hok : GOk l) : cal P f_law11_few [v] w fun r w' => Fr [] w w' ∧ ∃ t, r = .bool t ∧ (t = true → l.length ≤ 40) := by
  refine s_law11_few fun R hR => ?_
  unfold c_law11_few
  have hq : ∃ a c, v = .slice a l.length c ∧ l.length ≤ c := by
    obtain ⟨a, c, hv, _⟩ := hr.rw
    rw [List.length_map] at hv
    exact ⟨a, c, hv, hcap _ _ _ hv⟩
  obtain ⟨a, c, hv, hc⟩ := hq
  simp only [hr.len, min_int]
  obtain ⟨n, hn⟩ : ∃ n : Nat, n = min l.length 80 := ⟨_, rfl⟩
  have e1 : min (l.length : Int) 80 = (n : Int) := by omega
  rw [e1]
  have hnl : n ≤ l.length := by omega
  have hrt : GRows w.heap (.slice a n c) (l.take n) := by
    refine ⟨?_, fun x hx => hr.d x (List.mem_of_mem_take hx)⟩
    have := hr.rw
    rw [hv] at this
    have h2 := Rows'.take this (k := n) (by simpa using hnl) c
    rwa [← List.map_take] at h2
  rw [hv, slc_to (by omega)]
  have hlt : (l.take n).length = n := by rw [List.length_take]; omega
  have h5 := hrt.len
  rw [hlt] at h5
  have h6 := hr.len
  rw [hv] at h6
  simp only [h5]
  refine ⟨fun y z => ∃ i : Nat, y = .int .i64 i ∧ i ≤ n ∧ Fr [] w z, fun y _ => (n - RowKit.intOf y).toNat, ⟨0, rfl, by omega, Fr.refl _ _⟩, ?_⟩
  rintro _ w1 ⟨i, rfl, hi, hf⟩ -
  simp only [nilc_some, fad_mk, pik_true, pik_false, cnd_true, cnd_false, gif_same, gif_tf, gif_ft, gif_undef, bi_add, bi_sub, bi_mul, bi_eql, bi_neq, bi_lss, bi_leq, bi_gtr, bi_geq, notB_bool, cvi_int, lenS_mk, lenT_mk, ext0, ext1, ext2, nilP_mk, nilS_mk, fldv_agg, jn0_k, jn1_k, jn2_k, jn1_and, jn1_or, ex_some, Option.isNone_some, Option.isNone_none, Bool.false_bne, Bool.bne_true, Bool.bne_false, Bool.true_bne, Bool.not_true, Bool.not_false, Bool.and_true, Bool.true_and, Bool.and_false, Bool.false_and, Bool.or_true, Bool.true_or, Bool.or_false, Bool.false_or, cond_true, cond_false, List.getElem?_toArray, List.getElem?_cons_zero, List.getElem?_cons_succ, Nat.zero_add, Nat.add_zero, Nat.reduceAdd, forall_const]
  rw [cnd_bool]
  refine ⟨fun h => ?_, fun h => ?_⟩
  · have hlt : i < n := by simp at h; omega
    obtain ⟨x, hx⟩ : ∃ x, (l.take n)[i]? = some x := ⟨_, List.getElem?_eq_getElem (by omega)⟩
    have hxm := List.mem_of_mem_take (List.mem_of_getElem? hx)
    have hxm' : ((l.take n).map GA.t)[i]? = some x.t := by rw [List.getElem?_map, hx]; rfl
    change ixs 37 _ _ _
    refine Rows'.ldN (q := Q_flurrylaw11_Grow) (by decide) (hrt.rw.fr hf) hxm' .i64 ?_
    refine alloc_s ((Sep.start w).old hf) (A_flurrylaw11_Grow w1) fun g w2 hs2 => ?_
    have hd := (hr.fr hs2.fr0).d x hxm
    refine St_flurrylaw11_Grow hs2 (one_flurrylaw11_Grow hd.1.one hd.2.one) fun w3 hs3 => ?_
    have hd3 := (hr.fr hs3.fr0).d x hxm
    have l1 : ∀ K, lenS (GA.t x).2.1 K = K (.int .i64 x.d.length) := hd3.1.len
    have l2 : ∀ K, lenS (GA.t x).2.2.2.2.2 K = K (.int .i64 x.b.d.length) := hd3.2.len
    simp only [L_flurrylaw11_Grow hs3.blk, L_flurrylaw11_Grow__K hs3.blk, L_flurrylaw11_Grow__Data hs3.blk, L_flurrylaw11_Grow__Raw hs3.blk, L_flurrylaw11_Grow__B hs3.blk, L_flurrylaw11_Grow__B_Parent hs3.blk, L_flurrylaw11_Grow__B_Height hs3.blk, L_flurrylaw11_Grow__B_Data hs3.blk, l1, l2, nilc_some, fad_mk, pik_true, pik_false, cnd_true, cnd_false, gif_same, gif_tf, gif_ft, gif_undef, bi_add, bi_sub, bi_mul, bi_eql, bi_neq, bi_lss, bi_leq, bi_gtr, bi_geq, notB_bool, cvi_int, lenS_mk, lenT_mk, ext0, ext1, ext2, nilP_mk, nilS_mk, fldv_agg, jn0_k, jn1_k, jn2_k, jn1_and, jn1_or, ex_some, Option.isNone_some, Option.isNone_none, Bool.false_bne, Bool.bne_true, Bool.bne_false, Bool.true_bne, Bool.not_true, Bool.not_false, Bool.and_true, Bool.true_and, Bool.and_false, Bool.false_and, Bool.or_true, Bool.true_or, Bool.or_false, Bool.false_or, cond_true, cond_false, List.getElem?_toArray, List.getElem?_cons_zero, List.getElem?_cons_succ, Nat.zero_add, Nat.add_zero, Nat.reduceAdd, forall_const]
    rw [cnd_bool]
    refine ⟨fun h => hR _ _ ⟨hs3.fr0, false, rfl, fun h => by cases h⟩, fun h => ?_⟩
    rw [wi64 (by omega) (by omega)]
    exact ⟨⟨i + 1, by simp, by omega, hs3.fr0⟩, by simp [RowKit.intOf]; omega⟩
  · exact hR _ _ ⟨hf, _, rfl, fun h => by simp at h; omega⟩
theorem block11_spec {q : Vec 32 × Int × Int} {x : GA} {iv hv : Value} {ids : List (Vec 32)} {hs : List Int} (hi : Rows' (rVec 32) w.heap iv ids) (hh : Rows' (rInt .i64) w.heap hv hs) (hl : hs.length = ids.length) (h0 : 0 < ids.length) (hn : ids.length ≤ 1000000)
    (hx : RdB w.heap x.dv x.d ∧ RdB w.heap x.bv x.b.d) (hp : ∀ y ∈ hs, 0 ≤ y) (hk : x.k < 256) : cal P f_law11_block [.agg (Rdr.cells Q_flurrylaw11_Start q).toArray, .agg (Rdr.cells Q_flurrylaw11_Grow x.t).toArray, iv, hv] w fun r w' => r = bq (bG ids hs x) x.v ∧ Fr [] w w' := by
  refine s_law11_block fun R hR => ?_
  unfold c_law11_block
  refine bxQ (Sep.start w) fun g4 w1 hs1 => ?_
  refine bxQ hs1 fun g5 w2 hs2 => ?_
  refine alloc_s hs2 (A_api_Block w2) fun g8 w3 hs3 => ?_
  have eraw : (GA.t x).2.2.1 = x.raw := rfl
  simp only [L_flurrylaw11_Grow (Sep.blk (Sep.p1 hs3)), L_flurrylaw11_Grow__K (Sep.blk (Sep.p1 hs3)), L_flurrylaw11_Grow__Data (Sep.blk (Sep.p1 hs3)), L_flurrylaw11_Grow__Raw (Sep.blk (Sep.p1 hs3)), L_flurrylaw11_Grow__B (Sep.blk (Sep.p1 hs3)), L_flurrylaw11_Grow__B_Parent (Sep.blk (Sep.p1 hs3)), L_flurrylaw11_Grow__B_Height (Sep.blk (Sep.p1 hs3)), L_flurrylaw11_Grow__B_Data (Sep.blk (Sep.p1 hs3)), nilc_some, fad_mk, pik_true, pik_false, cnd_true, cnd_false, gif_same, gif_tf, gif_ft, gif_undef, bi_add, bi_sub, bi_mul, bi_eql, bi_neq, bi_lss, bi_leq, bi_gtr, bi_geq, notB_bool, cvi_int, lenS_mk, lenT_mk, ext0, ext1, ext2, nilP_mk, nilS_mk, fldv_agg, jn0_k, jn1_k, jn2_k, jn1_and, jn1_or, ex_some, Option.isNone_some, Option.isNone_none, Bool.false_bne, Bool.bne_true, Bool.bne_false, Bool.true_bne, Bool.not_true, Bool.not_false, Bool.and_true, Bool.true_and, Bool.and_false, Bool.false_and, Bool.or_true, Bool.true_or, Bool.or_false, Bool.false_or, cond_true, cond_false, List.getElem?_toArray, List.getElem?_cons_zero, List.getElem?_cons_succ, Nat.zero_add, Nat.add_zero, Nat.reduceAdd, forall_const, eraw]
  rw [cnd_bool]
  refine ⟨fun h => ?_, fun h => ?_⟩
  · refine St_api_Block (b := (x.b.p, x.b.h, x.bv)) hs3 (one_api_Block hx.2.one) fun w4 hs4 => ?_
    simp only [L_api_Block hs4.blk, L_api_Block__Parent hs4.blk, L_api_Block__Height hs4.blk, L_api_Block__Data hs4.blk]
    exact hR _ _ ⟨by unfold bG GA.v; rw [if_pos h, if_pos h], hs4.fr0⟩
  · have ek : (GA.t x).1 = (x.k : Int) := rfl
    have hlen : ∀ K, lenS iv K = K (.int .i64 ids.length) := hi.len
    rw [ek, wi64 (by omega) (by omega), hlen, bi_rem _ _ _ _ (by omega), tmodn]
    have hlt := Nat.mod_lt x.k h0
    obtain ⟨a, ha⟩ : ∃ a, ids[x.k % ids.length]? = some a := ⟨_, List.getElem?_eq_getElem hlt⟩
    obtain ⟨y, hy⟩ : ∃ y, hs[x.k % ids.length]? = some y := ⟨_, List.getElem?_eq_getElem (by omega)⟩
    have hy0 := hp y (List.mem_of_getElem? hy)
    refine drH_S hs3 fun w4 hs4 _ => ?_
    change ixs 32 _ _ _
    refine rdS_rowV (q := rVec 32) (by decide) hs4 (fun u hu => hi.fr (Sep.fr0 hu)) ha .i64 ?_
    refine rdS_rowI hs4 (fun u hu => hh.fr (Sep.fr0 hu)) hy .i64 ?_
    refine ⟨.int .i64 (min y 4611686018427387904), fun u hu => by rw [min_int], ?_⟩
    simp only [nilc_some, fad_mk, pik_true, pik_false, cnd_true, cnd_false, gif_same, gif_tf, gif_ft, gif_undef, bi_add, bi_sub, bi_mul, bi_eql, bi_neq, bi_lss, bi_leq, bi_gtr, bi_geq, notB_bool, cvi_int, lenS_mk, lenT_mk, ext0, ext1, ext2, nilP_mk, nilS_mk, fldv_agg, jn0_k, jn1_k, jn2_k, jn1_and, jn1_or, ex_some, Option.isNone_some, Option.isNone_none, Bool.false_bne, Bool.bne_true, Bool.bne_false, Bool.true_bne, Bool.not_true, Bool.not_false, Bool.and_true, Bool.true_and, Bool.and_false, Bool.false_and, Bool.or_true, Bool.true_or, Bool.or_false, Bool.false_or, cond_true, cond_false, List.getElem?_toArray, List.getElem?_cons_zero, List.getElem?_cons_succ, Nat.zero_add, Nat.add_zero, Nat.reduceAdd, forall_const]
    rw [wi64 (by omega) (by omega)]
    refine rdS_ld (v := x.dv) (fun u hu K hk => (L_flurrylaw11_Grow__Data (Sep.blk (Sep.p1 hu)) K).mpr hk) ?_
    refine ⟨bq ⟨a, min y 4611686018427387904 + 1, x.d⟩ x.dv, fun u hu => by rw [B_api_Block_0_1_2 hx.1.one], ?_⟩
    refine efC_stN (St_api_Block (b := (a, min y 4611686018427387904 + 1, x.dv)) hs4 (one_api_Block hx.1.one) fun w5 hs5 => ?_)
    simp only [L_api_Block hs5.blk, L_api_Block__Parent hs5.blk, L_api_Block__Height hs5.blk, L_api_Block__Data hs5.blk]
    refine hR _ _ ⟨?_, hs5.fr0⟩
    unfold bG GA.v
    have h' : ¬ x.raw = true := by rw [h]; simp
    rw [if_neg h', if_neg h', List.getD_eq_getElem?_getD, ha, List.getD_eq_getElem?_getD, hy]
    rfl
end
end Go.Fx
set_option linter.unusedVariables false
set_option linter.unusedSimpArgs false
namespace Go.Fx
abbrev nms (N : List TN) : List (Vec 32) := N.map (·.1)
abbrev hts (N : List TN) : List Int := N.map (·.2.1.h)
/-- The names that were told, the root's first; their heights. -/
abbrev idsT (t : Tr) (N : List TN) : List (Vec 32) := t.root :: nms N
abbrev htsT (t : Tr) (N : List TN) : List Int := t.ht :: hts N
def growStep (t : Tr) (x : GA) (N N' : List TN) : Prop :=
  (addE t N (bG (idsT t N) (htsT t N) x) = 0 ∧ ∃ vd c, N' = N ++ [((bG (idsT t N) (htsT t N) x).id, bG (idsT t N) (htsT t N) x, vd, c)]) ∨ (addE t N (bG (idsT t N) (htsT t N) x) ≠ 0 ∧ N' = N)
inductive GrownTo (t : Tr) : List GA → List TN → Prop where
  | nil : GrownTo t [] []
  | snoc {l : List GA} {x : GA} {N N' : List TN} : GrownTo t l N → growStep t x N N' → GrownTo t (l ++ [x]) N'
theorem GrownTo.inv {t : Tr} {l : List GA} {x : GA} {N' : List TN} (h : GrownTo t (l ++ [x]) N') : ∃ N, GrownTo t l N ∧ growStep t x N N' := by
  generalize hm : l ++ [x] = m at h
  cases h with
  | nil => simp at hm
  | snoc h1 h2 =>
    obtain ⟨rfl, hx⟩ := List.append_inj' hm rfl
    simp only [List.cons.injEq, and_true] at hx
    subst hx
    exact ⟨_, h1, h2⟩
theorem bG_rd {h : Heap} {x : GA} {ids : List (Vec 32)} {hs : List Int} (hx : RdB h x.dv x.d ∧ RdB h x.bv x.b.d) : RdB h x.v (bG ids hs x).d := by
  unfold bG GA.v
  cases x.raw
  · exact hx.1
  · exact hx.2
theorem bG_h {x : GA} {ids : List (Vec 32)} {hs : List Int} (hx : x.b.h ≤ maxI) : (bG ids hs x).h ≤ maxI := by
  unfold bG
  cases x.raw
  · show min (hs.getD (x.k % ids.length) 0) 4611686018427387904 + 1 ≤ maxI
    unfold maxI
    omega
  · exact hx
section
variable {w0 w : World} {As : List Asn}
theorem hts_nonneg {t : Tr} {N : List TN} (hi : TI t N) : ∀ y ∈ htsT t N, 0 ≤ y := fun y hy => by
  rcases List.mem_cons.1 hy with rfl | hy
  · exact hi.ht
  · obtain ⟨x, hx, rfl⟩ := List.mem_map.1 hy
    have hm : x.1 ∈ nms N := List.mem_map_of_mem hx
    have hb : (blkOf x.1 N).isSome = true := by
      unfold blkOf nodeOf
      rw [Option.isSome_map, List.find?_isSome]
      exact ⟨x, hx, by simp⟩
    have hnd := hi.nd
    have hx2 : blkOf x.1 N = some x.2.1 := by
      clear hm hb
      unfold blkOf nodeOf
      induction N with
      | nil => cases hx
      | cons y N ih => 
        rw [List.map_cons, List.nodup_cons] at hnd
        rw [List.find?_cons]
        rcases List.mem_cons.1 hx with rfl | hx
        · simp
        · have : x.1 ≠ y.1 := fun he => hnd.1 (he ▸ List.mem_map_of_mem hx)
          simp only [this, decide_false]
          have ih' : ∀ (N : List TN), (N.map (·.1)).Nodup → x ∈ N → Option.map (fun (x : TN) => x.2.1) (N.find? fun z => decide (x.1 = z.1)) = some x.2.1 := fun N => by
            induction N with
            | nil => intro _ h; cases h
            | cons z N ih2 =>
              intro hnd hx
              rw [List.map_cons, List.nodup_cons] at hnd
              rw [List.find?_cons]
              rcases List.mem_cons.1 hx with rfl | hx
              · simp
              · have : x.1 ≠ z.1 := fun he => hnd.1 (he ▸ List.mem_map_of_mem hx)
                simp only [this, decide_false]
                exact ih2 hnd.2 hx
          exact ih' N hnd.2 hx
    have := hi.w.above _ _ hx2
    have := hi.ht
    omega
theorem two_lit {r : Vec 32} {h : Int} {K : Value → Value → World → Prop} (hs : Sep w0 w As) (hk : ∀ x y z, Sep w0 z (rows (rVec 32) x [r] :: rows (rInt .i64) y [h] :: As) → K x y z) :
    (efS (fun u => Sep w0 u As) (efP P (Instr.buildSlice T_sl_api_ID 1 #[(0, kv r)])) w fun a w => efS (fun u => Sep w0 u As) (efP P (Instr.buildSlice T_sl_int64 1 #[(0, .int .i64 h)])) w fun b w => K a b w) ∧
    ((efS (fun u => Sep w0 u As) (efP P (Instr.buildSlice T_sl_int64 1 #[(0, .int .i64 h)])) w fun b w => efS (fun u => Sep w0 u As) (efP P (Instr.buildSlice T_sl_api_ID 1 #[(0, kv r)])) w fun a w => K a b w) ∧ True) := by
  refine ⟨?_, ?_, trivial⟩
  · refine efS_i (rows_lit hs S_sl_api_ID (l := [r]) (V := fun a => .agg (Rdr.cells (rVec 32) a).toArray) (fun a => rfl) rfl rfl (by decide) (by decide) fun g7 w7 hs7 => ⟨hs7.tail, ?_⟩)
    refine efS_i (rows_lit (q := rInt .i64) hs7 S_sl_int64 (l := [h]) (V := fun a => .int .i64 a) (fun a => rfl) rfl rfl (by decide) (by decide) fun g8 w8 hs8 => ⟨hs8.tail.tail, hk _ _ _ hs8.p1⟩)
  · refine efS_i (rows_lit (q := rInt .i64) hs S_sl_int64 (l := [h]) (V := fun a => .int .i64 a) (fun a => rfl) rfl rfl (by decide) (by decide) fun g8 w8 hs8 => ⟨hs8.tail, ?_⟩)
    refine efS_i (rows_lit hs8 S_sl_api_ID (l := [r]) (V := fun a => .agg (Rdr.cells (rVec 32) a).toArray) (fun a => rfl) rfl rfl (by decide) (by decide) fun g7 w7 hs7 => ⟨hs7.tail.tail, hk _ _ _ hs7⟩)
theorem bldI {r : Vec 32} {K : Value → World → Prop} {Bs : List Asn} (hs : Sep w0 w Bs) (hk : ∀ a z, Sep w0 z (rows (rVec 32) a [r] :: Bs) → K a z) : efP P (Instr.buildSlice T_sl_api_ID 1 #[(0, kv r)]) w K :=
  rows_lit hs S_sl_api_ID (l := [r]) (V := fun a => .agg (Rdr.cells (rVec 32) a).toArray) (fun a => rfl) rfl rfl (by decide) (by decide) fun g7 w7 hs7 => hk _ _ hs7
theorem bldH {h : Int} {K : Value → World → Prop} {Bs : List Asn} (hs : Sep w0 w Bs) (hk : ∀ a z, Sep w0 z (rows (rInt .i64) a [h] :: Bs) → K a z) : efP P (Instr.buildSlice T_sl_int64 1 #[(0, .int .i64 h)]) w K :=
  rows_lit (q := rInt .i64) hs S_sl_int64 (l := [h]) (V := fun a => .int .i64 a) (fun a => rfl) rfl rfl (by decide) (by decide) fun g7 w7 hs7 => hk _ _ hs7
theorem appI {r : Vec 32} {x a : Value} {ids : List (Vec 32)} {K : Value → World → Prop} {Bs : List Asn} (hs : Sep w0 w (rows (rVec 32) x ids :: Bs)) (ha : Rows' (rVec 32) w.heap a [r]) (hl : ids.length ≤ 1000000)
    (hk : ∀ x' z, Sep w0 z (rows (rVec 32) x' (ids ++ [r]) :: Bs) → K x' z) : efP P (Builtin.append_ #[T_sl_api_ID, T_sl_api_ID] T_sl_api_ID #[x, a]) w K :=
  rows_app S_sl_api_ID U_sl_api_ID (by simp) hs ha (by simp only [List.flatMap_cons, List.flatMap_nil, List.append_nil]; exact oneVec) (by simp; omega) (by simp; omega) fun v8 w8 hs8 => hk _ _ hs8
theorem appH {h : Int} {y b : Value} {hs' : List Int} {K : Value → World → Prop} {Bs : List Asn} (hs : Sep w0 w (rows (rInt .i64) y hs' :: Bs)) (ha : Rows' (rInt .i64) w.heap b [h]) (hl : hs'.length ≤ 1000000)
    (hk : ∀ y' z, Sep w0 z (rows (rInt .i64) y' (hs' ++ [h]) :: Bs) → K y' z) : efP P (Builtin.append_ #[T_sl_int64, T_sl_int64] T_sl_int64 #[y, b]) w K :=
  rows_app (q := rInt .i64) S_sl_int64 U_sl_int64 (by simp) hs ha (by simp only [List.flatMap_cons, List.flatMap_nil, List.append_nil]; exact oneI) (by simp; omega) (by simp; omega) fun v8 w8 hs8 => hk _ _ hs8
theorem three_app {r : Vec 32} {h : Int} {x y : Value} {ids : List (Vec 32)} {hs' : List Int} {K : Value → Value → World → Prop} (hs : Sep w0 w (rows (rVec 32) x ids :: rows (rInt .i64) y hs' :: As)) (hl1 : ids.length ≤ 1000000) (hl2 : hs'.length ≤ 1000000)
    (hk : ∀ x' y' z, Sep w0 z (rows (rVec 32) x' (ids ++ [r]) :: rows (rInt .i64) y' (hs' ++ [h]) :: As) → K x' y' z) :
    (efS (fun u => Sep w0 u As) (efP P (Instr.buildSlice T_sl_api_ID 1 #[(0, kv r)])) w fun a w =>
      (efS (fun u => Sep w0 u As) (efP P (Builtin.append_ #[T_sl_api_ID, T_sl_api_ID] T_sl_api_ID #[x, a])) w fun x' w =>
        efS (fun u => Sep w0 u As) (efP P (Instr.buildSlice T_sl_int64 1 #[(0, .int .i64 h)])) w fun b w =>
        efC (efP P (Builtin.append_ #[T_sl_int64, T_sl_int64] T_sl_int64 #[y, b])) w fun S y' w => K x' y' w) ∧
      ((efS (fun u => Sep w0 u As) (efP P (Instr.buildSlice T_sl_int64 1 #[(0, .int .i64 h)])) w fun b w =>
        efS (fun u => Sep w0 u As) (efP P (Builtin.append_ #[T_sl_api_ID, T_sl_api_ID] T_sl_api_ID #[x, a])) w fun x' w =>
        efC (efP P (Builtin.append_ #[T_sl_int64, T_sl_int64] T_sl_int64 #[y, b])) w fun S y' w => K x' y' w) ∧ True)) ∧
    ((efS (fun u => Sep w0 u As) (efP P (Instr.buildSlice T_sl_int64 1 #[(0, .int .i64 h)])) w fun b w =>
      efS (fun u => Sep w0 u As) (efP P (Instr.buildSlice T_sl_api_ID 1 #[(0, kv r)])) w fun a w =>
      efS (fun u => Sep w0 u As) (efP P (Builtin.append_ #[T_sl_api_ID, T_sl_api_ID] T_sl_api_ID #[x, a])) w fun x' w =>
      efC (efP P (Builtin.append_ #[T_sl_int64, T_sl_int64] T_sl_int64 #[y, b])) w fun S y' w => K x' y' w) ∧ True) := by
  refine ⟨?_, ?_, trivial⟩
  · refine efS_i (bldI hs fun a z hz => ⟨hz.tail.tail.tail, ?_, ?_, trivial⟩)
    · refine efS_i (appI hz.p1 (Sep.rows hz) hl1 fun x' z' hz' => ⟨hz'.tail.tail.tail, ?_⟩)
      refine efS_i (bldH hz' fun b z2 hz2 => ⟨hz2.tail.tail.tail.tail, ?_⟩)
      refine efC_efP (appH (Sep.pick hz2 [3, 0, 1, 2] 4) (Sep.rows hz2) hl2 fun y' z3 hz3 => hk _ _ _ ?_)
      exact Sep.pick hz3 [2, 0] 4
    · refine efS_i (bldH hz fun b z2 hz2 => ⟨hz2.tail.tail.tail.tail, ?_⟩)
      refine efS_i (appI hz2.p2 (Sep.rows hz2.p1) hl1 fun x' z' hz' => ⟨hz'.tail.tail.tail.tail, ?_⟩)
      refine efC_efP (appH (Sep.pick hz' [3, 0, 1, 2] 4) (Sep.rows hz'.p1) hl2 fun y' z3 hz3 => hk _ _ _ ?_)
      exact Sep.pick hz3 [1, 0] 4
  · refine efS_i (bldH hs fun b z hz => ⟨hz.tail.tail.tail, ?_⟩)
    refine efS_i (bldI hz fun a z2 hz2 => ⟨hz2.tail.tail.tail.tail, ?_⟩)
    refine efS_i (appI hz2.p2 (Sep.rows hz2) hl1 fun x' z' hz' => ⟨hz'.tail.tail.tail.tail, ?_⟩)
    refine efC_efP (appH (Sep.pick hz' [3, 0, 1, 2] 4) (Sep.rows hz'.p2) hl2 fun y' z3 hz3 => hk _ _ _ ?_)
    exact Sep.pick hz3 [1, 0] 4
/-- What is known of a tree to which l was added, and of what else the call made. -/
def GState (w0 w : World) (t : Tr) (l : List GA) (g gm : Nat) (x y : Value) (Xs : List Asn) : Prop :=
  ∃ N ov c Ds, TI t N ∧ GrownTo t l N ∧ N.length ≤ l.length ∧ Dat N Ds ∧ Sep w0 w (trH g gm ov t N c ++ (rows (rVec 32) x (idsT t N) :: rows (rInt .i64) y (htsT t N) :: (Xs ++ Ds)))
theorem grown_spec {q : Vec 32 × Int × Int} {v : Value} {l : List GA} (hC : Cub w) (hr : GRows w.heap v l) (hok : GOk l) (hl : l.length ≤ 1000) :
    cal P f_law11_grown [.agg (Rdr.cells Q_flurrylaw11_Start q).toArray, v] w fun r w' => (r = .tuple #[.pointer none, .slice none 0 0] ∧ ¬ (0 ≤ q.2.1 ∧ 1 ≤ q.2.2 ∧ q.2.2 ≤ 256) ∧ Fr [] w w') ∨
      ((0 ≤ q.2.1 ∧ 1 ≤ q.2.2 ∧ q.2.2 ≤ 256) ∧ ∃ g gm x y, r = .tuple #[.pointer (some ⟨g, 0, none⟩), x] ∧ GState w w' ⟨q.1, q.2.1, q.2.2⟩ l g gm x y []) := by
  refine s_law11_grown fun R hR => ?_
  unfold c_law11_grown
  refine bxQ (Sep.start w) fun g2 w1 hs1 => ?_
  simp only [L_flurrylaw11_Start hs1.blk, L_flurrylaw11_Start__Root hs1.blk, L_flurrylaw11_Start__Height hs1.blk, L_flurrylaw11_Start__Most hs1.blk, nilc_some, fad_mk, pik_true, pik_false, cnd_true, cnd_false, gif_same, gif_tf, gif_ft, gif_undef, bi_add, bi_sub, bi_mul, bi_eql, bi_neq, bi_lss, bi_leq, bi_gtr, bi_geq, notB_bool, cvi_int, lenS_mk, lenT_mk, ext0, ext1, ext2, nilP_mk, nilS_mk, fldv_agg, jn0_k, jn1_k, jn2_k, jn1_and, jn1_or, ex_some, Option.isNone_some, Option.isNone_none, Bool.false_bne, Bool.bne_true, Bool.bne_false, Bool.true_bne, Bool.not_true, Bool.not_false, Bool.and_true, Bool.true_and, Bool.and_false, Bool.false_and, Bool.or_true, Bool.true_or, Bool.or_false, Bool.false_or, cond_true, cond_false, List.getElem?_toArray, List.getElem?_cons_zero, List.getElem?_cons_succ, Nat.zero_add, Nat.add_zero, Nat.reduceAdd, forall_const]
  refine cal_i (tNew_spec q.1 q.2.1 q.2.2) ?_
  rintro _ w2 (⟨hno, rfl, hf2⟩ | ⟨hq, g, gm, rfl, hs2⟩)
  · simp only [nilc_some, fad_mk, pik_true, pik_false, cnd_true, cnd_false, gif_same, gif_tf, gif_ft, gif_undef, bi_add, bi_sub, bi_mul, bi_eql, bi_neq, bi_lss, bi_leq, bi_gtr, bi_geq, notB_bool, cvi_int, lenS_mk, lenT_mk, ext0, ext1, ext2, nilP_mk, nilS_mk, fldv_agg, jn0_k, jn1_k, jn2_k, jn1_and, jn1_or, ex_some, Option.isNone_some, Option.isNone_none, Bool.false_bne, Bool.bne_true, Bool.bne_false, Bool.true_bne, Bool.not_true, Bool.not_false, Bool.and_true, Bool.true_and, Bool.and_false, Bool.false_and, Bool.or_true, Bool.true_or, Bool.or_false, Bool.false_or, cond_true, cond_false, List.getElem?_toArray, List.getElem?_cons_zero, List.getElem?_cons_succ, Nat.zero_add, Nat.add_zero, Nat.reduceAdd, forall_const, show ((1 : Int) != 0) = true from rfl]
    exact hR _ _ (.inl ⟨rfl, hno, (hs1.old hf2).fr0⟩)
  replace hs2 := hs1.join hs2
  obtain ⟨t, ht⟩ : ∃ t : Tr, t = ⟨q.1, q.2.1, q.2.2⟩ := ⟨_, rfl⟩
  rw [← ht] at hs2 hR
  have e1 : q.1 = t.root := by rw [ht]
  have e2 : q.2.1 = t.ht := by rw [ht]
  have ht0 : 0 ≤ t.ht := by rw [← e2]; exact hq.1
  simp only [nilc_some, fad_mk, pik_true, pik_false, cnd_true, cnd_false, gif_same, gif_tf, gif_ft, gif_undef, bi_add, bi_sub, bi_mul, bi_eql, bi_neq, bi_lss, bi_leq, bi_gtr, bi_geq, notB_bool, cvi_int, lenS_mk, lenT_mk, ext0, ext1, ext2, nilP_mk, nilS_mk, fldv_agg, jn0_k, jn1_k, jn2_k, jn1_and, jn1_or, ex_some, Option.isNone_some, Option.isNone_none, Bool.false_bne, Bool.bne_true, Bool.bne_false, Bool.true_bne, Bool.not_true, Bool.not_false, Bool.and_true, Bool.true_and, Bool.and_false, Bool.false_and, Bool.or_true, Bool.true_or, Bool.or_false, Bool.false_or, cond_true, cond_false, List.getElem?_toArray, List.getElem?_cons_zero, List.getElem?_cons_succ, Nat.zero_add, Nat.add_zero, Nat.reduceAdd, forall_const, show ((0 : Int) != 0) = false from rfl, Option.isNone_some]
  replace hs2 : Sep w w2 (trH g gm (.slice none 0 0) t [] 0 ++ [blk g2 (Rdr.cells Q_flurrylaw11_Start q).toArray T_flurrylaw11_Start]) := hs2
  refine drH_S hs2 fun w3 hs3 _ => ?_
  refine ⟨fun x y z => GState w z t [] g gm x y [blk g2 (Rdr.cells Q_flurrylaw11_Start q).toArray T_flurrylaw11_Start], ?_, ?_⟩
  · refine ⟨kv t.root, fun u hu => by rw [← e1]; exact (L_flurrylaw11_Start__Root (Sep.blk (Sep.p3 hu)) _).mpr rfl, ?_⟩
    refine rdS_ld (v := .int .i64 t.ht) (fun u hu K hk => by rw [← e2] at hk; exact (L_flurrylaw11_Start__Height (Sep.blk (Sep.p3 hu)) K).mpr hk) ?_
    refine two_lit hs3 fun x y z hz => ?_
    exact ⟨[], .slice none 0 0, 0, [], TI.nil ht0, .nil, by simp, Dat.nil _, Sep.pick hz [2, 3, 4, 0, 1, 5] 6⟩
  rintro x0 y0 w4 hg0 _
  clear hs3 hs2
  simp only [hr.len]
  refine ⟨fun x y z w' => ∃ i : Nat, z = .int .i64 i ∧ i ≤ l.length ∧ GState w w' t (l.take i) g gm x y [blk g2 (Rdr.cells Q_flurrylaw11_Start q).toArray T_flurrylaw11_Start], fun _ _ z _ => (l.length - RowKit.intOf z).toNat, ⟨0, rfl, by omega, by simpa using hg0⟩, ?_⟩
  rintro x y _ w5 ⟨i, rfl, hi, N, ov, c, Ds, hTI, hG, hN, hD, hs5⟩ -
  rw [List.length_take] at hN
  simp only [nilc_some, fad_mk, pik_true, pik_false, cnd_true, cnd_false, gif_same, gif_tf, gif_ft, gif_undef, bi_add, bi_sub, bi_mul, bi_eql, bi_neq, bi_lss, bi_leq, bi_gtr, bi_geq, notB_bool, cvi_int, lenS_mk, lenT_mk, ext0, ext1, ext2, nilP_mk, nilS_mk, fldv_agg, jn0_k, jn1_k, jn2_k, jn1_and, jn1_or, ex_some, Option.isNone_some, Option.isNone_none, Bool.false_bne, Bool.bne_true, Bool.bne_false, Bool.true_bne, Bool.not_true, Bool.not_false, Bool.and_true, Bool.true_and, Bool.and_false, Bool.false_and, Bool.or_true, Bool.true_or, Bool.or_false, Bool.false_or, cond_true, cond_false, List.getElem?_toArray, List.getElem?_cons_zero, List.getElem?_cons_succ, Nat.zero_add, Nat.add_zero, Nat.reduceAdd, forall_const]
  rw [cnd_bool]
  refine ⟨fun h => ?_, fun h => ?_⟩
  case refine_2 =>
    have hge : i = l.length := by simp at h; omega
    rw [hge, List.take_of_length_le (Nat.le_refl _)] at hG
    exact hR _ _ (.inr ⟨hq, g, gm, x, y, rfl, N, ov, c, _, hTI, hG, by omega, hD.sub (Bs := blk g2 (Rdr.cells Q_flurrylaw11_Start q).toArray T_flurrylaw11_Start :: Ds) (fun A hA => List.mem_cons_of_mem _ hA), hs5⟩)
  have hlt : i < l.length := by simp at h; omega
  obtain ⟨a, ha⟩ : ∃ a, l[i]? = some a := ⟨_, List.getElem?_eq_getElem hlt⟩
  have ham := List.mem_of_getElem? ha
  have hak := hok a ham
  have ha' : (l.map GA.t)[i]? = some a.t := by rw [List.getElem?_map, ha]; rfl
  have htk : l.take (i + 1) = l.take i ++ [a] := by rw [List.take_add_one, ha]; rfl
  refine ⟨fun x y w' => GState w w' t (l.take (i + 1)) g gm x y [blk g2 (Rdr.cells Q_flurrylaw11_Start q).toArray T_flurrylaw11_Start], ?_, ?_⟩
  case refine_2 =>
    rintro x' y' w6 hg6 _
    rw [wi64 (by omega) (by omega)]
    exact ⟨⟨i + 1, by simp, by omega, hg6⟩, by simp [RowKit.intOf]; omega⟩
  change ixs 37 _ _ _
  refine Rows'.ldN (q := Q_flurrylaw11_Grow) (by decide) (hr.rw.fr hs5.fr0) ha' .i64 ?_
  refine alloc_s hs5 (A_flurrylaw11_Grow w5) fun g11 w6 hs6 => ?_
  have hd6 := (hr.fr hs6.fr0).d a ham
  refine St_flurrylaw11_Grow hs6 (one_flurrylaw11_Grow hd6.1.one hd6.2.one) fun w7 hs7 => ?_
  have hd7 := (hr.fr hs7.fr0).d a ham
  have hb2 := Sep.blk (Sep.pick hs7 [6] 7)
  simp only [L_flurrylaw11_Start hb2, L_flurrylaw11_Start__Root hb2, L_flurrylaw11_Start__Height hb2, L_flurrylaw11_Start__Most hb2, L_flurrylaw11_Grow (Sep.blk hs7), L_flurrylaw11_Grow__K (Sep.blk hs7), L_flurrylaw11_Grow__Data (Sep.blk hs7), L_flurrylaw11_Grow__Raw (Sep.blk hs7), L_flurrylaw11_Grow__B (Sep.blk hs7), L_flurrylaw11_Grow__B_Parent (Sep.blk hs7), L_flurrylaw11_Grow__B_Height (Sep.blk hs7), L_flurrylaw11_Grow__B_Data (Sep.blk hs7)]
  obtain ⟨b, hb⟩ : ∃ b, b = bG (idsT t N) (htsT t N) a := ⟨_, rfl⟩
  refine cal_i (block11_spec (ids := idsT t N) (hs := htsT t N) (Sep.rows (Sep.p4 hs7)) (Sep.rows (Sep.p5 hs7)) (by simp) (by simp) (by simp; omega) hd7 (hts_nonneg hTI) hak.1) ?_
  rintro _ w8 ⟨rfl, hf8⟩
  have hs8 := hs7.old hf8
  rw [← hb]
  have hbd : RdB w8.heap a.v b.d := by
    rw [hb]
    exact bG_rd ((hr.fr hs8.fr0).d a ham)
  have hbh : b.h ≤ maxI := by rw [hb]; exact bG_h hak.2.1
  refine alloc_s hs8 (A_api_Block w8) fun g12 w9 hs9 => ?_
  refine St_api_Block hs9 (one_api_Block hbd.one) fun w10 hs10 => ?_
  simp only [L_api_Block (Sep.blk hs10), L_api_Block__Parent (Sep.blk hs10), L_api_Block__Height (Sep.blk hs10), L_api_Block__Data (Sep.blk hs10)]
  have hbd10 : RdB w10.heap a.v b.d := by
    rw [hb]
    exact bG_rd ((hr.fr hs10.fr0).d a ham)
  refine cal_i (Add_spec (Sep.pick hs10 [2, 3, 4, 0, 1, 5, 6, 7] 8) (hD.sub (Bs := _ :: _ :: _ :: _ :: _ :: Ds) fun A hA => by simp [hA]) hTI.w (hC.fr hs10.fr0) hbd10 hbh (by omega)) ?_
  rintro _ w11 (⟨he, rfl, hs11⟩ | ⟨he, rfl, ov', vd, hs11⟩)
  · have he' : (addE t N b == 0) = false := by simpa using he
    simp only [nilc_some, fad_mk, pik_true, pik_false, cnd_true, cnd_false, gif_same, gif_tf, gif_ft, gif_undef, bi_add, bi_sub, bi_mul, bi_eql, bi_neq, bi_lss, bi_leq, bi_gtr, bi_geq, notB_bool, cvi_int, lenS_mk, lenT_mk, ext0, ext1, ext2, nilP_mk, nilS_mk, fldv_agg, jn0_k, jn1_k, jn2_k, jn1_and, jn1_or, ex_some, Option.isNone_some, Option.isNone_none, Bool.false_bne, Bool.bne_true, Bool.bne_false, Bool.true_bne, Bool.not_true, Bool.not_false, Bool.and_true, Bool.true_and, Bool.and_false, Bool.false_and, Bool.or_true, Bool.true_or, Bool.or_false, Bool.false_or, cond_true, cond_false, List.getElem?_toArray, List.getElem?_cons_zero, List.getElem?_cons_succ, Nat.zero_add, Nat.add_zero, Nat.reduceAdd, forall_const, he']
    refine alloc_s hs11 (A_api_ID w11) fun g13 w12 hs12 => ?_
    refine St_api_ID hs12 fun w13 hs13 => ?_
    refine ⟨N, ov, c, _, hTI, ?_, by rw [htk]; simp; omega, hD, Sep.pick hs13 [1, 2, 3, 6, 7, 8] 9⟩
    rw [htk]
    exact .snoc hG (.inr ⟨by rw [← hb]; exact he, rfl⟩)
  · simp only [nilc_some, fad_mk, pik_true, pik_false, cnd_true, cnd_false, gif_same, gif_tf, gif_ft, gif_undef, bi_add, bi_sub, bi_mul, bi_eql, bi_neq, bi_lss, bi_leq, bi_gtr, bi_geq, notB_bool, cvi_int, lenS_mk, lenT_mk, ext0, ext1, ext2, nilP_mk, nilS_mk, fldv_agg, jn0_k, jn1_k, jn2_k, jn1_and, jn1_or, ex_some, Option.isNone_some, Option.isNone_none, Bool.false_bne, Bool.bne_true, Bool.bne_false, Bool.true_bne, Bool.not_true, Bool.not_false, Bool.and_true, Bool.true_and, Bool.and_false, Bool.false_and, Bool.or_true, Bool.true_or, Bool.or_false, Bool.false_or, cond_true, cond_false, List.getElem?_toArray, List.getElem?_cons_zero, List.getElem?_cons_succ, Nat.zero_add, Nat.add_zero, Nat.reduceAdd, forall_const, show ((0 : Int) == 0) = true from rfl]
    refine alloc_s hs11 (A_api_ID w11) fun g13 w12 hs12 => ?_
    refine St_api_ID hs12 fun w13 hs13 => ?_
    have hs14 := Sep.pick hs13 [7, 8, 0, 5, 1, 2, 3, 9, 4] 10
    refine ⟨fun u => Sep w u _, (hs14.drew _).tail.tail, ?_⟩
    refine ⟨fun x y w' => GState w w' t (l.take (i + 1)) g gm x y [blk g2 (Rdr.cells Q_flurrylaw11_Start q).toArray T_flurrylaw11_Start], ?_, fun _ _ _ h _ => h⟩
    refine ⟨kv b.id, fun u hu => (L_api_ID (Sep.blk hu) _).mpr rfl, ?_⟩
    refine rdS_ld (v := .int .i64 b.h) (fun u hu K hk => (L_api_Block__Height (Sep.blk (Sep.p1 hu)) K).mpr hk) ?_
    refine three_app (hs14.drew _) (by simp; omega) (by simp; omega) fun x' y' z hz => ?_
    refine ⟨N ++ [(b.id, b, vd, c)], ov', c + 1, ownB vd b.d :: Ds, hTI.add he hbh, ?_, ?_, hD.add, ?_⟩
    · rw [htk]
      refine .snoc hG (.inl ⟨by rw [← hb]; exact he, vd, c, by rw [← hb]⟩)
    · rw [htk]; simp; omega
    · have e3 : idsT t (N ++ [(b.id, b, vd, c)]) = idsT t N ++ [b.id] := by simp [idsT, nms]
      have e4 : htsT t (N ++ [(b.id, b, vd, c)]) = htsT t N ++ [b.h] := by simp [htsT, hts]
      rw [e3, e4]
      exact Sep.pick hz [4, 5, 6, 0, 1, 7, 8] 9
end
end Go.Fx
set_option linter.unusedVariables false
set_option linter.unusedSimpArgs false
namespace Go.Fx
/-- A tree to which blocks were added, and whose root was moved; no block is higher than m above the root. -/
structure TM (t : Tr) (N : List TN) (m : Nat) : Prop where
  w : TrW t N
  nd : (N.map (·.1)).Nodup
  hb : ∀ k, has t N k = true → hgt t N k ≤ m
  hi : ∀ x ∈ N, x.2.1.h ≤ maxI
  ht : 0 ≤ t.ht
section
variable {t : Tr} {N : List TN} {m : Nat}
theorem TI.tm (h : TI t N) : TM t N N.length := ⟨h.w, h.nd, h.hb, h.hi, h.ht⟩
theorem TM.mono {m' : Nat} (h : TM t N m) (hm : m ≤ m') : TM t N m' := ⟨h.w, h.nd, fun k hk => Nat.le_trans (h.hb k hk) hm, h.hi, h.ht⟩
theorem TM.nil (h : 0 ≤ t.ht) : TM t [] m := (TI.nil h).tm.mono (Nat.zero_le _)
theorem TM.add {b : Blk} {vd : Value} {c : Nat} (hi : TM t N m) (h : addE t N b = 0) (hm : b.h ≤ maxI) : TM t (N ++ [(b.id, b, vd, c)]) (m + 1) := by
  obtain ⟨h1, h2, h3, h4, h5, h6⟩ := addE_ok h
  have hnm : b.id ∉ N.map (·.1) := fun hm => by rw [mem_has (.inr hm)] at h2; cases h2
  have hnr : b.id ≠ t.root := fun he => by rw [mem_has (.inl he)] at h2; cases h2
  refine ⟨hi.w.add h, ?_, fun k hk => ?_, fun x hx => ?_, hi.ht⟩
  · rw [List.map_append, List.nodup_append]
    refine ⟨hi.nd, by simp, fun x hx y hy => ?_⟩
    simp only [List.map_cons, List.map_nil, List.mem_singleton] at hy
    subst hy
    intro he
    exact hnm (he ▸ hx)
  · by_cases hold : has t N k = true
    · have h7 := has_old (x := (b.id, b, vd, c)) hold
      have h8 := hi.hb k hold
      unfold hgt at h8 ⊢
      rw [h7.2]
      omega
    · have hk' : k = b.id := by
        rcases has_mem hk with rfl | hm'
        · exact absurd (mem_has (.inl rfl)) hold
        · rw [List.map_append, List.mem_append] at hm'
          rcases hm' with hm' | hm'
          · exact absurd (mem_has (.inr hm')) hold
          · simpa using hm'
      subst hk'
      have h8 := hi.hb _ h3
      have hl := lev_hgt hi.w h3
      have hb : blkOf b.id (N ++ [(b.id, b, vd, c)]) = some b := by
        rw [blkOf_snoc]
        have : blkOf b.id N = none := by
          unfold has at h2
          simp only [Bool.or_eq_false_iff] at h2
          simpa using h2.2
        rw [this]
        simp
      have : levH t (N ++ [(b.id, b, vd, c)]) b.id = b.h := by
        unfold levH
        rw [if_neg hnr, hb]
      unfold hgt
      rw [this, h5, hl]
      omega
  · rcases List.mem_append.1 hx with hx | hx
    · exact hi.hi x hx
    · obtain rfl : x = (b.id, b, vd, c) := by simpa using hx
      exact hm
theorem nodeOf_filter (p : Vec 32 → Bool) (k : Vec 32) : ∀ N : List TN, nodeOf k (N.filter fun x => p x.1) = if p k = true then nodeOf k N else none
  | [] => by simp [nodeOf]
  | x :: N => by
    have ih := nodeOf_filter p k N
    unfold nodeOf at ih ⊢
    by_cases hk : k = x.1
    · subst hk
      by_cases hp : p x.1 = true
      · rw [List.filter_cons_of_pos (p := fun x : TN => p x.1) hp, if_pos hp]
        simp
      · rw [List.filter_cons_of_neg (p := fun x : TN => p x.1) hp, ih, if_neg hp, if_neg hp]
    · rw [List.find?_cons_of_neg (by simpa using hk), ← ih]
      by_cases hp : p x.1 = true
      · rw [List.filter_cons_of_pos (p := fun x : TN => p x.1) hp, List.find?_cons_of_neg (by simpa using hk)]
      · rw [List.filter_cons_of_neg (p := fun x : TN => p x.1) hp]
theorem blkOf_filter (p : Vec 32 → Bool) (k : Vec 32) (N : List TN) : blkOf k (N.filter fun x => p x.1) = if p k = true then blkOf k N else none := by
  unfold blkOf
  rw [nodeOf_filter]
  split <;> rfl
theorem nb_filter (p : Vec 32 → Bool) (k : Vec 32) (N : List TN) (h : p k = true) : nb k (N.filter fun x => p x.1) = nb k N := by
  unfold nb
  rw [nodeOf_filter, if_pos h]
theorem mvN_eq (t : Tr) (N : List TN) (k : Vec 32) : mvN t N k = N.filter fun x => (fun y => !decide (y = k) && under t N y k) x.1 := rfl
theorem mv_blk {k x : Vec 32} : blkOf x (mvN t N k) = if x ≠ k ∧ under t N x k = true then blkOf x N else none := by
  rw [mvN_eq, blkOf_filter (fun y => !decide (y = k) && under t N y k)]
  by_cases h1 : x = k <;> by_cases h2 : under t N x k = true <;> simp [h1, h2]
theorem blk_has {k : Vec 32} {b : Blk} (h : blkOf k N = some b) : has t N k = true := by unfold has; rw [h]; simp
theorem blk_nroot (hw : TrW t N) {k : Vec 32} {b : Blk} (h : blkOf k N = some b) : k ≠ t.root := fun he => by rw [he, hw.noroot] at h; cases h
theorem mvOk_spec {k : Vec 32} (h : mvOk t N k = true) : blkOf k N = some (nb k N).1 ∧ upOf k N = t.root := by
  unfold mvOk at h
  simp only [Bool.and_eq_true, decide_eq_true_eq] at h
  refine ⟨?_, h.2⟩
  rcases nb_blk (k := k) (N := N) with ⟨h1, _⟩ | h1
  · rw [h1] at h; cases h.1
  · exact h1
/-- Who is under the child: its parent is, or is the child. -/
theorem mv_up (hw : TrW t N) {k x : Vec 32} (hk : mvOk t N k = true) (hx : has t N x = true) (hne : x ≠ k) (hu : under t N x k = true) : x ≠ t.root ∧ has t N (upOf x N) = true ∧ (upOf x N = k ∨ under t N (upOf x N) k = true) := by
  obtain ⟨hkb, hkp⟩ := mvOk_spec hk
  have hkh : has t N k = true := blk_has hkb
  have hkr := blk_nroot hw hkb
  rw [under_path hx hkh] at hu
  simp only [Bool.or_eq_true, decide_eq_true_eq] at hu
  have hu : k ∈ pathOf t N x := hu.resolve_left hkr
  have hxr : x ≠ t.root := fun he => by rw [he, path_root] at hu; cases hu
  have h2 := (up_has hw hx hxr).1
  refine ⟨hxr, h2, ?_⟩
  rw [path_step hw hx hxr, List.mem_append] at hu
  rcases hu with hu | hu
  · right
    rw [under_path h2 hkh, decide_eq_true hu, Bool.or_true]
  · exact absurd (by simpa using hu) (Ne.symm hne)
theorem mv_has {k x : Vec 32} (hw : TrW t N) (hk : mvOk t N k = true) (h : has (mvT t N k) (mvN t N k) x = true) : has t N x = true ∧ levH (mvT t N k) (mvN t N k) x = levH t N x := by
  obtain ⟨hkb, hkp⟩ := mvOk_spec hk
  by_cases hx : x = k
  · subst hx
    refine ⟨blk_has hkb, ?_⟩
    unfold levH
    rw [if_pos (show x = (mvT t N x).root from rfl), if_neg (blk_nroot hw hkb), hkb]
    rfl
  · have hb := has_blk h (show x ≠ (mvT t N k).root from hx)
    have hb2 := hb
    rw [mv_blk] at hb
    split at hb
    · rename_i hu
      refine ⟨blk_has hb, ?_⟩
      unfold levH
      rw [if_neg (show x ≠ (mvT t N k).root from hx), if_neg (blk_nroot hw hb), hb2, hb]
    · cases hb
theorem TM.move {k : Vec 32} (hi : TM t N m) (hk : mvOk t N k = true) : TM (mvT t N k) (mvN t N k) m := by
  have hw := hi.w
  obtain ⟨hkb, hkp⟩ := mvOk_spec hk
  have hkh : has t N k = true := blk_has hkb
  have hkr := blk_nroot hw hkb
  have hkl : levH t N k = (nb k N).1.h := by unfold levH; rw [if_neg hkr, hkb]
  have hmem : ∀ x b, blkOf x (mvN t N k) = some b → x ≠ k ∧ under t N x k = true ∧ blkOf x N = some b := fun x b h => by
    rw [mv_blk] at h
    split at h
    · rename_i hu; exact ⟨hu.1, hu.2, h⟩
    · cases h
  have hpar : ∀ x b, blkOf x (mvN t N k) = some b → has (mvT t N k) (mvN t N k) b.p = true := fun x b h => by
    obtain ⟨h1, h2, h3⟩ := hmem x b h
    obtain ⟨h4, h5, h6⟩ := mv_up hw hk (blk_has h3) h1 h2
    have e : b.p = upOf x N := by
      have := has_blk (blk_has (t := t) h3) h4
      rw [h3] at this
      simp only [Option.some.injEq] at this
      unfold upOf
      rw [← this]
    rw [e]
    by_cases hp : upOf x N = k
    · rw [hp]; exact mem_has (.inl rfl)
    · have hu := h6.resolve_left hp
      have hpr : upOf x N ≠ t.root := fun he => by
        rw [he, under_path (mem_has (.inl rfl)) hkh, path_root] at hu
        simp [hkr] at hu
      unfold has
      rw [mv_blk, if_pos ⟨hp, hu⟩, has_blk h5 hpr]
      simp
  have hgt : ∀ x b, blkOf x (mvN t N k) = some b → (nb k N).1.h < b.h := fun x b h => by
    obtain ⟨h1, h2, h3⟩ := hmem x b h
    have hxh := blk_has (t := t) h3
    rw [under_path hxh hkh] at h2
    simp only [Bool.or_eq_true, decide_eq_true_eq] at h2
    have h2 : k ∈ pathOf t N x := h2.resolve_left hkr
    obtain ⟨j, hj⟩ := List.mem_iff_getElem?.1 h2
    have h4 := path_at hw x hxh j k hj
    have hxr : x ≠ t.root := fun he => by rw [he, path_root] at h2; cases h2
    have hlx := path_len hw x hxh
    have hjl := (List.getElem?_eq_some_iff.1 hj).1
    have hlast : (pathOf t N x)[(pathOf t N x).length - 1]? = some x := by
      rw [path_step hw hxh hxr]
      simp
    have hjne : j ≠ (pathOf t N x).length - 1 := fun he => by
      rw [he, hlast] at hj
      exact h1 (by simpa using hj)
    have hbx := blk_h hw hxh hxr
    have hbk := blk_h hw hkh hkr
    have e : (nb x N).1 = b := by
      have := has_blk hxh hxr
      rw [h3] at this
      simpa using this.symm
    rw [e] at hbx
    omega
  refine ⟨⟨fun x b h => ⟨hpar x b h, ?_⟩, hgt, ?_, fun x hx => hw.small x (List.mem_filter.1 hx).1⟩, ?_, fun x hx => ?_, fun x hx => hi.hi x (List.mem_filter.1 hx).1, ?_⟩
  · rw [(mv_has hw hk (hpar x b h)).2]
    exact (hw.up x b (hmem x b h).2.2).2
  · rw [mv_blk]
    exact if_neg fun h => h.1 rfl
  · exact hi.nd.sublist (List.filter_sublist.map _)
  · obtain ⟨h1, h2⟩ := mv_has hw hk hx
    have h3 := hi.hb x h1
    have h4 := hw.above k _ hkb
    unfold Go.Fx.hgt at h3 ⊢
    rw [h2]
    show (levH t N x - (nb k N).1.h).toNat ≤ m
    omega
  · have h4 := hw.above k _ hkb
    have h5 := hi.ht
    show 0 ≤ (nb k N).1.h
    omega
end
end Go.Fx
set_option linter.unusedVariables false
set_option linter.unusedSimpArgs false
namespace Go.Fx
/-- A node's cells. -/
def TN.nd (x : TN) : Vec 32 × Vec 32 × Int × Value := (x.1, x.2.1.p, x.2.1.h, x.2.2.1)
structure RfR (h : Heap) (g : Nat) (lv : Value) (t : Tr) (N : List TN) : Prop where
  cell : ∃ T fr, h[g]? = some (.cells (Rdr.cells Q_flurryref11_Tree (t.root, t.ht, t.most, lv)).toArray T fr)
  rw : Rows' Q_flurryref11_Node h lv (N.map TN.nd)
  dat : ∀ x ∈ N, RdB h x.2.2.1 x.2.1.d
def rfH (g : Nat) (lv : Value) (t : Tr) (N : List TN) : List Asn := [blk g (Rdr.cells Q_flurryref11_Tree (t.root, t.ht, t.most, lv)).toArray T_flurryref11_Tree, rows Q_flurryref11_Node lv (N.map TN.nd)]
def placeOf (k : Vec 32) : List TN → Nat → Option Nat
  | [], _ => none
  | x :: N, i => if k = x.1 then some i else placeOf k N (i + 1)
def plI (o : Option Nat) : Int := match o with | some i => (i : Int) | none => -1
theorem placeOf_spec {k : Vec 32} : ∀ {N : List TN} {i : Nat}, (match placeOf k N i with
    | some j => i ≤ j ∧ nodeOf k N = N[j - i]? ∧ j - i < N.length
    | none => nodeOf k N = none)
  | [], i => by simp [placeOf, nodeOf]
  | x :: N, i => by
    unfold placeOf
    by_cases hk : k = x.1
    · rw [if_pos hk]
      simp [nodeOf, hk]
    · rw [if_neg hk]
      have ih := placeOf_spec (k := k) (N := N) (i := i + 1)
      have e : nodeOf k (x :: N) = nodeOf k N := by unfold nodeOf; rw [List.find?_cons_of_neg (by simpa using hk)]
      cases hp : placeOf k N (i + 1) with
      | none => rw [hp] at ih; simp only at ih ⊢; rw [e]; exact ih
      | some j =>
        rw [hp] at ih
        simp only at ih ⊢
        obtain ⟨h1, h2, h3⟩ := ih
        refine ⟨by omega, ?_, by simp; omega⟩
        rw [e, h2, show j - i = (j - (i + 1)) + 1 by omega, List.getElem?_cons_succ]
section
variable {w0 w w' : World} {As : List Asn} {g : Nat} {lv : Value} {t : Tr} {N : List TN}
theorem RfR.fr (h : RfR w.heap g lv t N) (hf : Fr [] w w') : RfR w'.heap g lv t N := by
  obtain ⟨T, fr, hc⟩ := h.cell
  exact ⟨⟨T, fr, hf.blk hc (by simp)⟩, h.rw.fr hf, fun x hx => (h.dat x hx).fr hf (off_nil _)⟩
theorem Sep.rf (h : Sep w0 w As) (hr : RfR w0.heap g lv t N) : RfR w.heap g lv t N := hr.fr h.1
theorem rfH_rd (h : Sep w0 w (rfH g lv t N ++ As)) (hd : Dat N As) : RfR w.heap g lv t N := by
  refine ⟨⟨_, _, Sep.blk h⟩, Sep.rows (Sep.tail h), fun x hx => ?_⟩
  obtain ⟨F, hF⟩ := h.onL (A := ownB x.2.2.1 x.2.1.d) (by
    simp only [rfH, List.cons_append, List.mem_cons, List.nil_append]
    exact .inr (.inr (hd x hx)))
  exact OwnB.rd hF
theorem RfR.len (hr : RfR w.heap g lv t N) (K : Value → Prop) : lenS lv K = K (.int .i64 N.length) := by
  have := hr.rw.len K
  rwa [List.length_map] at this
/-- 'L[i]'. -/
theorem RfR.ix (hr : RfR w.heap g lv t N) {i : Nat} {x : TN} (hi : N[i]? = some x) : ∃ g2 o, At w.heap g2 o (Rdr.cells Q_flurryref11_Node x.nd) ∧ ∀ (k : IntKind) (K : Value → Prop), ixs 66 lv (.int k (i : Int)) K = K (.pointer (some ⟨g2, o, none⟩)) := by
  have h1 : (N.map TN.nd)[i]? = some x.nd := by rw [List.getElem?_map, hi]; rfl
  exact Rows'.ix (q := Q_flurryref11_Node) (by decide) hr.rw h1
theorem placeR_spec (hr : RfR w.heap g lv t N) (hn : N.length ≤ 1000000) (k : Vec 32) : cal P f_ref11_Tree_place [.pointer (some ⟨g, 0, none⟩), kv k] w fun r w' => r = .int .i64 (plI (placeOf k N 0)) ∧ Fr [] w w' := by
  refine s_ref11_Tree_place fun R hR => ?_
  unfold c_ref11_Tree_place
  refine bxQ (Sep.start w) fun g3 w1 hs1 => ?_
  refine ⟨fun y z => ∃ i : Nat, y = .int .i64 i ∧ i ≤ N.length ∧ placeOf k N 0 = placeOf k (N.drop i) i ∧ Sep w z [blk g3 (Rdr.cells (rVec 32) k).toArray T_api_ID], fun y _ => (N.length - RowKit.intOf y).toNat, ⟨0, rfl, by omega, rfl, hs1⟩, ?_⟩
  rintro _ w2 ⟨i, rfl, hi, hp, hs2⟩ -
  have hr2 := hs2.rf hr
  obtain ⟨T, fr, hc⟩ := hr2.cell
  simp only [nilc_some, fad_mk, pik_true, pik_false, cnd_true, cnd_false, gif_same, gif_tf, gif_ft, gif_undef, bi_add, bi_sub, bi_mul, bi_eql, bi_neq, bi_lss, bi_leq, bi_gtr, bi_geq, notB_bool, cvi_int, lenS_mk, lenT_mk, ext0, ext1, ext2, nilP_mk, nilS_mk, fldv_agg, jn0_k, jn1_k, jn2_k, jn1_and, jn1_or, ex_some, Option.isNone_some, Option.isNone_none, Bool.false_bne, Bool.bne_true, Bool.bne_false, Bool.true_bne, Bool.not_true, Bool.not_false, Bool.and_true, Bool.true_and, Bool.and_false, Bool.false_and, Bool.or_true, Bool.true_or, Bool.or_false, Bool.false_or, cond_true, cond_false, List.getElem?_toArray, List.getElem?_cons_zero, List.getElem?_cons_succ, Nat.zero_add, Nat.add_zero, Nat.reduceAdd, forall_const, L_flurryref11_Tree hc, L_flurryref11_Tree__R hc, L_flurryref11_Tree__H hc, L_flurryref11_Tree__Most hc, L_flurryref11_Tree__L hc, hr2.len]
  rw [cnd_bool]
  refine ⟨fun h => ?_, fun h => ?_⟩
  · have hlt : i < N.length := by simp at h; omega
    obtain ⟨x, hx⟩ : ∃ x, N[i]? = some x := ⟨_, List.getElem?_eq_getElem hlt⟩
    have hdx : N.drop i = x :: N.drop (i + 1) := by
      rw [List.drop_eq_getElem_cons hlt]
      rw [List.getElem?_eq_getElem hlt] at hx
      simp only [Option.some.injEq] at hx
      rw [hx]
    refine drw_s hs2 fun w3 hs3 _ => ?_
    have hr3 := hs3.rf hr
    obtain ⟨T, fr, hc⟩ := hr3.cell
    obtain ⟨g2, o, ha, hix⟩ := hr3.ix hx
    simp only [nilc_some, fad_mk, pik_true, pik_false, cnd_true, cnd_false, gif_same, gif_tf, gif_ft, gif_undef, bi_add, bi_sub, bi_mul, bi_eql, bi_neq, bi_lss, bi_leq, bi_gtr, bi_geq, notB_bool, cvi_int, lenS_mk, lenT_mk, ext0, ext1, ext2, nilP_mk, nilS_mk, fldv_agg, jn0_k, jn1_k, jn2_k, jn1_and, jn1_or, ex_some, Option.isNone_some, Option.isNone_none, Bool.false_bne, Bool.bne_true, Bool.bne_false, Bool.true_bne, Bool.not_true, Bool.not_false, Bool.and_true, Bool.true_and, Bool.and_false, Bool.false_and, Bool.or_true, Bool.true_or, Bool.or_false, Bool.false_or, cond_true, cond_false, List.getElem?_toArray, List.getElem?_cons_zero, List.getElem?_cons_succ, Nat.zero_add, Nat.add_zero, Nat.reduceAdd, forall_const, L_flurryref11_Tree hc, L_flurryref11_Tree__R hc, L_flurryref11_Tree__H hc, L_flurryref11_Tree__Most hc, L_flurryref11_Tree__L hc, hix, LA_flurryref11_Node__ID ha, L_api_ID hs3.blk, eq_api_ID]
    rw [cnd_bool]
    refine ⟨fun h => ?_, fun h => ?_⟩
    · have h : x.1 = k := by
        have := of_decide_eq_true h
        exact this
      refine hR _ _ ⟨?_, hs3.fr0⟩
      rw [hp, hdx, placeOf, if_pos h.symm]
      rfl
    · have h : ¬ x.1 = k := of_decide_eq_false h
      rw [wi64 (by omega) (by omega)]
      refine ⟨⟨i + 1, by simp, by omega, ?_, hs3⟩, by simp [RowKit.intOf]; omega⟩
      rw [hp, hdx, placeOf, if_neg (fun he => h he.symm)]
  · have hge : i = N.length := by simp at h; omega
    rw [hge, List.drop_of_length_le (Nat.le_refl _)] at hp
    refine hR _ _ ⟨by rw [hp]; rfl, hs2.fr0⟩
theorem place_has (t : Tr) (k : Vec 32) (N : List TN) : has t N k = (decide (k = t.root) || decide (0 ≤ plI (placeOf k N 0))) := by
  unfold has
  congr 1
  have h := placeOf_spec (k := k) (N := N) (i := 0)
  unfold blkOf
  cases hp : placeOf k N 0 with
  | none => rw [hp] at h; simp only at h; rw [h]; rfl
  | some j =>
    rw [hp] at h
    simp only [Nat.sub_zero] at h
    rw [h.2.1, List.getElem?_eq_getElem h.2.2]
    simp [plI]
theorem HasR_spec (hr : RfR w.heap g lv t N) (hn : N.length ≤ 1000000) (k : Vec 32) : cal P f_ref11_Tree_Has [.pointer (some ⟨g, 0, none⟩), kv k] w fun r w' => r = .bool (has t N k) ∧ Fr [] w w' := by
  refine s_ref11_Tree_Has fun R hR => ?_
  unfold c_ref11_Tree_Has
  refine bxQ (Sep.start w) fun g3 w1 hs1 => ?_
  refine drH_S hs1 fun w2 hs2 _ => ?_
  refine ⟨kv k, fun u hu => (L_api_ID hu.blk _).mpr rfl, ?_⟩
  simp only [nilc_some, fad_mk, pik_true, pik_false, cnd_true, cnd_false, gif_same, gif_tf, gif_ft, gif_undef, bi_add, bi_sub, bi_mul, bi_eql, bi_neq, bi_lss, bi_leq, bi_gtr, bi_geq, notB_bool, cvi_int, lenS_mk, lenT_mk, ext0, ext1, ext2, nilP_mk, nilS_mk, fldv_agg, jn0_k, jn1_k, jn2_k, jn1_and, jn1_or, ex_some, Option.isNone_some, Option.isNone_none, Bool.false_bne, Bool.bne_true, Bool.bne_false, Bool.true_bne, Bool.not_true, Bool.not_false, Bool.and_true, Bool.true_and, Bool.and_false, Bool.false_and, Bool.or_true, Bool.true_or, Bool.or_false, Bool.false_or, cond_true, cond_false, List.getElem?_toArray, List.getElem?_cons_zero, List.getElem?_cons_succ, Nat.zero_add, Nat.add_zero, Nat.reduceAdd, forall_const]
  refine ⟨kv t.root, fun u hu => by obtain ⟨T, fr, hc⟩ := (hu.rf hr).cell; exact (L_flurryref11_Tree__R hc _).mpr rfl, ?_⟩
  refine ⟨.bool (decide (k = t.root)), fun u hu => (eq_api_ID _).mpr rfl, ?_⟩
  rw [place_has] at hR
  by_cases hk : k = t.root
  · simp only [decide_eq_true hk, nilc_some, fad_mk, pik_true, pik_false, cnd_true, cnd_false, gif_same, gif_tf, gif_ft, gif_undef, bi_add, bi_sub, bi_mul, bi_eql, bi_neq, bi_lss, bi_leq, bi_gtr, bi_geq, notB_bool, cvi_int, lenS_mk, lenT_mk, ext0, ext1, ext2, nilP_mk, nilS_mk, fldv_agg, jn0_k, jn1_k, jn2_k, jn1_and, jn1_or, ex_some, Option.isNone_some, Option.isNone_none, Bool.false_bne, Bool.bne_true, Bool.bne_false, Bool.true_bne, Bool.not_true, Bool.not_false, Bool.and_true, Bool.true_and, Bool.and_false, Bool.false_and, Bool.or_true, Bool.true_or, Bool.or_false, Bool.false_or, cond_true, cond_false, List.getElem?_toArray, List.getElem?_cons_zero, List.getElem?_cons_succ, Nat.zero_add, Nat.add_zero, Nat.reduceAdd, forall_const] at hR ⊢
    exact hR _ _ ⟨rfl, hs2.fr0⟩
  · simp only [decide_eq_false hk, nilc_some, fad_mk, pik_true, pik_false, cnd_true, cnd_false, gif_same, gif_tf, gif_ft, gif_undef, bi_add, bi_sub, bi_mul, bi_eql, bi_neq, bi_lss, bi_leq, bi_gtr, bi_geq, notB_bool, cvi_int, lenS_mk, lenT_mk, ext0, ext1, ext2, nilP_mk, nilS_mk, fldv_agg, jn0_k, jn1_k, jn2_k, jn1_and, jn1_or, ex_some, Option.isNone_some, Option.isNone_none, Bool.false_bne, Bool.bne_true, Bool.bne_false, Bool.true_bne, Bool.not_true, Bool.not_false, Bool.and_true, Bool.true_and, Bool.and_false, Bool.false_and, Bool.or_true, Bool.true_or, Bool.or_false, Bool.false_or, cond_true, cond_false, List.getElem?_toArray, List.getElem?_cons_zero, List.getElem?_cons_succ, Nat.zero_add, Nat.add_zero, Nat.reduceAdd, forall_const] at hR ⊢
    refine jn1_dup ?_
    refine ⟨kv k, fun u hu => (L_api_ID hu.blk _).mpr rfl, ?_⟩
    refine efS_i (cal_i (placeR_spec (hs2.rf hr) hn k) ?_)
    rintro _ w3 ⟨rfl, hf3⟩
    refine ⟨hs2.old hf3, ?_⟩
    simp only [nilc_some, fad_mk, pik_true, pik_false, cnd_true, cnd_false, gif_same, gif_tf, gif_ft, gif_undef, bi_add, bi_sub, bi_mul, bi_eql, bi_neq, bi_lss, bi_leq, bi_gtr, bi_geq, notB_bool, cvi_int, lenS_mk, lenT_mk, ext0, ext1, ext2, nilP_mk, nilS_mk, fldv_agg, jn0_k, jn1_k, jn2_k, jn1_and, jn1_or, ex_some, Option.isNone_some, Option.isNone_none, Bool.false_bne, Bool.bne_true, Bool.bne_false, Bool.true_bne, Bool.not_true, Bool.not_false, Bool.and_true, Bool.true_and, Bool.and_false, Bool.false_and, Bool.or_true, Bool.true_or, Bool.or_false, Bool.false_or, cond_true, cond_false, List.getElem?_toArray, List.getElem?_cons_zero, List.getElem?_cons_succ, Nat.zero_add, Nat.add_zero, Nat.reduceAdd, forall_const]
    exact hR _ _ ⟨rfl, (hs2.old hf3).fr0⟩
theorem place_node {k : Vec 32} {N : List TN} {x : TN} (h : nodeOf k N = some x) : ∃ i : Nat, plI (placeOf k N 0) = (i : Int) ∧ N[i]? = some x ∧ x.1 = k := by
  have hp := placeOf_spec (k := k) (N := N) (i := 0)
  cases hq : placeOf k N 0 with
  | none => rw [hq] at hp; simp only at hp; rw [hp] at h; cases h
  | some j =>
    rw [hq] at hp
    simp only [Nat.sub_zero] at hp
    refine ⟨j, rfl, by rw [← hp.2.1, h], ?_⟩
    have := List.find?_some h
    simpa using (of_decide_eq_true this).symm
theorem place_none {k : Vec 32} {N : List TN} (h : nodeOf k N = none) : plI (placeOf k N 0) = -1 := by
  have hp := placeOf_spec (k := k) (N := N) (i := 0)
  cases hq : placeOf k N 0 with
  | none => rfl
  | some j =>
    rw [hq] at hp
    simp only [Nat.sub_zero] at hp
    rw [hp.2.1, List.getElem?_eq_none_iff] at h
    omega
theorem HeightR_spec (hr : RfR w.heap g lv t N) (hn : N.length ≤ 1000000) (k : Vec 32) (hk : has t N k = true) : cal P f_ref11_Tree_Height [.pointer (some ⟨g, 0, none⟩), kv k] w fun r w' => r = .int .i64 (levH t N k) ∧ Fr [] w w' := by
  refine s_ref11_Tree_Height fun R hR => ?_
  unfold c_ref11_Tree_Height
  refine bxQ (Sep.start w) fun g3 w1 hs1 => ?_
  refine drw_s hs1 fun w2 hs2 _ => ?_
  obtain ⟨T, fr, hc⟩ := (hs2.rf hr).cell
  simp only [nilc_some, fad_mk, pik_true, pik_false, cnd_true, cnd_false, gif_same, gif_tf, gif_ft, gif_undef, bi_add, bi_sub, bi_mul, bi_eql, bi_neq, bi_lss, bi_leq, bi_gtr, bi_geq, notB_bool, cvi_int, lenS_mk, lenT_mk, ext0, ext1, ext2, nilP_mk, nilS_mk, fldv_agg, jn0_k, jn1_k, jn2_k, jn1_and, jn1_or, ex_some, Option.isNone_some, Option.isNone_none, Bool.false_bne, Bool.bne_true, Bool.bne_false, Bool.true_bne, Bool.not_true, Bool.not_false, Bool.and_true, Bool.true_and, Bool.and_false, Bool.false_and, Bool.or_true, Bool.true_or, Bool.or_false, Bool.false_or, cond_true, cond_false, List.getElem?_toArray, List.getElem?_cons_zero, List.getElem?_cons_succ, Nat.zero_add, Nat.add_zero, Nat.reduceAdd, forall_const, L_flurryref11_Tree hc, L_flurryref11_Tree__R hc, L_flurryref11_Tree__H hc, L_flurryref11_Tree__Most hc, L_flurryref11_Tree__L hc, L_api_ID hs2.blk, eq_api_ID]
  rw [cnd_bool]
  refine ⟨fun h => ?_, fun h => ?_⟩
  · have h : k = t.root := of_decide_eq_true h
    exact hR _ _ ⟨by unfold levH; rw [if_pos h], hs2.fr0⟩
  · have h : ¬ k = t.root := of_decide_eq_false h
    refine cal_i (placeR_spec (hs2.rf hr) hn k) ?_
    rintro _ w3 ⟨rfl, hf3⟩
    have hs3 := hs2.old hf3
    have hb := has_blk hk h
    cases hno : nodeOf k N with
    | none => unfold blkOf at hb; rw [hno] at hb; cases hb
    | some x =>
      obtain ⟨i, hi, hx, _⟩ := place_node hno
      rw [hi]
      have e0 : decide ((i : Int) < 0) = false := by simp
      have hr3 := hs3.rf hr
      obtain ⟨T, fr, hc⟩ := hr3.cell
      obtain ⟨g2, o, ha, hix⟩ := hr3.ix hx
      simp only [nilc_some, fad_mk, pik_true, pik_false, cnd_true, cnd_false, gif_same, gif_tf, gif_ft, gif_undef, bi_add, bi_sub, bi_mul, bi_eql, bi_neq, bi_lss, bi_leq, bi_gtr, bi_geq, notB_bool, cvi_int, lenS_mk, lenT_mk, ext0, ext1, ext2, nilP_mk, nilS_mk, fldv_agg, jn0_k, jn1_k, jn2_k, jn1_and, jn1_or, ex_some, Option.isNone_some, Option.isNone_none, Bool.false_bne, Bool.bne_true, Bool.bne_false, Bool.true_bne, Bool.not_true, Bool.not_false, Bool.and_true, Bool.true_and, Bool.and_false, Bool.false_and, Bool.or_true, Bool.true_or, Bool.or_false, Bool.false_or, cond_true, cond_false, List.getElem?_toArray, List.getElem?_cons_zero, List.getElem?_cons_succ, Nat.zero_add, Nat.add_zero, Nat.reduceAdd, forall_const, e0, L_flurryref11_Tree hc, L_flurryref11_Tree__R hc, L_flurryref11_Tree__H hc, L_flurryref11_Tree__Most hc, L_flurryref11_Tree__L hc, hix, Nat.add_assoc]
      rw [LA_flurryref11_Node__B_Height ha]
      refine hR _ _ ⟨?_, hs3.fr0⟩
      unfold levH blkOf
      rw [if_neg h, hno]
      rfl
theorem GetR_spec (hr : RfR w.heap g lv t N) (hn : N.length ≤ 1000000) (k : Vec 32) : cal P f_ref11_Tree_Get [.pointer (some ⟨g, 0, none⟩), kv k] w fun r w' => r = .tuple #[bq (nb k N).1 (nb k N).2, .int .i64 (if (blkOf k N).isSome then 0 else 4)] ∧ Fr [] w w' := by
  refine s_ref11_Tree_Get fun R hR => ?_
  unfold c_ref11_Tree_Get
  refine bxQ (Sep.start w) fun g3 w1 hs1 => ?_
  refine alloc_s hs1 (A_api_Block w1) fun g4 w2 hs2 => ?_
  simp only [L_api_ID (Sep.p1 hs2).blk]
  refine cal_i (placeR_spec (hs2.rf hr) hn k) ?_
  rintro _ w3 ⟨rfl, hf3⟩
  have hs3 := hs2.old hf3
  cases hno : nodeOf k N with
  | none =>
    rw [place_none hno]
    simp only [nilc_some, fad_mk, pik_true, pik_false, cnd_true, cnd_false, gif_same, gif_tf, gif_ft, gif_undef, bi_add, bi_sub, bi_mul, bi_eql, bi_neq, bi_lss, bi_leq, bi_gtr, bi_geq, notB_bool, cvi_int, lenS_mk, lenT_mk, ext0, ext1, ext2, nilP_mk, nilS_mk, fldv_agg, jn0_k, jn1_k, jn2_k, jn1_and, jn1_or, ex_some, Option.isNone_some, Option.isNone_none, Bool.false_bne, Bool.bne_true, Bool.bne_false, Bool.true_bne, Bool.not_true, Bool.not_false, Bool.and_true, Bool.true_and, Bool.and_false, Bool.false_and, Bool.or_true, Bool.true_or, Bool.or_false, Bool.false_or, cond_true, cond_false, List.getElem?_toArray, List.getElem?_cons_zero, List.getElem?_cons_succ, Nat.zero_add, Nat.add_zero, Nat.reduceAdd, forall_const, show decide ((-1 : Int) < 0) = true from rfl]
    rw [B_api_Block]
    refine St_api_Block hs3 (one_api_Block rfl) fun w4 hs4 => ?_
    simp only [L_api_Block hs4.blk, L_api_Block__Parent hs4.blk, L_api_Block__Height hs4.blk, L_api_Block__Data hs4.blk]
    refine hR _ _ ⟨?_, hs4.fr0⟩
    unfold nb blkOf
    rw [hno]
    rfl
  | some x =>
    obtain ⟨i, hi, hx, _⟩ := place_node hno
    rw [hi]
    have e0 : decide ((i : Int) < 0) = false := by simp
    have hr3 := hs3.rf hr
    obtain ⟨T, fr, hc⟩ := hr3.cell
    obtain ⟨g2, o, ha, hix⟩ := hr3.ix hx
    have hxd := hr.dat x (List.mem_of_getElem? hx)
    simp only [nilc_some, fad_mk, pik_true, pik_false, cnd_true, cnd_false, gif_same, gif_tf, gif_ft, gif_undef, bi_add, bi_sub, bi_mul, bi_eql, bi_neq, bi_lss, bi_leq, bi_gtr, bi_geq, notB_bool, cvi_int, lenS_mk, lenT_mk, ext0, ext1, ext2, nilP_mk, nilS_mk, fldv_agg, jn0_k, jn1_k, jn2_k, jn1_and, jn1_or, ex_some, Option.isNone_some, Option.isNone_none, Bool.false_bne, Bool.bne_true, Bool.bne_false, Bool.true_bne, Bool.not_true, Bool.not_false, Bool.and_true, Bool.true_and, Bool.and_false, Bool.false_and, Bool.or_true, Bool.true_or, Bool.or_false, Bool.false_or, cond_true, cond_false, List.getElem?_toArray, List.getElem?_cons_zero, List.getElem?_cons_succ, Nat.zero_add, Nat.add_zero, Nat.reduceAdd, forall_const, e0, L_flurryref11_Tree hc, L_flurryref11_Tree__R hc, L_flurryref11_Tree__H hc, L_flurryref11_Tree__Most hc, L_flurryref11_Tree__L hc, hix]
    rw [LA_flurryref11_Node__B ha]
    refine St_api_Block hs3 (one_api_Block hxd.one) fun w4 hs4 => ?_
    simp only [L_api_Block hs4.blk, L_api_Block__Parent hs4.blk, L_api_Block__Height hs4.blk, L_api_Block__Data hs4.blk]
    refine hR _ _ ⟨?_, hs4.fr0⟩
    unfold nb blkOf
    rw [hno]
    rfl
theorem RfR.nb (hr : RfR w.heap g lv t N) (k : Vec 32) : RdB w.heap (nb k N).2 (nb k N).1.d := by
  unfold Go.Fx.nb
  cases hno : nodeOf k N with
  | none => exact rdNil w
  | some x => exact hr.dat x (List.mem_of_find?_eq_some hno)
theorem AllR_spec (hr : RfR w.heap g lv t N) (hn : N.length ≤ 1000000) : cal P f_ref11_Tree_All [.pointer (some ⟨g, 0, none⟩)] w fun r w' => Sep w w' [rows (rVec 32) r (nms N)] := by
  refine s_ref11_Tree_All fun R hR => ?_
  unfold c_ref11_Tree_All
  refine ⟨fun x y z => ∃ i : Nat, y = .int .i64 i ∧ i ≤ N.length ∧ Sep w z [rows (rVec 32) x ((nms N).take i)], fun _ y _ => (N.length - RowKit.intOf y).toNat, ⟨0, rfl, by omega, (Sep.start w).nilR⟩, ?_⟩
  rintro x _ w2 ⟨i, rfl, hi, hs2⟩ -
  have hr2 := hs2.rf hr
  obtain ⟨T, fr, hc⟩ := hr2.cell
  simp only [nilc_some, fad_mk, pik_true, pik_false, cnd_true, cnd_false, gif_same, gif_tf, gif_ft, gif_undef, bi_add, bi_sub, bi_mul, bi_eql, bi_neq, bi_lss, bi_leq, bi_gtr, bi_geq, notB_bool, cvi_int, lenS_mk, lenT_mk, ext0, ext1, ext2, nilP_mk, nilS_mk, fldv_agg, jn0_k, jn1_k, jn2_k, jn1_and, jn1_or, ex_some, Option.isNone_some, Option.isNone_none, Bool.false_bne, Bool.bne_true, Bool.bne_false, Bool.true_bne, Bool.not_true, Bool.not_false, Bool.and_true, Bool.true_and, Bool.and_false, Bool.false_and, Bool.or_true, Bool.true_or, Bool.or_false, Bool.false_or, cond_true, cond_false, List.getElem?_toArray, List.getElem?_cons_zero, List.getElem?_cons_succ, Nat.zero_add, Nat.add_zero, Nat.reduceAdd, forall_const, L_flurryref11_Tree hc, L_flurryref11_Tree__R hc, L_flurryref11_Tree__H hc, L_flurryref11_Tree__Most hc, L_flurryref11_Tree__L hc, hr2.len]
  rw [cnd_bool]
  refine ⟨fun h => ?_, fun h => ?_⟩
  · have hlt : i < N.length := by simp at h; omega
    obtain ⟨x1, hx⟩ : ∃ x, N[i]? = some x := ⟨_, List.getElem?_eq_getElem hlt⟩
    obtain ⟨g2, o, ha, hix⟩ := hr2.ix hx
    simp only [hix, nilc_some, fad_mk, pik_true, pik_false, cnd_true, cnd_false, gif_same, gif_tf, gif_ft, gif_undef, bi_add, bi_sub, bi_mul, bi_eql, bi_neq, bi_lss, bi_leq, bi_gtr, bi_geq, notB_bool, cvi_int, lenS_mk, lenT_mk, ext0, ext1, ext2, nilP_mk, nilS_mk, fldv_agg, jn0_k, jn1_k, jn2_k, jn1_and, jn1_or, ex_some, Option.isNone_some, Option.isNone_none, Bool.false_bne, Bool.bne_true, Bool.bne_false, Bool.true_bne, Bool.not_true, Bool.not_false, Bool.and_true, Bool.true_and, Bool.and_false, Bool.false_and, Bool.or_true, Bool.true_or, Bool.or_false, Bool.false_or, cond_true, cond_false, List.getElem?_toArray, List.getElem?_cons_zero, List.getElem?_cons_succ, Nat.zero_add, Nat.add_zero, Nat.reduceAdd, forall_const]
    rw [LA_flurryref11_Node__ID ha]
    have htl : ((nms N).take i).length ≤ 1000000 := Nat.le_trans (List.length_take_le _ _) (by omega)
    refine bldI hs2 fun a z hz => ?_
    refine appI hz.p1 (Sep.rows hz) htl fun x' z' hz' => ?_
    rw [wi64 (by omega) (by omega)]
    refine ⟨⟨i + 1, by simp, by omega, ?_⟩, by simp [RowKit.intOf]; omega⟩
    have e : (nms N).take (i + 1) = (nms N).take i ++ [x1.1] := by rw [List.take_add_one, List.getElem?_map, hx]; rfl
    rw [e]
    exact Sep.dropR (As := [_]) hz'
  · have hge : i = N.length := by simp at h; omega
    rw [List.take_of_length_le (by simp; omega)] at hs2
    exact hR _ _ hs2
end
end Go.Fx
set_option linter.unusedVariables false
set_option linter.unusedSimpArgs false
namespace Go.Fx
/-- An effect that is a cut, behind which whatever holds. -/
theorem efC_cut {f : World → (Value → World → Prop) → Prop} {w : World} {K : (World → Prop) → Value → World → Prop} (h : f w fun v w' => ∃ S : World → Prop, S w' ∧ K S v w') : efC f w K := h
/-- An iterator of n values: what it hands over at place i is known by 'arg'; M: the memory that it looks at is as it was. -/
def Iter (P : Program) (g : Value) (M : Heap → Prop) (n : Nat) (arg : Nat → World → List Value → Prop) : Prop :=
  ∃ gf cap, g = .func (.func gf) #[] cap ∧ callable P gf = true ∧ ∀ (y : Value) (w0 w : World) (J : Nat → List Asn → Prop) (X : List Asn → Prop) (As : List Asn), y.oneCell' = true → J 0 As → Sep w0 w As →
    (∀ i Bs Ls z, J i Bs → Sep w0 z (Bs ++ Ls) → M z.heap) →
    (∀ i args z Bs Ls, i < n → arg i z args → J i Bs → Sep w0 z (Bs ++ Ls) → calY P y args z fun r z' => (r = .bool true ∧ ∃ Cs, J (i + 1) Cs ∧ Sep w0 z' (Cs ++ Ls)) ∨ (r = .bool false ∧ ∃ Cs, X Cs ∧ Sep w0 z' (Cs ++ Ls))) →
    cal P gf (y :: cap.toList) w fun r z' => r = .tuple #[] ∧ ((∃ Cs, J n Cs ∧ Sep w0 z' Cs) ∨ ∃ Cs, X Cs ∧ Sep w0 z' Cs)
section
variable {w0 w w' : World} {As Bs : List Asn}
theorem Sep.rot (h : Sep w0 w (As ++ Bs)) : Sep w0 w (Bs ++ As) := h.perm List.perm_append_comm
theorem Sep.objUpd {g : Nat} {o : Obj} (o' : Obj) (h : Sep w0 w (.obj g o :: As)) : Sep w0 (setBlk w g o') (.obj g o' :: As) := by
  obtain ⟨F, ⟨hb, rfl⟩, hk⟩ := h.upd
  exact hk _ [g] (.obj g o') ⟨setBlk_self w g _ _ hb, rfl⟩ (fr_setBlk w g _) (Grew.refl _ _)
theorem Sep.objAt {g : Nat} {o : Obj} (h : Sep w0 w (.obj g o :: As)) : w.heap[g]? = some o := by
  obtain ⟨F, ⟨hb, rfl⟩, hk⟩ := h.upd
  exact hb
theorem takeD_s {D : Nat} {K : World → Prop} (hs : Sep w0 w (.obj D dfB :: As)) (h : ∀ w', Sep w0 w' As → K w') : takeD [D] w K :=
  ⟨hs.objAt, h _ (hs.objUpd _).tail⟩
theorem rng_s {P : Program} {g : Value} {M : Heap → Prop} {n k : Nat} {arg : Nat → World → List Value → Prop} {rnd : List Value → World → (World → (World → Prop) → Prop) → (Option Code → World → Prop) → Prop}
    {out : Nat → List (Option Code × (World → Prop))} (hs : Sep w0 w As) (hit : Iter P g M n arg) (hk : ∀ i z args, arg i z args → args.length = k)
    (J : Nat → List Asn → Prop) (X : Code → List Asn → Prop) (h0 : J 0 As) (hM : ∀ i Bs Ls z, J i Bs → Sep w0 z (Bs ++ Ls) → M z.heap)
    (hrnd : ∀ (i : Nat) (args : List Value) (z : World) (Bs LR LB : List Asn) (bg : World → (World → Prop) → Prop) (fin : Option Code → World → Prop), i < n → J i Bs → arg i z args → Sep w0 z (Bs ++ LR) →
      (∀ z' Cs K, Sep w0 z' (Cs ++ LR) → (∀ z'', Sep w0 z'' (Cs ++ LB) → K z'') → bg z' K) →
      (∀ z' Cs, J (i + 1) Cs → Sep w0 z' (Cs ++ LB) → fin none z') → (∀ j z' Cs, X j Cs → Sep w0 z' (Cs ++ LB) → fin (some j) z') → rnd args z bg fin)
    (hN : ∀ D Bs z, J n Bs → Sep w0 z (.obj D dfB :: Bs) → outL none z (out D)) (hX : ∀ D j Bs z, X j Bs → Sep w0 z (.obj D dfB :: Bs) → outL (some j) z (out D)) : rng P g k w rnd out := by
  obtain ⟨gf, cap, hg, hcal, hI⟩ := hit
  refine ⟨gf, cap, hg, hcal, fun y rec h1 hy => ?_⟩
  have swap2 : ∀ {z : World} {Cs : List Asn} {A B : Asn}, Sep w0 z (Cs ++ [A, B]) → Sep w0 z (A :: B :: Cs) := fun h => Sep.rot h
  have swap3 : ∀ {z : World} {Cs : List Asn} {A B : Asn}, Sep w0 z (A :: B :: Cs) → Sep w0 z (Cs ++ [A, B]) := fun {z Cs A B} h => Sep.rot (As := [A, B]) h
  -- the record at the head, and back
  have hd : ∀ {z : World} {Cs Ls : List Asn} {A : Asn}, Sep w0 z (Cs ++ (A :: Ls)) → Sep w0 z (A :: (Cs ++ Ls)) := fun h => h.perm List.perm_middle
  have bk : ∀ {z : World} {Cs Ls : List Asn} {A : Asn}, Sep w0 z (A :: (Cs ++ Ls)) → Sep w0 z (Cs ++ (A :: Ls)) := fun h => h.perm List.perm_middle.symm
  refine cal_i (hI y w0 _ (fun i Bs => ∃ Cs, J i Cs ∧ Bs = Cs ++ [.obj (w.heap.size + 1) (rec .ready none), .obj w.heap.size dfB])
    (fun Bs => ∃ j Cs, X j Cs ∧ Bs = Cs ++ [.obj (w.heap.size + 1) (rec .done (some j)), .obj w.heap.size dfB]) (As ++ [.obj (w.heap.size + 1) (rec .ready none), .obj w.heap.size dfB]) h1 ⟨As, h0, rfl⟩ (swap3 ?_) ?_ ?_) ?_
  · have h2 : Sep w0 (w.alloc dfB) (.obj w.heap.size dfB :: As) := hs.new (F' := [w.heap.size]) (fr_alloc w _) (B := .obj w.heap.size dfB) ⟨alloc_new w _, rfl⟩ (by simp)
    have e : (w.alloc dfB).heap.size = w.heap.size + 1 := by simp
    refine h2.new (F' := [w.heap.size + 1]) (fr_alloc _ _) (B := .obj (w.heap.size + 1) (rec .ready none)) ⟨?_, rfl⟩ (by simp)
    have := alloc_new (w.alloc dfB) (rec .ready none)
    rwa [e] at this
  · rintro i _ Ls z ⟨Cs, hJ, rfl⟩ hB
    rw [List.append_assoc] at hB
    exact hM i Cs _ z hJ hB
  · rintro i args z _ Ls hi harg ⟨Bs, hJ, rfl⟩ hB
    rw [List.append_assoc] at hB
    refine hy args z _ (hk i z args harg) (hd hB).objAt ?_
    refine hrnd i args z Bs _ (.obj (w.heap.size + 1) (rec .busy none) :: .obj w.heap.size dfB :: Ls) _ _ hi hJ harg hB ?_ ?_ ?_
    · intro z' Cs K hz hK
      exact ⟨(hd hz).objAt, hK _ (bk ((hd hz).objUpd _))⟩
    · intro z' Cs hC hz
      exact ⟨(hd hz).objAt, .inl ⟨rfl, _, ⟨Cs, hC, rfl⟩, by rw [List.append_assoc]; exact bk ((hd hz).objUpd _)⟩⟩
    · intro j z' Cs hC hz
      exact ⟨(hd hz).objAt, .inr ⟨rfl, _, ⟨j, Cs, hC, rfl⟩, by rw [List.append_assoc]; exact bk ((hd hz).objUpd _)⟩⟩
  · rintro v z ⟨-, ⟨_, ⟨Bs, hJ, rfl⟩, hB⟩ | ⟨_, ⟨j, Bs, hX', rfl⟩, hB⟩⟩
    · exact ⟨none, (swap2 hB).objAt, hN _ Bs _ hJ ((swap2 hB).objUpd _).tail⟩
    · exact ⟨some j, (swap2 hB).objAt, hX _ j Bs _ hX' ((swap2 hB).objUpd _).tail⟩
end
end Go.Fx
set_option linter.unusedVariables false
set_option linter.unusedSimpArgs false
namespace Go.Fx
section
variable {w0 w w' : World} {As : List Asn} {g : Nat} {lv : Value} {t : Tr} {N : List TN}
theorem AddR_spec {b : Blk} {v : Value} (hs : Sep w0 w (rfH g lv t N ++ As)) (hd : Dat N As) (hb : RdB w.heap v b.d) (hh : b.h ≤ maxI) (hn : N.length ≤ 1000000) :
    cal P f_ref11_Tree_Add [.pointer (some ⟨g, 0, none⟩), bq b v] w fun r w' =>
      (addE t N b ≠ 0 ∧ r = .tuple #[kv (vz 32), .int .i64 (addE t N b)] ∧ Sep w0 w' (rfH g lv t N ++ As)) ∨
      (addE t N b = 0 ∧ r = .tuple #[kv b.id, .int .i64 0] ∧ ∃ lv' vd, Sep w0 w' (rfH g lv' t (N ++ [(b.id, b, vd, 0)]) ++ (ownB vd b.d :: As))) := by
  have hr := rfH_rd hs hd
  refine s_ref11_Tree_Add fun R hR => ?_
  unfold c_ref11_Tree_Add
  refine bxQ (Sep.start w) fun g3 w1 hs1 => ?_
  refine alloc_s hs1 (A_api_ID w1) fun g4 w2 hs2 => ?_
  simp only [L_api_Block (Sep.p1 hs2).blk, L_api_Block__Parent (Sep.p1 hs2).blk, L_api_Block__Height (Sep.p1 hs2).blk, L_api_Block__Data (Sep.p1 hs2).blk]
  refine cal_i (rbID_spec (hb.fr hs2.fr0 (off_nil _)) hh) ?_
  rintro _ w3 ⟨rfl, hf3⟩
  have hs3 := hs2.old hf3
  simp only [nilc_some, fad_mk, pik_true, pik_false, cnd_true, cnd_false, gif_same, gif_tf, gif_ft, gif_undef, bi_add, bi_sub, bi_mul, bi_eql, bi_neq, bi_lss, bi_leq, bi_gtr, bi_geq, notB_bool, cvi_int, lenS_mk, lenT_mk, ext0, ext1, ext2, nilP_mk, nilS_mk, fldv_agg, jn0_k, jn1_k, jn2_k, jn1_and, jn1_or, ex_some, Option.isNone_some, Option.isNone_none, Bool.false_bne, Bool.bne_true, Bool.bne_false, Bool.true_bne, Bool.not_true, Bool.not_false, Bool.and_true, Bool.true_and, Bool.and_false, Bool.false_and, Bool.or_true, Bool.true_or, Bool.or_false, Bool.false_or, cond_true, cond_false, List.getElem?_toArray, List.getElem?_cons_zero, List.getElem?_cons_succ, Nat.zero_add, Nat.add_zero, Nat.reduceAdd, forall_const]
  refine alloc_s hs3 (A_api_ID w3) fun g6 w4 hs4 => ?_
  refine St_api_ID hs4 fun w5 hs5 => ?_
  have bad : ∀ (w6 : World) (e : Int), Sep w w6 [blk g6 (Rdr.cells (rVec 32) b.name).toArray T_api_ID, blk g4 (Rdr.cells (rVec 32) (vz 32)).toArray T_api_ID, blk g3 (Rdr.cells Q_api_Block (b.p, b.h, v)).toArray T_api_Block] → addE t N b = e → e ≠ 0 →
      rdP P (Instr.build T_api_ID #[]) w6 fun t20 => stN 32 (.pointer (some ⟨g4, 0, none⟩)) t20 w6 fun w => ldN 32 (.pointer (some ⟨g4, 0, none⟩)) w.heap fun r1 => R (.tuple #[r1, .int .i64 e]) w := fun w6 e hs6 he h0 => by
    rw [B_ID0]
    refine St_api_ID hs6.p1 fun w7 hs7 => ?_
    simp only [L_api_ID hs7.blk]
    exact hR _ _ (.inl ⟨by rw [he]; exact h0, by rw [he], hs.old hs7.fr0⟩)
  rw [cnd_bool]
  refine ⟨fun h => ?_, fun h => ?_⟩
  · have h : b.chk ≠ 0 := by simpa using h
    exact bad w5 b.chk hs5 (by unfold addE; rw [if_pos h]) h
  have h1 : b.chk = 0 := by simpa using h
  have hnm : b.name = b.id := by unfold Blk.name; rw [if_pos h1]
  rw [hnm] at hs5 bad
  simp only [L_api_ID hs5.blk]
  refine cal_i (HasR_spec (hs5.rf hr) hn b.id) ?_
  rintro _ w6 ⟨rfl, hf6⟩
  have hs6 := hs5.old hf6
  rw [cnd_bool]
  refine ⟨fun h => ?_, fun h => ?_⟩
  · exact bad w6 110 hs6 (by unfold addE; rw [if_neg (by simpa using h1), if_pos h]) (by decide)
  have h2 : ¬ has t N b.id = true := by rw [h]; simp
  refine drH_S hs6 fun w7 hs7 _ => ?_
  refine ⟨kv b.p, fun u hu => (L_api_Block__Parent (Sep.blk (Sep.p2 hu)) _).mpr rfl, ?_⟩
  refine efC_cut (cal_i (HasR_spec (hs7.rf hr) hn b.p) ?_)
  rintro _ w8 ⟨rfl, hf8⟩
  have hs8 := hs7.old hf8
  refine ⟨fun u => Sep w u _, hs8, ?_⟩
  simp only [nilc_some, fad_mk, pik_true, pik_false, cnd_true, cnd_false, gif_same, gif_tf, gif_ft, gif_undef, bi_add, bi_sub, bi_mul, bi_eql, bi_neq, bi_lss, bi_leq, bi_gtr, bi_geq, notB_bool, cvi_int, lenS_mk, lenT_mk, ext0, ext1, ext2, nilP_mk, nilS_mk, fldv_agg, jn0_k, jn1_k, jn2_k, jn1_and, jn1_or, ex_some, Option.isNone_some, Option.isNone_none, Bool.false_bne, Bool.bne_true, Bool.bne_false, Bool.true_bne, Bool.not_true, Bool.not_false, Bool.and_true, Bool.true_and, Bool.and_false, Bool.false_and, Bool.or_true, Bool.true_or, Bool.or_false, Bool.false_or, cond_true, cond_false, List.getElem?_toArray, List.getElem?_cons_zero, List.getElem?_cons_succ, Nat.zero_add, Nat.add_zero, Nat.reduceAdd, forall_const]
  have k31 : ∀ {z : World}, Sep w z [blk g6 (Rdr.cells (rVec 32) b.id).toArray T_api_ID, blk g4 (Rdr.cells (rVec 32) (vz 32)).toArray T_api_ID, blk g3 (Rdr.cells Q_api_Block (b.p, b.h, v)).toArray T_api_Block] → (has t N b.p = false ∨ b.h < 1 ∨ b.h - 1 ≠ levH t N b.p) →
      rdP P (Instr.build T_api_ID #[]) z fun t20 => stN 32 (.pointer (some ⟨g4, 0, none⟩)) t20 z fun w => ldN 32 (.pointer (some ⟨g4, 0, none⟩)) w.heap fun r1 => R (.tuple #[r1, .int .i64 31]) w := fun hz h => bad _ 31 hz (by
    unfold addE
    rw [if_neg (by simpa using h1), if_neg h2, if_pos h]) (by decide)
  by_cases hp : has t N b.p = true
  case neg =>
    have hp : has t N b.p = false := by simpa using hp
    simp only [hp, nilc_some, fad_mk, pik_true, pik_false, cnd_true, cnd_false, gif_same, gif_tf, gif_ft, gif_undef, bi_add, bi_sub, bi_mul, bi_eql, bi_neq, bi_lss, bi_leq, bi_gtr, bi_geq, notB_bool, cvi_int, lenS_mk, lenT_mk, ext0, ext1, ext2, nilP_mk, nilS_mk, fldv_agg, jn0_k, jn1_k, jn2_k, jn1_and, jn1_or, ex_some, Option.isNone_some, Option.isNone_none, Bool.false_bne, Bool.bne_true, Bool.bne_false, Bool.true_bne, Bool.not_true, Bool.not_false, Bool.and_true, Bool.true_and, Bool.and_false, Bool.false_and, Bool.or_true, Bool.true_or, Bool.or_false, Bool.false_or, cond_true, cond_false, List.getElem?_toArray, List.getElem?_cons_zero, List.getElem?_cons_succ, Nat.zero_add, Nat.add_zero, Nat.reduceAdd, forall_const]
    exact k31 hs8 (.inl hp)
  simp only [hp, nilc_some, fad_mk, pik_true, pik_false, cnd_true, cnd_false, gif_same, gif_tf, gif_ft, gif_undef, bi_add, bi_sub, bi_mul, bi_eql, bi_neq, bi_lss, bi_leq, bi_gtr, bi_geq, notB_bool, cvi_int, lenS_mk, lenT_mk, ext0, ext1, ext2, nilP_mk, nilS_mk, fldv_agg, jn0_k, jn1_k, jn2_k, jn1_and, jn1_or, ex_some, Option.isNone_some, Option.isNone_none, Bool.false_bne, Bool.bne_true, Bool.bne_false, Bool.true_bne, Bool.not_true, Bool.not_false, Bool.and_true, Bool.true_and, Bool.and_false, Bool.false_and, Bool.or_true, Bool.true_or, Bool.or_false, Bool.false_or, cond_true, cond_false, List.getElem?_toArray, List.getElem?_cons_zero, List.getElem?_cons_succ, Nat.zero_add, Nat.add_zero, Nat.reduceAdd, forall_const]
  refine jn1_dup ?_
  refine rdS_ld (v := .int .i64 b.h) (fun u hu K hk => (L_api_Block__Height (Sep.blk (Sep.p2 hu)) K).mpr hk) ?_
  simp only [nilc_some, fad_mk, pik_true, pik_false, cnd_true, cnd_false, gif_same, gif_tf, gif_ft, gif_undef, bi_add, bi_sub, bi_mul, bi_eql, bi_neq, bi_lss, bi_leq, bi_gtr, bi_geq, notB_bool, cvi_int, lenS_mk, lenT_mk, ext0, ext1, ext2, nilP_mk, nilS_mk, fldv_agg, jn0_k, jn1_k, jn2_k, jn1_and, jn1_or, ex_some, Option.isNone_some, Option.isNone_none, Bool.false_bne, Bool.bne_true, Bool.bne_false, Bool.true_bne, Bool.not_true, Bool.not_false, Bool.and_true, Bool.true_and, Bool.and_false, Bool.false_and, Bool.or_true, Bool.true_or, Bool.or_false, Bool.false_or, cond_true, cond_false, List.getElem?_toArray, List.getElem?_cons_zero, List.getElem?_cons_succ, Nat.zero_add, Nat.add_zero, Nat.reduceAdd, forall_const]
  by_cases h4 : b.h < 1
  case pos =>
    simp only [decide_eq_true h4, nilc_some, fad_mk, pik_true, pik_false, cnd_true, cnd_false, gif_same, gif_tf, gif_ft, gif_undef, bi_add, bi_sub, bi_mul, bi_eql, bi_neq, bi_lss, bi_leq, bi_gtr, bi_geq, notB_bool, cvi_int, lenS_mk, lenT_mk, ext0, ext1, ext2, nilP_mk, nilS_mk, fldv_agg, jn0_k, jn1_k, jn2_k, jn1_and, jn1_or, ex_some, Option.isNone_some, Option.isNone_none, Bool.false_bne, Bool.bne_true, Bool.bne_false, Bool.true_bne, Bool.not_true, Bool.not_false, Bool.and_true, Bool.true_and, Bool.and_false, Bool.false_and, Bool.or_true, Bool.true_or, Bool.or_false, Bool.false_or, cond_true, cond_false, List.getElem?_toArray, List.getElem?_cons_zero, List.getElem?_cons_succ, Nat.zero_add, Nat.add_zero, Nat.reduceAdd, forall_const]
    exact k31 hs8 (.inr (.inl h4))
  simp only [decide_eq_false h4, nilc_some, fad_mk, pik_true, pik_false, cnd_true, cnd_false, gif_same, gif_tf, gif_ft, gif_undef, bi_add, bi_sub, bi_mul, bi_eql, bi_neq, bi_lss, bi_leq, bi_gtr, bi_geq, notB_bool, cvi_int, lenS_mk, lenT_mk, ext0, ext1, ext2, nilP_mk, nilS_mk, fldv_agg, jn0_k, jn1_k, jn2_k, jn1_and, jn1_or, ex_some, Option.isNone_some, Option.isNone_none, Bool.false_bne, Bool.bne_true, Bool.bne_false, Bool.true_bne, Bool.not_true, Bool.not_false, Bool.and_true, Bool.true_and, Bool.and_false, Bool.false_and, Bool.or_true, Bool.true_or, Bool.or_false, Bool.false_or, cond_true, cond_false, List.getElem?_toArray, List.getElem?_cons_zero, List.getElem?_cons_succ, Nat.zero_add, Nat.add_zero, Nat.reduceAdd, forall_const]
  refine jn1_dup ?_
  refine ⟨kv b.p, fun u hu => (L_api_Block__Parent (Sep.blk (Sep.p2 hu)) _).mpr rfl, ?_⟩
  refine rdS_ld (v := .int .i64 b.h) (fun u hu K hk => (L_api_Block__Height (Sep.blk (Sep.p2 hu)) K).mpr hk) ?_
  simp only [nilc_some, fad_mk, pik_true, pik_false, cnd_true, cnd_false, gif_same, gif_tf, gif_ft, gif_undef, bi_add, bi_sub, bi_mul, bi_eql, bi_neq, bi_lss, bi_leq, bi_gtr, bi_geq, notB_bool, cvi_int, lenS_mk, lenT_mk, ext0, ext1, ext2, nilP_mk, nilS_mk, fldv_agg, jn0_k, jn1_k, jn2_k, jn1_and, jn1_or, ex_some, Option.isNone_some, Option.isNone_none, Bool.false_bne, Bool.bne_true, Bool.bne_false, Bool.true_bne, Bool.not_true, Bool.not_false, Bool.and_true, Bool.true_and, Bool.and_false, Bool.false_and, Bool.or_true, Bool.true_or, Bool.or_false, Bool.false_or, cond_true, cond_false, List.getElem?_toArray, List.getElem?_cons_zero, List.getElem?_cons_succ, Nat.zero_add, Nat.add_zero, Nat.reduceAdd, forall_const]
  rw [wi64 (by omega) (by unfold maxI at hh; omega)]
  refine efS_i (cal_i (HeightR_spec (hs8.rf hr) hn b.p hp) ?_)
  rintro _ w9 ⟨rfl, hf9⟩
  have hs9 := hs8.old hf9
  refine ⟨hs9, ?_⟩
  simp only [nilc_some, fad_mk, pik_true, pik_false, cnd_true, cnd_false, gif_same, gif_tf, gif_ft, gif_undef, bi_add, bi_sub, bi_mul, bi_eql, bi_neq, bi_lss, bi_leq, bi_gtr, bi_geq, notB_bool, cvi_int, lenS_mk, lenT_mk, ext0, ext1, ext2, nilP_mk, nilS_mk, fldv_agg, jn0_k, jn1_k, jn2_k, jn1_and, jn1_or, ex_some, Option.isNone_some, Option.isNone_none, Bool.false_bne, Bool.bne_true, Bool.bne_false, Bool.true_bne, Bool.not_true, Bool.not_false, Bool.and_true, Bool.true_and, Bool.and_false, Bool.false_and, Bool.or_true, Bool.true_or, Bool.or_false, Bool.false_or, cond_true, cond_false, List.getElem?_toArray, List.getElem?_cons_zero, List.getElem?_cons_succ, Nat.zero_add, Nat.add_zero, Nat.reduceAdd, forall_const]
  rw [cnd_bool]
  refine ⟨fun h => ?_, fun h => ?_⟩
  · have h : b.h - 1 ≠ levH t N b.p := by have := bne_iff_ne.1 h; omega
    exact k31 hs9 (.inr (.inr h))
  have h5 : b.h - 1 = levH t N b.p := by have := (bne_eq_false_iff_eq).1 h; omega
  have h31 : ¬ (has t N b.p = false ∨ b.h < 1 ∨ b.h - 1 ≠ levH t N b.p) := by
    rintro (h | h | h)
    · rw [hp] at h; cases h
    · exact h4 h
    · exact h h5
  refine drw_s hs9 fun w10 hs10 hh10 => ?_
  have hr10 := hs10.rf hr
  obtain ⟨T, fr, hc⟩ := hr10.cell
  simp only [nilc_some, fad_mk, pik_true, pik_false, cnd_true, cnd_false, gif_same, gif_tf, gif_ft, gif_undef, bi_add, bi_sub, bi_mul, bi_eql, bi_neq, bi_lss, bi_leq, bi_gtr, bi_geq, notB_bool, cvi_int, lenS_mk, lenT_mk, ext0, ext1, ext2, nilP_mk, nilS_mk, fldv_agg, jn0_k, jn1_k, jn2_k, jn1_and, jn1_or, ex_some, Option.isNone_some, Option.isNone_none, Bool.false_bne, Bool.bne_true, Bool.bne_false, Bool.true_bne, Bool.not_true, Bool.not_false, Bool.and_true, Bool.true_and, Bool.and_false, Bool.false_and, Bool.or_true, Bool.true_or, Bool.or_false, Bool.false_or, cond_true, cond_false, List.getElem?_toArray, List.getElem?_cons_zero, List.getElem?_cons_succ, Nat.zero_add, Nat.add_zero, Nat.reduceAdd, forall_const, L_flurryref11_Tree hc, L_flurryref11_Tree__R hc, L_flurryref11_Tree__H hc, L_flurryref11_Tree__Most hc, L_flurryref11_Tree__L hc, hr10.len]
  rw [cnd_bool]
  refine ⟨fun h => ?_, fun h => ?_⟩
  · have h : t.most ≤ (N.length : Int) := by simpa using h
    exact bad w10 6 hs10 (by unfold addE; rw [if_neg (by simpa using h1), if_neg h2, if_neg h31, if_pos h]) (by decide)
  have h6 : ¬ t.most ≤ (N.length : Int) := by simpa using h
  have hE : addE t N b = 0 := by unfold addE; rw [if_neg (by simpa using h1), if_neg h2, if_neg h31, if_neg h6]
  have hl : b.d.length ≤ 200 := by
    unfold Blk.chk at h1
    split at h1
    · cases h1
    · omega
  have hsA := hs.join hs10
  refine drH_S hsA fun w11 hs11 hh11 => ?_
  refine rdS_ld (v := lv) (fun u hu K hk => (L_flurryref11_Tree__L (Sep.p3 hu).blk K).mpr hk) ?_
  refine ⟨kv b.id, fun u hu => (L_api_ID (Sep.blk hu) _).mpr rfl, ?_⟩
  refine ⟨bq b v, fun u hu => (L_api_Block (Sep.blk (Sep.p2 hu)) _).mpr rfl, ?_⟩
  refine efS_i (cal_i (rbClone_spec (b := b) (v := v) (by rw [hh11]; exact hb.fr hs10.fr0 (off_nil _)) (by omega)) ?_)
  rintro _ w12 ⟨vd, rfl, hs12⟩
  have hs12' := hs11.join hs12
  have h1d := Sep.one hs12'
  refine ⟨Sep.tail hs12', ?_⟩
  refine ⟨.agg (Rdr.cells Q_flurryref11_Node (b.id, b.p, b.h, vd)).toArray, fun u hu => by rw [B_flurryref11_Node_0_1], ?_⟩
  refine efS_i (rows_lit (q := Q_flurryref11_Node) hs12' S_sl_flurryref11_Node (l := [(b.id, b.p, b.h, vd)]) (V := fun a => .agg (Rdr.cells Q_flurryref11_Node a).toArray) (fun a => rfl) rfl rfl (by decide) (by decide) fun g7 w13 hs13 => ⟨hs13.tail.tail, ?_⟩)
  refine efC_efP (rows_app (q := Q_flurryref11_Node) S_sl_flurryref11_Node U_sl_flurryref11_Node (by simp) (Sep.pick hs13 [6, 0, 1, 2, 3, 4, 5] 7) (Sep.rows hs13) ?_ (by simp; omega) (by simp; omega) fun v14 w14 hs14 => ?_)
  · simp only [List.flatMap_cons, List.flatMap_nil, List.append_nil]
    exact onePair oneVec (onePair oneVec (onePair oneI (oneV h1d)))
  have hs15 := Sep.pick hs14 [6, 0, 1, 2, 3, 4, 5] 7
  refine efC_st1 (St_flurryref11_Tree__L hs15 (Sep.oneR hs14) fun w16 hs16 => ?_)
  simp only [L_api_ID (Sep.blk (Sep.p4 hs16))]
  refine St_api_ID (Sep.pick hs16 [5, 0, 1, 2, 3, 4, 6] 7) fun w17 hs17 => ?_
  simp only [L_api_ID (Sep.blk hs17)]
  refine hR _ _ (.inr ⟨hE, rfl, v14, vd, ?_⟩)
  have e2 : (N ++ [(b.id, b, vd, 0)]).map TN.nd = N.map TN.nd ++ [(b.id, b.p, b.h, vd)] := by simp [TN.nd]
  unfold rfH
  rw [e2]
  exact Sep.pick hs17 [1, 2, 4] 7
theorem KidsR_spec (hr : RfR w.heap g lv t N) (hn : N.length ≤ 1000000) (k : Vec 32) : cal P f_ref11_Tree_Kids [.pointer (some ⟨g, 0, none⟩), kv k] w fun r w' => Sep w w' [rows (rVec 32) r (if has t N k = true then nms (N.filter fun x => decide (x.2.1.p = k)) else [])] := by
  refine s_ref11_Tree_Kids fun R hR => ?_
  unfold c_ref11_Tree_Kids
  refine bxQ (Sep.start w) fun g3 w1 hs1 => ?_
  refine ⟨fun x y z => ∃ i : Nat, y = .int .i64 i ∧ i ≤ N.length ∧ (has t N k = false → i = 0) ∧ Sep w z [rows (rVec 32) x (nms ((N.take i).filter fun x => decide (x.2.1.p = k))), blk g3 (Rdr.cells (rVec 32) k).toArray T_api_ID], fun _ y _ => (N.length - RowKit.intOf y).toNat, ⟨0, rfl, by omega, fun _ => rfl, hs1.nilR⟩, ?_⟩
  rintro x _ w2 ⟨i, rfl, hi, hh, hs2⟩ -
  have hr2 := hs2.rf hr
  obtain ⟨T, fr, hc⟩ := hr2.cell
  simp only [nilc_some, fad_mk, pik_true, pik_false, cnd_true, cnd_false, gif_same, gif_tf, gif_ft, gif_undef, bi_add, bi_sub, bi_mul, bi_eql, bi_neq, bi_lss, bi_leq, bi_gtr, bi_geq, notB_bool, cvi_int, lenS_mk, lenT_mk, ext0, ext1, ext2, nilP_mk, nilS_mk, fldv_agg, jn0_k, jn1_k, jn2_k, jn1_and, jn1_or, ex_some, Option.isNone_some, Option.isNone_none, Bool.false_bne, Bool.bne_true, Bool.bne_false, Bool.true_bne, Bool.not_true, Bool.not_false, Bool.and_true, Bool.true_and, Bool.and_false, Bool.false_and, Bool.or_true, Bool.true_or, Bool.or_false, Bool.false_or, cond_true, cond_false, List.getElem?_toArray, List.getElem?_cons_zero, List.getElem?_cons_succ, Nat.zero_add, Nat.add_zero, Nat.reduceAdd, forall_const, L_flurryref11_Tree hc, L_flurryref11_Tree__R hc, L_flurryref11_Tree__H hc, L_flurryref11_Tree__Most hc, L_flurryref11_Tree__L hc, hr2.len]
  refine jn1_dup ?_
  rw [gif_bool]
  refine ⟨fun h => ?_, fun h => ?_⟩
  case refine_2 =>
    have h : decide ((i : Int) < (N.length : Int)) = false := by simpa using h
    have hge : i = N.length := by simp at h; omega
    rw [h]
    simp only [nilc_some, fad_mk, pik_true, pik_false, cnd_true, cnd_false, gif_same, gif_tf, gif_ft, gif_undef, bi_add, bi_sub, bi_mul, bi_eql, bi_neq, bi_lss, bi_leq, bi_gtr, bi_geq, notB_bool, cvi_int, lenS_mk, lenT_mk, ext0, ext1, ext2, nilP_mk, nilS_mk, fldv_agg, jn0_k, jn1_k, jn2_k, jn1_and, jn1_or, ex_some, Option.isNone_some, Option.isNone_none, Bool.false_bne, Bool.bne_true, Bool.bne_false, Bool.true_bne, Bool.not_true, Bool.not_false, Bool.and_true, Bool.true_and, Bool.and_false, Bool.false_and, Bool.or_true, Bool.true_or, Bool.or_false, Bool.false_or, cond_true, cond_false, List.getElem?_toArray, List.getElem?_cons_zero, List.getElem?_cons_succ, Nat.zero_add, Nat.add_zero, Nat.reduceAdd, forall_const]
    refine hR _ _ ?_
    subst hge
    rw [List.take_of_length_le (Nat.le_refl _)] at hs2
    have := Sep.dropR (As := [_]) hs2
    by_cases hk : has t N k = true
    · rw [if_pos hk]; exact this
    · have hk' : has t N k = false := by simpa using hk
      have hN : N = [] := List.eq_nil_of_length_eq_zero (hh hk')
      rw [if_neg hk]
      rw [hN] at this
      exact this
  have hlt : i < N.length := by simp at h; omega
  rw [h]
  simp only [L_api_ID (Sep.p1 hs2).blk]
  refine cal_i (HasR_spec hr2 hn k) ?_
  rintro _ w3 ⟨rfl, hf3⟩
  have hs3 := hs2.old hf3
  simp only [nilc_some, fad_mk, pik_true, pik_false, cnd_true, cnd_false, gif_same, gif_tf, gif_ft, gif_undef, bi_add, bi_sub, bi_mul, bi_eql, bi_neq, bi_lss, bi_leq, bi_gtr, bi_geq, notB_bool, cvi_int, lenS_mk, lenT_mk, ext0, ext1, ext2, nilP_mk, nilS_mk, fldv_agg, jn0_k, jn1_k, jn2_k, jn1_and, jn1_or, ex_some, Option.isNone_some, Option.isNone_none, Bool.false_bne, Bool.bne_true, Bool.bne_false, Bool.true_bne, Bool.not_true, Bool.not_false, Bool.and_true, Bool.true_and, Bool.and_false, Bool.false_and, Bool.or_true, Bool.true_or, Bool.or_false, Bool.false_or, cond_true, cond_false, List.getElem?_toArray, List.getElem?_cons_zero, List.getElem?_cons_succ, Nat.zero_add, Nat.add_zero, Nat.reduceAdd, forall_const]
  rw [cnd_bool]
  refine ⟨fun hk => ?_, fun hk => ?_⟩
  · obtain ⟨x1, hx⟩ : ∃ x, N[i]? = some x := ⟨_, List.getElem?_eq_getElem hlt⟩
    have e : (N.take (i + 1)).filter (fun x => decide (x.2.1.p = k)) = (N.take i).filter (fun x => decide (x.2.1.p = k)) ++ (if x1.2.1.p = k then [x1] else []) := by
      rw [List.take_add_one, hx, List.filter_append]
      congr 1
      by_cases h : x1.2.1.p = k <;> simp [h]
    refine ⟨fun y z => Sep w z [rows (rVec 32) y (nms ((N.take (i + 1)).filter fun x => decide (x.2.1.p = k))), blk g3 (Rdr.cells (rVec 32) k).toArray T_api_ID], ?_, ?_⟩
    · refine drw_s hs3 fun w4 hs4 _ => ?_
      have hr4 := hs4.rf hr
      obtain ⟨T, fr, hc⟩ := hr4.cell
      obtain ⟨g2, o, ha, hix⟩ := hr4.ix hx
      simp only [nilc_some, fad_mk, pik_true, pik_false, cnd_true, cnd_false, gif_same, gif_tf, gif_ft, gif_undef, bi_add, bi_sub, bi_mul, bi_eql, bi_neq, bi_lss, bi_leq, bi_gtr, bi_geq, notB_bool, cvi_int, lenS_mk, lenT_mk, ext0, ext1, ext2, nilP_mk, nilS_mk, fldv_agg, jn0_k, jn1_k, jn2_k, jn1_and, jn1_or, ex_some, Option.isNone_some, Option.isNone_none, Bool.false_bne, Bool.bne_true, Bool.bne_false, Bool.true_bne, Bool.not_true, Bool.not_false, Bool.and_true, Bool.true_and, Bool.and_false, Bool.false_and, Bool.or_true, Bool.true_or, Bool.or_false, Bool.false_or, cond_true, cond_false, List.getElem?_toArray, List.getElem?_cons_zero, List.getElem?_cons_succ, Nat.zero_add, Nat.add_zero, Nat.reduceAdd, forall_const, L_flurryref11_Tree hc, L_flurryref11_Tree__R hc, L_flurryref11_Tree__H hc, L_flurryref11_Tree__Most hc, L_flurryref11_Tree__L hc, hix, LA_flurryref11_Node__B_Parent ha, L_api_ID (Sep.p1 hs4).blk, eq_api_ID]
      rw [cnd_bool]
      refine ⟨fun h => ?_, fun h => ?_⟩
      · have h : x1.2.1.p = k := of_decide_eq_true h
        rw [LA_flurryref11_Node__ID ha]
        have htl : (nms ((N.take i).filter fun x => decide (x.2.1.p = k))).length ≤ 1000000 := by
          rw [List.length_map]
          exact Nat.le_trans (List.length_filter_le _ _) (Nat.le_trans (List.length_take_le _ _) (by omega))
        refine bldI hs4 fun a z hz => ?_
        refine appI hz.p1 (Sep.rows hz) htl fun x' z' hz' => ?_
        rw [e, if_pos h]
        have e3 : nms ((N.take i).filter (fun x => decide (x.2.1.p = k)) ++ [x1]) = nms ((N.take i).filter fun x => decide (x.2.1.p = k)) ++ [x1.1] := by simp [nms]
        rw [e3]
        exact Sep.pick hz' [0, 2] 3
      · have h : ¬ x1.2.1.p = k := of_decide_eq_false h
        rw [e, if_neg h, List.append_nil]
        exact hs4
    · rintro y z hz _
      rw [wi64 (by omega) (by omega)]
      exact ⟨⟨i + 1, by simp, by omega, (fun h => by rw [hk] at h; cases h), hz⟩, by simp [RowKit.intOf]; omega⟩
  · refine hR _ _ ?_
    have h0 := hh hk
    subst h0
    rw [if_neg (by rw [hk]; simp)]
    exact Sep.dropR (As := [_]) hs3
def pathMu (t : Tr) (N : List TN) (y : Value) : Nat := if RowKit.intOf y < 0 then 0 else ((N[(RowKit.intOf y).toNat]?).map fun x => hgt t N x.1).getD 0
theorem pathMu_i {i : Nat} {x : TN} (h : N[i]? = some x) : pathMu t N (.int .i64 (i : Int)) = hgt t N x.1 := by
  unfold pathMu
  have e : RowKit.intOf (.int .i64 (i : Int)) = (i : Int) := rfl
  rw [e, if_neg (by omega), Int.toNat_natCast, h]
  rfl
theorem pathMu_n : pathMu t N (.int .i64 (-1)) = 0 := rfl
theorem PathR_spec (hr : RfR w.heap g lv t N) (hw : TrW t N) (hn : N.length ≤ 1000000) (a : Vec 32) (hh : hgt t N a ≤ 1000000) : cal P f_ref11_Tree_Path [.pointer (some ⟨g, 0, none⟩), kv a] w fun r w' => Sep w w' [rows (rVec 32) r (pathOf t N a)] := by
  refine s_ref11_Tree_Path fun R hR => ?_
  unfold c_ref11_Tree_Path
  refine bxQ (Sep.start w) fun g3 w1 hs1 => ?_
  simp only [L_api_ID hs1.blk]
  refine cal_i (placeR_spec (hs1.rf hr) hn a) ?_
  rintro _ w2 ⟨rfl, hf2⟩
  have hs2 := hs1.old hf2
  have hpa : (pathOf t N a).length ≤ 1000000 := by
    cases hha : has t N a with
    | true => rw [path_len hw a hha]; exact hh
    | false => rw [path_none hha]; simp
  refine ⟨fun x y z => ∃ (k : Vec 32) (D : List (Vec 32)), y = .int .i64 (plI (placeOf k N 0)) ∧ pathOf t N k ++ D = pathOf t N a ∧ Sep w z [rows (rVec 32) x D, blk g3 (Rdr.cells (rVec 32) a).toArray T_api_ID], fun _ y _ => pathMu t N y, ⟨a, [], rfl, by simp, hs2.nilR⟩, ?_⟩
  rintro x _ w3 ⟨k, D, rfl, hD, hs3⟩ -
  simp only [nilc_some, fad_mk, pik_true, pik_false, cnd_true, cnd_false, gif_same, gif_tf, gif_ft, gif_undef, bi_add, bi_sub, bi_mul, bi_eql, bi_neq, bi_lss, bi_leq, bi_gtr, bi_geq, notB_bool, cvi_int, lenS_mk, lenT_mk, ext0, ext1, ext2, nilP_mk, nilS_mk, fldv_agg, jn0_k, jn1_k, jn2_k, jn1_and, jn1_or, ex_some, Option.isNone_some, Option.isNone_none, Bool.false_bne, Bool.bne_true, Bool.bne_false, Bool.true_bne, Bool.not_true, Bool.not_false, Bool.and_true, Bool.true_and, Bool.and_false, Bool.false_and, Bool.or_true, Bool.true_or, Bool.or_false, Bool.false_or, cond_true, cond_false, List.getElem?_toArray, List.getElem?_cons_zero, List.getElem?_cons_succ, Nat.zero_add, Nat.add_zero, Nat.reduceAdd, forall_const]
  cases hno : nodeOf k N with
  | none =>
    rw [place_none hno]
    simp only [nilc_some, fad_mk, pik_true, pik_false, cnd_true, cnd_false, gif_same, gif_tf, gif_ft, gif_undef, bi_add, bi_sub, bi_mul, bi_eql, bi_neq, bi_lss, bi_leq, bi_gtr, bi_geq, notB_bool, cvi_int, lenS_mk, lenT_mk, ext0, ext1, ext2, nilP_mk, nilS_mk, fldv_agg, jn0_k, jn1_k, jn2_k, jn1_and, jn1_or, ex_some, Option.isNone_some, Option.isNone_none, Bool.false_bne, Bool.bne_true, Bool.bne_false, Bool.true_bne, Bool.not_true, Bool.not_false, Bool.and_true, Bool.true_and, Bool.and_false, Bool.false_and, Bool.or_true, Bool.true_or, Bool.or_false, Bool.false_or, cond_true, cond_false, List.getElem?_toArray, List.getElem?_cons_zero, List.getElem?_cons_succ, Nat.zero_add, Nat.add_zero, Nat.reduceAdd, forall_const, show decide ((0 : Int) ≤ -1) = false from rfl]
    refine hR _ _ ?_
    have hk : pathOf t N k = [] := by
      by_cases hkr : k = t.root
      · rw [hkr, path_root]
      · refine path_none ?_
        unfold has blkOf
        rw [hno, decide_eq_false hkr]
        rfl
    rw [hk, List.nil_append] at hD
    rw [hD] at hs3
    exact Sep.dropR (As := [_]) hs3
  | some x1 =>
    obtain ⟨i, hi, hx, hx1⟩ := place_node hno
    have hb : blkOf k N = some x1.2.1 := by unfold blkOf; rw [hno]; rfl
    have hkh : has t N k = true := blk_has hb
    have hkr := blk_nroot hw hb
    have hup : upOf k N = x1.2.1.p := by unfold upOf nb; rw [hno]; rfl
    rw [hi]
    have hr3 := hs3.rf hr
    obtain ⟨T, fr, hc⟩ := hr3.cell
    obtain ⟨g2, o, ha, hix⟩ := hr3.ix hx
    have e0 : decide ((0 : Int) ≤ (i : Int)) = true := by simp
    simp only [nilc_some, fad_mk, pik_true, pik_false, cnd_true, cnd_false, gif_same, gif_tf, gif_ft, gif_undef, bi_add, bi_sub, bi_mul, bi_eql, bi_neq, bi_lss, bi_leq, bi_gtr, bi_geq, notB_bool, cvi_int, lenS_mk, lenT_mk, ext0, ext1, ext2, nilP_mk, nilS_mk, fldv_agg, jn0_k, jn1_k, jn2_k, jn1_and, jn1_or, ex_some, Option.isNone_some, Option.isNone_none, Bool.false_bne, Bool.bne_true, Bool.bne_false, Bool.true_bne, Bool.not_true, Bool.not_false, Bool.and_true, Bool.true_and, Bool.and_false, Bool.false_and, Bool.or_true, Bool.true_or, Bool.or_false, Bool.false_or, cond_true, cond_false, List.getElem?_toArray, List.getElem?_cons_zero, List.getElem?_cons_succ, Nat.zero_add, Nat.add_zero, Nat.reduceAdd, forall_const, e0, L_flurryref11_Tree hc, L_flurryref11_Tree__R hc, L_flurryref11_Tree__H hc, L_flurryref11_Tree__Most hc, L_flurryref11_Tree__L hc, hix]
    rw [LA_flurryref11_Node__ID ha]
    refine bldI hs3 fun a' z hz => ?_
    refine rows_app S_sl_api_ID U_sl_api_ID (by simp) hz (Sep.rows hz.p1) (fun u hu => by obtain ⟨y, hy, hu⟩ := List.mem_flatMap.1 hu; exact oneVec u hu) (by
      have := congrArg List.length hD
      simp at this ⊢
      omega) (by
      have := congrArg List.length hD
      simp at this ⊢
      omega) fun v8 w8 hs8 => ?_
    have hr8 := hs8.rf hr
    obtain ⟨T, fr, hc⟩ := hr8.cell
    obtain ⟨g2, o, ha, hix⟩ := hr8.ix hx
    simp only [nilc_some, fad_mk, pik_true, pik_false, cnd_true, cnd_false, gif_same, gif_tf, gif_ft, gif_undef, bi_add, bi_sub, bi_mul, bi_eql, bi_neq, bi_lss, bi_leq, bi_gtr, bi_geq, notB_bool, cvi_int, lenS_mk, lenT_mk, ext0, ext1, ext2, nilP_mk, nilS_mk, fldv_agg, jn0_k, jn1_k, jn2_k, jn1_and, jn1_or, ex_some, Option.isNone_some, Option.isNone_none, Bool.false_bne, Bool.bne_true, Bool.bne_false, Bool.true_bne, Bool.not_true, Bool.not_false, Bool.and_true, Bool.true_and, Bool.and_false, Bool.false_and, Bool.or_true, Bool.true_or, Bool.or_false, Bool.false_or, cond_true, cond_false, List.getElem?_toArray, List.getElem?_cons_zero, List.getElem?_cons_succ, Nat.zero_add, Nat.add_zero, Nat.reduceAdd, forall_const, L_flurryref11_Tree hc, L_flurryref11_Tree__R hc, L_flurryref11_Tree__H hc, L_flurryref11_Tree__Most hc, L_flurryref11_Tree__L hc, hix]
    rw [LA_flurryref11_Node__B_Parent ha]
    refine cal_i (placeR_spec hr8 hn x1.2.1.p) ?_
    rintro _ w9 ⟨rfl, hf9⟩
    have hs9 := hs8.old hf9
    refine ⟨⟨x1.2.1.p, k :: D, rfl, ?_, ?_⟩, ?_⟩
    · rw [← hD, path_step hw hkh hkr, hup]
      simp
    · have : x1.nd.1 = k := hx1
      rw [show (k :: D) = [x1.nd.1] ++ D by rw [this]; rfl]
      exact Sep.pick hs9 [0, 2] 3
    · rw [pathMu_i hx, hx1]
      have h2 := (up_has hw hkh hkr).2
      rw [hup] at h2
      cases hno2 : nodeOf x1.2.1.p N with
      | none =>
        rw [place_none hno2, pathMu_n]
        omega
      | some x2 =>
        obtain ⟨i2, hi2, hx2, hx21⟩ := place_node hno2
        rw [hi2, pathMu_i hx2, hx21]
        omega
end
end Go.Fx
set_option linter.unusedVariables false
set_option linter.unusedSimpArgs false
namespace Go.Fx
section
variable {P : Program} {n : Nat} {w0 w : World} {As : List Asn}
abbrev mit (gi gm c : Nat) (D : List (Ent n)) : Asn := Asn.obj gi (.mapIter (some gm) c (D.map (·.2.2)).toArray c)
theorem range_s {M T V gm c : Nat} {E : List (Ent n)} {K : Value → World → Prop} (hM : P.underlying M = some (.map T V)) (hs : Sep w0 w As) (hm : w.heap[gm]? = some (.map (ents E) c))
    (h : ∀ gi w', Sep w0 w' (mit (n := n) gi gm c [] :: As) → K (.pointer (some ⟨gi, 0, none⟩)) w') : efP P (Instr.range M (.map (some gm))) w K := by
  refine ⟨.pointer (some ⟨w.heap.size, 0, none⟩), w.alloc (.mapIter (some gm) c #[] c), ?_, h _ _ (hs.new (fr_alloc w _) (B := mit w.heap.size gm c []) ⟨alloc_new w _, rfl⟩ (by simp))⟩
  unfold Instr.range
  simp only [Sem.run_bind, run_underlying hM, Result.andThen_ok, get_map hm, Sem.run_pure]
  rfl
theorem mem_left {E : List (Ent n)} {D : List (Ent n)} {e : MapEntry} : e ∈ (leftOf (ents E) (D.map (·.2.2)).toArray).toList ↔ ∃ x ∈ E, e = entM x ∧ x.2.2 ∉ D.map (·.2.2) := by
  unfold leftOf ents
  simp only [Array.toList_filter, List.mem_filter, List.mem_map, Bool.not_eq_true', Array.contains_toList, List.contains_toArray]
  constructor
  · rintro ⟨⟨x, hx, rfl⟩, h⟩
    refine ⟨x, hx, rfl, ?_⟩
    rintro ⟨y, hy, he⟩
    have : (List.map (fun x => x.2.2) D).contains (entM x).born = true := by
      rw [List.contains_iff_mem]
      exact List.mem_map.2 ⟨y, hy, he⟩
    rw [h] at this
    cases this
  · rintro ⟨x, hx, rfl, h⟩
    refine ⟨⟨x, hx, rfl⟩, ?_⟩
    cases hc : (List.map (fun x => x.2.2) D).contains (entM x).born with
    | false => rfl
    | true =>
      rw [List.contains_iff_mem] at hc
      exact absurd (List.mem_map.1 hc) h
theorem next_s {gi gm c ty : Nat} {E D : List (Ent n)} {K : Value → World → Prop} (hs : Sep w0 w (mit gi gm c D :: As)) (hm : w.heap[gm]? = some (.map (ents E) c)) (hlt : ∀ x ∈ E, x.2.2 < c)
    (hend : (∀ x ∈ E, x.2.2 ∈ D.map (·.2.2)) → K (.tuple #[.bool false]) w)
    (hstep : ∀ x w', x ∈ E → x.2.2 ∉ D.map (·.2.2) → w'.heap[gm]? = some (.map (ents E) c) → Sep w0 w' (mit gi gm c (D ++ [x]) :: As) → K (.tuple #[.bool true, kv x.1, x.2.1]) w') :
    efP P (Instr.next (.pointer (some ⟨gi, 0, none⟩)) false ty) w K := by
  have hg : w.heap[gi]? = some (.mapIter (some gm) c (D.map (·.2.2)).toArray c) := by
    obtain ⟨F, ⟨hb, rfl⟩, hk⟩ := hs.upd
    exact hb
  have hne : gm ≠ gi := fun he => by rw [he, hg] at hm; cases hm
  rcases run_next_at (P := P) w ty gi gm c c (D.map (·.2.2)).toArray (ents E) c hg hm (fun x hx => by
      obtain ⟨y, hy, rfl⟩ : ∃ y ∈ E, entM y = x := by simpa [ents] using hx
      exact hlt y hy) (Nat.le_refl _) with ⟨h0, hr⟩ | ⟨e, he, w1, hw1, hr⟩
  · refine ⟨_, _, hr, hend fun x hx => ?_⟩
    cases hc : decide (x.2.2 ∈ D.map (·.2.2)) with
    | true => exact of_decide_eq_true hc
    | false =>
      have := mem_left.2 ⟨x, hx, rfl, of_decide_eq_false hc⟩
      have h1 : (leftOf (ents E) (D.map (·.2.2)).toArray).toList = [] := List.eq_nil_of_length_eq_zero (by simpa using h0)
      rw [h1] at this
      cases this
  · obtain ⟨x, hx, rfl, hn⟩ := mem_left.1 he
    refine ⟨_, _, hr, ?_⟩
    have hs1 : Sep w0 w1 (mit gi gm c D :: As) := by
      rcases hw1 with rfl | rfl
      · exact hs
      · exact hs.drew _
    have hm1 : w1.heap[gm]? = some (.map (ents E) c) := by rcases hw1 with rfl | rfl <;> exact hm
    obtain ⟨F, ⟨hb, rfl⟩, hk⟩ := hs1.upd
    have e1 : (D.map (·.2.2)).toArray.push (entM x).born = ((D ++ [x]).map (·.2.2)).toArray := by
      apply Array.ext'
      simp [entM]
    rw [e1]
    refine hstep x _ hx hn ?_ (hk _ [gi] (mit gi gm c (D ++ [x])) ⟨setBlk_self w1 gi _ _ hb, rfl⟩ (fr_setBlk w1 gi _) (Grew.refl _ _))
    show (setBlk w1 gi _).heap[gm]? = _
    rw [setBlk_ne w1 _ hne]
    exact hm1
theorem entry_i {gi gm c : Nat} {E D : List (Ent n)} {x : Ent n} {h : Heap} (hg : w.heap[gi]? = some (.mapIter (some gm) c ((D ++ [x]).map (·.2.2)).toArray c)) (hm : w.heap[gm]? = some (.map (ents E) c)) (hx : x ∈ E) (hb : (E.map (·.2.2)).Nodup) (K : Value → Prop) :
    rdP P (Instr.entry (.pointer (some ⟨gi, 0, none⟩))) w K = K (.tuple #[kv x.1, x.2.1]) := by
  refine rdP_eq ?_ K
  have e1 : (D.map (·.2.2)).toArray.push (entM x).born = ((D ++ [x]).map (·.2.2)).toArray := by
    apply Array.ext'
    simp [entM]
  rw [← e1] at hg
  exact run_entry_at w gi gm c _ (ents E) c (entM x) hg hm (by simp only [ents, List.mem_map]; exact ⟨x, hx, rfl⟩) (by
    have : (ents E).toList.map (·.born) = E.map (·.2.2) := by simp [ents, entM, Function.comp_def]
    rw [this]; exact hb)
/-- A key's value, by the entries. -/
theorem getE_iff {k : Vec n} {v : Value} : ∀ {l : List (Ent n)}, (l.map (·.1)).Nodup → (getE k l = some v ↔ ∃ x ∈ l, x.1 = k ∧ x.2.1 = v)
  | [], _ => by simp [getE]
  | y :: l, hn => by
    rw [List.map_cons, List.nodup_cons] at hn
    have ih := getE_iff (k := k) (v := v) hn.2
    unfold getE at ih ⊢
    by_cases hk : k = y.1
    · subst hk
      rw [List.find?_cons_of_pos (by simp)]
      simp only [Option.map_some, Option.some.injEq]
      constructor
      · intro h; exact ⟨y, by simp, rfl, h⟩
      · rintro ⟨x, hx, h1, h2⟩
        rcases List.mem_cons.1 hx with rfl | hx
        · exact h2
        · exact absurd (h1 ▸ List.mem_map_of_mem hx) hn.1
    · rw [List.find?_cons_of_neg (by simpa using hk), ih]
      constructor
      · rintro ⟨x, hx, h⟩; exact ⟨x, by simp [hx], h⟩
      · rintro ⟨x, hx, h1, h2⟩
        rcases List.mem_cons.1 hx with rfl | hx
        · exact absurd h1.symm hk
        · exact ⟨x, hx, h1, h2⟩
theorem getE_perm {k : Vec n} {l m : List (Ent n)} (hp : l.Perm m) (hn : (l.map (·.1)).Nodup) : getE k l = getE k m := by
  have hn2 : (m.map (·.1)).Nodup := (hp.map _).nodup_iff.1 hn
  cases h1 : getE k l with
  | some v =>
    obtain ⟨x, hx, h⟩ := (getE_iff hn).1 h1
    exact ((getE_iff hn2).2 ⟨x, hp.mem_iff.1 hx, h⟩).symm
  | none =>
    cases h2 : getE k m with
    | none => rfl
    | some v =>
      obtain ⟨x, hx, h⟩ := (getE_iff hn2).1 h2
      rw [(getE_iff hn).2 ⟨x, hp.mem_iff.2 hx, h⟩] at h1
      cases h1
theorem getE_same {k : Vec n} : ∀ {l m : List (Ent n)}, l.map (fun x => (x.1, x.2.1)) = m.map (fun x => (x.1, x.2.1)) → getE k l = getE k m
  | [], [], _ => rfl
  | [], _ :: _, h => by simp at h
  | _ :: _, [], h => by simp at h
  | x :: l, y :: m, h => by
    simp only [List.map_cons, List.cons.injEq, Prod.mk.injEq] at h
    have ih := getE_same (k := k) h.2
    unfold getE at ih ⊢
    by_cases hk : k = x.1
    · rw [List.find?_cons_of_pos (by simpa using hk), List.find?_cons_of_pos (by rw [← h.1.1]; simpa using hk)]
      simp [h.1.2]
    · rw [List.find?_cons_of_neg (by simpa using hk), List.find?_cons_of_neg (by rw [← h.1.1]; simpa using hk)]
      exact ih
end
end Go.Fx
set_option linter.unusedVariables false
set_option linter.unusedSimpArgs false
namespace Go.Fx
/-- How many entries an iterator has told. -/
def itSeen (gi : Nat) (z : World) : Nat := match z.heap[gi]? with
  | some (.mapIter _ _ seen _) => seen.size
  | _ => 0
section
variable {w0 w w' : World} {As : List Asn} {g gm c : Nat} {ov : Value} {t : Tr} {N : List TN}
theorem idsClone_spec {v : Value} {l : List (Vec 32)} (hv : Rows' (rVec 32) w.heap v l) (hl : l.length ≤ 1000000) : cal P f_slices_Clone_api_ID_api_ID [v] w fun r w' => Sep w w' [rows (rVec 32) r l] := by
  refine s_slices_Clone_api_ID_api_ID fun R hR => ?_
  unfold c_slices_Clone_api_ID_api_ID
  obtain ⟨a, c, rfl, hl', hh⟩ := id hv
  cases a with
  | none =>
    have h0 : l = [] := by
      rcases hh with h0 | ⟨_, _, _, _, _, h, _⟩
      · refine List.eq_nil_of_length_eq_zero ?_
        have : (rVec 32).size = 32 := rfl
        rw [this] at h0
        omega
      · cases h
    subst h0
    simp only [nilc_some, fad_mk, pik_true, pik_false, cnd_true, cnd_false, gif_same, gif_tf, gif_ft, gif_undef, bi_add, bi_sub, bi_mul, bi_eql, bi_neq, bi_lss, bi_leq, bi_gtr, bi_geq, notB_bool, cvi_int, lenS_mk, lenT_mk, ext0, ext1, ext2, nilP_mk, nilS_mk, fldv_agg, jn0_k, jn1_k, jn2_k, jn1_and, jn1_or, ex_some, Option.isNone_some, Option.isNone_none, Bool.false_bne, Bool.bne_true, Bool.bne_false, Bool.true_bne, Bool.not_true, Bool.not_false, Bool.and_true, Bool.true_and, Bool.and_false, Bool.false_and, Bool.or_true, Bool.true_or, Bool.or_false, Bool.false_or, cond_true, cond_false, List.getElem?_toArray, List.getElem?_cons_zero, List.getElem?_cons_succ, Nat.zero_add, Nat.add_zero, Nat.reduceAdd, forall_const]
    exact hR _ _ (Sep.start w).nilR
  | some a =>
    simp only [nilc_some, fad_mk, pik_true, pik_false, cnd_true, cnd_false, gif_same, gif_tf, gif_ft, gif_undef, bi_add, bi_sub, bi_mul, bi_eql, bi_neq, bi_lss, bi_leq, bi_gtr, bi_geq, notB_bool, cvi_int, lenS_mk, lenT_mk, ext0, ext1, ext2, nilP_mk, nilS_mk, fldv_agg, jn0_k, jn1_k, jn2_k, jn1_and, jn1_or, ex_some, Option.isNone_some, Option.isNone_none, Bool.false_bne, Bool.bne_true, Bool.bne_false, Bool.true_bne, Bool.not_true, Bool.not_false, Bool.and_true, Bool.true_and, Bool.and_false, Bool.false_and, Bool.or_true, Bool.true_or, Bool.or_false, Bool.false_or, cond_true, cond_false, List.getElem?_toArray, List.getElem?_cons_zero, List.getElem?_cons_succ, Nat.zero_add, Nat.add_zero, Nat.reduceAdd, forall_const]
    have hb1 : ∀ w : World, (Instr.buildSlice T_sl_api_ID 0 #[]).run P w = .ok (.slice (some ⟨w.heap.size, 0, none⟩) 0 0) (w.alloc (.cells ([] : List Value).toArray T_api_ID)) := fun w => by kernel_rfl
    refine build_s (size := 32) (Sep.start w) (cs := []) rfl (hb1 w) fun g w1 hs1 => ?_
    replace hs1 : Sep w w1 [rows (rVec 32) (.slice (some ⟨g, 0, none⟩) 0 0) []] := hs1
    refine rows_app S_sl_api_ID U_sl_api_ID (by simp) hs1 (hv.fr hs1.fr0) ?_ (by simp; omega) (by simp; omega) fun v8 w8 hs8 => ?_
    · intro u hu
      obtain ⟨x, hx, hu⟩ := List.mem_flatMap.1 hu
      exact oneVec u hu
    · exact hR _ _ (by simpa using hs8)
theorem tClone_spec (hr : TrR w.heap g gm ov t N c) (hn : N.length ≤ 1000000) : cal P f_tree_Tree_Clone [.pointer (some ⟨g, 0, none⟩)] w fun r w' => ∃ g' gm' ov' c', r = .pointer (some ⟨g', 0, none⟩) ∧ Sep w w' (trH g' gm' ov' t N c') := by
  refine s_tree_Tree_Clone fun R hR => ?_
  unfold c_tree_Tree_Clone
  refine cal_i (tnone_spec hr) ?_
  rintro _ _ ⟨rfl, rfl⟩
  simp only [nilc_some, fad_mk, pik_true, pik_false, cnd_true, cnd_false, gif_same, gif_tf, gif_ft, gif_undef, bi_add, bi_sub, bi_mul, bi_eql, bi_neq, bi_lss, bi_leq, bi_gtr, bi_geq, notB_bool, cvi_int, lenS_mk, lenT_mk, ext0, ext1, ext2, nilP_mk, nilS_mk, fldv_agg, jn0_k, jn1_k, jn2_k, jn1_and, jn1_or, ex_some, Option.isNone_some, Option.isNone_none, Bool.false_bne, Bool.bne_true, Bool.bne_false, Bool.true_bne, Bool.not_true, Bool.not_false, Bool.and_true, Bool.true_and, Bool.and_false, Bool.false_and, Bool.or_true, Bool.true_or, Bool.or_false, Bool.false_or, cond_true, cond_false, List.getElem?_toArray, List.getElem?_cons_zero, List.getElem?_cons_succ, Nat.zero_add, Nat.add_zero, Nat.reduceAdd, forall_const]
  refine drH_S (Sep.start w) fun w1 hs1 _ => ?_
  refine ⟨fun y z => ∃ g' gm' ov', y = .pointer (some ⟨g', 0, none⟩) ∧ Sep w z [blk g' (Rdr.cells Q_tree_Tree (tq t gm' ov')).toArray T_tree_Tree, mp (n := 32) gm' [] 0, rows (rVec 32) ov' (N.map (·.1))], ?_, ?_⟩
  · have rd : ∀ {u : World}, Sep w u [] → ∃ T fr, u.heap[g]? = some (.cells (Rdr.cells Q_tree_Tree (tq t gm ov)).toArray T fr) := fun hu => (hu.tr hr).cell
    refine ⟨kv t.root, fun u hu => by obtain ⟨T, fr, hc⟩ := rd hu; exact (L_tree_Tree__root hc _).mpr rfl, ?_⟩
    refine rdS_ld (v := .int .i64 t.ht) (fun u hu K hk => by obtain ⟨T, fr, hc⟩ := rd hu; exact (L_tree_Tree__height hc K).mpr hk) ?_
    refine rdS_ld (v := .int .i64 t.most) (fun u hu K hk => by obtain ⟨T, fr, hc⟩ := rd hu; exact (L_tree_Tree__most hc K).mpr hk) ?_
    refine rdS_ld (v := ov) (fun u hu K hk => by obtain ⟨T, fr, hc⟩ := rd hu; exact (L_tree_Tree__order hc K).mpr hk) ?_
    refine ⟨?_, ?_, trivial⟩
    · refine efS_i (makeMap_s (n := 32) hs1 fun gm' w2 hs2 => ⟨hs2.tail, ?_⟩)
      refine efS_i (cal_i (idsClone_spec (hr.ord.fr hs2.fr0) (by simpa using hn)) ?_)
      intro ov' w3 hs3
      replace hs3 := hs2.join hs3
      have h1 := Sep.oneR hs3
      refine ⟨hs3.tail.tail, ?_⟩
      refine ⟨.agg (Rdr.cells Q_tree_Tree (tq t gm' ov')).toArray, fun u hu => by rw [B_tree_Tree_0_1_2_3_4_5 rfl h1], ?_⟩
      refine bxQ hs3 fun g' w4 hs4 => ?_
      exact ⟨Eq w4, rfl, g', gm', ov', rfl, Sep.pick hs4 [0, 2, 1] 3⟩
    · refine efS_i (cal_i (idsClone_spec (hr.ord.fr hs1.fr0) (by simpa using hn)) ?_)
      intro ov' w3 hs3
      replace hs3 := hs1.join hs3
      have h1 := Sep.oneR hs3
      refine ⟨hs3.tail, ?_⟩
      refine efS_i (makeMap_s (n := 32) hs3 fun gm' w2 hs2 => ⟨hs2.tail.tail, ?_⟩)
      refine ⟨.agg (Rdr.cells Q_tree_Tree (tq t gm' ov')).toArray, fun u hu => by rw [B_tree_Tree_0_1_2_3_4_5 rfl h1], ?_⟩
      refine bxQ hs2 fun g' w4 hs4 => ?_
      exact ⟨Eq w4, rfl, g', gm', ov', rfl, hs4⟩
  rintro _ w2 ⟨g', gm', ov', rfl, hs2⟩ _
  have hr2 := hs2.tr hr
  obtain ⟨T, fr, hc⟩ := hr2.cell
  simp only [nilc_some, fad_mk, pik_true, pik_false, cnd_true, cnd_false, gif_same, gif_tf, gif_ft, gif_undef, bi_add, bi_sub, bi_mul, bi_eql, bi_neq, bi_lss, bi_leq, bi_gtr, bi_geq, notB_bool, cvi_int, lenS_mk, lenT_mk, ext0, ext1, ext2, nilP_mk, nilS_mk, fldv_agg, jn0_k, jn1_k, jn2_k, jn1_and, jn1_or, ex_some, Option.isNone_some, Option.isNone_none, Bool.false_bne, Bool.bne_true, Bool.bne_false, Bool.true_bne, Bool.not_true, Bool.not_false, Bool.and_true, Bool.true_and, Bool.and_false, Bool.false_and, Bool.or_true, Bool.true_or, Bool.or_false, Bool.false_or, cond_true, cond_false, List.getElem?_toArray, List.getElem?_cons_zero, List.getElem?_cons_succ, Nat.zero_add, Nat.add_zero, Nat.reduceAdd, forall_const, L_tree_Tree hc, L_tree_Tree__made hc, L_tree_Tree__root hc, L_tree_Tree__height hc, L_tree_Tree__most hc, L_tree_Tree__blocks hc, L_tree_Tree__order hc]
  obtain ⟨E, hE, hm⟩ := hr.map
  have fm : ∀ {z : World}, Fr [] w z → z.heap[gm]? = some (.map (ents E) c) := fun hf => hf.blk hm (by simp)
  refine range_s U_map_api_ID_api_Block hs2 (fm hs2.fr0) fun gi w3 hs3 => ?_
  refine ⟨fun z => ∃ (D U E2 : List (Ent 32)) (c2 : Nat), (D ++ U).Perm E ∧ E2.map (fun x => (x.1, x.2.1)) = D.map (fun x => (x.1, x.2.1)) ∧ (E2.map (·.2.2)).Nodup ∧ (∀ x ∈ E2, x.2.2 < c2) ∧
    Sep w z [mit gi gm c D, blk g' (Rdr.cells Q_tree_Tree (tq t gm' ov')).toArray T_tree_Tree, mp gm' E2 c2, rows (rVec 32) ov' (N.map (·.1))], fun z => E.length - itSeen gi z, ⟨[], E, [], 0, List.Perm.refl _, rfl, by simp, (fun x hx => by cases hx), hs3⟩, ?_⟩
  rintro w4 ⟨D, U, E2, c2, hp, h2, hb2, hlt2, hs4⟩ -
  have hnb : ((D ++ U).map (·.2.2)).Nodup := ((hp.map _).nodup_iff).2 hE.bn
  have hnk : ((D ++ U).map (·.1)).Nodup := ((hp.map _).nodup_iff).2 hE.nd
  have hk2 : E2.map (·.1) = D.map (·.1) := by
    have := congrArg (List.map Prod.fst) h2
    simpa [Function.comp_def] using this
  refine next_s (E := E) (D := D) hs4 (fm hs4.fr0) hE.lt (fun hall => ?_) fun x w5 hx hxn hm5 hs5 => ?_
  · simp only [nilc_some, fad_mk, pik_true, pik_false, cnd_true, cnd_false, gif_same, gif_tf, gif_ft, gif_undef, bi_add, bi_sub, bi_mul, bi_eql, bi_neq, bi_lss, bi_leq, bi_gtr, bi_geq, notB_bool, cvi_int, lenS_mk, lenT_mk, ext0, ext1, ext2, nilP_mk, nilS_mk, fldv_agg, jn0_k, jn1_k, jn2_k, jn1_and, jn1_or, ex_some, Option.isNone_some, Option.isNone_none, Bool.false_bne, Bool.bne_true, Bool.bne_false, Bool.true_bne, Bool.not_true, Bool.not_false, Bool.and_true, Bool.true_and, Bool.and_false, Bool.false_and, Bool.or_true, Bool.true_or, Bool.or_false, Bool.false_or, cond_true, cond_false, List.getElem?_toArray, List.getElem?_cons_zero, List.getElem?_cons_succ, Nat.zero_add, Nat.add_zero, Nat.reduceAdd, forall_const]
    have hU : U = [] := by
      cases U with
      | nil => rfl
      | cons u U =>
        exfalso
        have hu := hall u (hp.mem_iff.1 (by simp))
        rw [List.map_append, List.nodup_append] at hnb
        exact hnb.2.2 _ hu _ (by simp) rfl
    subst hU
    rw [List.append_nil] at hp hnk
    refine hR _ _ ⟨g', gm', ov', c2, rfl, ?_⟩
    have hEO : EOk E2 N c2 := by
      refine ⟨by rw [hk2]; exact (hp.map _).trans hE.pm, by rw [hk2]; exact hnk, fun k => ?_, hb2, hlt2⟩
      rw [getE_same h2, getE_perm hp hnk, hE.get]
    have := mpN_close hEO (Sep.p1 (Sep.tail hs4))
    exact Sep.p1 this
  · have hxU : x ∈ U := by
      have := hp.mem_iff.2 hx
      rcases List.mem_append.1 this with h | h
      · exact absurd (List.mem_map_of_mem h) hxn
      · exact h
    obtain ⟨U', hU'⟩ : ∃ U', U.Perm (x :: U') := by
      obtain ⟨s1, s2, rfl⟩ := List.append_of_mem hxU
      exact ⟨s1 ++ s2, List.perm_middle⟩
    have hp' : ((D ++ [x]) ++ U').Perm E := by
      rw [List.append_assoc]
      exact ((hU'.symm.append_left D).trans hp)
    have hlen : D.length + U.length = E.length := by
      have := hp.length_eq
      simpa using this
    have hUl : 0 < U.length := List.length_pos_of_mem hxU
    simp only [nilc_some, fad_mk, pik_true, pik_false, cnd_true, cnd_false, gif_same, gif_tf, gif_ft, gif_undef, bi_add, bi_sub, bi_mul, bi_eql, bi_neq, bi_lss, bi_leq, bi_gtr, bi_geq, notB_bool, cvi_int, lenS_mk, lenT_mk, ext0, ext1, ext2, nilP_mk, nilS_mk, fldv_agg, jn0_k, jn1_k, jn2_k, jn1_and, jn1_or, ex_some, Option.isNone_some, Option.isNone_none, Bool.false_bne, Bool.bne_true, Bool.bne_false, Bool.true_bne, Bool.not_true, Bool.not_false, Bool.and_true, Bool.true_and, Bool.and_false, Bool.false_and, Bool.or_true, Bool.true_or, Bool.or_false, Bool.false_or, cond_true, cond_false, List.getElem?_toArray, List.getElem?_cons_zero, List.getElem?_cons_succ, Nat.zero_add, Nat.add_zero, Nat.reduceAdd, forall_const]
    have hgi : w5.heap[gi]? = some (.mapIter (some gm) c ((D ++ [x]).map (·.2.2)).toArray c) := by
      obtain ⟨F, ⟨hb, rfl⟩, hk⟩ := hs5.upd
      exact hb
    rw [entry_i (h := w5.heap) hgi hm5 hx hE.bn]
    obtain ⟨b, v, hbv⟩ : ∃ b v, x.2.1 = bq b v ∧ v.oneCell' = true := by
      have h1 : getE x.1 E = some x.2.1 := (getE_iff hE.nd).2 ⟨x, hx, rfl, rfl⟩
      rw [hE.get, getE_node] at h1
      cases hno : nodeOf x.1 N with
      | none => rw [hno] at h1; cases h1
      | some y =>
        rw [hno] at h1
        simp only [Option.map_some, Option.some.injEq] at h1
        exact ⟨y.2.1, y.2.2.1, h1.symm, (hr.dat y (List.mem_of_find?_eq_some hno)).one⟩
    simp only [nilc_some, fad_mk, pik_true, pik_false, cnd_true, cnd_false, gif_same, gif_tf, gif_ft, gif_undef, bi_add, bi_sub, bi_mul, bi_eql, bi_neq, bi_lss, bi_leq, bi_gtr, bi_geq, notB_bool, cvi_int, lenS_mk, lenT_mk, ext0, ext1, ext2, nilP_mk, nilS_mk, fldv_agg, jn0_k, jn1_k, jn2_k, jn1_and, jn1_or, ex_some, Option.isNone_some, Option.isNone_none, Bool.false_bne, Bool.bne_true, Bool.bne_false, Bool.true_bne, Bool.not_true, Bool.not_false, Bool.and_true, Bool.true_and, Bool.and_false, Bool.false_and, Bool.or_true, Bool.true_or, Bool.or_false, Bool.false_or, cond_true, cond_false, List.getElem?_toArray, List.getElem?_cons_zero, List.getElem?_cons_succ, Nat.zero_add, Nat.add_zero, Nat.reduceAdd, forall_const, hbv.1]
    refine alloc_s hs5 (A_api_ID w5) fun g4 w6 hs6 => ?_
    refine alloc_s hs6 (A_api_Block w6) fun g5 w7 hs7 => ?_
    refine St_api_ID (b := x.1) hs7.p1 fun w8 hs8 => ?_
    refine St_api_Block (b := (b.p, b.h, v)) hs8.p1 (one_api_Block hbv.2) fun w9 hs9 => ?_
    refine drH_S hs9 fun w10 hs10 _ => ?_
    refine rdS_ld (v := .map (some gm')) (fun u hu K hk => (L_tree_Tree__blocks (Sep.blk (Sep.p3 hu)) K).mpr hk) ?_
    refine ⟨kv x.1, fun u hu => (L_api_ID (Sep.blk (Sep.p1 hu)) _).mpr rfl, ?_⟩
    refine ⟨bq b v, fun u hu => (L_api_Block (Sep.blk hu) _).mpr rfl, ?_⟩
    have hnx : getE x.1 E2 = none := getE_nin (by
      rw [hk2]
      intro hm
      rw [(List.Perm.map _ (hU'.append_left D)).nodup_iff, List.map_append, List.nodup_append] at hnk
      exact hnk.2.2 _ hm _ (by simp) rfl)
    refine efC_efU (putNew_s (c := c2) U_map_api_ID_api_Block KT (Sep.p4 hs10) hnx fun w11 hs11 => ?_)
    have hs12 := Sep.pick hs11 [3, 4, 0, 5] 6
    refine ⟨⟨D ++ [x], U', E2 ++ [(x.1, bq b v, c2)], c2 + 1, hp', by simp [h2, hbv.1], ?_, ?_, hs12⟩, ?_⟩
    · rw [List.map_append, List.nodup_append]
      refine ⟨hb2, by simp, fun a ha e he hae => ?_⟩
      obtain ⟨z, hz, rfl⟩ := List.mem_map.1 ha
      have := hlt2 z hz
      simp only [List.map_cons, List.map_nil, List.mem_singleton] at he
      omega
    · intro z hz
      rcases List.mem_append.1 hz with hz | hz
      · have := hlt2 z hz; omega
      · obtain rfl : z = (x.1, bq b v, c2) := by simpa using hz
        show c2 < c2 + 1
        omega
    · have e1 : itSeen gi w11 = D.length + 1 := by
        have hgi : w11.heap[gi]? = some (.mapIter (some gm) c ((D ++ [x]).map (·.2.2)).toArray c) := by
          obtain ⟨F, ⟨hb, rfl⟩, hk⟩ := hs12.upd
          exact hb
        unfold itSeen
        rw [hgi]
        simp
      have e2 : itSeen gi w4 = D.length := by
        have hgi : w4.heap[gi]? = some (.mapIter (some gm) c (D.map (·.2.2)).toArray c) := by
          obtain ⟨F, ⟨hb, rfl⟩, hk⟩ := hs4.upd
          exact hb
        unfold itSeen
        rw [hgi]
        simp
      rw [e1, e2]
      omega
end
end Go.Fx
