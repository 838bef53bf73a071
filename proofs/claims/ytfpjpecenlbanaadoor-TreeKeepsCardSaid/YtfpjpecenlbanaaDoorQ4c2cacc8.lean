/-
  What is proved: for all arguments the law TreeKeeps returns true, and its arguments read as they did. Conditions: none.
-/
import Derived.KernelRfl
import Derived.Test.YtfpjpecenlbanaaDoorRows
import Derived.WalkKit
import Derived.ProofKit
import Derived.OpenShut
import Derived.ChangeOld
import Derived.Below
import Derived.Carry
import Derived.Test.YtfpjpecenlbanaaDoorCards
import Derived.Test.YtfpjpecenlbanaaDoorTie
import Derived.LaidMore
import Derived.Stop.Joined
import Derived.Test.YtfpjpecenlbanaaDoorQ5b21d0f1
import Derived.Test.YtfpjpecenlbanaaDoorQ086a18e5
import Derived.Test.YtfpjpecenlbanaaDoorQ46bb06d0
import Derived.Test.YtfpjpecenlbanaaDoorQ33833806
set_option linter.unusedVariables false
set_option linter.unusedSimpArgs false
namespace Go.Fx
def Blk.bytes (b : Blk) : List UInt8 := [0, 0] ++ b.p.1 ++ be 8 b.h.toNat ++ be 4 b.d.length ++ b.d
theorem Blk.bytes_len (b : Blk) : b.bytes.length = 46 + b.d.length := by
  have := b.p.2
  simp [Blk.bytes, be_length, this]
  omega
def Blk.out (b : Blk) : List UInt8 := if b.chk = 0 then b.bytes else []
def Blk.id (b : Blk) : Vec 32 := shaM b.bytes
def Blk.name (b : Blk) : Vec 32 := if b.chk = 0 then b.id else vz 32
abbrev maxI : Int := 9223372036854775807
section
variable {w0 w : World} {As : List Asn} {v u : Value} {a b : Blk} {g : Nat}
theorem at_par (hs : Sep w0 w (bb g b v :: As)) : At w.heap g 0 (bvs b.p.1) := by
  have := (Fld.fst Fld.self : Fld Q_api_Block (rVec 32) 0 _ _).at (At.blk (cs := Rdr.cells Q_api_Block (b.p, b.h, v)) hs.blk)
  exact this
theorem rd_par (hs : Sep w0 w (bb g b v :: As)) (c : Nat) : RdB w.heap (.slice (some ⟨g, 0, none⟩) 32 c) b.p.1 := by
  have := At.rd (c := c) (at_par hs)
  rwa [b.p.2] at this
theorem ld_par (hs : Sep w0 w (bb g b v :: As)) {i : Nat} (hi : i < 32) (K : Value → Prop) : ld1 (.pointer (some ⟨g, i, none⟩)) w.heap K = K (bv (b.p.1[i]'(by rw [b.p.2]; exact hi))) := by
  have hl := b.p.2
  have h1 : bvs b.p.1 = bvs (b.p.1.take i) ++ [bv (b.p.1[i]'(by omega))] ++ bvs (b.p.1.drop (i + 1)) := by
    have e : b.p.1 = b.p.1.take i ++ b.p.1[i]'(by omega) :: b.p.1.drop (i + 1) := by rw [← List.drop_eq_getElem_cons, List.take_append_drop]
    unfold bvs
    conv => lhs; rw [e]
    rw [List.map_append, List.map_cons]
    simp only [List.append_assoc, List.singleton_append]
  have ha := at_par hs
  rw [h1] at ha
  have := (ha.part (k := i) (by simp [bvs]; omega)).ld1 K
  rwa [Nat.zero_add] at this
theorem u64_h {h : Int} (h0 : 0 ≤ h) (h1 : h ≤ maxI) : IntKind.u64.wrap h = (h.toNat : Int) := by
  unfold maxI at h1
  rw [wu64i h0 (by omega)]; omega
theorem bkBytes_spec (hb : RdB w.heap v b.d) (hh : b.h ≤ maxI) : cal P f_block_Bytes [bq b v] w fun r w' => ∃ s, r = .tuple #[s, .int .i64 b.chk] ∧ Sep w w' [ownB s b.out] := by
  refine s_block_Bytes fun R hR => ?_
  unfold c_block_Bytes
  refine bxQ (Sep.start w) fun g w1 hs => ?_
  simp only [L_api_Block hs.blk, L_api_Block__Parent hs.blk, L_api_Block__Height hs.blk, L_api_Block__Data hs.blk]
  refine cal_i (Check_spec (hs.rdB hb)) ?_
  rintro _ w2 ⟨rfl, hf2⟩
  have hs2 := hs.old hf2
  rw [bi_neq]
  rcases Blk.chk_or b with h0 | h0
  · have hck := Blk.chk_ok h0
    have ho : b.out = b.bytes := by rw [Blk.out, if_pos h0]
    rw [ho, h0] at hR
    simp only [h0, nilc_some, fad_mk, pik_true, pik_false, cnd_true, cnd_false, gif_same, gif_tf, gif_ft, gif_undef, bi_add, bi_sub, bi_mul, bi_eql, bi_neq, bi_lss, bi_leq, bi_gtr, bi_geq, notB_bool, cvi_int, lenS_mk, lenT_mk, ext0, ext1, ext2, nilP_mk, nilS_mk, fldv_agg, jn0_k, jn1_k, jn2_k, jn1_and, jn1_or, ex_some, Option.isNone_some, Option.isNone_none, Bool.false_bne, Bool.bne_true, Bool.bne_false, Bool.true_bne, Bool.not_true, Bool.not_false, Bool.and_true, Bool.true_and, Bool.and_false, Bool.false_and, Bool.or_true, Bool.true_or, Bool.or_false, Bool.false_or, cond_true, cond_false, List.getElem?_toArray, List.getElem?_cons_zero, List.getElem?_cons_succ, Nat.zero_add, Nat.add_zero, Nat.reduceAdd, forall_const, show ((0 : Int) != 0) = false from rfl]
    refine cal_i (NewS 246 (by omega)) ?_
    rintro _ w3 ⟨gp, rfl, hs3⟩
    replace hs3 := hs2.join hs3
    refine cal_i (ShortS hs3 (v := 0) (by omega) (by omega) (by simp)) ?_
    rintro _ w4 ⟨rfl, s4, hs4⟩
    rw [sla_all]
    refine cal_i (FixedS hs4 (c := b.p.1) (by omega) (fun z hz => rd_par hz 32) (by simp [be_length, b.p.2])) ?_
    rintro _ w5 ⟨rfl, s5, hs5⟩
    simp only [nilc_some, fad_mk, pik_true, pik_false, cnd_true, cnd_false, gif_same, gif_tf, gif_ft, gif_undef, bi_add, bi_sub, bi_mul, bi_eql, bi_neq, bi_lss, bi_leq, bi_gtr, bi_geq, notB_bool, cvi_int, lenS_mk, lenT_mk, ext0, ext1, ext2, nilP_mk, nilS_mk, fldv_agg, jn0_k, jn1_k, jn2_k, jn1_and, jn1_or, ex_some, Option.isNone_some, Option.isNone_none, Bool.false_bne, Bool.bne_true, Bool.bne_false, Bool.true_bne, Bool.not_true, Bool.not_false, Bool.and_true, Bool.true_and, Bool.and_false, Bool.false_and, Bool.or_true, Bool.true_or, Bool.or_false, Bool.false_or, cond_true, cond_false, List.getElem?_toArray, List.getElem?_cons_zero, List.getElem?_cons_succ, Nat.zero_add, Nat.add_zero, Nat.reduceAdd, forall_const, L_api_Block (Sep.p2 hs5).blk, L_api_Block__Parent (Sep.p2 hs5).blk, L_api_Block__Height (Sep.p2 hs5).blk, L_api_Block__Data (Sep.p2 hs5).blk, u64_h hck.1 hh]
    refine cal_i (LongS hs5 (by omega) (by unfold maxI at hh; omega) (by simp [be_length, b.p.2])) ?_
    rintro _ w6 ⟨rfl, s6, hs6⟩
    simp only [nilc_some, fad_mk, pik_true, pik_false, cnd_true, cnd_false, gif_same, gif_tf, gif_ft, gif_undef, bi_add, bi_sub, bi_mul, bi_eql, bi_neq, bi_lss, bi_leq, bi_gtr, bi_geq, notB_bool, cvi_int, lenS_mk, lenT_mk, ext0, ext1, ext2, nilP_mk, nilS_mk, fldv_agg, jn0_k, jn1_k, jn2_k, jn1_and, jn1_or, ex_some, Option.isNone_some, Option.isNone_none, Bool.false_bne, Bool.bne_true, Bool.bne_false, Bool.true_bne, Bool.not_true, Bool.not_false, Bool.and_true, Bool.true_and, Bool.and_false, Bool.false_and, Bool.or_true, Bool.true_or, Bool.or_false, Bool.false_or, cond_true, cond_false, List.getElem?_toArray, List.getElem?_cons_zero, List.getElem?_cons_succ, Nat.zero_add, Nat.add_zero, Nat.reduceAdd, forall_const, L_api_Block (Sep.p2 hs6).blk, L_api_Block__Parent (Sep.p2 hs6).blk, L_api_Block__Height (Sep.p2 hs6).blk, L_api_Block__Data (Sep.p2 hs6).blk]
    refine cal_i (BytesS hs6 (by omega) (fun z hz => hz.rdB hb) (by simp [be_length, b.p.2]; omega)) ?_
    rintro _ w7 ⟨rfl, s7, hs7⟩
    refine cal_i (OutS hs7 (by simp [be_length, b.p.2]; omega)) ?_
    rintro _ w8 ⟨r, rfl, hs8⟩
    simp only [nilc_some, fad_mk, pik_true, pik_false, cnd_true, cnd_false, gif_same, gif_tf, gif_ft, gif_undef, bi_add, bi_sub, bi_mul, bi_eql, bi_neq, bi_lss, bi_leq, bi_gtr, bi_geq, notB_bool, cvi_int, lenS_mk, lenT_mk, ext0, ext1, ext2, nilP_mk, nilS_mk, fldv_agg, jn0_k, jn1_k, jn2_k, jn1_and, jn1_or, ex_some, Option.isNone_some, Option.isNone_none, Bool.false_bne, Bool.bne_true, Bool.bne_false, Bool.true_bne, Bool.not_true, Bool.not_false, Bool.and_true, Bool.true_and, Bool.and_false, Bool.false_and, Bool.or_true, Bool.true_or, Bool.or_false, Bool.false_or, cond_true, cond_false, List.getElem?_toArray, List.getElem?_cons_zero, List.getElem?_cons_succ, Nat.zero_add, Nat.add_zero, Nat.reduceAdd, forall_const]
    have e : [] ++ be 2 0 ++ b.p.1 ++ be 8 b.h.toNat ++ (be 4 b.d.length ++ b.d) = b.bytes := by
      simp [Blk.bytes, be]
    rw [e] at hs8
    exact hR _ _ ⟨r, rfl, hs8.d1.d1.d1⟩
  · have ho : b.out = [] := by rw [Blk.out, if_neg (by omega)]
    rw [ho, h0] at hR
    simp only [h0, nilc_some, fad_mk, pik_true, pik_false, cnd_true, cnd_false, gif_same, gif_tf, gif_ft, gif_undef, bi_add, bi_sub, bi_mul, bi_eql, bi_neq, bi_lss, bi_leq, bi_gtr, bi_geq, notB_bool, cvi_int, lenS_mk, lenT_mk, ext0, ext1, ext2, nilP_mk, nilS_mk, fldv_agg, jn0_k, jn1_k, jn2_k, jn1_and, jn1_or, ex_some, Option.isNone_some, Option.isNone_none, Bool.false_bne, Bool.bne_true, Bool.bne_false, Bool.true_bne, Bool.not_true, Bool.not_false, Bool.and_true, Bool.true_and, Bool.and_false, Bool.false_and, Bool.or_true, Bool.true_or, Bool.or_false, Bool.false_or, cond_true, cond_false, List.getElem?_toArray, List.getElem?_cons_zero, List.getElem?_cons_succ, Nat.zero_add, Nat.add_zero, Nat.reduceAdd, forall_const, show ((30 : Int) != 0) = true from rfl]
    exact hR _ _ ⟨_, rfl, hs2.tail.nil⟩
theorem rbBytes_spec (hb : RdB w.heap v b.d) (hh : b.h ≤ maxI) : cal P f_ref03_Bytes [bq b v] w fun r w' => ∃ s, r = .tuple #[s, .int .i64 b.chk] ∧ Sep w w' [ownB s b.out] := by
  refine s_ref03_Bytes fun R hR => ?_
  unfold c_ref03_Bytes
  refine bxQ (Sep.start w) fun g w1 hs => ?_
  simp only [L_api_Block hs.blk, L_api_Block__Parent hs.blk, L_api_Block__Height hs.blk, L_api_Block__Data hs.blk]
  refine cal_i (rCheck_spec (hs.rdB hb)) ?_
  rintro _ w2 ⟨rfl, hf2⟩
  have hs2 := hs.old hf2
  rw [bi_neq]
  rcases Blk.chk_or b with h0 | h0
  · have hck := Blk.chk_ok h0
    have hp := b.p.2
    have ho : b.out = b.bytes := by rw [Blk.out, if_pos h0]
    rw [ho, h0] at hR
    simp only [h0, nilc_some, fad_mk, pik_true, pik_false, cnd_true, cnd_false, gif_same, gif_tf, gif_ft, gif_undef, bi_add, bi_sub, bi_mul, bi_eql, bi_neq, bi_lss, bi_leq, bi_gtr, bi_geq, notB_bool, cvi_int, lenS_mk, lenT_mk, ext0, ext1, ext2, nilP_mk, nilS_mk, fldv_agg, jn0_k, jn1_k, jn2_k, jn1_and, jn1_or, ex_some, Option.isNone_some, Option.isNone_none, Bool.false_bne, Bool.bne_true, Bool.bne_false, Bool.true_bne, Bool.not_true, Bool.not_false, Bool.and_true, Bool.true_and, Bool.and_false, Bool.false_and, Bool.or_true, Bool.true_or, Bool.or_false, Bool.false_or, cond_true, cond_false, List.getElem?_toArray, List.getElem?_cons_zero, List.getElem?_cons_succ, Nat.zero_add, Nat.add_zero, Nat.reduceAdd, forall_const, show ((0 : Int) != 0) = false from rfl]
    have hr : ∀ w : World, (Instr.buildSlice T_sl_uint8 2 #[(0, .int .u8 0), (1, .int .u8 0)]).run P w = .ok (.slice (some ⟨w.heap.size, 0, none⟩) 2 2) (w.alloc (.cells (bvs [0, 0]).toArray T_uint8)) := fun w => by kernel_rfl
    refine buildB_s (l := [0, 0]) hs2 rfl (hr w2) fun g3 w3 hs3 => ?_
    refine ⟨fun x y w' => ∃ i : Nat, y = .int .i64 i ∧ i ≤ 32 ∧ Sep w w' [ownB x ([0, 0] ++ b.p.1.take i), bb g b v], fun _ y _ => (32 - RowKit.intOf y).toNat, ⟨0, rfl, by omega, by simpa using hs3⟩, ?_⟩
    rintro s4 _ w4 ⟨i, rfl, hi, hs4⟩ -
    simp only [nilc_some, fad_mk, pik_true, pik_false, cnd_true, cnd_false, gif_same, gif_tf, gif_ft, gif_undef, bi_add, bi_sub, bi_mul, bi_eql, bi_neq, bi_lss, bi_leq, bi_gtr, bi_geq, notB_bool, cvi_int, lenS_mk, lenT_mk, ext0, ext1, ext2, nilP_mk, nilS_mk, fldv_agg, jn0_k, jn1_k, jn2_k, jn1_and, jn1_or, ex_some, Option.isNone_some, Option.isNone_none, Bool.false_bne, Bool.bne_true, Bool.bne_false, Bool.true_bne, Bool.not_true, Bool.not_false, Bool.and_true, Bool.true_and, Bool.and_false, Bool.false_and, Bool.or_true, Bool.true_or, Bool.or_false, Bool.false_or, cond_true, cond_false, List.getElem?_toArray, List.getElem?_cons_zero, List.getElem?_cons_succ, Nat.zero_add, Nat.add_zero, Nat.reduceAdd, forall_const]
    rw [cnd_bool]
    refine ⟨fun h => ?_, fun h => ?_⟩
    · have h32 : i < 32 := by simp at h; omega
      rw [ixa_w .i64 h32, ld_par hs4.p1 h32]
      refine app1 hs4 (by simp; omega) fun s5 w5 hs5 => ?_
      rw [wi64 (by omega) (by omega)]
      refine ⟨⟨i + 1, by simp, by omega, ?_⟩, by simp [RowKit.intOf]; omega⟩
      rw [List.take_succ_eq_append_getElem (by omega), ← List.append_assoc]
      exact hs5
    · have h32 : i = 32 := by simp at h; omega
      subst h32
      rw [List.take_of_length_le (by omega)] at hs4
      simp only [nilc_some, fad_mk, pik_true, pik_false, cnd_true, cnd_false, gif_same, gif_tf, gif_ft, gif_undef, bi_add, bi_sub, bi_mul, bi_eql, bi_neq, bi_lss, bi_leq, bi_gtr, bi_geq, notB_bool, cvi_int, lenS_mk, lenT_mk, ext0, ext1, ext2, nilP_mk, nilS_mk, fldv_agg, jn0_k, jn1_k, jn2_k, jn1_and, jn1_or, ex_some, Option.isNone_some, Option.isNone_none, Bool.false_bne, Bool.bne_true, Bool.bne_false, Bool.true_bne, Bool.not_true, Bool.not_false, Bool.and_true, Bool.true_and, Bool.and_false, Bool.false_and, Bool.or_true, Bool.true_or, Bool.or_false, Bool.false_or, cond_true, cond_false, List.getElem?_toArray, List.getElem?_cons_zero, List.getElem?_cons_succ, Nat.zero_add, Nat.add_zero, Nat.reduceAdd, forall_const, L_api_Block (Sep.p1 hs4).blk, L_api_Block__Parent (Sep.p1 hs4).blk, L_api_Block__Height (Sep.p1 hs4).blk, L_api_Block__Data (Sep.p1 hs4).blk, u64_h hck.1 hh]
      refine cal_i (rNumS (n := 8) (by omega) (by unfold maxI at hh; omega)) ?_
      rintro t5 w5 hs5
      replace hs5 := (hs4.join hs5).p1
      refine appB_s ST_bytes UT_bytes (by simp) hs5 (Sep.rd hs5.p1) (by simp [be_length, hp]) fun s6 w6 hs6 => ?_
      replace hs6 := hs6.d1
      have hl := (hs6.rdB hb).len
      simp only [nilc_some, fad_mk, pik_true, pik_false, cnd_true, cnd_false, gif_same, gif_tf, gif_ft, gif_undef, bi_add, bi_sub, bi_mul, bi_eql, bi_neq, bi_lss, bi_leq, bi_gtr, bi_geq, notB_bool, cvi_int, lenS_mk, lenT_mk, ext0, ext1, ext2, nilP_mk, nilS_mk, fldv_agg, jn0_k, jn1_k, jn2_k, jn1_and, jn1_or, ex_some, Option.isNone_some, Option.isNone_none, Bool.false_bne, Bool.bne_true, Bool.bne_false, Bool.true_bne, Bool.not_true, Bool.not_false, Bool.and_true, Bool.true_and, Bool.and_false, Bool.false_and, Bool.or_true, Bool.true_or, Bool.or_false, Bool.false_or, cond_true, cond_false, List.getElem?_toArray, List.getElem?_cons_zero, List.getElem?_cons_succ, Nat.zero_add, Nat.add_zero, Nat.reduceAdd, forall_const, L_api_Block (Sep.p1 hs6).blk, L_api_Block__Parent (Sep.p1 hs6).blk, L_api_Block__Height (Sep.p1 hs6).blk, L_api_Block__Data (Sep.p1 hs6).blk, hl]
      rw [wu64i (by omega) (by omega)]
      refine cal_i (rNumS (n := 4) (by omega) (by omega)) ?_
      rintro t7 w7 hs7
      replace hs7 := (hs6.join hs7).p1
      refine appB_s ST_bytes UT_bytes (by simp) hs7 (Sep.rd hs7.p1) (by simp [be_length, hp]) fun s8 w8 hs8 => ?_
      replace hs8 := hs8.d1
      simp only [nilc_some, fad_mk, pik_true, pik_false, cnd_true, cnd_false, gif_same, gif_tf, gif_ft, gif_undef, bi_add, bi_sub, bi_mul, bi_eql, bi_neq, bi_lss, bi_leq, bi_gtr, bi_geq, notB_bool, cvi_int, lenS_mk, lenT_mk, ext0, ext1, ext2, nilP_mk, nilS_mk, fldv_agg, jn0_k, jn1_k, jn2_k, jn1_and, jn1_or, ex_some, Option.isNone_some, Option.isNone_none, Bool.false_bne, Bool.bne_true, Bool.bne_false, Bool.true_bne, Bool.not_true, Bool.not_false, Bool.and_true, Bool.true_and, Bool.and_false, Bool.false_and, Bool.or_true, Bool.true_or, Bool.or_false, Bool.false_or, cond_true, cond_false, List.getElem?_toArray, List.getElem?_cons_zero, List.getElem?_cons_succ, Nat.zero_add, Nat.add_zero, Nat.reduceAdd, forall_const, L_api_Block (Sep.p1 hs8).blk, L_api_Block__Parent (Sep.p1 hs8).blk, L_api_Block__Height (Sep.p1 hs8).blk, L_api_Block__Data (Sep.p1 hs8).blk]
      refine appB_s ST_bytes UT_bytes (by simp) hs8 (hs8.rdB hb) (by simp [be_length, hp]; omega) fun s9 w9 hs9 => ?_
      have e : [0, 0] ++ b.p.1 ++ be 8 b.h.toNat ++ be 4 b.d.length ++ b.d = b.bytes := rfl
      rw [e] at hs9
      exact hR _ _ ⟨s9, rfl, hs9.d1⟩
  · have ho : b.out = [] := by rw [Blk.out, if_neg (by omega)]
    rw [ho, h0] at hR
    simp only [h0, nilc_some, fad_mk, pik_true, pik_false, cnd_true, cnd_false, gif_same, gif_tf, gif_ft, gif_undef, bi_add, bi_sub, bi_mul, bi_eql, bi_neq, bi_lss, bi_leq, bi_gtr, bi_geq, notB_bool, cvi_int, lenS_mk, lenT_mk, ext0, ext1, ext2, nilP_mk, nilS_mk, fldv_agg, jn0_k, jn1_k, jn2_k, jn1_and, jn1_or, ex_some, Option.isNone_some, Option.isNone_none, Bool.false_bne, Bool.bne_true, Bool.bne_false, Bool.true_bne, Bool.not_true, Bool.not_false, Bool.and_true, Bool.true_and, Bool.and_false, Bool.false_and, Bool.or_true, Bool.true_or, Bool.or_false, Bool.false_or, cond_true, cond_false, List.getElem?_toArray, List.getElem?_cons_zero, List.getElem?_cons_succ, Nat.zero_add, Nat.add_zero, Nat.reduceAdd, forall_const, show ((30 : Int) != 0) = true from rfl]
    exact hR _ _ ⟨_, rfl, hs2.tail.nil⟩
theorem bkID_spec (hc : Cub w) (hb : RdB w.heap v b.d) (hh : b.h ≤ maxI) : cal P f_block_ID [bq b v] w fun r w' => r = .tuple #[.agg (Rdr.cells (rVec 32) b.name).toArray, .int .i64 b.chk] ∧ Fr [] w w' := by
  refine s_block_ID fun R hR => ?_
  unfold c_block_ID
  refine bxQ (Sep.start w) fun g w1 hs => ?_
  refine alloc_s hs (A_api_ID w1) fun g2 w2 hs2 => ?_
  simp only [L_api_Block (Sep.p1 hs2).blk, L_api_Block__Parent (Sep.p1 hs2).blk, L_api_Block__Height (Sep.p1 hs2).blk, L_api_Block__Data (Sep.p1 hs2).blk]
  refine cal_i (bkBytes_spec (hs2.rdB hb) hh) ?_
  rintro _ w3 ⟨s, rfl, hs3⟩
  replace hs3 := hs2.join hs3
  simp only [nilc_some, fad_mk, pik_true, pik_false, cnd_true, cnd_false, gif_same, gif_tf, gif_ft, gif_undef, bi_add, bi_sub, bi_mul, bi_eql, bi_neq, bi_lss, bi_leq, bi_gtr, bi_geq, notB_bool, cvi_int, lenS_mk, lenT_mk, ext0, ext1, ext2, nilP_mk, nilS_mk, fldv_agg, jn0_k, jn1_k, jn2_k, jn1_and, jn1_or, ex_some, Option.isNone_some, Option.isNone_none, Bool.false_bne, Bool.bne_true, Bool.bne_false, Bool.true_bne, Bool.not_true, Bool.not_false, Bool.and_true, Bool.true_and, Bool.and_false, Bool.false_and, Bool.or_true, Bool.true_or, Bool.or_false, Bool.false_or, cond_true, cond_false, List.getElem?_toArray, List.getElem?_cons_zero, List.getElem?_cons_succ, Nat.zero_add, Nat.add_zero, Nat.reduceAdd, forall_const]
  rcases Blk.chk_or b with h0 | h0
  · have hck := Blk.chk_ok h0
    have ho : b.out = b.bytes := by rw [Blk.out, if_pos h0]
    have hn : b.name = shaM b.bytes := by rw [Blk.name, if_pos h0, Blk.id]
    rw [ho] at hs3
    rw [hn, h0] at hR
    simp only [h0, nilc_some, fad_mk, pik_true, pik_false, cnd_true, cnd_false, gif_same, gif_tf, gif_ft, gif_undef, bi_add, bi_sub, bi_mul, bi_eql, bi_neq, bi_lss, bi_leq, bi_gtr, bi_geq, notB_bool, cvi_int, lenS_mk, lenT_mk, ext0, ext1, ext2, nilP_mk, nilS_mk, fldv_agg, jn0_k, jn1_k, jn2_k, jn1_and, jn1_or, ex_some, Option.isNone_some, Option.isNone_none, Bool.false_bne, Bool.bne_true, Bool.bne_false, Bool.true_bne, Bool.not_true, Bool.not_false, Bool.and_true, Bool.true_and, Bool.and_false, Bool.false_and, Bool.or_true, Bool.true_or, Bool.or_false, Bool.false_or, cond_true, cond_false, List.getElem?_toArray, List.getElem?_cons_zero, List.getElem?_cons_succ, Nat.zero_add, Nat.add_zero, Nat.reduceAdd, forall_const, show ((0 : Int) != 0) = false from rfl]
    refine cal_i (shaSum_spec (hc.fr hs3.fr0) (Sep.rd hs3) (by rw [Blk.bytes_len]; omega)) ?_
    rintro _ w4 ⟨rfl, hf4⟩
    have hs4 := (hs3.old hf4).p1
    refine St_api_ID hs4 fun w5 hs5 => ?_
    simp only [L_api_ID hs5.blk]
    exact hR _ _ ⟨rfl, hs5.fr0⟩
  · have hn : b.name = vz 32 := by rw [Blk.name, if_neg (by omega)]
    rw [hn, h0] at hR
    simp only [h0, nilc_some, fad_mk, pik_true, pik_false, cnd_true, cnd_false, gif_same, gif_tf, gif_ft, gif_undef, bi_add, bi_sub, bi_mul, bi_eql, bi_neq, bi_lss, bi_leq, bi_gtr, bi_geq, notB_bool, cvi_int, lenS_mk, lenT_mk, ext0, ext1, ext2, nilP_mk, nilS_mk, fldv_agg, jn0_k, jn1_k, jn2_k, jn1_and, jn1_or, ex_some, Option.isNone_some, Option.isNone_none, Bool.false_bne, Bool.bne_true, Bool.bne_false, Bool.true_bne, Bool.not_true, Bool.not_false, Bool.and_true, Bool.true_and, Bool.and_false, Bool.false_and, Bool.or_true, Bool.true_or, Bool.or_false, Bool.false_or, cond_true, cond_false, List.getElem?_toArray, List.getElem?_cons_zero, List.getElem?_cons_succ, Nat.zero_add, Nat.add_zero, Nat.reduceAdd, forall_const, B_ID0, show ((30 : Int) != 0) = true from rfl]
    refine St_api_ID hs3.p1 fun w5 hs5 => ?_
    simp only [L_api_ID hs5.blk]
    exact hR _ _ ⟨rfl, hs5.fr0⟩
theorem rbID_spec (hb : RdB w.heap v b.d) (hh : b.h ≤ maxI) : cal P f_ref03_ID [bq b v] w fun r w' => r = .tuple #[.agg (Rdr.cells (rVec 32) b.name).toArray, .int .i64 b.chk] ∧ Fr [] w w' := by
  refine s_ref03_ID fun R hR => ?_
  unfold c_ref03_ID
  refine bxQ (Sep.start w) fun g w1 hs => ?_
  refine alloc_s hs (A_api_ID w1) fun g2 w2 hs2 => ?_
  simp only [L_api_Block (Sep.p1 hs2).blk, L_api_Block__Parent (Sep.p1 hs2).blk, L_api_Block__Height (Sep.p1 hs2).blk, L_api_Block__Data (Sep.p1 hs2).blk]
  refine cal_i (rbBytes_spec (hs2.rdB hb) hh) ?_
  rintro _ w3 ⟨s, rfl, hs3⟩
  replace hs3 := hs2.join hs3
  simp only [nilc_some, fad_mk, pik_true, pik_false, cnd_true, cnd_false, gif_same, gif_tf, gif_ft, gif_undef, bi_add, bi_sub, bi_mul, bi_eql, bi_neq, bi_lss, bi_leq, bi_gtr, bi_geq, notB_bool, cvi_int, lenS_mk, lenT_mk, ext0, ext1, ext2, nilP_mk, nilS_mk, fldv_agg, jn0_k, jn1_k, jn2_k, jn1_and, jn1_or, ex_some, Option.isNone_some, Option.isNone_none, Bool.false_bne, Bool.bne_true, Bool.bne_false, Bool.true_bne, Bool.not_true, Bool.not_false, Bool.and_true, Bool.true_and, Bool.and_false, Bool.false_and, Bool.or_true, Bool.true_or, Bool.or_false, Bool.false_or, cond_true, cond_false, List.getElem?_toArray, List.getElem?_cons_zero, List.getElem?_cons_succ, Nat.zero_add, Nat.add_zero, Nat.reduceAdd, forall_const]
  rcases Blk.chk_or b with h0 | h0
  · have hck := Blk.chk_ok h0
    have ho : b.out = b.bytes := by rw [Blk.out, if_pos h0]
    have hn : b.name = shaM b.bytes := by rw [Blk.name, if_pos h0, Blk.id]
    rw [ho] at hs3
    rw [hn, h0] at hR
    simp only [h0, nilc_some, fad_mk, pik_true, pik_false, cnd_true, cnd_false, gif_same, gif_tf, gif_ft, gif_undef, bi_add, bi_sub, bi_mul, bi_eql, bi_neq, bi_lss, bi_leq, bi_gtr, bi_geq, notB_bool, cvi_int, lenS_mk, lenT_mk, ext0, ext1, ext2, nilP_mk, nilS_mk, fldv_agg, jn0_k, jn1_k, jn2_k, jn1_and, jn1_or, ex_some, Option.isNone_some, Option.isNone_none, Bool.false_bne, Bool.bne_true, Bool.bne_false, Bool.true_bne, Bool.not_true, Bool.not_false, Bool.and_true, Bool.true_and, Bool.and_false, Bool.false_and, Bool.or_true, Bool.true_or, Bool.or_false, Bool.false_or, cond_true, cond_false, List.getElem?_toArray, List.getElem?_cons_zero, List.getElem?_cons_succ, Nat.zero_add, Nat.add_zero, Nat.reduceAdd, forall_const, show ((0 : Int) != 0) = false from rfl]
    refine cal_i (rSum_spec (Sep.rd hs3) (by rw [Blk.bytes_len]; omega)) ?_
    rintro _ w4 ⟨rfl, hf4⟩
    have hs4 := (hs3.old hf4).p1
    refine St_api_ID hs4 fun w5 hs5 => ?_
    simp only [L_api_ID hs5.blk]
    exact hR _ _ ⟨rfl, hs5.fr0⟩
  · have hn : b.name = vz 32 := by rw [Blk.name, if_neg (by omega)]
    rw [hn, h0] at hR
    simp only [h0, nilc_some, fad_mk, pik_true, pik_false, cnd_true, cnd_false, gif_same, gif_tf, gif_ft, gif_undef, bi_add, bi_sub, bi_mul, bi_eql, bi_neq, bi_lss, bi_leq, bi_gtr, bi_geq, notB_bool, cvi_int, lenS_mk, lenT_mk, ext0, ext1, ext2, nilP_mk, nilS_mk, fldv_agg, jn0_k, jn1_k, jn2_k, jn1_and, jn1_or, ex_some, Option.isNone_some, Option.isNone_none, Bool.false_bne, Bool.bne_true, Bool.bne_false, Bool.true_bne, Bool.not_true, Bool.not_false, Bool.and_true, Bool.true_and, Bool.and_false, Bool.false_and, Bool.or_true, Bool.true_or, Bool.or_false, Bool.false_or, cond_true, cond_false, List.getElem?_toArray, List.getElem?_cons_zero, List.getElem?_cons_succ, Nat.zero_add, Nat.add_zero, Nat.reduceAdd, forall_const, B_ID0, show ((30 : Int) != 0) = true from rfl]
    refine St_api_ID hs3.p1 fun w5 hs5 => ?_
    simp only [L_api_ID hs5.blk]
    exact hR _ _ ⟨rfl, hs5.fr0⟩
end
end Go.Fx
set_option linter.unusedVariables false
set_option linter.unusedSimpArgs false
namespace Go.Fx
def Blk.kid (b : Blk) (d : List UInt8) : Blk := ⟨b.id, b.h + 1, d⟩
def Blk.kidOk (b : Blk) (d : List UInt8) : Prop := b.chk = 0 ∧ b.h ≠ maxI ∧ d.length ≤ 200
instance (b : Blk) (d : List UInt8) : Decidable (b.kidOk d) := by unfold Blk.kidOk; infer_instance
def Blk.child (b : Blk) (d : List UInt8) : Blk := if b.kidOk d then b.kid d else Blk.none
def Blk.childE (b : Blk) (d : List UInt8) : Int := if b.kidOk d then 0 else 30
def Blk.link (c b : Blk) : Int := if b.chk ≠ 0 ∨ c.chk ≠ 0 then 30 else if c.p = b.id ∧ c.h = b.h + 1 then 0 else 31
theorem Blk.kid_chk {b : Blk} {d : List UInt8} (h : 0 ≤ b.h) : (b.kid d).chk = if 200 < d.length then 30 else 0 := by
  unfold Blk.chk Blk.kid
  by_cases hd : 200 < d.length
  · rw [if_pos (.inr (.inl hd)), if_pos hd]
  · rw [if_neg (by simp; omega), if_neg hd]
theorem Blk.link_kid {b : Blk} {d : List UInt8} (hk : b.kidOk d) : (b.kid d).link b = 0 ∧ b.link (b.kid d) = 31 := by
  obtain ⟨h0, hm, hd⟩ := hk
  have hck := Blk.chk_ok h0
  have hkc : (b.kid d).chk = 0 := by rw [Blk.kid_chk hck.1, if_neg (by omega)]
  refine ⟨?_, ?_⟩
  · rw [Blk.link, if_neg (by rw [h0, hkc]; simp), if_pos ⟨rfl, rfl⟩]
  · rw [Blk.link, if_neg (by rw [h0, hkc]; simp), if_neg]
    rintro ⟨_, h2⟩
    have : b.h = b.h + 1 + 1 := h2
    omega
section
variable {w0 w : World} {As : List Asn} {v u : Value} {a b : Blk} {g : Nat} {d : List UInt8}
end
end Go.Fx
set_option linter.unusedVariables false
set_option linter.unusedSimpArgs false
namespace Go.Fx
def vec32 (l : List UInt8) : Vec 32 := ⟨(l ++ List.replicate 32 0).take 32, by simp⟩
theorem vec32_of {l : List UInt8} (h : 32 ≤ l.length) : (vec32 l).1 = l.take 32 := by
  show (l ++ List.replicate 32 0).take 32 = _
  rw [List.take_append_of_le_length h]
theorem vec32_eq {l : List UInt8} {p : Vec 32} (h : l = p.1) : vec32 l = p := by
  apply Subtype.ext
  have := p.2
  rw [vec32_of (by rw [h]; omega), h, List.take_of_length_le (by omega)]
def parB (l : List UInt8) : Blk := ⟨vec32 (l.drop 2), ofBe ((l.drop 34).take 8), l.drop 46⟩
def okP (l : List UInt8) : Prop := 46 ≤ l.length ∧ (parB l).h ≤ maxI ∧ (parB l).chk = 0 ∧ (parB l).bytes = l
instance (l : List UInt8) : Decidable (okP l) := by unfold okP; infer_instance
def parse (l : List UInt8) : Blk := if okP l then parB l else Blk.none
def parseE (l : List UInt8) : Int := if okP l then 0 else 30
/-- Bytes in parts. -/
theorem cut46 {l : List UInt8} (h : 46 ≤ l.length) : ∃ (a p x n d : List UInt8), l = a ++ (p ++ (x ++ (n ++ d))) ∧ a.length = 2 ∧ p.length = 32 ∧ x.length = 8 ∧ n.length = 4 := by
  refine ⟨l.take 2, (l.drop 2).take 32, (l.drop 34).take 8, (l.drop 42).take 4, l.drop 46, ?_, by simp; omega, by simp; omega, by simp; omega, by simp; omega⟩
  have e1 : l.drop 46 = (l.drop 42).drop 4 := by rw [List.drop_drop]
  have e2 : l.drop 42 = (l.drop 34).drop 8 := by rw [List.drop_drop]
  have e3 : l.drop 34 = (l.drop 2).drop 32 := by rw [List.drop_drop]
  rw [e1, List.take_append_drop, e2, List.take_append_drop, e3, List.take_append_drop, List.take_append_drop]
theorem parB_cut {a p x n d : List UInt8} (h1 : a.length = 2) (h2 : p.length = 32) (h3 : x.length = 8) (h4 : n.length = 4) : parB (a ++ (p ++ (x ++ (n ++ d)))) = ⟨⟨p, h2⟩, ofBe x, d⟩ := by
  have e1 : (a ++ (p ++ (x ++ (n ++ d)))).drop 2 = p ++ (x ++ (n ++ d)) := List.drop_left' h1
  have e2 : (a ++ (p ++ (x ++ (n ++ d)))).drop 34 = x ++ (n ++ d) := by rw [show 34 = 2 + 32 from rfl, ← List.drop_drop, e1, List.drop_left' h2]
  have e3 : (a ++ (p ++ (x ++ (n ++ d)))).drop 46 = d := by rw [show 46 = 34 + 8 + 4 from rfl, ← List.drop_drop, ← List.drop_drop, e2, List.drop_left' h3, List.drop_left' h4]
  unfold parB
  rw [e1, e2, e3, List.take_left' h3]
  congr 1
  apply Subtype.ext
  rw [vec32_of (by simp; omega), List.take_left' h2]
theorem be2_zero {a : List UInt8} (h1 : a.length = 2) (h : ofBe a = 0) : a = [0, 0] := by
  have := be_ofBe a
  rw [h1, h] at this
  exact this.symm
theorem ofBe_b4 {n : Nat} (h : n < 4294967296) : ofBe (be 4 n) = n := by rw [ofBe_be, Nat.mod_eq_of_lt (by simpa using h)]
theorem ofBe_b8 {n : Nat} (h : n < 18446744073709551616) : ofBe (be 8 n) = n := by rw [ofBe_be, Nat.mod_eq_of_lt (by simpa using h)]
/-- What is read is laid again: that must be these bytes. -/
theorem okP_cut {a p x n d : List UInt8} (h1 : a.length = 2) (h2 : p.length = 32) (h3 : x.length = 8) (h4 : n.length = 4) :
    okP (a ++ (p ++ (x ++ (n ++ d)))) ↔ ofBe a = 0 ∧ ofBe n = d.length ∧ (ofBe x : Int) ≤ maxI ∧ (⟨⟨p, h2⟩, ofBe x, d⟩ : Blk).chk = 0 := by
  unfold okP
  rw [parB_cut h1 h2 h3 h4]
  have hb : (⟨⟨p, h2⟩, ofBe x, d⟩ : Blk).bytes = [0, 0] ++ p ++ x ++ be 4 d.length ++ d := by
    unfold Blk.bytes
    simp only [Int.toNat_natCast]
    rw [show be 8 (ofBe x) = x by rw [← h3]; exact be_ofBe x]
  refine ⟨?_, ?_⟩
  · rintro ⟨_, hh, hc, he⟩
    have hck := Blk.chk_ok hc
    simp only at hck
    rw [hb] at he
    simp only [List.append_assoc] at he
    have e1 := List.append_inj he (by simp [h1])
    have e2 := List.append_inj e1.2 rfl
    have e3 := List.append_inj e2.2 rfl
    have e4 := List.append_inj e3.2 (by rw [be_length, h4])
    refine ⟨by rw [← e1.1]; rfl, ?_, hh, hc⟩
    rw [← e4.1, ofBe_b4 (by omega)]
  · rintro ⟨ha, hn, hh, hc⟩
    refine ⟨by simp; omega, hh, hc, ?_⟩
    rw [hb, be2_zero h1 ha, ← hn]
    have : be 4 (ofBe n) = n := by rw [← h4]; exact be_ofBe n
    rw [this]
    simp
theorem parse_bytes {b : Blk} (hc : b.chk = 0) (hh : b.h ≤ maxI) : okP b.bytes ∧ parB b.bytes = b := by
  have hck := Blk.chk_ok hc
  unfold maxI at hh
  have e : b.bytes = [0, 0] ++ (b.p.1 ++ (be 8 b.h.toNat ++ (be 4 b.d.length ++ b.d))) := by simp [Blk.bytes]
  have e8 : ofBe (be 8 b.h.toNat) = b.h.toNat := ofBe_b8 (by omega)
  have eb : (⟨⟨b.p.1, b.p.2⟩, (ofBe (be 8 b.h.toNat) : Nat), b.d⟩ : Blk) = b := by
    rw [e8, Int.toNat_of_nonneg hck.1]
  have ho := (okP_cut (a := [0, 0]) (p := b.p.1) (x := be 8 b.h.toNat) (n := be 4 b.d.length) (d := b.d) rfl b.p.2 (be_length ..) (be_length ..)).2 ⟨rfl, ofBe_b4 (by omega), by rw [e8]; unfold maxI; omega, by rw [eb]; exact hc⟩
  rw [e]
  refine ⟨ho, ?_⟩
  rw [parB_cut rfl b.p.2 (be_length ..) (be_length ..)]
  exact eb
theorem okP.len {l : List UInt8} (h : okP l) : l.length ≤ 246 := by
  have := (Blk.chk_ok h.2.2.1).2.1
  have hb := congrArg List.length h.2.2.2
  rw [Blk.bytes_len] at hb
  omega
section
variable {w0 w : World} {As : List Asn} {g o n n' : Nat} {cur : Array Value} {T : TypeId} {x : Value} {m : List UInt8}
/-- 'copy(a[:], x)', a an array in a variable. -/
theorem cpyBlk_s {P : Program} {t tx ty E : Nat} {K : Value → World → Prop} (hT : SlT P t E 1 1) (hs : Sep w0 w (blk g cur T :: As)) (ho : o + n ≤ cur.size) (hx : RdB w.heap x m) (hm : m.length = n)
    (h : ∀ w', Sep w0 w' (blk g (splice cur o (bvs m)) T :: As) → K (.int .i64 n) w') : efP P (Builtin.copy_ #[t, tx] ty #[.slice (some ⟨g, o, none⟩) n n', x]) w K := by
  obtain ⟨F, ⟨hb, rfl⟩, hk⟩ := hs.upd
  subst hm
  have hlm : (bvs m).length = m.length := by simp [bvs]
  have hund := hT.und
  have hle := Cel.lenOf (P := P) (w := w) hx
  have hload := Cel.load (P := P) (w := w) hx
  have hst := run_storeCells_at P g o T (bvs m) 0 cur w hb (by omega) (bvs_one m)
  simp only [Nat.add_zero] at hst
  rw [setRow_setBlk w g cur _ T (0, 0) hb] at hst
  refine ⟨_, setBlk w g (.cells (splice cur o (bvs m)) T (0, 0)), ?_, h _ (hk _ [g] (Go.Fx.blk g _ T) ⟨setBlk_self w g _ _ hb, rfl⟩ (fr_setBlk w g _) (Grew.refl _ _))⟩
  have hmin : Nat.min m.length m.length = m.length := Nat.min_self _
  simp only [Builtin.copy_, Sem.run_bind, Sem.run_pure, List.getElem?_toArray, List.getElem?_cons_zero, List.getElem?_cons_succ, run_underlying hund, Result.andThen_ok, hle, run_sizeOf hT.siz, hmin, hload]
  simp [goInt, hst, splice]
theorem Fld.cpy {α : Type} {r : Rdr α} {off k : Nat} {get : α → Vec k} {set : α → Vec k → α} (f : Fld r (rVec k) off get set) {P : Program} {t tx ty E : Nat} {K : Value → World → Prop} {a : α} (hT : SlT P t E 1 1) (hs : Sep w0 w (blk g (r.cells a).toArray T :: As))
    (hx : RdB w.heap x m) (hm : m.length = k) (h : ∀ w', Sep w0 w' (blk g (r.cells (set a ⟨m, hm⟩)).toArray T :: As) → K (.int .i64 k) w') : efP P (Builtin.copy_ #[t, tx] ty #[.slice (some ⟨g, off, none⟩) k n', x]) w K := by
  obtain ⟨pre, post, e1, e2, e3⟩ := f.spec a ⟨m, hm⟩
  rw [e1] at hs
  rw [e2] at h
  have hg : ((rVec k).cells (get a)).length = k := (rVec k).len _
  refine cpyBlk_s hT hs (by simp; omega) hx hm fun w' hs' => h w' ?_
  have := splice_mid (post := post) e3 (show (bvs m).length = ((rVec k).cells (get a)).length by rw [hg]; simp [bvs, hm])
  rw [this] at hs'
  exact hs'
end
end Go.Fx
set_option linter.unusedVariables false
set_option linter.unusedSimpArgs false
namespace Go.Fx
theorem notOk {l : List UInt8} (h : ¬ okP l) : parse l = Blk.none ∧ parseE l = 30 := by rw [parse, parseE, if_neg h, if_neg h]; exact ⟨rfl, rfl⟩
end Go.Fx
set_option linter.unusedVariables false
set_option linter.unusedSimpArgs false
namespace Go.Fx
end Go.Fx
set_option linter.unusedVariables false
set_option linter.unusedSimpArgs false
namespace Go.Fx
abbrev BV := Blk × Value
def BV.t (x : BV) : Vec 32 × Int × Value := (x.1.p, x.1.h, x.2)
/-- A slice of blocks, each with what its data read as. -/
def BRows (h : Heap) (v : Value) (l : List BV) : Prop := Rows' Q_api_Block h v (l.map BV.t) ∧ ∀ x ∈ l, RdB h x.2 x.1.d
theorem BRows.fr {w w' : World} {v : Value} {l : List BV} (h : BRows w.heap v l) (hf : Fr [] w w') : BRows w'.heap v l := ⟨h.1.fr hf, fun x hx => (h.2 x hx).fr hf (off_nil _)⟩
theorem BRows.len {h : Heap} {v : Value} {l : List BV} (hr : BRows h v l) (K : Value → Prop) : lenS v K = K (.int .i64 l.length) := by
  have := hr.1.len K
  rwa [List.length_map] at this
/-- 'l[j]'. -/
theorem BRows.ld {w : World} {v : Value} {l : List BV} {j : Nat} {x : BV} (hr : BRows w.heap v l) (hj : l[j]? = some x) (k : IntKind) {K : Value → Prop} (h : K (bq x.1 x.2)) : ixs 34 v (.int k (j : Int)) fun t => ldN 34 t w.heap K := by
  have : (l.map BV.t)[j]? = some x.t := by rw [List.getElem?_map, hj]; rfl
  exact Rows'.ldN (q := Q_api_Block) (by decide) hr.1 this k h
theorem qV (a : Vec 32 × Int × Value) : (Value.agg (Rdr.cells Q_api_Block a).toArray).cells = (Rdr.cells Q_api_Block a).toArray := rfl
section
variable {w0 w : World} {As : List Asn} {v : Value}
def ga : Blk := Blk.first [103]
theorem ga_chk : ga.chk = 0 := by decide +kernel
theorem ga_bytes : ga.bytes = List.replicate 42 0 ++ [0, 0, 0, 1, 103] := by decide +kernel
/-- A block's variable, read in a region that draws. -/
theorem rdS_bb {S : World → Prop} {g : Nat} {b : Blk} {v : Value} {K : Value → Prop} (hS : ∀ u, S u → ∃ t fr, u.heap[g]? = some (.cells (Rdr.cells Q_api_Block (b.p, b.h, v)).toArray t fr)) (hk : K (bq b v)) :
    rdS S (fun w => ldN 34 (.pointer (some ⟨g, 0, none⟩)) w.heap) K := ⟨_, fun u hu => by obtain ⟨t, fr, hg⟩ := hS u hu; exact (L_api_Block hg _).mpr rfl, hk⟩
/-- A block that is an argument. -/
abbrev ab (x : Vec 32 × Int × Sl UInt8) : Blk := ⟨x.1, x.2.1, x.2.2.l⟩
theorem ab_rd {h : Heap} {x : Vec 32 × Int × Sl UInt8} (hx : Rdr.ok R_api_Block h x) : RdB h x.2.2.v (ab x).d := hx.2.2.1
theorem ab_h {h : Heap} {x : Vec 32 × Int × Sl UInt8} (hx : Rdr.ok R_api_Block h x) : (ab x).h ≤ maxI := by
  have := Go.bounds_i64 hx.2.1
  unfold maxI
  show x.2.1 ≤ _
  omega
theorem ab_len {h : Heap} {x : Vec 32 × Int × Sl UInt8} (hx : Rdr.ok R_api_Block h x) : (ab x).d.length ≤ 9223372036854775807 := hx.2.2.2.1
end
end Go.Fx
set_option linter.unusedVariables false
set_option linter.unusedSimpArgs false
namespace Go.Fx
/-- A block of a tree: its name, itself, where its data stand, when it came. -/
abbrev TN := Vec 32 × Blk × Value × Nat
def TN.ent (x : TN) : Ent 32 := (x.1, bq x.2.1 x.2.2.1, x.2.2.2)
/-- A tree's head. -/
structure Tr where
  root : Vec 32
  ht : Int
  most : Int
def nodeOf (k : Vec 32) (N : List TN) : Option TN := N.find? fun x => decide (k = x.1)
def blkOf (k : Vec 32) (N : List TN) : Option Blk := (nodeOf k N).map (·.2.1)
theorem getE_node (k : Vec 32) : ∀ N : List TN, getE k (N.map TN.ent) = (nodeOf k N).map fun x => bq x.2.1 x.2.2.1
  | [] => rfl
  | x :: N => by
    unfold getE nodeOf
    rw [List.map_cons, List.find?_cons, List.find?_cons]
    by_cases h : k = x.1
    · simp [h, TN.ent]
    · have e1 : decide (k = (TN.ent x).1) = false := decide_eq_false h
      have e2 : decide (k = x.1) = false := decide_eq_false h
      rw [e1, e2]
      exact getE_node k N
theorem KT : KeyT P T_api_ID T_uint8 32 := ⟨U_api_ID, U_uint8, by kernel_rfl, by kernel_rfl, EQ_api_ID⟩
theorem zB (w : World) : (zeroValue T_api_Block).run P w = .ok (bq Blk.none (.slice none 0 0)) w := by kernel_rfl
abbrev tq (t : Tr) (gm : Nat) (ov : Value) : Bool × Vec 32 × Int × Int × Value × Value := (true, t.root, t.ht, t.most, .map (some gm), ov)
structure TrR (h : Heap) (g gm : Nat) (ov : Value) (t : Tr) (N : List TN) (c : Nat) : Prop where
  cell : ∃ T fr, h[g]? = some (.cells (Rdr.cells Q_tree_Tree (tq t gm ov)).toArray T fr)
  map : h[gm]? = some (.map (ents (N.map TN.ent)) c)
  ord : Rows' (rVec 32) h ov (N.map (·.1))
  dat : ∀ x ∈ N, RdB h x.2.2.1 x.2.1.d
section
variable {w0 w w' : World} {As : List Asn} {g gm c : Nat} {ov : Value} {t : Tr} {N : List TN}
theorem TrR.fr (h : TrR w.heap g gm ov t N c) (hf : Fr [] w w') : TrR w'.heap g gm ov t N c := by
  obtain ⟨T, fr, hc⟩ := h.cell
  exact ⟨⟨T, fr, hf.blk hc (by simp)⟩, hf.blk h.map (by simp), h.ord.fr hf, fun x hx => (h.dat x hx).fr hf (off_nil _)⟩
theorem Sep.tr (h : Sep w0 w As) (hr : TrR w0.heap g gm ov t N c) : TrR w.heap g gm ov t N c := hr.fr h.1
theorem tnone_spec (hr : TrR w.heap g gm ov t N c) : cal P f_tree_Tree_none [.pointer (some ⟨g, 0, none⟩)] w fun r w' => r = .bool false ∧ w = w' := by
  refine s_tree_Tree_none fun R hR => ?_
  unfold c_tree_Tree_none
  obtain ⟨T, fr, hc⟩ := hr.cell
  simp only [nilc_some, fad_mk, pik_true, pik_false, cnd_true, cnd_false, gif_same, gif_tf, gif_ft, gif_undef, bi_add, bi_sub, bi_mul, bi_eql, bi_neq, bi_lss, bi_leq, bi_gtr, bi_geq, notB_bool, cvi_int, lenS_mk, lenT_mk, ext0, ext1, ext2, nilP_mk, nilS_mk, fldv_agg, jn0_k, jn1_k, jn2_k, jn1_and, jn1_or, ex_some, Option.isNone_some, Option.isNone_none, Bool.false_bne, Bool.bne_true, Bool.bne_false, Bool.true_bne, Bool.not_true, Bool.not_false, Bool.and_true, Bool.true_and, Bool.and_false, Bool.false_and, Bool.or_true, Bool.true_or, Bool.or_false, Bool.false_or, cond_true, cond_false, List.getElem?_toArray, List.getElem?_cons_zero, List.getElem?_cons_succ, Nat.zero_add, Nat.add_zero, Nat.reduceAdd, forall_const, Option.isNone_some, L_tree_Tree hc, L_tree_Tree__made hc, L_tree_Tree__root hc, L_tree_Tree__height hc, L_tree_Tree__most hc, L_tree_Tree__blocks hc, L_tree_Tree__order hc]
  exact hR _ _ ⟨rfl, rfl⟩
/-- What a lookup of a name gives. -/
def nb (k : Vec 32) (N : List TN) : Blk × Value := ((nodeOf k N).map fun x => (x.2.1, x.2.2.1)).getD (Blk.none, .slice none 0 0)
theorem nb_get (k : Vec 32) (N : List TN) : (getE k (N.map TN.ent)).getD (bq Blk.none (.slice none 0 0)) = bq (nb k N).1 (nb k N).2 := by
  rw [getE_node]
  unfold nb
  cases nodeOf k N <;> rfl
theorem nb_is (k : Vec 32) (N : List TN) : (getE k (N.map TN.ent)).isSome = (blkOf k N).isSome := by
  rw [getE_node]
  unfold blkOf
  cases nodeOf k N <;> rfl
theorem nb_rd (hr : TrR w.heap g gm ov t N c) (k : Vec 32) : RdB w.heap (nb k N).2 (nb k N).1.d := by
  unfold nb
  cases h : nodeOf k N with
  | none => exact rdNil w
  | some x => exact hr.dat x (List.mem_of_find?_eq_some h)
theorem nb_blk {k : Vec 32} {N : List TN} : (blkOf k N = none ∧ (nb k N).1 = Blk.none) ∨ blkOf k N = some (nb k N).1 := by
  unfold nb blkOf
  cases nodeOf k N with
  | none => exact .inl ⟨rfl, rfl⟩
  | some x => exact .inr rfl
/-- How high a name stands; whether it is there. -/
def levH (t : Tr) (N : List TN) (k : Vec 32) : Int := if k = t.root then t.ht else match blkOf k N with
  | some b => b.h
  | none => 0
def has (t : Tr) (N : List TN) (k : Vec 32) : Bool := decide (k = t.root) || (blkOf k N).isSome
theorem level_spec (hr : TrR w.heap g gm ov t N c) (k : Vec 32) : cal P f_tree_Tree_level [.pointer (some ⟨g, 0, none⟩), kv k] w fun r w' => r = .tuple #[.int .i64 (levH t N k), .bool (has t N k)] ∧ Fr [] w w' := by
  refine s_tree_Tree_level fun R hR => ?_
  unfold c_tree_Tree_level
  refine bxQ (Sep.start w) fun g3 w1 hs1 => ?_
  refine cal_i (tnone_spec (hs1.tr hr)) ?_
  rintro _ _ ⟨rfl, rfl⟩
  simp only [nilc_some, fad_mk, pik_true, pik_false, cnd_true, cnd_false, gif_same, gif_tf, gif_ft, gif_undef, bi_add, bi_sub, bi_mul, bi_eql, bi_neq, bi_lss, bi_leq, bi_gtr, bi_geq, notB_bool, cvi_int, lenS_mk, lenT_mk, ext0, ext1, ext2, nilP_mk, nilS_mk, fldv_agg, jn0_k, jn1_k, jn2_k, jn1_and, jn1_or, ex_some, Option.isNone_some, Option.isNone_none, Bool.false_bne, Bool.bne_true, Bool.bne_false, Bool.true_bne, Bool.not_true, Bool.not_false, Bool.and_true, Bool.true_and, Bool.and_false, Bool.false_and, Bool.or_true, Bool.true_or, Bool.or_false, Bool.false_or, cond_true, cond_false, List.getElem?_toArray, List.getElem?_cons_zero, List.getElem?_cons_succ, Nat.zero_add, Nat.add_zero, Nat.reduceAdd, forall_const]
  refine drw_s hs1 fun w2 hs2 _ => ?_
  obtain ⟨T, fr, hc⟩ := (hs2.tr hr).cell
  simp only [nilc_some, fad_mk, pik_true, pik_false, cnd_true, cnd_false, gif_same, gif_tf, gif_ft, gif_undef, bi_add, bi_sub, bi_mul, bi_eql, bi_neq, bi_lss, bi_leq, bi_gtr, bi_geq, notB_bool, cvi_int, lenS_mk, lenT_mk, ext0, ext1, ext2, nilP_mk, nilS_mk, fldv_agg, jn0_k, jn1_k, jn2_k, jn1_and, jn1_or, ex_some, Option.isNone_some, Option.isNone_none, Bool.false_bne, Bool.bne_true, Bool.bne_false, Bool.true_bne, Bool.not_true, Bool.not_false, Bool.and_true, Bool.true_and, Bool.and_false, Bool.false_and, Bool.or_true, Bool.true_or, Bool.or_false, Bool.false_or, cond_true, cond_false, List.getElem?_toArray, List.getElem?_cons_zero, List.getElem?_cons_succ, Nat.zero_add, Nat.add_zero, Nat.reduceAdd, forall_const, L_api_ID hs2.blk, L_tree_Tree hc, L_tree_Tree__made hc, L_tree_Tree__root hc, L_tree_Tree__height hc, L_tree_Tree__most hc, L_tree_Tree__blocks hc, L_tree_Tree__order hc, eq_api_ID]
  rw [cnd_bool]
  refine ⟨fun h => ?_, fun h => ?_⟩
  · have h : k = t.root := by simpa using h
    refine hR _ _ ⟨?_, hs2.fr0⟩
    unfold levH has
    rw [if_pos h, decide_eq_true h]
    rfl
  · have h : ¬ k = t.root := by simpa using h
    refine drH_S hs2 fun w3 hs3 _ => ?_
    refine rdS_ld (v := .map (some gm)) (fun u hu K hk => by
      obtain ⟨T, fr, hc⟩ := (hu.tr hr).cell
      exact (L_tree_Tree__blocks hc K).mpr hk) ?_
    refine ⟨kv k, fun u hu => (L_api_ID hu.blk _).mpr rfl, ?_⟩
    refine ⟨.tuple #[(getE k (N.map TN.ent)).getD (bq Blk.none (.slice none 0 0)), .bool (getE k (N.map TN.ent)).isSome], fun u hu => (lookup_map U_map_api_ID_api_Block KT (zB u) (hu.tr hr).map k _).mpr rfl, ?_⟩
    rw [nb_get, nb_is]
    simp only [nilc_some, fad_mk, pik_true, pik_false, cnd_true, cnd_false, gif_same, gif_tf, gif_ft, gif_undef, bi_add, bi_sub, bi_mul, bi_eql, bi_neq, bi_lss, bi_leq, bi_gtr, bi_geq, notB_bool, cvi_int, lenS_mk, lenT_mk, ext0, ext1, ext2, nilP_mk, nilS_mk, fldv_agg, jn0_k, jn1_k, jn2_k, jn1_and, jn1_or, ex_some, Option.isNone_some, Option.isNone_none, Bool.false_bne, Bool.bne_true, Bool.bne_false, Bool.true_bne, Bool.not_true, Bool.not_false, Bool.and_true, Bool.true_and, Bool.and_false, Bool.false_and, Bool.or_true, Bool.true_or, Bool.or_false, Bool.false_or, cond_true, cond_false, List.getElem?_toArray, List.getElem?_cons_zero, List.getElem?_cons_succ, Nat.zero_add, Nat.add_zero, Nat.reduceAdd, forall_const]
    refine efS_i (alloc_s hs3 (A_api_Block w3) fun g4 w4 hs4 => ⟨hs4.tail, ?_⟩)
    refine efC_stN (St_api_Block hs4 (one_api_Block (nb_rd (hs4.tr hr) k).one) fun w5 hs5 => ?_)
    simp only [nilc_some, fad_mk, pik_true, pik_false, cnd_true, cnd_false, gif_same, gif_tf, gif_ft, gif_undef, bi_add, bi_sub, bi_mul, bi_eql, bi_neq, bi_lss, bi_leq, bi_gtr, bi_geq, notB_bool, cvi_int, lenS_mk, lenT_mk, ext0, ext1, ext2, nilP_mk, nilS_mk, fldv_agg, jn0_k, jn1_k, jn2_k, jn1_and, jn1_or, ex_some, Option.isNone_some, Option.isNone_none, Bool.false_bne, Bool.bne_true, Bool.bne_false, Bool.true_bne, Bool.not_true, Bool.not_false, Bool.and_true, Bool.true_and, Bool.and_false, Bool.false_and, Bool.or_true, Bool.true_or, Bool.or_false, Bool.false_or, cond_true, cond_false, List.getElem?_toArray, List.getElem?_cons_zero, List.getElem?_cons_succ, Nat.zero_add, Nat.add_zero, Nat.reduceAdd, forall_const, L_api_Block hs5.blk, L_api_Block__Parent hs5.blk, L_api_Block__Height hs5.blk, L_api_Block__Data hs5.blk]
    refine hR _ _ ⟨?_, hs5.fr0⟩
    unfold levH has
    rw [if_neg h, decide_eq_false h, Bool.false_or]
    rcases nb_blk (k := k) (N := N) with ⟨h1, h2⟩ | h1
    · rw [h1, h2]; rfl
    · rw [h1]
theorem Has_spec (hr : TrR w.heap g gm ov t N c) (k : Vec 32) : cal P f_tree_Tree_Has [.pointer (some ⟨g, 0, none⟩), kv k] w fun r w' => r = .bool (has t N k) ∧ Fr [] w w' := by
  refine s_tree_Tree_Has fun R hR => ?_
  unfold c_tree_Tree_Has
  refine bxQ (Sep.start w) fun g3 w1 hs1 => ?_
  simp only [L_api_ID hs1.blk]
  refine cal_i (level_spec (hs1.tr hr) k) ?_
  rintro _ w2 ⟨rfl, hf2⟩
  simp only [nilc_some, fad_mk, pik_true, pik_false, cnd_true, cnd_false, gif_same, gif_tf, gif_ft, gif_undef, bi_add, bi_sub, bi_mul, bi_eql, bi_neq, bi_lss, bi_leq, bi_gtr, bi_geq, notB_bool, cvi_int, lenS_mk, lenT_mk, ext0, ext1, ext2, nilP_mk, nilS_mk, fldv_agg, jn0_k, jn1_k, jn2_k, jn1_and, jn1_or, ex_some, Option.isNone_some, Option.isNone_none, Bool.false_bne, Bool.bne_true, Bool.bne_false, Bool.true_bne, Bool.not_true, Bool.not_false, Bool.and_true, Bool.true_and, Bool.and_false, Bool.false_and, Bool.or_true, Bool.true_or, Bool.or_false, Bool.false_or, cond_true, cond_false, List.getElem?_toArray, List.getElem?_cons_zero, List.getElem?_cons_succ, Nat.zero_add, Nat.add_zero, Nat.reduceAdd, forall_const]
  exact hR _ _ ⟨rfl, (hs1.old hf2).fr0⟩
theorem Root_spec (hr : TrR w.heap g gm ov t N c) : cal P f_tree_Tree_Root [.pointer (some ⟨g, 0, none⟩)] w fun r w' => r = .tuple #[kv t.root, .int .i64 t.ht] ∧ Fr [] w w' := by
  refine s_tree_Tree_Root fun R hR => ?_
  unfold c_tree_Tree_Root
  refine alloc_s (Sep.start w) (A_api_ID w) fun g3 w1 hs1 => ?_
  refine cal_i (tnone_spec (hs1.tr hr)) ?_
  rintro _ _ ⟨rfl, rfl⟩
  simp only [nilc_some, fad_mk, pik_true, pik_false, cnd_true, cnd_false, gif_same, gif_tf, gif_ft, gif_undef, bi_add, bi_sub, bi_mul, bi_eql, bi_neq, bi_lss, bi_leq, bi_gtr, bi_geq, notB_bool, cvi_int, lenS_mk, lenT_mk, ext0, ext1, ext2, nilP_mk, nilS_mk, fldv_agg, jn0_k, jn1_k, jn2_k, jn1_and, jn1_or, ex_some, Option.isNone_some, Option.isNone_none, Bool.false_bne, Bool.bne_true, Bool.bne_false, Bool.true_bne, Bool.not_true, Bool.not_false, Bool.and_true, Bool.true_and, Bool.and_false, Bool.false_and, Bool.or_true, Bool.true_or, Bool.or_false, Bool.false_or, cond_true, cond_false, List.getElem?_toArray, List.getElem?_cons_zero, List.getElem?_cons_succ, Nat.zero_add, Nat.add_zero, Nat.reduceAdd, forall_const]
  refine ⟨fun u => ∃ v, Sep w u [blk g3 (Rdr.cells (rVec 32) v).toArray T_api_ID], ⟨_, hs1.drew _⟩, ?_⟩
  refine ⟨kv t.root, fun u ⟨v, hu⟩ => by
    obtain ⟨T, fr, hc⟩ := (hu.tr hr).cell
    exact (L_tree_Tree__root hc _).mpr rfl, ?_⟩
  refine rdS_ld (v := .int .i64 t.ht) (fun u ⟨v, hu⟩ K hk => by
    obtain ⟨T, fr, hc⟩ := (hu.tr hr).cell
    exact (L_tree_Tree__height hc K).mpr hk) ?_
  refine efS_i (St_api_ID (hs1.drew _) fun w3 hs3 => ⟨⟨_, hs3⟩, ?_⟩)
  simp only [L_api_ID hs3.blk]
  exact hR _ _ ⟨rfl, hs3.fr0⟩
end
end Go.Fx
set_option linter.unusedVariables false
set_option linter.unusedSimpArgs false
namespace Go.Fx
/-- Each block's parent is there, one lower; no name twice. -/
structure TrW (t : Tr) (N : List TN) : Prop where
  up : ∀ k b, blkOf k N = some b → has t N b.p = true ∧ b.h = levH t N b.p + 1
  above : ∀ k b, blkOf k N = some b → t.ht < b.h
  noroot : blkOf t.root N = none
  small : ∀ x ∈ N, x.2.1.d.length ≤ 200
/-- The next name up. -/
def upOf (k : Vec 32) (N : List TN) : Vec 32 := (nb k N).1.p
/-- The way up: no more steps than the height tells. -/
def wayUp (t : Tr) (N : List TN) : Nat → Vec 32 → List (Vec 32)
  | 0, _ => []
  | n + 1, k => if k = t.root then [] else k :: wayUp t N n (upOf k N)
def hgt (t : Tr) (N : List TN) (k : Vec 32) : Nat := (levH t N k - t.ht).toNat
theorem has_blk {t : Tr} {N : List TN} {k : Vec 32} (h : has t N k = true) (hk : k ≠ t.root) : blkOf k N = some (nb k N).1 := by
  unfold has at h
  rw [decide_eq_false hk, Bool.false_or] at h
  rcases nb_blk (k := k) (N := N) with ⟨h1, _⟩ | h1
  · rw [h1] at h; cases h
  · exact h1
theorem up_has {t : Tr} {N : List TN} {k : Vec 32} (hw : TrW t N) (h : has t N k = true) (hk : k ≠ t.root) : has t N (upOf k N) = true ∧ hgt t N k = hgt t N (upOf k N) + 1 := by
  have hb := has_blk h hk
  obtain ⟨h1, h2⟩ := hw.up k _ hb
  have h3 := hw.above k _ hb
  refine ⟨h1, ?_⟩
  have e : levH t N k = (nb k N).1.h := by
    unfold levH
    rw [if_neg hk, hb]
  have h4 : t.ht ≤ levH t N (upOf k N) := by
    by_cases hr : upOf k N = t.root
    · unfold levH; rw [if_pos hr]; omega
    · have hb2 := has_blk (show has t N (upOf k N) = true from h1) hr
      have := hw.above _ _ hb2
      unfold levH
      rw [if_neg hr, hb2]
      simp only
      omega
  unfold hgt
  rw [e, h2]
  show (levH t N (upOf k N) + 1 - t.ht).toNat = _
  omega
section
variable {w0 w w' : World} {As : List Asn} {g gm c : Nat} {ov : Value} {t : Tr} {N : List TN}
theorem Get_spec (hr : TrR w.heap g gm ov t N c) (hw : TrW t N) (k : Vec 32) : cal P f_tree_Tree_Get [.pointer (some ⟨g, 0, none⟩), kv k] w fun r w' => ∃ v, r = .tuple #[bq (nb k N).1 v, .int .i64 (if (blkOf k N).isSome then 0 else 4)] ∧ Sep w w' [ownB v (nb k N).1.d] := by
  refine s_tree_Tree_Get fun R hR => ?_
  unfold c_tree_Tree_Get
  refine bxQ (Sep.start w) fun g3 w1 hs1 => ?_
  refine alloc_s hs1 (A_api_Block w1) fun g4 w2 hs2 => ?_
  refine cal_i (tnone_spec (hs2.tr hr)) ?_
  rintro _ _ ⟨rfl, rfl⟩
  simp only [nilc_some, fad_mk, pik_true, pik_false, cnd_true, cnd_false, gif_same, gif_tf, gif_ft, gif_undef, bi_add, bi_sub, bi_mul, bi_eql, bi_neq, bi_lss, bi_leq, bi_gtr, bi_geq, notB_bool, cvi_int, lenS_mk, lenT_mk, ext0, ext1, ext2, nilP_mk, nilS_mk, fldv_agg, jn0_k, jn1_k, jn2_k, jn1_and, jn1_or, ex_some, Option.isNone_some, Option.isNone_none, Bool.false_bne, Bool.bne_true, Bool.bne_false, Bool.true_bne, Bool.not_true, Bool.not_false, Bool.and_true, Bool.true_and, Bool.and_false, Bool.false_and, Bool.or_true, Bool.true_or, Bool.or_false, Bool.false_or, cond_true, cond_false, List.getElem?_toArray, List.getElem?_cons_zero, List.getElem?_cons_succ, Nat.zero_add, Nat.add_zero, Nat.reduceAdd, forall_const]
  refine drH_S hs2 fun w3 hs3 _ => ?_
  refine rdS_ld (v := .map (some gm)) (fun u hu K hk => by
    obtain ⟨T, fr, hc⟩ := (hu.tr hr).cell
    exact (L_tree_Tree__blocks hc K).mpr hk) ?_
  refine ⟨kv k, fun u hu => (L_api_ID (Sep.p1 hu).blk _).mpr rfl, ?_⟩
  refine ⟨.tuple #[(getE k (N.map TN.ent)).getD (bq Blk.none (.slice none 0 0)), .bool (getE k (N.map TN.ent)).isSome], fun u hu => (lookup_map U_map_api_ID_api_Block KT (zB u) (hu.tr hr).map k _).mpr rfl, ?_⟩
  rw [nb_get, nb_is]
  simp only [nilc_some, fad_mk, pik_true, pik_false, cnd_true, cnd_false, gif_same, gif_tf, gif_ft, gif_undef, bi_add, bi_sub, bi_mul, bi_eql, bi_neq, bi_lss, bi_leq, bi_gtr, bi_geq, notB_bool, cvi_int, lenS_mk, lenT_mk, ext0, ext1, ext2, nilP_mk, nilS_mk, fldv_agg, jn0_k, jn1_k, jn2_k, jn1_and, jn1_or, ex_some, Option.isNone_some, Option.isNone_none, Bool.false_bne, Bool.bne_true, Bool.bne_false, Bool.true_bne, Bool.not_true, Bool.not_false, Bool.and_true, Bool.true_and, Bool.and_false, Bool.false_and, Bool.or_true, Bool.true_or, Bool.or_false, Bool.false_or, cond_true, cond_false, List.getElem?_toArray, List.getElem?_cons_zero, List.getElem?_cons_succ, Nat.zero_add, Nat.add_zero, Nat.reduceAdd, forall_const]
  refine efS_i (alloc_s hs3 (A_api_Block w3) fun g5 w4 hs4 => ⟨hs4.tail, ?_⟩)
  refine efC_stN (St_api_Block hs4 (one_api_Block (nb_rd (hs4.tr hr) k).one) fun w5 hs5 => ?_)
  rw [cnd_bool]
  refine ⟨fun h => ?_, fun h => ?_⟩
  · have h : (blkOf k N).isSome = false := by simpa using h
    rw [B_api_Block]
    refine St_api_Block hs5.p1 (one_api_Block rfl) fun w6 hs6 => ?_
    simp only [L_api_Block hs6.blk, L_api_Block__Parent hs6.blk, L_api_Block__Height hs6.blk, L_api_Block__Data hs6.blk]
    rcases nb_blk (k := k) (N := N) with ⟨h1, h2⟩ | h1
    · refine hR _ _ ⟨.slice none 0 0, by rw [h2, h]; rfl, ?_⟩
      rw [h2]
      exact ((Sep.start w).old hs6.fr0).nil
    · rw [h1] at h; cases h
  · have h : (blkOf k N).isSome = true := by simpa using h
    simp only [L_api_Block hs5.blk, L_api_Block__Parent hs5.blk, L_api_Block__Height hs5.blk, L_api_Block__Data hs5.blk]
    have hrd := nb_rd (hs5.tr hr) k
    have hl : (nb k N).1.d.length ≤ 200 := by
      unfold nb
      cases hx : nodeOf k N with
      | none => simp [Blk.none]
      | some x => exact hw.small x (List.mem_of_find?_eq_some hx)
    refine cal_i (bkClone_spec hrd (by omega)) ?_
    rintro _ w6 ⟨v6, rfl, hs6⟩
    replace hs6 := hs5.join hs6
    refine St_api_Block hs6.p2 (one_api_Block (Sep.one hs6)) fun w7 hs7 => ?_
    simp only [L_api_Block hs7.blk, L_api_Block__Parent hs7.blk, L_api_Block__Height hs7.blk, L_api_Block__Data hs7.blk]
    exact hR _ _ ⟨v6, by rw [h]; rfl, Sep.dropR (As := [ownB v6 _]) hs7.p1⟩
theorem Len_spec (hr : TrR w.heap g gm ov t N c) (hl : N.length ≤ 1000000) : cal P f_tree_Tree_Len [.pointer (some ⟨g, 0, none⟩)] w fun r w' => r = .int .i64 N.length ∧ w = w' := by
  refine s_tree_Tree_Len fun R hR => ?_
  unfold c_tree_Tree_Len
  refine cal_i (tnone_spec hr) ?_
  rintro _ _ ⟨rfl, rfl⟩
  obtain ⟨T, fr, hc⟩ := hr.cell
  simp only [nilc_some, fad_mk, pik_true, pik_false, cnd_true, cnd_false, gif_same, gif_tf, gif_ft, gif_undef, bi_add, bi_sub, bi_mul, bi_eql, bi_neq, bi_lss, bi_leq, bi_gtr, bi_geq, notB_bool, cvi_int, lenS_mk, lenT_mk, ext0, ext1, ext2, nilP_mk, nilS_mk, fldv_agg, jn0_k, jn1_k, jn2_k, jn1_and, jn1_or, ex_some, Option.isNone_some, Option.isNone_none, Bool.false_bne, Bool.bne_true, Bool.bne_false, Bool.true_bne, Bool.not_true, Bool.not_false, Bool.and_true, Bool.true_and, Bool.and_false, Bool.false_and, Bool.or_true, Bool.true_or, Bool.or_false, Bool.false_or, cond_true, cond_false, List.getElem?_toArray, List.getElem?_cons_zero, List.getElem?_cons_succ, Nat.zero_add, Nat.add_zero, Nat.reduceAdd, forall_const, L_tree_Tree hc, L_tree_Tree__made hc, L_tree_Tree__root hc, L_tree_Tree__height hc, L_tree_Tree__most hc, L_tree_Tree__blocks hc, L_tree_Tree__order hc]
  rw [len_map U_map_api_ID_api_Block hr.map (by simp; omega), List.length_map]
  exact hR _ _ ⟨rfl, rfl⟩
theorem bvs_inj : ∀ {a b : List UInt8}, bvs a = bvs b → a = b
  | [], [], _ => rfl
  | [], _ :: _, h => by simp [bvs] at h
  | _ :: _, [], h => by simp [bvs] at h
  | x :: a, y :: b, h => by
    simp only [bvs, List.map_cons, List.cons.injEq, bv, Value.int.injEq, true_and] at h
    have hx : x = y := UInt8.toNat_inj.1 (by have := h.1; omega)
    rw [hx, bvs_inj (a := a) (b := b) h.2]
/-- The name that a block of memory holds. -/
noncomputable def keyAt (g : Nat) (z : World) : Vec 32 :=
  open Classical in if h : ∃ k : Vec 32, z.heap[g]? = some (.cells (Rdr.cells (rVec 32) k).toArray T_api_ID (0, 0)) then Classical.choose h else vz 32
theorem keyAt_eq {g : Nat} {z : World} {k : Vec 32} (h : z.heap[g]? = some (.cells (Rdr.cells (rVec 32) k).toArray T_api_ID (0, 0))) : keyAt g z = k := by
  have hx : ∃ k : Vec 32, z.heap[g]? = some (.cells (Rdr.cells (rVec 32) k).toArray T_api_ID (0, 0)) := ⟨k, h⟩
  unfold keyAt
  rw [dif_pos hx]
  have h2 := Classical.choose_spec hx
  generalize Classical.choose hx = k' at h2 ⊢
  rw [h] at h2
  simp only [Option.some.injEq, Obj.cells.injEq, and_true] at h2
  have h3 : bvs k.1 = bvs k'.1 := by
    have h4 : (Rdr.cells (rVec 32) k) = Rdr.cells (rVec 32) k' := by
      have := congrArg Array.toList h2
      simpa using this
    exact h4
  exact (Subtype.ext (bvs_inj h3)).symm
/-- On the way up from a name stands another one. -/
def under (t : Tr) (N : List TN) (a b : Vec 32) : Bool := has t N a && (has t N b && (decide (b = t.root) || decide (b ∈ wayUp t N (hgt t N a) a)))
theorem wayUp_root (t : Tr) (N : List TN) (n : Nat) : wayUp t N n t.root = [] := by
  cases n <;> simp [wayUp]
theorem wayUp_step {k : Vec 32} (hw : TrW t N) (h : has t N k = true) (hk : k ≠ t.root) : wayUp t N (hgt t N k) k = k :: wayUp t N (hgt t N (upOf k N)) (upOf k N) := by
  obtain ⟨h1, h2⟩ := up_has hw h hk
  rw [h2, wayUp, if_neg hk]
theorem Within_spec (hr : TrR w.heap g gm ov t N c) (hw : TrW t N) (a b : Vec 32) : cal P f_tree_Tree_Within [.pointer (some ⟨g, 0, none⟩), kv a, kv b] w fun r w' => r = .bool (under t N a b) ∧ Fr [] w w' := by
  refine s_tree_Tree_Within fun R hR => ?_
  unfold c_tree_Tree_Within
  refine bxQ (Sep.start w) fun g3 w1 hs1 => ?_
  refine bxQ hs1 fun g4 w2 hs2 => ?_
  simp only [L_api_ID (Sep.p1 hs2).blk]
  refine cal_i (Has_spec (hs2.tr hr) a) ?_
  rintro _ w3 ⟨rfl, hf3⟩
  have hs3 := hs2.old hf3
  by_cases ha : has t N a = true
  case neg =>
    have ha : has t N a = false := by simpa using ha
    simp only [ha, nilc_some, fad_mk, pik_true, pik_false, cnd_true, cnd_false, gif_same, gif_tf, gif_ft, gif_undef, bi_add, bi_sub, bi_mul, bi_eql, bi_neq, bi_lss, bi_leq, bi_gtr, bi_geq, notB_bool, cvi_int, lenS_mk, lenT_mk, ext0, ext1, ext2, nilP_mk, nilS_mk, fldv_agg, jn0_k, jn1_k, jn2_k, jn1_and, jn1_or, ex_some, Option.isNone_some, Option.isNone_none, Bool.false_bne, Bool.bne_true, Bool.bne_false, Bool.true_bne, Bool.not_true, Bool.not_false, Bool.and_true, Bool.true_and, Bool.and_false, Bool.false_and, Bool.or_true, Bool.true_or, Bool.or_false, Bool.false_or, cond_true, cond_false, List.getElem?_toArray, List.getElem?_cons_zero, List.getElem?_cons_succ, Nat.zero_add, Nat.add_zero, Nat.reduceAdd, forall_const, Bool.not_false]
    exact hR _ _ ⟨by unfold under; rw [ha]; rfl, hs3.fr0⟩
  simp only [ha, nilc_some, fad_mk, pik_true, pik_false, cnd_true, cnd_false, gif_same, gif_tf, gif_ft, gif_undef, bi_add, bi_sub, bi_mul, bi_eql, bi_neq, bi_lss, bi_leq, bi_gtr, bi_geq, notB_bool, cvi_int, lenS_mk, lenT_mk, ext0, ext1, ext2, nilP_mk, nilS_mk, fldv_agg, jn0_k, jn1_k, jn2_k, jn1_and, jn1_or, ex_some, Option.isNone_some, Option.isNone_none, Bool.false_bne, Bool.bne_true, Bool.bne_false, Bool.true_bne, Bool.not_true, Bool.not_false, Bool.and_true, Bool.true_and, Bool.and_false, Bool.false_and, Bool.or_true, Bool.true_or, Bool.or_false, Bool.false_or, cond_true, cond_false, List.getElem?_toArray, List.getElem?_cons_zero, List.getElem?_cons_succ, Nat.zero_add, Nat.add_zero, Nat.reduceAdd, forall_const, Bool.not_true, L_api_ID hs3.blk]
  refine jn1_dup ?_
  refine cal_i (Has_spec (hs3.tr hr) b) ?_
  rintro _ w4 ⟨rfl, hf4⟩
  have hs4 := hs3.old hf4
  by_cases hb : has t N b = true
  case neg =>
    have hb : has t N b = false := by simpa using hb
    simp only [hb, nilc_some, fad_mk, pik_true, pik_false, cnd_true, cnd_false, gif_same, gif_tf, gif_ft, gif_undef, bi_add, bi_sub, bi_mul, bi_eql, bi_neq, bi_lss, bi_leq, bi_gtr, bi_geq, notB_bool, cvi_int, lenS_mk, lenT_mk, ext0, ext1, ext2, nilP_mk, nilS_mk, fldv_agg, jn0_k, jn1_k, jn2_k, jn1_and, jn1_or, ex_some, Option.isNone_some, Option.isNone_none, Bool.false_bne, Bool.bne_true, Bool.bne_false, Bool.true_bne, Bool.not_true, Bool.not_false, Bool.and_true, Bool.true_and, Bool.and_false, Bool.false_and, Bool.or_true, Bool.true_or, Bool.or_false, Bool.false_or, cond_true, cond_false, List.getElem?_toArray, List.getElem?_cons_zero, List.getElem?_cons_succ, Nat.zero_add, Nat.add_zero, Nat.reduceAdd, forall_const, Bool.not_false]
    exact hR _ _ ⟨by unfold under; rw [hb, Bool.false_and, Bool.and_false], hs4.fr0⟩
  simp only [hb, nilc_some, fad_mk, pik_true, pik_false, cnd_true, cnd_false, gif_same, gif_tf, gif_ft, gif_undef, bi_add, bi_sub, bi_mul, bi_eql, bi_neq, bi_lss, bi_leq, bi_gtr, bi_geq, notB_bool, cvi_int, lenS_mk, lenT_mk, ext0, ext1, ext2, nilP_mk, nilS_mk, fldv_agg, jn0_k, jn1_k, jn2_k, jn1_and, jn1_or, ex_some, Option.isNone_some, Option.isNone_none, Bool.false_bne, Bool.bne_true, Bool.bne_false, Bool.true_bne, Bool.not_true, Bool.not_false, Bool.and_true, Bool.true_and, Bool.and_false, Bool.false_and, Bool.or_true, Bool.true_or, Bool.or_false, Bool.false_or, cond_true, cond_false, List.getElem?_toArray, List.getElem?_cons_zero, List.getElem?_cons_succ, Nat.zero_add, Nat.add_zero, Nat.reduceAdd, forall_const, Bool.not_true]
  refine ⟨fun z => ∃ k, has t N k = true ∧ under t N a b = under t N k b ∧ Sep w z [blk g4 (Rdr.cells (rVec 32) b).toArray T_api_ID, blk g3 (Rdr.cells (rVec 32) k).toArray T_api_ID], fun z => hgt t N (keyAt g3 z), ⟨a, ha, rfl, hs4⟩, ?_⟩
  rintro w5 ⟨k, hk, hu, hs5⟩ -
  refine drw_s hs5 fun w6 hs6 hw6 => ?_
  obtain ⟨T, fr, hc⟩ := (hs6.tr hr).cell
  simp only [L_api_ID hs6.blk, L_api_ID (Sep.p1 hs6).blk, ne_api_ID, L_tree_Tree hc, L_tree_Tree__made hc, L_tree_Tree__root hc, L_tree_Tree__height hc, L_tree_Tree__most hc, L_tree_Tree__blocks hc, L_tree_Tree__order hc, nilc_some, fad_mk, pik_true, pik_false, cnd_true, cnd_false, gif_same, gif_tf, gif_ft, gif_undef, bi_add, bi_sub, bi_mul, bi_eql, bi_neq, bi_lss, bi_leq, bi_gtr, bi_geq, notB_bool, cvi_int, lenS_mk, lenT_mk, ext0, ext1, ext2, nilP_mk, nilS_mk, fldv_agg, jn0_k, jn1_k, jn2_k, jn1_and, jn1_or, ex_some, Option.isNone_some, Option.isNone_none, Bool.false_bne, Bool.bne_true, Bool.bne_false, Bool.true_bne, Bool.not_true, Bool.not_false, Bool.and_true, Bool.true_and, Bool.and_false, Bool.false_and, Bool.or_true, Bool.true_or, Bool.or_false, Bool.false_or, cond_true, cond_false, List.getElem?_toArray, List.getElem?_cons_zero, List.getElem?_cons_succ, Nat.zero_add, Nat.add_zero, Nat.reduceAdd, forall_const]
  have fin : (k = b ∨ k = t.root) → R (.bool (decide (k = b))) w6 := fun he => by
    refine hR _ _ ⟨?_, hs6.fr0⟩
    rw [hu]
    congr 1
    unfold under
    rw [hk, hb, Bool.true_and, Bool.true_and]
    by_cases hkb : k = b
    · subst hkb
      rw [decide_eq_true rfl]
      by_cases hkr : k = t.root
      · rw [decide_eq_true hkr]; rfl
      · rw [wayUp_step hw hk hkr]; simp
    · have hkr : k = t.root := he.resolve_left hkb
      rw [decide_eq_false hkb, hkr, wayUp_root]
      have : ¬ b = t.root := fun hbr => hkb (by rw [hkr, hbr])
      simp [this]
  rw [cnd_bool]
  refine ⟨fun h => ?_, fun h => ?_⟩
  · have h1 : ¬ k = b ∧ ¬ k = t.root := by simpa using h
    obtain ⟨h2, h3⟩ := up_has hw hk h1.2
    refine drH_S hs6 fun w7 hs7 hw7 => ?_
    refine rdS_ld (v := .map (some gm)) (fun u hu K hk => by
      obtain ⟨T, fr, hc⟩ := (hu.tr hr).cell
      exact (L_tree_Tree__blocks hc K).mpr hk) ?_
    refine ⟨kv k, fun u hu => (L_api_ID (Sep.p1 hu).blk _).mpr rfl, ?_⟩
    refine ⟨(getE k (N.map TN.ent)).getD (bq Blk.none (.slice none 0 0)), fun u hu => (lookup_map1 U_map_api_ID_api_Block KT (zB u) (hu.tr hr).map k _).mpr rfl, ?_⟩
    rw [nb_get]
    have e : ∀ K, fldv 0 32 true (bq (nb k N).1 (nb k N).2) K = K (kv (upOf k N)) := fun K => by
      have hl : (bvs (nb k N).1.p.1).length = 32 := by rw [bvs_length]; exact (nb k N).1.p.2
      have ex : (Rdr.cells Q_api_Block ((nb k N).1.p, (nb k N).1.h, (nb k N).2)).toArray.extract 0 (0 + 32) = (bvs (nb k N).1.p.1).toArray := by
        apply Array.ext'
        show ((bvs (nb k N).1.p.1 ++ ([Value.int .i64 (nb k N).1.h] ++ [(nb k N).2])).toArray.extract 0 (0 + 32)).toList = _
        simp only [List.extract_toArray, List.drop_zero]
        simp [List.extract, hl]
      refine propext ⟨?_, fun hk => ⟨_, rfl, ?_, ?_⟩⟩
      · rintro ⟨cs, hcs, h⟩
        cases hcs
        have h2 := h.2
        rw [ex] at h2
        exact h2
      · show 0 + 32 ≤ (bvs (nb k N).1.p.1 ++ ([Value.int .i64 (nb k N).1.h] ++ [(nb k N).2])).toArray.size
        simp [hl]
      · rw [ex]
        exact hk
    change fldv _ _ _ _ _
    rw [e]
    refine efC_stN (St_api_ID hs7.p1 fun w8 hs8 => ?_)
    refine ⟨⟨upOf k N, h2, ?_, hs8.p1⟩, ?_⟩
    · rw [hu]
      unfold under
      rw [hk, h2, wayUp_step hw hk h1.2]
      have : ¬ b = k := fun hbk => h1.1 hbk.symm
      simp [this]
    · rw [keyAt_eq hs8.blk, keyAt_eq (Sep.p1 hs5).blk]
      omega
  · have h1 : k = b ∨ k = t.root := by
      rcases Decidable.em (k = b) with hh | hh
      · exact .inl hh
      · refine .inr (Decidable.byContradiction fun hr' => ?_)
        simp [hh, hr'] at h
    simp only [eq_api_ID, L_api_ID hs6.blk, L_api_ID (Sep.p1 hs6).blk]
    exact fin h1
end
end Go.Fx
set_option linter.unusedVariables false
set_option linter.unusedSimpArgs false
namespace Go.Fx
theorem splice_take {β : Type} {D vs pre qa post : List β} {k n : Nat} (hp : pre.length = k) (hv : vs.length = qa.length) (h : D.take n = pre ++ qa ++ post) (hn : n = k + qa.length + post.length) : (D.take k ++ vs ++ D.drop (k + vs.length)).take n = pre ++ vs ++ post := by
  obtain ⟨R, hR⟩ : ∃ R, D = pre ++ (qa ++ (post ++ R)) := ⟨D.drop n, by conv => lhs; rw [← List.take_append_drop n D, h]; simp⟩
  have h1 : D.take k = pre := by rw [hR]; exact List.take_left' hp
  have h2 : D.drop (k + vs.length) = post ++ R := by rw [hR, ← List.drop_drop, List.drop_left' hp, hv]; exact List.drop_left' rfl
  rw [h1, h2, ← List.append_assoc]
  exact List.take_left' (by simp; omega)
section
variable {w0 w w' : World} {As : List Asn} {α : Type} {q : Rdr α}
/-- A store of a whole row. -/
theorem rows_stN {g o c j : Nat} {l : List α} {a b : α} {K : World → Prop} (hs : Sep w0 w (Go.Fx.rows q (.slice (some ⟨g, o, none⟩) l.length c) l :: As)) (hj : l[j]? = some a)
    (h1 : ∀ u ∈ q.cells b, u.oneCell' = true) (h : ∀ w', Sep w0 w' (Go.Fx.rows q (.slice (some ⟨g, o, none⟩) l.length c) (l.set j b) :: As) → K w') : stN q.size (.pointer (some ⟨g, o + j * q.size, none⟩)) (.agg (q.cells b).toArray) w K := by
  obtain ⟨F, ho, hu⟩ := hs.upd
  have hlt := (List.getElem?_eq_some_iff.1 hj).1
  obtain ⟨pre', post', d1, d2, d3⟩ := flatMap_set (q := q) (b := b) hj
  have hb : j * q.size + q.size ≤ l.length * q.size := by rw [← Nat.succ_mul]; exact Nat.mul_le_mul_right _ hlt
  obtain ⟨hl, ⟨hv, _⟩ | ⟨g', o', cap, cur, E, hv, hn, hg, hfit, hcs, rfl⟩⟩ := ho
  · cases hv
  · cases hv
    have hcap : l.length * q.size ≤ c * q.size := Nat.mul_le_mul_right _ hn
    have hqa := q.len a
    have hqb := q.len b
    refine stN_i hg (by simp [hqb]) (by omega) (by simpa using h1) fun w' hg' hf => h w' ?_
    have hll : (l.set j b).length = l.length := by simp
    refine hu w' [g] _ ?_ hf (Grew.refl _ _)
    show Own w'.heap _ q.size (l.set j b).length _ [g]
    rw [hll]
    have hsz : (splice cur (o + j * q.size) (q.cells b)).size = cur.size := by
      simp only [splice, List.size_toArray, List.length_append, List.length_take, List.length_drop, Array.length_toList, hqb]
      omega
    refine ⟨by rw [parts_length q.len, hll], .inr ⟨g, o, c, _, E, rfl, hn, hg', by rw [hsz]; exact hfit, ?_, rfl⟩⟩
    rw [d2]
    rw [d1] at hcs
    have hlen : l.length * q.size = j * q.size + q.size + post'.length := by
      have h2 := congrArg List.length d1
      rw [parts_length q.len, List.length_append, List.length_append, hqa, d3] at h2
      exact h2
    have e : (splice cur (o + j * q.size) (q.cells b)).toList.drop o = (cur.toList.drop o).take (j * q.size) ++ q.cells b ++ (cur.toList.drop o).drop (j * q.size + (q.cells b).length) := by
      have e1 : List.drop o (cur.toList.take (o + j * q.size)) = (cur.toList.drop o).take (j * q.size) := by rw [List.drop_take]; congr 1; omega
      have e2 : (cur.toList.drop o).drop (j * q.size + (q.cells b).length) = cur.toList.drop (o + j * q.size + (q.cells b).length) := by rw [List.drop_drop]; congr 1; omega
      rw [e2]
      simp only [splice]
      rw [List.append_assoc, List.drop_append_of_le_length (by simp only [List.length_take, Array.length_toList]; omega), e1, List.append_assoc]
    rw [e]
    exact splice_take d3 (by rw [hqa, hqb]) hcs (by rw [hqa]; exact hlen)
/-- A row, read in a region that draws. -/
theorem rdS_rowV {S : World → Prop} {v : Value} {l : List α} {j : Nat} {a : α} {K : Value → Prop} (hp : 0 < q.size)
    (hw : S w) (hS : ∀ u, S u → Rows' q u.heap v l) (hj : l[j]? = some a) (k : IntKind) (h : K (.agg (q.cells a).toArray)) : ixs q.size v (.int k (j : Int)) fun t => rdS S (fun w => ldN q.size t w.heap) K := by
  obtain ⟨g, o, c, rfl⟩ := (hS w hw).form hp hj
  have hlt := (List.getElem?_eq_some_iff.1 hj).1
  rw [ixs_mk _ _ _ _ _ _ _ _ (by omega) (by omega), Int.toNat_natCast]
  refine ⟨.agg (q.cells a).toArray, fun z hz => ?_, h⟩
  have hat := At.of hp (hS z hz) hj
  exact (At.ldN hat (q.len a) _).mpr rfl
theorem Reverse_spec {v : Value} {l : List (Vec 32)} (hs : Sep w0 w (rows (rVec 32) v l :: As)) (hl : l.length ≤ 1000000) : cal P f_slices_Reverse_api_ID_api_ID [v] w fun r w' => r = .tuple #[] ∧ Sep w0 w' (rows (rVec 32) v l.reverse :: As) := by
  refine s_slices_Reverse_api_ID_api_ID fun R hR => ?_
  unfold c_slices_Reverse_api_ID_api_ID
  simp only [(Sep.rows hs).len, nilc_some, fad_mk, pik_true, pik_false, cnd_true, cnd_false, gif_same, gif_tf, gif_ft, gif_undef, bi_add, bi_sub, bi_mul, bi_eql, bi_neq, bi_lss, bi_leq, bi_gtr, bi_geq, notB_bool, cvi_int, lenS_mk, lenT_mk, ext0, ext1, ext2, nilP_mk, nilS_mk, fldv_agg, jn0_k, jn1_k, jn2_k, jn1_and, jn1_or, ex_some, Option.isNone_some, Option.isNone_none, Bool.false_bne, Bool.bne_true, Bool.bne_false, Bool.true_bne, Bool.not_true, Bool.not_false, Bool.and_true, Bool.true_and, Bool.and_false, Bool.false_and, Bool.or_true, Bool.true_or, Bool.or_false, Bool.false_or, cond_true, cond_false, List.getElem?_toArray, List.getElem?_cons_zero, List.getElem?_cons_succ, Nat.zero_add, Nat.add_zero, Nat.reduceAdd, forall_const]
  rw [wi64 (by omega) (by omega)]
  refine ⟨fun x y z => ∃ (i : Nat) (m : List (Vec 32)), x = .int .i64 i ∧ y = .int .i64 ((l.length : Int) - 1 - i) ∧ 2 * i ≤ l.length + 1 ∧ m.length = l.length ∧ (∀ p, p < l.length → m[p]? = if p < i ∨ l.length ≤ p + i then l[l.length - 1 - p]? else l[p]?) ∧ Sep w0 z (rows (rVec 32) v m :: As),
    fun x _ _ => (l.length - RowKit.intOf x).toNat, ⟨0, l, rfl, by simp, by omega, rfl, fun p hp => by rw [if_neg (by omega)], hs⟩, ?_⟩
  rintro _ _ w1 ⟨i, m, rfl, rfl, hi, hml, hm, hs1⟩ -
  simp only [nilc_some, fad_mk, pik_true, pik_false, cnd_true, cnd_false, gif_same, gif_tf, gif_ft, gif_undef, bi_add, bi_sub, bi_mul, bi_eql, bi_neq, bi_lss, bi_leq, bi_gtr, bi_geq, notB_bool, cvi_int, lenS_mk, lenT_mk, ext0, ext1, ext2, nilP_mk, nilS_mk, fldv_agg, jn0_k, jn1_k, jn2_k, jn1_and, jn1_or, ex_some, Option.isNone_some, Option.isNone_none, Bool.false_bne, Bool.bne_true, Bool.bne_false, Bool.true_bne, Bool.not_true, Bool.not_false, Bool.and_true, Bool.true_and, Bool.and_false, Bool.false_and, Bool.or_true, Bool.true_or, Bool.or_false, Bool.false_or, cond_true, cond_false, List.getElem?_toArray, List.getElem?_cons_zero, List.getElem?_cons_succ, Nat.zero_add, Nat.add_zero, Nat.reduceAdd, forall_const]
  rw [cnd_bool]
  refine ⟨fun h => ?_, fun h => ?_⟩
  · have hij : i + 1 + i < l.length := by simp at h; omega
    obtain ⟨j, hj⟩ : ∃ j : Nat, (l.length : Int) - 1 - i = (j : Int) := ⟨l.length - 1 - i, by omega⟩
    have hjl : j = l.length - 1 - i := by omega
    rw [hj]
    obtain ⟨a, c, rfl, hac⟩ := Sep.formR hs1
    have hmi := List.getElem?_eq_getElem (l := m) (i := i) (by omega)
    have hmj := List.getElem?_eq_getElem (l := m) (i := j) (by omega)
    generalize m[i] = x at hmi
    generalize m[j] = y at hmj
    refine drH_S hs1 fun w2 hs2 _ => ?_
    refine rdS_rowV (q := rVec 32) (by decide) hs2 (fun u hu => Sep.rows hu) hmj .i64 ?_
    refine rdS_rowV (q := rVec 32) (by decide) hs2 (fun u hu => Sep.rows hu) hmi .i64 ?_
    obtain ⟨g, o, c', hv⟩ := (Sep.rows hs2).form (by decide) hmi
    simp only [Value.slice.injEq] at hv
    obtain ⟨rfl, _, rfl⟩ := hv
    rw [ixs_mk _ _ _ _ _ _ _ _ (by omega) (by omega), Int.toNat_natCast]
    refine efC_stN (rows_stN hs2 hmi oneVec fun w3 hs3 => ?_)
    rw [ixs_mk _ _ _ _ _ _ _ _ (by omega) (by omega), Int.toNat_natCast]
    have hmj' : (m.set i y)[j]? = some y := by rw [List.getElem?_set_ne (by omega)]; exact hmj
    have e3 : m.length = (m.set i y).length := by simp
    rw [e3] at hs3
    refine efC_stN (rows_stN hs3 hmj' oneVec fun w4 hs4 => ?_)
    rw [← e3] at hs4
    rw [wi64 (by omega) (by omega), wi64 (by omega) (by omega)]
    refine ⟨⟨i + 1, (m.set i y).set j x, by simp, by congr 1; omega, by omega, by simp [hml], fun p hp => ?_, hs4⟩, by simp [RowKit.intOf]; omega⟩
    have hmp := hm p hp
    have hix := hm i (by omega)
    have hjy := hm j (by omega)
    rw [if_neg (by omega)] at hix hjy
    by_cases hpj : p = j
    · subst hpj
      rw [List.getElem?_set_self (by simp; omega), if_pos (by omega), show l.length - 1 - p = i by omega, ← hix, hmi]
    · rw [List.getElem?_set_ne (by omega)]
      by_cases hpi : p = i
      · subst hpi
        rw [List.getElem?_set_self (by omega), if_pos (by omega), show l.length - 1 - p = j by omega, ← hjy, hmj]
      · rw [List.getElem?_set_ne (by omega), hmp]
        by_cases hc : p < i ∨ l.length ≤ p + i
        · rw [if_pos hc, if_pos (by omega)]
        · rw [if_neg hc, if_neg (by omega)]
  · have hge : l.length ≤ i + 1 + i := by simp at h; omega
    have e : m = l.reverse := by
      apply List.ext_getElem?
      intro p
      by_cases hp : p < l.length
      · rw [hm p hp, List.getElem?_reverse hp]
        by_cases hc : p < i ∨ l.length ≤ p + i
        · rw [if_pos hc]
        · rw [if_neg hc, show l.length - 1 - p = p by omega]
      · rw [List.getElem?_eq_none (by omega), List.getElem?_eq_none (by simp; omega)]
    rw [e] at hs1
    exact hR _ _ ⟨rfl, hs1⟩
end
end Go.Fx
set_option linter.unusedVariables false
set_option linter.unusedSimpArgs false
namespace Go.Fx
def pathOf (t : Tr) (N : List TN) (k : Vec 32) : List (Vec 32) := if has t N k then (wayUp t N (hgt t N k) k).reverse else []
theorem wayUp_len (t : Tr) (N : List TN) : ∀ (n : Nat) (k : Vec 32), (wayUp t N n k).length ≤ n
  | 0, _ => by simp [wayUp]
  | n + 1, k => by
    unfold wayUp
    split
    · simp
    · have := wayUp_len t N n (upOf k N)
      simp only [List.length_cons]
      omega
theorem fldv_par (b : Blk) (v : Value) (K : Value → Prop) : fldv 0 32 true (bq b v) K = K (kv b.p) := by
  have hl : (bvs b.p.1).length = 32 := by rw [bvs_length]; exact b.p.2
  have ex : (Rdr.cells Q_api_Block (b.p, b.h, v)).toArray.extract 0 (0 + 32) = (bvs b.p.1).toArray := by
    apply Array.ext'
    show ((bvs b.p.1 ++ ([Value.int .i64 b.h] ++ [v])).toArray.extract 0 (0 + 32)).toList = _
    simp only [List.extract_toArray, List.drop_zero]
    simp [List.extract, hl]
  refine propext ⟨?_, fun hk => ⟨_, rfl, ?_, ?_⟩⟩
  · rintro ⟨cs, hcs, h⟩
    cases hcs
    have h2 := h.2
    rw [ex] at h2
    exact h2
  · show 0 + 32 ≤ (bvs b.p.1 ++ ([Value.int .i64 b.h] ++ [v])).toArray.size
    simp [hl]
  · rw [ex]
    exact hk
section
variable {w0 w w' : World} {As : List Asn} {g gm c : Nat} {ov : Value} {t : Tr} {N : List TN}
theorem Path_spec (hr : TrR w.heap g gm ov t N c) (hw : TrW t N) (a : Vec 32) (hh : hgt t N a ≤ 1000000) : cal P f_tree_Tree_Path [.pointer (some ⟨g, 0, none⟩), kv a] w fun r w' => Sep w w' [rows (rVec 32) r (pathOf t N a)] := by
  refine s_tree_Tree_Path fun R hR => ?_
  unfold c_tree_Tree_Path
  refine bxQ (Sep.start w) fun g3 w1 hs1 => ?_
  simp only [L_api_ID hs1.blk]
  refine cal_i (Has_spec (hs1.tr hr) a) ?_
  rintro _ w2 ⟨rfl, hf2⟩
  have hs2 := hs1.old hf2
  simp only [nilc_some, fad_mk, pik_true, pik_false, cnd_true, cnd_false, gif_same, gif_tf, gif_ft, gif_undef, bi_add, bi_sub, bi_mul, bi_eql, bi_neq, bi_lss, bi_leq, bi_gtr, bi_geq, notB_bool, cvi_int, lenS_mk, lenT_mk, ext0, ext1, ext2, nilP_mk, nilS_mk, fldv_agg, jn0_k, jn1_k, jn2_k, jn1_and, jn1_or, ex_some, Option.isNone_some, Option.isNone_none, Bool.false_bne, Bool.bne_true, Bool.bne_false, Bool.true_bne, Bool.not_true, Bool.not_false, Bool.and_true, Bool.true_and, Bool.and_false, Bool.false_and, Bool.or_true, Bool.true_or, Bool.or_false, Bool.false_or, cond_true, cond_false, List.getElem?_toArray, List.getElem?_cons_zero, List.getElem?_cons_succ, Nat.zero_add, Nat.add_zero, Nat.reduceAdd, forall_const]
  rw [cnd_bool]
  refine ⟨fun h => ?_, fun h => ?_⟩
  · have ha : has t N a = false := by simpa using h
    refine hR _ _ ?_
    unfold pathOf
    rw [ha]
    exact ((Sep.start w).old hs2.fr0).nilR
  have ha : has t N a = true := by simpa using h
  have hwl := wayUp_len t N (hgt t N a) a
  refine ⟨fun x z => ∃ (k : Vec 32) (D : List (Vec 32)), has t N k = true ∧ D ++ wayUp t N (hgt t N k) k = wayUp t N (hgt t N a) a ∧ Sep w z [rows (rVec 32) x D, blk g3 (Rdr.cells (rVec 32) k).toArray T_api_ID], fun _ z => hgt t N (keyAt g3 z), ⟨a, [], ha, rfl, hs2.nilR⟩, ?_⟩
  rintro x w5 ⟨k, D, hk, hD, hs5⟩ -
  have hDl : D.length ≤ 1000000 := by
    have := congrArg List.length hD
    rw [List.length_append] at this
    omega
  refine drw_s hs5 fun w6 hs6 hw6 => ?_
  obtain ⟨T, fr, hc⟩ := (hs6.tr hr).cell
  simp only [L_api_ID (Sep.p1 hs6).blk, ne_api_ID, L_tree_Tree hc, L_tree_Tree__made hc, L_tree_Tree__root hc, L_tree_Tree__height hc, L_tree_Tree__most hc, L_tree_Tree__blocks hc, L_tree_Tree__order hc, nilc_some, fad_mk, pik_true, pik_false, cnd_true, cnd_false, gif_same, gif_tf, gif_ft, gif_undef, bi_add, bi_sub, bi_mul, bi_eql, bi_neq, bi_lss, bi_leq, bi_gtr, bi_geq, notB_bool, cvi_int, lenS_mk, lenT_mk, ext0, ext1, ext2, nilP_mk, nilS_mk, fldv_agg, jn0_k, jn1_k, jn2_k, jn1_and, jn1_or, ex_some, Option.isNone_some, Option.isNone_none, Bool.false_bne, Bool.bne_true, Bool.bne_false, Bool.true_bne, Bool.not_true, Bool.not_false, Bool.and_true, Bool.true_and, Bool.and_false, Bool.false_and, Bool.or_true, Bool.true_or, Bool.or_false, Bool.false_or, cond_true, cond_false, List.getElem?_toArray, List.getElem?_cons_zero, List.getElem?_cons_succ, Nat.zero_add, Nat.add_zero, Nat.reduceAdd, forall_const]
  rw [cnd_bool]
  refine ⟨fun h => ?_, fun h => ?_⟩
  · have h1 : ¬ k = t.root := by simpa using h
    obtain ⟨h2, h3⟩ := up_has hw hk h1
    refine rows_lit hs6 S_sl_api_ID (l := [k]) (V := fun a => .agg (Rdr.cells (rVec 32) a).toArray) (fun a => rfl) rfl rfl (by decide) (by decide) fun g7 w7 hs7 => ?_
    refine rows_app S_sl_api_ID U_sl_api_ID (by simp) hs7.p1 (Sep.rows hs7) ?_ (by simp; omega) (by simp; omega) fun v8 w8 hs8 => ?_
    · simp only [List.flatMap_cons, List.flatMap_nil, List.append_nil]
      exact oneVec
    have hs9 : Sep w w8 [rows (rVec 32) v8 (D ++ [k]), blk g3 (Rdr.cells (rVec 32) k).toArray T_api_ID] := (hs8.pick [0, 2] 3).dropR (As := [_, _])
    refine drH_S hs9 fun w10 hs10 _ => ?_
    refine rdS_ld (v := .map (some gm)) (fun u hu K hk => by
      obtain ⟨T, fr, hc⟩ := (hu.tr hr).cell
      exact (L_tree_Tree__blocks hc K).mpr hk) ?_
    refine ⟨kv k, fun u hu => (L_api_ID (Sep.p1 hu).blk _).mpr rfl, ?_⟩
    refine ⟨(getE k (N.map TN.ent)).getD (bq Blk.none (.slice none 0 0)), fun u hu => (lookup_map1 U_map_api_ID_api_Block KT (zB u) (hu.tr hr).map k _).mpr rfl, ?_⟩
    rw [nb_get]
    change fldv _ _ _ _ _
    rw [fldv_par]
    refine efC_stN (St_api_ID hs10.p1 fun w11 hs11 => ?_)
    refine ⟨⟨upOf k N, D ++ [k], h2, ?_, hs11.p1⟩, ?_⟩
    · rw [← hD, wayUp_step hw hk h1]; simp
    · rw [keyAt_eq hs11.blk, keyAt_eq (Sep.p1 hs5).blk]
      show hgt t N (upOf k N) < hgt t N k
      omega
  · have h1 : k = t.root := by simpa using h
    rw [h1, wayUp_root, List.append_nil] at hD
    refine cal_i (Reverse_spec hs6 hDl) ?_
    rintro _ w7 ⟨rfl, hs7⟩
    refine hR _ _ ?_
    unfold pathOf
    rw [if_pos ha, ← hD]
    exact Sep.dropR (As := [rows (rVec 32) x D.reverse]) hs7
end
end Go.Fx
set_option linter.unusedVariables false
set_option linter.unusedSimpArgs false
namespace Go.Fx
theorem filter_opt {α : Type} (so : α → Bool) (k : α) : List.filter so (some k).toList = if so k = true then [k] else [] := by
  cases h : so k <;> simp [h]
section
variable {w0 w w' : World} {As : List Asn} {g gm c : Nat} {ov : Value} {t : Tr} {N : List TN}
theorem calV_mk {f : FuncId} {cap args : List Value} {K : Value → World → Prop} (hc : callable P f = true) (h : cal P f (args ++ cap) w K) : calV P (.func (.func f) #[] cap.toArray) args w K :=
  ⟨f, #[], cap.toArray, rfl, hc, by simpa [cal] using h⟩
theorem those_spec {f : FuncId} {cap : List Value} {so : Vec 32 → Bool} (hr : TrR w.heap g gm ov t N c) (hn : N.length ≤ 1000000) (hc : callable P f = true)
    (hso : ∀ (z : World) (k : Vec 32), Fr [] w z → cal P f ([kv k] ++ cap) z fun r w' => r = .bool (so k) ∧ Fr [] z w') :
    cal P f_tree_Tree_those [.pointer (some ⟨g, 0, none⟩), .func (.func f) #[] cap.toArray] w fun r w' => Sep w w' [rows (rVec 32) r ((N.map (·.1)).filter so)] := by
  refine s_tree_Tree_those fun R hR => ?_
  unfold c_tree_Tree_those
  refine cal_i (tnone_spec hr) ?_
  rintro _ _ ⟨rfl, rfl⟩
  obtain ⟨T, fr, hcl⟩ := hr.cell
  have hl : ∀ K, lenS ov K = K (.int .i64 N.length) := fun K => by
    have := hr.ord.len K
    rwa [List.length_map] at this
  simp only [nilc_some, fad_mk, pik_true, pik_false, cnd_true, cnd_false, gif_same, gif_tf, gif_ft, gif_undef, bi_add, bi_sub, bi_mul, bi_eql, bi_neq, bi_lss, bi_leq, bi_gtr, bi_geq, notB_bool, cvi_int, lenS_mk, lenT_mk, ext0, ext1, ext2, nilP_mk, nilS_mk, fldv_agg, jn0_k, jn1_k, jn2_k, jn1_and, jn1_or, ex_some, Option.isNone_some, Option.isNone_none, Bool.false_bne, Bool.bne_true, Bool.bne_false, Bool.true_bne, Bool.not_true, Bool.not_false, Bool.and_true, Bool.true_and, Bool.and_false, Bool.false_and, Bool.or_true, Bool.true_or, Bool.or_false, Bool.false_or, cond_true, cond_false, List.getElem?_toArray, List.getElem?_cons_zero, List.getElem?_cons_succ, Nat.zero_add, Nat.add_zero, Nat.reduceAdd, forall_const, L_tree_Tree hcl, L_tree_Tree__made hcl, L_tree_Tree__root hcl, L_tree_Tree__height hcl, L_tree_Tree__most hcl, L_tree_Tree__blocks hcl, L_tree_Tree__order hcl, hl]
  refine ⟨fun x y z => ∃ i : Nat, y = .int .i64 i ∧ i ≤ N.length ∧ Sep w z [rows (rVec 32) x (((N.map (·.1)).take i).filter so)], fun _ y _ => (N.length - RowKit.intOf y).toNat, ⟨0, rfl, by omega, (Sep.start w).nilR⟩, ?_⟩
  rintro x _ w1 ⟨i, rfl, hi, hs1⟩ -
  simp only [nilc_some, fad_mk, pik_true, pik_false, cnd_true, cnd_false, gif_same, gif_tf, gif_ft, gif_undef, bi_add, bi_sub, bi_mul, bi_eql, bi_neq, bi_lss, bi_leq, bi_gtr, bi_geq, notB_bool, cvi_int, lenS_mk, lenT_mk, ext0, ext1, ext2, nilP_mk, nilS_mk, fldv_agg, jn0_k, jn1_k, jn2_k, jn1_and, jn1_or, ex_some, Option.isNone_some, Option.isNone_none, Bool.false_bne, Bool.bne_true, Bool.bne_false, Bool.true_bne, Bool.not_true, Bool.not_false, Bool.and_true, Bool.true_and, Bool.and_false, Bool.false_and, Bool.or_true, Bool.true_or, Bool.or_false, Bool.false_or, cond_true, cond_false, List.getElem?_toArray, List.getElem?_cons_zero, List.getElem?_cons_succ, Nat.zero_add, Nat.add_zero, Nat.reduceAdd, forall_const]
  rw [cnd_bool]
  refine ⟨fun h => ?_, fun h => ?_⟩
  · have hlt : i < N.length := by simp at h; omega
    obtain ⟨Ks, hKs⟩ : ∃ Ks : List (Vec 32), Ks = N.map (·.1) := ⟨_, rfl⟩
    have hKl : Ks.length = N.length := by rw [hKs, List.length_map]
    rw [← hKs] at hs1 ⊢
    have hord := hr.ord
    rw [← hKs] at hord
    obtain ⟨k, hx⟩ : ∃ k, Ks[i]? = some k := ⟨_, List.getElem?_eq_getElem (by omega)⟩
    clear hKs
    have ht : (Ks.take (i + 1)).filter so = (Ks.take i).filter so ++ (if so k then [k] else []) := by
      rw [List.take_add_one, hx, List.filter_append, filter_opt]
    have hfl : ((Ks.take i).filter so).length ≤ i := by
      have h1 := List.length_filter_le so (Ks.take i)
      have h2 : (Ks.take i).length ≤ i := List.length_take_le _ _
      omega
    refine ⟨fun v z => Sep w z [rows (rVec 32) v ((Ks.take (i + 1)).filter so)], ?_, ?_⟩
    · change ixs 32 _ _ _
      refine Rows'.ldN (q := rVec 32) (by decide) (hord.fr hs1.fr0) hx .i64 ?_
      refine alloc_s hs1 (A_api_ID w1) fun g7 w2 hs2 => ?_
      refine St_api_ID (b := k) hs2 fun w3 hs3 => ?_
      simp only [L_api_ID hs3.blk]
      refine calV_mk hc (cal_i (hso w3 k hs3.fr0) ?_)
      rintro _ w4 ⟨rfl, hf4⟩
      have hs4 := hs3.old hf4
      rw [cnd_bool]
      refine ⟨fun hk => ?_, fun hk => ?_⟩
      · simp only [L_api_ID hs4.blk]
        refine rows_lit hs4 S_sl_api_ID (l := [k]) (V := fun a => .agg (Rdr.cells (rVec 32) a).toArray) (fun a => rfl) rfl rfl (by decide) (by decide) fun g8 w5 hs5 => ?_
        refine rows_app S_sl_api_ID U_sl_api_ID (by simp) hs5.p2 (Sep.rows hs5) ?_ (by simp; omega) (by simp; omega) fun v8 w8 hs8 => ?_
        · simp only [List.flatMap_cons, List.flatMap_nil, List.append_nil]
          exact oneVec
        rw [ht, hk, if_pos rfl]
        exact Sep.dropR (As := [rows (rVec 32) v8 _]) hs8
      · rw [ht, hk]
        simpa using hs4.tail
    · rintro v w2 hs2 _
      rw [wi64 (by omega) (by omega)]
      exact ⟨⟨i + 1, by simp, by omega, hs2⟩, by simp [RowKit.intOf]; omega⟩
  · have hge : i = N.length := by simp at h; omega
    subst hge
    rw [List.take_of_length_le (by simp)] at hs1
    exact hR _ _ hs1
end
end Go.Fx
set_option linter.unusedVariables false
set_option linter.unusedSimpArgs false
namespace Go.Fx
/-- A tree that the call owns. -/
def trL (g gm : Nat) (ov : Value) (t : Tr) (N : List TN) (c : Nat) : List Asn :=
  blk g (Rdr.cells Q_tree_Tree (tq t gm ov)).toArray T_tree_Tree :: mp gm (N.map TN.ent) c :: rows (rVec 32) ov (N.map (·.1)) :: N.map fun x => ownB x.2.2.1 x.2.1.d
section
variable {w0 w w' : World} {As : List Asn} {g gm c : Nat} {ov : Value} {t : Tr} {N : List TN}
theorem trL_rd (h : Sep w0 w (trL g gm ov t N c ++ As)) : TrR w.heap g gm ov t N c := by
  refine ⟨⟨_, _, Sep.blk h⟩, Sep.map (Sep.tail h), Sep.rows (Sep.tail (Sep.tail h)), fun x hx => ?_⟩
  obtain ⟨F, hF⟩ := h.onL (A := ownB x.2.2.1 x.2.1.d) (by
    simp only [trL, List.cons_append, List.mem_cons, List.mem_append, List.mem_map]
    exact .inr (.inr (.inr (.inl ⟨x, hx, rfl⟩))))
  exact OwnB.rd hF
theorem TrW.nil (t : Tr) : TrW t [] := ⟨fun k b h => by simp [blkOf, nodeOf] at h, fun k b h => by simp [blkOf, nodeOf] at h, rfl, fun x hx => by cases hx⟩
theorem tNew_spec (r : Vec 32) (h m : Int) : cal P f_tree_New [kv r, .int .i64 h, .int .i64 m] w fun v w' => (¬ (0 ≤ h ∧ 1 ≤ m ∧ m ≤ 256) ∧ v = .tuple #[.pointer none, .int .i64 1] ∧ Fr [] w w') ∨
    ((0 ≤ h ∧ 1 ≤ m ∧ m ≤ 256) ∧ ∃ g gm, v = .tuple #[.pointer (some ⟨g, 0, none⟩), .int .i64 0] ∧ Sep w w' (trL g gm (.slice none 0 0) ⟨r, h, m⟩ [] 0)) := by
  refine s_tree_New fun R hR => ?_
  unfold c_tree_New
  refine bxQ (Sep.start w) fun g1 w1 hs1 => ?_
  simp only [nilc_some, fad_mk, pik_true, pik_false, cnd_true, cnd_false, gif_same, gif_tf, gif_ft, gif_undef, bi_add, bi_sub, bi_mul, bi_eql, bi_neq, bi_lss, bi_leq, bi_gtr, bi_geq, notB_bool, cvi_int, lenS_mk, lenT_mk, ext0, ext1, ext2, nilP_mk, nilS_mk, fldv_agg, jn0_k, jn1_k, jn2_k, jn1_and, jn1_or, ex_some, Option.isNone_some, Option.isNone_none, Bool.false_bne, Bool.bne_true, Bool.bne_false, Bool.true_bne, Bool.not_true, Bool.not_false, Bool.and_true, Bool.true_and, Bool.and_false, Bool.false_and, Bool.or_true, Bool.true_or, Bool.or_false, Bool.false_or, cond_true, cond_false, List.getElem?_toArray, List.getElem?_cons_zero, List.getElem?_cons_succ, Nat.zero_add, Nat.add_zero, Nat.reduceAdd, forall_const]
  rw [cnd_bool]
  refine ⟨fun hc => ?_, fun hc => ?_⟩
  · simp only [Bool.or_eq_true, decide_eq_true_eq] at hc
    exact hR _ _ (.inl ⟨by omega, rfl, hs1.fr0⟩)
  · simp only [Bool.or_eq_false_iff, decide_eq_false_iff_not] at hc
    simp only [L_api_ID hs1.blk]
    refine makeMap_s (n := 32) hs1 fun gm w2 hs2 => ?_
    rw [B_tree_Tree_0_1_2_3_4 rfl]
    refine bxQ hs2 fun g3 w3 hs3 => ?_
    refine hR _ _ (.inr ⟨by omega, g3, gm, rfl, ?_⟩)
    have h4 := hs3.nilR (q := rVec 32)
    exact Sep.dropR (As := trL g3 gm (.slice none 0 0) ⟨r, h, m⟩ [] 0) (Sep.pick h4 [1, 2, 0] 4)
end
end Go.Fx
set_option linter.unusedVariables false
set_option linter.unusedSimpArgs false
namespace Go.Fx
section
variable {w0 w w' : World} {As : List Asn} {g gm c : Nat} {ov : Value} {t : Tr} {N : List TN}
theorem Under_spec (hr : TrR w.heap g gm ov t N c) (hw : TrW t N) (hn : N.length ≤ 1000000) (k : Vec 32) : cal P f_tree_Tree_Under [.pointer (some ⟨g, 0, none⟩), kv k] w fun r w' => Sep w w' [rows (rVec 32) r ((N.map (·.1)).filter fun x => under t N x k)] := by
  refine s_tree_Tree_Under fun R hR => ?_
  unfold c_tree_Tree_Under
  refine bx_s (Sep.start w) fun g2 w1 hs1 => ?_
  replace hs1 : Sep w w1 [blk g2 #[.pointer (some ⟨g, 0, none⟩)] T_p_tree_Tree] := hs1
  refine bxQ hs1 fun g3 w2 hs2 => ?_
  refine ld1_i (Sep.p1 hs2).blk rfl ?_
  refine cal_i (those_spec (f := f_tree_Tree_Under_1) (cap := [.pointer (some ⟨g2, 0, none⟩), .pointer (some ⟨g3, 0, none⟩)]) (so := fun x => under t N x k) (hs2.tr hr) hn (by kernel_rfl) ?_) ?_
  · intro z x hz
    have hsz := hs2.old hz
    refine s_tree_Tree_Under_1 fun R hR => ?_
    unfold c_tree_Tree_Under_1
    have hs0 : Sep z z [] := Sep.start z
    refine bxQ hs0 fun g5 w5 hs5 => ?_
    have h2 := hs5.fr0.blk (Sep.p1 hsz).blk (by simp)
    have h3 := hs5.fr0.blk hsz.blk (by simp)
    refine ld1_i h2 rfl ?_
    simp only [L_api_ID hs5.blk, L_api_ID h3]
    refine cal_i (Within_spec (TrR.fr (hsz.tr hr) hs5.fr0) hw x k) ?_
    rintro _ w6 ⟨rfl, hf6⟩
    exact hR _ _ ⟨rfl, (hs5.old hf6).fr0⟩
  · rintro r w3 hs3
    exact hR _ _ (Sep.dropR (As := [rows (rVec 32) r _]) (hs2.join hs3))
end
end Go.Fx
set_option linter.unusedVariables false
set_option linter.unusedSimpArgs false
namespace Go.Fx
/-- A tree that the call owns, but for the blocks' data. -/
def trH (g gm : Nat) (ov : Value) (t : Tr) (N : List TN) (c : Nat) : List Asn :=
  [blk g (Rdr.cells Q_tree_Tree (tq t gm ov)).toArray T_tree_Tree, mp gm (N.map TN.ent) c, rows (rVec 32) ov (N.map (·.1))]
/-- The blocks' data stand among what the call owns. -/
def Dat (N : List TN) (As : List Asn) : Prop := ∀ x ∈ N, ownB x.2.2.1 x.2.1.d ∈ As
theorem trL_nil (g gm : Nat) (ov : Value) (t : Tr) (c : Nat) : trL g gm ov t [] c = trH g gm ov t [] c := rfl
theorem Dat.nil (As : List Asn) : Dat [] As := fun x hx => by cases hx
theorem Dat.sub {N : List TN} {As Bs : List Asn} (h : Dat N As) (hs : ∀ A ∈ As, A ∈ Bs) : Dat N Bs := fun x hx => hs _ (h x hx)
theorem Dat.add {N : List TN} {As : List Asn} {k : Vec 32} {b : Blk} {v : Value} {c : Nat} (h : Dat N As) : Dat (N ++ [(k, b, v, c)]) (ownB v b.d :: As) := fun x hx => by
  rcases List.mem_append.1 hx with hx | hx
  · exact List.mem_cons_of_mem _ (h x hx)
  · obtain rfl : x = (k, b, v, c) := by simpa using hx
    simp
section
variable {w0 w w' : World} {As : List Asn} {g gm c : Nat} {ov : Value} {t : Tr} {N : List TN}
theorem trH_rd (h : Sep w0 w (trH g gm ov t N c ++ As)) (hd : Dat N As) : TrR w.heap g gm ov t N c := by
  refine ⟨⟨_, _, Sep.blk h⟩, Sep.map (Sep.tail h), Sep.rows (Sep.tail (Sep.tail h)), fun x hx => ?_⟩
  obtain ⟨F, hF⟩ := h.onL (A := ownB x.2.2.1 x.2.1.d) (by
    simp only [trH, List.cons_append, List.mem_cons, List.nil_append]
    exact .inr (.inr (.inr (hd x hx))))
  exact OwnB.rd hF
/-- Which error an Add has. -/
def addE (t : Tr) (N : List TN) (b : Blk) : Int :=
  if b.chk ≠ 0 then b.chk else if has t N b.id = true then 110 else if has t N b.p = false ∨ b.h < 1 ∨ b.h - 1 ≠ levH t N b.p then 31 else if t.most ≤ N.length then 6 else 0
theorem chk30 (b : Blk) : b.chk = 0 ∨ b.chk = 30 := by
  unfold Blk.chk
  split
  · exact .inr rfl
  · exact .inl rfl
theorem Add_spec {b : Blk} {v : Value} (hs : Sep w0 w (trH g gm ov t N c ++ As)) (hd : Dat N As) (hw : TrW t N) (hC : Cub w) (hb : RdB w.heap v b.d) (hh : b.h ≤ maxI) (hn : N.length ≤ 1000000) :
    cal P f_tree_Tree_Add [.pointer (some ⟨g, 0, none⟩), bq b v] w fun r w' =>
      (addE t N b ≠ 0 ∧ r = .tuple #[kv (vz 32), .int .i64 (addE t N b)] ∧ Sep w0 w' (trH g gm ov t N c ++ As)) ∨
      (addE t N b = 0 ∧ r = .tuple #[kv b.id, .int .i64 0] ∧ ∃ ov' vd, Sep w0 w' (trH g gm ov' t (N ++ [(b.id, b, vd, c)]) (c + 1) ++ (ownB vd b.d :: As))) := by
  have hr := trH_rd hs hd
  refine s_tree_Tree_Add fun R hR => ?_
  unfold c_tree_Tree_Add
  refine bxQ (Sep.start w) fun g3 w1 hs1 => ?_
  refine alloc_s hs1 (A_api_ID w1) fun g4 w2 hs2 => ?_
  refine cal_i (tnone_spec (hs2.tr hr)) ?_
  rintro _ _ ⟨rfl, rfl⟩
  simp only [nilc_some, fad_mk, pik_true, pik_false, cnd_true, cnd_false, gif_same, gif_tf, gif_ft, gif_undef, bi_add, bi_sub, bi_mul, bi_eql, bi_neq, bi_lss, bi_leq, bi_gtr, bi_geq, notB_bool, cvi_int, lenS_mk, lenT_mk, ext0, ext1, ext2, nilP_mk, nilS_mk, fldv_agg, jn0_k, jn1_k, jn2_k, jn1_and, jn1_or, ex_some, Option.isNone_some, Option.isNone_none, Bool.false_bne, Bool.bne_true, Bool.bne_false, Bool.true_bne, Bool.not_true, Bool.not_false, Bool.and_true, Bool.true_and, Bool.and_false, Bool.false_and, Bool.or_true, Bool.true_or, Bool.or_false, Bool.false_or, cond_true, cond_false, List.getElem?_toArray, List.getElem?_cons_zero, List.getElem?_cons_succ, Nat.zero_add, Nat.add_zero, Nat.reduceAdd, forall_const, L_api_Block (Sep.p1 hs2).blk, L_api_Block__Parent (Sep.p1 hs2).blk, L_api_Block__Height (Sep.p1 hs2).blk, L_api_Block__Data (Sep.p1 hs2).blk]
  refine cal_i (bkID_spec (hC.fr hs2.fr0) (hb.fr hs2.fr0 (off_nil _)) hh) ?_
  rintro _ w3 ⟨rfl, hf3⟩
  have hs3 := hs2.old hf3
  simp only [nilc_some, fad_mk, pik_true, pik_false, cnd_true, cnd_false, gif_same, gif_tf, gif_ft, gif_undef, bi_add, bi_sub, bi_mul, bi_eql, bi_neq, bi_lss, bi_leq, bi_gtr, bi_geq, notB_bool, cvi_int, lenS_mk, lenT_mk, ext0, ext1, ext2, nilP_mk, nilS_mk, fldv_agg, jn0_k, jn1_k, jn2_k, jn1_and, jn1_or, ex_some, Option.isNone_some, Option.isNone_none, Bool.false_bne, Bool.bne_true, Bool.bne_false, Bool.true_bne, Bool.not_true, Bool.not_false, Bool.and_true, Bool.true_and, Bool.and_false, Bool.false_and, Bool.or_true, Bool.true_or, Bool.or_false, Bool.false_or, cond_true, cond_false, List.getElem?_toArray, List.getElem?_cons_zero, List.getElem?_cons_succ, Nat.zero_add, Nat.add_zero, Nat.reduceAdd, forall_const]
  refine alloc_s hs3 (A_api_ID w3) fun g6 w4 hs4 => ?_
  refine St_api_ID hs4 fun w5 hs5 => ?_
  have bad : ∀ (w6 : World) (e : Int), Sep w w6 [blk g6 (Rdr.cells (rVec 32) b.name).toArray T_api_ID, blk g4 (Rdr.cells (rVec 32) (vz 32)).toArray T_api_ID, blk g3 (Rdr.cells Q_api_Block (b.p, b.h, v)).toArray T_api_Block] → addE t N b = e → e ≠ 0 →
      rdP P (Instr.build T_api_ID #[]) w6 fun t20 => stN 32 (.pointer (some ⟨g4, 0, none⟩)) t20 w6 fun w => ldN 32 (.pointer (some ⟨g4, 0, none⟩)) w.heap fun r1 => R (.tuple #[r1, .int .i64 e]) w := fun w6 e hs6 he h0 => by
    rw [B_ID0]
    refine St_api_ID hs6.p1 fun w7 hs7 => ?_
    simp only [L_api_ID hs7.blk]
    exact hR _ _ (.inl ⟨by rw [he]; exact h0, by rw [he], hs.old hs7.fr0⟩)
  rw [cnd_bool]
  refine ⟨fun h => ?_, fun h => ?_⟩
  · have h : b.chk ≠ 0 := by simpa using h
    exact bad w5 b.chk hs5 (by unfold addE; rw [if_pos h]) h
  have h1 : b.chk = 0 := by simpa using h
  have hnm : b.name = b.id := by unfold Blk.name; rw [if_pos h1]
  rw [hnm] at hs5 bad
  simp only [L_api_ID hs5.blk]
  refine cal_i (Has_spec (hs5.tr hr) b.id) ?_
  rintro _ w6 ⟨rfl, hf6⟩
  have hs6 := hs5.old hf6
  rw [cnd_bool]
  refine ⟨fun h => ?_, fun h => ?_⟩
  · exact bad w6 110 hs6 (by unfold addE; rw [if_neg (by simpa using h1), if_pos h]) (by decide)
  have h2 : ¬ has t N b.id = true := by rw [h]; simp
  simp only [nilc_some, fad_mk, pik_true, pik_false, cnd_true, cnd_false, gif_same, gif_tf, gif_ft, gif_undef, bi_add, bi_sub, bi_mul, bi_eql, bi_neq, bi_lss, bi_leq, bi_gtr, bi_geq, notB_bool, cvi_int, lenS_mk, lenT_mk, ext0, ext1, ext2, nilP_mk, nilS_mk, fldv_agg, jn0_k, jn1_k, jn2_k, jn1_and, jn1_or, ex_some, Option.isNone_some, Option.isNone_none, Bool.false_bne, Bool.bne_true, Bool.bne_false, Bool.true_bne, Bool.not_true, Bool.not_false, Bool.and_true, Bool.true_and, Bool.and_false, Bool.false_and, Bool.or_true, Bool.true_or, Bool.or_false, Bool.false_or, cond_true, cond_false, List.getElem?_toArray, List.getElem?_cons_zero, List.getElem?_cons_succ, Nat.zero_add, Nat.add_zero, Nat.reduceAdd, forall_const, L_api_Block (Sep.p2 hs6).blk, L_api_Block__Parent (Sep.p2 hs6).blk, L_api_Block__Height (Sep.p2 hs6).blk, L_api_Block__Data (Sep.p2 hs6).blk]
  refine cal_i (level_spec (hs6.tr hr) b.p) ?_
  rintro _ w7 ⟨rfl, hf7⟩
  have hs7 := hs6.old hf7
  simp only [nilc_some, fad_mk, pik_true, pik_false, cnd_true, cnd_false, gif_same, gif_tf, gif_ft, gif_undef, bi_add, bi_sub, bi_mul, bi_eql, bi_neq, bi_lss, bi_leq, bi_gtr, bi_geq, notB_bool, cvi_int, lenS_mk, lenT_mk, ext0, ext1, ext2, nilP_mk, nilS_mk, fldv_agg, jn0_k, jn1_k, jn2_k, jn1_and, jn1_or, ex_some, Option.isNone_some, Option.isNone_none, Bool.false_bne, Bool.bne_true, Bool.bne_false, Bool.true_bne, Bool.not_true, Bool.not_false, Bool.and_true, Bool.true_and, Bool.and_false, Bool.false_and, Bool.or_true, Bool.true_or, Bool.or_false, Bool.false_or, cond_true, cond_false, List.getElem?_toArray, List.getElem?_cons_zero, List.getElem?_cons_succ, Nat.zero_add, Nat.add_zero, Nat.reduceAdd, forall_const, L_api_Block (Sep.p2 hs7).blk, L_api_Block__Parent (Sep.p2 hs7).blk, L_api_Block__Height (Sep.p2 hs7).blk, L_api_Block__Data (Sep.p2 hs7).blk]
  rw [cnd_bool]
  refine ⟨fun h => ?_, fun h => ?_⟩
  · refine bad w7 31 hs7 ?_ (by decide)
    unfold addE
    rw [if_neg (by simpa using h1), if_neg h2, if_pos]
    simp only [Bool.or_eq_true, Bool.not_eq_true', decide_eq_true_eq, bne_iff_ne, ne_eq] at h
    rcases h with (h | h) | h
    · exact .inl h
    · exact .inr (.inl h)
    · by_cases h4 : b.h < 1
      · exact .inr (.inl h4)
      · rw [wi64 (by omega) (by unfold maxI at hh; omega)] at h
        exact .inr (.inr h)
  simp only [Bool.or_eq_false_iff, Bool.not_eq_false', decide_eq_false_iff_not, bne_eq_false_iff_eq] at h
  obtain ⟨⟨h3, h4⟩, h5⟩ := h
  rw [wi64 (by omega) (by unfold maxI at hh; omega)] at h5
  have h31 : ¬ (has t N b.p = false ∨ b.h < 1 ∨ b.h - 1 ≠ levH t N b.p) := by
    rintro (h | h | h)
    · rw [h3] at h; cases h
    · exact h4 h
    · exact h h5
  refine drw_s hs7 fun w8 hs8 _ => ?_
  obtain ⟨T, fr, hc⟩ := (hs8.tr hr).cell
  simp only [nilc_some, fad_mk, pik_true, pik_false, cnd_true, cnd_false, gif_same, gif_tf, gif_ft, gif_undef, bi_add, bi_sub, bi_mul, bi_eql, bi_neq, bi_lss, bi_leq, bi_gtr, bi_geq, notB_bool, cvi_int, lenS_mk, lenT_mk, ext0, ext1, ext2, nilP_mk, nilS_mk, fldv_agg, jn0_k, jn1_k, jn2_k, jn1_and, jn1_or, ex_some, Option.isNone_some, Option.isNone_none, Bool.false_bne, Bool.bne_true, Bool.bne_false, Bool.true_bne, Bool.not_true, Bool.not_false, Bool.and_true, Bool.true_and, Bool.and_false, Bool.false_and, Bool.or_true, Bool.true_or, Bool.or_false, Bool.false_or, cond_true, cond_false, List.getElem?_toArray, List.getElem?_cons_zero, List.getElem?_cons_succ, Nat.zero_add, Nat.add_zero, Nat.reduceAdd, forall_const, L_tree_Tree hc, L_tree_Tree__made hc, L_tree_Tree__root hc, L_tree_Tree__height hc, L_tree_Tree__most hc, L_tree_Tree__blocks hc, L_tree_Tree__order hc]
  rw [len_map U_map_api_ID_api_Block (hs8.tr hr).map (by simp; omega), List.length_map]
  simp only [nilc_some, fad_mk, pik_true, pik_false, cnd_true, cnd_false, gif_same, gif_tf, gif_ft, gif_undef, bi_add, bi_sub, bi_mul, bi_eql, bi_neq, bi_lss, bi_leq, bi_gtr, bi_geq, notB_bool, cvi_int, lenS_mk, lenT_mk, ext0, ext1, ext2, nilP_mk, nilS_mk, fldv_agg, jn0_k, jn1_k, jn2_k, jn1_and, jn1_or, ex_some, Option.isNone_some, Option.isNone_none, Bool.false_bne, Bool.bne_true, Bool.bne_false, Bool.true_bne, Bool.not_true, Bool.not_false, Bool.and_true, Bool.true_and, Bool.and_false, Bool.false_and, Bool.or_true, Bool.true_or, Bool.or_false, Bool.false_or, cond_true, cond_false, List.getElem?_toArray, List.getElem?_cons_zero, List.getElem?_cons_succ, Nat.zero_add, Nat.add_zero, Nat.reduceAdd, forall_const]
  rw [cnd_bool]
  refine ⟨fun h => ?_, fun h => ?_⟩
  · have h : t.most ≤ (N.length : Int) := by simpa using h
    exact bad w8 6 hs8 (by unfold addE; rw [if_neg (by simpa using h1), if_neg h2, if_neg h31, if_pos h]) (by decide)
  have h6 : ¬ t.most ≤ (N.length : Int) := by simpa using h
  have hE : addE t N b = 0 := by unfold addE; rw [if_neg (by simpa using h1), if_neg h2, if_neg h31, if_neg h6]
  have hg0 : getE b.id (N.map TN.ent) = none := by
    have h7 : has t N b.id = false := by simpa using h2
    unfold has at h7
    simp only [Bool.or_eq_false_iff] at h7
    have h8 := nb_is b.id N
    rw [h7.2] at h8
    cases hgE : getE b.id (N.map TN.ent) with
    | none => rfl
    | some x => rw [hgE] at h8; cases h8
  have hsA := hs.join hs8
  refine drH_S hsA fun w9 hs9 hh9 => ?_
  refine rdS_ld (v := .map (some gm)) (fun u hu K hk => (L_tree_Tree__blocks (Sep.p3 hu).blk K).mpr hk) ?_
  refine ⟨kv b.id, fun u hu => (L_api_ID (Sep.blk hu) _).mpr rfl, ?_⟩
  refine ⟨bq b v, fun u hu => (L_api_Block (Sep.blk (Sep.p2 hu)) _).mpr rfl, ?_⟩
  have hl : b.d.length ≤ 200 := by
    unfold Blk.chk at h1
    split at h1
    · cases h1
    · omega
  refine efS_i (cal_i (bkClone_spec (b := b) (v := v) (by rw [hh9]; exact hb.fr hs8.fr0 (off_nil _)) (by omega)) ?_)
  rintro _ w10 ⟨vd, rfl, hs10⟩
  have hs10' := hs9.join hs10
  refine ⟨Sep.tail hs10', ?_⟩
  refine efC_efU (putNew_s (c := c) U_map_api_ID_api_Block KT (Sep.p5 hs10') hg0 fun w11 hs11 => ?_)
  refine drH_S hs11 fun w12 hs12 _ => ?_
  refine rdS_ld (v := ov) (fun u hu K hk => (L_tree_Tree__order (Sep.p5 hu).blk K).mpr hk) ?_
  refine ⟨kv b.id, fun u hu => (L_api_ID (Sep.p2 hu).blk _).mpr rfl, ?_⟩
  refine efS_i (rows_lit hs12 S_sl_api_ID (l := [b.id]) (V := fun a => .agg (Rdr.cells (rVec 32) a).toArray) (fun a => rfl) rfl rfl (by decide) (by decide) fun g7 w13 hs13 => ⟨hs13.tail, ?_⟩)
  refine efC_efP (rows_app S_sl_api_ID U_sl_api_ID (by simp) (Sep.pick hs13 [7, 0, 1, 2, 3, 4, 5, 6] 8) (Sep.rows hs13) ?_ (by simp; omega) (by simp; omega) fun v14 w14 hs14 => ?_)
  · simp only [List.flatMap_cons, List.flatMap_nil, List.append_nil]
    exact oneVec
  have hs15 := Sep.pick hs14 [7, 0, 1, 2, 3, 4, 5, 6] 8
  refine efC_st1 (St_tree_Tree__order hs15 (Sep.oneR hs14) fun w16 hs16 => ?_)
  simp only [L_api_ID (Sep.blk (Sep.p5 hs16))]
  refine St_api_ID (Sep.pick hs16 [6, 0, 1, 2, 3, 4, 5, 7] 8) fun w17 hs17 => ?_
  simp only [L_api_ID (Sep.blk hs17)]
  refine hR _ _ (.inr ⟨hE, rfl, v14, vd, ?_⟩)
  have hs18 := Sep.pick hs17 [1, 4, 2, 5] 8
  have e1 : (N ++ [(b.id, b, vd, c)]).map TN.ent = N.map TN.ent ++ [(b.id, bq b vd, c)] := by simp [TN.ent]
  have e2 : (N ++ [(b.id, b, vd, c)]).map (·.1) = N.map (·.1) ++ [b.id] := by simp
  unfold trH
  rw [e1, e2]
  exact hs18
end
/-- With one more the tree is well-formed. -/
theorem nodeOf_snoc {k : Vec 32} {N : List TN} {x : TN} : nodeOf k (N ++ [x]) = (nodeOf k N).or (if k = x.1 then some x else none) := by
  unfold nodeOf
  rw [List.find?_append]
  congr 1
  by_cases h : k = x.1 <;> simp [h]
theorem blkOf_snoc {k : Vec 32} {N : List TN} {x : TN} : blkOf k (N ++ [x]) = (blkOf k N).or (if k = x.1 then some x.2.1 else none) := by
  unfold blkOf
  rw [nodeOf_snoc]
  cases nodeOf k N with
  | some y => rfl
  | none => by_cases h : k = x.1 <;> simp [h]
theorem has_old {t : Tr} {N : List TN} {x : TN} {k : Vec 32} (h : has t N k = true) : has t (N ++ [x]) k = true ∧ levH t (N ++ [x]) k = levH t N k := by
  by_cases hr : k = t.root
  · subst hr
    unfold has levH
    simp
  · have hb := has_blk h hr
    have h2 : blkOf k (N ++ [x]) = some (nb k N).1 := by rw [blkOf_snoc, hb]; rfl
    unfold has levH
    rw [h2, hb, if_neg hr]
    simp
theorem TrW.add {t : Tr} {N : List TN} {b : Blk} {vd : Value} {c : Nat} (hw : TrW t N) (h : addE t N b = 0) : TrW t (N ++ [(b.id, b, vd, c)]) := by
  unfold addE at h
  split at h
  · rename_i h1; exact absurd h h1
  rename_i h1
  split at h
  · cases h
  rename_i h2
  split at h
  · cases h
  rename_i h3
  have h1 : b.chk = 0 := by simpa using h1
  have h2 : has t N b.id = false := by simpa using h2
  have h4 : has t N b.p = true ∧ ¬ b.h < 1 ∧ b.h - 1 = levH t N b.p := by
    refine ⟨?_, fun h => h3 (.inr (.inl h)), ?_⟩
    · cases hp : has t N b.p with
      | true => rfl
      | false => exact absurd (.inl hp) h3
    · by_cases hq : b.h - 1 = levH t N b.p
      · exact hq
      · exact absurd (.inr (.inr hq)) h3
  have hlev : ∀ k, has t N k = true → t.ht ≤ levH t N k := fun k hk => by
    by_cases hr : k = t.root
    · unfold levH; rw [if_pos hr]; omega
    · have hb := has_blk hk hr
      have := hw.above _ _ hb
      unfold levH
      rw [if_neg hr, hb]
      simp only
      omega
  have hnr : ¬ b.id = t.root := fun he => by
    unfold has at h2
    rw [decide_eq_true he] at h2
    cases h2
  have key : ∀ k b', blkOf k (N ++ [(b.id, b, vd, c)]) = some b' → blkOf k N = some b' ∨ (k = b.id ∧ b' = b) := fun k b' hk => by
    rw [blkOf_snoc] at hk
    cases hb : blkOf k N with
    | some y => rw [hb] at hk; exact .inl hk
    | none =>
      rw [hb] at hk
      by_cases he : k = b.id
      · simp [he] at hk; exact .inr ⟨he, hk.symm⟩
      · simp [he] at hk
  refine ⟨fun k b' hk => ?_, fun k b' hk => ?_, ?_, fun x hx => ?_⟩
  · rcases key k b' hk with hk | ⟨rfl, rfl⟩
    · obtain ⟨h5, h6⟩ := hw.up k b' hk
      obtain ⟨h7, h8⟩ := has_old (x := (b.id, b, vd, c)) h5
      exact ⟨h7, by rw [h8]; exact h6⟩
    · obtain ⟨h7, h8⟩ := has_old (x := (b'.id, b', vd, c)) h4.1
      exact ⟨h7, by rw [h8, ← h4.2.2]; omega⟩
  · rcases key k b' hk with hk | ⟨rfl, rfl⟩
    · exact hw.above k b' hk
    · have := hlev _ h4.1
      omega
  · rw [blkOf_snoc, hw.noroot, if_neg (fun he => hnr he.symm)]
    rfl
  · rcases List.mem_append.1 hx with hx | hx
    · exact hw.small x hx
    · obtain rfl : x = (b.id, b, vd, c) := by simpa using hx
      unfold Blk.chk at h1
      split at h1
      · cases h1
      · show b.d.length ≤ 200
        omega
end Go.Fx
set_option linter.unusedVariables false
set_option linter.unusedSimpArgs false
namespace Go.Fx
def mvOk (t : Tr) (N : List TN) (k : Vec 32) : Bool := (blkOf k N).isSome && decide ((nb k N).1.p = t.root)
def mvT (t : Tr) (N : List TN) (k : Vec 32) : Tr := ⟨k, (nb k N).1.h, t.most⟩
def mvGone (t : Tr) (N : List TN) (k : Vec 32) : List (Vec 32) := (N.map (·.1)).filter fun x => !under t N x k
def mvStay (t : Tr) (N : List TN) (k : Vec 32) : List (Vec 32) := (N.map (·.1)).filter fun x => !decide (x = k) && under t N x k
def mvN (t : Tr) (N : List TN) (k : Vec 32) : List TN := N.filter fun x => !decide (x.1 = k) && under t N x.1 k
def delsE {n : Nat} (ks : List (Vec n)) (l : List (Ent n)) : List (Ent n) := ks.foldl (fun l k => delE k l) l
theorem findE_none {n : Nat} {k : Vec n} : ∀ {l : List (Ent n)} {i : Nat}, k ∉ l.map (·.1) → findE k l i = none
  | [], _, _ => rfl
  | x :: l, i, h => by
    simp only [List.map_cons, List.mem_cons, not_or] at h
    unfold findE
    rw [if_neg h.1]
    exact findE_none h.2
theorem findE_idx {n : Nat} {k : Vec n} : ∀ {l : List (Ent n)} {i j : Nat} {v : Value}, findE k l i = some (j, v) → i ≤ j
  | [], _, _, _, h => by simp [findE] at h
  | x :: l, i, j, v, h => by
    unfold findE at h
    split at h
    · simp at h; omega
    · have := findE_idx h; omega
theorem filter_ne_self {n : Nat} {k : Vec n} {l : List (Ent n)} (h : k ∉ l.map (·.1)) : l.filter (fun x => !decide (x.1 = k)) = l := by
  rw [List.filter_eq_self]
  intro x hx
  have : x.1 ≠ k := fun he => h (he ▸ List.mem_map_of_mem hx)
  simp [this]
theorem delE_filter {n : Nat} {k : Vec n} {l : List (Ent n)} (hn : (l.map (·.1)).Nodup) : delE k l = l.filter fun x => !decide (x.1 = k) := by
  have go : ∀ (l : List (Ent n)) (i : Nat), (l.map (·.1)).Nodup → (match findE k l i with
      | some (j, _) => l.eraseIdx (j - i)
      | none => l) = l.filter fun x => !decide (x.1 = k) := by
    intro l
    induction l with
    | nil => intro i _; rfl
    | cons x l ih =>
      intro i hn
      simp only [List.map_cons, List.nodup_cons] at hn
      unfold findE
      by_cases hx : k = x.1
      · rw [if_pos hx]
        subst hx
        simp only [Nat.sub_self, List.eraseIdx_zero, List.tail_cons]
        rw [List.filter_cons_of_neg (by simp), filter_ne_self hn.1]
      · rw [if_neg hx, List.filter_cons_of_pos (by simp; exact fun h => hx h.symm), ← ih (i + 1) hn.2]
        cases hf : findE k l (i + 1) with
        | none => rfl
        | some y =>
          obtain ⟨j, v⟩ := y
          have := findE_idx hf
          simp only
          rw [show j - i = (j - (i + 1)) + 1 by omega, List.eraseIdx_cons_succ]
  unfold delE
  have := go l 0 hn
  cases hf : findE k l 0 with
  | none => rw [hf] at this; exact this
  | some y => rw [hf] at this; exact this
theorem nodup_filter {n : Nat} {l : List (Ent n)} (p : Ent n → Bool) (hn : (l.map (·.1)).Nodup) : ((l.filter p).map (·.1)).Nodup := hn.sublist (List.filter_sublist.map _)
theorem delsE_filter {n : Nat} : ∀ (ks : List (Vec n)) {l : List (Ent n)}, (l.map (·.1)).Nodup → delsE ks l = l.filter fun x => !decide (x.1 ∈ ks)
  | [], l, hn => by
    show l = _
    rw [List.filter_eq_self.2]
    simp
  | k :: ks, l, hn => by
    show delsE ks (delE k l) = _
    rw [delE_filter hn, delsE_filter ks (nodup_filter _ hn), List.filter_filter]
    congr 1
    funext x
    by_cases h1 : x.1 = k <;> by_cases h2 : x.1 ∈ ks <;> simp [h1, h2]
section
variable {w0 w w' : World} {As : List Asn} {g gm c : Nat} {ov : Value} {t : Tr} {N : List TN}
theorem Move_spec (hs : Sep w0 w (trH g gm ov t N c ++ As)) (hd : Dat N As) (hw : TrW t N) (hu : (N.map (·.1)).Nodup) (hn : N.length ≤ 1000000) (k : Vec 32) :
    cal P f_tree_Tree_Move [.pointer (some ⟨g, 0, none⟩), kv k] w fun r w' =>
      (mvOk t N k = false ∧ r = .tuple #[.slice none 0 0, .int .i64 4] ∧ Sep w0 w' (trH g gm ov t N c ++ As)) ∨
      (mvOk t N k = true ∧ ∃ gv ov', r = .tuple #[gv, .int .i64 0] ∧ Sep w0 w' (trH g gm ov' (mvT t N k) (mvN t N k) c ++ (rows (rVec 32) gv (mvGone t N k) :: As))) := by
  have hr := trH_rd hs hd
  refine s_tree_Tree_Move fun R hR => ?_
  unfold c_tree_Tree_Move
  refine bx_s (Sep.start w) fun g2 w1 hs1 => ?_
  replace hs1 : Sep w w1 [blk g2 #[.pointer (some ⟨g, 0, none⟩)] T_p_tree_Tree] := hs1
  refine bxQ hs1 fun g3 w2 hs2 => ?_
  refine ld1_i (Sep.p1 hs2).blk rfl ?_
  refine cal_i (tnone_spec (hs2.tr hr)) ?_
  rintro _ _ ⟨rfl, rfl⟩
  simp only [nilc_some, fad_mk, pik_true, pik_false, cnd_true, cnd_false, gif_same, gif_tf, gif_ft, gif_undef, bi_add, bi_sub, bi_mul, bi_eql, bi_neq, bi_lss, bi_leq, bi_gtr, bi_geq, notB_bool, cvi_int, lenS_mk, lenT_mk, ext0, ext1, ext2, nilP_mk, nilS_mk, fldv_agg, jn0_k, jn1_k, jn2_k, jn1_and, jn1_or, ex_some, Option.isNone_some, Option.isNone_none, Bool.false_bne, Bool.bne_true, Bool.bne_false, Bool.true_bne, Bool.not_true, Bool.not_false, Bool.and_true, Bool.true_and, Bool.and_false, Bool.false_and, Bool.or_true, Bool.true_or, Bool.or_false, Bool.false_or, cond_true, cond_false, List.getElem?_toArray, List.getElem?_cons_zero, List.getElem?_cons_succ, Nat.zero_add, Nat.add_zero, Nat.reduceAdd, forall_const]
  refine drH_S hs2 fun w3 hs3 _ => ?_
  refine rdS_ld (v := .pointer (some ⟨g, 0, none⟩)) (fun u hu K hk => ld1_i (Sep.p1 hu).blk rfl hk) ?_
  simp only [nilc_some, fad_mk, pik_true, pik_false, cnd_true, cnd_false, gif_same, gif_tf, gif_ft, gif_undef, bi_add, bi_sub, bi_mul, bi_eql, bi_neq, bi_lss, bi_leq, bi_gtr, bi_geq, notB_bool, cvi_int, lenS_mk, lenT_mk, ext0, ext1, ext2, nilP_mk, nilS_mk, fldv_agg, jn0_k, jn1_k, jn2_k, jn1_and, jn1_or, ex_some, Option.isNone_some, Option.isNone_none, Bool.false_bne, Bool.bne_true, Bool.bne_false, Bool.true_bne, Bool.not_true, Bool.not_false, Bool.and_true, Bool.true_and, Bool.and_false, Bool.false_and, Bool.or_true, Bool.true_or, Bool.or_false, Bool.false_or, cond_true, cond_false, List.getElem?_toArray, List.getElem?_cons_zero, List.getElem?_cons_succ, Nat.zero_add, Nat.add_zero, Nat.reduceAdd, forall_const]
  refine rdS_ld (v := .map (some gm)) (fun u hu K hk => by
    obtain ⟨T, fr, hc⟩ := (hu.tr hr).cell
    exact (L_tree_Tree__blocks hc K).mpr hk) ?_
  refine ⟨kv k, fun u hu => (L_api_ID hu.blk _).mpr rfl, ?_⟩
  refine ⟨.tuple #[(getE k (N.map TN.ent)).getD (bq Blk.none (.slice none 0 0)), .bool (getE k (N.map TN.ent)).isSome], fun u hu => (lookup_map U_map_api_ID_api_Block KT (zB u) (hu.tr hr).map k _).mpr rfl, ?_⟩
  rw [nb_get, nb_is]
  simp only [nilc_some, fad_mk, pik_true, pik_false, cnd_true, cnd_false, gif_same, gif_tf, gif_ft, gif_undef, bi_add, bi_sub, bi_mul, bi_eql, bi_neq, bi_lss, bi_leq, bi_gtr, bi_geq, notB_bool, cvi_int, lenS_mk, lenT_mk, ext0, ext1, ext2, nilP_mk, nilS_mk, fldv_agg, jn0_k, jn1_k, jn2_k, jn1_and, jn1_or, ex_some, Option.isNone_some, Option.isNone_none, Bool.false_bne, Bool.bne_true, Bool.bne_false, Bool.true_bne, Bool.not_true, Bool.not_false, Bool.and_true, Bool.true_and, Bool.and_false, Bool.false_and, Bool.or_true, Bool.true_or, Bool.or_false, Bool.false_or, cond_true, cond_false, List.getElem?_toArray, List.getElem?_cons_zero, List.getElem?_cons_succ, Nat.zero_add, Nat.add_zero, Nat.reduceAdd, forall_const]
  refine efS_i (alloc_s hs3 (A_api_Block w3) fun g6 w4 hs4 => ⟨hs4.tail, ?_⟩)
  refine efC_stN (St_api_Block hs4 (one_api_Block (nb_rd (hs4.tr hr) k).one) fun w5 hs5 => ?_)
  refine drw_s hs5 fun w6 hs6 _ => ?_
  obtain ⟨T, fr, hc⟩ := (hs6.tr hr).cell
  have hl2 : ∀ K : Value → Prop, ld1 (.pointer (some ⟨g2, 0, none⟩)) w6.heap K = K (.pointer (some ⟨g, 0, none⟩)) := fun K => by rw [ld1_eq (Sep.p2 hs6).blk]; exact ex_some _ K
  simp only [nilc_some, fad_mk, pik_true, pik_false, cnd_true, cnd_false, gif_same, gif_tf, gif_ft, gif_undef, bi_add, bi_sub, bi_mul, bi_eql, bi_neq, bi_lss, bi_leq, bi_gtr, bi_geq, notB_bool, cvi_int, lenS_mk, lenT_mk, ext0, ext1, ext2, nilP_mk, nilS_mk, fldv_agg, jn0_k, jn1_k, jn2_k, jn1_and, jn1_or, ex_some, Option.isNone_some, Option.isNone_none, Bool.false_bne, Bool.bne_true, Bool.bne_false, Bool.true_bne, Bool.not_true, Bool.not_false, Bool.and_true, Bool.true_and, Bool.and_false, Bool.false_and, Bool.or_true, Bool.true_or, Bool.or_false, Bool.false_or, cond_true, cond_false, List.getElem?_toArray, List.getElem?_cons_zero, List.getElem?_cons_succ, Nat.zero_add, Nat.add_zero, Nat.reduceAdd, forall_const, L_api_Block hs6.blk, L_api_Block__Parent hs6.blk, L_api_Block__Height hs6.blk, L_api_Block__Data hs6.blk, hl2, L_tree_Tree hc, L_tree_Tree__made hc, L_tree_Tree__root hc, L_tree_Tree__height hc, L_tree_Tree__most hc, L_tree_Tree__blocks hc, L_tree_Tree__order hc, ne_api_ID]
  rw [cnd_bool]
  refine ⟨fun h => ?_, fun h => ?_⟩
  · refine hR _ _ (.inl ⟨?_, rfl, hs.old hs6.fr0⟩)
    unfold mvOk
    simp only [Bool.or_eq_true, Bool.not_eq_true'] at h
    rcases h with h | h
    · rw [h, Bool.false_and]
    · rw [h, Bool.and_false]
  have hok : mvOk t N k = true := by
    unfold mvOk
    simp only [Bool.or_eq_false_iff, Bool.not_eq_false'] at h
    rw [h.1, h.2]
    rfl
  refine cal_i (those_spec (f := f_tree_Tree_Move_1) (cap := [.pointer (some ⟨g2, 0, none⟩), .pointer (some ⟨g3, 0, none⟩)]) (so := fun x => !under t N x k) (hs6.tr hr) hn (by kernel_rfl) ?_) ?_
  · intro z x hz
    have hsz := hs6.old hz
    refine s_tree_Tree_Move_1 fun R hR => ?_
    unfold c_tree_Tree_Move_1
    refine bxQ (Sep.start z) fun g5 w5 hs5 => ?_
    have h2 := hs5.fr0.blk (Sep.p2 hsz).blk (by simp)
    have h3 := hs5.fr0.blk (Sep.p1 hsz).blk (by simp)
    refine ld1_i h2 rfl ?_
    simp only [L_api_ID hs5.blk, L_api_ID h3]
    refine cal_i (Within_spec (TrR.fr (hsz.tr hr) hs5.fr0) hw x k) ?_
    rintro _ w6 ⟨rfl, hf6⟩
    simp only [nilc_some, fad_mk, pik_true, pik_false, cnd_true, cnd_false, gif_same, gif_tf, gif_ft, gif_undef, bi_add, bi_sub, bi_mul, bi_eql, bi_neq, bi_lss, bi_leq, bi_gtr, bi_geq, notB_bool, cvi_int, lenS_mk, lenT_mk, ext0, ext1, ext2, nilP_mk, nilS_mk, fldv_agg, jn0_k, jn1_k, jn2_k, jn1_and, jn1_or, ex_some, Option.isNone_some, Option.isNone_none, Bool.false_bne, Bool.bne_true, Bool.bne_false, Bool.true_bne, Bool.not_true, Bool.not_false, Bool.and_true, Bool.true_and, Bool.and_false, Bool.false_and, Bool.or_true, Bool.true_or, Bool.or_false, Bool.false_or, cond_true, cond_false, List.getElem?_toArray, List.getElem?_cons_zero, List.getElem?_cons_succ, Nat.zero_add, Nat.add_zero, Nat.reduceAdd, forall_const]
    exact hR _ _ ⟨rfl, (hs5.old hf6).fr0⟩
  rintro gv w7 hs7
  replace hs7 := hs6.join hs7
  rw [ld1_eq (Sep.blk (Sep.p3 hs7))]
  refine ⟨_, rfl, ?_⟩
  refine cal_i (those_spec (f := f_tree_Tree_Move_2) (cap := [.pointer (some ⟨g3, 0, none⟩), .pointer (some ⟨g2, 0, none⟩)]) (so := fun x => !decide (x = k) && under t N x k) (hs7.tr hr) hn (by kernel_rfl) ?_) ?_
  · intro z x hz
    have hsz := hs7.old hz
    refine s_tree_Tree_Move_2 fun R hR => ?_
    unfold c_tree_Tree_Move_2
    refine bxQ (Sep.start z) fun g5 w5 hs5 => ?_
    have h2 := hs5.fr0.blk (Sep.blk (Sep.p3 hsz)) (by simp)
    have h3 := hs5.fr0.blk (Sep.blk (Sep.p2 hsz)) (by simp)
    have hl2 : ∀ K : Value → Prop, ld1 (.pointer (some ⟨g2, 0, none⟩)) w5.heap K = K (.pointer (some ⟨g, 0, none⟩)) := fun K => by rw [ld1_eq h2]; exact ex_some _ K
    simp only [L_api_ID hs5.blk, L_api_ID h3, ne_api_ID]
    by_cases hx : x = k
    · simp only [hx, decide_true, nilc_some, fad_mk, pik_true, pik_false, cnd_true, cnd_false, gif_same, gif_tf, gif_ft, gif_undef, bi_add, bi_sub, bi_mul, bi_eql, bi_neq, bi_lss, bi_leq, bi_gtr, bi_geq, notB_bool, cvi_int, lenS_mk, lenT_mk, ext0, ext1, ext2, nilP_mk, nilS_mk, fldv_agg, jn0_k, jn1_k, jn2_k, jn1_and, jn1_or, ex_some, Option.isNone_some, Option.isNone_none, Bool.false_bne, Bool.bne_true, Bool.bne_false, Bool.true_bne, Bool.not_true, Bool.not_false, Bool.and_true, Bool.true_and, Bool.and_false, Bool.false_and, Bool.or_true, Bool.true_or, Bool.or_false, Bool.false_or, cond_true, cond_false, List.getElem?_toArray, List.getElem?_cons_zero, List.getElem?_cons_succ, Nat.zero_add, Nat.add_zero, Nat.reduceAdd, forall_const]
      exact hR _ _ ⟨by simp [hx], hs5.fr0⟩
    · simp only [hx, decide_false, nilc_some, fad_mk, pik_true, pik_false, cnd_true, cnd_false, gif_same, gif_tf, gif_ft, gif_undef, bi_add, bi_sub, bi_mul, bi_eql, bi_neq, bi_lss, bi_leq, bi_gtr, bi_geq, notB_bool, cvi_int, lenS_mk, lenT_mk, ext0, ext1, ext2, nilP_mk, nilS_mk, fldv_agg, jn0_k, jn1_k, jn2_k, jn1_and, jn1_or, ex_some, Option.isNone_some, Option.isNone_none, Bool.false_bne, Bool.bne_true, Bool.bne_false, Bool.true_bne, Bool.not_true, Bool.not_false, Bool.and_true, Bool.true_and, Bool.and_false, Bool.false_and, Bool.or_true, Bool.true_or, Bool.or_false, Bool.false_or, cond_true, cond_false, List.getElem?_toArray, List.getElem?_cons_zero, List.getElem?_cons_succ, Nat.zero_add, Nat.add_zero, Nat.reduceAdd, forall_const]
      refine jn1_dup ?_
      rw [hl2]
      refine cal_i (Within_spec (TrR.fr (hsz.tr hr) hs5.fr0) hw x k) ?_
      rintro _ w6 ⟨rfl, hf6⟩
      simp only [nilc_some, fad_mk, pik_true, pik_false, cnd_true, cnd_false, gif_same, gif_tf, gif_ft, gif_undef, bi_add, bi_sub, bi_mul, bi_eql, bi_neq, bi_lss, bi_leq, bi_gtr, bi_geq, notB_bool, cvi_int, lenS_mk, lenT_mk, ext0, ext1, ext2, nilP_mk, nilS_mk, fldv_agg, jn0_k, jn1_k, jn2_k, jn1_and, jn1_or, ex_some, Option.isNone_some, Option.isNone_none, Bool.false_bne, Bool.bne_true, Bool.bne_false, Bool.true_bne, Bool.not_true, Bool.not_false, Bool.and_true, Bool.true_and, Bool.and_false, Bool.false_and, Bool.or_true, Bool.true_or, Bool.or_false, Bool.false_or, cond_true, cond_false, List.getElem?_toArray, List.getElem?_cons_zero, List.getElem?_cons_succ, Nat.zero_add, Nat.add_zero, Nat.reduceAdd, forall_const]
      exact hR _ _ ⟨by simp [hx], (hs5.old hf6).fr0⟩
  rintro sv w8 hs8
  replace hs8 := hs7.join hs8
  change Sep w w8 [rows (rVec 32) sv (mvStay t N k), rows (rVec 32) gv (mvGone t N k), blk g6 _ T_api_Block, blk g3 _ T_api_ID, blk g2 _ T_p_tree_Tree] at hs8
  have hA := hs.join hs8
  obtain ⟨G, hG⟩ : ∃ G, G = mvGone t N k := ⟨_, rfl⟩
  have hGl : G.length ≤ 1000000 := by
    rw [hG]
    unfold mvGone
    have := List.length_filter_le (fun x => !under t N x k) (N.map (·.1))
    rw [List.length_map] at this
    omega
  rw [← hG] at hA
  obtain ⟨E, hE⟩ : ∃ E, E = N.map TN.ent := ⟨_, rfl⟩
  have hA' : Sep w0 w8 (mp gm E c :: rows (rVec 32) gv G :: blk g3 (Rdr.cells (rVec 32) k).toArray T_api_ID :: blk g2 #[.pointer (some ⟨g, 0, none⟩)] T_p_tree_Tree :: blk g (Rdr.cells Q_tree_Tree (tq t gm ov)).toArray T_tree_Tree ::
      rows (rVec 32) sv (mvStay t N k) :: blk g6 (Rdr.cells Q_api_Block ((nb k N).1.p, (nb k N).1.h, (nb k N).2)).toArray T_api_Block :: rows (rVec 32) ov (N.map (·.1)) :: As) := by rw [hE]; exact Sep.pick hA [6, 1, 3, 4, 5, 0, 2, 7] 8
  have hlen : ∀ K, lenS gv K = K (.int .i64 G.length) := fun K => (Sep.rows hA'.p1).len K
  simp only [hlen]
  refine ⟨fun x z => ∃ i : Nat, x = .int .i64 i ∧ i ≤ G.length ∧ Sep w0 z (mp gm (delsE (G.take i) E) c :: rows (rVec 32) gv G :: blk g3 (Rdr.cells (rVec 32) k).toArray T_api_ID :: blk g2 #[.pointer (some ⟨g, 0, none⟩)] T_p_tree_Tree :: blk g (Rdr.cells Q_tree_Tree (tq t gm ov)).toArray T_tree_Tree ::
      rows (rVec 32) sv (mvStay t N k) :: blk g6 (Rdr.cells Q_api_Block ((nb k N).1.p, (nb k N).1.h, (nb k N).2)).toArray T_api_Block :: rows (rVec 32) ov (N.map (·.1)) :: As), fun x _ => (G.length - RowKit.intOf x).toNat, ⟨0, rfl, by omega, hA'⟩, ?_⟩
  rintro _ w9 ⟨i, rfl, hi, hs9⟩ -
  simp only [nilc_some, fad_mk, pik_true, pik_false, cnd_true, cnd_false, gif_same, gif_tf, gif_ft, gif_undef, bi_add, bi_sub, bi_mul, bi_eql, bi_neq, bi_lss, bi_leq, bi_gtr, bi_geq, notB_bool, cvi_int, lenS_mk, lenT_mk, ext0, ext1, ext2, nilP_mk, nilS_mk, fldv_agg, jn0_k, jn1_k, jn2_k, jn1_and, jn1_or, ex_some, Option.isNone_some, Option.isNone_none, Bool.false_bne, Bool.bne_true, Bool.bne_false, Bool.true_bne, Bool.not_true, Bool.not_false, Bool.and_true, Bool.true_and, Bool.and_false, Bool.false_and, Bool.or_true, Bool.true_or, Bool.or_false, Bool.false_or, cond_true, cond_false, List.getElem?_toArray, List.getElem?_cons_zero, List.getElem?_cons_succ, Nat.zero_add, Nat.add_zero, Nat.reduceAdd, forall_const]
  rw [cnd_bool]
  refine ⟨fun h => ?_, fun h => ?_⟩
  · have hlt : i < G.length := by simp at h; omega
    obtain ⟨x, hx⟩ : ∃ x, G[i]? = some x := ⟨_, List.getElem?_eq_getElem hlt⟩
    change ixs 32 _ _ _
    refine Rows'.ldN (q := rVec 32) (by decide) (Sep.rows hs9.p1) hx .i64 ?_
    refine alloc_s hs9 (A_api_ID w9) fun g11 w10 hs10 => ?_
    refine St_api_ID (b := x) hs10 fun w11 hs11 => ?_
    refine drH_S hs11 fun w12 hs12 _ => ?_
    refine rdS_ld (v := .pointer (some ⟨g, 0, none⟩)) (fun u hu K hk => ld1_i (Sep.blk (Sep.p4 hu)) rfl hk) ?_
    simp only [nilc_some, fad_mk, pik_true, pik_false, cnd_true, cnd_false, gif_same, gif_tf, gif_ft, gif_undef, bi_add, bi_sub, bi_mul, bi_eql, bi_neq, bi_lss, bi_leq, bi_gtr, bi_geq, notB_bool, cvi_int, lenS_mk, lenT_mk, ext0, ext1, ext2, nilP_mk, nilS_mk, fldv_agg, jn0_k, jn1_k, jn2_k, jn1_and, jn1_or, ex_some, Option.isNone_some, Option.isNone_none, Bool.false_bne, Bool.bne_true, Bool.bne_false, Bool.true_bne, Bool.not_true, Bool.not_false, Bool.and_true, Bool.true_and, Bool.and_false, Bool.false_and, Bool.or_true, Bool.true_or, Bool.or_false, Bool.false_or, cond_true, cond_false, List.getElem?_toArray, List.getElem?_cons_zero, List.getElem?_cons_succ, Nat.zero_add, Nat.add_zero, Nat.reduceAdd, forall_const]
    refine rdS_ld (v := .map (some gm)) (fun u hu K hk => (L_tree_Tree__blocks (Sep.p5 hu).blk K).mpr hk) ?_
    refine ⟨kv x, fun u hu => (L_api_ID (Sep.blk hu) _).mpr rfl, ?_⟩
    refine efC_efP (del_s U_map_api_ID_api_Block KT hs12.p1 fun w13 hs13 => ?_)
    rw [wi64 (by omega) (by omega)]
    refine ⟨⟨i + 1, by simp, by omega, ?_⟩, by simp [RowKit.intOf]; omega⟩
    have e : delsE (G.take (i + 1)) E = delE x (delsE (G.take i) E) := by
      rw [List.take_add_one, hx]
      unfold delsE
      rw [List.foldl_append]
      rfl
    rw [e]
    exact hs13.d1
  have hge : i = G.length := by simp at h; omega
  rw [hge, List.take_of_length_le (Nat.le_refl _)] at hs9
  clear hlen hA' hA
  refine drH_S hs9 fun w10 hs10 _ => ?_
  refine rdS_ld (v := .pointer (some ⟨g, 0, none⟩)) (fun u hu K hk => ld1_i (Sep.blk (Sep.p3 hu)) rfl hk) ?_
  simp only [nilc_some, fad_mk, pik_true, pik_false, cnd_true, cnd_false, gif_same, gif_tf, gif_ft, gif_undef, bi_add, bi_sub, bi_mul, bi_eql, bi_neq, bi_lss, bi_leq, bi_gtr, bi_geq, notB_bool, cvi_int, lenS_mk, lenT_mk, ext0, ext1, ext2, nilP_mk, nilS_mk, fldv_agg, jn0_k, jn1_k, jn2_k, jn1_and, jn1_or, ex_some, Option.isNone_some, Option.isNone_none, Bool.false_bne, Bool.bne_true, Bool.bne_false, Bool.true_bne, Bool.not_true, Bool.not_false, Bool.and_true, Bool.true_and, Bool.and_false, Bool.false_and, Bool.or_true, Bool.true_or, Bool.or_false, Bool.false_or, cond_true, cond_false, List.getElem?_toArray, List.getElem?_cons_zero, List.getElem?_cons_succ, Nat.zero_add, Nat.add_zero, Nat.reduceAdd, forall_const]
  refine rdS_ld (v := .map (some gm)) (fun u hu K hk => (L_tree_Tree__blocks (Sep.p4 hu).blk K).mpr hk) ?_
  refine ⟨kv k, fun u hu => (L_api_ID (Sep.blk (Sep.p2 hu)) _).mpr rfl, ?_⟩
  refine efC_efP (del_s U_map_api_ID_api_Block KT hs10 fun w11 hs11 => ?_)
  have hfin : delE k (delsE G E) = (mvN t N k).map TN.ent := by
    have hnE : (E.map (·.1)).Nodup := by
      rw [hE, List.map_map]
      exact hu
    rw [delsE_filter G hnE, delE_filter (nodup_filter _ hnE), List.filter_filter, hE, hG]
    unfold mvN
    rw [List.filter_map]
    congr 1
    refine List.filter_congr fun x hx => ?_
    have hxm : x.1 ∈ N.map (·.1) := List.mem_map_of_mem hx
    show (!decide (x.1 = k) && !decide (x.1 ∈ mvGone t N k)) = _
    congr 1
    have hm : x.1 ∈ mvGone t N k ↔ under t N x.1 k = false := by
      unfold mvGone
      rw [List.mem_filter]
      simp [hxm]
    cases hq : under t N x.1 k
    · simp [hm, hq]
    · simp [hm, hq]
  rw [hfin] at hs11
  have hs12 := Sep.pick hs11 [4, 3, 2, 6, 0, 1, 5, 7] 8
  refine ⟨fun u => ∃ q, Sep w0 u (blk g (Rdr.cells Q_tree_Tree q).toArray T_tree_Tree :: blk g2 #[.pointer (some ⟨g, 0, none⟩)] T_p_tree_Tree :: blk g3 (Rdr.cells (rVec 32) k).toArray T_api_ID ::
    blk g6 (Rdr.cells Q_api_Block ((nb k N).1.p, (nb k N).1.h, (nb k N).2)).toArray T_api_Block :: mp gm ((mvN t N k).map TN.ent) c :: rows (rVec 32) gv G :: rows (rVec 32) sv (mvStay t N k) :: rows (rVec 32) ov (N.map (·.1)) :: As), ⟨_, hs12.drew _⟩, ?_⟩
  refine rdS_ld (v := .pointer (some ⟨g, 0, none⟩)) (fun u ⟨q, hu⟩ K hk => ld1_i (Sep.blk (Sep.p1 hu)) rfl hk) ?_
  refine rdS_ld (v := .pointer (some ⟨g, 0, none⟩)) (fun u ⟨q, hu⟩ K hk => ld1_i (Sep.blk (Sep.p1 hu)) rfl hk) ?_
  refine rdS_ld (v := .pointer (some ⟨g, 0, none⟩)) (fun u ⟨q, hu⟩ K hk => ld1_i (Sep.blk (Sep.p1 hu)) rfl hk) ?_
  refine ⟨kv k, fun u ⟨q, hu⟩ => (L_api_ID (Sep.blk (Sep.p2 hu)) _).mpr rfl, ?_⟩
  simp only [nilc_some, fad_mk, pik_true, pik_false, cnd_true, cnd_false, gif_same, gif_tf, gif_ft, gif_undef, bi_add, bi_sub, bi_mul, bi_eql, bi_neq, bi_lss, bi_leq, bi_gtr, bi_geq, notB_bool, cvi_int, lenS_mk, lenT_mk, ext0, ext1, ext2, nilP_mk, nilS_mk, fldv_agg, jn0_k, jn1_k, jn2_k, jn1_and, jn1_or, ex_some, Option.isNone_some, Option.isNone_none, Bool.false_bne, Bool.bne_true, Bool.bne_false, Bool.true_bne, Bool.not_true, Bool.not_false, Bool.and_true, Bool.true_and, Bool.and_false, Bool.false_and, Bool.or_true, Bool.true_or, Bool.or_false, Bool.false_or, cond_true, cond_false, List.getElem?_toArray, List.getElem?_cons_zero, List.getElem?_cons_succ, Nat.zero_add, Nat.add_zero, Nat.reduceAdd, forall_const]
  refine rdS_ld (v := .int .i64 (nb k N).1.h) (fun u ⟨q, hu⟩ K hk => (L_api_Block__Height (Sep.blk (Sep.p3 hu)) K).mpr hk) ?_
  refine efS_i (St_tree_Tree__root (hs12.drew _) oneVec fun w13 hs13 => ⟨⟨_, hs13⟩, ?_⟩)
  refine efS_i (St_tree_Tree__height hs13 fun w14 hs14 => ⟨⟨_, hs14⟩, ?_⟩)
  refine efC_st1 (St_tree_Tree__order hs14 (Sep.oneR (Sep.pick hs14 [6] 7)) fun w15 hs15 => ?_)
  refine hR _ _ (.inr ⟨hok, gv, sv, rfl, ?_⟩)
  have hs16 := Sep.pick hs15 [0, 4, 6, 5] 8
  have e2 : (mvN t N k).map (·.1) = mvStay t N k := by
    unfold mvN mvStay
    rw [List.filter_map]
    rfl
  subst hG
  unfold trH
  rw [e2]
  exact hs16
end
end Go.Fx
set_option linter.unusedVariables false
set_option linter.unusedSimpArgs false
namespace Go.Fx
/-- A tree to which blocks were added. -/
structure TI (t : Tr) (N : List TN) : Prop where
  w : TrW t N
  nd : (N.map (·.1)).Nodup
  hb : ∀ k, has t N k = true → hgt t N k ≤ N.length
  hi : ∀ x ∈ N, x.2.1.h ≤ maxI
  ht : 0 ≤ t.ht
section
variable {t : Tr} {N : List TN}
theorem TI.nil (h : 0 ≤ t.ht) : TI t [] := ⟨TrW.nil t, by simp, fun k hk => by
  have : k = t.root := by simpa [has, blkOf, nodeOf] using hk
  subst this
  simp [hgt, levH], (fun x hx => by cases hx), h⟩
theorem addE_ok {b : Blk} (h : addE t N b = 0) : b.chk = 0 ∧ has t N b.id = false ∧ has t N b.p = true ∧ 1 ≤ b.h ∧ b.h = levH t N b.p + 1 ∧ (N.length : Int) < t.most := by
  unfold addE at h
  split at h
  · rename_i h1; exact absurd h h1
  rename_i h1
  split at h
  · cases h
  rename_i h2
  split at h
  · cases h
  rename_i h3
  split at h
  · cases h
  rename_i h4
  refine ⟨by simpa using h1, by simpa using h2, ?_, ?_, ?_, by omega⟩
  · cases hp : has t N b.p with
    | true => rfl
    | false => exact absurd (.inl hp) h3
  · by_cases hq : b.h < 1
    · exact absurd (.inr (.inl hq)) h3
    · omega
  · by_cases hq : b.h - 1 = levH t N b.p
    · omega
    · exact absurd (.inr (.inr hq)) h3
theorem has_mem {k : Vec 32} (h : has t N k = true) : k = t.root ∨ k ∈ N.map (·.1) := by
  unfold has at h
  simp only [Bool.or_eq_true, decide_eq_true_eq] at h
  refine h.imp id fun h => ?_
  unfold blkOf nodeOf at h
  rw [Option.isSome_map, List.find?_isSome] at h
  obtain ⟨x, hx, hk⟩ := h
  have hk : k = x.1 := by simpa using hk
  exact hk ▸ List.mem_map_of_mem hx
theorem mem_has {k : Vec 32} (h : k = t.root ∨ k ∈ N.map (·.1)) : has t N k = true := by
  unfold has
  rcases h with rfl | h
  · simp
  · obtain ⟨x, hx, rfl⟩ := List.mem_map.1 h
    have : (blkOf x.1 N).isSome = true := by
      unfold blkOf nodeOf
      rw [Option.isSome_map, List.find?_isSome]
      exact ⟨x, hx, by simp⟩
    simp [this]
theorem lev_ge (hw : TrW t N) {k : Vec 32} (hk : has t N k = true) : t.ht ≤ levH t N k := by
  by_cases hr : k = t.root
  · unfold levH; rw [if_pos hr]; omega
  · have hb := has_blk hk hr
    have := hw.above _ _ hb
    unfold levH
    rw [if_neg hr, hb]
    simp only
    omega
theorem lev_hgt (hw : TrW t N) {k : Vec 32} (hk : has t N k = true) : levH t N k = t.ht + (hgt t N k : Int) := by
  have := lev_ge hw hk
  unfold hgt
  omega
theorem TI.add {b : Blk} {vd : Value} {c : Nat} (hi : TI t N) (h : addE t N b = 0) (hm : b.h ≤ maxI) : TI t (N ++ [(b.id, b, vd, c)]) := by
  obtain ⟨h1, h2, h3, h4, h5, h6⟩ := addE_ok h
  have hnm : b.id ∉ N.map (·.1) := fun hm => by rw [mem_has (.inr hm)] at h2; cases h2
  have hnr : b.id ≠ t.root := fun he => by rw [mem_has (.inl he)] at h2; cases h2
  refine ⟨hi.w.add h, ?_, fun k hk => ?_, fun x hx => ?_, hi.ht⟩
  · rw [List.map_append, List.nodup_append]
    refine ⟨hi.nd, by simp, fun x hx y hy => ?_⟩
    simp only [List.map_cons, List.map_nil, List.mem_singleton] at hy
    subst hy
    intro he
    exact hnm (he ▸ hx)
  · rw [List.length_append, List.length_singleton]
    by_cases hold : has t N k = true
    · have h7 := has_old (x := (b.id, b, vd, c)) hold
      have h8 := hi.hb k hold
      unfold hgt at h8 ⊢
      rw [h7.2]
      omega
    · have hk' : k = b.id := by
        rcases has_mem hk with rfl | hm'
        · exact absurd (mem_has (.inl rfl)) hold
        · rw [List.map_append, List.mem_append] at hm'
          rcases hm' with hm' | hm'
          · exact absurd (mem_has (.inr hm')) hold
          · simpa using hm'
      subst hk'
      have h8 := hi.hb _ h3
      have hl := lev_hgt hi.w h3
      have hb : blkOf b.id (N ++ [(b.id, b, vd, c)]) = some b := by
        rw [blkOf_snoc]
        have : blkOf b.id N = none := by
          unfold has at h2
          simp only [Bool.or_eq_false_iff] at h2
          simpa using h2.2
        rw [this]
        simp
      have : levH t (N ++ [(b.id, b, vd, c)]) b.id = b.h := by
        unfold levH
        rw [if_neg hnr, hb]
      unfold hgt
      rw [this, h5, hl]
      omega
  · rcases List.mem_append.1 hx with hx | hx
    · exact hi.hi x hx
    · obtain rfl : x = (b.id, b, vd, c) := by simpa using hx
      exact hm
/-! ### Ways -/
theorem path_root : pathOf t N t.root = [] := by
  unfold pathOf
  rw [wayUp_root]
  split <;> rfl
theorem path_step (hw : TrW t N) {k : Vec 32} (h : has t N k = true) (hk : k ≠ t.root) : pathOf t N k = pathOf t N (upOf k N) ++ [k] := by
  have h2 := (up_has hw h hk).1
  unfold pathOf
  rw [if_pos h, if_pos h2, wayUp_step hw h hk, List.reverse_cons]
theorem path_none {k : Vec 32} (h : has t N k = false) : pathOf t N k = [] := by unfold pathOf; rw [h]; rfl
theorem path_ind (hw : TrW t N) {C : Vec 32 → Prop} (h0 : C t.root) (h1 : ∀ k, has t N k = true → k ≠ t.root → C (upOf k N) → C k) : ∀ k, has t N k = true → C k := by
  intro k
  generalize hn : hgt t N k = n
  induction n using Nat.strongRecOn generalizing k with
  | ind n ih =>
    intro hk
    by_cases hr : k = t.root
    · subst hr; exact h0
    · obtain ⟨h2, h3⟩ := up_has hw hk hr
      exact h1 k hk hr (ih _ (by omega) _ rfl h2)
theorem hgt_root : hgt t N t.root = 0 := by simp [hgt, levH]
theorem path_len (hw : TrW t N) : ∀ k, has t N k = true → (pathOf t N k).length = hgt t N k := by
  refine path_ind hw (by rw [path_root, hgt_root]; rfl) fun k hk hr ih => ?_
  rw [path_step hw hk hr, List.length_append, ih, (up_has hw hk hr).2]
  rfl
/-- What stands at a place of a way. -/
theorem path_at (hw : TrW t N) : ∀ k, has t N k = true → ∀ i x, (pathOf t N k)[i]? = some x →
    has t N x = true ∧ x ≠ t.root ∧ hgt t N x = i + 1 ∧ (if i = 0 then some t.root else (pathOf t N k)[i - 1]?) = some (upOf x N) := by
  refine path_ind hw (fun i x hx => by rw [path_root] at hx; simp at hx) fun k hk hr ih i x hx => ?_
  obtain ⟨h2, h3⟩ := up_has hw hk hr
  have hl := path_len hw _ h2
  rw [path_step hw hk hr] at hx ⊢
  by_cases hi : i < (pathOf t N (upOf k N)).length
  · rw [List.getElem?_append_left hi] at hx
    obtain ⟨h4, h5, h6, h7⟩ := ih i x hx
    refine ⟨h4, h5, h6, ?_⟩
    rw [List.getElem?_append_left (by omega)]
    exact h7
  · have hi2 : i = (pathOf t N (upOf k N)).length := by
      have := (List.getElem?_eq_some_iff.1 hx).1
      rw [List.length_append, List.length_singleton] at this
      omega
    subst hi2
    rw [List.getElem?_append_right (Nat.le_refl _), Nat.sub_self] at hx
    simp only [List.getElem?_cons_zero, Option.some.injEq] at hx
    subst hx
    refine ⟨hk, hr, by rw [h3, hl], ?_⟩
    by_cases h0 : (pathOf t N (upOf k N)).length = 0
    · rw [if_pos h0]
      by_cases hur : upOf k N = t.root
      · rw [hur]
      · rw [path_step hw h2 hur, List.length_append] at h0
        simp at h0
    · rw [if_neg h0, List.getElem?_append_left (by omega)]
      have hur : upOf k N ≠ t.root := fun he => by rw [he, path_root] at h0; exact h0 rfl
      rw [path_step hw h2 hur, List.length_append, List.length_singleton, Nat.add_sub_cancel, List.getElem?_append_right (Nat.le_refl _), Nat.sub_self]
      rfl
theorem under_path {a b : Vec 32} (ha : has t N a = true) (hb : has t N b = true) : under t N a b = (decide (b = t.root) || decide (b ∈ pathOf t N a)) := by
  unfold under pathOf
  rw [ha, hb, if_pos rfl]
  simp
theorem blk_h (hw : TrW t N) {k : Vec 32} (hk : has t N k = true) (hr : k ≠ t.root) : (nb k N).1.h = t.ht + (hgt t N k : Int) := by
  rw [← lev_hgt hw hk]
  unfold levH
  rw [if_neg hr, has_blk hk hr]
end
end Go.Fx
set_option linter.unusedVariables false
set_option linter.unusedSimpArgs false
namespace Go.Fx
theorem Rows'.ldInt {w : World} {v : Value} {l : List Int} {j : Nat} {a : Int} (hr : Rows' (rInt .i64) w.heap v l) (hj : l[j]? = some a) (k : IntKind) {K : Value → Prop} (h : K (.int .i64 a)) : ixs 1 v (.int k (j : Int)) fun t => Go.Fx.ld1 t w.heap K := by
  obtain ⟨g, o, ha, hx⟩ := hr.ix (by decide) hj
  have hx' : ∀ K, ixs 1 v (.int k (j : Int)) K = K (.pointer (some ⟨g, o, none⟩)) := hx k
  rw [hx', At.ld1 (v := .int .i64 a) ha]
  exact h
theorem rdS_rowI {S : World → Prop} {w : World} {v : Value} {l : List Int} {j : Nat} {a : Int} {K : Value → Prop}
    (hw : S w) (hS : ∀ u, S u → Rows' (rInt .i64) u.heap v l) (hj : l[j]? = some a) (k : IntKind) (h : K (.int .i64 a)) : ixs 1 v (.int k (j : Int)) fun t => rdS S (fun w => Go.Fx.ld1 t w.heap) K := by
  obtain ⟨g, o, c, rfl⟩ := (hS w hw).form (by decide) hj
  have hlt := (List.getElem?_eq_some_iff.1 hj).1
  rw [ixs_mk _ _ _ _ _ _ _ _ (by omega) (by omega), Int.toNat_natCast]
  refine ⟨.int .i64 a, fun z hz => ?_, h⟩
  have hat := At.of (by decide) (hS z hz) hj
  have e : (rInt .i64).size = 1 := rfl
  rw [e] at hat
  show Go.Fx.ld1 _ z.heap _
  rw [At.ld1 (v := .int .i64 a) hat]
section
variable {w0 w : World} {As : List Asn}
/-- slices.Equal on names. -/
theorem idsEqual_spec {u v : Value} {a b : List (Vec 32)} (ha : Rows' (rVec 32) w.heap u a) (hb : Rows' (rVec 32) w.heap v b) (hl : a.length ≤ 1000000) : cal P f_slices_Equal_api_ID_api_ID [u, v] w fun r w' => r = .bool (decide (a = b)) ∧ Fr [] w w' := by
  refine s_slices_Equal_api_ID_api_ID fun R hR => ?_
  unfold c_slices_Equal_api_ID_api_ID
  simp only [ha.len, hb.len, nilc_some, fad_mk, pik_true, pik_false, cnd_true, cnd_false, gif_same, gif_tf, gif_ft, gif_undef, bi_add, bi_sub, bi_mul, bi_eql, bi_neq, bi_lss, bi_leq, bi_gtr, bi_geq, notB_bool, cvi_int, lenS_mk, lenT_mk, ext0, ext1, ext2, nilP_mk, nilS_mk, fldv_agg, jn0_k, jn1_k, jn2_k, jn1_and, jn1_or, ex_some, Option.isNone_some, Option.isNone_none, Bool.false_bne, Bool.bne_true, Bool.bne_false, Bool.true_bne, Bool.not_true, Bool.not_false, Bool.and_true, Bool.true_and, Bool.and_false, Bool.false_and, Bool.or_true, Bool.true_or, Bool.or_false, Bool.false_or, cond_true, cond_false, List.getElem?_toArray, List.getElem?_cons_zero, List.getElem?_cons_succ, Nat.zero_add, Nat.add_zero, Nat.reduceAdd, forall_const]
  rw [cnd_bool]
  refine ⟨fun h => ?_, fun h => ?_⟩
  · have h : a.length ≠ b.length := by simp at h; omega
    exact hR _ _ ⟨by rw [decide_eq_false (fun he => h (by rw [he]))], Fr.refl _ _⟩
  have hab : a.length = b.length := by simp at h; omega
  refine ⟨fun y z => ∃ i : Nat, y = .int .i64 i ∧ i ≤ a.length ∧ a.take i = b.take i ∧ Fr [] w z, fun y _ => (a.length - RowKit.intOf y).toNat, ⟨0, rfl, by omega, by simp, Fr.refl _ _⟩, ?_⟩
  rintro _ w1 ⟨i, rfl, hi, ht, hf⟩ -
  simp only [nilc_some, fad_mk, pik_true, pik_false, cnd_true, cnd_false, gif_same, gif_tf, gif_ft, gif_undef, bi_add, bi_sub, bi_mul, bi_eql, bi_neq, bi_lss, bi_leq, bi_gtr, bi_geq, notB_bool, cvi_int, lenS_mk, lenT_mk, ext0, ext1, ext2, nilP_mk, nilS_mk, fldv_agg, jn0_k, jn1_k, jn2_k, jn1_and, jn1_or, ex_some, Option.isNone_some, Option.isNone_none, Bool.false_bne, Bool.bne_true, Bool.bne_false, Bool.true_bne, Bool.not_true, Bool.not_false, Bool.and_true, Bool.true_and, Bool.and_false, Bool.false_and, Bool.or_true, Bool.true_or, Bool.or_false, Bool.false_or, cond_true, cond_false, List.getElem?_toArray, List.getElem?_cons_zero, List.getElem?_cons_succ, Nat.zero_add, Nat.add_zero, Nat.reduceAdd, forall_const]
  rw [cnd_bool]
  refine ⟨fun h => ?_, fun h => ?_⟩
  · have hlt : i < a.length := by simp at h; omega
    obtain ⟨x, hx⟩ : ∃ x, a[i]? = some x := ⟨_, List.getElem?_eq_getElem hlt⟩
    obtain ⟨y, hy⟩ : ∃ y, b[i]? = some y := ⟨_, List.getElem?_eq_getElem (by omega)⟩
    refine drw_s ((Sep.start w).old hf) fun w2 hs2 _ => ?_
    change ixs 32 _ _ _
    refine Rows'.ldN (q := rVec 32) (by decide) (ha.fr hs2.fr0) hx .i64 ?_
    change ixs 32 _ _ _
    refine Rows'.ldN (q := rVec 32) (by decide) (hb.fr hs2.fr0) hy .i64 ?_
    rw [ne_api_ID, cnd_bool]
    refine ⟨fun h => ?_, fun h => ?_⟩
    · have h : ¬ x = y := by simpa using h
      refine hR _ _ ⟨?_, hs2.fr0⟩
      rw [decide_eq_false fun he => h (by rw [he, hy] at hx; simpa using hx.symm)]
    · have h : x = y := by simpa using h
      rw [wi64 (by omega) (by omega)]
      exact ⟨⟨i + 1, by simp, by omega, by rw [List.take_add_one, List.take_add_one, ht, hx, hy, h], hs2.fr0⟩, by simp [RowKit.intOf]; omega⟩
  · have hge : i = a.length := by simp at h; omega
    rw [hge, List.take_of_length_le (Nat.le_refl _), List.take_of_length_le (by omega)] at ht
    exact hR _ _ ⟨by rw [decide_eq_true ht], hf⟩
theorem idsIndex_spec {u : Value} {a : List (Vec 32)} (ha : Rows' (rVec 32) w.heap u a) (hl : a.length ≤ 1000000) (k : Vec 32) : cal P f_slices_Index_api_ID_api_ID [u, kv k] w fun r w' => (∃ i : Int, r = .int .i64 i ∧ (decide (0 ≤ i) = decide (k ∈ a))) ∧ Fr [] w w' := by
  refine s_slices_Index_api_ID_api_ID fun R hR => ?_
  unfold c_slices_Index_api_ID_api_ID
  refine bxQ (Sep.start w) fun g w1 hs => ?_
  simp only [ha.len]
  refine ⟨fun y z => ∃ i : Nat, y = .int .i64 i ∧ i ≤ a.length ∧ k ∉ a.take i ∧ Sep w z [blk g (Rdr.cells (rVec 32) k).toArray T_api_ID], fun y _ => (a.length - RowKit.intOf y).toNat, ⟨0, rfl, by omega, by simp, hs⟩, ?_⟩
  rintro _ w2 ⟨i, rfl, hi, ht, hs2⟩ -
  simp only [nilc_some, fad_mk, pik_true, pik_false, cnd_true, cnd_false, gif_same, gif_tf, gif_ft, gif_undef, bi_add, bi_sub, bi_mul, bi_eql, bi_neq, bi_lss, bi_leq, bi_gtr, bi_geq, notB_bool, cvi_int, lenS_mk, lenT_mk, ext0, ext1, ext2, nilP_mk, nilS_mk, fldv_agg, jn0_k, jn1_k, jn2_k, jn1_and, jn1_or, ex_some, Option.isNone_some, Option.isNone_none, Bool.false_bne, Bool.bne_true, Bool.bne_false, Bool.true_bne, Bool.not_true, Bool.not_false, Bool.and_true, Bool.true_and, Bool.and_false, Bool.false_and, Bool.or_true, Bool.true_or, Bool.or_false, Bool.false_or, cond_true, cond_false, List.getElem?_toArray, List.getElem?_cons_zero, List.getElem?_cons_succ, Nat.zero_add, Nat.add_zero, Nat.reduceAdd, forall_const]
  rw [cnd_bool]
  refine ⟨fun h => ?_, fun h => ?_⟩
  · have hlt : i < a.length := by simp at h; omega
    obtain ⟨x, hx⟩ : ∃ x, a[i]? = some x := ⟨_, List.getElem?_eq_getElem hlt⟩
    refine drw_s hs2 fun w3 hs3 _ => ?_
    simp only [L_api_ID hs3.blk]
    change ixs 32 _ _ _
    refine Rows'.ldN (q := rVec 32) (by decide) (ha.fr hs3.fr0) hx .i64 ?_
    rw [eq_api_ID, cnd_bool]
    refine ⟨fun h => ?_, fun h => ?_⟩
    · have h : k = x := by simpa using h
      refine hR _ _ ⟨⟨i, rfl, ?_⟩, hs3.fr0⟩
      rw [decide_eq_true (by omega), decide_eq_true (h ▸ List.mem_of_getElem? hx)]
    · have h : ¬ k = x := by simpa using h
      rw [wi64 (by omega) (by omega)]
      refine ⟨⟨i + 1, by simp, by omega, ?_, hs3⟩, by simp [RowKit.intOf]; omega⟩
      rw [List.take_add_one, hx, List.mem_append]
      rintro (hm | hm)
      · exact ht hm
      · exact h (by simpa using hm)
  · have hge : i = a.length := by simp at h; omega
    rw [hge, List.take_of_length_le (Nat.le_refl _)] at ht
    exact hR _ _ ⟨⟨-1, rfl, by rw [decide_eq_false (by omega), decide_eq_false ht]⟩, hs2.fr0⟩
theorem idsContains_spec {u : Value} {a : List (Vec 32)} (ha : Rows' (rVec 32) w.heap u a) (hl : a.length ≤ 1000000) (k : Vec 32) : cal P f_slices_Contains_api_ID_api_ID [u, kv k] w fun r w' => r = .bool (decide (k ∈ a)) ∧ Fr [] w w' := by
  refine s_slices_Contains_api_ID_api_ID fun R hR => ?_
  unfold c_slices_Contains_api_ID_api_ID
  refine bxQ (Sep.start w) fun g w1 hs => ?_
  simp only [L_api_ID hs.blk]
  refine cal_i (idsIndex_spec (ha.fr hs.fr0) hl k) ?_
  rintro _ w2 ⟨⟨i, rfl, hi⟩, hf⟩
  simp only [nilc_some, fad_mk, pik_true, pik_false, cnd_true, cnd_false, gif_same, gif_tf, gif_ft, gif_undef, bi_add, bi_sub, bi_mul, bi_eql, bi_neq, bi_lss, bi_leq, bi_gtr, bi_geq, notB_bool, cvi_int, lenS_mk, lenT_mk, ext0, ext1, ext2, nilP_mk, nilS_mk, fldv_agg, jn0_k, jn1_k, jn2_k, jn1_and, jn1_or, ex_some, Option.isNone_some, Option.isNone_none, Bool.false_bne, Bool.bne_true, Bool.bne_false, Bool.true_bne, Bool.not_true, Bool.not_false, Bool.and_true, Bool.true_and, Bool.and_false, Bool.false_and, Bool.or_true, Bool.true_or, Bool.or_false, Bool.false_or, cond_true, cond_false, List.getElem?_toArray, List.getElem?_cons_zero, List.getElem?_cons_succ, Nat.zero_add, Nat.add_zero, Nat.reduceAdd, forall_const]
  exact hR _ _ ⟨by rw [hi], (hs.old hf).fr0⟩
end
/-! ### What is to be added -/
structure GA where
  k : Nat
  d : List UInt8
  dv : Value
  raw : Bool
  b : Blk
  bv : Value
def GA.t (x : GA) : Int × Value × Bool × Vec 32 × Int × Value := ((x.k : Int), x.dv, x.raw, x.b.p, x.b.h, x.bv)
structure GRows (h : Heap) (v : Value) (l : List GA) : Prop where
  rw : Rows' Q_flurrylaw11_Grow h v (l.map GA.t)
  d : ∀ x ∈ l, RdB h x.dv x.d ∧ RdB h x.bv x.b.d
theorem GRows.fr {w w' : World} {v : Value} {l : List GA} (h : GRows w.heap v l) (hf : Fr [] w w') : GRows w'.heap v l := ⟨h.rw.fr hf, fun x hx => ⟨(h.d x hx).1.fr hf (off_nil _), (h.d x hx).2.fr hf (off_nil _)⟩⟩
theorem GRows.len {h : Heap} {v : Value} {l : List GA} (hr : GRows h v l) (K : Value → Prop) : lenS v K = K (.int .i64 l.length) := by
  have := hr.rw.len K
  rwa [List.length_map] at this
/-- What a number of Go may be. -/
def GOk (l : List GA) : Prop := ∀ x ∈ l, x.k < 256 ∧ x.b.h ≤ maxI ∧ x.d.length ≤ 9223372036854775807 ∧ x.b.d.length ≤ 9223372036854775807
theorem grows_arg {h : Heap} {s : Sl (Nat × Sl UInt8 × Bool × (Vec 32 × Int × Sl UInt8))} (hs : (rSl R_flurrylaw11_Grow).ok h s) : ∃ l : List GA, GRows h s.v l ∧ capOk s.v ∧ l.length ≤ 9223372036854775807 ∧ GOk l := by
  obtain ⟨h1, h2, h3, h4⟩ := hs
  refine ⟨s.l.map fun x => ⟨x.1, x.2.1.l, x.2.1.v, x.2.2.1, ab x.2.2.2, x.2.2.2.2.2.v⟩, ⟨?_, fun x hx => ?_⟩, h3, by simpa using h2, fun x hx => ?_⟩
  · have e : s.l.flatMap R_flurrylaw11_Grow.cells = ((s.l.map fun x => (⟨x.1, x.2.1.l, x.2.1.v, x.2.2.1, ab x.2.2.2, x.2.2.2.2.2.v⟩ : GA)).map GA.t).flatMap Q_flurrylaw11_Grow.cells := by
      generalize s.l = l
      induction l with
      | nil => rfl
      | cons a l ih => rw [List.flatMap_cons, ih]; rfl
    unfold Rows'
    rw [e] at h1
    simp only [List.length_map] at h1 ⊢
    exact h1
  · obtain ⟨y, hy, rfl⟩ := List.mem_map.1 hx
    obtain ⟨o1, o2, o3, o4⟩ := h4 y hy
    exact ⟨o2.1, ab_rd o4⟩
  · obtain ⟨y, hy, rfl⟩ := List.mem_map.1 hx
    obtain ⟨o1, o2, o3, o4⟩ := h4 y hy
    exact ⟨o1, ab_h o4, o2.2.1, ab_len o4⟩
/-- The block that is to be added. -/
def bG (ids : List (Vec 32)) (hs : List Int) (x : GA) : Blk := if x.raw then x.b else ⟨ids.getD (x.k % ids.length) (vz 32), min (hs.getD (x.k % ids.length) 0) 4611686018427387904 + 1, x.d⟩
def GA.v (x : GA) : Value := if x.raw then x.bv else x.dv
section
variable {w0 w : World} {As : List Asn}
theorem few11_spec {v : Value} {l : List GA} (hr : GRows w.heap v l) (hcap : capOk v) (h63 : l.length ≤ 9223372036854775807) (hok : GOk l) : cal P f_law11_few [v] w fun r w' => Fr [] w w' ∧ ∃ t, r = .bool t ∧ (t = true → l.length ≤ 40) := by
  refine s_law11_few fun R hR => ?_
  unfold c_law11_few
  have hq : ∃ a c, v = .slice a l.length c ∧ l.length ≤ c := by
    obtain ⟨a, c, hv, _⟩ := hr.rw
    rw [List.length_map] at hv
    exact ⟨a, c, hv, hcap _ _ _ hv⟩
  obtain ⟨a, c, hv, hc⟩ := hq
  simp only [hr.len, min_int]
  obtain ⟨n, hn⟩ : ∃ n : Nat, n = min l.length 80 := ⟨_, rfl⟩
  have e1 : min (l.length : Int) 80 = (n : Int) := by omega
  rw [e1]
  have hnl : n ≤ l.length := by omega
  have hrt : GRows w.heap (.slice a n c) (l.take n) := by
    refine ⟨?_, fun x hx => hr.d x (List.mem_of_mem_take hx)⟩
    have := hr.rw
    rw [hv] at this
    have h2 := Rows'.take this (k := n) (by simpa using hnl) c
    rwa [← List.map_take] at h2
  rw [hv, slc_to (by omega)]
  have hlt : (l.take n).length = n := by rw [List.length_take]; omega
  have h5 := hrt.len
  rw [hlt] at h5
  have h6 := hr.len
  rw [hv] at h6
  simp only [h5]
  refine ⟨fun y z => ∃ i : Nat, y = .int .i64 i ∧ i ≤ n ∧ Fr [] w z, fun y _ => (n - RowKit.intOf y).toNat, ⟨0, rfl, by omega, Fr.refl _ _⟩, ?_⟩
  rintro _ w1 ⟨i, rfl, hi, hf⟩ -
  simp only [nilc_some, fad_mk, pik_true, pik_false, cnd_true, cnd_false, gif_same, gif_tf, gif_ft, gif_undef, bi_add, bi_sub, bi_mul, bi_eql, bi_neq, bi_lss, bi_leq, bi_gtr, bi_geq, notB_bool, cvi_int, lenS_mk, lenT_mk, ext0, ext1, ext2, nilP_mk, nilS_mk, fldv_agg, jn0_k, jn1_k, jn2_k, jn1_and, jn1_or, ex_some, Option.isNone_some, Option.isNone_none, Bool.false_bne, Bool.bne_true, Bool.bne_false, Bool.true_bne, Bool.not_true, Bool.not_false, Bool.and_true, Bool.true_and, Bool.and_false, Bool.false_and, Bool.or_true, Bool.true_or, Bool.or_false, Bool.false_or, cond_true, cond_false, List.getElem?_toArray, List.getElem?_cons_zero, List.getElem?_cons_succ, Nat.zero_add, Nat.add_zero, Nat.reduceAdd, forall_const]
  rw [cnd_bool]
  refine ⟨fun h => ?_, fun h => ?_⟩
  · have hlt : i < n := by simp at h; omega
    obtain ⟨x, hx⟩ : ∃ x, (l.take n)[i]? = some x := ⟨_, List.getElem?_eq_getElem (by omega)⟩
    have hxm := List.mem_of_mem_take (List.mem_of_getElem? hx)
    have hxm' : ((l.take n).map GA.t)[i]? = some x.t := by rw [List.getElem?_map, hx]; rfl
    change ixs 37 _ _ _
    refine Rows'.ldN (q := Q_flurrylaw11_Grow) (by decide) (hrt.rw.fr hf) hxm' .i64 ?_
    refine alloc_s ((Sep.start w).old hf) (A_flurrylaw11_Grow w1) fun g w2 hs2 => ?_
    have hd := (hr.fr hs2.fr0).d x hxm
    refine St_flurrylaw11_Grow hs2 (one_flurrylaw11_Grow hd.1.one hd.2.one) fun w3 hs3 => ?_
    have hd3 := (hr.fr hs3.fr0).d x hxm
    have l1 : ∀ K, lenS (GA.t x).2.1 K = K (.int .i64 x.d.length) := hd3.1.len
    have l2 : ∀ K, lenS (GA.t x).2.2.2.2.2 K = K (.int .i64 x.b.d.length) := hd3.2.len
    simp only [L_flurrylaw11_Grow hs3.blk, L_flurrylaw11_Grow__K hs3.blk, L_flurrylaw11_Grow__Data hs3.blk, L_flurrylaw11_Grow__Raw hs3.blk, L_flurrylaw11_Grow__B hs3.blk, L_flurrylaw11_Grow__B_Parent hs3.blk, L_flurrylaw11_Grow__B_Height hs3.blk, L_flurrylaw11_Grow__B_Data hs3.blk, l1, l2, nilc_some, fad_mk, pik_true, pik_false, cnd_true, cnd_false, gif_same, gif_tf, gif_ft, gif_undef, bi_add, bi_sub, bi_mul, bi_eql, bi_neq, bi_lss, bi_leq, bi_gtr, bi_geq, notB_bool, cvi_int, lenS_mk, lenT_mk, ext0, ext1, ext2, nilP_mk, nilS_mk, fldv_agg, jn0_k, jn1_k, jn2_k, jn1_and, jn1_or, ex_some, Option.isNone_some, Option.isNone_none, Bool.false_bne, Bool.bne_true, Bool.bne_false, Bool.true_bne, Bool.not_true, Bool.not_false, Bool.and_true, Bool.true_and, Bool.and_false, Bool.false_and, Bool.or_true, Bool.true_or, Bool.or_false, Bool.false_or, cond_true, cond_false, List.getElem?_toArray, List.getElem?_cons_zero, List.getElem?_cons_succ, Nat.zero_add, Nat.add_zero, Nat.reduceAdd, forall_const]
    rw [cnd_bool]
    refine ⟨fun h => hR _ _ ⟨hs3.fr0, false, rfl, fun h => by cases h⟩, fun h => ?_⟩
    rw [wi64 (by omega) (by omega)]
    exact ⟨⟨i + 1, by simp, by omega, hs3.fr0⟩, by simp [RowKit.intOf]; omega⟩
  · exact hR _ _ ⟨hf, _, rfl, fun h => by simp at h; omega⟩
theorem block11_spec {q : Vec 32 × Int × Int} {x : GA} {iv hv : Value} {ids : List (Vec 32)} {hs : List Int} (hi : Rows' (rVec 32) w.heap iv ids) (hh : Rows' (rInt .i64) w.heap hv hs) (hl : hs.length = ids.length) (h0 : 0 < ids.length) (hn : ids.length ≤ 1000000)
    (hx : RdB w.heap x.dv x.d ∧ RdB w.heap x.bv x.b.d) (hp : ∀ y ∈ hs, 0 ≤ y) (hk : x.k < 256) : cal P f_law11_block [.agg (Rdr.cells Q_flurrylaw11_Start q).toArray, .agg (Rdr.cells Q_flurrylaw11_Grow x.t).toArray, iv, hv] w fun r w' => r = bq (bG ids hs x) x.v ∧ Fr [] w w' := by
  refine s_law11_block fun R hR => ?_
  unfold c_law11_block
  refine bxQ (Sep.start w) fun g4 w1 hs1 => ?_
  refine bxQ hs1 fun g5 w2 hs2 => ?_
  refine alloc_s hs2 (A_api_Block w2) fun g8 w3 hs3 => ?_
  have eraw : (GA.t x).2.2.1 = x.raw := rfl
  simp only [L_flurrylaw11_Grow (Sep.blk (Sep.p1 hs3)), L_flurrylaw11_Grow__K (Sep.blk (Sep.p1 hs3)), L_flurrylaw11_Grow__Data (Sep.blk (Sep.p1 hs3)), L_flurrylaw11_Grow__Raw (Sep.blk (Sep.p1 hs3)), L_flurrylaw11_Grow__B (Sep.blk (Sep.p1 hs3)), L_flurrylaw11_Grow__B_Parent (Sep.blk (Sep.p1 hs3)), L_flurrylaw11_Grow__B_Height (Sep.blk (Sep.p1 hs3)), L_flurrylaw11_Grow__B_Data (Sep.blk (Sep.p1 hs3)), nilc_some, fad_mk, pik_true, pik_false, cnd_true, cnd_false, gif_same, gif_tf, gif_ft, gif_undef, bi_add, bi_sub, bi_mul, bi_eql, bi_neq, bi_lss, bi_leq, bi_gtr, bi_geq, notB_bool, cvi_int, lenS_mk, lenT_mk, ext0, ext1, ext2, nilP_mk, nilS_mk, fldv_agg, jn0_k, jn1_k, jn2_k, jn1_and, jn1_or, ex_some, Option.isNone_some, Option.isNone_none, Bool.false_bne, Bool.bne_true, Bool.bne_false, Bool.true_bne, Bool.not_true, Bool.not_false, Bool.and_true, Bool.true_and, Bool.and_false, Bool.false_and, Bool.or_true, Bool.true_or, Bool.or_false, Bool.false_or, cond_true, cond_false, List.getElem?_toArray, List.getElem?_cons_zero, List.getElem?_cons_succ, Nat.zero_add, Nat.add_zero, Nat.reduceAdd, forall_const, eraw]
  rw [cnd_bool]
  refine ⟨fun h => ?_, fun h => ?_⟩
  · refine St_api_Block (b := (x.b.p, x.b.h, x.bv)) hs3 (one_api_Block hx.2.one) fun w4 hs4 => ?_
    simp only [L_api_Block hs4.blk, L_api_Block__Parent hs4.blk, L_api_Block__Height hs4.blk, L_api_Block__Data hs4.blk]
    exact hR _ _ ⟨by unfold bG GA.v; rw [if_pos h, if_pos h], hs4.fr0⟩
  · have ek : (GA.t x).1 = (x.k : Int) := rfl
    have hlen : ∀ K, lenS iv K = K (.int .i64 ids.length) := hi.len
    rw [ek, wi64 (by omega) (by omega), hlen, bi_rem _ _ _ _ (by omega), tmodn]
    have hlt := Nat.mod_lt x.k h0
    obtain ⟨a, ha⟩ : ∃ a, ids[x.k % ids.length]? = some a := ⟨_, List.getElem?_eq_getElem hlt⟩
    obtain ⟨y, hy⟩ : ∃ y, hs[x.k % ids.length]? = some y := ⟨_, List.getElem?_eq_getElem (by omega)⟩
    have hy0 := hp y (List.mem_of_getElem? hy)
    refine drH_S hs3 fun w4 hs4 _ => ?_
    change ixs 32 _ _ _
    refine rdS_rowV (q := rVec 32) (by decide) hs4 (fun u hu => hi.fr (Sep.fr0 hu)) ha .i64 ?_
    refine rdS_rowI hs4 (fun u hu => hh.fr (Sep.fr0 hu)) hy .i64 ?_
    refine ⟨.int .i64 (min y 4611686018427387904), fun u hu => by rw [min_int], ?_⟩
    simp only [nilc_some, fad_mk, pik_true, pik_false, cnd_true, cnd_false, gif_same, gif_tf, gif_ft, gif_undef, bi_add, bi_sub, bi_mul, bi_eql, bi_neq, bi_lss, bi_leq, bi_gtr, bi_geq, notB_bool, cvi_int, lenS_mk, lenT_mk, ext0, ext1, ext2, nilP_mk, nilS_mk, fldv_agg, jn0_k, jn1_k, jn2_k, jn1_and, jn1_or, ex_some, Option.isNone_some, Option.isNone_none, Bool.false_bne, Bool.bne_true, Bool.bne_false, Bool.true_bne, Bool.not_true, Bool.not_false, Bool.and_true, Bool.true_and, Bool.and_false, Bool.false_and, Bool.or_true, Bool.true_or, Bool.or_false, Bool.false_or, cond_true, cond_false, List.getElem?_toArray, List.getElem?_cons_zero, List.getElem?_cons_succ, Nat.zero_add, Nat.add_zero, Nat.reduceAdd, forall_const]
    rw [wi64 (by omega) (by omega)]
    refine rdS_ld (v := x.dv) (fun u hu K hk => (L_flurrylaw11_Grow__Data (Sep.blk (Sep.p1 hu)) K).mpr hk) ?_
    refine ⟨bq ⟨a, min y 4611686018427387904 + 1, x.d⟩ x.dv, fun u hu => by rw [B_api_Block_0_1_2 hx.1.one], ?_⟩
    refine efC_stN (St_api_Block (b := (a, min y 4611686018427387904 + 1, x.dv)) hs4 (one_api_Block hx.1.one) fun w5 hs5 => ?_)
    simp only [L_api_Block hs5.blk, L_api_Block__Parent hs5.blk, L_api_Block__Height hs5.blk, L_api_Block__Data hs5.blk]
    refine hR _ _ ⟨?_, hs5.fr0⟩
    unfold bG GA.v
    have h' : ¬ x.raw = true := by rw [h]; simp
    rw [if_neg h', if_neg h', List.getD_eq_getElem?_getD, ha, List.getD_eq_getElem?_getD, hy]
    rfl
end
end Go.Fx
set_option linter.unusedVariables false
set_option linter.unusedSimpArgs false
namespace Go.Fx
abbrev nms (N : List TN) : List (Vec 32) := N.map (·.1)
abbrev hts (N : List TN) : List Int := N.map (·.2.1.h)
/-- The names that were told, the root's first; their heights. -/
abbrev idsT (t : Tr) (N : List TN) : List (Vec 32) := t.root :: nms N
abbrev htsT (t : Tr) (N : List TN) : List Int := t.ht :: hts N
def growStep (t : Tr) (x : GA) (N N' : List TN) : Prop :=
  (addE t N (bG (idsT t N) (htsT t N) x) = 0 ∧ ∃ vd c, N' = N ++ [((bG (idsT t N) (htsT t N) x).id, bG (idsT t N) (htsT t N) x, vd, c)]) ∨ (addE t N (bG (idsT t N) (htsT t N) x) ≠ 0 ∧ N' = N)
inductive GrownTo (t : Tr) : List GA → List TN → Prop where
  | nil : GrownTo t [] []
  | snoc {l : List GA} {x : GA} {N N' : List TN} : GrownTo t l N → growStep t x N N' → GrownTo t (l ++ [x]) N'
theorem GrownTo.inv {t : Tr} {l : List GA} {x : GA} {N' : List TN} (h : GrownTo t (l ++ [x]) N') : ∃ N, GrownTo t l N ∧ growStep t x N N' := by
  generalize hm : l ++ [x] = m at h
  cases h with
  | nil => simp at hm
  | snoc h1 h2 =>
    obtain ⟨rfl, hx⟩ := List.append_inj' hm rfl
    simp only [List.cons.injEq, and_true] at hx
    subst hx
    exact ⟨_, h1, h2⟩
theorem bG_rd {h : Heap} {x : GA} {ids : List (Vec 32)} {hs : List Int} (hx : RdB h x.dv x.d ∧ RdB h x.bv x.b.d) : RdB h x.v (bG ids hs x).d := by
  unfold bG GA.v
  cases x.raw
  · exact hx.1
  · exact hx.2
theorem bG_h {x : GA} {ids : List (Vec 32)} {hs : List Int} (hx : x.b.h ≤ maxI) : (bG ids hs x).h ≤ maxI := by
  unfold bG
  cases x.raw
  · show min (hs.getD (x.k % ids.length) 0) 4611686018427387904 + 1 ≤ maxI
    unfold maxI
    omega
  · exact hx
section
variable {w0 w : World} {As : List Asn}
theorem hts_nonneg {t : Tr} {N : List TN} (hi : TI t N) : ∀ y ∈ htsT t N, 0 ≤ y := fun y hy => by
  rcases List.mem_cons.1 hy with rfl | hy
  · exact hi.ht
  · obtain ⟨x, hx, rfl⟩ := List.mem_map.1 hy
    have hm : x.1 ∈ nms N := List.mem_map_of_mem hx
    have hb : (blkOf x.1 N).isSome = true := by
      unfold blkOf nodeOf
      rw [Option.isSome_map, List.find?_isSome]
      exact ⟨x, hx, by simp⟩
    have hnd := hi.nd
    have hx2 : blkOf x.1 N = some x.2.1 := by
      clear hm hb
      unfold blkOf nodeOf
      induction N with
      | nil => cases hx
      | cons y N ih => 
        rw [List.map_cons, List.nodup_cons] at hnd
        rw [List.find?_cons]
        rcases List.mem_cons.1 hx with rfl | hx
        · simp
        · have : x.1 ≠ y.1 := fun he => hnd.1 (he ▸ List.mem_map_of_mem hx)
          simp only [this, decide_false]
          have ih' : ∀ (N : List TN), (N.map (·.1)).Nodup → x ∈ N → Option.map (fun (x : TN) => x.2.1) (N.find? fun z => decide (x.1 = z.1)) = some x.2.1 := fun N => by
            induction N with
            | nil => intro _ h; cases h
            | cons z N ih2 =>
              intro hnd hx
              rw [List.map_cons, List.nodup_cons] at hnd
              rw [List.find?_cons]
              rcases List.mem_cons.1 hx with rfl | hx
              · simp
              · have : x.1 ≠ z.1 := fun he => hnd.1 (he ▸ List.mem_map_of_mem hx)
                simp only [this, decide_false]
                exact ih2 hnd.2 hx
          exact ih' N hnd.2 hx
    have := hi.w.above _ _ hx2
    have := hi.ht
    omega
theorem two_lit {r : Vec 32} {h : Int} {K : Value → Value → World → Prop} (hs : Sep w0 w As) (hk : ∀ x y z, Sep w0 z (rows (rVec 32) x [r] :: rows (rInt .i64) y [h] :: As) → K x y z) :
    (efS (fun u => Sep w0 u As) (efP P (Instr.buildSlice T_sl_api_ID 1 #[(0, kv r)])) w fun a w => efS (fun u => Sep w0 u As) (efP P (Instr.buildSlice T_sl_int64 1 #[(0, .int .i64 h)])) w fun b w => K a b w) ∧
    ((efS (fun u => Sep w0 u As) (efP P (Instr.buildSlice T_sl_int64 1 #[(0, .int .i64 h)])) w fun b w => efS (fun u => Sep w0 u As) (efP P (Instr.buildSlice T_sl_api_ID 1 #[(0, kv r)])) w fun a w => K a b w) ∧ True) := by
  refine ⟨?_, ?_, trivial⟩
  · refine efS_i (rows_lit hs S_sl_api_ID (l := [r]) (V := fun a => .agg (Rdr.cells (rVec 32) a).toArray) (fun a => rfl) rfl rfl (by decide) (by decide) fun g7 w7 hs7 => ⟨hs7.tail, ?_⟩)
    refine efS_i (rows_lit (q := rInt .i64) hs7 S_sl_int64 (l := [h]) (V := fun a => .int .i64 a) (fun a => rfl) rfl rfl (by decide) (by decide) fun g8 w8 hs8 => ⟨hs8.tail.tail, hk _ _ _ hs8.p1⟩)
  · refine efS_i (rows_lit (q := rInt .i64) hs S_sl_int64 (l := [h]) (V := fun a => .int .i64 a) (fun a => rfl) rfl rfl (by decide) (by decide) fun g8 w8 hs8 => ⟨hs8.tail, ?_⟩)
    refine efS_i (rows_lit hs8 S_sl_api_ID (l := [r]) (V := fun a => .agg (Rdr.cells (rVec 32) a).toArray) (fun a => rfl) rfl rfl (by decide) (by decide) fun g7 w7 hs7 => ⟨hs7.tail.tail, hk _ _ _ hs7⟩)
theorem bldI {r : Vec 32} {K : Value → World → Prop} {Bs : List Asn} (hs : Sep w0 w Bs) (hk : ∀ a z, Sep w0 z (rows (rVec 32) a [r] :: Bs) → K a z) : efP P (Instr.buildSlice T_sl_api_ID 1 #[(0, kv r)]) w K :=
  rows_lit hs S_sl_api_ID (l := [r]) (V := fun a => .agg (Rdr.cells (rVec 32) a).toArray) (fun a => rfl) rfl rfl (by decide) (by decide) fun g7 w7 hs7 => hk _ _ hs7
theorem bldH {h : Int} {K : Value → World → Prop} {Bs : List Asn} (hs : Sep w0 w Bs) (hk : ∀ a z, Sep w0 z (rows (rInt .i64) a [h] :: Bs) → K a z) : efP P (Instr.buildSlice T_sl_int64 1 #[(0, .int .i64 h)]) w K :=
  rows_lit (q := rInt .i64) hs S_sl_int64 (l := [h]) (V := fun a => .int .i64 a) (fun a => rfl) rfl rfl (by decide) (by decide) fun g7 w7 hs7 => hk _ _ hs7
theorem appI {r : Vec 32} {x a : Value} {ids : List (Vec 32)} {K : Value → World → Prop} {Bs : List Asn} (hs : Sep w0 w (rows (rVec 32) x ids :: Bs)) (ha : Rows' (rVec 32) w.heap a [r]) (hl : ids.length ≤ 1000000)
    (hk : ∀ x' z, Sep w0 z (rows (rVec 32) x' (ids ++ [r]) :: Bs) → K x' z) : efP P (Builtin.append_ #[T_sl_api_ID, T_sl_api_ID] T_sl_api_ID #[x, a]) w K :=
  rows_app S_sl_api_ID U_sl_api_ID (by simp) hs ha (by simp only [List.flatMap_cons, List.flatMap_nil, List.append_nil]; exact oneVec) (by simp; omega) (by simp; omega) fun v8 w8 hs8 => hk _ _ hs8
theorem appH {h : Int} {y b : Value} {hs' : List Int} {K : Value → World → Prop} {Bs : List Asn} (hs : Sep w0 w (rows (rInt .i64) y hs' :: Bs)) (ha : Rows' (rInt .i64) w.heap b [h]) (hl : hs'.length ≤ 1000000)
    (hk : ∀ y' z, Sep w0 z (rows (rInt .i64) y' (hs' ++ [h]) :: Bs) → K y' z) : efP P (Builtin.append_ #[T_sl_int64, T_sl_int64] T_sl_int64 #[y, b]) w K :=
  rows_app (q := rInt .i64) S_sl_int64 U_sl_int64 (by simp) hs ha (by simp only [List.flatMap_cons, List.flatMap_nil, List.append_nil]; exact oneI) (by simp; omega) (by simp; omega) fun v8 w8 hs8 => hk _ _ hs8
theorem three_app {r : Vec 32} {h : Int} {x y : Value} {ids : List (Vec 32)} {hs' : List Int} {K : Value → Value → World → Prop} (hs : Sep w0 w (rows (rVec 32) x ids :: rows (rInt .i64) y hs' :: As)) (hl1 : ids.length ≤ 1000000) (hl2 : hs'.length ≤ 1000000)
    (hk : ∀ x' y' z, Sep w0 z (rows (rVec 32) x' (ids ++ [r]) :: rows (rInt .i64) y' (hs' ++ [h]) :: As) → K x' y' z) :
    (efS (fun u => Sep w0 u As) (efP P (Instr.buildSlice T_sl_api_ID 1 #[(0, kv r)])) w fun a w =>
      (efS (fun u => Sep w0 u As) (efP P (Builtin.append_ #[T_sl_api_ID, T_sl_api_ID] T_sl_api_ID #[x, a])) w fun x' w =>
        efS (fun u => Sep w0 u As) (efP P (Instr.buildSlice T_sl_int64 1 #[(0, .int .i64 h)])) w fun b w =>
        efC (efP P (Builtin.append_ #[T_sl_int64, T_sl_int64] T_sl_int64 #[y, b])) w fun S y' w => K x' y' w) ∧
      ((efS (fun u => Sep w0 u As) (efP P (Instr.buildSlice T_sl_int64 1 #[(0, .int .i64 h)])) w fun b w =>
        efS (fun u => Sep w0 u As) (efP P (Builtin.append_ #[T_sl_api_ID, T_sl_api_ID] T_sl_api_ID #[x, a])) w fun x' w =>
        efC (efP P (Builtin.append_ #[T_sl_int64, T_sl_int64] T_sl_int64 #[y, b])) w fun S y' w => K x' y' w) ∧ True)) ∧
    ((efS (fun u => Sep w0 u As) (efP P (Instr.buildSlice T_sl_int64 1 #[(0, .int .i64 h)])) w fun b w =>
      efS (fun u => Sep w0 u As) (efP P (Instr.buildSlice T_sl_api_ID 1 #[(0, kv r)])) w fun a w =>
      efS (fun u => Sep w0 u As) (efP P (Builtin.append_ #[T_sl_api_ID, T_sl_api_ID] T_sl_api_ID #[x, a])) w fun x' w =>
      efC (efP P (Builtin.append_ #[T_sl_int64, T_sl_int64] T_sl_int64 #[y, b])) w fun S y' w => K x' y' w) ∧ True) := by
  refine ⟨?_, ?_, trivial⟩
  · refine efS_i (bldI hs fun a z hz => ⟨hz.tail.tail.tail, ?_, ?_, trivial⟩)
    · refine efS_i (appI hz.p1 (Sep.rows hz) hl1 fun x' z' hz' => ⟨hz'.tail.tail.tail, ?_⟩)
      refine efS_i (bldH hz' fun b z2 hz2 => ⟨hz2.tail.tail.tail.tail, ?_⟩)
      refine efC_efP (appH (Sep.pick hz2 [3, 0, 1, 2] 4) (Sep.rows hz2) hl2 fun y' z3 hz3 => hk _ _ _ ?_)
      exact Sep.pick hz3 [2, 0] 4
    · refine efS_i (bldH hz fun b z2 hz2 => ⟨hz2.tail.tail.tail.tail, ?_⟩)
      refine efS_i (appI hz2.p2 (Sep.rows hz2.p1) hl1 fun x' z' hz' => ⟨hz'.tail.tail.tail.tail, ?_⟩)
      refine efC_efP (appH (Sep.pick hz' [3, 0, 1, 2] 4) (Sep.rows hz'.p1) hl2 fun y' z3 hz3 => hk _ _ _ ?_)
      exact Sep.pick hz3 [1, 0] 4
  · refine efS_i (bldH hs fun b z hz => ⟨hz.tail.tail.tail, ?_⟩)
    refine efS_i (bldI hz fun a z2 hz2 => ⟨hz2.tail.tail.tail.tail, ?_⟩)
    refine efS_i (appI hz2.p2 (Sep.rows hz2) hl1 fun x' z' hz' => ⟨hz'.tail.tail.tail.tail, ?_⟩)
    refine efC_efP (appH (Sep.pick hz' [3, 0, 1, 2] 4) (Sep.rows hz'.p2) hl2 fun y' z3 hz3 => hk _ _ _ ?_)
    exact Sep.pick hz3 [1, 0] 4
/-- What is known of a tree to which l was added, and of what else the call made. -/
def GState (w0 w : World) (t : Tr) (l : List GA) (g gm : Nat) (x y : Value) (Xs : List Asn) : Prop :=
  ∃ N ov c Ds, TI t N ∧ GrownTo t l N ∧ N.length ≤ l.length ∧ Dat N Ds ∧ Sep w0 w (trH g gm ov t N c ++ (rows (rVec 32) x (idsT t N) :: rows (rInt .i64) y (htsT t N) :: (Xs ++ Ds)))
theorem grown_spec {q : Vec 32 × Int × Int} {v : Value} {l : List GA} (hC : Cub w) (hr : GRows w.heap v l) (hok : GOk l) (hl : l.length ≤ 1000) :
    cal P f_law11_grown [.agg (Rdr.cells Q_flurrylaw11_Start q).toArray, v] w fun r w' => (r = .tuple #[.pointer none, .slice none 0 0] ∧ ¬ (0 ≤ q.2.1 ∧ 1 ≤ q.2.2 ∧ q.2.2 ≤ 256) ∧ Fr [] w w') ∨
      ((0 ≤ q.2.1 ∧ 1 ≤ q.2.2 ∧ q.2.2 ≤ 256) ∧ ∃ g gm x y, r = .tuple #[.pointer (some ⟨g, 0, none⟩), x] ∧ GState w w' ⟨q.1, q.2.1, q.2.2⟩ l g gm x y []) := by
  refine s_law11_grown fun R hR => ?_
  unfold c_law11_grown
  refine bxQ (Sep.start w) fun g2 w1 hs1 => ?_
  simp only [L_flurrylaw11_Start hs1.blk, L_flurrylaw11_Start__Root hs1.blk, L_flurrylaw11_Start__Height hs1.blk, L_flurrylaw11_Start__Most hs1.blk, nilc_some, fad_mk, pik_true, pik_false, cnd_true, cnd_false, gif_same, gif_tf, gif_ft, gif_undef, bi_add, bi_sub, bi_mul, bi_eql, bi_neq, bi_lss, bi_leq, bi_gtr, bi_geq, notB_bool, cvi_int, lenS_mk, lenT_mk, ext0, ext1, ext2, nilP_mk, nilS_mk, fldv_agg, jn0_k, jn1_k, jn2_k, jn1_and, jn1_or, ex_some, Option.isNone_some, Option.isNone_none, Bool.false_bne, Bool.bne_true, Bool.bne_false, Bool.true_bne, Bool.not_true, Bool.not_false, Bool.and_true, Bool.true_and, Bool.and_false, Bool.false_and, Bool.or_true, Bool.true_or, Bool.or_false, Bool.false_or, cond_true, cond_false, List.getElem?_toArray, List.getElem?_cons_zero, List.getElem?_cons_succ, Nat.zero_add, Nat.add_zero, Nat.reduceAdd, forall_const]
  refine cal_i (tNew_spec q.1 q.2.1 q.2.2) ?_
  rintro _ w2 (⟨hno, rfl, hf2⟩ | ⟨hq, g, gm, rfl, hs2⟩)
  · simp only [nilc_some, fad_mk, pik_true, pik_false, cnd_true, cnd_false, gif_same, gif_tf, gif_ft, gif_undef, bi_add, bi_sub, bi_mul, bi_eql, bi_neq, bi_lss, bi_leq, bi_gtr, bi_geq, notB_bool, cvi_int, lenS_mk, lenT_mk, ext0, ext1, ext2, nilP_mk, nilS_mk, fldv_agg, jn0_k, jn1_k, jn2_k, jn1_and, jn1_or, ex_some, Option.isNone_some, Option.isNone_none, Bool.false_bne, Bool.bne_true, Bool.bne_false, Bool.true_bne, Bool.not_true, Bool.not_false, Bool.and_true, Bool.true_and, Bool.and_false, Bool.false_and, Bool.or_true, Bool.true_or, Bool.or_false, Bool.false_or, cond_true, cond_false, List.getElem?_toArray, List.getElem?_cons_zero, List.getElem?_cons_succ, Nat.zero_add, Nat.add_zero, Nat.reduceAdd, forall_const, show ((1 : Int) != 0) = true from rfl]
    exact hR _ _ (.inl ⟨rfl, hno, (hs1.old hf2).fr0⟩)
  replace hs2 := hs1.join hs2
  obtain ⟨t, ht⟩ : ∃ t : Tr, t = ⟨q.1, q.2.1, q.2.2⟩ := ⟨_, rfl⟩
  rw [← ht] at hs2 hR
  have e1 : q.1 = t.root := by rw [ht]
  have e2 : q.2.1 = t.ht := by rw [ht]
  have ht0 : 0 ≤ t.ht := by rw [← e2]; exact hq.1
  simp only [nilc_some, fad_mk, pik_true, pik_false, cnd_true, cnd_false, gif_same, gif_tf, gif_ft, gif_undef, bi_add, bi_sub, bi_mul, bi_eql, bi_neq, bi_lss, bi_leq, bi_gtr, bi_geq, notB_bool, cvi_int, lenS_mk, lenT_mk, ext0, ext1, ext2, nilP_mk, nilS_mk, fldv_agg, jn0_k, jn1_k, jn2_k, jn1_and, jn1_or, ex_some, Option.isNone_some, Option.isNone_none, Bool.false_bne, Bool.bne_true, Bool.bne_false, Bool.true_bne, Bool.not_true, Bool.not_false, Bool.and_true, Bool.true_and, Bool.and_false, Bool.false_and, Bool.or_true, Bool.true_or, Bool.or_false, Bool.false_or, cond_true, cond_false, List.getElem?_toArray, List.getElem?_cons_zero, List.getElem?_cons_succ, Nat.zero_add, Nat.add_zero, Nat.reduceAdd, forall_const, show ((0 : Int) != 0) = false from rfl, Option.isNone_some]
  replace hs2 : Sep w w2 (trH g gm (.slice none 0 0) t [] 0 ++ [blk g2 (Rdr.cells Q_flurrylaw11_Start q).toArray T_flurrylaw11_Start]) := hs2
  refine drH_S hs2 fun w3 hs3 _ => ?_
  refine ⟨fun x y z => GState w z t [] g gm x y [blk g2 (Rdr.cells Q_flurrylaw11_Start q).toArray T_flurrylaw11_Start], ?_, ?_⟩
  · refine ⟨kv t.root, fun u hu => by rw [← e1]; exact (L_flurrylaw11_Start__Root (Sep.blk (Sep.p3 hu)) _).mpr rfl, ?_⟩
    refine rdS_ld (v := .int .i64 t.ht) (fun u hu K hk => by rw [← e2] at hk; exact (L_flurrylaw11_Start__Height (Sep.blk (Sep.p3 hu)) K).mpr hk) ?_
    refine two_lit hs3 fun x y z hz => ?_
    exact ⟨[], .slice none 0 0, 0, [], TI.nil ht0, .nil, by simp, Dat.nil _, Sep.pick hz [2, 3, 4, 0, 1, 5] 6⟩
  rintro x0 y0 w4 hg0 _
  clear hs3 hs2
  simp only [hr.len]
  refine ⟨fun x y z w' => ∃ i : Nat, z = .int .i64 i ∧ i ≤ l.length ∧ GState w w' t (l.take i) g gm x y [blk g2 (Rdr.cells Q_flurrylaw11_Start q).toArray T_flurrylaw11_Start], fun _ _ z _ => (l.length - RowKit.intOf z).toNat, ⟨0, rfl, by omega, by simpa using hg0⟩, ?_⟩
  rintro x y _ w5 ⟨i, rfl, hi, N, ov, c, Ds, hTI, hG, hN, hD, hs5⟩ -
  rw [List.length_take] at hN
  simp only [nilc_some, fad_mk, pik_true, pik_false, cnd_true, cnd_false, gif_same, gif_tf, gif_ft, gif_undef, bi_add, bi_sub, bi_mul, bi_eql, bi_neq, bi_lss, bi_leq, bi_gtr, bi_geq, notB_bool, cvi_int, lenS_mk, lenT_mk, ext0, ext1, ext2, nilP_mk, nilS_mk, fldv_agg, jn0_k, jn1_k, jn2_k, jn1_and, jn1_or, ex_some, Option.isNone_some, Option.isNone_none, Bool.false_bne, Bool.bne_true, Bool.bne_false, Bool.true_bne, Bool.not_true, Bool.not_false, Bool.and_true, Bool.true_and, Bool.and_false, Bool.false_and, Bool.or_true, Bool.true_or, Bool.or_false, Bool.false_or, cond_true, cond_false, List.getElem?_toArray, List.getElem?_cons_zero, List.getElem?_cons_succ, Nat.zero_add, Nat.add_zero, Nat.reduceAdd, forall_const]
  rw [cnd_bool]
  refine ⟨fun h => ?_, fun h => ?_⟩
  case refine_2 =>
    have hge : i = l.length := by simp at h; omega
    rw [hge, List.take_of_length_le (Nat.le_refl _)] at hG
    exact hR _ _ (.inr ⟨hq, g, gm, x, y, rfl, N, ov, c, _, hTI, hG, by omega, hD.sub (Bs := blk g2 (Rdr.cells Q_flurrylaw11_Start q).toArray T_flurrylaw11_Start :: Ds) (fun A hA => List.mem_cons_of_mem _ hA), hs5⟩)
  have hlt : i < l.length := by simp at h; omega
  obtain ⟨a, ha⟩ : ∃ a, l[i]? = some a := ⟨_, List.getElem?_eq_getElem hlt⟩
  have ham := List.mem_of_getElem? ha
  have hak := hok a ham
  have ha' : (l.map GA.t)[i]? = some a.t := by rw [List.getElem?_map, ha]; rfl
  have htk : l.take (i + 1) = l.take i ++ [a] := by rw [List.take_add_one, ha]; rfl
  refine ⟨fun x y w' => GState w w' t (l.take (i + 1)) g gm x y [blk g2 (Rdr.cells Q_flurrylaw11_Start q).toArray T_flurrylaw11_Start], ?_, ?_⟩
  case refine_2 =>
    rintro x' y' w6 hg6 _
    rw [wi64 (by omega) (by omega)]
    exact ⟨⟨i + 1, by simp, by omega, hg6⟩, by simp [RowKit.intOf]; omega⟩
  change ixs 37 _ _ _
  refine Rows'.ldN (q := Q_flurrylaw11_Grow) (by decide) (hr.rw.fr hs5.fr0) ha' .i64 ?_
  refine alloc_s hs5 (A_flurrylaw11_Grow w5) fun g11 w6 hs6 => ?_
  have hd6 := (hr.fr hs6.fr0).d a ham
  refine St_flurrylaw11_Grow hs6 (one_flurrylaw11_Grow hd6.1.one hd6.2.one) fun w7 hs7 => ?_
  have hd7 := (hr.fr hs7.fr0).d a ham
  have hb2 := Sep.blk (Sep.pick hs7 [6] 7)
  simp only [L_flurrylaw11_Start hb2, L_flurrylaw11_Start__Root hb2, L_flurrylaw11_Start__Height hb2, L_flurrylaw11_Start__Most hb2, L_flurrylaw11_Grow (Sep.blk hs7), L_flurrylaw11_Grow__K (Sep.blk hs7), L_flurrylaw11_Grow__Data (Sep.blk hs7), L_flurrylaw11_Grow__Raw (Sep.blk hs7), L_flurrylaw11_Grow__B (Sep.blk hs7), L_flurrylaw11_Grow__B_Parent (Sep.blk hs7), L_flurrylaw11_Grow__B_Height (Sep.blk hs7), L_flurrylaw11_Grow__B_Data (Sep.blk hs7)]
  obtain ⟨b, hb⟩ : ∃ b, b = bG (idsT t N) (htsT t N) a := ⟨_, rfl⟩
  refine cal_i (block11_spec (ids := idsT t N) (hs := htsT t N) (Sep.rows (Sep.p4 hs7)) (Sep.rows (Sep.p5 hs7)) (by simp) (by simp) (by simp; omega) hd7 (hts_nonneg hTI) hak.1) ?_
  rintro _ w8 ⟨rfl, hf8⟩
  have hs8 := hs7.old hf8
  rw [← hb]
  have hbd : RdB w8.heap a.v b.d := by
    rw [hb]
    exact bG_rd ((hr.fr hs8.fr0).d a ham)
  have hbh : b.h ≤ maxI := by rw [hb]; exact bG_h hak.2.1
  refine alloc_s hs8 (A_api_Block w8) fun g12 w9 hs9 => ?_
  refine St_api_Block hs9 (one_api_Block hbd.one) fun w10 hs10 => ?_
  simp only [L_api_Block (Sep.blk hs10), L_api_Block__Parent (Sep.blk hs10), L_api_Block__Height (Sep.blk hs10), L_api_Block__Data (Sep.blk hs10)]
  have hbd10 : RdB w10.heap a.v b.d := by
    rw [hb]
    exact bG_rd ((hr.fr hs10.fr0).d a ham)
  refine cal_i (Add_spec (Sep.pick hs10 [2, 3, 4, 0, 1, 5, 6, 7] 8) (hD.sub (Bs := _ :: _ :: _ :: _ :: _ :: Ds) fun A hA => by simp [hA]) hTI.w (hC.fr hs10.fr0) hbd10 hbh (by omega)) ?_
  rintro _ w11 (⟨he, rfl, hs11⟩ | ⟨he, rfl, ov', vd, hs11⟩)
  · have he' : (addE t N b == 0) = false := by simpa using he
    simp only [nilc_some, fad_mk, pik_true, pik_false, cnd_true, cnd_false, gif_same, gif_tf, gif_ft, gif_undef, bi_add, bi_sub, bi_mul, bi_eql, bi_neq, bi_lss, bi_leq, bi_gtr, bi_geq, notB_bool, cvi_int, lenS_mk, lenT_mk, ext0, ext1, ext2, nilP_mk, nilS_mk, fldv_agg, jn0_k, jn1_k, jn2_k, jn1_and, jn1_or, ex_some, Option.isNone_some, Option.isNone_none, Bool.false_bne, Bool.bne_true, Bool.bne_false, Bool.true_bne, Bool.not_true, Bool.not_false, Bool.and_true, Bool.true_and, Bool.and_false, Bool.false_and, Bool.or_true, Bool.true_or, Bool.or_false, Bool.false_or, cond_true, cond_false, List.getElem?_toArray, List.getElem?_cons_zero, List.getElem?_cons_succ, Nat.zero_add, Nat.add_zero, Nat.reduceAdd, forall_const, he']
    refine alloc_s hs11 (A_api_ID w11) fun g13 w12 hs12 => ?_
    refine St_api_ID hs12 fun w13 hs13 => ?_
    refine ⟨N, ov, c, _, hTI, ?_, by rw [htk]; simp; omega, hD, Sep.pick hs13 [1, 2, 3, 6, 7, 8] 9⟩
    rw [htk]
    exact .snoc hG (.inr ⟨by rw [← hb]; exact he, rfl⟩)
  · simp only [nilc_some, fad_mk, pik_true, pik_false, cnd_true, cnd_false, gif_same, gif_tf, gif_ft, gif_undef, bi_add, bi_sub, bi_mul, bi_eql, bi_neq, bi_lss, bi_leq, bi_gtr, bi_geq, notB_bool, cvi_int, lenS_mk, lenT_mk, ext0, ext1, ext2, nilP_mk, nilS_mk, fldv_agg, jn0_k, jn1_k, jn2_k, jn1_and, jn1_or, ex_some, Option.isNone_some, Option.isNone_none, Bool.false_bne, Bool.bne_true, Bool.bne_false, Bool.true_bne, Bool.not_true, Bool.not_false, Bool.and_true, Bool.true_and, Bool.and_false, Bool.false_and, Bool.or_true, Bool.true_or, Bool.or_false, Bool.false_or, cond_true, cond_false, List.getElem?_toArray, List.getElem?_cons_zero, List.getElem?_cons_succ, Nat.zero_add, Nat.add_zero, Nat.reduceAdd, forall_const, show ((0 : Int) == 0) = true from rfl]
    refine alloc_s hs11 (A_api_ID w11) fun g13 w12 hs12 => ?_
    refine St_api_ID hs12 fun w13 hs13 => ?_
    have hs14 := Sep.pick hs13 [7, 8, 0, 5, 1, 2, 3, 9, 4] 10
    refine ⟨fun u => Sep w u _, (hs14.drew _).tail.tail, ?_⟩
    refine ⟨fun x y w' => GState w w' t (l.take (i + 1)) g gm x y [blk g2 (Rdr.cells Q_flurrylaw11_Start q).toArray T_flurrylaw11_Start], ?_, fun _ _ _ h _ => h⟩
    refine ⟨kv b.id, fun u hu => (L_api_ID (Sep.blk hu) _).mpr rfl, ?_⟩
    refine rdS_ld (v := .int .i64 b.h) (fun u hu K hk => (L_api_Block__Height (Sep.blk (Sep.p1 hu)) K).mpr hk) ?_
    refine three_app (hs14.drew _) (by simp; omega) (by simp; omega) fun x' y' z hz => ?_
    refine ⟨N ++ [(b.id, b, vd, c)], ov', c + 1, ownB vd b.d :: Ds, hTI.add he hbh, ?_, ?_, hD.add, ?_⟩
    · rw [htk]
      refine .snoc hG (.inl ⟨by rw [← hb]; exact he, vd, c, by rw [← hb]⟩)
    · rw [htk]; simp; omega
    · have e3 : idsT t (N ++ [(b.id, b, vd, c)]) = idsT t N ++ [b.id] := by simp [idsT, nms]
      have e4 : htsT t (N ++ [(b.id, b, vd, c)]) = htsT t N ++ [b.h] := by simp [htsT, hts]
      rw [e3, e4]
      exact Sep.pick hz [4, 5, 6, 0, 1, 7, 8] 9
end
end Go.Fx
set_option linter.unusedVariables false
set_option linter.unusedSimpArgs false
namespace Go.Fx
theorem sha_one (l : List UInt8) (h : l.length ≤ 55) : shaL l = mixM firstL (padT l l.length) := by
  have hl : (padT l l.length).length = 64 := by
    unfold padT
    simp only [List.length_append, List.length_replicate, List.length_singleton, be_length]
    unfold zer
    omega
  unfold shaL
  rw [foldM_step (by omega), foldM_end (by simp; omega), List.take_of_length_le (by omega)]
def m9 : Vec 32 := ⟨9 :: List.replicate 31 0, by decide⟩
def lvA : Blk := ⟨m9, 6, [97]⟩
def idA : Vec 32 := ⟨[67, 39, 141, 81, 246, 83, 79, 6, 40, 223, 135, 236, 211, 115, 176, 19, 55, 210, 91, 149, 6, 245, 200, 180, 169, 100, 228, 135, 198, 24, 95, 43], by decide⟩
def lvB : Blk := ⟨idA, 7, [98]⟩
def lvC : Blk := ⟨idA, 7, [99]⟩
def idB : Vec 32 := ⟨[147, 119, 58, 83, 182, 167, 131, 124, 211, 15, 112, 102, 130, 220, 165, 59, 169, 25, 175, 45, 116, 77, 28, 179, 5, 86, 188, 71, 13, 37, 213, 167], by decide⟩
def idC : Vec 32 := ⟨[150, 100, 167, 111, 206, 192, 32, 21, 224, 157, 217, 164, 220, 246, 33, 96, 27, 245, 88, 202, 230, 34, 255, 189, 35, 20, 103, 102, 42, 175, 17, 156], by decide⟩
set_option maxRecDepth 1000000 in
theorem idA_eq : lvA.id = idA := by
  apply Subtype.ext
  show (shaL lvA.bytes).flatMap wOut = _
  rw [sha_one _ (by decide +kernel)]
  decide +kernel
set_option maxRecDepth 1000000 in
theorem idB_eq : lvB.id = idB := by
  apply Subtype.ext
  show (shaL lvB.bytes).flatMap wOut = _
  rw [sha_one _ (by decide +kernel)]
  decide +kernel
set_option maxRecDepth 1000000 in
theorem idC_eq : lvC.id = idC := by
  apply Subtype.ext
  show (shaL lvC.bytes).flatMap wOut = _
  rw [sha_one _ (by decide +kernel)]
  decide +kernel
/-- An Add's error, by the name. -/
def addV (t : Tr) (N : List TN) (b : Blk) (k : Vec 32) : Int :=
  if b.chk ≠ 0 then b.chk else if has t N k = true then 110 else if has t N b.p = false ∨ b.h < 1 ∨ b.h - 1 ≠ levH t N b.p then 31 else if t.most ≤ N.length then 6 else 0
theorem addE_V {t : Tr} {N : List TN} {b : Blk} {k : Vec 32} (h : b.id = k) : addE t N b = addV t N b k := by subst h; rfl
def lvT : Tr := ⟨m9, 5, 9⟩
theorem lv1 : addV lvT [] lvA idA = 0 := by kernel_rfl
theorem lv2 (v1 : Value) (c1 : Nat) : addV lvT [(idA, lvA, v1, c1)] lvB idB = 0 := by kernel_rfl
theorem lv3 (v1 v2 : Value) (c1 c2 : Nat) : addV lvT [(idA, lvA, v1, c1), (idB, lvB, v2, c2)] lvC idC = 0 := by kernel_rfl
abbrev lvN (v1 v2 v3 : Value) (c1 c2 c3 : Nat) : List TN := [(idA, lvA, v1, c1), (idB, lvB, v2, c2), (idC, lvC, v3, c3)]
theorem lvPath (v1 v2 v3 : Value) (c1 c2 c3 : Nat) : pathOf lvT (lvN v1 v2 v3 c1 c2 c3) idB = [idA, idB] := by kernel_rfl
theorem lvUnder (v1 v2 v3 : Value) (c1 c2 c3 : Nat) : (nms (lvN v1 v2 v3 c1 c2 c3)).filter (fun x => under lvT (lvN v1 v2 v3 c1 c2 c3) x idA) = [idA, idB, idC] := by kernel_rfl
theorem lvOk (v1 v2 v3 : Value) (c1 c2 c3 : Nat) : mvOk lvT (lvN v1 v2 v3 c1 c2 c3) idA = true := by kernel_rfl
theorem lvGone (v1 v2 v3 : Value) (c1 c2 c3 : Nat) : mvGone lvT (lvN v1 v2 v3 c1 c2 c3) idA = [] := by kernel_rfl
theorem lvMv (v1 v2 v3 : Value) (c1 c2 c3 : Nat) : mvN lvT (lvN v1 v2 v3 c1 c2 c3) idA = [(idB, lvB, v2, c2), (idC, lvC, v3, c3)] := by kernel_rfl
def lvX (k : Nat) (d : List UInt8) (v : Value) : GA := ⟨k, d, v, false, Blk.none, .slice none 0 0⟩
theorem lvX_ok {k : Nat} {d : List UInt8} {v : Value} (hk : k < 256) (hd : d.length ≤ 100) : (lvX k d v).k < 256 ∧ (lvX k d v).b.h ≤ maxI ∧ (lvX k d v).d.length ≤ 9223372036854775807 ∧ (lvX k d v).b.d.length ≤ 9223372036854775807 :=
  ⟨hk, (by decide : (0 : Int) ≤ maxI), Nat.le_trans hd (by decide), Nat.zero_le _⟩
theorem lv_grown {a b c : Value} {N : List TN} (h : GrownTo lvT [lvX 0 [97] a, lvX 1 [98] b, lvX 1 [99] c] N) : ∃ v1 v2 v3 c1 c2 c3, N = lvN v1 v2 v3 c1 c2 c3 := by
  obtain ⟨N2, h2, hs3⟩ := GrownTo.inv (l := [lvX 0 [97] a, lvX 1 [98] b]) h
  obtain ⟨N1, h1, hs2⟩ := GrownTo.inv (l := [lvX 0 [97] a]) h2
  obtain ⟨N0, h0, hs1⟩ := GrownTo.inv (l := []) h1
  have hN0 : N0 = [] := by
    generalize hm : ([] : List GA) = m at h0
    cases h0 with
    | nil => rfl
    | snoc => simp at hm
  subst hN0
  have b1 : bG (idsT lvT []) (htsT lvT []) (lvX 0 [97] a) = lvA := rfl
  unfold growStep at hs1
  rw [b1, addE_V idA_eq, lv1, idA_eq] at hs1
  obtain ⟨v1, c1, rfl⟩ := (hs1.resolve_right fun h => h.1 rfl).2
  have b2 : bG (idsT lvT ([] ++ [(idA, lvA, v1, c1)])) (htsT lvT ([] ++ [(idA, lvA, v1, c1)])) (lvX 1 [98] b) = lvB := rfl
  unfold growStep at hs2
  rw [b2, addE_V idB_eq, idB_eq] at hs2
  simp only [List.nil_append, lv2] at hs2
  obtain ⟨v2, c2, rfl⟩ := (hs2.resolve_right fun h => h.1 rfl).2
  have b3 : bG (idsT lvT ([(idA, lvA, v1, c1)] ++ [(idB, lvB, v2, c2)])) (htsT lvT ([(idA, lvA, v1, c1)] ++ [(idB, lvB, v2, c2)])) (lvX 1 [99] c) = lvC := rfl
  unfold growStep at hs3
  rw [b3, addE_V idC_eq, idC_eq] at hs3
  simp only [List.cons_append, List.nil_append, lv3] at hs3
  obtain ⟨v3, c3, rfl⟩ := (hs3.resolve_right fun h => h.1 rfl).2
  exact ⟨v1, v2, v3, c1, c2, c3, rfl⟩
section
variable {w0 w : World} {As : List Asn}
theorem B_ID9 {w : World} (K : Value → Prop) : rdP P (Instr.build T_api_ID #[(0, .int .u8 9)]) w K = K (kv m9) := rd_build (r := rVec 32) (a := m9) (by kernel_rfl) K
theorem Rows'.sub {α : Type} {q : Rdr α} {h : Heap} {a : Option Addr} {n c i j : Nat} {l : List α} (hr : Rows' q h (.slice a n c) l) (hi : i ≤ j) (hj : j ≤ l.length) (hc : l.length ≤ c) (c' : Nat) : Rows' q h (.slice (if c = i then a else a.map (·.add (i * q.size))) (j - i) c') ((l.drop i).take (j - i)) := by
  have h1 := Rows'.drop hr (k := i) (by omega) hc (c - i)
  exact Rows'.take h1 (k := j - i) (by simp; omega) c'
theorem live11_spec (hC : Cub w) : cal P f_law11_live [] w fun r w' => r = .bool true ∧ Fr [] w w' := by
  refine s_law11_live fun R hR => ?_
  unfold c_law11_live
  rw [B_ID9, B_flurrylaw11_Start_0_1_2]
  have hb : ∀ (x : UInt8) (w : World), (Instr.buildSlice T_sl_uint8 1 #[(0, bv x)]).run P w = .ok (.slice (some ⟨w.heap.size, 0, none⟩) 1 1) (w.alloc (.cells (bvs [x]).toArray T_uint8)) := fun x w => by kernel_rfl
  refine lit_s (l := [97]) (Sep.start w) U_sl_uint8 U_uint8 rfl (hb 97 w) fun g1 w1 hs1 => ?_
  rw [B_flurrylaw11_Grow_1 rfl]
  refine lit_s (l := [98]) hs1 U_sl_uint8 U_uint8 rfl (hb 98 w1) fun g2 w2 hs2 => ?_
  rw [B_flurrylaw11_Grow_0_1 rfl]
  refine lit_s (l := [99]) hs2 U_sl_uint8 U_uint8 rfl (hb 99 w2) fun g3 w3 hs3 => ?_
  rw [B_flurrylaw11_Grow_0_1 rfl]
  obtain ⟨x1, hx1⟩ : ∃ x1, x1 = lvX 0 [97] (.slice (some ⟨g1, 0, none⟩) 1 1) := ⟨_, rfl⟩
  obtain ⟨x2, hx2⟩ : ∃ x2, x2 = lvX 1 [98] (.slice (some ⟨g2, 0, none⟩) 1 1) := ⟨_, rfl⟩
  obtain ⟨x3, hx3⟩ : ∃ x3, x3 = lvX 1 [99] (.slice (some ⟨g3, 0, none⟩) 1 1) := ⟨_, rfl⟩
  refine rows_lit (q := Q_flurrylaw11_Grow) hs3 S_sl_flurrylaw11_Grow (l := [x1.t, x2.t, x3.t]) (V := fun a => .agg (Rdr.cells Q_flurrylaw11_Grow a).toArray) (fun a => rfl) (by rw [hx1, hx2, hx3]; rfl) rfl (by decide) (by decide) fun g4 w4 hs4 => ?_
  have hG : GRows w4.heap (.slice (some ⟨g4, 0, none⟩) 3 3) [x1, x2, x3] := by
    refine ⟨Sep.rows hs4, fun x hx => ?_⟩
    rcases List.mem_cons.1 hx with rfl | hx
    · rw [hx1]; exact ⟨Sep.rda hs4.p3, RdB.nil _ 0⟩
    rcases List.mem_cons.1 hx with rfl | hx
    · rw [hx2]; exact ⟨Sep.rda hs4.p2, RdB.nil _ 0⟩
    · obtain rfl : x = x3 := by simpa using hx
      rw [hx3]; exact ⟨Sep.rda hs4.p1, RdB.nil _ 0⟩
  have hok : GOk [x1, x2, x3] := fun x hx => by
    rcases List.mem_cons.1 hx with rfl | hx
    · rw [hx1]; exact lvX_ok (by decide) (by decide)
    rcases List.mem_cons.1 hx with rfl | hx
    · rw [hx2]; exact lvX_ok (by decide) (by decide)
    · obtain rfl : x = x3 := by simpa using hx
      rw [hx3]; exact lvX_ok (by decide) (by decide)
  refine cal_i (grown_spec (q := (m9, 5, 9)) (hC.fr hs4.fr0) hG hok (by simp)) ?_
  rintro _ w5 (⟨_, hno, _⟩ | ⟨_, g, gm, x, y, rfl, N, ov, c, Ds, hTI, hGr, _, hD, hs5⟩)
  · exact absurd (by decide) hno
  rw [hx1, hx2, hx3] at hGr
  obtain ⟨v1, v2, v3, c1, c2, c3, hN⟩ := lv_grown hGr
  change TI lvT N at hTI
  change Sep w4 w5 (trH g gm ov lvT N c ++ (rows (rVec 32) x (idsT lvT N) :: rows (rInt .i64) y (htsT lvT N) :: Ds)) at hs5
  have eN : idsT lvT N = [m9, idA, idB, idC] := by rw [hN]; rfl
  rw [eN] at hs5
  obtain ⟨a, cp, hx, hac⟩ := Sep.formR (Sep.p3 hs5)
  simp only [List.length_cons, List.length_nil, Nat.zero_add, Nat.reduceAdd] at hx hac
  have hlen : lenS x = fun K => K (.int .i64 4) := by
    funext K
    have := (Sep.rows (Sep.p3 hs5)).len K
    simpa using this
  have hD' : Dat N (rows (rVec 32) x [m9, idA, idB, idC] :: rows (rInt .i64) y (htsT lvT N) :: Ds) := fun z hz => List.mem_cons_of_mem _ (List.mem_cons_of_mem _ (hD z hz))
  simp only [nilc_some, fad_mk, pik_true, pik_false, cnd_true, cnd_false, gif_same, gif_tf, gif_ft, gif_undef, bi_add, bi_sub, bi_mul, bi_eql, bi_neq, bi_lss, bi_leq, bi_gtr, bi_geq, notB_bool, cvi_int, lenS_mk, lenT_mk, ext0, ext1, ext2, nilP_mk, nilS_mk, fldv_agg, jn0_k, jn1_k, jn2_k, jn1_and, jn1_or, ex_some, Option.isNone_some, Option.isNone_none, Bool.false_bne, Bool.bne_true, Bool.bne_false, Bool.true_bne, Bool.not_true, Bool.not_false, Bool.and_true, Bool.true_and, Bool.and_false, Bool.false_and, Bool.or_true, Bool.true_or, Bool.or_false, Bool.false_or, cond_true, cond_false, List.getElem?_toArray, List.getElem?_cons_zero, List.getElem?_cons_succ, Nat.zero_add, Nat.add_zero, Nat.reduceAdd, forall_const, Option.isNone_some]
  refine drH_S hs5 fun w6 hs6 _ => ?_
  simp only [nilc_some, fad_mk, pik_true, pik_false, cnd_true, cnd_false, gif_same, gif_tf, gif_ft, gif_undef, bi_add, bi_sub, bi_mul, bi_eql, bi_neq, bi_lss, bi_leq, bi_gtr, bi_geq, notB_bool, cvi_int, lenS_mk, lenT_mk, ext0, ext1, ext2, nilP_mk, nilS_mk, fldv_agg, jn0_k, jn1_k, jn2_k, jn1_and, jn1_or, ex_some, Option.isNone_some, Option.isNone_none, Bool.false_bne, Bool.bne_true, Bool.bne_false, Bool.true_bne, Bool.not_true, Bool.not_false, Bool.and_true, Bool.true_and, Bool.and_false, Bool.false_and, Bool.or_true, Bool.true_or, Bool.or_false, Bool.false_or, cond_true, cond_false, List.getElem?_toArray, List.getElem?_cons_zero, List.getElem?_cons_succ, Nat.zero_add, Nat.add_zero, Nat.reduceAdd, forall_const, hlen, show ((4 : Int) != 4) = false from rfl]
  refine jn1_dup ?_
  have hxr : ∀ {z : World}, Sep w4 z (trH g gm ov lvT N c ++ (rows (rVec 32) x [m9, idA, idB, idC] :: rows (rInt .i64) y (htsT lvT N) :: Ds)) → Rows' (rVec 32) z.heap x [m9, idA, idB, idC] := fun {z} hz => Sep.rows (Sep.p3 hz)
  change ixs 32 _ (.int .i64 ((2 : Nat) : Int)) _
  refine rdS_rowV (q := rVec 32) (by decide) hs6 (fun u hu => hxr hu) (j := 2) (a := idB) rfl .i64 ?_
  have e13 : ∀ K, slc 32 x (some (.int .i64 1)) (some (.int .i64 3)) K = K (.slice (if cp = 1 then a else a.map (·.add (1 * 32))) 2 (cp - 1)) := fun K => by
    rw [hx]; exact slc_mid (i := 1) (j := 3) (by omega) (by omega) K
  have e1 : ∀ K, slc 32 x (some (.int .i64 1)) none K = K (.slice (if cp = 1 then a else a.map (·.add (1 * 32))) 3 (cp - 1)) := fun K => by
    rw [hx]; exact slc_from (j := 1) (by omega) K
  rw [e13]
  have r13 : ∀ {z : World}, Sep w4 z (trH g gm ov lvT N c ++ (rows (rVec 32) x [m9, idA, idB, idC] :: rows (rInt .i64) y (htsT lvT N) :: Ds)) → Rows' (rVec 32) z.heap (.slice (if cp = 1 then a else a.map (·.add (1 * 32))) 2 (cp - 1)) [idA, idB] := fun {z} hz => by
    have h1 := hxr hz
    rw [hx] at h1
    exact Rows'.sub h1 (i := 1) (j := 3) (by omega) (by simp) (by simp; omega) (cp - 1)
  have r1 : ∀ {z : World}, Sep w4 z (trH g gm ov lvT N c ++ (rows (rVec 32) x [m9, idA, idB, idC] :: rows (rInt .i64) y (htsT lvT N) :: Ds)) → Rows' (rVec 32) z.heap (.slice (if cp = 1 then a else a.map (·.add (1 * 32))) 3 (cp - 1)) [idA, idB, idC] := fun {z} hz => by
    have h1 := hxr hz
    rw [hx] at h1
    exact Rows'.drop h1 (k := 1) (by simp) (by simp; omega) (cp - 1)
  have hhb : hgt lvT N idB ≤ 1000000 := by
    have h1 := hTI.hb idB (mem_has (.inr (by rw [hN]; simp [lvN])))
    have h2 : N.length = 3 := by rw [hN]; rfl
    omega
  refine efS_i (cal_i (Path_spec (trH_rd hs6 hD') hTI.w idB hhb) ?_)
  rintro pv w7 hs7
  have hpb : pathOf lvT N idB = [idA, idB] := by rw [hN]; exact lvPath _ _ _ _ _ _
  rw [hpb] at hs7
  have hs7' := hs6.join hs7
  refine ⟨Sep.tail hs7', ?_⟩
  refine efS_i (cal_i (idsEqual_spec (Sep.rows hs7') (r13 (Sep.tail hs7')) (by simp)) ?_)
  rintro _ w8 ⟨rfl, hf8⟩
  have hs8 := (Sep.tail hs7').old hf8
  refine ⟨hs8, ?_⟩
  simp only [nilc_some, fad_mk, pik_true, pik_false, cnd_true, cnd_false, gif_same, gif_tf, gif_ft, gif_undef, bi_add, bi_sub, bi_mul, bi_eql, bi_neq, bi_lss, bi_leq, bi_gtr, bi_geq, notB_bool, cvi_int, lenS_mk, lenT_mk, ext0, ext1, ext2, nilP_mk, nilS_mk, fldv_agg, jn0_k, jn1_k, jn2_k, jn1_and, jn1_or, ex_some, Option.isNone_some, Option.isNone_none, Bool.false_bne, Bool.bne_true, Bool.bne_false, Bool.true_bne, Bool.not_true, Bool.not_false, Bool.and_true, Bool.true_and, Bool.and_false, Bool.false_and, Bool.or_true, Bool.true_or, Bool.or_false, Bool.false_or, cond_true, cond_false, List.getElem?_toArray, List.getElem?_cons_zero, List.getElem?_cons_succ, Nat.zero_add, Nat.add_zero, Nat.reduceAdd, forall_const, decide_true]
  refine jn1_dup ?_
  change ixs 32 _ (.int .i64 ((1 : Nat) : Int)) _
  refine rdS_rowV (q := rVec 32) (by decide) hs8 (fun u hu => hxr hu) (j := 1) (a := idA) rfl .i64 ?_
  rw [e1]
  refine efS_i (cal_i (Under_spec (trH_rd hs8 hD') hTI.w (by rw [hN]; simp) idA) ?_)
  rintro uv w9 hs9
  have hub : (N.map (·.1)).filter (fun x => under lvT N x idA) = [idA, idB, idC] := by rw [hN]; exact lvUnder _ _ _ _ _ _
  rw [hub] at hs9
  have hs9' := hs8.join hs9
  refine ⟨Sep.tail hs9', ?_⟩
  refine efS_i (cal_i (idsEqual_spec (Sep.rows hs9') (r1 (Sep.tail hs9')) (by simp)) ?_)
  rintro _ w10 ⟨rfl, hf10⟩
  have hs10 := (Sep.tail hs9').old hf10
  refine ⟨hs10, ?_⟩
  simp only [nilc_some, fad_mk, pik_true, pik_false, cnd_true, cnd_false, gif_same, gif_tf, gif_ft, gif_undef, bi_add, bi_sub, bi_mul, bi_eql, bi_neq, bi_lss, bi_leq, bi_gtr, bi_geq, notB_bool, cvi_int, lenS_mk, lenT_mk, ext0, ext1, ext2, nilP_mk, nilS_mk, fldv_agg, jn0_k, jn1_k, jn2_k, jn1_and, jn1_or, ex_some, Option.isNone_some, Option.isNone_none, Bool.false_bne, Bool.bne_true, Bool.bne_false, Bool.true_bne, Bool.not_true, Bool.not_false, Bool.and_true, Bool.true_and, Bool.and_false, Bool.false_and, Bool.or_true, Bool.true_or, Bool.or_false, Bool.false_or, cond_true, cond_false, List.getElem?_toArray, List.getElem?_cons_zero, List.getElem?_cons_succ, Nat.zero_add, Nat.add_zero, Nat.reduceAdd, forall_const, decide_true]
  change ixs 32 _ (.int .i64 ((1 : Nat) : Int)) _
  refine Rows'.ldN (q := rVec 32) (by decide) (hxr hs10) (j := 1) (a := idA) rfl .i64 ?_
  refine cal_i (Move_spec hs10 hD' hTI.w hTI.nd (by rw [hN]; simp) idA) ?_
  have hok2 : mvOk lvT N idA = true := by rw [hN]; exact lvOk _ _ _ _ _ _
  rintro _ w11 (⟨hno, _, _⟩ | ⟨_, gv, ov', rfl, hs11⟩)
  · rw [hok2] at hno; cases hno
  have eg : mvGone lvT N idA = [] := by rw [hN]; exact lvGone _ _ _ _ _ _
  rw [eg] at hs11
  have hglen : lenS gv = fun K => K (.int .i64 0) := by
    funext K
    have := (Sep.rows (Sep.p3 hs11)).len K
    simpa using this
  simp only [nilc_some, fad_mk, pik_true, pik_false, cnd_true, cnd_false, gif_same, gif_tf, gif_ft, gif_undef, bi_add, bi_sub, bi_mul, bi_eql, bi_neq, bi_lss, bi_leq, bi_gtr, bi_geq, notB_bool, cvi_int, lenS_mk, lenT_mk, ext0, ext1, ext2, nilP_mk, nilS_mk, fldv_agg, jn0_k, jn1_k, jn2_k, jn1_and, jn1_or, ex_some, Option.isNone_some, Option.isNone_none, Bool.false_bne, Bool.bne_true, Bool.bne_false, Bool.true_bne, Bool.not_true, Bool.not_false, Bool.and_true, Bool.true_and, Bool.and_false, Bool.false_and, Bool.or_true, Bool.true_or, Bool.or_false, Bool.false_or, cond_true, cond_false, List.getElem?_toArray, List.getElem?_cons_zero, List.getElem?_cons_succ, Nat.zero_add, Nat.add_zero, Nat.reduceAdd, forall_const, hglen, show ((0 : Int) == 0) = true from rfl]
  refine jn1_dup ?_
  have eM : (mvN lvT N idA).length = 2 := by rw [hN, lvMv]; rfl
  have hDM : Dat (mvN lvT N idA) (rows (rVec 32) gv [] :: rows (rVec 32) x [m9, idA, idB, idC] :: rows (rInt .i64) y (htsT lvT N) :: Ds) := fun z hz => by
    have hz' := (List.mem_filter.1 hz).1
    exact List.mem_cons_of_mem _ (hD' z hz')
  refine cal_i (Len_spec (trH_rd hs11 hDM) (by rw [eM]; omega)) ?_
  rintro _ _ ⟨rfl, rfl⟩
  rw [eM]
  simp only [nilc_some, fad_mk, pik_true, pik_false, cnd_true, cnd_false, gif_same, gif_tf, gif_ft, gif_undef, bi_add, bi_sub, bi_mul, bi_eql, bi_neq, bi_lss, bi_leq, bi_gtr, bi_geq, notB_bool, cvi_int, lenS_mk, lenT_mk, ext0, ext1, ext2, nilP_mk, nilS_mk, fldv_agg, jn0_k, jn1_k, jn2_k, jn1_and, jn1_or, ex_some, Option.isNone_some, Option.isNone_none, Bool.false_bne, Bool.bne_true, Bool.bne_false, Bool.true_bne, Bool.not_true, Bool.not_false, Bool.and_true, Bool.true_and, Bool.and_false, Bool.false_and, Bool.or_true, Bool.true_or, Bool.or_false, Bool.false_or, cond_true, cond_false, List.getElem?_toArray, List.getElem?_cons_zero, List.getElem?_cons_succ, Nat.zero_add, Nat.add_zero, Nat.reduceAdd, forall_const, show (((2 : Nat) : Int) == 2) = true from rfl]
  exact hR _ _ ⟨rfl, hs4.fr0.trans hs11.fr0 (by simp) (by simp)⟩
end
end Go.Fx
set_option linter.unusedVariables false
set_option linter.unusedSimpArgs false
namespace Go.Fx
/-- A tree to which blocks were added, and whose root was moved; no block is higher than m above the root. -/
structure TM (t : Tr) (N : List TN) (m : Nat) : Prop where
  w : TrW t N
  nd : (N.map (·.1)).Nodup
  hb : ∀ k, has t N k = true → hgt t N k ≤ m
  hi : ∀ x ∈ N, x.2.1.h ≤ maxI
  ht : 0 ≤ t.ht
section
variable {t : Tr} {N : List TN} {m : Nat}
theorem TI.tm (h : TI t N) : TM t N N.length := ⟨h.w, h.nd, h.hb, h.hi, h.ht⟩
theorem TM.mono {m' : Nat} (h : TM t N m) (hm : m ≤ m') : TM t N m' := ⟨h.w, h.nd, fun k hk => Nat.le_trans (h.hb k hk) hm, h.hi, h.ht⟩
theorem TM.nil (h : 0 ≤ t.ht) : TM t [] m := (TI.nil h).tm.mono (Nat.zero_le _)
theorem TM.add {b : Blk} {vd : Value} {c : Nat} (hi : TM t N m) (h : addE t N b = 0) (hm : b.h ≤ maxI) : TM t (N ++ [(b.id, b, vd, c)]) (m + 1) := by
  obtain ⟨h1, h2, h3, h4, h5, h6⟩ := addE_ok h
  have hnm : b.id ∉ N.map (·.1) := fun hm => by rw [mem_has (.inr hm)] at h2; cases h2
  have hnr : b.id ≠ t.root := fun he => by rw [mem_has (.inl he)] at h2; cases h2
  refine ⟨hi.w.add h, ?_, fun k hk => ?_, fun x hx => ?_, hi.ht⟩
  · rw [List.map_append, List.nodup_append]
    refine ⟨hi.nd, by simp, fun x hx y hy => ?_⟩
    simp only [List.map_cons, List.map_nil, List.mem_singleton] at hy
    subst hy
    intro he
    exact hnm (he ▸ hx)
  · by_cases hold : has t N k = true
    · have h7 := has_old (x := (b.id, b, vd, c)) hold
      have h8 := hi.hb k hold
      unfold hgt at h8 ⊢
      rw [h7.2]
      omega
    · have hk' : k = b.id := by
        rcases has_mem hk with rfl | hm'
        · exact absurd (mem_has (.inl rfl)) hold
        · rw [List.map_append, List.mem_append] at hm'
          rcases hm' with hm' | hm'
          · exact absurd (mem_has (.inr hm')) hold
          · simpa using hm'
      subst hk'
      have h8 := hi.hb _ h3
      have hl := lev_hgt hi.w h3
      have hb : blkOf b.id (N ++ [(b.id, b, vd, c)]) = some b := by
        rw [blkOf_snoc]
        have : blkOf b.id N = none := by
          unfold has at h2
          simp only [Bool.or_eq_false_iff] at h2
          simpa using h2.2
        rw [this]
        simp
      have : levH t (N ++ [(b.id, b, vd, c)]) b.id = b.h := by
        unfold levH
        rw [if_neg hnr, hb]
      unfold hgt
      rw [this, h5, hl]
      omega
  · rcases List.mem_append.1 hx with hx | hx
    · exact hi.hi x hx
    · obtain rfl : x = (b.id, b, vd, c) := by simpa using hx
      exact hm
theorem nodeOf_filter (p : Vec 32 → Bool) (k : Vec 32) : ∀ N : List TN, nodeOf k (N.filter fun x => p x.1) = if p k = true then nodeOf k N else none
  | [] => by simp [nodeOf]
  | x :: N => by
    have ih := nodeOf_filter p k N
    unfold nodeOf at ih ⊢
    by_cases hk : k = x.1
    · subst hk
      by_cases hp : p x.1 = true
      · rw [List.filter_cons_of_pos (p := fun x : TN => p x.1) hp, if_pos hp]
        simp
      · rw [List.filter_cons_of_neg (p := fun x : TN => p x.1) hp, ih, if_neg hp, if_neg hp]
    · rw [List.find?_cons_of_neg (by simpa using hk), ← ih]
      by_cases hp : p x.1 = true
      · rw [List.filter_cons_of_pos (p := fun x : TN => p x.1) hp, List.find?_cons_of_neg (by simpa using hk)]
      · rw [List.filter_cons_of_neg (p := fun x : TN => p x.1) hp]
theorem blkOf_filter (p : Vec 32 → Bool) (k : Vec 32) (N : List TN) : blkOf k (N.filter fun x => p x.1) = if p k = true then blkOf k N else none := by
  unfold blkOf
  rw [nodeOf_filter]
  split <;> rfl
theorem nb_filter (p : Vec 32 → Bool) (k : Vec 32) (N : List TN) (h : p k = true) : nb k (N.filter fun x => p x.1) = nb k N := by
  unfold nb
  rw [nodeOf_filter, if_pos h]
theorem mvN_eq (t : Tr) (N : List TN) (k : Vec 32) : mvN t N k = N.filter fun x => (fun y => !decide (y = k) && under t N y k) x.1 := rfl
theorem mv_blk {k x : Vec 32} : blkOf x (mvN t N k) = if x ≠ k ∧ under t N x k = true then blkOf x N else none := by
  rw [mvN_eq, blkOf_filter (fun y => !decide (y = k) && under t N y k)]
  by_cases h1 : x = k <;> by_cases h2 : under t N x k = true <;> simp [h1, h2]
theorem blk_has {k : Vec 32} {b : Blk} (h : blkOf k N = some b) : has t N k = true := by unfold has; rw [h]; simp
theorem blk_nroot (hw : TrW t N) {k : Vec 32} {b : Blk} (h : blkOf k N = some b) : k ≠ t.root := fun he => by rw [he, hw.noroot] at h; cases h
theorem mvOk_spec {k : Vec 32} (h : mvOk t N k = true) : blkOf k N = some (nb k N).1 ∧ upOf k N = t.root := by
  unfold mvOk at h
  simp only [Bool.and_eq_true, decide_eq_true_eq] at h
  refine ⟨?_, h.2⟩
  rcases nb_blk (k := k) (N := N) with ⟨h1, _⟩ | h1
  · rw [h1] at h; cases h.1
  · exact h1
/-- Who is under the child: its parent is, or is the child. -/
theorem mv_up (hw : TrW t N) {k x : Vec 32} (hk : mvOk t N k = true) (hx : has t N x = true) (hne : x ≠ k) (hu : under t N x k = true) : x ≠ t.root ∧ has t N (upOf x N) = true ∧ (upOf x N = k ∨ under t N (upOf x N) k = true) := by
  obtain ⟨hkb, hkp⟩ := mvOk_spec hk
  have hkh : has t N k = true := blk_has hkb
  have hkr := blk_nroot hw hkb
  rw [under_path hx hkh] at hu
  simp only [Bool.or_eq_true, decide_eq_true_eq] at hu
  have hu : k ∈ pathOf t N x := hu.resolve_left hkr
  have hxr : x ≠ t.root := fun he => by rw [he, path_root] at hu; cases hu
  have h2 := (up_has hw hx hxr).1
  refine ⟨hxr, h2, ?_⟩
  rw [path_step hw hx hxr, List.mem_append] at hu
  rcases hu with hu | hu
  · right
    rw [under_path h2 hkh, decide_eq_true hu, Bool.or_true]
  · exact absurd (by simpa using hu) (Ne.symm hne)
theorem mv_has {k x : Vec 32} (hw : TrW t N) (hk : mvOk t N k = true) (h : has (mvT t N k) (mvN t N k) x = true) : has t N x = true ∧ levH (mvT t N k) (mvN t N k) x = levH t N x := by
  obtain ⟨hkb, hkp⟩ := mvOk_spec hk
  by_cases hx : x = k
  · subst hx
    refine ⟨blk_has hkb, ?_⟩
    unfold levH
    rw [if_pos (show x = (mvT t N x).root from rfl), if_neg (blk_nroot hw hkb), hkb]
    rfl
  · have hb := has_blk h (show x ≠ (mvT t N k).root from hx)
    have hb2 := hb
    rw [mv_blk] at hb
    split at hb
    · rename_i hu
      refine ⟨blk_has hb, ?_⟩
      unfold levH
      rw [if_neg (show x ≠ (mvT t N k).root from hx), if_neg (blk_nroot hw hb), hb2, hb]
    · cases hb
theorem TM.move {k : Vec 32} (hi : TM t N m) (hk : mvOk t N k = true) : TM (mvT t N k) (mvN t N k) m := by
  have hw := hi.w
  obtain ⟨hkb, hkp⟩ := mvOk_spec hk
  have hkh : has t N k = true := blk_has hkb
  have hkr := blk_nroot hw hkb
  have hkl : levH t N k = (nb k N).1.h := by unfold levH; rw [if_neg hkr, hkb]
  have hmem : ∀ x b, blkOf x (mvN t N k) = some b → x ≠ k ∧ under t N x k = true ∧ blkOf x N = some b := fun x b h => by
    rw [mv_blk] at h
    split at h
    · rename_i hu; exact ⟨hu.1, hu.2, h⟩
    · cases h
  have hpar : ∀ x b, blkOf x (mvN t N k) = some b → has (mvT t N k) (mvN t N k) b.p = true := fun x b h => by
    obtain ⟨h1, h2, h3⟩ := hmem x b h
    obtain ⟨h4, h5, h6⟩ := mv_up hw hk (blk_has h3) h1 h2
    have e : b.p = upOf x N := by
      have := has_blk (blk_has (t := t) h3) h4
      rw [h3] at this
      simp only [Option.some.injEq] at this
      unfold upOf
      rw [← this]
    rw [e]
    by_cases hp : upOf x N = k
    · rw [hp]; exact mem_has (.inl rfl)
    · have hu := h6.resolve_left hp
      have hpr : upOf x N ≠ t.root := fun he => by
        rw [he, under_path (mem_has (.inl rfl)) hkh, path_root] at hu
        simp [hkr] at hu
      unfold has
      rw [mv_blk, if_pos ⟨hp, hu⟩, has_blk h5 hpr]
      simp
  have hgt : ∀ x b, blkOf x (mvN t N k) = some b → (nb k N).1.h < b.h := fun x b h => by
    obtain ⟨h1, h2, h3⟩ := hmem x b h
    have hxh := blk_has (t := t) h3
    rw [under_path hxh hkh] at h2
    simp only [Bool.or_eq_true, decide_eq_true_eq] at h2
    have h2 : k ∈ pathOf t N x := h2.resolve_left hkr
    obtain ⟨j, hj⟩ := List.mem_iff_getElem?.1 h2
    have h4 := path_at hw x hxh j k hj
    have hxr : x ≠ t.root := fun he => by rw [he, path_root] at h2; cases h2
    have hlx := path_len hw x hxh
    have hjl := (List.getElem?_eq_some_iff.1 hj).1
    have hlast : (pathOf t N x)[(pathOf t N x).length - 1]? = some x := by
      rw [path_step hw hxh hxr]
      simp
    have hjne : j ≠ (pathOf t N x).length - 1 := fun he => by
      rw [he, hlast] at hj
      exact h1 (by simpa using hj)
    have hbx := blk_h hw hxh hxr
    have hbk := blk_h hw hkh hkr
    have e : (nb x N).1 = b := by
      have := has_blk hxh hxr
      rw [h3] at this
      simpa using this.symm
    rw [e] at hbx
    omega
  refine ⟨⟨fun x b h => ⟨hpar x b h, ?_⟩, hgt, ?_, fun x hx => hw.small x (List.mem_filter.1 hx).1⟩, ?_, fun x hx => ?_, fun x hx => hi.hi x (List.mem_filter.1 hx).1, ?_⟩
  · rw [(mv_has hw hk (hpar x b h)).2]
    exact (hw.up x b (hmem x b h).2.2).2
  · rw [mv_blk]
    exact if_neg fun h => h.1 rfl
  · exact hi.nd.sublist (List.filter_sublist.map _)
  · obtain ⟨h1, h2⟩ := mv_has hw hk hx
    have h3 := hi.hb x h1
    have h4 := hw.above k _ hkb
    unfold Go.Fx.hgt at h3 ⊢
    rw [h2]
    show (levH t N x - (nb k N).1.h).toNat ≤ m
    omega
  · have h4 := hw.above k _ hkb
    have h5 := hi.ht
    show 0 ≤ (nb k N).1.h
    omega
end
end Go.Fx
set_option linter.unusedVariables false
set_option linter.unusedSimpArgs false
namespace Go.Fx
/-- What is kept beside the tree: each name's block as it was handed in. -/
def HadOk (h : Heap) (N : List TN) (H : List (Ent 32)) : Prop := H.map (·.1) = nms N ∧ ∀ k b, blkOf k N = some b → ∃ v, getE k H = some (bq b v) ∧ RdB h v b.d
theorem getE_snoc {n : Nat} {k : Vec n} {H : List (Ent n)} {x : Ent n} : getE k (H ++ [x]) = (getE k H).or (if k = x.1 then some x.2.1 else none) := by
  unfold getE
  rw [List.find?_append]
  cases hf : List.find? (fun x => decide (k = x.1)) H with
  | some y => simp
  | none =>
    by_cases h : k = x.1 <;> simp [h]
theorem getE_nin {n : Nat} {k : Vec n} {H : List (Ent n)} (h : k ∉ H.map (·.1)) : getE k H = none := by
  unfold getE
  rw [Option.map_eq_none_iff, List.find?_eq_none]
  intro x hx
  have : k ≠ x.1 := fun he => h (he ▸ List.mem_map_of_mem hx)
  simp [this]
theorem HadOk.add {h : Heap} {t : Tr} {N : List TN} {H : List (Ent 32)} {b : Blk} {v vd : Value} {c c' : Nat} (hk : HadOk h N H) (hn : has t N b.id = false) (hv : RdB h v b.d) : HadOk h (N ++ [(b.id, b, vd, c)]) (H ++ [(b.id, bq b v, c')]) := by
  have hnm : b.id ∉ nms N := fun hm => by rw [mem_has (.inr hm)] at hn; cases hn
  refine ⟨by simp [hk.1], fun k b' hb => ?_⟩
  rw [blkOf_snoc] at hb
  cases hk2 : blkOf k N with
  | some y =>
    rw [hk2] at hb
    simp only [Option.some_or, Option.some.injEq] at hb
    subst hb
    obtain ⟨v', h1, h2⟩ := hk.2 k y hk2
    exact ⟨v', by rw [getE_snoc, h1]; rfl, h2⟩
  | none =>
    rw [hk2] at hb
    by_cases he : k = b.id
    · subst he
      have : b = b' := by simpa using hb
      subst this
      exact ⟨v, by rw [getE_snoc, getE_nin (by rw [hk.1]; exact hnm)]; simp, hv⟩
    · simp [he] at hb
theorem HadOk.fr {w w' : World} {N : List TN} {H : List (Ent 32)} (h : HadOk w.heap N H) (hf : Fr [] w w') : HadOk w'.heap N H := ⟨h.1, fun k b hb => by
  obtain ⟨v, h1, h2⟩ := h.2 k b hb
  exact ⟨v, h1, h2.fr hf (off_nil _)⟩⟩
section
variable {w : World}
/-- Which names are there behind a move. -/
theorem mv_left {t : Tr} {N : List TN} {k id : Vec 32} (hid : id ∈ nms N) : (id = k ∨ id ∈ mvGone t N k → blkOf id (mvN t N k) = none) ∧ (¬ (id = k ∨ id ∈ mvGone t N k) → blkOf id (mvN t N k) = blkOf id N) := by
  have hg : id ∈ mvGone t N k ↔ under t N id k = false := by
    unfold mvGone
    rw [List.mem_filter]
    simp only [Bool.not_eq_true']
    exact ⟨fun h => h.2, fun h => ⟨hid, h⟩⟩
  rw [mv_blk, hg]
  refine ⟨fun h => if_neg ?_, fun h => if_pos ?_⟩
  · rintro ⟨h1, h2⟩
    rcases h with h | h
    · exact h1 h
    · rw [h] at h2; cases h2
  · refine ⟨fun he => h (.inl he), ?_⟩
    cases hu : under t N id k with
    | true => rfl
    | false => exact absurd (.inr hu) h
theorem mem_blk {N : List TN} {k : Vec 32} (h : k ∈ nms N) : blkOf k N = some (nb k N).1 := by
  rcases nb_blk (k := k) (N := N) with ⟨h1, _⟩ | h1
  · obtain ⟨z, hz, rfl⟩ := List.mem_map.1 h
    unfold blkOf nodeOf at h1
    rw [Option.map_eq_none_iff, List.find?_eq_none] at h1
    exact absurd (by simp) (h1 z hz)
  · exact h1
theorem wKeeps {q : Vec 32 × Int × Int} {s : Sl (Nat × Sl UInt8 × Bool × (Vec 32 × Int × Sl UInt8))} {kid : Nat} (hc : Cub w) (hs0 : (rSl R_flurrylaw11_Grow).ok w.heap s) (hkid : kid < 256) :
    cal P f_law11_TreeKeeps [.agg (Rdr.cells Q_flurrylaw11_Start q).toArray, s.v, .int .u8 kid] w fun r w' => r = .bool true ∧ Fr [] w w' := by
  obtain ⟨l, hr, hcap, hl63, hok⟩ := grows_arg hs0
  generalize s.v = v at *
  clear hs0
  refine s_law11_TreeKeeps fun R hR => ?_
  unfold c_law11_TreeKeeps
  refine bxQ (Sep.start w) fun g3 w0 hs0 => ?_
  have lv : ∀ {z : World}, Fr [] w z → cal P f_law11_live [] z R := fun {z} hf => cal_i (live11_spec (hc.fr hf)) fun r w' hr => hR _ _ ⟨hr.1, hf.trans hr.2 (by simp) (by simp)⟩
  refine cal_i (live11_spec (hc.fr hs0.fr0)) ?_
  rintro _ w1 ⟨rfl, hf1⟩
  have hs1 := hs0.old hf1
  simp only [nilc_some, fad_mk, pik_true, pik_false, cnd_true, cnd_false, gif_same, gif_tf, gif_ft, gif_undef, bi_add, bi_sub, bi_mul, bi_eql, bi_neq, bi_lss, bi_leq, bi_gtr, bi_geq, notB_bool, cvi_int, lenS_mk, lenT_mk, ext0, ext1, ext2, nilP_mk, nilS_mk, fldv_agg, jn0_k, jn1_k, jn2_k, jn1_and, jn1_or, ex_some, Option.isNone_some, Option.isNone_none, Bool.false_bne, Bool.bne_true, Bool.bne_false, Bool.true_bne, Bool.not_true, Bool.not_false, Bool.and_true, Bool.true_and, Bool.and_false, Bool.false_and, Bool.or_true, Bool.true_or, Bool.or_false, Bool.false_or, cond_true, cond_false, List.getElem?_toArray, List.getElem?_cons_zero, List.getElem?_cons_succ, Nat.zero_add, Nat.add_zero, Nat.reduceAdd, forall_const]
  refine jn1_dup ?_
  refine cal_i (few11_spec (hr.fr hs1.fr0) hcap hl63 hok) ?_
  rintro _ w2 ⟨hf2, b, rfl, hb⟩
  have hs2 := hs1.old hf2
  cases b with
  | false => simp only [nilc_some, fad_mk, pik_true, pik_false, cnd_true, cnd_false, gif_same, gif_tf, gif_ft, gif_undef, bi_add, bi_sub, bi_mul, bi_eql, bi_neq, bi_lss, bi_leq, bi_gtr, bi_geq, notB_bool, cvi_int, lenS_mk, lenT_mk, ext0, ext1, ext2, nilP_mk, nilS_mk, fldv_agg, jn0_k, jn1_k, jn2_k, jn1_and, jn1_or, ex_some, Option.isNone_some, Option.isNone_none, Bool.false_bne, Bool.bne_true, Bool.bne_false, Bool.true_bne, Bool.not_true, Bool.not_false, Bool.and_true, Bool.true_and, Bool.and_false, Bool.false_and, Bool.or_true, Bool.true_or, Bool.or_false, Bool.false_or, cond_true, cond_false, List.getElem?_toArray, List.getElem?_cons_zero, List.getElem?_cons_succ, Nat.zero_add, Nat.add_zero, Nat.reduceAdd, forall_const]; exact lv hs2.fr0
  | true =>
  have hl : l.length ≤ 40 := hb rfl
  simp only [nilc_some, fad_mk, pik_true, pik_false, cnd_true, cnd_false, gif_same, gif_tf, gif_ft, gif_undef, bi_add, bi_sub, bi_mul, bi_eql, bi_neq, bi_lss, bi_leq, bi_gtr, bi_geq, notB_bool, cvi_int, lenS_mk, lenT_mk, ext0, ext1, ext2, nilP_mk, nilS_mk, fldv_agg, jn0_k, jn1_k, jn2_k, jn1_and, jn1_or, ex_some, Option.isNone_some, Option.isNone_none, Bool.false_bne, Bool.bne_true, Bool.bne_false, Bool.true_bne, Bool.not_true, Bool.not_false, Bool.and_true, Bool.true_and, Bool.and_false, Bool.false_and, Bool.or_true, Bool.true_or, Bool.or_false, Bool.false_or, cond_true, cond_false, List.getElem?_toArray, List.getElem?_cons_zero, List.getElem?_cons_succ, Nat.zero_add, Nat.add_zero, Nat.reduceAdd, forall_const, L_flurrylaw11_Start hs2.blk, L_flurrylaw11_Start__Root hs2.blk, L_flurrylaw11_Start__Height hs2.blk, L_flurrylaw11_Start__Most hs2.blk]
  refine cal_i (tNew_spec q.1 q.2.1 q.2.2) ?_
  rintro _ w3 (⟨hno, rfl, hf3⟩ | ⟨hq, g, gm, rfl, hs3⟩)
  · simp only [nilc_some, fad_mk, pik_true, pik_false, cnd_true, cnd_false, gif_same, gif_tf, gif_ft, gif_undef, bi_add, bi_sub, bi_mul, bi_eql, bi_neq, bi_lss, bi_leq, bi_gtr, bi_geq, notB_bool, cvi_int, lenS_mk, lenT_mk, ext0, ext1, ext2, nilP_mk, nilS_mk, fldv_agg, jn0_k, jn1_k, jn2_k, jn1_and, jn1_or, ex_some, Option.isNone_some, Option.isNone_none, Bool.false_bne, Bool.bne_true, Bool.bne_false, Bool.true_bne, Bool.not_true, Bool.not_false, Bool.and_true, Bool.true_and, Bool.and_false, Bool.false_and, Bool.or_true, Bool.true_or, Bool.or_false, Bool.false_or, cond_true, cond_false, List.getElem?_toArray, List.getElem?_cons_zero, List.getElem?_cons_succ, Nat.zero_add, Nat.add_zero, Nat.reduceAdd, forall_const, show ((1 : Int) != 0) = true from rfl, Option.isNone_none]
    exact hR _ _ ⟨rfl, (hs2.old hf3).fr0⟩
  replace hs3 := hs2.join hs3
  obtain ⟨t, ht⟩ : ∃ t : Tr, t = ⟨q.1, q.2.1, q.2.2⟩ := ⟨_, rfl⟩
  rw [← ht] at hs3
  have e1 : q.1 = t.root := by rw [ht]
  have e2 : q.2.1 = t.ht := by rw [ht]
  have ht0 : 0 ≤ t.ht := by rw [← e2]; exact hq.1
  clear ht
  simp only [nilc_some, fad_mk, pik_true, pik_false, cnd_true, cnd_false, gif_same, gif_tf, gif_ft, gif_undef, bi_add, bi_sub, bi_mul, bi_eql, bi_neq, bi_lss, bi_leq, bi_gtr, bi_geq, notB_bool, cvi_int, lenS_mk, lenT_mk, ext0, ext1, ext2, nilP_mk, nilS_mk, fldv_agg, jn0_k, jn1_k, jn2_k, jn1_and, jn1_or, ex_some, Option.isNone_some, Option.isNone_none, Bool.false_bne, Bool.bne_true, Bool.bne_false, Bool.true_bne, Bool.not_true, Bool.not_false, Bool.and_true, Bool.true_and, Bool.and_false, Bool.false_and, Bool.or_true, Bool.true_or, Bool.or_false, Bool.false_or, cond_true, cond_false, List.getElem?_toArray, List.getElem?_cons_zero, List.getElem?_cons_succ, Nat.zero_add, Nat.add_zero, Nat.reduceAdd, forall_const, show ((0 : Int) != 0) = false from rfl, Option.isNone_some]
  obtain ⟨B3, hB3⟩ : ∃ B3, B3 = blk g3 (Rdr.cells Q_flurrylaw11_Start q).toArray T_flurrylaw11_Start := ⟨_, rfl⟩
  have hB3' : ∀ {z : World} {As : List Asn}, Sep w z (B3 :: As) → z.heap[g3]? = some (.cells (Rdr.cells Q_flurrylaw11_Start q).toArray T_flurrylaw11_Start (0, 0)) := fun h => by rw [hB3] at h; exact Sep.blk h
  replace hs3 : Sep w w3 (trH g gm (.slice none 0 0) t [] 0 ++ [B3]) := by rw [hB3]; exact hs3
  refine drH_S hs3 fun w4 hs4 _ => ?_
  refine ⟨fun x y z => Sep w z (trH g gm (.slice none 0 0) t [] 0 ++ [rows (rVec 32) x (idsT t []), rows (rInt .i64) y (htsT t []), B3]), ?_, ?_⟩
  · refine ⟨kv t.root, fun u hu => by rw [← e1]; exact (L_flurrylaw11_Start__Root (hB3' (Sep.p3 hu)) _).mpr rfl, ?_⟩
    refine rdS_ld (v := .int .i64 t.ht) (fun u hu K hk => by rw [← e2] at hk; exact (L_flurrylaw11_Start__Height (hB3' (Sep.p3 hu)) K).mpr hk) ?_
    refine two_lit hs4 fun x y z hz => Sep.pick hz [2, 3, 4, 0, 1, 5] 6
  rintro x0 y0 w5 hs5 _
  refine makeMap_s (n := 32) hs5 fun gh w6 hs6 => ?_
  simp only [hr.len]
  refine ⟨fun x y z w' => ∃ i N ov c c2 H Ds, z = .int .i64 ((i : Nat) : Int) ∧ i ≤ l.length ∧ TI t N ∧ N.length ≤ i ∧ Dat N Ds ∧ HadOk w.heap N H ∧ Sep w w' (trH g gm ov t N c ++ (rows (rVec 32) x (idsT t N) :: rows (rInt .i64) y (htsT t N) :: mp gh H c2 :: B3 :: Ds)),
    fun _ _ z _ => (l.length - RowKit.intOf z).toNat, ⟨0, [], .slice none 0 0, 0, 0, [], [], rfl, by omega, TI.nil ht0, by simp, Dat.nil _, ⟨rfl, fun k b h => by cases h⟩, Sep.pick hs6 [1, 2, 3, 4, 5, 0, 6] 7⟩, ?_⟩
  rintro x y _ w7 ⟨i, N, ov, c, c2, H, Ds, rfl, hi, hTI, hN, hD, hH, hs7⟩ -
  clear hs6 hs5 hs4 hs3
  simp only [nilc_some, fad_mk, pik_true, pik_false, cnd_true, cnd_false, gif_same, gif_tf, gif_ft, gif_undef, bi_add, bi_sub, bi_mul, bi_eql, bi_neq, bi_lss, bi_leq, bi_gtr, bi_geq, notB_bool, cvi_int, lenS_mk, lenT_mk, ext0, ext1, ext2, nilP_mk, nilS_mk, fldv_agg, jn0_k, jn1_k, jn2_k, jn1_and, jn1_or, ex_some, Option.isNone_some, Option.isNone_none, Bool.false_bne, Bool.bne_true, Bool.bne_false, Bool.true_bne, Bool.not_true, Bool.not_false, Bool.and_true, Bool.true_and, Bool.and_false, Bool.false_and, Bool.or_true, Bool.true_or, Bool.or_false, Bool.false_or, cond_true, cond_false, List.getElem?_toArray, List.getElem?_cons_zero, List.getElem?_cons_succ, Nat.zero_add, Nat.add_zero, Nat.reduceAdd, forall_const]
  rw [cnd_bool]
  refine ⟨fun h => ?_, fun h => ?_⟩
  · have hlt : i < l.length := by simp at h; omega
    obtain ⟨a, ha⟩ : ∃ a, l[i]? = some a := ⟨_, List.getElem?_eq_getElem hlt⟩
    have ham := List.mem_of_getElem? ha
    have hak := hok a ham
    have ha' : (l.map GA.t)[i]? = some a.t := by rw [List.getElem?_map, ha]; rfl
    refine ⟨fun x y w' => ∃ N ov c c2 H Ds, TI t N ∧ N.length ≤ i + 1 ∧ Dat N Ds ∧ HadOk w.heap N H ∧ Sep w w' (trH g gm ov t N c ++ (rows (rVec 32) x (idsT t N) :: rows (rInt .i64) y (htsT t N) :: mp gh H c2 :: B3 :: Ds)), ?_, ?_⟩
    case refine_2 =>
      rintro x' y' w8 ⟨N', ov', c', c2', H', Ds', h1, h2, h3, h4, h5⟩ _
      rw [wi64 (by omega) (by omega)]
      exact ⟨⟨i + 1, N', ov', c', c2', H', Ds', by simp, by omega, h1, h2, h3, h4, h5⟩, by simp [RowKit.intOf]; omega⟩
    change ixs 37 _ _ _
    refine Rows'.ldN (q := Q_flurrylaw11_Grow) (by decide) (hr.rw.fr hs7.fr0) ha' .i64 ?_
    refine alloc_s hs7 (A_flurrylaw11_Grow w7) fun g13 w8 hs8 => ?_
    have hd8 := (hr.fr hs8.fr0).d a ham
    refine St_flurrylaw11_Grow hs8 (one_flurrylaw11_Grow hd8.1.one hd8.2.one) fun w9 hs9 => ?_
    have hd9 := (hr.fr hs9.fr0).d a ham
    have hb3 := hB3' (Sep.pick hs9 [7, 0, 1, 2, 3, 4, 5, 6] 8)
    simp only [L_flurrylaw11_Start hb3, L_flurrylaw11_Start__Root hb3, L_flurrylaw11_Start__Height hb3, L_flurrylaw11_Start__Most hb3, L_flurrylaw11_Grow (Sep.blk hs9), L_flurrylaw11_Grow__K (Sep.blk hs9), L_flurrylaw11_Grow__Data (Sep.blk hs9), L_flurrylaw11_Grow__Raw (Sep.blk hs9), L_flurrylaw11_Grow__B (Sep.blk hs9), L_flurrylaw11_Grow__B_Parent (Sep.blk hs9), L_flurrylaw11_Grow__B_Height (Sep.blk hs9), L_flurrylaw11_Grow__B_Data (Sep.blk hs9)]
    obtain ⟨b, hb⟩ : ∃ b, b = bG (idsT t N) (htsT t N) a := ⟨_, rfl⟩
    refine cal_i (block11_spec (ids := idsT t N) (hs := htsT t N) (Sep.rows (Sep.p4 hs9)) (Sep.rows (Sep.p5 hs9)) (by simp) (by simp) (by simp; omega) hd9 (hts_nonneg hTI) hak.1) ?_
    rintro _ w10 ⟨rfl, hf10⟩
    have hs10 := hs9.old hf10
    rw [← hb]
    have hbw : RdB w.heap a.v b.d := by rw [hb]; exact bG_rd (hr.d a ham)
    have hbh : b.h ≤ maxI := by rw [hb]; exact bG_h hak.2.1
    refine alloc_s hs10 (A_api_Block w10) fun g14 w11 hs11 => ?_
    refine St_api_Block hs11 (one_api_Block hbw.one) fun w12 hs12 => ?_
    simp only [L_api_Block (Sep.blk hs12), L_api_Block__Parent (Sep.blk hs12), L_api_Block__Height (Sep.blk hs12), L_api_Block__Data (Sep.blk hs12)]
    refine cal_i (Add_spec (Sep.pick hs12 [2, 3, 4, 0, 1, 5, 6, 7, 8] 9) (hD.sub (Bs := _ :: _ :: _ :: _ :: _ :: _ :: Ds) fun A hA => by simp [hA]) hTI.w (hc.fr hs12.fr0) (hbw.fr hs12.fr0 (off_nil _)) hbh (by omega)) ?_
    rintro _ w13 (⟨he, rfl, hs13⟩ | ⟨he, rfl, ov', vd, hs13⟩)
    · have he' : (addE t N b != 0) = true := bne_iff_ne.2 he
      simp only [nilc_some, fad_mk, pik_true, pik_false, cnd_true, cnd_false, gif_same, gif_tf, gif_ft, gif_undef, bi_add, bi_sub, bi_mul, bi_eql, bi_neq, bi_lss, bi_leq, bi_gtr, bi_geq, notB_bool, cvi_int, lenS_mk, lenT_mk, ext0, ext1, ext2, nilP_mk, nilS_mk, fldv_agg, jn0_k, jn1_k, jn2_k, jn1_and, jn1_or, ex_some, Option.isNone_some, Option.isNone_none, Bool.false_bne, Bool.bne_true, Bool.bne_false, Bool.true_bne, Bool.not_true, Bool.not_false, Bool.and_true, Bool.true_and, Bool.and_false, Bool.false_and, Bool.or_true, Bool.true_or, Bool.or_false, Bool.false_or, cond_true, cond_false, List.getElem?_toArray, List.getElem?_cons_zero, List.getElem?_cons_succ, Nat.zero_add, Nat.add_zero, Nat.reduceAdd, forall_const, he']
      refine alloc_s hs13 (A_api_ID w13) fun g15 w14 hs14 => ?_
      refine St_api_ID hs14 fun w15 hs15 => ?_
      exact ⟨N, ov, c, c2, H, Ds, hTI, by omega, hD, hH, Sep.pick hs15 [1, 2, 3, 6, 7, 8, 9] 10⟩
    · simp only [nilc_some, fad_mk, pik_true, pik_false, cnd_true, cnd_false, gif_same, gif_tf, gif_ft, gif_undef, bi_add, bi_sub, bi_mul, bi_eql, bi_neq, bi_lss, bi_leq, bi_gtr, bi_geq, notB_bool, cvi_int, lenS_mk, lenT_mk, ext0, ext1, ext2, nilP_mk, nilS_mk, fldv_agg, jn0_k, jn1_k, jn2_k, jn1_and, jn1_or, ex_some, Option.isNone_some, Option.isNone_none, Bool.false_bne, Bool.bne_true, Bool.bne_false, Bool.true_bne, Bool.not_true, Bool.not_false, Bool.and_true, Bool.true_and, Bool.and_false, Bool.false_and, Bool.or_true, Bool.true_or, Bool.or_false, Bool.false_or, cond_true, cond_false, List.getElem?_toArray, List.getElem?_cons_zero, List.getElem?_cons_succ, Nat.zero_add, Nat.add_zero, Nat.reduceAdd, forall_const, show ((0 : Int) != 0) = false from rfl]
      refine alloc_s hs13 (A_api_ID w13) fun g15 w14 hs14 => ?_
      refine St_api_ID hs14 fun w15 hs15 => ?_
      simp only [L_api_ID (Sep.blk hs15)]
      obtain ⟨a1, a2, a3, a4, a5, a6⟩ := addE_ok he
      have hnH : getE b.id H = none := getE_nin (by rw [hH.1]; exact fun hm => by rw [mem_has (.inr hm)] at a2; cases a2)
      have hmpH := Sep.map (Sep.pick hs15 [9, 0, 1, 2, 3, 4, 5, 6, 7, 8, 10] 11)
      rw [lookup_map U_map_api_ID_api_Block KT (zB w15) hmpH b.id, hnH]
      simp only [nilc_some, fad_mk, pik_true, pik_false, cnd_true, cnd_false, gif_same, gif_tf, gif_ft, gif_undef, bi_add, bi_sub, bi_mul, bi_eql, bi_neq, bi_lss, bi_leq, bi_gtr, bi_geq, notB_bool, cvi_int, lenS_mk, lenT_mk, ext0, ext1, ext2, nilP_mk, nilS_mk, fldv_agg, jn0_k, jn1_k, jn2_k, jn1_and, jn1_or, ex_some, Option.isNone_some, Option.isNone_none, Bool.false_bne, Bool.bne_true, Bool.bne_false, Bool.true_bne, Bool.not_true, Bool.not_false, Bool.and_true, Bool.true_and, Bool.and_false, Bool.false_and, Bool.or_true, Bool.true_or, Bool.or_false, Bool.false_or, cond_true, cond_false, List.getElem?_toArray, List.getElem?_cons_zero, List.getElem?_cons_succ, Nat.zero_add, Nat.add_zero, Nat.reduceAdd, forall_const, Option.getD_none]
      refine alloc_s hs15 (A_api_Block w15) fun g17 w16 hs16 => ?_
      refine St_api_Block (b := (vz 32, 0, .slice none 0 0)) hs16 (one_api_Block rfl) fun w17 hs17 => ?_
      simp only [Option.isSome_none, cnd_false]
      have hs18 := Sep.pick hs17 [8, 9, 1, 6, 2, 3, 4, 10, 11, 5] 12
      refine ⟨fun u => Sep w u _, (hs18.drew _).tail.tail, ?_⟩
      refine jn2_dup ?_
      refine ⟨kv b.id, fun u hu => (L_api_ID (Sep.blk hu) _).mpr rfl, ?_⟩
      refine rdS_ld (v := .int .i64 b.h) (fun u hu K hk => (L_api_Block__Height (Sep.blk (Sep.p1 hu)) K).mpr hk) ?_
      refine three_app (hs18.drew _) (by simp; omega) (by simp; omega) fun x' y' w18 hs19 _ => ?_
      simp only [L_api_ID (Sep.blk (Sep.p2 hs19)), L_api_Block (Sep.blk (Sep.p3 hs19)), L_api_Block__Parent (Sep.blk (Sep.p3 hs19)), L_api_Block__Height (Sep.blk (Sep.p3 hs19)), L_api_Block__Data (Sep.blk (Sep.p3 hs19))]
      refine putNew_s (c := c2) (v := bq b a.v) U_map_api_ID_api_Block KT (Sep.pick hs19 [7, 0, 1, 2, 3, 4, 5, 6, 8] 9) hnH fun w19 hs20 => ?_
      refine ⟨N ++ [(b.id, b, vd, c)], ov', c + 1, c2 + 1, _, ownB vd b.d :: Ds, hTI.add he hbh, by simp; omega, hD.add, hH.add (c' := c2) a2 hbw, ?_⟩
      have e3 : idsT t (N ++ [(b.id, b, vd, c)]) = idsT t N ++ [b.id] := by simp [idsT, nms]
      have e4 : htsT t (N ++ [(b.id, b, vd, c)]) = htsT t N ++ [b.h] := by simp [htsT, hts]
      rw [e3, e4]
      exact Sep.pick hs20 [5, 6, 7, 1, 2, 0, 8, 9] 10
  have hNl : (idsT t N).length = N.length + 1 := by simp
  obtain ⟨a, cp, hx, hac⟩ := Sep.formR (Sep.p3 hs7)
  have hlenx : ∀ K, lenS x K = K (.int .i64 ((N.length + 1 : Nat) : Int)) := fun K => by rw [(Sep.rows (Sep.p3 hs7)).len K, hNl]
  have hlt := Nat.mod_lt kid (show 0 < N.length + 1 by omega)
  obtain ⟨k, hk⟩ : ∃ k, (idsT t N)[kid % (N.length + 1)]? = some k := ⟨_, List.getElem?_eq_getElem (by omega)⟩
  simp only [nilc_some, fad_mk, pik_true, pik_false, cnd_true, cnd_false, gif_same, gif_tf, gif_ft, gif_undef, bi_add, bi_sub, bi_mul, bi_eql, bi_neq, bi_lss, bi_leq, bi_gtr, bi_geq, notB_bool, cvi_int, lenS_mk, lenT_mk, ext0, ext1, ext2, nilP_mk, nilS_mk, fldv_agg, jn0_k, jn1_k, jn2_k, jn1_and, jn1_or, ex_some, Option.isNone_some, Option.isNone_none, Bool.false_bne, Bool.bne_true, Bool.bne_false, Bool.true_bne, Bool.not_true, Bool.not_false, Bool.and_true, Bool.true_and, Bool.and_false, Bool.false_and, Bool.or_true, Bool.true_or, Bool.or_false, Bool.false_or, cond_true, cond_false, List.getElem?_toArray, List.getElem?_cons_zero, List.getElem?_cons_succ, Nat.zero_add, Nat.add_zero, Nat.reduceAdd, forall_const, hlenx]
  rw [wi64 (by omega) (by omega), bi_rem _ _ _ _ (by omega), tmodn]
  change ixs 32 _ _ _
  refine Rows'.ldN (q := rVec 32) (by decide) (Sep.rows (Sep.p3 hs7)) hk .i64 ?_
  have hD0 : Dat N (rows (rVec 32) x (idsT t N) :: rows (rInt .i64) y (htsT t N) :: mp gh H c2 :: B3 :: Ds) := hD.sub fun A hA => by simp [hA]
  refine cal_i (Move_spec hs7 hD0 hTI.w hTI.nd (by omega) k) ?_
  intro r w8 hmv
  obtain ⟨t', N', gv, e, G, ov', hr8, hw', hGl, hleft, hD', hs8⟩ : ∃ (t' : Tr) (N' : List TN) (gv : Value) (e : Int) (G : List (Vec 32)) (ov' : Value), r = .tuple #[gv, .int .i64 e] ∧ TrW t' N' ∧ G.length ≤ 1000000 ∧
      (∀ id ∈ nms N, (id = t'.root ∨ id ∈ G → blkOf id N' = none) ∧ (¬ (id = t'.root ∨ id ∈ G) → blkOf id N' = blkOf id N)) ∧ Dat N' (rows (rVec 32) gv G :: rows (rVec 32) x (idsT t N) :: rows (rInt .i64) y (htsT t N) :: mp gh H c2 :: B3 :: Ds) ∧
      Sep w w8 (trH g gm ov' t' N' c ++ (rows (rVec 32) gv G :: rows (rVec 32) x (idsT t N) :: rows (rInt .i64) y (htsT t N) :: mp gh H c2 :: B3 :: Ds)) := by
    rcases hmv with ⟨_, rfl, h3⟩ | ⟨h1, gv, ov', rfl, h3⟩
    · refine ⟨t, N, .slice none 0 0, 4, [], ov, rfl, hTI.w, by simp, fun id hid => ⟨fun h => ?_, fun _ => rfl⟩, hD0.sub fun A hA => List.mem_cons_of_mem _ hA, Sep.pick (Sep.nilR (q := rVec 32) h3) [1, 2, 3, 0] 4⟩
      have h := h.resolve_right (by simp)
      rw [h]
      exact hTI.w.noroot
    · refine ⟨mvT t N k, mvN t N k, gv, 0, mvGone t N k, ov', rfl, (hTI.tm.move h1).w, ?_, fun id hid => mv_left hid, fun z hz => List.mem_cons_of_mem _ (hD0 z (List.mem_filter.1 hz).1), h3⟩
      have := List.length_filter_le (fun x => !under t N x k) (N.map (·.1))
      rw [List.length_map] at this
      unfold mvGone
      omega
  subst hr8
  clear hmv hs7 hD0
  simp only [nilc_some, fad_mk, pik_true, pik_false, cnd_true, cnd_false, gif_same, gif_tf, gif_ft, gif_undef, bi_add, bi_sub, bi_mul, bi_eql, bi_neq, bi_lss, bi_leq, bi_gtr, bi_geq, notB_bool, cvi_int, lenS_mk, lenT_mk, ext0, ext1, ext2, nilP_mk, nilS_mk, fldv_agg, jn0_k, jn1_k, jn2_k, jn1_and, jn1_or, ex_some, Option.isNone_some, Option.isNone_none, Bool.false_bne, Bool.bne_true, Bool.bne_false, Bool.true_bne, Bool.not_true, Bool.not_false, Bool.and_true, Bool.true_and, Bool.and_false, Bool.false_and, Bool.or_true, Bool.true_or, Bool.or_false, Bool.false_or, cond_true, cond_false, List.getElem?_toArray, List.getElem?_cons_zero, List.getElem?_cons_succ, Nat.zero_add, Nat.add_zero, Nat.reduceAdd, forall_const]
  obtain ⟨L, hL⟩ : ∃ L, L = trH g gm ov' t' N' c ++ (rows (rVec 32) gv G :: rows (rVec 32) x (idsT t N) :: rows (rInt .i64) y (htsT t N) :: mp gh H c2 :: B3 :: Ds) := ⟨_, rfl⟩
  rw [← hL] at hs8
  have fT : ∀ {z : World}, Sep w z L → TrR z.heap g gm ov' t' N' c := fun {z} hz => by rw [hL] at hz; exact trH_rd hz hD'
  have fG : ∀ {z : World}, Sep w z L → Rows' (rVec 32) z.heap gv G := fun {z} hz => by rw [hL] at hz; exact Sep.rows (Sep.p3 hz)
  have fx : ∀ {z : World}, Sep w z L → Rows' (rVec 32) z.heap x (idsT t N) := fun {z} hz => by rw [hL] at hz; exact Sep.rows (Sep.p4 hz)
  have fH : ∀ {z : World}, Sep w z L → z.heap[gh]? = some (.map (ents H) c2) := fun {z} hz => by
    rw [hL] at hz
    exact Sep.map (Sep.pick hz [6, 0, 1, 2, 3, 4, 5, 7] 8)
  clear hL
  refine cal_i (Root_spec (fT hs8)) ?_
  rintro _ w9 ⟨rfl, hf9⟩
  have hs9 := hs8.old hf9
  simp only [nilc_some, fad_mk, pik_true, pik_false, cnd_true, cnd_false, gif_same, gif_tf, gif_ft, gif_undef, bi_add, bi_sub, bi_mul, bi_eql, bi_neq, bi_lss, bi_leq, bi_gtr, bi_geq, notB_bool, cvi_int, lenS_mk, lenT_mk, ext0, ext1, ext2, nilP_mk, nilS_mk, fldv_agg, jn0_k, jn1_k, jn2_k, jn1_and, jn1_or, ex_some, Option.isNone_some, Option.isNone_none, Bool.false_bne, Bool.bne_true, Bool.bne_false, Bool.true_bne, Bool.not_true, Bool.not_false, Bool.and_true, Bool.true_and, Bool.and_false, Bool.false_and, Bool.or_true, Bool.true_or, Bool.or_false, Bool.false_or, cond_true, cond_false, List.getElem?_toArray, List.getElem?_cons_zero, List.getElem?_cons_succ, Nat.zero_add, Nat.add_zero, Nat.reduceAdd, forall_const]
  refine alloc_s hs9 (A_api_ID w9) fun g21 w10 hs10 => ?_
  refine St_api_ID (b := t'.root) hs10 fun w11 hs11 => ?_
  have e11 : ∀ K, slc 32 x (some (.int .i64 1)) none K = K (.slice (if cp = 1 then a else a.map (·.add (1 * 32))) N.length (cp - 1)) := fun K => by
    rw [hx, hNl]; exact slc_from (j := 1) (by omega) K
  have r1 : ∀ {z : World}, Sep w z L → Rows' (rVec 32) z.heap (.slice (if cp = 1 then a else a.map (·.add (1 * 32))) N.length (cp - 1)) (nms N) := fun {z} hz => by
    have h1 := fx hz
    rw [hx] at h1
    have := Rows'.drop h1 (k := 1) (by simp) hac (cp - 1)
    rw [hNl] at this
    exact this
  rw [e11]
  simp only [nilc_some, fad_mk, pik_true, pik_false, cnd_true, cnd_false, gif_same, gif_tf, gif_ft, gif_undef, bi_add, bi_sub, bi_mul, bi_eql, bi_neq, bi_lss, bi_leq, bi_gtr, bi_geq, notB_bool, cvi_int, lenS_mk, lenT_mk, ext0, ext1, ext2, nilP_mk, nilS_mk, fldv_agg, jn0_k, jn1_k, jn2_k, jn1_and, jn1_or, ex_some, Option.isNone_some, Option.isNone_none, Bool.false_bne, Bool.bne_true, Bool.bne_false, Bool.true_bne, Bool.not_true, Bool.not_false, Bool.and_true, Bool.true_and, Bool.and_false, Bool.false_and, Bool.or_true, Bool.true_or, Bool.or_false, Bool.false_or, cond_true, cond_false, List.getElem?_toArray, List.getElem?_cons_zero, List.getElem?_cons_succ, Nat.zero_add, Nat.add_zero, Nat.reduceAdd, forall_const]
  refine ⟨fun y z => ∃ i : Nat, y = .int .i64 i ∧ i ≤ N.length ∧ Sep w z (blk g21 (Rdr.cells (rVec 32) t'.root).toArray T_api_ID :: L), fun y _ => (N.length - RowKit.intOf y).toNat, ⟨0, rfl, by omega, hs11⟩, ?_⟩
  rintro _ w12 ⟨i, rfl, hi, hs12⟩ -
  simp only [nilc_some, fad_mk, pik_true, pik_false, cnd_true, cnd_false, gif_same, gif_tf, gif_ft, gif_undef, bi_add, bi_sub, bi_mul, bi_eql, bi_neq, bi_lss, bi_leq, bi_gtr, bi_geq, notB_bool, cvi_int, lenS_mk, lenT_mk, ext0, ext1, ext2, nilP_mk, nilS_mk, fldv_agg, jn0_k, jn1_k, jn2_k, jn1_and, jn1_or, ex_some, Option.isNone_some, Option.isNone_none, Bool.false_bne, Bool.bne_true, Bool.bne_false, Bool.true_bne, Bool.not_true, Bool.not_false, Bool.and_true, Bool.true_and, Bool.and_false, Bool.false_and, Bool.or_true, Bool.true_or, Bool.or_false, Bool.false_or, cond_true, cond_false, List.getElem?_toArray, List.getElem?_cons_zero, List.getElem?_cons_succ, Nat.zero_add, Nat.add_zero, Nat.reduceAdd, forall_const]
  rw [cnd_bool]
  refine ⟨fun h => ?_, fun h => hR _ _ ⟨rfl, hs12.fr0⟩⟩
  have hlt : i < N.length := by simp at h; omega
  obtain ⟨id, hid⟩ : ∃ id, (nms N)[i]? = some id := ⟨_, List.getElem?_eq_getElem (by simpa using hlt)⟩
  have hidm : id ∈ nms N := List.mem_of_getElem? hid
  refine ⟨fun z => Sep w z (blk g21 (Rdr.cells (rVec 32) t'.root).toArray T_api_ID :: L), ?_, fun w13 hs13 _ => ?_⟩
  case refine_2 =>
    rw [wi64 (by omega) (by omega)]
    exact ⟨⟨i + 1, by simp, by omega, hs13⟩, by simp [RowKit.intOf]; omega⟩
  change ixs 32 _ _ _
  refine Rows'.ldN (q := rVec 32) (by decide) (r1 hs12.tail) hid .i64 ?_
  refine alloc_s hs12 (A_api_ID w12) fun g24 w13 hs13 => ?_
  refine St_api_ID (b := id) hs13 fun w14 hs14 => ?_
  simp only [L_api_ID (Sep.blk hs14)]
  refine cal_i (Get_spec (fT hs14.tail.tail) hw' id) ?_
  rintro _ w15 ⟨v15, rfl, hs15⟩
  have hs15' := hs14.join hs15
  simp only [nilc_some, fad_mk, pik_true, pik_false, cnd_true, cnd_false, gif_same, gif_tf, gif_ft, gif_undef, bi_add, bi_sub, bi_mul, bi_eql, bi_neq, bi_lss, bi_leq, bi_gtr, bi_geq, notB_bool, cvi_int, lenS_mk, lenT_mk, ext0, ext1, ext2, nilP_mk, nilS_mk, fldv_agg, jn0_k, jn1_k, jn2_k, jn1_and, jn1_or, ex_some, Option.isNone_some, Option.isNone_none, Bool.false_bne, Bool.bne_true, Bool.bne_false, Bool.true_bne, Bool.not_true, Bool.not_false, Bool.and_true, Bool.true_and, Bool.and_false, Bool.false_and, Bool.or_true, Bool.true_or, Bool.or_false, Bool.false_or, cond_true, cond_false, List.getElem?_toArray, List.getElem?_cons_zero, List.getElem?_cons_succ, Nat.zero_add, Nat.add_zero, Nat.reduceAdd, forall_const]
  refine alloc_s hs15' (A_api_Block w15) fun g25 w16 hs16 => ?_
  refine St_api_Block hs16 (one_api_Block (Sep.one (Sep.p1 hs16))) fun w17 hs17 => ?_
  simp only [L_api_ID (Sep.blk (Sep.p2 hs17)), L_api_ID (Sep.blk (Sep.p3 hs17)), eq_api_ID]
  have hs17' : Sep w w17 (blk g25 _ T_api_Block :: ownB v15 (nb id N').1.d :: blk g24 (Rdr.cells (rVec 32) id).toArray T_api_ID :: blk g21 (Rdr.cells (rVec 32) t'.root).toArray T_api_ID :: L) := hs17
  refine ⟨fun y z => (decide (id = t'.root) = false → y = .bool (decide (id ∈ G))) ∧ Sep w z (blk g25 (Rdr.cells Q_api_Block ((nb id N').1.p, (nb id N').1.h, v15)).toArray T_api_Block :: ownB v15 (nb id N').1.d :: blk g24 (Rdr.cells (rVec 32) id).toArray T_api_ID :: blk g21 (Rdr.cells (rVec 32) t'.root).toArray T_api_ID :: L), ?_, ?_⟩
  · show gif _ _ _ _
    rw [gif_bool]
    refine ⟨fun h => ?_, fun h => ⟨fun h2 => absurd h2 h, hs17'⟩⟩
    refine cal_i (idsContains_spec (fG hs17'.tail.tail.tail.tail) hGl id) ?_
    rintro _ w18 ⟨rfl, hf18⟩
    exact ⟨fun _ => rfl, hs17'.old hf18⟩
  rintro y8 w18 ⟨hy, hs18⟩ _
  have hpk : ∀ K : Value → Prop, pik (.bool (decide (id = t'.root))) (.bool true) y8 K = K (.bool (decide (id = t'.root) || decide (id ∈ G))) := fun K => by
    cases hd : decide (id = t'.root) with
    | true => rw [pik_true, Bool.true_or]
    | false => rw [pik_false, hy hd, Bool.false_or]
  rw [hpk, cnd_bool]
  refine ⟨fun h => ?_, fun h => ?_⟩
  · have h : id = t'.root ∨ id ∈ G := by simpa using h
    have hno : (blkOf id N').isSome = false := by rw [(hleft id hidm).1 h]; rfl
    simp only [hno, nilc_some, fad_mk, pik_true, pik_false, cnd_true, cnd_false, gif_same, gif_tf, gif_ft, gif_undef, bi_add, bi_sub, bi_mul, bi_eql, bi_neq, bi_lss, bi_leq, bi_gtr, bi_geq, notB_bool, cvi_int, lenS_mk, lenT_mk, ext0, ext1, ext2, nilP_mk, nilS_mk, fldv_agg, jn0_k, jn1_k, jn2_k, jn1_and, jn1_or, ex_some, Option.isNone_some, Option.isNone_none, Bool.false_bne, Bool.bne_true, Bool.bne_false, Bool.true_bne, Bool.not_true, Bool.not_false, Bool.and_true, Bool.true_and, Bool.and_false, Bool.false_and, Bool.or_true, Bool.true_or, Bool.or_false, Bool.false_or, cond_true, cond_false, List.getElem?_toArray, List.getElem?_cons_zero, List.getElem?_cons_succ, Nat.zero_add, Nat.add_zero, Nat.reduceAdd, forall_const, show ((4 : Int) != 4) = false from rfl, if_neg Bool.false_ne_true]
    exact hs18.tail.tail.tail
  · have h : ¬ (id = t'.root ∨ id ∈ G) := by
      simp only [Bool.or_eq_false_iff, decide_eq_false_iff_not] at h
      rintro (h1 | h1)
      · exact h.1 h1
      · exact h.2 h1
    have hbk := (hleft id hidm).2 h
    have hbN := mem_blk hidm
    obtain ⟨v9, hv9, hrd9⟩ := hH.2 id _ hbN
    have hsome : (blkOf id N').isSome = true := by rw [hbk, hbN]; rfl
    have hnb : (nb id N').1 = (nb id N).1 := by
      rcases nb_blk (k := id) (N := N') with ⟨h1, _⟩ | h1
      · rw [h1] at hsome; cases hsome
      · rw [hbk, hbN] at h1; simpa using h1.symm
    refine drH_S hs18 fun w19 hs19 _ => ?_
    simp only [hsome, nilc_some, fad_mk, pik_true, pik_false, cnd_true, cnd_false, gif_same, gif_tf, gif_ft, gif_undef, bi_add, bi_sub, bi_mul, bi_eql, bi_neq, bi_lss, bi_leq, bi_gtr, bi_geq, notB_bool, cvi_int, lenS_mk, lenT_mk, ext0, ext1, ext2, nilP_mk, nilS_mk, fldv_agg, jn0_k, jn1_k, jn2_k, jn1_and, jn1_or, ex_some, Option.isNone_some, Option.isNone_none, Bool.false_bne, Bool.bne_true, Bool.bne_false, Bool.true_bne, Bool.not_true, Bool.not_false, Bool.and_true, Bool.true_and, Bool.and_false, Bool.false_and, Bool.or_true, Bool.true_or, Bool.or_false, Bool.false_or, cond_true, cond_false, List.getElem?_toArray, List.getElem?_cons_zero, List.getElem?_cons_succ, Nat.zero_add, Nat.add_zero, Nat.reduceAdd, forall_const, show ((0 : Int) != 0) = false from rfl, if_pos]
    refine jn1_dup ?_
    refine ⟨bq (nb id N').1 v15, fun u hu => (L_api_Block (Sep.blk hu) _).mpr rfl, ?_⟩
    refine ⟨kv id, fun u hu => (L_api_ID (Sep.blk (Sep.p2 hu)) _).mpr rfl, ?_⟩
    refine ⟨bq (nb id N).1 v9, fun u hu => by rw [lookup_map1 U_map_api_ID_api_Block KT (zB u) (fH hu.tail.tail.tail.tail) id, hv9]; rfl, ?_⟩
    refine efS_i (cal_i (rSame_spec (Sep.rd hs19.p1) (hrd9.fr hs19.fr0 (off_nil _))) ?_)
    rintro _ w20 ⟨rfl, hf20⟩
    have hs20 := hs19.old hf20
    refine ⟨hs20, ?_⟩
    rw [hnb, decide_eq_true rfl]
    simp only [nilc_some, fad_mk, pik_true, pik_false, cnd_true, cnd_false, gif_same, gif_tf, gif_ft, gif_undef, bi_add, bi_sub, bi_mul, bi_eql, bi_neq, bi_lss, bi_leq, bi_gtr, bi_geq, notB_bool, cvi_int, lenS_mk, lenT_mk, ext0, ext1, ext2, nilP_mk, nilS_mk, fldv_agg, jn0_k, jn1_k, jn2_k, jn1_and, jn1_or, ex_some, Option.isNone_some, Option.isNone_none, Bool.false_bne, Bool.bne_true, Bool.bne_false, Bool.true_bne, Bool.not_true, Bool.not_false, Bool.and_true, Bool.true_and, Bool.and_false, Bool.false_and, Bool.or_true, Bool.true_or, Bool.or_false, Bool.false_or, cond_true, cond_false, List.getElem?_toArray, List.getElem?_cons_zero, List.getElem?_cons_succ, Nat.zero_add, Nat.add_zero, Nat.reduceAdd, forall_const]
    exact hs20.tail.tail.tail
end
end Go.Fx
namespace Go.Fx
theorem okWide_arr {P : Program} {w : World} {r : Reach} {base n : Nat} {t e : TypeId} {v : Value} (ht : P.underlying t = some (.array n e)) (h : Value.okWide P w r base t v) : ∃ cs, v = .agg cs ∧ cs.size = P.cellsOf t := by
  simp only [Value.okWide, ht] at h
  obtain ⟨cs, h1, h2, _⟩ := h
  exact ⟨cs, h1, h2⟩
end Go.Fx
namespace Go.Proofs.YtfpjpecenlbanaaDoor
open Go.ChangeShapes Go.WideShapes Go.ChangeAt Go.RowKit
theorem own : ownKnob Tryd.prog.godebug = none := by kernel_rfl
theorem laidOut : laidOutB Tryd.prog = true := by kernel_rfl
end Go.Proofs.YtfpjpecenlbanaaDoor
namespace Go.Proofs.YtfpjpecenlbanaaDoor
open Go.ChangeShapes Go.WideShapes Go.ChangeAt Go.RowKit
abbrev laidL : List (String × DataW Unit) := [("flurry/sha.cubes", Rows.laid_flurry_sha_cubes)]
theorem gCubes : Tryd.prog.globalNamed "flurry/sha.cubes" = some 0 := by kernel_rfl
theorem tCubes : (Tryd.prog.globals[0]?).map (·.type) = some Go.Fx.T_a64_uint32 := by kernel_rfl
theorem door_met (os : Os) (args : Array Value) : laidMetH Tryd.prog laidL ((World.doorLaid Tryd.prog 400 os).forCall (fun _ _ => 0) ⟨#[], args, []⟩).memory :=
  laidMetH_of_parts3 (fuel := 8) (laidMet_of_run' 8 (by kernel_rfl) (by kernel_rfl)) (by kernel_rfl) (by kernel_rfl)
theorem cub_of_laid {W : World} (h : laidMetH Tryd.prog laidL W) : Go.Fx.Cub W := by
  rw [MakeChecks.laidMetH_plain _ _ _ (by kernel_rfl)] at h
  obtain ⟨ps, ⟨g0, t0, cs0, f0, p0, q0, hg0, ht0, hv0, hd0, _, _⟩, _, _⟩ := h
  obtain rfl := Option.some.inj (gCubes.symm.trans hg0)
  obtain rfl := Option.some.inj (tCubes.symm.trans ht0)
  have hcs : cs0.toList = Go.Fx.wvs Go.Fx.cubesL := by
    obtain ⟨xs, m1, _, hx1, hlen, hn3, hel⟩ := DataW.trod_array Go.Fx.U_a64_uint32 hd0
    have c1 : Tryd.prog.cellsOf Go.Fx.T_uint32 = 1 := by kernel_rfl
    have c64 : Tryd.prog.cellsOf Go.Fx.T_a64_uint32 = 64 := by kernel_rfl
    rw [c64] at hlen
    rw [c1] at hel
    have hd : (Rows.laid_flurry_sha_cubes : DataW Unit) = .agg (Go.Fx.cubesL.map fun x => .lit (.int .u32 x.toNat)) := by kernel_rfl
    rw [hd] at hx1
    simp only [Prod.mk.injEq, DataW.agg.injEq] at hx1
    apply List.ext_getElem?
    intro i
    by_cases hi : i < 64
    · have h1 := hel i hi
      have hx : xs[i]? = some (xs[i]'(by omega)) := List.getElem?_eq_getElem _
      rw [hx] at h1
      generalize xs[i]'(by omega) = y at *
      obtain ⟨k, e1, e2, _⟩ := DataW.trod_int Go.Fx.U_uint32 h1
      have h2 := congrArg (·[i]?) hx1.1
      simp only [List.getElem?_map, hx, e2, Option.map_some] at h2
      have h3 : cs0.toList[i]? = some (.int .u32 k) := by
        have : ((cs0.toList.drop (i * 1)).take 1)[0]? = some (.int .u32 k) := by rw [e1]; rfl
        rw [List.getElem?_take_of_lt (by omega), List.getElem?_drop, Nat.mul_one, Nat.add_zero] at this
        exact this
      rw [h3, Go.Fx.wvs, List.getElem?_map]
      cases hc : Go.Fx.cubesL[i]? with
      | none => rw [hc] at h2; cases h2
      | some z =>
        rw [hc] at h2
        simp only [Option.map_some, Option.some.injEq, DataW.lit.injEq, Lit.int.injEq, true_and] at h2
        rw [Option.map_some, ← h2]
        rfl
    · rw [List.getElem?_eq_none (by omega), List.getElem?_eq_none (by rw [Go.Fx.wvs, List.length_map]; show 64 ≤ i; omega)]
  have hv1 := hv0
  unfold World.var? at hv1
  rw [hg0] at hv1
  simp only [Option.bind_some] at hv1
  cases hh : W.heap[0]? with
  | none => rw [hh] at hv1; cases hv1
  | some o =>
    rw [hh] at hv1
    cases o with
    | cells cs t fr =>
      simp only [Option.some.injEq] at hv1
      subst hv1
      refine ⟨t, fr, ?_⟩
      rw [hh]
      have : cs = (Go.Fx.wvs Go.Fx.cubesL).toArray := by apply Array.ext'; simpa using hcs
      rw [this]
    | _ => cases hv1
end Go.Proofs.YtfpjpecenlbanaaDoor
set_option linter.unusedVariables false
set_option linter.unusedSimpArgs false
namespace Go.Proofs.YtfpjpecenlbanaaDoor
open Go.ChangeShapes Go.WideShapes Go.ChangeAt Go.RowKit
set_option maxRecDepth 100000 in
theorem liftedTreeKeeps (os : Os) (started : os.Started) (H : Type) (enc : TypeId × Value → H) :
    ReturnsInHanded {} Tryd.checked os 4 .any (fun w args => (Rows.treeKeepsSpec.pre enc Tryd.prog Tryd.f4 [] false w args ∧ laidMetH Tryd.prog laidL w) ∧ sizedMet enc Tryd.prog Tryd.f4 (OpenSpec.ofChange Rows.treeKeepsSpec) false w args) (Rows.treeKeepsSpec.post enc Tryd.prog Tryd.f4 false true false false) := by
  refine returnsInHanded_of_change_and (C := Tryd.checked) (X := fun w _ => laidMetH Tryd.prog laidL w) (fun _ _ _ hh h => h.of_heap hh) own started (by kernel_rfl) Tryd.func4
    (ChangeSpec.witness_shaped (enc := enc) (C := Tryd.checked) (os := os) (X := fun w _ => laidMetH Tryd.prog laidL w) false (World.doorLaid Tryd.prog 400 os) #[((Value.agg ((List.replicate 32 (Value.int IntKind.u8 0) ++ List.replicate 2 (Value.int IntKind.i64 0) : List Value).toArray))), .slice none 0 0, .int .u8 0] 8 rfl (World.shaped_of_RefB (by kernel_rfl) (by kernel_rfl)) (by kernel_rfl) (by kernel_rfl) (by kernel_rfl) (door_met os _)) ?_
  intro W base args ds gs before hval0 hW _ _ hL _
  have hcub : Go.Fx.Cub W := cub_of_laid hL
  have hval : ∀ (j : Nat) t v, Tryd.f4.params[j]? = some t → args[j]? = some v → Value.okWide Tryd.prog W .any base t v := hval0
  have hW' := hW
  obtain ⟨p, q, hA0, hV, rfl, hfz, hnd⟩ := hW
  have hA : DataW.TrodAll enc Tryd.prog W 0 (fun _ => true) true Tryd.f4.params.toList args.toList ds p := hA0
  rw [Tryd.params4] at hA hval
  obtain ⟨v0, vs0, d0, ds0, p0, q0, hargs, rfl, rfl, h0, r0⟩ := trodAll_cons hA
  obtain ⟨v1, vs1, d1, ds1, p1, q1, rfl, rfl, rfl, h1, r1⟩ := trodAll_cons r0
  obtain ⟨v2, vs2, d2, ds2, p2, q2, rfl, rfl, rfl, h2, r2⟩ := trodAll_cons r1
  obtain ⟨rfl, rfl, rfl⟩ := trodAll_nil r2
  obtain rfl : args = #[v0, v1, v2] := by cases args; simp_all
  obtain ⟨rfl, rfl⟩ := trodVars_none hV
  obtain ⟨cs0, rfl, sz0⟩ := okWide_struct Tryd.underlying25 (hval 0 25 v0 rfl rfl)
  have k0 := h0
  have lt0 : ∀ x ∈ p0, x.block < W.heap.size := by obtain ⟨m, hm⟩ := k0; exact DataW.trod_lt m _ _ _ hm
  obtain ⟨f0, hf0⟩ := h0
  have hx0 := Go.Fx.O_flurrylaw11_Start hf0
  obtain ⟨x0, rfl, rd0⟩ := hx0
  obtain ⟨a1, len1, cap1, rfl⟩ := okWide_slice Tryd.underlying26 (hval 1 26 v1 rfl rfl)
  have k1 := h1
  have lt1 : ∀ x ∈ p1, x.block < W.heap.size := by obtain ⟨m, hm⟩ := k1; exact DataW.trod_lt m _ _ _ hm
  obtain ⟨f1, hf1⟩ := h1
  have hx1 := Go.Fx.O_sl_flurrylaw11_Grow hf1
  obtain ⟨l1, rd1⟩ := hx1
  obtain ⟨a2, rfl, rfl, rfl, w2⟩ := open_int Tryd.underlying5 (hval 2 5 v2 rfl rfl) h2
  have b2 := bounds_u8 w2
  obtain ⟨n2, rfl⟩ := Int.eq_ofNat_of_zero_le b2.1
  have b2 : n2 < 256 := by omega
  clear hA0 hval0
  have hcal := Go.Fx.wKeeps (q := x0) hcub rd1 b2
  refine Calls.mono hcal fun e W' ⟨v, he, hv, hf⟩ => ?_
  subst hv
  subst he
  have bel : Below W.heap.size W W' := hf.below (by simp)
  exact ⟨_, rfl, _, _, _, [], _, [], hW', trodAll_mk1 (shut_bool Tryd.underlying4 _), (trodAll_cons_mk (Below.trod laidOut (by kernel_rfl) (of_decide_eq_true (by kernel_rfl)) k0 bel lt0) (trodAll_cons_mk (Below.trod laidOut (by kernel_rfl) (of_decide_eq_true (by kernel_rfl)) k1 bel lt1) (trodAll_cons_mk (shut_int Tryd.underlying5 w2) trodAll_mk0))), rfl, bel.frame _, fun h => by cases h⟩
theorem treeKeeps : Rows.TreeKeepsSaid :=
  OpenClaim.holds_of_wide 4 Tryd.f4 rfl rfl rfl rfl rfl rfl rfl ⟨rfl, rfl, rfl, rfl, rfl⟩ rfl rfl rfl rfl rfl (by kernel_rfl) Tryd.func4 (by kernel_rfl)
    (of_decide_eq_true (by kernel_rfl)) (by unfold Func.isWrapper; first | (rw [if_pos (by decide +kernel)]; kernel_rfl) | (rw [if_neg (by decide +kernel)]; exact ⟨rfl, rfl⟩))
    (fun os started H enc _ => liftedTreeKeeps os started H enc)
theorem treeKeepsCard : Rows.TreeKeepsCardSaid :=
  Claim7.holds_tied_plain_at .later [] [.data] true (true, "1fa925fa77ed7ed6f92739c319b9121af18d39d21fad0a237d9fb8bc4696d06f") false
    treeKeeps (fun _ h => by cases h) (by kernel_rfl) (fun _ h => by cases h) treeKeeps_row_tie rfl ⟨rfl, rfl⟩ (by kernel_rfl) rfl
    (fun f fn hf hfn => by
      obtain rfl : f = 4 := Option.some.inj ((show Tryd.prog.funcNamed "flurry/flurrylaw11.TreeKeeps" = some 4 by kernel_rfl).symm.trans hf) |>.symm
      obtain rfl : fn = Tryd.f4 := (Option.some.inj (Tryd.func4.symm.trans hfn)).symm
      exact ⟨by kernel_rfl, fun j t ht => by
        rw [Tryd.params4] at ht
        have hm : t ∈ [25, 26, 5] := by simpa using Array.mem_of_getElem? ht
        have hall : ([25, 26, 5].all fun u => !Tryd.prog.wantsStandIn u) = true := by kernel_rfl
        exact (show Tryd.prog.wantsStandIn t = false by simpa using List.all_eq_true.1 hall t hm)⟩)
    (by kernel_rfl)
#print axioms treeKeepsCard
end Go.Proofs.YtfpjpecenlbanaaDoor
