/-
  The example of the statements on holds.
-/
import Derived.MapKept
import Derived.WideKeyRuns
import Derived.Maps.RangeRun
import Derived.KernelRfl
import Derived.Test.YtichejdalolfgaaGreatDoorQ4b51fd60
import Derived.Test.YtichejdalolfgaaGreatDoorQf187741a
import Derived.Test.YtichejdalolfgaaGreatDoorQd768562e
import Derived.Test.YtichejdalolfgaaGreatDoorQb57e8ea3
set_option linter.unusedVariables false
set_option linter.unusedSimpArgs false
namespace Go.Fx
structure Blk where
  p : Vec 32
  h : Int
  d : List UInt8
deriving DecidableEq
def Blk.none : Blk := ⟨vz 32, 0, []⟩
def Blk.chk (b : Blk) : Int := if b.h < 0 ∨ 200 < b.d.length ∨ (b.h = 0 ∧ b.p ≠ vz 32) then 30 else 0
theorem Blk.chk_or (b : Blk) : b.chk = 0 ∨ b.chk = 30 := by unfold Blk.chk; split <;> simp
theorem Blk.chk_ok {b : Blk} (h : b.chk = 0) : 0 ≤ b.h ∧ b.d.length ≤ 200 ∧ (b.h = 0 → b.p = vz 32) := by
  unfold Blk.chk at h
  split at h
  · cases h
  · rename_i hn
    refine ⟨by omega, by omega, fun h0 => ?_⟩
    by_cases hp : b.p = vz 32
    · exact hp
    · exact absurd (.inr (.inr ⟨h0, hp⟩)) hn
/-- A block as a value: its data stand where v says. -/
abbrev bq (b : Blk) (v : Value) : Value := .agg (Rdr.cells Q_api_Block (b.p, b.h, v)).toArray
theorem bq_none : Value.agg (Rdr.cells Q_api_Block (vz 32, (0 : Int), Value.slice Option.none 0 0)).toArray = bq Blk.none (.slice Option.none 0 0) := rfl
abbrev bb (g : Nat) (b : Blk) (v : Value) : Asn := blk g (Rdr.cells Q_api_Block (b.p, b.h, v)).toArray T_api_Block
theorem B_ID0 {w : World} (K : Value → Prop) : rdP P (Instr.build T_api_ID #[]) w K = K (.agg (Rdr.cells (rVec 32) (vz 32)).toArray) := rdP_eq (by kernel_rfl) K
theorem bxQ {w0 w : World} {As : List Asn} {t : TypeId} {cs : Array Value} {K : Value → World → Prop} (hs : Sep w0 w As) (h : ∀ g w', Sep w0 w' (blk g cs t :: As) → K (.pointer (some ⟨g, 0, .none⟩)) w') : bx t (.agg cs) w K := bx_s hs fun g w' hs' => h g w' hs'
theorem RdB.one {h : Heap} {v : Value} {l : List UInt8} (hr : RdB h v l) : v.oneCell' = true := by obtain ⟨a, c, rfl⟩ := hr.form; rfl
theorem RdB.lenEq {h : Heap} {v : Value} {l : List UInt8} (hr : RdB h v l) (K : Value → Prop) : lenS v K = K (.int .i64 l.length) := hr.len K
section
variable {w0 w : World} {As : List Asn} {v u : Value} {a b : Blk}
theorem Check_spec (hb : RdB w.heap v b.d) : cal P f_block_Check [bq b v] w fun r w' => r = .int .i64 b.chk ∧ Fr [] w w' := by
  refine s_block_Check fun R hR => ?_
  unfold c_block_Check
  refine bxQ (Sep.start w) fun g w1 hs => ?_
  have hl := (hs.rdB hb).len
  have hf := hs.fr0
  have fin : ∀ c : Int, b.chk = c → R (.int .i64 c) w1 := fun c hc => hR _ _ ⟨by rw [hc], hf⟩
  by_cases h : b.h < 0
  · simp only [h, decide_true, nilc_some, fad_mk, pik_true, pik_false, cnd_true, cnd_false, gif_same, gif_tf, gif_ft, gif_undef, bi_add, bi_sub, bi_mul, bi_eql, bi_neq, bi_lss, bi_leq, bi_gtr, bi_geq, notB_bool, cvi_int, lenS_mk, lenT_mk, ext0, ext1, ext2, nilP_mk, nilS_mk, fldv_agg, jn0_k, jn1_k, jn2_k, jn1_and, jn1_or, ex_some, Option.isNone_some, Option.isNone_none, Bool.false_bne, Bool.bne_true, Bool.bne_false, Bool.true_bne, Bool.not_true, Bool.not_false, Bool.and_true, Bool.true_and, Bool.and_false, Bool.false_and, Bool.or_true, Bool.true_or, Bool.or_false, Bool.false_or, cond_true, cond_false, List.getElem?_toArray, List.getElem?_cons_zero, List.getElem?_cons_succ, Nat.zero_add, Nat.add_zero, Nat.reduceAdd, forall_const, L_api_Block hs.blk, L_api_Block__Parent hs.blk, L_api_Block__Height hs.blk, L_api_Block__Data hs.blk]
    exact fin 30 (by simp [Blk.chk, h])
  · by_cases h2 : 200 < b.d.length
    · have e : decide ((200 : Int) < b.d.length) = true := by simp; omega
      simp only [h, decide_false, e, hl, nilc_some, fad_mk, pik_true, pik_false, cnd_true, cnd_false, gif_same, gif_tf, gif_ft, gif_undef, bi_add, bi_sub, bi_mul, bi_eql, bi_neq, bi_lss, bi_leq, bi_gtr, bi_geq, notB_bool, cvi_int, lenS_mk, lenT_mk, ext0, ext1, ext2, nilP_mk, nilS_mk, fldv_agg, jn0_k, jn1_k, jn2_k, jn1_and, jn1_or, ex_some, Option.isNone_some, Option.isNone_none, Bool.false_bne, Bool.bne_true, Bool.bne_false, Bool.true_bne, Bool.not_true, Bool.not_false, Bool.and_true, Bool.true_and, Bool.and_false, Bool.false_and, Bool.or_true, Bool.true_or, Bool.or_false, Bool.false_or, cond_true, cond_false, List.getElem?_toArray, List.getElem?_cons_zero, List.getElem?_cons_succ, Nat.zero_add, Nat.add_zero, Nat.reduceAdd, forall_const, L_api_Block hs.blk, L_api_Block__Parent hs.blk, L_api_Block__Height hs.blk, L_api_Block__Data hs.blk]
      exact fin 30 (by simp [Blk.chk, h2])
    · have e : decide ((200 : Int) < b.d.length) = false := by simp; omega
      by_cases h0 : b.h = 0
      · simp only [h, decide_false, e, hl, nilc_some, fad_mk, pik_true, pik_false, cnd_true, cnd_false, gif_same, gif_tf, gif_ft, gif_undef, bi_add, bi_sub, bi_mul, bi_eql, bi_neq, bi_lss, bi_leq, bi_gtr, bi_geq, notB_bool, cvi_int, lenS_mk, lenT_mk, ext0, ext1, ext2, nilP_mk, nilS_mk, fldv_agg, jn0_k, jn1_k, jn2_k, jn1_and, jn1_or, ex_some, Option.isNone_some, Option.isNone_none, Bool.false_bne, Bool.bne_true, Bool.bne_false, Bool.true_bne, Bool.not_true, Bool.not_false, Bool.and_true, Bool.true_and, Bool.and_false, Bool.false_and, Bool.or_true, Bool.true_or, Bool.or_false, Bool.false_or, cond_true, cond_false, List.getElem?_toArray, List.getElem?_cons_zero, List.getElem?_cons_succ, Nat.zero_add, Nat.add_zero, Nat.reduceAdd, forall_const, L_api_Block hs.blk, L_api_Block__Parent hs.blk, L_api_Block__Height hs.blk, L_api_Block__Data hs.blk, B_ID0, ne_api_ID, h0, show ((0 : Int) == 0) = true from rfl, show decide ((0 : Int) < 0) = false from rfl]
        rw [cnd_bool]
        refine ⟨fun h3 => fin 30 ?_, fun h3 => fin 0 ?_⟩
        · have h3 : b.p ≠ vz 32 := by simpa using h3
          simp [Blk.chk, h0, h3]
        · have h3 : b.p = vz 32 := by simpa using h3
          unfold Blk.chk
          rw [if_neg (by rw [h3]; simp; omega)]
      · have he : (b.h == 0) = false := by simpa using h0
        simp only [h, decide_false, e, hl, nilc_some, fad_mk, pik_true, pik_false, cnd_true, cnd_false, gif_same, gif_tf, gif_ft, gif_undef, bi_add, bi_sub, bi_mul, bi_eql, bi_neq, bi_lss, bi_leq, bi_gtr, bi_geq, notB_bool, cvi_int, lenS_mk, lenT_mk, ext0, ext1, ext2, nilP_mk, nilS_mk, fldv_agg, jn0_k, jn1_k, jn2_k, jn1_and, jn1_or, ex_some, Option.isNone_some, Option.isNone_none, Bool.false_bne, Bool.bne_true, Bool.bne_false, Bool.true_bne, Bool.not_true, Bool.not_false, Bool.and_true, Bool.true_and, Bool.and_false, Bool.false_and, Bool.or_true, Bool.true_or, Bool.or_false, Bool.false_or, cond_true, cond_false, List.getElem?_toArray, List.getElem?_cons_zero, List.getElem?_cons_succ, Nat.zero_add, Nat.add_zero, Nat.reduceAdd, forall_const, L_api_Block hs.blk, L_api_Block__Parent hs.blk, L_api_Block__Height hs.blk, L_api_Block__Data hs.blk, he]
        refine fin 0 ?_
        unfold Blk.chk
        rw [if_neg (by simp [h0]; omega)]
theorem rCheck_spec (hb : RdB w.heap v b.d) : cal P f_ref03_Check [bq b v] w fun r w' => r = .int .i64 b.chk ∧ Fr [] w w' := by
  refine s_ref03_Check fun R hR => ?_
  unfold c_ref03_Check
  refine bxQ (Sep.start w) fun g w1 hs => ?_
  have hl := (hs.rdB hb).len
  have hf := hs.fr0
  have fin : ∀ c : Int, b.chk = c → R (.int .i64 c) w1 := fun c hc => hR _ _ ⟨by rw [hc], hf⟩
  by_cases h : b.h < 0
  · simp only [h, decide_true, nilc_some, fad_mk, pik_true, pik_false, cnd_true, cnd_false, gif_same, gif_tf, gif_ft, gif_undef, bi_add, bi_sub, bi_mul, bi_eql, bi_neq, bi_lss, bi_leq, bi_gtr, bi_geq, notB_bool, cvi_int, lenS_mk, lenT_mk, ext0, ext1, ext2, nilP_mk, nilS_mk, fldv_agg, jn0_k, jn1_k, jn2_k, jn1_and, jn1_or, ex_some, Option.isNone_some, Option.isNone_none, Bool.false_bne, Bool.bne_true, Bool.bne_false, Bool.true_bne, Bool.not_true, Bool.not_false, Bool.and_true, Bool.true_and, Bool.and_false, Bool.false_and, Bool.or_true, Bool.true_or, Bool.or_false, Bool.false_or, cond_true, cond_false, List.getElem?_toArray, List.getElem?_cons_zero, List.getElem?_cons_succ, Nat.zero_add, Nat.add_zero, Nat.reduceAdd, forall_const, L_api_Block hs.blk, L_api_Block__Parent hs.blk, L_api_Block__Height hs.blk, L_api_Block__Data hs.blk]
    exact fin 30 (by simp [Blk.chk, h])
  · by_cases h2 : 200 < b.d.length
    · have e : decide ((200 : Int) < b.d.length) = true := by simp; omega
      simp only [h, decide_false, e, hl, nilc_some, fad_mk, pik_true, pik_false, cnd_true, cnd_false, gif_same, gif_tf, gif_ft, gif_undef, bi_add, bi_sub, bi_mul, bi_eql, bi_neq, bi_lss, bi_leq, bi_gtr, bi_geq, notB_bool, cvi_int, lenS_mk, lenT_mk, ext0, ext1, ext2, nilP_mk, nilS_mk, fldv_agg, jn0_k, jn1_k, jn2_k, jn1_and, jn1_or, ex_some, Option.isNone_some, Option.isNone_none, Bool.false_bne, Bool.bne_true, Bool.bne_false, Bool.true_bne, Bool.not_true, Bool.not_false, Bool.and_true, Bool.true_and, Bool.and_false, Bool.false_and, Bool.or_true, Bool.true_or, Bool.or_false, Bool.false_or, cond_true, cond_false, List.getElem?_toArray, List.getElem?_cons_zero, List.getElem?_cons_succ, Nat.zero_add, Nat.add_zero, Nat.reduceAdd, forall_const, L_api_Block hs.blk, L_api_Block__Parent hs.blk, L_api_Block__Height hs.blk, L_api_Block__Data hs.blk]
      exact fin 30 (by simp [Blk.chk, h2])
    · have e : decide ((200 : Int) < b.d.length) = false := by simp; omega
      by_cases h0 : b.h = 0
      · simp only [h, decide_false, e, hl, nilc_some, fad_mk, pik_true, pik_false, cnd_true, cnd_false, gif_same, gif_tf, gif_ft, gif_undef, bi_add, bi_sub, bi_mul, bi_eql, bi_neq, bi_lss, bi_leq, bi_gtr, bi_geq, notB_bool, cvi_int, lenS_mk, lenT_mk, ext0, ext1, ext2, nilP_mk, nilS_mk, fldv_agg, jn0_k, jn1_k, jn2_k, jn1_and, jn1_or, ex_some, Option.isNone_some, Option.isNone_none, Bool.false_bne, Bool.bne_true, Bool.bne_false, Bool.true_bne, Bool.not_true, Bool.not_false, Bool.and_true, Bool.true_and, Bool.and_false, Bool.false_and, Bool.or_true, Bool.true_or, Bool.or_false, Bool.false_or, cond_true, cond_false, List.getElem?_toArray, List.getElem?_cons_zero, List.getElem?_cons_succ, Nat.zero_add, Nat.add_zero, Nat.reduceAdd, forall_const, L_api_Block hs.blk, L_api_Block__Parent hs.blk, L_api_Block__Height hs.blk, L_api_Block__Data hs.blk, B_ID0, ne_api_ID, h0, show ((0 : Int) == 0) = true from rfl, show decide ((0 : Int) < 0) = false from rfl]
        rw [cnd_bool]
        refine ⟨fun h3 => fin 30 ?_, fun h3 => fin 0 ?_⟩
        · have h3 : b.p ≠ vz 32 := by simpa using h3
          simp [Blk.chk, h0, h3]
        · have h3 : b.p = vz 32 := by simpa using h3
          unfold Blk.chk
          rw [if_neg (by rw [h3]; simp; omega)]
      · have he : (b.h == 0) = false := by simpa using h0
        simp only [h, decide_false, e, hl, nilc_some, fad_mk, pik_true, pik_false, cnd_true, cnd_false, gif_same, gif_tf, gif_ft, gif_undef, bi_add, bi_sub, bi_mul, bi_eql, bi_neq, bi_lss, bi_leq, bi_gtr, bi_geq, notB_bool, cvi_int, lenS_mk, lenT_mk, ext0, ext1, ext2, nilP_mk, nilS_mk, fldv_agg, jn0_k, jn1_k, jn2_k, jn1_and, jn1_or, ex_some, Option.isNone_some, Option.isNone_none, Bool.false_bne, Bool.bne_true, Bool.bne_false, Bool.true_bne, Bool.not_true, Bool.not_false, Bool.and_true, Bool.true_and, Bool.and_false, Bool.false_and, Bool.or_true, Bool.true_or, Bool.or_false, Bool.false_or, cond_true, cond_false, List.getElem?_toArray, List.getElem?_cons_zero, List.getElem?_cons_succ, Nat.zero_add, Nat.add_zero, Nat.reduceAdd, forall_const, L_api_Block hs.blk, L_api_Block__Parent hs.blk, L_api_Block__Height hs.blk, L_api_Block__Data hs.blk, he]
        refine fin 0 ?_
        unfold Blk.chk
        rw [if_neg (by simp [h0]; omega)]
theorem Blk.ext_iff' {a b : Blk} : a = b ↔ a.p = b.p ∧ a.h = b.h ∧ a.d = b.d := by
  cases a; cases b; simp
theorem rSame_spec (ha : RdB w.heap u a.d) (hb : RdB w.heap v b.d) : cal P f_ref03_Same [bq a u, bq b v] w fun r w' => r = .bool (decide (a = b)) ∧ Fr [] w w' := by
  refine s_ref03_Same fun R hR => ?_
  unfold c_ref03_Same
  refine bxQ (Sep.start w) fun g w1 hs => ?_
  refine bxQ hs fun g2 w2 hs2 => ?_
  have hf := hs2.fr0
  have fin : ∀ c : Bool, decide (a = b) = c → R (.bool c) w2 := fun c hc => hR _ _ ⟨by rw [hc], hf⟩
  simp only [nilc_some, fad_mk, pik_true, pik_false, cnd_true, cnd_false, gif_same, gif_tf, gif_ft, gif_undef, bi_add, bi_sub, bi_mul, bi_eql, bi_neq, bi_lss, bi_leq, bi_gtr, bi_geq, notB_bool, cvi_int, lenS_mk, lenT_mk, ext0, ext1, ext2, nilP_mk, nilS_mk, fldv_agg, jn0_k, jn1_k, jn2_k, jn1_and, jn1_or, ex_some, Option.isNone_some, Option.isNone_none, Bool.false_bne, Bool.bne_true, Bool.bne_false, Bool.true_bne, Bool.not_true, Bool.not_false, Bool.and_true, Bool.true_and, Bool.and_false, Bool.false_and, Bool.or_true, Bool.true_or, Bool.or_false, Bool.false_or, cond_true, cond_false, List.getElem?_toArray, List.getElem?_cons_zero, List.getElem?_cons_succ, Nat.zero_add, Nat.add_zero, Nat.reduceAdd, forall_const, L_api_Block hs2.blk, L_api_Block__Parent hs2.blk, L_api_Block__Height hs2.blk, L_api_Block__Data hs2.blk, L_api_Block (Sep.p1 hs2).blk, L_api_Block__Parent (Sep.p1 hs2).blk, L_api_Block__Height (Sep.p1 hs2).blk, L_api_Block__Data (Sep.p1 hs2).blk, eq_api_ID]
  by_cases hp : a.p = b.p
  · simp only [hp, decide_true, nilc_some, fad_mk, pik_true, pik_false, cnd_true, cnd_false, gif_same, gif_tf, gif_ft, gif_undef, bi_add, bi_sub, bi_mul, bi_eql, bi_neq, bi_lss, bi_leq, bi_gtr, bi_geq, notB_bool, cvi_int, lenS_mk, lenT_mk, ext0, ext1, ext2, nilP_mk, nilS_mk, fldv_agg, jn0_k, jn1_k, jn2_k, jn1_and, jn1_or, ex_some, Option.isNone_some, Option.isNone_none, Bool.false_bne, Bool.bne_true, Bool.bne_false, Bool.true_bne, Bool.not_true, Bool.not_false, Bool.and_true, Bool.true_and, Bool.and_false, Bool.false_and, Bool.or_true, Bool.true_or, Bool.or_false, Bool.false_or, cond_true, cond_false, List.getElem?_toArray, List.getElem?_cons_zero, List.getElem?_cons_succ, Nat.zero_add, Nat.add_zero, Nat.reduceAdd, forall_const, L_api_Block hs2.blk, L_api_Block__Parent hs2.blk, L_api_Block__Height hs2.blk, L_api_Block__Data hs2.blk, L_api_Block (Sep.p1 hs2).blk, L_api_Block__Parent (Sep.p1 hs2).blk, L_api_Block__Height (Sep.p1 hs2).blk, L_api_Block__Data (Sep.p1 hs2).blk]
    by_cases hh : a.h = b.h
    · simp only [hh, nilc_some, fad_mk, pik_true, pik_false, cnd_true, cnd_false, gif_same, gif_tf, gif_ft, gif_undef, bi_add, bi_sub, bi_mul, bi_eql, bi_neq, bi_lss, bi_leq, bi_gtr, bi_geq, notB_bool, cvi_int, lenS_mk, lenT_mk, ext0, ext1, ext2, nilP_mk, nilS_mk, fldv_agg, jn0_k, jn1_k, jn2_k, jn1_and, jn1_or, ex_some, Option.isNone_some, Option.isNone_none, Bool.false_bne, Bool.bne_true, Bool.bne_false, Bool.true_bne, Bool.not_true, Bool.not_false, Bool.and_true, Bool.true_and, Bool.and_false, Bool.false_and, Bool.or_true, Bool.true_or, Bool.or_false, Bool.false_or, cond_true, cond_false, List.getElem?_toArray, List.getElem?_cons_zero, List.getElem?_cons_succ, Nat.zero_add, Nat.add_zero, Nat.reduceAdd, forall_const, beq_self_eq_true, L_api_Block hs2.blk, L_api_Block__Parent hs2.blk, L_api_Block__Height hs2.blk, L_api_Block__Data hs2.blk, L_api_Block (Sep.p1 hs2).blk, L_api_Block__Parent (Sep.p1 hs2).blk, L_api_Block__Height (Sep.p1 hs2).blk, L_api_Block__Data (Sep.p1 hs2).blk]
      refine jn1_dup ?_
      rw [rdP_eq (conv_str UT_bytes UT_uint8 UT_string (hs2.rdB ha)), rdP_eq (conv_str UT_bytes UT_uint8 UT_string (hs2.rdB hb)), eqS_str]
      intro _
      refine fin _ ?_
      rw [Bool.eq_iff_iff]
      simp [Blk.ext_iff', hp, hh]
    · have e : (a.h == b.h) = false := by simpa using hh
      simp only [e, nilc_some, fad_mk, pik_true, pik_false, cnd_true, cnd_false, gif_same, gif_tf, gif_ft, gif_undef, bi_add, bi_sub, bi_mul, bi_eql, bi_neq, bi_lss, bi_leq, bi_gtr, bi_geq, notB_bool, cvi_int, lenS_mk, lenT_mk, ext0, ext1, ext2, nilP_mk, nilS_mk, fldv_agg, jn0_k, jn1_k, jn2_k, jn1_and, jn1_or, ex_some, Option.isNone_some, Option.isNone_none, Bool.false_bne, Bool.bne_true, Bool.bne_false, Bool.true_bne, Bool.not_true, Bool.not_false, Bool.and_true, Bool.true_and, Bool.and_false, Bool.false_and, Bool.or_true, Bool.true_or, Bool.or_false, Bool.false_or, cond_true, cond_false, List.getElem?_toArray, List.getElem?_cons_zero, List.getElem?_cons_succ, Nat.zero_add, Nat.add_zero, Nat.reduceAdd, forall_const]
      exact fin _ (by simp [Blk.ext_iff', hh])
  · simp only [hp, decide_false, nilc_some, fad_mk, pik_true, pik_false, cnd_true, cnd_false, gif_same, gif_tf, gif_ft, gif_undef, bi_add, bi_sub, bi_mul, bi_eql, bi_neq, bi_lss, bi_leq, bi_gtr, bi_geq, notB_bool, cvi_int, lenS_mk, lenT_mk, ext0, ext1, ext2, nilP_mk, nilS_mk, fldv_agg, jn0_k, jn1_k, jn2_k, jn1_and, jn1_or, ex_some, Option.isNone_some, Option.isNone_none, Bool.false_bne, Bool.bne_true, Bool.bne_false, Bool.true_bne, Bool.not_true, Bool.not_false, Bool.and_true, Bool.true_and, Bool.and_false, Bool.false_and, Bool.or_true, Bool.true_or, Bool.or_false, Bool.false_or, cond_true, cond_false, List.getElem?_toArray, List.getElem?_cons_zero, List.getElem?_cons_succ, Nat.zero_add, Nat.add_zero, Nat.reduceAdd, forall_const]
    exact fin _ (by simp [Blk.ext_iff', hp])
theorem bkClone_spec (hb : RdB w.heap v b.d) (hl : b.d.length ≤ 140737488355328) : cal P f_block_Clone [bq b v] w fun r w' => ∃ v', r = bq b v' ∧ Sep w w' [ownB v' b.d] := by
  refine s_block_Clone fun R hR => ?_
  unfold c_block_Clone
  refine bxQ (Sep.start w) fun g w1 hs => ?_
  refine alloc_s hs (A_api_Block w1) fun g2 w2 hs2 => ?_
  simp only [nilc_some, fad_mk, pik_true, pik_false, cnd_true, cnd_false, gif_same, gif_tf, gif_ft, gif_undef, bi_add, bi_sub, bi_mul, bi_eql, bi_neq, bi_lss, bi_leq, bi_gtr, bi_geq, notB_bool, cvi_int, lenS_mk, lenT_mk, ext0, ext1, ext2, nilP_mk, nilS_mk, fldv_agg, jn0_k, jn1_k, jn2_k, jn1_and, jn1_or, ex_some, Option.isNone_some, Option.isNone_none, Bool.false_bne, Bool.bne_true, Bool.bne_false, Bool.true_bne, Bool.not_true, Bool.not_false, Bool.and_true, Bool.true_and, Bool.and_false, Bool.false_and, Bool.or_true, Bool.true_or, Bool.or_false, Bool.false_or, cond_true, cond_false, List.getElem?_toArray, List.getElem?_cons_zero, List.getElem?_cons_succ, Nat.zero_add, Nat.add_zero, Nat.reduceAdd, forall_const, L_api_Block (Sep.p1 hs2).blk, L_api_Block__Parent (Sep.p1 hs2).blk, L_api_Block__Height (Sep.p1 hs2).blk, L_api_Block__Data (Sep.p1 hs2).blk]
  refine cal_i (bClone_spec (hs2.rdB hb) hl) ?_
  rintro v' w3 hs3
  replace hs3 := (hs2.join hs3).p2
  refine St_api_Block__Data hs3 (Sep.one hs3.p1) fun w4 hs4 => ?_
  simp only [L_api_Block hs4.blk, L_api_Block__Parent hs4.blk, L_api_Block__Height hs4.blk, L_api_Block__Data hs4.blk]
  refine St_api_Block hs4.p2 (one_api_Block (Sep.one hs4.p1)) fun w5 hs5 => ?_
  simp only [L_api_Block hs5.blk, L_api_Block__Parent hs5.blk, L_api_Block__Height hs5.blk, L_api_Block__Data hs5.blk]
  exact hR _ _ ⟨v', rfl, hs5.d1.tail⟩
theorem rbClone_spec (hb : RdB w.heap v b.d) (hl : b.d.length ≤ 140737488355328) : cal P f_ref03_Clone [bq b v] w fun r w' => ∃ v', r = bq b v' ∧ Sep w w' [ownB v' b.d] := by
  refine s_ref03_Clone fun R hR => ?_
  unfold c_ref03_Clone
  refine bxQ (Sep.start w) fun g w1 hs => ?_
  refine alloc_s hs (A_api_Block w1) fun g2 w2 hs2 => ?_
  simp only [nilc_some, fad_mk, pik_true, pik_false, cnd_true, cnd_false, gif_same, gif_tf, gif_ft, gif_undef, bi_add, bi_sub, bi_mul, bi_eql, bi_neq, bi_lss, bi_leq, bi_gtr, bi_geq, notB_bool, cvi_int, lenS_mk, lenT_mk, ext0, ext1, ext2, nilP_mk, nilS_mk, fldv_agg, jn0_k, jn1_k, jn2_k, jn1_and, jn1_or, ex_some, Option.isNone_some, Option.isNone_none, Bool.false_bne, Bool.bne_true, Bool.bne_false, Bool.true_bne, Bool.not_true, Bool.not_false, Bool.and_true, Bool.true_and, Bool.and_false, Bool.false_and, Bool.or_true, Bool.true_or, Bool.or_false, Bool.false_or, cond_true, cond_false, List.getElem?_toArray, List.getElem?_cons_zero, List.getElem?_cons_succ, Nat.zero_add, Nat.add_zero, Nat.reduceAdd, forall_const, L_api_Block (Sep.p1 hs2).blk, L_api_Block__Parent (Sep.p1 hs2).blk, L_api_Block__Height (Sep.p1 hs2).blk, L_api_Block__Data (Sep.p1 hs2).blk]
  refine appB_s S_sl_uint8 U_sl_uint8 (by simp) hs2.nil (hs2.rdB hb) (by simp; omega) fun v' w3 hs3 => ?_
  rw [List.nil_append] at hs3
  replace hs3 := hs3.p2
  refine St_api_Block__Data hs3 (Sep.one hs3.p1) fun w4 hs4 => ?_
  simp only [L_api_Block hs4.blk, L_api_Block__Parent hs4.blk, L_api_Block__Height hs4.blk, L_api_Block__Data hs4.blk]
  refine St_api_Block hs4.p2 (one_api_Block (Sep.one hs4.p1)) fun w5 hs5 => ?_
  simp only [L_api_Block hs5.blk, L_api_Block__Parent hs5.blk, L_api_Block__Height hs5.blk, L_api_Block__Data hs5.blk]
  exact hR _ _ ⟨v', rfl, hs5.d1.tail⟩
/-- A block, if it may be. -/
def Blk.mk' (b : Blk) : Blk := if b.chk = 0 then b else Blk.none
theorem made_spec (hb : RdB w.heap v b.d) : cal P f_block_made [bq b v] w fun r w' => ∃ v', r = .tuple #[bq b.mk' v', .int .i64 b.chk] ∧ Sep w w' [ownB v' b.mk'.d] := by
  refine s_block_made fun R hR => ?_
  unfold c_block_made
  refine bxQ (Sep.start w) fun g w1 hs => ?_
  refine alloc_s hs (A_api_Block w1) fun g2 w2 hs2 => ?_
  simp only [nilc_some, fad_mk, pik_true, pik_false, cnd_true, cnd_false, gif_same, gif_tf, gif_ft, gif_undef, bi_add, bi_sub, bi_mul, bi_eql, bi_neq, bi_lss, bi_leq, bi_gtr, bi_geq, notB_bool, cvi_int, lenS_mk, lenT_mk, ext0, ext1, ext2, nilP_mk, nilS_mk, fldv_agg, jn0_k, jn1_k, jn2_k, jn1_and, jn1_or, ex_some, Option.isNone_some, Option.isNone_none, Bool.false_bne, Bool.bne_true, Bool.bne_false, Bool.true_bne, Bool.not_true, Bool.not_false, Bool.and_true, Bool.true_and, Bool.and_false, Bool.false_and, Bool.or_true, Bool.true_or, Bool.or_false, Bool.false_or, cond_true, cond_false, List.getElem?_toArray, List.getElem?_cons_zero, List.getElem?_cons_succ, Nat.zero_add, Nat.add_zero, Nat.reduceAdd, forall_const, L_api_Block (Sep.p1 hs2).blk, L_api_Block__Parent (Sep.p1 hs2).blk, L_api_Block__Height (Sep.p1 hs2).blk, L_api_Block__Data (Sep.p1 hs2).blk]
  refine cal_i (Check_spec (hs2.rdB hb)) ?_
  rintro _ w3 ⟨rfl, hf3⟩
  have hs3 := hs2.old hf3
  rw [bi_neq]
  rcases Blk.chk_or b with h0 | h0
  · have hck := Blk.chk_ok h0
    have hm : b.mk' = b := by rw [Blk.mk', if_pos h0]
    rw [hm, h0] at hR
    simp only [h0, nilc_some, fad_mk, pik_true, pik_false, cnd_true, cnd_false, gif_same, gif_tf, gif_ft, gif_undef, bi_add, bi_sub, bi_mul, bi_eql, bi_neq, bi_lss, bi_leq, bi_gtr, bi_geq, notB_bool, cvi_int, lenS_mk, lenT_mk, ext0, ext1, ext2, nilP_mk, nilS_mk, fldv_agg, jn0_k, jn1_k, jn2_k, jn1_and, jn1_or, ex_some, Option.isNone_some, Option.isNone_none, Bool.false_bne, Bool.bne_true, Bool.bne_false, Bool.true_bne, Bool.not_true, Bool.not_false, Bool.and_true, Bool.true_and, Bool.and_false, Bool.false_and, Bool.or_true, Bool.true_or, Bool.or_false, Bool.false_or, cond_true, cond_false, List.getElem?_toArray, List.getElem?_cons_zero, List.getElem?_cons_succ, Nat.zero_add, Nat.add_zero, Nat.reduceAdd, forall_const, L_api_Block (Sep.p1 hs3).blk, L_api_Block__Parent (Sep.p1 hs3).blk, L_api_Block__Height (Sep.p1 hs3).blk, L_api_Block__Data (Sep.p1 hs3).blk, show ((0 : Int) != 0) = false from rfl]
    refine cal_i (bkClone_spec (hs3.rdB hb) (by omega)) ?_
    rintro _ w4 ⟨v', rfl, hs4⟩
    replace hs4 := (hs3.join hs4).p1
    refine St_api_Block hs4 (one_api_Block (Sep.one hs4.p1)) fun w5 hs5 => ?_
    simp only [L_api_Block hs5.blk, L_api_Block__Parent hs5.blk, L_api_Block__Height hs5.blk, L_api_Block__Data hs5.blk]
    exact hR _ _ ⟨v', rfl, hs5.d2.tail⟩
  · have hm : b.mk' = Blk.none := by rw [Blk.mk', if_neg (by omega)]
    rw [hm, h0] at hR
    simp only [h0, nilc_some, fad_mk, pik_true, pik_false, cnd_true, cnd_false, gif_same, gif_tf, gif_ft, gif_undef, bi_add, bi_sub, bi_mul, bi_eql, bi_neq, bi_lss, bi_leq, bi_gtr, bi_geq, notB_bool, cvi_int, lenS_mk, lenT_mk, ext0, ext1, ext2, nilP_mk, nilS_mk, fldv_agg, jn0_k, jn1_k, jn2_k, jn1_and, jn1_or, ex_some, Option.isNone_some, Option.isNone_none, Bool.false_bne, Bool.bne_true, Bool.bne_false, Bool.true_bne, Bool.not_true, Bool.not_false, Bool.and_true, Bool.true_and, Bool.and_false, Bool.false_and, Bool.or_true, Bool.true_or, Bool.or_false, Bool.false_or, cond_true, cond_false, List.getElem?_toArray, List.getElem?_cons_zero, List.getElem?_cons_succ, Nat.zero_add, Nat.add_zero, Nat.reduceAdd, forall_const, B_api_Block, show ((30 : Int) != 0) = true from rfl]
    refine St_api_Block hs3 (one_api_Block rfl) fun w5 hs5 => ?_
    simp only [L_api_Block hs5.blk, L_api_Block__Parent hs5.blk, L_api_Block__Height hs5.blk, L_api_Block__Data hs5.blk]
    exact hR _ _ ⟨_, rfl, hs5.d1.tail.nil⟩
def Blk.first (d : List UInt8) : Blk := ⟨vz 32, 0, d⟩
theorem First_spec {l : List UInt8} (hb : RdB w.heap v l) : cal P f_block_First [v] w fun r w' => ∃ v', r = .tuple #[bq (Blk.first l).mk' v', .int .i64 (Blk.first l).chk] ∧ Sep w w' [ownB v' (Blk.first l).mk'.d] := by
  refine s_block_First fun R hR => ?_
  unfold c_block_First
  refine alloc_s (Sep.start w) (A_api_Block w) fun g2 w2 hs2 => ?_
  rw [B_api_Block_2 hb.one]
  obtain ⟨b, hbb⟩ : ∃ b, b = Blk.first l := ⟨_, rfl⟩
  have e : Value.agg (Rdr.cells Q_api_Block (vz 32, (0 : Int), v)).toArray = bq b v := by rw [hbb]; rfl
  have hd : b.d = l := by rw [hbb]; rfl
  rw [← hbb] at hR
  rw [e]
  refine cal_i (made_spec (b := b) (by rw [hd]; exact hs2.rdB hb)) ?_
  rintro _ w3 ⟨v', rfl, hs3⟩
  replace hs3 := (hs2.join hs3).p1
  simp only [nilc_some, fad_mk, pik_true, pik_false, cnd_true, cnd_false, gif_same, gif_tf, gif_ft, gif_undef, bi_add, bi_sub, bi_mul, bi_eql, bi_neq, bi_lss, bi_leq, bi_gtr, bi_geq, notB_bool, cvi_int, lenS_mk, lenT_mk, ext0, ext1, ext2, nilP_mk, nilS_mk, fldv_agg, jn0_k, jn1_k, jn2_k, jn1_and, jn1_or, ex_some, Option.isNone_some, Option.isNone_none, Bool.false_bne, Bool.bne_true, Bool.bne_false, Bool.true_bne, Bool.not_true, Bool.not_false, Bool.and_true, Bool.true_and, Bool.and_false, Bool.false_and, Bool.or_true, Bool.true_or, Bool.or_false, Bool.false_or, cond_true, cond_false, List.getElem?_toArray, List.getElem?_cons_zero, List.getElem?_cons_succ, Nat.zero_add, Nat.add_zero, Nat.reduceAdd, forall_const]
  refine St_api_Block hs3 (one_api_Block (Sep.one hs3.p1)) fun w5 hs5 => ?_
  simp only [L_api_Block hs5.blk, L_api_Block__Parent hs5.blk, L_api_Block__Height hs5.blk, L_api_Block__Data hs5.blk]
  exact hR _ _ ⟨v', rfl, hs5.tail⟩
end
end Go.Fx
set_option linter.unusedVariables false
set_option linter.unusedSimpArgs false
namespace Go.Fx
def Blk.bytes (b : Blk) : List UInt8 := [0, 0] ++ b.p.1 ++ be 8 b.h.toNat ++ be 4 b.d.length ++ b.d
theorem Blk.bytes_len (b : Blk) : b.bytes.length = 46 + b.d.length := by
  have := b.p.2
  simp [Blk.bytes, be_length, this]
  omega
def Blk.out (b : Blk) : List UInt8 := if b.chk = 0 then b.bytes else []
def Blk.id (b : Blk) : Vec 32 := shaM b.bytes
def Blk.name (b : Blk) : Vec 32 := if b.chk = 0 then b.id else vz 32
abbrev maxI : Int := 9223372036854775807
section
variable {w0 w : World} {As : List Asn} {v u : Value} {a b : Blk} {g : Nat}
theorem at_par (hs : Sep w0 w (bb g b v :: As)) : At w.heap g 0 (bvs b.p.1) := by
  have := (Fld.fst Fld.self : Fld Q_api_Block (rVec 32) 0 _ _).at (At.blk (cs := Rdr.cells Q_api_Block (b.p, b.h, v)) hs.blk)
  exact this
theorem rd_par (hs : Sep w0 w (bb g b v :: As)) (c : Nat) : RdB w.heap (.slice (some ⟨g, 0, none⟩) 32 c) b.p.1 := by
  have := At.rd (c := c) (at_par hs)
  rwa [b.p.2] at this
theorem ld_par (hs : Sep w0 w (bb g b v :: As)) {i : Nat} (hi : i < 32) (K : Value → Prop) : ld1 (.pointer (some ⟨g, i, none⟩)) w.heap K = K (bv (b.p.1[i]'(by rw [b.p.2]; exact hi))) := by
  have hl := b.p.2
  have h1 : bvs b.p.1 = bvs (b.p.1.take i) ++ [bv (b.p.1[i]'(by omega))] ++ bvs (b.p.1.drop (i + 1)) := by
    have e : b.p.1 = b.p.1.take i ++ b.p.1[i]'(by omega) :: b.p.1.drop (i + 1) := by rw [← List.drop_eq_getElem_cons, List.take_append_drop]
    unfold bvs
    conv => lhs; rw [e]
    rw [List.map_append, List.map_cons]
    simp only [List.append_assoc, List.singleton_append]
  have ha := at_par hs
  rw [h1] at ha
  have := (ha.part (k := i) (by simp [bvs]; omega)).ld1 K
  rwa [Nat.zero_add] at this
theorem u64_h {h : Int} (h0 : 0 ≤ h) (h1 : h ≤ maxI) : IntKind.u64.wrap h = (h.toNat : Int) := by
  unfold maxI at h1
  rw [wu64i h0 (by omega)]; omega
theorem bkBytes_spec (hb : RdB w.heap v b.d) (hh : b.h ≤ maxI) : cal P f_block_Bytes [bq b v] w fun r w' => ∃ s, r = .tuple #[s, .int .i64 b.chk] ∧ Sep w w' [ownB s b.out] := by
  refine s_block_Bytes fun R hR => ?_
  unfold c_block_Bytes
  refine bxQ (Sep.start w) fun g w1 hs => ?_
  simp only [L_api_Block hs.blk, L_api_Block__Parent hs.blk, L_api_Block__Height hs.blk, L_api_Block__Data hs.blk]
  refine cal_i (Check_spec (hs.rdB hb)) ?_
  rintro _ w2 ⟨rfl, hf2⟩
  have hs2 := hs.old hf2
  rw [bi_neq]
  rcases Blk.chk_or b with h0 | h0
  · have hck := Blk.chk_ok h0
    have ho : b.out = b.bytes := by rw [Blk.out, if_pos h0]
    rw [ho, h0] at hR
    simp only [h0, nilc_some, fad_mk, pik_true, pik_false, cnd_true, cnd_false, gif_same, gif_tf, gif_ft, gif_undef, bi_add, bi_sub, bi_mul, bi_eql, bi_neq, bi_lss, bi_leq, bi_gtr, bi_geq, notB_bool, cvi_int, lenS_mk, lenT_mk, ext0, ext1, ext2, nilP_mk, nilS_mk, fldv_agg, jn0_k, jn1_k, jn2_k, jn1_and, jn1_or, ex_some, Option.isNone_some, Option.isNone_none, Bool.false_bne, Bool.bne_true, Bool.bne_false, Bool.true_bne, Bool.not_true, Bool.not_false, Bool.and_true, Bool.true_and, Bool.and_false, Bool.false_and, Bool.or_true, Bool.true_or, Bool.or_false, Bool.false_or, cond_true, cond_false, List.getElem?_toArray, List.getElem?_cons_zero, List.getElem?_cons_succ, Nat.zero_add, Nat.add_zero, Nat.reduceAdd, forall_const, show ((0 : Int) != 0) = false from rfl]
    refine cal_i (NewS 246 (by omega)) ?_
    rintro _ w3 ⟨gp, rfl, hs3⟩
    replace hs3 := hs2.join hs3
    refine cal_i (ShortS hs3 (v := 0) (by omega) (by omega) (by simp)) ?_
    rintro _ w4 ⟨rfl, s4, hs4⟩
    rw [sla_all]
    refine cal_i (FixedS hs4 (c := b.p.1) (by omega) (fun z hz => rd_par hz 32) (by simp [be_length, b.p.2])) ?_
    rintro _ w5 ⟨rfl, s5, hs5⟩
    simp only [nilc_some, fad_mk, pik_true, pik_false, cnd_true, cnd_false, gif_same, gif_tf, gif_ft, gif_undef, bi_add, bi_sub, bi_mul, bi_eql, bi_neq, bi_lss, bi_leq, bi_gtr, bi_geq, notB_bool, cvi_int, lenS_mk, lenT_mk, ext0, ext1, ext2, nilP_mk, nilS_mk, fldv_agg, jn0_k, jn1_k, jn2_k, jn1_and, jn1_or, ex_some, Option.isNone_some, Option.isNone_none, Bool.false_bne, Bool.bne_true, Bool.bne_false, Bool.true_bne, Bool.not_true, Bool.not_false, Bool.and_true, Bool.true_and, Bool.and_false, Bool.false_and, Bool.or_true, Bool.true_or, Bool.or_false, Bool.false_or, cond_true, cond_false, List.getElem?_toArray, List.getElem?_cons_zero, List.getElem?_cons_succ, Nat.zero_add, Nat.add_zero, Nat.reduceAdd, forall_const, L_api_Block (Sep.p2 hs5).blk, L_api_Block__Parent (Sep.p2 hs5).blk, L_api_Block__Height (Sep.p2 hs5).blk, L_api_Block__Data (Sep.p2 hs5).blk, u64_h hck.1 hh]
    refine cal_i (LongS hs5 (by omega) (by unfold maxI at hh; omega) (by simp [be_length, b.p.2])) ?_
    rintro _ w6 ⟨rfl, s6, hs6⟩
    simp only [nilc_some, fad_mk, pik_true, pik_false, cnd_true, cnd_false, gif_same, gif_tf, gif_ft, gif_undef, bi_add, bi_sub, bi_mul, bi_eql, bi_neq, bi_lss, bi_leq, bi_gtr, bi_geq, notB_bool, cvi_int, lenS_mk, lenT_mk, ext0, ext1, ext2, nilP_mk, nilS_mk, fldv_agg, jn0_k, jn1_k, jn2_k, jn1_and, jn1_or, ex_some, Option.isNone_some, Option.isNone_none, Bool.false_bne, Bool.bne_true, Bool.bne_false, Bool.true_bne, Bool.not_true, Bool.not_false, Bool.and_true, Bool.true_and, Bool.and_false, Bool.false_and, Bool.or_true, Bool.true_or, Bool.or_false, Bool.false_or, cond_true, cond_false, List.getElem?_toArray, List.getElem?_cons_zero, List.getElem?_cons_succ, Nat.zero_add, Nat.add_zero, Nat.reduceAdd, forall_const, L_api_Block (Sep.p2 hs6).blk, L_api_Block__Parent (Sep.p2 hs6).blk, L_api_Block__Height (Sep.p2 hs6).blk, L_api_Block__Data (Sep.p2 hs6).blk]
    refine cal_i (BytesS hs6 (by omega) (fun z hz => hz.rdB hb) (by simp [be_length, b.p.2]; omega)) ?_
    rintro _ w7 ⟨rfl, s7, hs7⟩
    refine cal_i (OutS hs7 (by simp [be_length, b.p.2]; omega)) ?_
    rintro _ w8 ⟨r, rfl, hs8⟩
    simp only [nilc_some, fad_mk, pik_true, pik_false, cnd_true, cnd_false, gif_same, gif_tf, gif_ft, gif_undef, bi_add, bi_sub, bi_mul, bi_eql, bi_neq, bi_lss, bi_leq, bi_gtr, bi_geq, notB_bool, cvi_int, lenS_mk, lenT_mk, ext0, ext1, ext2, nilP_mk, nilS_mk, fldv_agg, jn0_k, jn1_k, jn2_k, jn1_and, jn1_or, ex_some, Option.isNone_some, Option.isNone_none, Bool.false_bne, Bool.bne_true, Bool.bne_false, Bool.true_bne, Bool.not_true, Bool.not_false, Bool.and_true, Bool.true_and, Bool.and_false, Bool.false_and, Bool.or_true, Bool.true_or, Bool.or_false, Bool.false_or, cond_true, cond_false, List.getElem?_toArray, List.getElem?_cons_zero, List.getElem?_cons_succ, Nat.zero_add, Nat.add_zero, Nat.reduceAdd, forall_const]
    have e : [] ++ be 2 0 ++ b.p.1 ++ be 8 b.h.toNat ++ (be 4 b.d.length ++ b.d) = b.bytes := by
      simp [Blk.bytes, be]
    rw [e] at hs8
    exact hR _ _ ⟨r, rfl, hs8.d1.d1.d1⟩
  · have ho : b.out = [] := by rw [Blk.out, if_neg (by omega)]
    rw [ho, h0] at hR
    simp only [h0, nilc_some, fad_mk, pik_true, pik_false, cnd_true, cnd_false, gif_same, gif_tf, gif_ft, gif_undef, bi_add, bi_sub, bi_mul, bi_eql, bi_neq, bi_lss, bi_leq, bi_gtr, bi_geq, notB_bool, cvi_int, lenS_mk, lenT_mk, ext0, ext1, ext2, nilP_mk, nilS_mk, fldv_agg, jn0_k, jn1_k, jn2_k, jn1_and, jn1_or, ex_some, Option.isNone_some, Option.isNone_none, Bool.false_bne, Bool.bne_true, Bool.bne_false, Bool.true_bne, Bool.not_true, Bool.not_false, Bool.and_true, Bool.true_and, Bool.and_false, Bool.false_and, Bool.or_true, Bool.true_or, Bool.or_false, Bool.false_or, cond_true, cond_false, List.getElem?_toArray, List.getElem?_cons_zero, List.getElem?_cons_succ, Nat.zero_add, Nat.add_zero, Nat.reduceAdd, forall_const, show ((30 : Int) != 0) = true from rfl]
    exact hR _ _ ⟨_, rfl, hs2.tail.nil⟩
theorem rbBytes_spec (hb : RdB w.heap v b.d) (hh : b.h ≤ maxI) : cal P f_ref03_Bytes [bq b v] w fun r w' => ∃ s, r = .tuple #[s, .int .i64 b.chk] ∧ Sep w w' [ownB s b.out] := by
  refine s_ref03_Bytes fun R hR => ?_
  unfold c_ref03_Bytes
  refine bxQ (Sep.start w) fun g w1 hs => ?_
  simp only [L_api_Block hs.blk, L_api_Block__Parent hs.blk, L_api_Block__Height hs.blk, L_api_Block__Data hs.blk]
  refine cal_i (rCheck_spec (hs.rdB hb)) ?_
  rintro _ w2 ⟨rfl, hf2⟩
  have hs2 := hs.old hf2
  rw [bi_neq]
  rcases Blk.chk_or b with h0 | h0
  · have hck := Blk.chk_ok h0
    have hp := b.p.2
    have ho : b.out = b.bytes := by rw [Blk.out, if_pos h0]
    rw [ho, h0] at hR
    simp only [h0, nilc_some, fad_mk, pik_true, pik_false, cnd_true, cnd_false, gif_same, gif_tf, gif_ft, gif_undef, bi_add, bi_sub, bi_mul, bi_eql, bi_neq, bi_lss, bi_leq, bi_gtr, bi_geq, notB_bool, cvi_int, lenS_mk, lenT_mk, ext0, ext1, ext2, nilP_mk, nilS_mk, fldv_agg, jn0_k, jn1_k, jn2_k, jn1_and, jn1_or, ex_some, Option.isNone_some, Option.isNone_none, Bool.false_bne, Bool.bne_true, Bool.bne_false, Bool.true_bne, Bool.not_true, Bool.not_false, Bool.and_true, Bool.true_and, Bool.and_false, Bool.false_and, Bool.or_true, Bool.true_or, Bool.or_false, Bool.false_or, cond_true, cond_false, List.getElem?_toArray, List.getElem?_cons_zero, List.getElem?_cons_succ, Nat.zero_add, Nat.add_zero, Nat.reduceAdd, forall_const, show ((0 : Int) != 0) = false from rfl]
    have hr : ∀ w : World, (Instr.buildSlice T_sl_uint8 2 #[(0, .int .u8 0), (1, .int .u8 0)]).run P w = .ok (.slice (some ⟨w.heap.size, 0, none⟩) 2 2) (w.alloc (.cells (bvs [0, 0]).toArray T_uint8)) := fun w => by kernel_rfl
    refine buildB_s (l := [0, 0]) hs2 rfl (hr w2) fun g3 w3 hs3 => ?_
    refine ⟨fun x y w' => ∃ i : Nat, y = .int .i64 i ∧ i ≤ 32 ∧ Sep w w' [ownB x ([0, 0] ++ b.p.1.take i), bb g b v], fun _ y _ => (32 - RowKit.intOf y).toNat, ⟨0, rfl, by omega, by simpa using hs3⟩, ?_⟩
    rintro s4 _ w4 ⟨i, rfl, hi, hs4⟩ -
    simp only [nilc_some, fad_mk, pik_true, pik_false, cnd_true, cnd_false, gif_same, gif_tf, gif_ft, gif_undef, bi_add, bi_sub, bi_mul, bi_eql, bi_neq, bi_lss, bi_leq, bi_gtr, bi_geq, notB_bool, cvi_int, lenS_mk, lenT_mk, ext0, ext1, ext2, nilP_mk, nilS_mk, fldv_agg, jn0_k, jn1_k, jn2_k, jn1_and, jn1_or, ex_some, Option.isNone_some, Option.isNone_none, Bool.false_bne, Bool.bne_true, Bool.bne_false, Bool.true_bne, Bool.not_true, Bool.not_false, Bool.and_true, Bool.true_and, Bool.and_false, Bool.false_and, Bool.or_true, Bool.true_or, Bool.or_false, Bool.false_or, cond_true, cond_false, List.getElem?_toArray, List.getElem?_cons_zero, List.getElem?_cons_succ, Nat.zero_add, Nat.add_zero, Nat.reduceAdd, forall_const]
    rw [cnd_bool]
    refine ⟨fun h => ?_, fun h => ?_⟩
    · have h32 : i < 32 := by simp at h; omega
      rw [ixa_w .i64 h32, ld_par hs4.p1 h32]
      refine app1 hs4 (by simp; omega) fun s5 w5 hs5 => ?_
      rw [wi64 (by omega) (by omega)]
      refine ⟨⟨i + 1, by simp, by omega, ?_⟩, by simp [RowKit.intOf]; omega⟩
      rw [List.take_succ_eq_append_getElem (by omega), ← List.append_assoc]
      exact hs5
    · have h32 : i = 32 := by simp at h; omega
      subst h32
      rw [List.take_of_length_le (by omega)] at hs4
      simp only [nilc_some, fad_mk, pik_true, pik_false, cnd_true, cnd_false, gif_same, gif_tf, gif_ft, gif_undef, bi_add, bi_sub, bi_mul, bi_eql, bi_neq, bi_lss, bi_leq, bi_gtr, bi_geq, notB_bool, cvi_int, lenS_mk, lenT_mk, ext0, ext1, ext2, nilP_mk, nilS_mk, fldv_agg, jn0_k, jn1_k, jn2_k, jn1_and, jn1_or, ex_some, Option.isNone_some, Option.isNone_none, Bool.false_bne, Bool.bne_true, Bool.bne_false, Bool.true_bne, Bool.not_true, Bool.not_false, Bool.and_true, Bool.true_and, Bool.and_false, Bool.false_and, Bool.or_true, Bool.true_or, Bool.or_false, Bool.false_or, cond_true, cond_false, List.getElem?_toArray, List.getElem?_cons_zero, List.getElem?_cons_succ, Nat.zero_add, Nat.add_zero, Nat.reduceAdd, forall_const, L_api_Block (Sep.p1 hs4).blk, L_api_Block__Parent (Sep.p1 hs4).blk, L_api_Block__Height (Sep.p1 hs4).blk, L_api_Block__Data (Sep.p1 hs4).blk, u64_h hck.1 hh]
      refine cal_i (rNumS (n := 8) (by omega) (by unfold maxI at hh; omega)) ?_
      rintro t5 w5 hs5
      replace hs5 := (hs4.join hs5).p1
      refine appB_s ST_bytes UT_bytes (by simp) hs5 (Sep.rd hs5.p1) (by simp [be_length, hp]) fun s6 w6 hs6 => ?_
      replace hs6 := hs6.d1
      have hl := (hs6.rdB hb).len
      simp only [nilc_some, fad_mk, pik_true, pik_false, cnd_true, cnd_false, gif_same, gif_tf, gif_ft, gif_undef, bi_add, bi_sub, bi_mul, bi_eql, bi_neq, bi_lss, bi_leq, bi_gtr, bi_geq, notB_bool, cvi_int, lenS_mk, lenT_mk, ext0, ext1, ext2, nilP_mk, nilS_mk, fldv_agg, jn0_k, jn1_k, jn2_k, jn1_and, jn1_or, ex_some, Option.isNone_some, Option.isNone_none, Bool.false_bne, Bool.bne_true, Bool.bne_false, Bool.true_bne, Bool.not_true, Bool.not_false, Bool.and_true, Bool.true_and, Bool.and_false, Bool.false_and, Bool.or_true, Bool.true_or, Bool.or_false, Bool.false_or, cond_true, cond_false, List.getElem?_toArray, List.getElem?_cons_zero, List.getElem?_cons_succ, Nat.zero_add, Nat.add_zero, Nat.reduceAdd, forall_const, L_api_Block (Sep.p1 hs6).blk, L_api_Block__Parent (Sep.p1 hs6).blk, L_api_Block__Height (Sep.p1 hs6).blk, L_api_Block__Data (Sep.p1 hs6).blk, hl]
      rw [wu64i (by omega) (by omega)]
      refine cal_i (rNumS (n := 4) (by omega) (by omega)) ?_
      rintro t7 w7 hs7
      replace hs7 := (hs6.join hs7).p1
      refine appB_s ST_bytes UT_bytes (by simp) hs7 (Sep.rd hs7.p1) (by simp [be_length, hp]) fun s8 w8 hs8 => ?_
      replace hs8 := hs8.d1
      simp only [nilc_some, fad_mk, pik_true, pik_false, cnd_true, cnd_false, gif_same, gif_tf, gif_ft, gif_undef, bi_add, bi_sub, bi_mul, bi_eql, bi_neq, bi_lss, bi_leq, bi_gtr, bi_geq, notB_bool, cvi_int, lenS_mk, lenT_mk, ext0, ext1, ext2, nilP_mk, nilS_mk, fldv_agg, jn0_k, jn1_k, jn2_k, jn1_and, jn1_or, ex_some, Option.isNone_some, Option.isNone_none, Bool.false_bne, Bool.bne_true, Bool.bne_false, Bool.true_bne, Bool.not_true, Bool.not_false, Bool.and_true, Bool.true_and, Bool.and_false, Bool.false_and, Bool.or_true, Bool.true_or, Bool.or_false, Bool.false_or, cond_true, cond_false, List.getElem?_toArray, List.getElem?_cons_zero, List.getElem?_cons_succ, Nat.zero_add, Nat.add_zero, Nat.reduceAdd, forall_const, L_api_Block (Sep.p1 hs8).blk, L_api_Block__Parent (Sep.p1 hs8).blk, L_api_Block__Height (Sep.p1 hs8).blk, L_api_Block__Data (Sep.p1 hs8).blk]
      refine appB_s ST_bytes UT_bytes (by simp) hs8 (hs8.rdB hb) (by simp [be_length, hp]; omega) fun s9 w9 hs9 => ?_
      have e : [0, 0] ++ b.p.1 ++ be 8 b.h.toNat ++ be 4 b.d.length ++ b.d = b.bytes := rfl
      rw [e] at hs9
      exact hR _ _ ⟨s9, rfl, hs9.d1⟩
  · have ho : b.out = [] := by rw [Blk.out, if_neg (by omega)]
    rw [ho, h0] at hR
    simp only [h0, nilc_some, fad_mk, pik_true, pik_false, cnd_true, cnd_false, gif_same, gif_tf, gif_ft, gif_undef, bi_add, bi_sub, bi_mul, bi_eql, bi_neq, bi_lss, bi_leq, bi_gtr, bi_geq, notB_bool, cvi_int, lenS_mk, lenT_mk, ext0, ext1, ext2, nilP_mk, nilS_mk, fldv_agg, jn0_k, jn1_k, jn2_k, jn1_and, jn1_or, ex_some, Option.isNone_some, Option.isNone_none, Bool.false_bne, Bool.bne_true, Bool.bne_false, Bool.true_bne, Bool.not_true, Bool.not_false, Bool.and_true, Bool.true_and, Bool.and_false, Bool.false_and, Bool.or_true, Bool.true_or, Bool.or_false, Bool.false_or, cond_true, cond_false, List.getElem?_toArray, List.getElem?_cons_zero, List.getElem?_cons_succ, Nat.zero_add, Nat.add_zero, Nat.reduceAdd, forall_const, show ((30 : Int) != 0) = true from rfl]
    exact hR _ _ ⟨_, rfl, hs2.tail.nil⟩
theorem bkID_spec (hc : Cub w) (hb : RdB w.heap v b.d) (hh : b.h ≤ maxI) : cal P f_block_ID [bq b v] w fun r w' => r = .tuple #[.agg (Rdr.cells (rVec 32) b.name).toArray, .int .i64 b.chk] ∧ Fr [] w w' := by
  refine s_block_ID fun R hR => ?_
  unfold c_block_ID
  refine bxQ (Sep.start w) fun g w1 hs => ?_
  refine alloc_s hs (A_api_ID w1) fun g2 w2 hs2 => ?_
  simp only [L_api_Block (Sep.p1 hs2).blk, L_api_Block__Parent (Sep.p1 hs2).blk, L_api_Block__Height (Sep.p1 hs2).blk, L_api_Block__Data (Sep.p1 hs2).blk]
  refine cal_i (bkBytes_spec (hs2.rdB hb) hh) ?_
  rintro _ w3 ⟨s, rfl, hs3⟩
  replace hs3 := hs2.join hs3
  simp only [nilc_some, fad_mk, pik_true, pik_false, cnd_true, cnd_false, gif_same, gif_tf, gif_ft, gif_undef, bi_add, bi_sub, bi_mul, bi_eql, bi_neq, bi_lss, bi_leq, bi_gtr, bi_geq, notB_bool, cvi_int, lenS_mk, lenT_mk, ext0, ext1, ext2, nilP_mk, nilS_mk, fldv_agg, jn0_k, jn1_k, jn2_k, jn1_and, jn1_or, ex_some, Option.isNone_some, Option.isNone_none, Bool.false_bne, Bool.bne_true, Bool.bne_false, Bool.true_bne, Bool.not_true, Bool.not_false, Bool.and_true, Bool.true_and, Bool.and_false, Bool.false_and, Bool.or_true, Bool.true_or, Bool.or_false, Bool.false_or, cond_true, cond_false, List.getElem?_toArray, List.getElem?_cons_zero, List.getElem?_cons_succ, Nat.zero_add, Nat.add_zero, Nat.reduceAdd, forall_const]
  rcases Blk.chk_or b with h0 | h0
  · have hck := Blk.chk_ok h0
    have ho : b.out = b.bytes := by rw [Blk.out, if_pos h0]
    have hn : b.name = shaM b.bytes := by rw [Blk.name, if_pos h0, Blk.id]
    rw [ho] at hs3
    rw [hn, h0] at hR
    simp only [h0, nilc_some, fad_mk, pik_true, pik_false, cnd_true, cnd_false, gif_same, gif_tf, gif_ft, gif_undef, bi_add, bi_sub, bi_mul, bi_eql, bi_neq, bi_lss, bi_leq, bi_gtr, bi_geq, notB_bool, cvi_int, lenS_mk, lenT_mk, ext0, ext1, ext2, nilP_mk, nilS_mk, fldv_agg, jn0_k, jn1_k, jn2_k, jn1_and, jn1_or, ex_some, Option.isNone_some, Option.isNone_none, Bool.false_bne, Bool.bne_true, Bool.bne_false, Bool.true_bne, Bool.not_true, Bool.not_false, Bool.and_true, Bool.true_and, Bool.and_false, Bool.false_and, Bool.or_true, Bool.true_or, Bool.or_false, Bool.false_or, cond_true, cond_false, List.getElem?_toArray, List.getElem?_cons_zero, List.getElem?_cons_succ, Nat.zero_add, Nat.add_zero, Nat.reduceAdd, forall_const, show ((0 : Int) != 0) = false from rfl]
    refine cal_i (shaSum_spec (hc.fr hs3.fr0) (Sep.rd hs3) (by rw [Blk.bytes_len]; omega)) ?_
    rintro _ w4 ⟨rfl, hf4⟩
    have hs4 := (hs3.old hf4).p1
    refine St_api_ID hs4 fun w5 hs5 => ?_
    simp only [L_api_ID hs5.blk]
    exact hR _ _ ⟨rfl, hs5.fr0⟩
  · have hn : b.name = vz 32 := by rw [Blk.name, if_neg (by omega)]
    rw [hn, h0] at hR
    simp only [h0, nilc_some, fad_mk, pik_true, pik_false, cnd_true, cnd_false, gif_same, gif_tf, gif_ft, gif_undef, bi_add, bi_sub, bi_mul, bi_eql, bi_neq, bi_lss, bi_leq, bi_gtr, bi_geq, notB_bool, cvi_int, lenS_mk, lenT_mk, ext0, ext1, ext2, nilP_mk, nilS_mk, fldv_agg, jn0_k, jn1_k, jn2_k, jn1_and, jn1_or, ex_some, Option.isNone_some, Option.isNone_none, Bool.false_bne, Bool.bne_true, Bool.bne_false, Bool.true_bne, Bool.not_true, Bool.not_false, Bool.and_true, Bool.true_and, Bool.and_false, Bool.false_and, Bool.or_true, Bool.true_or, Bool.or_false, Bool.false_or, cond_true, cond_false, List.getElem?_toArray, List.getElem?_cons_zero, List.getElem?_cons_succ, Nat.zero_add, Nat.add_zero, Nat.reduceAdd, forall_const, B_ID0, show ((30 : Int) != 0) = true from rfl]
    refine St_api_ID hs3.p1 fun w5 hs5 => ?_
    simp only [L_api_ID hs5.blk]
    exact hR _ _ ⟨rfl, hs5.fr0⟩
theorem rbID_spec (hb : RdB w.heap v b.d) (hh : b.h ≤ maxI) : cal P f_ref03_ID [bq b v] w fun r w' => r = .tuple #[.agg (Rdr.cells (rVec 32) b.name).toArray, .int .i64 b.chk] ∧ Fr [] w w' := by
  refine s_ref03_ID fun R hR => ?_
  unfold c_ref03_ID
  refine bxQ (Sep.start w) fun g w1 hs => ?_
  refine alloc_s hs (A_api_ID w1) fun g2 w2 hs2 => ?_
  simp only [L_api_Block (Sep.p1 hs2).blk, L_api_Block__Parent (Sep.p1 hs2).blk, L_api_Block__Height (Sep.p1 hs2).blk, L_api_Block__Data (Sep.p1 hs2).blk]
  refine cal_i (rbBytes_spec (hs2.rdB hb) hh) ?_
  rintro _ w3 ⟨s, rfl, hs3⟩
  replace hs3 := hs2.join hs3
  simp only [nilc_some, fad_mk, pik_true, pik_false, cnd_true, cnd_false, gif_same, gif_tf, gif_ft, gif_undef, bi_add, bi_sub, bi_mul, bi_eql, bi_neq, bi_lss, bi_leq, bi_gtr, bi_geq, notB_bool, cvi_int, lenS_mk, lenT_mk, ext0, ext1, ext2, nilP_mk, nilS_mk, fldv_agg, jn0_k, jn1_k, jn2_k, jn1_and, jn1_or, ex_some, Option.isNone_some, Option.isNone_none, Bool.false_bne, Bool.bne_true, Bool.bne_false, Bool.true_bne, Bool.not_true, Bool.not_false, Bool.and_true, Bool.true_and, Bool.and_false, Bool.false_and, Bool.or_true, Bool.true_or, Bool.or_false, Bool.false_or, cond_true, cond_false, List.getElem?_toArray, List.getElem?_cons_zero, List.getElem?_cons_succ, Nat.zero_add, Nat.add_zero, Nat.reduceAdd, forall_const]
  rcases Blk.chk_or b with h0 | h0
  · have hck := Blk.chk_ok h0
    have ho : b.out = b.bytes := by rw [Blk.out, if_pos h0]
    have hn : b.name = shaM b.bytes := by rw [Blk.name, if_pos h0, Blk.id]
    rw [ho] at hs3
    rw [hn, h0] at hR
    simp only [h0, nilc_some, fad_mk, pik_true, pik_false, cnd_true, cnd_false, gif_same, gif_tf, gif_ft, gif_undef, bi_add, bi_sub, bi_mul, bi_eql, bi_neq, bi_lss, bi_leq, bi_gtr, bi_geq, notB_bool, cvi_int, lenS_mk, lenT_mk, ext0, ext1, ext2, nilP_mk, nilS_mk, fldv_agg, jn0_k, jn1_k, jn2_k, jn1_and, jn1_or, ex_some, Option.isNone_some, Option.isNone_none, Bool.false_bne, Bool.bne_true, Bool.bne_false, Bool.true_bne, Bool.not_true, Bool.not_false, Bool.and_true, Bool.true_and, Bool.and_false, Bool.false_and, Bool.or_true, Bool.true_or, Bool.or_false, Bool.false_or, cond_true, cond_false, List.getElem?_toArray, List.getElem?_cons_zero, List.getElem?_cons_succ, Nat.zero_add, Nat.add_zero, Nat.reduceAdd, forall_const, show ((0 : Int) != 0) = false from rfl]
    refine cal_i (rSum_spec (Sep.rd hs3) (by rw [Blk.bytes_len]; omega)) ?_
    rintro _ w4 ⟨rfl, hf4⟩
    have hs4 := (hs3.old hf4).p1
    refine St_api_ID hs4 fun w5 hs5 => ?_
    simp only [L_api_ID hs5.blk]
    exact hR _ _ ⟨rfl, hs5.fr0⟩
  · have hn : b.name = vz 32 := by rw [Blk.name, if_neg (by omega)]
    rw [hn, h0] at hR
    simp only [h0, nilc_some, fad_mk, pik_true, pik_false, cnd_true, cnd_false, gif_same, gif_tf, gif_ft, gif_undef, bi_add, bi_sub, bi_mul, bi_eql, bi_neq, bi_lss, bi_leq, bi_gtr, bi_geq, notB_bool, cvi_int, lenS_mk, lenT_mk, ext0, ext1, ext2, nilP_mk, nilS_mk, fldv_agg, jn0_k, jn1_k, jn2_k, jn1_and, jn1_or, ex_some, Option.isNone_some, Option.isNone_none, Bool.false_bne, Bool.bne_true, Bool.bne_false, Bool.true_bne, Bool.not_true, Bool.not_false, Bool.and_true, Bool.true_and, Bool.and_false, Bool.false_and, Bool.or_true, Bool.true_or, Bool.or_false, Bool.false_or, cond_true, cond_false, List.getElem?_toArray, List.getElem?_cons_zero, List.getElem?_cons_succ, Nat.zero_add, Nat.add_zero, Nat.reduceAdd, forall_const, B_ID0, show ((30 : Int) != 0) = true from rfl]
    refine St_api_ID hs3.p1 fun w5 hs5 => ?_
    simp only [L_api_ID hs5.blk]
    exact hR _ _ ⟨rfl, hs5.fr0⟩
end
end Go.Fx
set_option linter.unusedVariables false
set_option linter.unusedSimpArgs false
namespace Go.Fx
def Blk.kid (b : Blk) (d : List UInt8) : Blk := ⟨b.id, b.h + 1, d⟩
def Blk.kidOk (b : Blk) (d : List UInt8) : Prop := b.chk = 0 ∧ b.h ≠ maxI ∧ d.length ≤ 200
instance (b : Blk) (d : List UInt8) : Decidable (b.kidOk d) := by unfold Blk.kidOk; infer_instance
def Blk.child (b : Blk) (d : List UInt8) : Blk := if b.kidOk d then b.kid d else Blk.none
def Blk.childE (b : Blk) (d : List UInt8) : Int := if b.kidOk d then 0 else 30
def Blk.link (c b : Blk) : Int := if b.chk ≠ 0 ∨ c.chk ≠ 0 then 30 else if c.p = b.id ∧ c.h = b.h + 1 then 0 else 31
theorem Blk.kid_chk {b : Blk} {d : List UInt8} (h : 0 ≤ b.h) : (b.kid d).chk = if 200 < d.length then 30 else 0 := by
  unfold Blk.chk Blk.kid
  by_cases hd : 200 < d.length
  · rw [if_pos (.inr (.inl hd)), if_pos hd]
  · rw [if_neg (by simp; omega), if_neg hd]
theorem Blk.link_kid {b : Blk} {d : List UInt8} (hk : b.kidOk d) : (b.kid d).link b = 0 ∧ b.link (b.kid d) = 31 := by
  obtain ⟨h0, hm, hd⟩ := hk
  have hck := Blk.chk_ok h0
  have hkc : (b.kid d).chk = 0 := by rw [Blk.kid_chk hck.1, if_neg (by omega)]
  refine ⟨?_, ?_⟩
  · rw [Blk.link, if_neg (by rw [h0, hkc]; simp), if_pos ⟨rfl, rfl⟩]
  · rw [Blk.link, if_neg (by rw [h0, hkc]; simp), if_neg]
    rintro ⟨_, h2⟩
    have : b.h = b.h + 1 + 1 := h2
    omega
section
variable {w0 w : World} {As : List Asn} {v u : Value} {a b : Blk} {g : Nat} {d : List UInt8}
theorem Child_spec (hc : Cub w) (hb : RdB w.heap v b.d) (hd : RdB w.heap u d) (hh : b.h ≤ maxI) : cal P f_block_Child [bq b v, u] w fun r w' => ∃ v', r = .tuple #[bq (b.child d) v', .int .i64 (b.childE d)] ∧ Sep w w' [ownB v' (b.child d).d] := by
  refine s_block_Child fun R hR => ?_
  unfold c_block_Child
  refine bxQ (Sep.start w) fun g w1 hs => ?_
  refine alloc_s hs (A_api_Block w1) fun g2 w2 hs2 => ?_
  simp only [L_api_Block (Sep.p1 hs2).blk, L_api_Block__Parent (Sep.p1 hs2).blk, L_api_Block__Height (Sep.p1 hs2).blk, L_api_Block__Data (Sep.p1 hs2).blk]
  refine cal_i (bkID_spec (hc.fr hs2.fr0) (hs2.rdB hb) hh) ?_
  rintro _ w3 ⟨rfl, hf3⟩
  have hs3 := hs2.old hf3
  simp only [nilc_some, fad_mk, pik_true, pik_false, cnd_true, cnd_false, gif_same, gif_tf, gif_ft, gif_undef, bi_add, bi_sub, bi_mul, bi_eql, bi_neq, bi_lss, bi_leq, bi_gtr, bi_geq, notB_bool, cvi_int, lenS_mk, lenT_mk, ext0, ext1, ext2, nilP_mk, nilS_mk, fldv_agg, jn0_k, jn1_k, jn2_k, jn1_and, jn1_or, ex_some, Option.isNone_some, Option.isNone_none, Bool.false_bne, Bool.bne_true, Bool.bne_false, Bool.true_bne, Bool.not_true, Bool.not_false, Bool.and_true, Bool.true_and, Bool.and_false, Bool.false_and, Bool.or_true, Bool.true_or, Bool.or_false, Bool.false_or, cond_true, cond_false, List.getElem?_toArray, List.getElem?_cons_zero, List.getElem?_cons_succ, Nat.zero_add, Nat.add_zero, Nat.reduceAdd, forall_const]
  refine alloc_s hs3 (A_api_ID w3) fun g4 w4 hs4 => ?_
  refine St_api_ID hs4 fun w5 hs5 => ?_
  have bad : ¬ b.kidOk d → stN 34 (.pointer (some ⟨g2, 0, none⟩)) (bq Blk.none (.slice none 0 0)) w5 fun w => ldN 34 (.pointer (some ⟨g2, 0, none⟩)) w.heap fun r1 => R (.tuple #[r1, .int .i64 30]) w := fun hn => by
    rw [Blk.child, Blk.childE, if_neg hn, if_neg hn] at hR
    refine St_api_Block hs5.p1 (one_api_Block rfl) fun w6 hs6 => ?_
    simp only [L_api_Block hs6.blk, L_api_Block__Parent hs6.blk, L_api_Block__Height hs6.blk, L_api_Block__Data hs6.blk]
    exact hR _ _ ⟨_, rfl, hs6.tail.tail.tail.nil⟩
  rcases Blk.chk_or b with h0 | h0
  · have hck := Blk.chk_ok h0
    by_cases hm : b.h = maxI
    · have e : (b.h == 9223372036854775807) = true := by simpa using hm
      simp only [h0, e, nilc_some, fad_mk, pik_true, pik_false, cnd_true, cnd_false, gif_same, gif_tf, gif_ft, gif_undef, bi_add, bi_sub, bi_mul, bi_eql, bi_neq, bi_lss, bi_leq, bi_gtr, bi_geq, notB_bool, cvi_int, lenS_mk, lenT_mk, ext0, ext1, ext2, nilP_mk, nilS_mk, fldv_agg, jn0_k, jn1_k, jn2_k, jn1_and, jn1_or, ex_some, Option.isNone_some, Option.isNone_none, Bool.false_bne, Bool.bne_true, Bool.bne_false, Bool.true_bne, Bool.not_true, Bool.not_false, Bool.and_true, Bool.true_and, Bool.and_false, Bool.false_and, Bool.or_true, Bool.true_or, Bool.or_false, Bool.false_or, cond_true, cond_false, List.getElem?_toArray, List.getElem?_cons_zero, List.getElem?_cons_succ, Nat.zero_add, Nat.add_zero, Nat.reduceAdd, forall_const, L_api_Block (Sep.p2 hs5).blk, L_api_Block__Parent (Sep.p2 hs5).blk, L_api_Block__Height (Sep.p2 hs5).blk, L_api_Block__Data (Sep.p2 hs5).blk, B_api_Block, show ((0 : Int) != 0) = false from rfl]
      exact bad fun hk => hk.2.1 hm
    · have e : (b.h == 9223372036854775807) = false := by simpa using hm
      have hn : b.name = b.id := by rw [Blk.name, if_pos h0]
      have hlt : b.h < 9223372036854775807 := by unfold maxI at hh hm; omega
      simp only [h0, e, nilc_some, fad_mk, pik_true, pik_false, cnd_true, cnd_false, gif_same, gif_tf, gif_ft, gif_undef, bi_add, bi_sub, bi_mul, bi_eql, bi_neq, bi_lss, bi_leq, bi_gtr, bi_geq, notB_bool, cvi_int, lenS_mk, lenT_mk, ext0, ext1, ext2, nilP_mk, nilS_mk, fldv_agg, jn0_k, jn1_k, jn2_k, jn1_and, jn1_or, ex_some, Option.isNone_some, Option.isNone_none, Bool.false_bne, Bool.bne_true, Bool.bne_false, Bool.true_bne, Bool.not_true, Bool.not_false, Bool.and_true, Bool.true_and, Bool.and_false, Bool.false_and, Bool.or_true, Bool.true_or, Bool.or_false, Bool.false_or, cond_true, cond_false, List.getElem?_toArray, List.getElem?_cons_zero, List.getElem?_cons_succ, Nat.zero_add, Nat.add_zero, Nat.reduceAdd, forall_const, L_api_Block (Sep.p2 hs5).blk, L_api_Block__Parent (Sep.p2 hs5).blk, L_api_Block__Height (Sep.p2 hs5).blk, L_api_Block__Data (Sep.p2 hs5).blk, L_api_ID hs5.blk, show ((0 : Int) != 0) = false from rfl]
      rw [wi64 (by omega) (by omega), B_api_Block_0_1_2 hd.one, hn]
      have hkc := Blk.kid_chk (d := d) hck.1
      have ek : Value.agg (Rdr.cells Q_api_Block (b.id, b.h + 1, u)).toArray = bq (b.kid d) u := rfl
      have hkd : (b.kid d).d = d := rfl
      obtain ⟨k, hk⟩ : ∃ k, k = b.kid d := ⟨_, rfl⟩
      rw [ek, ← hk]
      rw [← hk] at hkc hkd
      refine cal_i (made_spec (b := k) (by rw [hkd]; exact hs5.rdB hd)) ?_
      rintro _ w6 ⟨v', rfl, hs6⟩
      replace hs6 := (hs5.join hs6).p2
      simp only [nilc_some, fad_mk, pik_true, pik_false, cnd_true, cnd_false, gif_same, gif_tf, gif_ft, gif_undef, bi_add, bi_sub, bi_mul, bi_eql, bi_neq, bi_lss, bi_leq, bi_gtr, bi_geq, notB_bool, cvi_int, lenS_mk, lenT_mk, ext0, ext1, ext2, nilP_mk, nilS_mk, fldv_agg, jn0_k, jn1_k, jn2_k, jn1_and, jn1_or, ex_some, Option.isNone_some, Option.isNone_none, Bool.false_bne, Bool.bne_true, Bool.bne_false, Bool.true_bne, Bool.not_true, Bool.not_false, Bool.and_true, Bool.true_and, Bool.and_false, Bool.false_and, Bool.or_true, Bool.true_or, Bool.or_false, Bool.false_or, cond_true, cond_false, List.getElem?_toArray, List.getElem?_cons_zero, List.getElem?_cons_succ, Nat.zero_add, Nat.add_zero, Nat.reduceAdd, forall_const]
      refine St_api_Block hs6 (one_api_Block (Sep.one hs6.p1)) fun w7 hs7 => ?_
      simp only [L_api_Block hs7.blk, L_api_Block__Parent hs7.blk, L_api_Block__Height hs7.blk, L_api_Block__Data hs7.blk]
      refine hR _ _ ⟨v', ?_, ?_⟩
      · by_cases h2 : 200 < d.length
        · rw [if_pos h2] at hkc
          rw [Blk.mk', Blk.child, Blk.childE, if_neg (by omega), if_neg (fun hk => by have := hk.2.2; omega), if_neg (fun hk => by have := hk.2.2; omega), hkc]
        · rw [if_neg h2] at hkc
          rw [Blk.mk', Blk.child, Blk.childE, if_pos hkc, if_pos ⟨h0, hm, by omega⟩, if_pos ⟨h0, hm, by omega⟩, hk]
          rw [hk] at hkc
          rw [hkc]
      · have : k.mk' = b.child d := by
          by_cases h2 : 200 < d.length
          · rw [if_pos h2] at hkc
            rw [Blk.mk', Blk.child, if_neg (by omega), if_neg (fun hk => by have := hk.2.2; omega)]
          · rw [if_neg h2] at hkc
            rw [Blk.mk', Blk.child, if_pos hkc, if_pos ⟨h0, hm, by omega⟩, hk]
        rw [← this]
        exact hs7.p1.d1.d1.d1
  · simp only [h0, nilc_some, fad_mk, pik_true, pik_false, cnd_true, cnd_false, gif_same, gif_tf, gif_ft, gif_undef, bi_add, bi_sub, bi_mul, bi_eql, bi_neq, bi_lss, bi_leq, bi_gtr, bi_geq, notB_bool, cvi_int, lenS_mk, lenT_mk, ext0, ext1, ext2, nilP_mk, nilS_mk, fldv_agg, jn0_k, jn1_k, jn2_k, jn1_and, jn1_or, ex_some, Option.isNone_some, Option.isNone_none, Bool.false_bne, Bool.bne_true, Bool.bne_false, Bool.true_bne, Bool.not_true, Bool.not_false, Bool.and_true, Bool.true_and, Bool.and_false, Bool.false_and, Bool.or_true, Bool.true_or, Bool.or_false, Bool.false_or, cond_true, cond_false, List.getElem?_toArray, List.getElem?_cons_zero, List.getElem?_cons_succ, Nat.zero_add, Nat.add_zero, Nat.reduceAdd, forall_const, B_api_Block, show ((30 : Int) != 0) = true from rfl]
    exact bad fun hk => by have := hk.1; omega
end
end Go.Fx
set_option linter.unusedVariables false
set_option linter.unusedSimpArgs false
namespace Go.Fx
def vec32 (l : List UInt8) : Vec 32 := ⟨(l ++ List.replicate 32 0).take 32, by simp⟩
theorem vec32_of {l : List UInt8} (h : 32 ≤ l.length) : (vec32 l).1 = l.take 32 := by
  show (l ++ List.replicate 32 0).take 32 = _
  rw [List.take_append_of_le_length h]
theorem vec32_eq {l : List UInt8} {p : Vec 32} (h : l = p.1) : vec32 l = p := by
  apply Subtype.ext
  have := p.2
  rw [vec32_of (by rw [h]; omega), h, List.take_of_length_le (by omega)]
def parB (l : List UInt8) : Blk := ⟨vec32 (l.drop 2), ofBe ((l.drop 34).take 8), l.drop 46⟩
def okP (l : List UInt8) : Prop := 46 ≤ l.length ∧ (parB l).h ≤ maxI ∧ (parB l).chk = 0 ∧ (parB l).bytes = l
instance (l : List UInt8) : Decidable (okP l) := by unfold okP; infer_instance
def parse (l : List UInt8) : Blk := if okP l then parB l else Blk.none
def parseE (l : List UInt8) : Int := if okP l then 0 else 30
/-- Bytes in parts. -/
theorem cut46 {l : List UInt8} (h : 46 ≤ l.length) : ∃ (a p x n d : List UInt8), l = a ++ (p ++ (x ++ (n ++ d))) ∧ a.length = 2 ∧ p.length = 32 ∧ x.length = 8 ∧ n.length = 4 := by
  refine ⟨l.take 2, (l.drop 2).take 32, (l.drop 34).take 8, (l.drop 42).take 4, l.drop 46, ?_, by simp; omega, by simp; omega, by simp; omega, by simp; omega⟩
  have e1 : l.drop 46 = (l.drop 42).drop 4 := by rw [List.drop_drop]
  have e2 : l.drop 42 = (l.drop 34).drop 8 := by rw [List.drop_drop]
  have e3 : l.drop 34 = (l.drop 2).drop 32 := by rw [List.drop_drop]
  rw [e1, List.take_append_drop, e2, List.take_append_drop, e3, List.take_append_drop, List.take_append_drop]
theorem parB_cut {a p x n d : List UInt8} (h1 : a.length = 2) (h2 : p.length = 32) (h3 : x.length = 8) (h4 : n.length = 4) : parB (a ++ (p ++ (x ++ (n ++ d)))) = ⟨⟨p, h2⟩, ofBe x, d⟩ := by
  have e1 : (a ++ (p ++ (x ++ (n ++ d)))).drop 2 = p ++ (x ++ (n ++ d)) := List.drop_left' h1
  have e2 : (a ++ (p ++ (x ++ (n ++ d)))).drop 34 = x ++ (n ++ d) := by rw [show 34 = 2 + 32 from rfl, ← List.drop_drop, e1, List.drop_left' h2]
  have e3 : (a ++ (p ++ (x ++ (n ++ d)))).drop 46 = d := by rw [show 46 = 34 + 8 + 4 from rfl, ← List.drop_drop, ← List.drop_drop, e2, List.drop_left' h3, List.drop_left' h4]
  unfold parB
  rw [e1, e2, e3, List.take_left' h3]
  congr 1
  apply Subtype.ext
  rw [vec32_of (by simp; omega), List.take_left' h2]
theorem be2_zero {a : List UInt8} (h1 : a.length = 2) (h : ofBe a = 0) : a = [0, 0] := by
  have := be_ofBe a
  rw [h1, h] at this
  exact this.symm
theorem ofBe_b4 {n : Nat} (h : n < 4294967296) : ofBe (be 4 n) = n := by rw [ofBe_be, Nat.mod_eq_of_lt (by simpa using h)]
theorem ofBe_b8 {n : Nat} (h : n < 18446744073709551616) : ofBe (be 8 n) = n := by rw [ofBe_be, Nat.mod_eq_of_lt (by simpa using h)]
/-- What is read is laid again: that must be these bytes. -/
theorem okP_cut {a p x n d : List UInt8} (h1 : a.length = 2) (h2 : p.length = 32) (h3 : x.length = 8) (h4 : n.length = 4) :
    okP (a ++ (p ++ (x ++ (n ++ d)))) ↔ ofBe a = 0 ∧ ofBe n = d.length ∧ (ofBe x : Int) ≤ maxI ∧ (⟨⟨p, h2⟩, ofBe x, d⟩ : Blk).chk = 0 := by
  unfold okP
  rw [parB_cut h1 h2 h3 h4]
  have hb : (⟨⟨p, h2⟩, ofBe x, d⟩ : Blk).bytes = [0, 0] ++ p ++ x ++ be 4 d.length ++ d := by
    unfold Blk.bytes
    simp only [Int.toNat_natCast]
    rw [show be 8 (ofBe x) = x by rw [← h3]; exact be_ofBe x]
  refine ⟨?_, ?_⟩
  · rintro ⟨_, hh, hc, he⟩
    have hck := Blk.chk_ok hc
    simp only at hck
    rw [hb] at he
    simp only [List.append_assoc] at he
    have e1 := List.append_inj he (by simp [h1])
    have e2 := List.append_inj e1.2 rfl
    have e3 := List.append_inj e2.2 rfl
    have e4 := List.append_inj e3.2 (by rw [be_length, h4])
    refine ⟨by rw [← e1.1]; rfl, ?_, hh, hc⟩
    rw [← e4.1, ofBe_b4 (by omega)]
  · rintro ⟨ha, hn, hh, hc⟩
    refine ⟨by simp; omega, hh, hc, ?_⟩
    rw [hb, be2_zero h1 ha, ← hn]
    have : be 4 (ofBe n) = n := by rw [← h4]; exact be_ofBe n
    rw [this]
    simp
theorem parse_bytes {b : Blk} (hc : b.chk = 0) (hh : b.h ≤ maxI) : okP b.bytes ∧ parB b.bytes = b := by
  have hck := Blk.chk_ok hc
  unfold maxI at hh
  have e : b.bytes = [0, 0] ++ (b.p.1 ++ (be 8 b.h.toNat ++ (be 4 b.d.length ++ b.d))) := by simp [Blk.bytes]
  have e8 : ofBe (be 8 b.h.toNat) = b.h.toNat := ofBe_b8 (by omega)
  have eb : (⟨⟨b.p.1, b.p.2⟩, (ofBe (be 8 b.h.toNat) : Nat), b.d⟩ : Blk) = b := by
    rw [e8, Int.toNat_of_nonneg hck.1]
  have ho := (okP_cut (a := [0, 0]) (p := b.p.1) (x := be 8 b.h.toNat) (n := be 4 b.d.length) (d := b.d) rfl b.p.2 (be_length ..) (be_length ..)).2 ⟨rfl, ofBe_b4 (by omega), by rw [e8]; unfold maxI; omega, by rw [eb]; exact hc⟩
  rw [e]
  refine ⟨ho, ?_⟩
  rw [parB_cut rfl b.p.2 (be_length ..) (be_length ..)]
  exact eb
theorem okP.len {l : List UInt8} (h : okP l) : l.length ≤ 246 := by
  have := (Blk.chk_ok h.2.2.1).2.1
  have hb := congrArg List.length h.2.2.2
  rw [Blk.bytes_len] at hb
  omega
section
variable {w0 w : World} {As : List Asn} {g o n n' : Nat} {cur : Array Value} {T : TypeId} {x : Value} {m : List UInt8}
/-- 'copy(a[:], x)', a an array in a variable. -/
theorem cpyBlk_s {P : Program} {t tx ty E : Nat} {K : Value → World → Prop} (hT : SlT P t E 1 1) (hs : Sep w0 w (blk g cur T :: As)) (ho : o + n ≤ cur.size) (hx : RdB w.heap x m) (hm : m.length = n)
    (h : ∀ w', Sep w0 w' (blk g (splice cur o (bvs m)) T :: As) → K (.int .i64 n) w') : efP P (Builtin.copy_ #[t, tx] ty #[.slice (some ⟨g, o, none⟩) n n', x]) w K := by
  obtain ⟨F, ⟨hb, rfl⟩, hk⟩ := hs.upd
  subst hm
  have hlm : (bvs m).length = m.length := by simp [bvs]
  have hund := hT.und
  have hle := Cel.lenOf (P := P) (w := w) hx
  have hload := Cel.load (P := P) (w := w) hx
  have hst := run_storeCells_at P g o T (bvs m) 0 cur w hb (by omega) (bvs_one m)
  simp only [Nat.add_zero] at hst
  rw [setRow_setBlk w g cur _ T (0, 0) hb] at hst
  refine ⟨_, setBlk w g (.cells (splice cur o (bvs m)) T (0, 0)), ?_, h _ (hk _ [g] (Go.Fx.blk g _ T) ⟨setBlk_self w g _ _ hb, rfl⟩ (fr_setBlk w g _) (Grew.refl _ _))⟩
  have hmin : Nat.min m.length m.length = m.length := Nat.min_self _
  simp only [Builtin.copy_, Sem.run_bind, Sem.run_pure, List.getElem?_toArray, List.getElem?_cons_zero, List.getElem?_cons_succ, run_underlying hund, Result.andThen_ok, hle, run_sizeOf hT.siz, hmin, hload]
  simp [goInt, hst, splice]
theorem Fld.cpy {α : Type} {r : Rdr α} {off k : Nat} {get : α → Vec k} {set : α → Vec k → α} (f : Fld r (rVec k) off get set) {P : Program} {t tx ty E : Nat} {K : Value → World → Prop} {a : α} (hT : SlT P t E 1 1) (hs : Sep w0 w (blk g (r.cells a).toArray T :: As))
    (hx : RdB w.heap x m) (hm : m.length = k) (h : ∀ w', Sep w0 w' (blk g (r.cells (set a ⟨m, hm⟩)).toArray T :: As) → K (.int .i64 k) w') : efP P (Builtin.copy_ #[t, tx] ty #[.slice (some ⟨g, off, none⟩) k n', x]) w K := by
  obtain ⟨pre, post, e1, e2, e3⟩ := f.spec a ⟨m, hm⟩
  rw [e1] at hs
  rw [e2] at h
  have hg : ((rVec k).cells (get a)).length = k := (rVec k).len _
  refine cpyBlk_s hT hs (by simp; omega) hx hm fun w' hs' => h w' ?_
  have := splice_mid (post := post) e3 (show (bvs m).length = ((rVec k).cells (get a)).length by rw [hg]; simp [bvs, hm])
  rw [this] at hs'
  exact hs'
end
end Go.Fx
set_option linter.unusedVariables false
set_option linter.unusedSimpArgs false
namespace Go.Fx
theorem notOk {l : List UInt8} (h : ¬ okP l) : parse l = Blk.none ∧ parseE l = 30 := by rw [parse, parseE, if_neg h, if_neg h]; exact ⟨rfl, rfl⟩
end Go.Fx
set_option linter.unusedVariables false
set_option linter.unusedSimpArgs false
namespace Go.Fx
end Go.Fx
set_option linter.unusedVariables false
set_option linter.unusedSimpArgs false
namespace Go.Fx
abbrev BV := Blk × Value
def BV.t (x : BV) : Vec 32 × Int × Value := (x.1.p, x.1.h, x.2)
/-- A slice of blocks, each with what its data read as. -/
def BRows (h : Heap) (v : Value) (l : List BV) : Prop := Rows' Q_api_Block h v (l.map BV.t) ∧ ∀ x ∈ l, RdB h x.2 x.1.d
theorem BRows.fr {w w' : World} {v : Value} {l : List BV} (h : BRows w.heap v l) (hf : Fr [] w w') : BRows w'.heap v l := ⟨h.1.fr hf, fun x hx => (h.2 x hx).fr hf (off_nil _)⟩
theorem BRows.len {h : Heap} {v : Value} {l : List BV} (hr : BRows h v l) (K : Value → Prop) : lenS v K = K (.int .i64 l.length) := by
  have := hr.1.len K
  rwa [List.length_map] at this
/-- 'l[j]'. -/
theorem BRows.ld {w : World} {v : Value} {l : List BV} {j : Nat} {x : BV} (hr : BRows w.heap v l) (hj : l[j]? = some x) (k : IntKind) {K : Value → Prop} (h : K (bq x.1 x.2)) : ixs 34 v (.int k (j : Int)) fun t => ldN 34 t w.heap K := by
  have : (l.map BV.t)[j]? = some x.t := by rw [List.getElem?_map, hj]; rfl
  exact Rows'.ldN (q := Q_api_Block) (by decide) hr.1 this k h
theorem qV (a : Vec 32 × Int × Value) : (Value.agg (Rdr.cells Q_api_Block a).toArray).cells = (Rdr.cells Q_api_Block a).toArray := rfl
section
variable {w0 w : World} {As : List Asn} {v : Value}
def ga : Blk := Blk.first [103]
theorem ga_chk : ga.chk = 0 := by decide +kernel
theorem ga_bytes : ga.bytes = List.replicate 42 0 ++ [0, 0, 0, 1, 103] := by decide +kernel
/-- A block's variable, read in a region that draws. -/
theorem rdS_bb {S : World → Prop} {g : Nat} {b : Blk} {v : Value} {K : Value → Prop} (hS : ∀ u, S u → ∃ t fr, u.heap[g]? = some (.cells (Rdr.cells Q_api_Block (b.p, b.h, v)).toArray t fr)) (hk : K (bq b v)) :
    rdS S (fun w => ldN 34 (.pointer (some ⟨g, 0, none⟩)) w.heap) K := ⟨_, fun u hu => by obtain ⟨t, fr, hg⟩ := hS u hu; exact (L_api_Block hg _).mpr rfl, hk⟩
/-- A block that is an argument. -/
abbrev ab (x : Vec 32 × Int × Sl UInt8) : Blk := ⟨x.1, x.2.1, x.2.2.l⟩
theorem ab_rd {h : Heap} {x : Vec 32 × Int × Sl UInt8} (hx : Rdr.ok R_api_Block h x) : RdB h x.2.2.v (ab x).d := hx.2.2.1
theorem ab_h {h : Heap} {x : Vec 32 × Int × Sl UInt8} (hx : Rdr.ok R_api_Block h x) : (ab x).h ≤ maxI := by
  have := Go.bounds_i64 hx.2.1
  unfold maxI
  show x.2.1 ≤ _
  omega
theorem ab_len {h : Heap} {x : Vec 32 × Int × Sl UInt8} (hx : Rdr.ok R_api_Block h x) : (ab x).d.length ≤ 9223372036854775807 := hx.2.2.2.1
end
end Go.Fx
set_option linter.unusedVariables false
set_option linter.unusedSimpArgs false
namespace Go.Fx
/-- An effect that is a cut, behind which whatever holds. -/
theorem efC_cut {f : World → (Value → World → Prop) → Prop} {w : World} {K : (World → Prop) → Value → World → Prop} (h : f w fun v w' => ∃ S : World → Prop, S w' ∧ K S v w') : efC f w K := h
/-- An iterator of n values: what it hands over at place i is known by 'arg'; M: the memory that it looks at is as it was. -/
def Iter (P : Program) (g : Value) (M : Heap → Prop) (n : Nat) (arg : Nat → World → List Value → Prop) : Prop :=
  ∃ gf cap, g = .func (.func gf) #[] cap ∧ callable P gf = true ∧ ∀ (y : Value) (w0 w : World) (J : Nat → List Asn → Prop) (X : List Asn → Prop) (As : List Asn), y.oneCell' = true → J 0 As → Sep w0 w As →
    (∀ i Bs Ls z, J i Bs → Sep w0 z (Bs ++ Ls) → M z.heap) →
    (∀ i args z Bs Ls, i < n → arg i z args → J i Bs → Sep w0 z (Bs ++ Ls) → calY P y args z fun r z' => (r = .bool true ∧ ∃ Cs, J (i + 1) Cs ∧ Sep w0 z' (Cs ++ Ls)) ∨ (r = .bool false ∧ ∃ Cs, X Cs ∧ Sep w0 z' (Cs ++ Ls))) →
    cal P gf (y :: cap.toList) w fun r z' => r = .tuple #[] ∧ ((∃ Cs, J n Cs ∧ Sep w0 z' Cs) ∨ ∃ Cs, X Cs ∧ Sep w0 z' Cs)
section
variable {w0 w w' : World} {As Bs : List Asn}
theorem Sep.rot (h : Sep w0 w (As ++ Bs)) : Sep w0 w (Bs ++ As) := h.perm List.perm_append_comm
theorem Sep.objUpd {g : Nat} {o : Obj} (o' : Obj) (h : Sep w0 w (.obj g o :: As)) : Sep w0 (setBlk w g o') (.obj g o' :: As) := by
  obtain ⟨F, ⟨hb, rfl⟩, hk⟩ := h.upd
  exact hk _ [g] (.obj g o') ⟨setBlk_self w g _ _ hb, rfl⟩ (fr_setBlk w g _) (Grew.refl _ _)
theorem Sep.objAt {g : Nat} {o : Obj} (h : Sep w0 w (.obj g o :: As)) : w.heap[g]? = some o := by
  obtain ⟨F, ⟨hb, rfl⟩, hk⟩ := h.upd
  exact hb
theorem takeD_s {D : Nat} {K : World → Prop} (hs : Sep w0 w (.obj D dfB :: As)) (h : ∀ w', Sep w0 w' As → K w') : takeD [D] w K :=
  ⟨hs.objAt, h _ (hs.objUpd _).tail⟩
theorem rng_s {P : Program} {g : Value} {M : Heap → Prop} {n k : Nat} {arg : Nat → World → List Value → Prop} {rnd : List Value → World → (World → (World → Prop) → Prop) → (Option Code → World → Prop) → Prop}
    {out : Nat → List (Option Code × (World → Prop))} (hs : Sep w0 w As) (hit : Iter P g M n arg) (hk : ∀ i z args, arg i z args → args.length = k)
    (J : Nat → List Asn → Prop) (X : Code → List Asn → Prop) (h0 : J 0 As) (hM : ∀ i Bs Ls z, J i Bs → Sep w0 z (Bs ++ Ls) → M z.heap)
    (hrnd : ∀ (i : Nat) (args : List Value) (z : World) (Bs LR LB : List Asn) (bg : World → (World → Prop) → Prop) (fin : Option Code → World → Prop), i < n → J i Bs → arg i z args → Sep w0 z (Bs ++ LR) →
      (∀ z' Cs K, Sep w0 z' (Cs ++ LR) → (∀ z'', Sep w0 z'' (Cs ++ LB) → K z'') → bg z' K) →
      (∀ z' Cs, J (i + 1) Cs → Sep w0 z' (Cs ++ LB) → fin none z') → (∀ j z' Cs, X j Cs → Sep w0 z' (Cs ++ LB) → fin (some j) z') → rnd args z bg fin)
    (hN : ∀ D Bs z, J n Bs → Sep w0 z (.obj D dfB :: Bs) → outL none z (out D)) (hX : ∀ D j Bs z, X j Bs → Sep w0 z (.obj D dfB :: Bs) → outL (some j) z (out D)) : rng P g k w rnd out := by
  obtain ⟨gf, cap, hg, hcal, hI⟩ := hit
  refine ⟨gf, cap, hg, hcal, fun y rec h1 hy => ?_⟩
  have swap2 : ∀ {z : World} {Cs : List Asn} {A B : Asn}, Sep w0 z (Cs ++ [A, B]) → Sep w0 z (A :: B :: Cs) := fun h => Sep.rot h
  have swap3 : ∀ {z : World} {Cs : List Asn} {A B : Asn}, Sep w0 z (A :: B :: Cs) → Sep w0 z (Cs ++ [A, B]) := fun {z Cs A B} h => Sep.rot (As := [A, B]) h
  -- the record at the head, and back
  have hd : ∀ {z : World} {Cs Ls : List Asn} {A : Asn}, Sep w0 z (Cs ++ (A :: Ls)) → Sep w0 z (A :: (Cs ++ Ls)) := fun h => h.perm List.perm_middle
  have bk : ∀ {z : World} {Cs Ls : List Asn} {A : Asn}, Sep w0 z (A :: (Cs ++ Ls)) → Sep w0 z (Cs ++ (A :: Ls)) := fun h => h.perm List.perm_middle.symm
  refine cal_i (hI y w0 _ (fun i Bs => ∃ Cs, J i Cs ∧ Bs = Cs ++ [.obj (w.heap.size + 1) (rec .ready none), .obj w.heap.size dfB])
    (fun Bs => ∃ j Cs, X j Cs ∧ Bs = Cs ++ [.obj (w.heap.size + 1) (rec .done (some j)), .obj w.heap.size dfB]) (As ++ [.obj (w.heap.size + 1) (rec .ready none), .obj w.heap.size dfB]) h1 ⟨As, h0, rfl⟩ (swap3 ?_) ?_ ?_) ?_
  · have h2 : Sep w0 (w.alloc dfB) (.obj w.heap.size dfB :: As) := hs.new (F' := [w.heap.size]) (fr_alloc w _) (B := .obj w.heap.size dfB) ⟨alloc_new w _, rfl⟩ (by simp)
    have e : (w.alloc dfB).heap.size = w.heap.size + 1 := by simp
    refine h2.new (F' := [w.heap.size + 1]) (fr_alloc _ _) (B := .obj (w.heap.size + 1) (rec .ready none)) ⟨?_, rfl⟩ (by simp)
    have := alloc_new (w.alloc dfB) (rec .ready none)
    rwa [e] at this
  · rintro i _ Ls z ⟨Cs, hJ, rfl⟩ hB
    rw [List.append_assoc] at hB
    exact hM i Cs _ z hJ hB
  · rintro i args z _ Ls hi harg ⟨Bs, hJ, rfl⟩ hB
    rw [List.append_assoc] at hB
    refine hy args z _ (hk i z args harg) (hd hB).objAt ?_
    refine hrnd i args z Bs _ (.obj (w.heap.size + 1) (rec .busy none) :: .obj w.heap.size dfB :: Ls) _ _ hi hJ harg hB ?_ ?_ ?_
    · intro z' Cs K hz hK
      exact ⟨(hd hz).objAt, hK _ (bk ((hd hz).objUpd _))⟩
    · intro z' Cs hC hz
      exact ⟨(hd hz).objAt, .inl ⟨rfl, _, ⟨Cs, hC, rfl⟩, by rw [List.append_assoc]; exact bk ((hd hz).objUpd _)⟩⟩
    · intro j z' Cs hC hz
      exact ⟨(hd hz).objAt, .inr ⟨rfl, _, ⟨j, Cs, hC, rfl⟩, by rw [List.append_assoc]; exact bk ((hd hz).objUpd _)⟩⟩
  · rintro v z ⟨-, ⟨_, ⟨Bs, hJ, rfl⟩, hB⟩ | ⟨_, ⟨j, Bs, hX', rfl⟩, hB⟩⟩
    · exact ⟨none, (swap2 hB).objAt, hN _ Bs _ hJ ((swap2 hB).objUpd _).tail⟩
    · exact ⟨some j, (swap2 hB).objAt, hX _ j Bs _ hX' ((swap2 hB).objUpd _).tail⟩
end
end Go.Fx
set_option linter.unusedVariables false
set_option linter.unusedSimpArgs false
namespace Go.Fx
/-- An entry: its key, its value, and when it came. -/
abbrev Ent (n : Nat) := Vec n × Value × Nat
abbrev kv {n : Nat} (k : Vec n) : Value := .agg (Rdr.cells (rVec n) k).toArray
def entM {n : Nat} (x : Ent n) : MapEntry := { key := kv x.1, val := x.2.1, born := x.2.2 }
def ents {n : Nat} (l : List (Ent n)) : Array MapEntry := (l.map entM).toArray
/-- Where a key stands, and what it has. -/
def findE {n : Nat} (k : Vec n) : List (Ent n) → Nat → Option (Nat × Value)
  | [], _ => none
  | x :: l, i => if k = x.1 then some (i, x.2.1) else findE k l (i + 1)
/-- The facts on a type of keys. -/
structure KeyT (P : Program) (T E n : Nat) : Prop where
  und : P.underlying T = some (.array n E)
  el : P.underlying E = some (.int .u8)
  siz : size? P E = some 1
  agg : aggr P E = some false
  eq : EqT P T (rVec n) true 2
section
variable {P : Program} {T E n : Nat} {w : World}
theorem run_key (hT : KeyT P T E n) (k : Vec n) (b : Bool) (d : Nat) : (Instr.checkKey b (d + 2) T (kv k)).run P w = .ok () w := by
  rw [show d + 2 = (d + 1) + 1 from rfl, Instr.checkKey]
  simp only [Sem.run_bind, run_underlying hT.und, Result.andThen_ok]
  simp only [Std.Legacy.Range.forIn_eq_forIn_range', Std.Legacy.Range.size, Nat.sub_zero, Nat.add_one_sub_one, Nat.div_one]
  have each : ∀ j ∈ List.range' 0 n, j < n := fun j hj => by simpa using hj
  generalize List.range' 0 n = is at each
  induction is with
  | nil => simp
  | cons j is ih =>
    have hj := each j (by simp)
    have hv : (Rdr.cells (rVec n) k).toArray[j]? = some (bv (k.1[j]'(by rw [k.2]; exact hj))) := by
      show (bvs k.1).toArray[j]? = _
      rw [List.getElem?_toArray]
      unfold bvs
      rw [List.getElem?_map, List.getElem?_eq_getElem (by rw [k.2]; exact hj)]
      rfl
    have p1 : (Go.part E (Rdr.cells (rVec n) k).toArray (j * 1)).run P w = .ok (bv (k.1[j]'(by rw [k.2]; exact hj))) w := by
      unfold Go.part
      simp [run_isAgg hT.agg, hv]
    have p2 : (Instr.checkKey b (d + 1) E (bv (k.1[j]'(by rw [k.2]; exact hj)))).run P w = .ok () w := by
      rw [Instr.checkKey]
      simp [run_underlying hT.el, bv]
    simp only [List.forIn_cons, Sem.run_bind, run_sizeOf hT.siz, Result.andThen_ok, p1, p2, Sem.run_pure]
    exact ih fun y hy => each y (by simp [hy])
theorem run_keyEq (hT : KeyT P T E n) (a b : Vec n) : (Op.equal T (kv a) (kv b)).run P w = .ok (decide (a = b)) w := hT.eq.eq 10000 (by decide) w a b
theorem run_find (hT : KeyT P T E n) (k : Vec n) : ∀ (l : List (Ent n)) (i : Nat), (Instr.findAsking T (kv k) (l.map entM) i).run P w = .ok (findE k l i) w
  | [], i => by simp [Instr.findAsking, findE]
  | x :: l, i => by
    rw [List.map_cons, Instr.findAsking]
    have h := run_keyEq (w := w) hT k x.1
    simp only [Sem.run_bind]
    rw [show (entM x).key = kv x.1 from rfl, h]
    simp only [Result.andThen_ok, findE]
    by_cases hk : k = x.1
    · simp [hk, entM]
    · simp only [hk, decide_false, Bool.false_eq_true, if_false]
      exact run_find hT k l (i + 1)
theorem run_findKey (hT : KeyT P T E n) (k : Vec n) (l : List (Ent n)) : (Instr.findKey T (kv k) (ents l).toList).run P w = .ok (findE k l 0) w := by
  rw [run_findKey_eq w (by rw [hT.und])]
  exact run_find hT k l 0
theorem get_map {g c : Nat} {es : Array MapEntry} (hg : w.heap[g]? = some (.map es c)) : (getObj g).run P w = .ok (.map es c) w := by simp [getObj, Sem.run, hg]
theorem set_map {g c : Nat} {es : Array MapEntry} (o : Obj) (hg : w.heap[g]? = some (.map es c)) : (setObj g o).run P w = .ok () (setBlk w g o) := by simp [setObj, Sem.run, hg, setBlk]
/-- What a key has. -/
def getE (k : Vec n) (l : List (Ent n)) : Option Value := (l.find? fun x => decide (k = x.1)).map (·.2.1)
theorem findE_get (k : Vec n) : ∀ (l : List (Ent n)) (i : Nat), (findE k l i).map (·.2) = getE k l
  | [], i => rfl
  | x :: l, i => by
    unfold findE getE
    by_cases h : k = x.1
    · simp [h]
    · simp only [h, if_false, List.find?_cons, decide_false]
      exact findE_get k l (i + 1)
theorem lookup_map {M V g c : Nat} {l : List (Ent n)} {z : Value} (hM : P.underlying M = some (.map T V)) (hT : KeyT P T E n) (hz : (zeroValue V).run P w = .ok z w) (hg : w.heap[g]? = some (.map (ents l) c)) (k : Vec n) (K : Value → Prop) :
    rdP P (Instr.lookup M (.map (some g)) (kv k) true) w K = K (.tuple #[(getE k l).getD z, .bool (getE k l).isSome]) := by
  refine rdP_eq ?_ K
  unfold Instr.lookup
  simp only [Sem.run_bind, run_underlying hM, Result.andThen_ok, get_map hg, Sem.run_pure, run_key hT k _ 9998, run_findKey hT k l]
  rw [← findE_get k l 0]
  cases h : findE k l 0 with
  | none => simp [hz]
  | some x => simp
theorem lookup_map1 {M V g c : Nat} {l : List (Ent n)} {z : Value} (hM : P.underlying M = some (.map T V)) (hT : KeyT P T E n) (hz : (zeroValue V).run P w = .ok z w) (hg : w.heap[g]? = some (.map (ents l) c)) (k : Vec n) (K : Value → Prop) :
    rdP P (Instr.lookup M (.map (some g)) (kv k) false) w K = K ((getE k l).getD z) := by
  refine rdP_eq ?_ K
  unfold Instr.lookup
  simp only [Sem.run_bind, run_underlying hM, Result.andThen_ok, get_map hg, Sem.run_pure, run_key hT k _ 9998, run_findKey hT k l]
  rw [← findE_get k l 0]
  cases h : findE k l 0 with
  | none => simp [hz]
  | some x => simp
theorem getE_none {k : Vec n} {l : List (Ent n)} (h : getE k l = none) (i : Nat) : findE k l i = none := by
  have := findE_get k l i
  rw [h] at this
  simpa using this
theorem map_erase {α β : Type} (f : α → β) : ∀ (l : List α) (i : Nat), (l.map f).eraseIdx i = (l.eraseIdx i).map f
  | [], _ => by simp
  | _ :: _, 0 => rfl
  | a :: l, i + 1 => by simp [map_erase f l i]
/-- What a key has no longer. -/
def delE (k : Vec n) (l : List (Ent n)) : List (Ent n) := match findE k l 0 with
  | some (i, _) => l.eraseIdx i
  | none => l
abbrev mp (g : Nat) (l : List (Ent n)) (c : Nat) : Asn := Asn.obj g (.map (ents l) c)
variable {w0 : World} {As : List Asn}
theorem makeMap_s {t : TypeId} {K : Value → World → Prop} (hs : Sep w0 w As) (h : ∀ g w', Sep w0 w' (mp (n := n) g [] 0 :: As) → K (.map (some g)) w') : efP P (Instr.makeMap t none) w K :=
  ⟨.map (some w.heap.size), w.alloc (.map #[] 0), rfl, h _ _ (hs.new (fr_alloc w _) (B := mp _ [] 0) ⟨alloc_new w _, rfl⟩ (by simp))⟩
theorem Sep.map {g c : Nat} {l : List (Ent n)} (hs : Sep w0 w (mp g l c :: As)) : w.heap[g]? = some (.map (ents l) c) := by
  obtain ⟨F, hF, _⟩ := hs.head
  exact hF
/-- A key that is not there yet. -/
theorem putNew_s {M V g c : Nat} {l : List (Ent n)} {k : Vec n} {v : Value} {K : World → Prop} (hM : P.underlying M = some (.map T V)) (hT : KeyT P T E n) (hs : Sep w0 w (mp g l c :: As)) (hk : getE k l = none)
    (h : ∀ w', Sep w0 w' (mp g (l ++ [(k, v, c)]) (c + 1) :: As) → K w') : efU P (Instr.mapUpdate M (.map (some g)) (kv k) v) w K := by
  have hg := hs.map
  obtain ⟨F, ⟨hb, rfl⟩, hu⟩ := hs.upd
  have e : (ents l).push (entM (k, v, c)) = ents (l ++ [(k, v, c)]) := by
    apply Array.ext'
    simp [ents]
  refine ⟨setBlk w g (.map (ents (l ++ [(k, v, c)])) (c + 1)), ?_, h _ (hu _ [g] (mp g _ _) ⟨setBlk_self w g _ _ hb, rfl⟩ (fr_setBlk w g _) (Grew.refl _ _))⟩
  unfold Instr.mapUpdate
  simp only [Sem.run_bind, run_underlying hM, Result.andThen_ok, get_map hg, run_key hT k _ 9998, run_findKey hT k l, getE_none hk 0]
  rw [← e]
  exact set_map _ hg
theorem del_s {M V g c t ty : Nat} {l : List (Ent n)} {k : Vec n} {K : Value → World → Prop} (hM : P.underlying M = some (.map T V)) (hT : KeyT P T E n) (hs : Sep w0 w (mp g l c :: As))
    (h : ∀ w', Sep w0 w' (mp g (delE k l) c :: As) → K (.tuple #[]) w') : efP P (Builtin.delete_ #[M, t] ty #[.map (some g), kv k]) w K := by
  have hg := hs.map
  obtain ⟨F, ⟨hb, rfl⟩, hu⟩ := hs.upd
  refine ⟨.tuple #[], setBlk w g (.map (ents (delE k l)) c), ?_, h _ (hu _ [g] (mp g _ _) ⟨setBlk_self w g _ _ hb, rfl⟩ (fr_setBlk w g _) (Grew.refl _ _))⟩
  unfold Builtin.delete_
  simp only [List.getElem?_toArray, List.getElem?_cons_zero, List.getElem?_cons_succ, Sem.run_bind, run_underlying hM, Result.andThen_ok, get_map hg, run_key hT k _ 9998, run_findKey hT k l]
  unfold delE
  cases hf : findE k l 0 with
  | none => simp [set_map _ hg]
  | some x =>
    obtain ⟨i, y⟩ := x
    have e : (ents l).eraseIdxIfInBounds i = ents (l.eraseIdx i) := by
      apply Array.ext'
      simp [ents, map_erase]
    simp [set_map _ hg, e]
theorem len_map {M V g c ty : Nat} {l : List (Ent n)} (hM : P.underlying M = some (.map T V)) (hg : w.heap[g]? = some (.map (ents l) c)) (hl : l.length ≤ 9223372036854775807) (K : Value → Prop) : rdP P (Builtin.len_ #[M] ty #[.map (some g)]) w K = K (.int .i64 l.length) := by
  refine rdP_eq ?_ K
  unfold Builtin.len_
  simp [run_underlying hM, get_map hg, ents, goInt]
end
end Go.Fx
set_option linter.unusedVariables false
set_option linter.unusedSimpArgs false
namespace Go.Fx
section
variable {P : Program} {n : Nat} {w0 w : World} {As : List Asn}
abbrev mit (gi gm c : Nat) (D : List (Ent n)) : Asn := Asn.obj gi (.mapIter (some gm) c (D.map (·.2.2)).toArray c)
theorem range_s {M T V gm c : Nat} {E : List (Ent n)} {K : Value → World → Prop} (hM : P.underlying M = some (.map T V)) (hs : Sep w0 w As) (hm : w.heap[gm]? = some (.map (ents E) c))
    (h : ∀ gi w', Sep w0 w' (mit (n := n) gi gm c [] :: As) → K (.pointer (some ⟨gi, 0, none⟩)) w') : efP P (Instr.range M (.map (some gm))) w K := by
  refine ⟨.pointer (some ⟨w.heap.size, 0, none⟩), w.alloc (.mapIter (some gm) c #[] c), ?_, h _ _ (hs.new (fr_alloc w _) (B := mit w.heap.size gm c []) ⟨alloc_new w _, rfl⟩ (by simp))⟩
  unfold Instr.range
  simp only [Sem.run_bind, run_underlying hM, Result.andThen_ok, get_map hm, Sem.run_pure]
  rfl
theorem mem_left {E : List (Ent n)} {D : List (Ent n)} {e : MapEntry} : e ∈ (leftOf (ents E) (D.map (·.2.2)).toArray).toList ↔ ∃ x ∈ E, e = entM x ∧ x.2.2 ∉ D.map (·.2.2) := by
  unfold leftOf ents
  simp only [Array.toList_filter, List.mem_filter, List.mem_map, Bool.not_eq_true', Array.contains_toList, List.contains_toArray]
  constructor
  · rintro ⟨⟨x, hx, rfl⟩, h⟩
    refine ⟨x, hx, rfl, ?_⟩
    rintro ⟨y, hy, he⟩
    have : (List.map (fun x => x.2.2) D).contains (entM x).born = true := by
      rw [List.contains_iff_mem]
      exact List.mem_map.2 ⟨y, hy, he⟩
    rw [h] at this
    cases this
  · rintro ⟨x, hx, rfl, h⟩
    refine ⟨⟨x, hx, rfl⟩, ?_⟩
    cases hc : (List.map (fun x => x.2.2) D).contains (entM x).born with
    | false => rfl
    | true =>
      rw [List.contains_iff_mem] at hc
      exact absurd (List.mem_map.1 hc) h
theorem next_s {gi gm c ty : Nat} {E D : List (Ent n)} {K : Value → World → Prop} (hs : Sep w0 w (mit gi gm c D :: As)) (hm : w.heap[gm]? = some (.map (ents E) c)) (hlt : ∀ x ∈ E, x.2.2 < c)
    (hend : (∀ x ∈ E, x.2.2 ∈ D.map (·.2.2)) → K (.tuple #[.bool false]) w)
    (hstep : ∀ x w', x ∈ E → x.2.2 ∉ D.map (·.2.2) → w'.heap[gm]? = some (.map (ents E) c) → Sep w0 w' (mit gi gm c (D ++ [x]) :: As) → K (.tuple #[.bool true, kv x.1, x.2.1]) w') :
    efP P (Instr.next (.pointer (some ⟨gi, 0, none⟩)) false ty) w K := by
  have hg : w.heap[gi]? = some (.mapIter (some gm) c (D.map (·.2.2)).toArray c) := by
    obtain ⟨F, ⟨hb, rfl⟩, hk⟩ := hs.upd
    exact hb
  have hne : gm ≠ gi := fun he => by rw [he, hg] at hm; cases hm
  rcases run_next_at (P := P) w ty gi gm c c (D.map (·.2.2)).toArray (ents E) c hg hm (fun x hx => by
      obtain ⟨y, hy, rfl⟩ : ∃ y ∈ E, entM y = x := by simpa [ents] using hx
      exact hlt y hy) (Nat.le_refl _) with ⟨h0, hr⟩ | ⟨e, he, w1, hw1, hr⟩
  · refine ⟨_, _, hr, hend fun x hx => ?_⟩
    cases hc : decide (x.2.2 ∈ D.map (·.2.2)) with
    | true => exact of_decide_eq_true hc
    | false =>
      have := mem_left.2 ⟨x, hx, rfl, of_decide_eq_false hc⟩
      have h1 : (leftOf (ents E) (D.map (·.2.2)).toArray).toList = [] := List.eq_nil_of_length_eq_zero (by simpa using h0)
      rw [h1] at this
      cases this
  · obtain ⟨x, hx, rfl, hn⟩ := mem_left.1 he
    refine ⟨_, _, hr, ?_⟩
    have hs1 : Sep w0 w1 (mit gi gm c D :: As) := by
      rcases hw1 with rfl | rfl
      · exact hs
      · exact hs.drew _
    have hm1 : w1.heap[gm]? = some (.map (ents E) c) := by rcases hw1 with rfl | rfl <;> exact hm
    obtain ⟨F, ⟨hb, rfl⟩, hk⟩ := hs1.upd
    have e1 : (D.map (·.2.2)).toArray.push (entM x).born = ((D ++ [x]).map (·.2.2)).toArray := by
      apply Array.ext'
      simp [entM]
    rw [e1]
    refine hstep x _ hx hn ?_ (hk _ [gi] (mit gi gm c (D ++ [x])) ⟨setBlk_self w1 gi _ _ hb, rfl⟩ (fr_setBlk w1 gi _) (Grew.refl _ _))
    show (setBlk w1 gi _).heap[gm]? = _
    rw [setBlk_ne w1 _ hne]
    exact hm1
theorem entry_i {gi gm c : Nat} {E D : List (Ent n)} {x : Ent n} {h : Heap} (hg : w.heap[gi]? = some (.mapIter (some gm) c ((D ++ [x]).map (·.2.2)).toArray c)) (hm : w.heap[gm]? = some (.map (ents E) c)) (hx : x ∈ E) (hb : (E.map (·.2.2)).Nodup) (K : Value → Prop) :
    rdP P (Instr.entry (.pointer (some ⟨gi, 0, none⟩))) w K = K (.tuple #[kv x.1, x.2.1]) := by
  refine rdP_eq ?_ K
  have e1 : (D.map (·.2.2)).toArray.push (entM x).born = ((D ++ [x]).map (·.2.2)).toArray := by
    apply Array.ext'
    simp [entM]
  rw [← e1] at hg
  exact run_entry_at w gi gm c _ (ents E) c (entM x) hg hm (by simp only [ents, List.mem_map]; exact ⟨x, hx, rfl⟩) (by
    have : (ents E).toList.map (·.born) = E.map (·.2.2) := by simp [ents, entM, Function.comp_def]
    rw [this]; exact hb)
/-- A key's value, by the entries. -/
theorem getE_iff {k : Vec n} {v : Value} : ∀ {l : List (Ent n)}, (l.map (·.1)).Nodup → (getE k l = some v ↔ ∃ x ∈ l, x.1 = k ∧ x.2.1 = v)
  | [], _ => by simp [getE]
  | y :: l, hn => by
    rw [List.map_cons, List.nodup_cons] at hn
    have ih := getE_iff (k := k) (v := v) hn.2
    unfold getE at ih ⊢
    by_cases hk : k = y.1
    · subst hk
      rw [List.find?_cons_of_pos (by simp)]
      simp only [Option.map_some, Option.some.injEq]
      constructor
      · intro h; exact ⟨y, by simp, rfl, h⟩
      · rintro ⟨x, hx, h1, h2⟩
        rcases List.mem_cons.1 hx with rfl | hx
        · exact h2
        · exact absurd (h1 ▸ List.mem_map_of_mem hx) hn.1
    · rw [List.find?_cons_of_neg (by simpa using hk), ih]
      constructor
      · rintro ⟨x, hx, h⟩; exact ⟨x, by simp [hx], h⟩
      · rintro ⟨x, hx, h1, h2⟩
        rcases List.mem_cons.1 hx with rfl | hx
        · exact absurd h1.symm hk
        · exact ⟨x, hx, h1, h2⟩
theorem getE_perm {k : Vec n} {l m : List (Ent n)} (hp : l.Perm m) (hn : (l.map (·.1)).Nodup) : getE k l = getE k m := by
  have hn2 : (m.map (·.1)).Nodup := (hp.map _).nodup_iff.1 hn
  cases h1 : getE k l with
  | some v =>
    obtain ⟨x, hx, h⟩ := (getE_iff hn).1 h1
    exact ((getE_iff hn2).2 ⟨x, hp.mem_iff.1 hx, h⟩).symm
  | none =>
    cases h2 : getE k m with
    | none => rfl
    | some v =>
      obtain ⟨x, hx, h⟩ := (getE_iff hn2).1 h2
      rw [(getE_iff hn).2 ⟨x, hp.mem_iff.2 hx, h⟩] at h1
      cases h1
theorem getE_same {k : Vec n} : ∀ {l m : List (Ent n)}, l.map (fun x => (x.1, x.2.1)) = m.map (fun x => (x.1, x.2.1)) → getE k l = getE k m
  | [], [], _ => rfl
  | [], _ :: _, h => by simp at h
  | _ :: _, [], h => by simp at h
  | x :: l, y :: m, h => by
    simp only [List.map_cons, List.cons.injEq, Prod.mk.injEq] at h
    have ih := getE_same (k := k) h.2
    unfold getE at ih ⊢
    by_cases hk : k = x.1
    · rw [List.find?_cons_of_pos (by simpa using hk), List.find?_cons_of_pos (by rw [← h.1.1]; simpa using hk)]
      simp [h.1.2]
    · rw [List.find?_cons_of_neg (by simpa using hk), List.find?_cons_of_neg (by rw [← h.1.1]; simpa using hk)]
      exact ih
end
end Go.Fx
set_option linter.unusedVariables false
set_option linter.unusedSimpArgs false
namespace Go.Fx
/-- A block that waits: its name, the block, its data. -/
abbrev Wt := Vec 32 × Blk × Value
/-- A vote that waits. -/
def Wt.c (x : Wt) : Vec 32 × Vec 32 × Int × Value := (x.1, x.2.1.p, x.2.1.h, x.2.2)
def noW (k : Vec 32) (ws : List Wt) : Option Wt := ws.find? fun x => decide (x.1 = k)
def gotW (k : Vec 32) (ws : List Wt) : Blk × Value := ((noW k ws).map (·.2)).getD (Blk.none, .slice none 0 0)
/-- The same without where the data stand. -/
def Wt.kb (x : Wt) : Vec 32 × Blk := (x.1, x.2.1)
structure HdR (h : Heap) (g : Nat) (bv vv : Value) (rb rv : Int) (ws : List Wt) (vs : List (Int × Int × Vec 32 × Vec 32)) : Prop where
  cell : ∃ T fr, h[g]? = some (.cells (Rdr.cells Q_hold_Hold (true, rb, rv, bv, vv)).toArray T fr)
  bw : Rows' Q_hold_waiting h bv (ws.map Wt.c)
  vw : Rows' Q_api_HeldVote h vv vs
  dat : ∀ x ∈ ws, RdB h x.2.2 x.2.1.d
def hdH (g : Nat) (bv vv : Value) (rb rv : Int) (ws : List Wt) (vs : List (Int × Int × Vec 32 × Vec 32)) : List Asn :=
  [blk g (Rdr.cells Q_hold_Hold (true, rb, rv, bv, vv)).toArray T_hold_Hold, rows Q_hold_waiting bv (ws.map Wt.c), rows Q_api_HeldVote vv vs]
def DatW (ws : List Wt) (As : List Asn) : Prop := ∀ x ∈ ws, ownB x.2.2 x.2.1.d ∈ As
section
variable {w0 w w' : World} {As : List Asn} {g : Nat} {bv vv : Value} {rb rv : Int} {ws : List Wt} {vs : List (Int × Int × Vec 32 × Vec 32)}
theorem DatW.nil (As : List Asn) : DatW [] As := fun x hx => by cases hx
theorem DatW.sub {As Bs : List Asn} (h : DatW ws As) (hs : ∀ A ∈ As, A ∈ Bs) : DatW ws Bs := fun x hx => hs _ (h x hx)
theorem HdR.fr (h : HdR w.heap g bv vv rb rv ws vs) (hf : Fr [] w w') : HdR w'.heap g bv vv rb rv ws vs := by
  obtain ⟨⟨T, fr, hc⟩, h2, h3, h4⟩ := h
  exact ⟨⟨T, fr, hf.blk hc (by simp)⟩, h2.fr hf, h3.fr hf, fun x hx => (h4 x hx).fr hf (off_nil _)⟩
theorem Sep.hd (h : Sep w0 w As) (hr : HdR w0.heap g bv vv rb rv ws vs) : HdR w.heap g bv vv rb rv ws vs := hr.fr h.1
theorem hdH_rd (h : Sep w0 w (hdH g bv vv rb rv ws vs ++ As)) (hd : DatW ws As) : HdR w.heap g bv vv rb rv ws vs :=
  ⟨⟨_, _, Sep.blk h⟩, Sep.rows (Sep.tail h), Sep.rows (Sep.tail (Sep.tail h)), fun x hx => by
    obtain ⟨As1, As2, rfl⟩ := List.append_of_mem (hd x hx)
    exact Sep.rd (Sep.mid (Sep.tail (Sep.tail (Sep.tail h))))⟩
theorem HdR.lenB (hr : HdR w.heap g bv vv rb rv ws vs) (K : Value → Prop) : lenS bv K = K (.int .i64 ws.length) := by
  have := hr.bw.len K
  rwa [List.length_map] at this
theorem hnone_spec (hr : HdR w.heap g bv vv rb rv ws vs) : cal P f_hold_Hold_none [.pointer (some ⟨g, 0, none⟩)] w fun r w' => r = .bool false ∧ w = w' := by
  refine s_hold_Hold_none fun R hR => ?_
  unfold c_hold_Hold_none
  obtain ⟨T, fr, hc⟩ := hr.cell
  simp only [nilc_some, fad_mk, pik_true, pik_false, cnd_true, cnd_false, gif_same, gif_tf, gif_ft, gif_undef, bi_add, bi_sub, bi_mul, bi_eql, bi_neq, bi_lss, bi_leq, bi_gtr, bi_geq, notB_bool, cvi_int, lenS_mk, lenT_mk, ext0, ext1, ext2, nilP_mk, nilS_mk, fldv_agg, jn0_k, jn1_k, jn2_k, jn1_and, jn1_or, ex_some, Option.isNone_some, Option.isNone_none, Bool.false_bne, Bool.bne_true, Bool.bne_false, Bool.true_bne, Bool.not_true, Bool.not_false, Bool.and_true, Bool.true_and, Bool.and_false, Bool.false_and, Bool.or_true, Bool.true_or, Bool.or_false, Bool.false_or, cond_true, cond_false, List.getElem?_toArray, List.getElem?_cons_zero, List.getElem?_cons_succ, Nat.zero_add, Nat.add_zero, Nat.reduceAdd, forall_const, Option.isNone_some, L_hold_Hold hc, L_hold_Hold__made hc, L_hold_Hold__roomB hc, L_hold_Hold__roomV hc, L_hold_Hold__blocks hc, L_hold_Hold__votes hc]
  exact hR _ _ ⟨rfl, rfl⟩
theorem hLen_spec (hr : HdR w.heap g bv vv rb rv ws vs) : cal P f_hold_Hold_Len [.pointer (some ⟨g, 0, none⟩)] w fun r w' => r = .tuple #[.int .i64 ws.length, .int .i64 vs.length] ∧ Fr [] w w' := by
  refine s_hold_Hold_Len fun R hR => ?_
  unfold c_hold_Hold_Len
  refine cal_i (hnone_spec hr) ?_
  rintro _ _ ⟨rfl, rfl⟩
  simp only [nilc_some, fad_mk, pik_true, pik_false, cnd_true, cnd_false, gif_same, gif_tf, gif_ft, gif_undef, bi_add, bi_sub, bi_mul, bi_eql, bi_neq, bi_lss, bi_leq, bi_gtr, bi_geq, notB_bool, cvi_int, lenS_mk, lenT_mk, ext0, ext1, ext2, nilP_mk, nilS_mk, fldv_agg, jn0_k, jn1_k, jn2_k, jn1_and, jn1_or, ex_some, Option.isNone_some, Option.isNone_none, Bool.false_bne, Bool.bne_true, Bool.bne_false, Bool.true_bne, Bool.not_true, Bool.not_false, Bool.and_true, Bool.true_and, Bool.and_false, Bool.false_and, Bool.or_true, Bool.true_or, Bool.or_false, Bool.false_or, cond_true, cond_false, List.getElem?_toArray, List.getElem?_cons_zero, List.getElem?_cons_succ, Nat.zero_add, Nat.add_zero, Nat.reduceAdd, forall_const]
  refine drw_s (Sep.start w) fun w1 hs1 _ => ?_
  have hr1 := hs1.hd hr
  obtain ⟨T, fr, hc⟩ := hr1.cell
  simp only [nilc_some, fad_mk, pik_true, pik_false, cnd_true, cnd_false, gif_same, gif_tf, gif_ft, gif_undef, bi_add, bi_sub, bi_mul, bi_eql, bi_neq, bi_lss, bi_leq, bi_gtr, bi_geq, notB_bool, cvi_int, lenS_mk, lenT_mk, ext0, ext1, ext2, nilP_mk, nilS_mk, fldv_agg, jn0_k, jn1_k, jn2_k, jn1_and, jn1_or, ex_some, Option.isNone_some, Option.isNone_none, Bool.false_bne, Bool.bne_true, Bool.bne_false, Bool.true_bne, Bool.not_true, Bool.not_false, Bool.and_true, Bool.true_and, Bool.and_false, Bool.false_and, Bool.or_true, Bool.true_or, Bool.or_false, Bool.false_or, cond_true, cond_false, List.getElem?_toArray, List.getElem?_cons_zero, List.getElem?_cons_succ, Nat.zero_add, Nat.add_zero, Nat.reduceAdd, forall_const, L_hold_Hold hc, L_hold_Hold__made hc, L_hold_Hold__roomB hc, L_hold_Hold__roomV hc, L_hold_Hold__blocks hc, L_hold_Hold__votes hc, hr1.lenB, hr1.vw.len]
  exact hR _ _ ⟨rfl, hs1.fr0⟩
theorem hNew_spec (a b : Int) : cal P f_hold_New [.int .i64 a, .int .i64 b] w fun r w' => (¬ (1 ≤ a ∧ a ≤ 256 ∧ 1 ≤ b ∧ b ≤ 256) ∧ r = .tuple #[.pointer none, .int .i64 1] ∧ Fr [] w w') ∨
    ((1 ≤ a ∧ a ≤ 256 ∧ 1 ≤ b ∧ b ≤ 256) ∧ ∃ g, r = .tuple #[.pointer (some ⟨g, 0, none⟩), .int .i64 0] ∧ Sep w w' (hdH g (.slice none 0 0) (.slice none 0 0) a b [] [])) := by
  refine s_hold_New fun R hR => ?_
  unfold c_hold_New
  simp only [nilc_some, fad_mk, pik_true, pik_false, cnd_true, cnd_false, gif_same, gif_tf, gif_ft, gif_undef, bi_add, bi_sub, bi_mul, bi_eql, bi_neq, bi_lss, bi_leq, bi_gtr, bi_geq, notB_bool, cvi_int, lenS_mk, lenT_mk, ext0, ext1, ext2, nilP_mk, nilS_mk, fldv_agg, jn0_k, jn1_k, jn2_k, jn1_and, jn1_or, ex_some, Option.isNone_some, Option.isNone_none, Bool.false_bne, Bool.bne_true, Bool.bne_false, Bool.true_bne, Bool.not_true, Bool.not_false, Bool.and_true, Bool.true_and, Bool.and_false, Bool.false_and, Bool.or_true, Bool.true_or, Bool.or_false, Bool.false_or, cond_true, cond_false, List.getElem?_toArray, List.getElem?_cons_zero, List.getElem?_cons_succ, Nat.zero_add, Nat.add_zero, Nat.reduceAdd, forall_const]
  rw [cnd_bool]
  refine ⟨fun hc => ?_, fun hc => ?_⟩
  · simp only [Bool.or_eq_true, decide_eq_true_eq] at hc
    exact hR _ _ (.inl ⟨by omega, rfl, Fr.refl _ _⟩)
  simp only [Bool.or_eq_false_iff, decide_eq_false_iff_not] at hc
  rw [B_hold_Hold_0_1_2]
  refine bxQ (Sep.start w) fun g w1 hs1 => ?_
  refine hR _ _ (.inr ⟨by omega, g, rfl, ?_⟩)
  exact Sep.pick ((hs1.nilR (q := Q_hold_waiting)).nilR (q := Q_api_HeldVote)) [2, 1, 0] 3
theorem noW_take {k : Vec 32} {i : Nat} {x : Wt} (h : noW k (ws.take i) = none) (hx : ws[i]? = some x) : noW k (ws.take (i + 1)) = if x.1 = k then some x else none := by
  unfold noW at h ⊢
  rw [List.take_add_one, hx, List.find?_append, h]
  by_cases hk : x.1 = k <;> simp [hk]
theorem noW_hit {k : Vec 32} {i : Nat} {x : Wt} (h : noW k (ws.take i) = none) (hx : ws[i]? = some x) (hk : x.1 = k) : noW k ws = some x := by
  have h1 := noW_take h hx
  rw [if_pos hk] at h1
  unfold noW at h1 ⊢
  rw [← List.take_append_drop (i + 1) ws, List.find?_append, h1]
  rfl
theorem hGet_spec (hr : HdR w.heap g bv vv rb rv ws vs) (hn : ws.length ≤ 1000000) (hl : ∀ x ∈ ws, x.2.1.d.length ≤ 200) (k : Vec 32) :
    cal P f_hold_Hold_Get [.pointer (some ⟨g, 0, none⟩), kv k] w fun r w' => ∃ v, r = .tuple #[bq (gotW k ws).1 v, .int .i64 (if (noW k ws).isSome then 0 else 4)] ∧ Sep w w' [ownB v (gotW k ws).1.d] := by
  refine s_hold_Hold_Get fun R hR => ?_
  unfold c_hold_Hold_Get
  refine bxQ (Sep.start w) fun g3 w1 hs1 => ?_
  refine alloc_s hs1 (A_api_Block w1) fun g4 w2 hs2 => ?_
  refine cal_i (hnone_spec (hs2.hd hr)) ?_
  rintro _ _ ⟨rfl, rfl⟩
  obtain ⟨T, fr, hc⟩ := (hs2.hd hr).cell
  simp only [nilc_some, fad_mk, pik_true, pik_false, cnd_true, cnd_false, gif_same, gif_tf, gif_ft, gif_undef, bi_add, bi_sub, bi_mul, bi_eql, bi_neq, bi_lss, bi_leq, bi_gtr, bi_geq, notB_bool, cvi_int, lenS_mk, lenT_mk, ext0, ext1, ext2, nilP_mk, nilS_mk, fldv_agg, jn0_k, jn1_k, jn2_k, jn1_and, jn1_or, ex_some, Option.isNone_some, Option.isNone_none, Bool.false_bne, Bool.bne_true, Bool.bne_false, Bool.true_bne, Bool.not_true, Bool.not_false, Bool.and_true, Bool.true_and, Bool.and_false, Bool.false_and, Bool.or_true, Bool.true_or, Bool.or_false, Bool.false_or, cond_true, cond_false, List.getElem?_toArray, List.getElem?_cons_zero, List.getElem?_cons_succ, Nat.zero_add, Nat.add_zero, Nat.reduceAdd, forall_const, L_hold_Hold hc, L_hold_Hold__made hc, L_hold_Hold__roomB hc, L_hold_Hold__roomV hc, L_hold_Hold__blocks hc, L_hold_Hold__votes hc, hr.lenB]
  refine ⟨fun y z => ∃ i : Nat, y = .int .i64 i ∧ i ≤ ws.length ∧ noW k (ws.take i) = none ∧ Sep w z [blk g4 (Rdr.cells Q_api_Block (vz 32, (0 : Int), .slice none 0 0)).toArray T_api_Block, blk g3 (Rdr.cells (rVec 32) k).toArray T_api_ID], fun y _ => (ws.length - RowKit.intOf y).toNat, ⟨0, rfl, by omega, rfl, hs2⟩, ?_⟩
  rintro _ w3 ⟨i, rfl, hi, hno, hs3⟩ -
  simp only [nilc_some, fad_mk, pik_true, pik_false, cnd_true, cnd_false, gif_same, gif_tf, gif_ft, gif_undef, bi_add, bi_sub, bi_mul, bi_eql, bi_neq, bi_lss, bi_leq, bi_gtr, bi_geq, notB_bool, cvi_int, lenS_mk, lenT_mk, ext0, ext1, ext2, nilP_mk, nilS_mk, fldv_agg, jn0_k, jn1_k, jn2_k, jn1_and, jn1_or, ex_some, Option.isNone_some, Option.isNone_none, Bool.false_bne, Bool.bne_true, Bool.bne_false, Bool.true_bne, Bool.not_true, Bool.not_false, Bool.and_true, Bool.true_and, Bool.and_false, Bool.false_and, Bool.or_true, Bool.true_or, Bool.or_false, Bool.false_or, cond_true, cond_false, List.getElem?_toArray, List.getElem?_cons_zero, List.getElem?_cons_succ, Nat.zero_add, Nat.add_zero, Nat.reduceAdd, forall_const]
  rw [cnd_bool]
  refine ⟨fun h => ?_, fun h => ?_⟩
  · have hlt : i < ws.length := by simp at h; omega
    obtain ⟨x, hx⟩ : ∃ x, ws[i]? = some x := ⟨_, List.getElem?_eq_getElem hlt⟩
    have hx' : (ws.map Wt.c)[i]? = some x.c := by rw [List.getElem?_map, hx]; rfl
    have hxm := List.mem_of_getElem? hx
    have hxd := hr.dat x hxm
    change ixs 66 _ _ _
    refine Rows'.ldN (q := Q_hold_waiting) (by decide) ((hs3.hd hr).bw) hx' .i64 ?_
    refine alloc_s hs3 (A_hold_waiting w3) fun g7 w4 hs4 => ?_
    refine St_hold_waiting hs4 (one_hold_waiting hxd.one) fun w5 hs5 => ?_
    simp only [nilc_some, fad_mk, pik_true, pik_false, cnd_true, cnd_false, gif_same, gif_tf, gif_ft, gif_undef, bi_add, bi_sub, bi_mul, bi_eql, bi_neq, bi_lss, bi_leq, bi_gtr, bi_geq, notB_bool, cvi_int, lenS_mk, lenT_mk, ext0, ext1, ext2, nilP_mk, nilS_mk, fldv_agg, jn0_k, jn1_k, jn2_k, jn1_and, jn1_or, ex_some, Option.isNone_some, Option.isNone_none, Bool.false_bne, Bool.bne_true, Bool.bne_false, Bool.true_bne, Bool.not_true, Bool.not_false, Bool.and_true, Bool.true_and, Bool.and_false, Bool.false_and, Bool.or_true, Bool.true_or, Bool.or_false, Bool.false_or, cond_true, cond_false, List.getElem?_toArray, List.getElem?_cons_zero, List.getElem?_cons_succ, Nat.zero_add, Nat.add_zero, Nat.reduceAdd, forall_const, L_hold_waiting (Sep.blk hs5), L_hold_waiting__id (Sep.blk hs5), L_hold_waiting__b (Sep.blk hs5), L_hold_waiting__b_Parent (Sep.blk hs5), L_hold_waiting__b_Height (Sep.blk hs5), L_hold_waiting__b_Data (Sep.blk hs5), L_api_ID (Sep.blk hs5.p2), eq_api_ID]
    rw [cnd_bool]
    refine ⟨fun h => ?_, fun h => ?_⟩
    · have h : x.1 = k := of_decide_eq_true h
      have hf := noW_hit hno hx h
      refine cal_i (bkClone_spec (b := x.2.1) (v := x.2.2) ((hs5.hd hr).dat x hxm) (by have := hl x hxm; omega)) ?_
      rintro _ w6 ⟨v, rfl, hs6⟩
      replace hs6 := hs5.join hs6
      refine St_api_Block (Sep.pick hs6 [2, 0, 1, 3] 4) (one_api_Block (Sep.one hs6)) fun w7 hs7 => ?_
      simp only [L_api_Block (Sep.blk hs7), L_api_Block__Parent (Sep.blk hs7), L_api_Block__Height (Sep.blk hs7), L_api_Block__Data (Sep.blk hs7)]
      refine hR _ _ ⟨v, ?_, ?_⟩
      · unfold gotW
        rw [hf]
        rfl
      · unfold gotW
        rw [hf]
        exact Sep.pick hs7 [1] 4
    · have h : ¬ x.1 = k := of_decide_eq_false h
      rw [wi64 (by omega) (by omega)]
      exact ⟨⟨i + 1, by simp, by omega, by rw [noW_take hno hx, if_neg h], hs5.tail⟩, by simp [RowKit.intOf]; omega⟩
  · have hge : i = ws.length := by simp at h; omega
    rw [hge, List.take_of_length_le (Nat.le_refl _)] at hno
    rw [B_api_Block]
    refine St_api_Block hs3 (one_api_Block rfl) fun w4 hs4 => ?_
    simp only [L_api_Block hs4.blk, L_api_Block__Parent hs4.blk, L_api_Block__Height hs4.blk, L_api_Block__Data hs4.blk]
    refine hR _ _ ⟨.slice none 0 0, ?_, ?_⟩
    · unfold gotW
      rw [hno]
      rfl
    · unfold gotW
      rw [hno]
      exact ((Sep.start w).old hs4.fr0).nil
theorem hHas_spec (hr : HdR w.heap g bv vv rb rv ws vs) (hn : ws.length ≤ 1000000) (hl : ∀ x ∈ ws, x.2.1.d.length ≤ 200) (k : Vec 32) :
    cal P f_hold_Hold_Has [.pointer (some ⟨g, 0, none⟩), kv k] w fun r w' => r = .bool (noW k ws).isSome ∧ Fr [] w w' := by
  refine s_hold_Hold_Has fun R hR => ?_
  unfold c_hold_Hold_Has
  refine bxQ (Sep.start w) fun g3 w1 hs1 => ?_
  simp only [L_api_ID hs1.blk]
  refine cal_i (hGet_spec (hs1.hd hr) hn hl k) ?_
  rintro _ w2 ⟨v, rfl, hs2⟩
  replace hs2 := hs1.join hs2
  simp only [nilc_some, fad_mk, pik_true, pik_false, cnd_true, cnd_false, gif_same, gif_tf, gif_ft, gif_undef, bi_add, bi_sub, bi_mul, bi_eql, bi_neq, bi_lss, bi_leq, bi_gtr, bi_geq, notB_bool, cvi_int, lenS_mk, lenT_mk, ext0, ext1, ext2, nilP_mk, nilS_mk, fldv_agg, jn0_k, jn1_k, jn2_k, jn1_and, jn1_or, ex_some, Option.isNone_some, Option.isNone_none, Bool.false_bne, Bool.bne_true, Bool.bne_false, Bool.true_bne, Bool.not_true, Bool.not_false, Bool.and_true, Bool.true_and, Bool.and_false, Bool.false_and, Bool.or_true, Bool.true_or, Bool.or_false, Bool.false_or, cond_true, cond_false, List.getElem?_toArray, List.getElem?_cons_zero, List.getElem?_cons_succ, Nat.zero_add, Nat.add_zero, Nat.reduceAdd, forall_const]
  refine alloc_s hs2 (A_api_Block w2) fun g5 w3 hs3 => ?_
  refine St_api_Block hs3 (one_api_Block (Sep.one hs3.p1)) fun w4 hs4 => ?_
  refine hR _ _ ⟨?_, hs4.fr0⟩
  cases noW k ws <;> rfl
end
end Go.Fx
set_option linter.unusedVariables false
set_option linter.unusedSimpArgs false
namespace Go.Fx
theorem filter_optH {α : Type} (so : α → Bool) (k : α) : List.filter so (some k).toList = if so k = true then [k] else [] := by
  cases h : so k <;> simp [h]
abbrev wtv (x : Wt) : Value := .agg (Rdr.cells Q_hold_waiting x.c).toArray
abbrev hvv (x : (Int × Int × Vec 32 × Vec 32)) : Value := .agg (Rdr.cells Q_api_HeldVote x).toArray
section
variable {w0 w w' : World} {As : List Asn} {g : Nat} {bv vv : Value} {rb rv : Int} {ws : List Wt} {vs : List (Int × Int × Vec 32 × Vec 32)}
theorem calV_mkH {f : FuncId} {cap args : List Value} {K : Value → World → Prop} (hc : callable P f = true) (h : cal P f (args ++ cap) w K) : calV P (.func (.func f) #[] cap.toArray) args w K :=
  ⟨f, #[], cap.toArray, rfl, hc, by simpa [cal] using h⟩
theorem takenW_spec {f : FuncId} {cap : List Value} {so : Wt → Bool} (hb : Rows' Q_hold_waiting w.heap bv (ws.map Wt.c)) (hd : ∀ x ∈ ws, x.2.2.oneCell' = true) (hn : ws.length ≤ 1000000) (hc : callable P f = true)
    (hso : ∀ (z : World) (x : Wt), x ∈ ws → Fr [] w z → cal P f ([wtv x] ++ cap) z fun r w' => r = .bool (so x) ∧ Fr [] z w') :
    cal P f_hold_taken_hold_waiting [bv, .func (.func f) #[] cap.toArray] w fun r w' => ∃ a b, r = .tuple #[a, b] ∧ Sep w w' [rows Q_hold_waiting a (List.map Wt.c (ws.filter so)), rows Q_hold_waiting b (List.map Wt.c (ws.filter fun x => !so x))] := by
  refine s_hold_taken_hold_waiting fun R hR => ?_
  unfold c_hold_taken_hold_waiting
  have hlen : ∀ K, lenS bv K = K (.int .i64 ws.length) := fun K => by
    have := hb.len K
    rwa [List.length_map] at this
  simp only [hlen]
  refine ⟨fun x y z w' => ∃ i : Nat, z = .int .i64 i ∧ i ≤ ws.length ∧ Sep w w' [rows Q_hold_waiting x (List.map Wt.c ((ws.take i).filter so)), rows Q_hold_waiting y (List.map Wt.c ((ws.take i).filter fun x => !so x))], fun _ _ z _ => (ws.length - RowKit.intOf z).toNat, ⟨0, rfl, by omega, ((Sep.start w).nilR (q := Q_hold_waiting)).nilR (q := Q_hold_waiting)⟩, ?_⟩
  rintro x y _ w1 ⟨i, rfl, hi, hs1⟩ -
  simp only [nilc_some, fad_mk, pik_true, pik_false, cnd_true, cnd_false, gif_same, gif_tf, gif_ft, gif_undef, bi_add, bi_sub, bi_mul, bi_eql, bi_neq, bi_lss, bi_leq, bi_gtr, bi_geq, notB_bool, cvi_int, lenS_mk, lenT_mk, ext0, ext1, ext2, nilP_mk, nilS_mk, fldv_agg, jn0_k, jn1_k, jn2_k, jn1_and, jn1_or, ex_some, Option.isNone_some, Option.isNone_none, Bool.false_bne, Bool.bne_true, Bool.bne_false, Bool.true_bne, Bool.not_true, Bool.not_false, Bool.and_true, Bool.true_and, Bool.and_false, Bool.false_and, Bool.or_true, Bool.true_or, Bool.or_false, Bool.false_or, cond_true, cond_false, List.getElem?_toArray, List.getElem?_cons_zero, List.getElem?_cons_succ, Nat.zero_add, Nat.add_zero, Nat.reduceAdd, forall_const]
  rw [cnd_bool]
  refine ⟨fun h => ?_, fun h => ?_⟩
  · have hlt : i < ws.length := by simp at h; omega
    obtain ⟨e, he⟩ : ∃ e, ws[i]? = some e := ⟨_, List.getElem?_eq_getElem hlt⟩
    have hem := List.mem_of_getElem? he
    have he' : (ws.map Wt.c)[i]? = some (e.c) := by rw [List.getElem?_map, he]; rfl
    have t1 : (ws.take (i + 1)).filter so = (ws.take i).filter so ++ (if so e = true then [e] else []) := by
      rw [List.take_add_one, he, List.filter_append, filter_optH]
    have t2 : (ws.take (i + 1)).filter (fun x => !so x) = (ws.take i).filter (fun x => !so x) ++ (if (!so e) = true then [e] else []) := by
      rw [List.take_add_one, he, List.filter_append, filter_optH (fun x => !so x)]
    have l1 : ((ws.take i).filter so).length ≤ i := Nat.le_trans (List.length_filter_le _ _) (List.length_take_le _ _)
    have l2 : ((ws.take i).filter fun x => !so x).length ≤ i := Nat.le_trans (List.length_filter_le _ _) (List.length_take_le _ _)
    refine ⟨fun a b z => Sep w z [rows Q_hold_waiting a (List.map Wt.c ((ws.take (i + 1)).filter so)), rows Q_hold_waiting b (List.map Wt.c ((ws.take (i + 1)).filter fun x => !so x))], ?_, ?_⟩
    · change ixs 66 _ _ _
      refine Rows'.ldN (q := Q_hold_waiting) (by decide) (hb.fr hs1.fr0) he' .i64 ?_
      refine alloc_s hs1 (A_hold_waiting w1) fun g7 w2 hs2 => ?_
      refine St_hold_waiting (b := e.c) hs2 (one_hold_waiting (hd e hem)) fun w3 hs3 => ?_
      simp only [L_hold_waiting hs3.blk, L_hold_waiting__id hs3.blk, L_hold_waiting__b hs3.blk, L_hold_waiting__b_Parent hs3.blk, L_hold_waiting__b_Height hs3.blk, L_hold_waiting__b_Data hs3.blk]
      refine calV_mkH hc (cal_i (hso w3 e hem hs3.fr0) ?_)
      rintro _ w4 ⟨rfl, hf4⟩
      have hs4 := hs3.old hf4
      have oneE : ∀ u ∈ [e.c].flatMap (Rdr.cells Q_hold_waiting), u.oneCell' = true := by
        simp only [List.flatMap_cons, List.flatMap_nil, List.append_nil]
        exact one_hold_waiting (hd e hem)
      rw [cnd_bool]
      refine ⟨fun hk => ?_, fun hk => ?_⟩
      · simp only [L_hold_waiting hs4.blk, L_hold_waiting__id hs4.blk, L_hold_waiting__b hs4.blk, L_hold_waiting__b_Parent hs4.blk, L_hold_waiting__b_Height hs4.blk, L_hold_waiting__b_Data hs4.blk]
        refine rows_lit (q := Q_hold_waiting) hs4 S_sl_hold_waiting (l := [e.c]) (V := fun a => .agg (Rdr.cells Q_hold_waiting a).toArray) (fun a => rfl) rfl rfl (by decide) (by decide) fun g8 w5 hs5 => ?_
        refine rows_app S_sl_hold_waiting U_sl_hold_waiting (by simp) hs5.p2 (Sep.rows hs5) oneE (by simp; omega) (by simp; omega) fun v8 w8 hs8 => ?_
        rw [t1, t2, hk, if_pos rfl, if_neg (by simp), List.append_nil]
        have e5 : List.map Wt.c ((ws.take i).filter so ++ [e]) = List.map Wt.c ((ws.take i).filter so) ++ [e.c] := by simp
        rw [e5]
        exact Sep.pick hs8 [0, 3] 4
      · simp only [L_hold_waiting hs4.blk, L_hold_waiting__id hs4.blk, L_hold_waiting__b hs4.blk, L_hold_waiting__b_Parent hs4.blk, L_hold_waiting__b_Height hs4.blk, L_hold_waiting__b_Data hs4.blk]
        refine rows_lit (q := Q_hold_waiting) hs4 S_sl_hold_waiting (l := [e.c]) (V := fun a => .agg (Rdr.cells Q_hold_waiting a).toArray) (fun a => rfl) rfl rfl (by decide) (by decide) fun g8 w5 hs5 => ?_
        refine rows_app S_sl_hold_waiting U_sl_hold_waiting (by simp) hs5.p3 (Sep.rows hs5) oneE (by simp; omega) (by simp; omega) fun v8 w8 hs8 => ?_
        rw [t1, t2, hk, if_neg (by simp), if_pos (by simp), List.append_nil]
        have e5 : List.map Wt.c ((ws.take i).filter (fun x => !so x) ++ [e]) = List.map Wt.c ((ws.take i).filter fun x => !so x) ++ [e.c] := by simp
        rw [e5]
        exact Sep.pick hs8 [3, 0] 4
    · rintro a b w2 hs2 _
      rw [wi64 (by omega) (by omega)]
      exact ⟨⟨i + 1, by simp, by omega, hs2⟩, by simp [RowKit.intOf]; omega⟩
  · have hge : i = ws.length := by simp at h; omega
    rw [hge, List.take_of_length_le (Nat.le_refl _)] at hs1
    exact hR _ _ ⟨x, y, rfl, hs1⟩
theorem takenV_spec {f : FuncId} {cap : List Value} {so : (Int × Int × Vec 32 × Vec 32) → Bool} (hb : Rows' Q_api_HeldVote w.heap bv (vs)) (hn : vs.length ≤ 1000000) (hc : callable P f = true)
    (hso : ∀ (z : World) (x : (Int × Int × Vec 32 × Vec 32)), x ∈ vs → Fr [] w z → cal P f ([hvv x] ++ cap) z fun r w' => r = .bool (so x) ∧ Fr [] z w') :
    cal P f_hold_taken_api_HeldVote [bv, .func (.func f) #[] cap.toArray] w fun r w' => ∃ a b, r = .tuple #[a, b] ∧ Sep w w' [rows Q_api_HeldVote a ((vs.filter so)), rows Q_api_HeldVote b ((vs.filter fun x => !so x))] := by
  refine s_hold_taken_api_HeldVote fun R hR => ?_
  unfold c_hold_taken_api_HeldVote
  have hlen : ∀ K, lenS bv K = K (.int .i64 vs.length) := fun K => by
    have := hb.len K
    exact this
  simp only [hlen]
  refine ⟨fun x y z w' => ∃ i : Nat, z = .int .i64 i ∧ i ≤ vs.length ∧ Sep w w' [rows Q_api_HeldVote x (((vs.take i).filter so)), rows Q_api_HeldVote y (((vs.take i).filter fun x => !so x))], fun _ _ z _ => (vs.length - RowKit.intOf z).toNat, ⟨0, rfl, by omega, ((Sep.start w).nilR (q := Q_api_HeldVote)).nilR (q := Q_api_HeldVote)⟩, ?_⟩
  rintro x y _ w1 ⟨i, rfl, hi, hs1⟩ -
  simp only [nilc_some, fad_mk, pik_true, pik_false, cnd_true, cnd_false, gif_same, gif_tf, gif_ft, gif_undef, bi_add, bi_sub, bi_mul, bi_eql, bi_neq, bi_lss, bi_leq, bi_gtr, bi_geq, notB_bool, cvi_int, lenS_mk, lenT_mk, ext0, ext1, ext2, nilP_mk, nilS_mk, fldv_agg, jn0_k, jn1_k, jn2_k, jn1_and, jn1_or, ex_some, Option.isNone_some, Option.isNone_none, Bool.false_bne, Bool.bne_true, Bool.bne_false, Bool.true_bne, Bool.not_true, Bool.not_false, Bool.and_true, Bool.true_and, Bool.and_false, Bool.false_and, Bool.or_true, Bool.true_or, Bool.or_false, Bool.false_or, cond_true, cond_false, List.getElem?_toArray, List.getElem?_cons_zero, List.getElem?_cons_succ, Nat.zero_add, Nat.add_zero, Nat.reduceAdd, forall_const]
  rw [cnd_bool]
  refine ⟨fun h => ?_, fun h => ?_⟩
  · have hlt : i < vs.length := by simp at h; omega
    obtain ⟨e, he⟩ : ∃ e, vs[i]? = some e := ⟨_, List.getElem?_eq_getElem hlt⟩
    have hem := List.mem_of_getElem? he
    have he' : (vs)[i]? = some (e) := by exact he
    have t1 : (vs.take (i + 1)).filter so = (vs.take i).filter so ++ (if so e = true then [e] else []) := by
      rw [List.take_add_one, he, List.filter_append, filter_optH]
    have t2 : (vs.take (i + 1)).filter (fun x => !so x) = (vs.take i).filter (fun x => !so x) ++ (if (!so e) = true then [e] else []) := by
      rw [List.take_add_one, he, List.filter_append, filter_optH (fun x => !so x)]
    have l1 : ((vs.take i).filter so).length ≤ i := Nat.le_trans (List.length_filter_le _ _) (List.length_take_le _ _)
    have l2 : ((vs.take i).filter fun x => !so x).length ≤ i := Nat.le_trans (List.length_filter_le _ _) (List.length_take_le _ _)
    refine ⟨fun a b z => Sep w z [rows Q_api_HeldVote a (((vs.take (i + 1)).filter so)), rows Q_api_HeldVote b (((vs.take (i + 1)).filter fun x => !so x))], ?_, ?_⟩
    · change ixs 66 _ _ _
      refine Rows'.ldN (q := Q_api_HeldVote) (by decide) (hb.fr hs1.fr0) he' .i64 ?_
      refine alloc_s hs1 (A_api_HeldVote w1) fun g7 w2 hs2 => ?_
      refine St_api_HeldVote (b := e) hs2 one_api_HeldVote fun w3 hs3 => ?_
      simp only [L_api_HeldVote hs3.blk, L_api_HeldVote__Poll hs3.blk, L_api_HeldVote__Node hs3.blk, L_api_HeldVote__Want hs3.blk, L_api_HeldVote__Else hs3.blk]
      refine calV_mkH hc (cal_i (hso w3 e hem hs3.fr0) ?_)
      rintro _ w4 ⟨rfl, hf4⟩
      have hs4 := hs3.old hf4
      have oneE : ∀ u ∈ [e].flatMap (Rdr.cells Q_api_HeldVote), u.oneCell' = true := by
        simp only [List.flatMap_cons, List.flatMap_nil, List.append_nil]
        exact one_api_HeldVote
      rw [cnd_bool]
      refine ⟨fun hk => ?_, fun hk => ?_⟩
      · simp only [L_api_HeldVote hs4.blk, L_api_HeldVote__Poll hs4.blk, L_api_HeldVote__Node hs4.blk, L_api_HeldVote__Want hs4.blk, L_api_HeldVote__Else hs4.blk]
        refine rows_lit (q := Q_api_HeldVote) hs4 S_sl_api_HeldVote (l := [e]) (V := fun a => .agg (Rdr.cells Q_api_HeldVote a).toArray) (fun a => rfl) rfl rfl (by decide) (by decide) fun g8 w5 hs5 => ?_
        refine rows_app S_sl_api_HeldVote U_sl_api_HeldVote (by simp) hs5.p2 (Sep.rows hs5) oneE (by simp; omega) (by simp; omega) fun v8 w8 hs8 => ?_
        rw [t1, t2, hk, if_pos rfl, if_neg (by simp), List.append_nil]
        have e5 : ((vs.take i).filter so ++ [e]) = ((vs.take i).filter so) ++ [e] := by simp
        rw [e5]
        exact Sep.pick hs8 [0, 3] 4
      · simp only [L_api_HeldVote hs4.blk, L_api_HeldVote__Poll hs4.blk, L_api_HeldVote__Node hs4.blk, L_api_HeldVote__Want hs4.blk, L_api_HeldVote__Else hs4.blk]
        refine rows_lit (q := Q_api_HeldVote) hs4 S_sl_api_HeldVote (l := [e]) (V := fun a => .agg (Rdr.cells Q_api_HeldVote a).toArray) (fun a => rfl) rfl rfl (by decide) (by decide) fun g8 w5 hs5 => ?_
        refine rows_app S_sl_api_HeldVote U_sl_api_HeldVote (by simp) hs5.p3 (Sep.rows hs5) oneE (by simp; omega) (by simp; omega) fun v8 w8 hs8 => ?_
        rw [t1, t2, hk, if_neg (by simp), if_pos (by simp), List.append_nil]
        have e5 : ((vs.take i).filter (fun x => !so x) ++ [e]) = ((vs.take i).filter fun x => !so x) ++ [e] := by simp
        rw [e5]
        exact Sep.pick hs8 [3, 0] 4
    · rintro a b w2 hs2 _
      rw [wi64 (by omega) (by omega)]
      exact ⟨⟨i + 1, by simp, by omega, hs2⟩, by simp [RowKit.intOf]; omega⟩
  · have hge : i = vs.length := by simp at h; omega
    rw [hge, List.take_of_length_le (Nat.le_refl _)] at hs1
    exact hR _ _ ⟨x, y, rfl, hs1⟩
end
end Go.Fx
set_option linter.unusedVariables false
set_option linter.unusedSimpArgs false
namespace Go.Fx
section
variable {w0 w w' : World} {As : List Asn} {g : Nat} {bv vv : Value} {rb rv : Int} {ws : List Wt} {vs : List (Int × Int × Vec 32 × Vec 32)}
theorem DatW.filter (h : DatW ws As) (p : Wt → Bool) : DatW (ws.filter p) As := fun x hx => h x (List.mem_filter.1 hx).1
theorem hTakes_spec {f : FuncId} {cap : List Value} {so : Vec 32 → Bool} (hs : Sep w0 w (hdH g bv vv rb rv ws vs ++ As)) (hd : DatW ws As) (hn : ws.length ≤ 1000000) (hnv : vs.length ≤ 1000000) (hc : callable P f = true)
    (hso : ∀ (z : World) (Bs : List Asn) (k : Vec 32), Sep w0 z (Bs ++ As) → cal P f ([kv k] ++ cap) z fun r w' => r = .bool (so k) ∧ Fr [] z w') :
    cal P f_hold_Hold_takes [.pointer (some ⟨g, 0, none⟩), .func (.func f) #[] cap.toArray] w fun r w' => ∃ ob ov bv' vv', r = .tuple #[ob, ov] ∧
      Sep w0 w' (hdH g bv' vv' rb rv (ws.filter fun x => !so x.2.1.p) (vs.filter fun x => !so x.2.2.1) ++ (rows Q_hold_waiting ob ((ws.filter fun x => so x.2.1.p).map Wt.c) :: rows Q_api_HeldVote ov (vs.filter fun x => so x.2.2.1) :: As)) := by
  refine s_hold_Hold_takes fun R hR => ?_
  unfold c_hold_Hold_takes
  refine bx_s hs fun g3 w1 hs1 => ?_
  replace hs1 : Sep w0 w1 (blk g3 #[.func (.func f) #[] cap.toArray] T_func_api_ID_bool :: (hdH g bv vv rb rv ws vs ++ As)) := hs1
  have hr1 := hdH_rd hs1.tail hd
  refine cal_i (hnone_spec hr1) ?_
  rintro _ _ ⟨rfl, rfl⟩
  simp only [nilc_some, fad_mk, pik_true, pik_false, cnd_true, cnd_false, gif_same, gif_tf, gif_ft, gif_undef, bi_add, bi_sub, bi_mul, bi_eql, bi_neq, bi_lss, bi_leq, bi_gtr, bi_geq, notB_bool, cvi_int, lenS_mk, lenT_mk, ext0, ext1, ext2, nilP_mk, nilS_mk, fldv_agg, jn0_k, jn1_k, jn2_k, jn1_and, jn1_or, ex_some, Option.isNone_some, Option.isNone_none, Bool.false_bne, Bool.bne_true, Bool.bne_false, Bool.true_bne, Bool.not_true, Bool.not_false, Bool.and_true, Bool.true_and, Bool.and_false, Bool.false_and, Bool.or_true, Bool.true_or, Bool.or_false, Bool.false_or, cond_true, cond_false, List.getElem?_toArray, List.getElem?_cons_zero, List.getElem?_cons_succ, Nat.zero_add, Nat.add_zero, Nat.reduceAdd, forall_const, L_hold_Hold (Sep.blk hs1.p1), L_hold_Hold__made (Sep.blk hs1.p1), L_hold_Hold__roomB (Sep.blk hs1.p1), L_hold_Hold__roomV (Sep.blk hs1.p1), L_hold_Hold__blocks (Sep.blk hs1.p1), L_hold_Hold__votes (Sep.blk hs1.p1)]
  refine cal_i (takenW_spec (f := f_hold_Hold_takes_1) (cap := [.pointer (some ⟨g3, 0, none⟩)]) (so := fun x => so x.2.1.p) hr1.bw (fun x hx => (hr1.dat x hx).one) hn (by kernel_rfl) ?_) ?_
  · intro z x hx hz
    have hsz := hs1.old hz
    refine s_hold_Hold_takes_1 fun R hR => ?_
    unfold c_hold_Hold_takes_1
    refine bxQ (Sep.start z) fun g2 w2 hs2 => ?_
    have hsz2 := hsz.join hs2
    refine ld1_i (v := .func (.func f) #[] cap.toArray) (Sep.blk (Sep.pick hsz2 [1] 2)) rfl ?_
    simp only [nilc_some, fad_mk, pik_true, pik_false, cnd_true, cnd_false, gif_same, gif_tf, gif_ft, gif_undef, bi_add, bi_sub, bi_mul, bi_eql, bi_neq, bi_lss, bi_leq, bi_gtr, bi_geq, notB_bool, cvi_int, lenS_mk, lenT_mk, ext0, ext1, ext2, nilP_mk, nilS_mk, fldv_agg, jn0_k, jn1_k, jn2_k, jn1_and, jn1_or, ex_some, Option.isNone_some, Option.isNone_none, Bool.false_bne, Bool.bne_true, Bool.bne_false, Bool.true_bne, Bool.not_true, Bool.not_false, Bool.and_true, Bool.true_and, Bool.and_false, Bool.false_and, Bool.or_true, Bool.true_or, Bool.or_false, Bool.false_or, cond_true, cond_false, List.getElem?_toArray, List.getElem?_cons_zero, List.getElem?_cons_succ, Nat.zero_add, Nat.add_zero, Nat.reduceAdd, forall_const, L_hold_waiting (Sep.blk hs2), L_hold_waiting__id (Sep.blk hs2), L_hold_waiting__b (Sep.blk hs2), L_hold_waiting__b_Parent (Sep.blk hs2), L_hold_waiting__b_Height (Sep.blk hs2), L_hold_waiting__b_Data (Sep.blk hs2)]
    refine calV_mkH hc (cal_i (hso w2 [_, _, _, _, _] x.2.1.p hsz2) ?_)
    rintro _ w3 ⟨rfl, hf⟩
    exact hR _ _ ⟨rfl, (hs2.old hf).fr0⟩
  rintro _ w2 ⟨a, b, rfl, hs2⟩
  replace hs2 := hs1.join hs2
  simp only [nilc_some, fad_mk, pik_true, pik_false, cnd_true, cnd_false, gif_same, gif_tf, gif_ft, gif_undef, bi_add, bi_sub, bi_mul, bi_eql, bi_neq, bi_lss, bi_leq, bi_gtr, bi_geq, notB_bool, cvi_int, lenS_mk, lenT_mk, ext0, ext1, ext2, nilP_mk, nilS_mk, fldv_agg, jn0_k, jn1_k, jn2_k, jn1_and, jn1_or, ex_some, Option.isNone_some, Option.isNone_none, Bool.false_bne, Bool.bne_true, Bool.bne_false, Bool.true_bne, Bool.not_true, Bool.not_false, Bool.and_true, Bool.true_and, Bool.and_false, Bool.false_and, Bool.or_true, Bool.true_or, Bool.or_false, Bool.false_or, cond_true, cond_false, List.getElem?_toArray, List.getElem?_cons_zero, List.getElem?_cons_succ, Nat.zero_add, Nat.add_zero, Nat.reduceAdd, forall_const]
  refine St_hold_Hold__blocks (Sep.pick hs2 [3, 0, 1, 2, 4, 5] 6) (Sep.oneR hs2.p1) fun w3 hs3 => ?_
  simp only [L_hold_Hold (Sep.blk hs3), L_hold_Hold__made (Sep.blk hs3), L_hold_Hold__roomB (Sep.blk hs3), L_hold_Hold__roomV (Sep.blk hs3), L_hold_Hold__blocks (Sep.blk hs3), L_hold_Hold__votes (Sep.blk hs3)]
  refine cal_i (takenV_spec (f := f_hold_Hold_takes_2) (cap := [.pointer (some ⟨g3, 0, none⟩)]) (so := fun x => so x.2.2.1) (Sep.rows (Sep.pick hs3 [5] 6)) hnv (by kernel_rfl) ?_) ?_
  · intro z x hx hz
    have hsz := hs3.old hz
    refine s_hold_Hold_takes_2 fun R hR => ?_
    unfold c_hold_Hold_takes_2
    refine bxQ (Sep.start z) fun g2 w2 hs2 => ?_
    have hsz2 := hsz.join hs2
    refine ld1_i (v := .func (.func f) #[] cap.toArray) (Sep.blk (Sep.pick hsz2 [4] 5)) rfl ?_
    simp only [nilc_some, fad_mk, pik_true, pik_false, cnd_true, cnd_false, gif_same, gif_tf, gif_ft, gif_undef, bi_add, bi_sub, bi_mul, bi_eql, bi_neq, bi_lss, bi_leq, bi_gtr, bi_geq, notB_bool, cvi_int, lenS_mk, lenT_mk, ext0, ext1, ext2, nilP_mk, nilS_mk, fldv_agg, jn0_k, jn1_k, jn2_k, jn1_and, jn1_or, ex_some, Option.isNone_some, Option.isNone_none, Bool.false_bne, Bool.bne_true, Bool.bne_false, Bool.true_bne, Bool.not_true, Bool.not_false, Bool.and_true, Bool.true_and, Bool.and_false, Bool.false_and, Bool.or_true, Bool.true_or, Bool.or_false, Bool.false_or, cond_true, cond_false, List.getElem?_toArray, List.getElem?_cons_zero, List.getElem?_cons_succ, Nat.zero_add, Nat.add_zero, Nat.reduceAdd, forall_const, L_api_HeldVote (Sep.blk hs2), L_api_HeldVote__Poll (Sep.blk hs2), L_api_HeldVote__Node (Sep.blk hs2), L_api_HeldVote__Want (Sep.blk hs2), L_api_HeldVote__Else (Sep.blk hs2)]
    refine calV_mkH hc (cal_i (hso w2 [_, _, _, _, _, _, _] x.2.2.1 hsz2) ?_)
    rintro _ w3 ⟨rfl, hf⟩
    exact hR _ _ ⟨rfl, (hs2.old hf).fr0⟩
  rintro _ w4 ⟨c, d, rfl, hs4⟩
  replace hs4 := hs3.join hs4
  simp only [nilc_some, fad_mk, pik_true, pik_false, cnd_true, cnd_false, gif_same, gif_tf, gif_ft, gif_undef, bi_add, bi_sub, bi_mul, bi_eql, bi_neq, bi_lss, bi_leq, bi_gtr, bi_geq, notB_bool, cvi_int, lenS_mk, lenT_mk, ext0, ext1, ext2, nilP_mk, nilS_mk, fldv_agg, jn0_k, jn1_k, jn2_k, jn1_and, jn1_or, ex_some, Option.isNone_some, Option.isNone_none, Bool.false_bne, Bool.bne_true, Bool.bne_false, Bool.true_bne, Bool.not_true, Bool.not_false, Bool.and_true, Bool.true_and, Bool.and_false, Bool.false_and, Bool.or_true, Bool.true_or, Bool.or_false, Bool.false_or, cond_true, cond_false, List.getElem?_toArray, List.getElem?_cons_zero, List.getElem?_cons_succ, Nat.zero_add, Nat.add_zero, Nat.reduceAdd, forall_const]
  refine St_hold_Hold__votes (Sep.pick hs4 [2, 0, 1, 3, 4, 5, 6, 7] 8) (Sep.oneR hs4.p1) fun w5 hs5 => ?_
  exact hR _ _ ⟨a, c, b, d, rfl, Sep.pick hs5 [0, 4, 2, 3, 1] 8⟩
/-- A poll's votes are dropped. -/
theorem hDrop_spec {p : Int} (hs : Sep w0 w (hdH g bv vv rb rv ws vs ++ As)) (hd : DatW ws As) (hnv : vs.length ≤ 1000000) :
    cal P f_hold_Hold_Drop [.pointer (some ⟨g, 0, none⟩), .int .i64 p] w fun r w' => r = .int .i64 (vs.filter fun x => decide (x.1 = p)).length ∧ ∃ vv', Sep w0 w' (hdH g bv vv' rb rv ws (vs.filter fun x => !decide (x.1 = p)) ++ As) := by
  refine s_hold_Hold_Drop fun R hR => ?_
  unfold c_hold_Hold_Drop
  refine bx_s hs fun g3 w1 hs1 => ?_
  replace hs1 : Sep w0 w1 (blk g3 #[.int .i64 p] T_int64 :: (hdH g bv vv rb rv ws vs ++ As)) := hs1
  have hr1 := hdH_rd hs1.tail hd
  refine cal_i (hnone_spec hr1) ?_
  rintro _ _ ⟨rfl, rfl⟩
  simp only [nilc_some, fad_mk, pik_true, pik_false, cnd_true, cnd_false, gif_same, gif_tf, gif_ft, gif_undef, bi_add, bi_sub, bi_mul, bi_eql, bi_neq, bi_lss, bi_leq, bi_gtr, bi_geq, notB_bool, cvi_int, lenS_mk, lenT_mk, ext0, ext1, ext2, nilP_mk, nilS_mk, fldv_agg, jn0_k, jn1_k, jn2_k, jn1_and, jn1_or, ex_some, Option.isNone_some, Option.isNone_none, Bool.false_bne, Bool.bne_true, Bool.bne_false, Bool.true_bne, Bool.not_true, Bool.not_false, Bool.and_true, Bool.true_and, Bool.and_false, Bool.false_and, Bool.or_true, Bool.true_or, Bool.or_false, Bool.false_or, cond_true, cond_false, List.getElem?_toArray, List.getElem?_cons_zero, List.getElem?_cons_succ, Nat.zero_add, Nat.add_zero, Nat.reduceAdd, forall_const, L_hold_Hold (Sep.blk hs1.p1), L_hold_Hold__made (Sep.blk hs1.p1), L_hold_Hold__roomB (Sep.blk hs1.p1), L_hold_Hold__roomV (Sep.blk hs1.p1), L_hold_Hold__blocks (Sep.blk hs1.p1), L_hold_Hold__votes (Sep.blk hs1.p1)]
  refine cal_i (takenV_spec (f := f_hold_Hold_Drop_1) (cap := [.pointer (some ⟨g3, 0, none⟩)]) (so := fun x => decide (x.1 = p)) hr1.vw hnv (by kernel_rfl) ?_) ?_
  · intro z x hx hz
    have hsz := hs1.old hz
    refine s_hold_Hold_Drop_1 fun R hR => ?_
    unfold c_hold_Hold_Drop_1
    refine bxQ (Sep.start z) fun g2 w2 hs2 => ?_
    have hsz2 := hsz.join hs2
    simp only [nilc_some, fad_mk, pik_true, pik_false, cnd_true, cnd_false, gif_same, gif_tf, gif_ft, gif_undef, bi_add, bi_sub, bi_mul, bi_eql, bi_neq, bi_lss, bi_leq, bi_gtr, bi_geq, notB_bool, cvi_int, lenS_mk, lenT_mk, ext0, ext1, ext2, nilP_mk, nilS_mk, fldv_agg, jn0_k, jn1_k, jn2_k, jn1_and, jn1_or, ex_some, Option.isNone_some, Option.isNone_none, Bool.false_bne, Bool.bne_true, Bool.bne_false, Bool.true_bne, Bool.not_true, Bool.not_false, Bool.and_true, Bool.true_and, Bool.and_false, Bool.false_and, Bool.or_true, Bool.true_or, Bool.or_false, Bool.false_or, cond_true, cond_false, List.getElem?_toArray, List.getElem?_cons_zero, List.getElem?_cons_succ, Nat.zero_add, Nat.add_zero, Nat.reduceAdd, forall_const, L_api_HeldVote (Sep.blk hs2), L_api_HeldVote__Poll (Sep.blk hs2), L_api_HeldVote__Node (Sep.blk hs2), L_api_HeldVote__Want (Sep.blk hs2), L_api_HeldVote__Else (Sep.blk hs2)]
    refine ld1_i (v := .int .i64 p) (Sep.blk (Sep.pick hsz2 [1] 2)) rfl ?_
    simp only [nilc_some, fad_mk, pik_true, pik_false, cnd_true, cnd_false, gif_same, gif_tf, gif_ft, gif_undef, bi_add, bi_sub, bi_mul, bi_eql, bi_neq, bi_lss, bi_leq, bi_gtr, bi_geq, notB_bool, cvi_int, lenS_mk, lenT_mk, ext0, ext1, ext2, nilP_mk, nilS_mk, fldv_agg, jn0_k, jn1_k, jn2_k, jn1_and, jn1_or, ex_some, Option.isNone_some, Option.isNone_none, Bool.false_bne, Bool.bne_true, Bool.bne_false, Bool.true_bne, Bool.not_true, Bool.not_false, Bool.and_true, Bool.true_and, Bool.and_false, Bool.false_and, Bool.or_true, Bool.true_or, Bool.or_false, Bool.false_or, cond_true, cond_false, List.getElem?_toArray, List.getElem?_cons_zero, List.getElem?_cons_succ, Nat.zero_add, Nat.add_zero, Nat.reduceAdd, forall_const]
    exact hR _ _ ⟨rfl, hs2.fr0⟩
  rintro _ w2 ⟨a, b, rfl, hs2⟩
  have hla := (Sep.rows hs2).len
  replace hs2 := hs1.join hs2
  simp only [nilc_some, fad_mk, pik_true, pik_false, cnd_true, cnd_false, gif_same, gif_tf, gif_ft, gif_undef, bi_add, bi_sub, bi_mul, bi_eql, bi_neq, bi_lss, bi_leq, bi_gtr, bi_geq, notB_bool, cvi_int, lenS_mk, lenT_mk, ext0, ext1, ext2, nilP_mk, nilS_mk, fldv_agg, jn0_k, jn1_k, jn2_k, jn1_and, jn1_or, ex_some, Option.isNone_some, Option.isNone_none, Bool.false_bne, Bool.bne_true, Bool.bne_false, Bool.true_bne, Bool.not_true, Bool.not_false, Bool.and_true, Bool.true_and, Bool.and_false, Bool.false_and, Bool.or_true, Bool.true_or, Bool.or_false, Bool.false_or, cond_true, cond_false, List.getElem?_toArray, List.getElem?_cons_zero, List.getElem?_cons_succ, Nat.zero_add, Nat.add_zero, Nat.reduceAdd, forall_const]
  refine St_hold_Hold__votes (Sep.pick hs2 [3, 0, 1, 2, 4, 5] 6) (Sep.oneR hs2.p1) fun w3 hs3 => ?_
  rw [hla]
  exact hR _ _ ⟨rfl, b, Sep.pick hs3 [0, 4, 2] 6⟩
end
end Go.Fx
set_option linter.unusedVariables false
set_option linter.unusedSimpArgs false
namespace Go.Fx
theorem drH_PH {w0 w : World} {As : List Asn} {S : World → Prop} {K : (World → Prop) → World → Prop} (hs : Sep w0 w As) (hS : ∀ u, Sep w0 u As → S u) (h : ∀ w', Sep w0 w' As → w'.heap = w.heap → K S w') : drH w K := ⟨S, hS _ (hs.drew _), h _ (hs.drew _) rfl⟩
section
variable {w0 w w' : World} {As : List Asn} {g : Nat} {bv vv : Value} {rb rv : Int} {ws : List Wt} {vs : List (Int × Int × Vec 32 × Vec 32)}
theorem any_take {α : Type} {l : List α} {so : α → Bool} {i : Nat} {e : α} (h : (l.take i).any so = false) (he : l[i]? = some e) : (l.take (i + 1)).any so = so e := by
  rw [List.take_add_one, he, List.any_append, h]
  simp
theorem hasW_spec {f : FuncId} {cap : List Value} {so : Wt → Bool} (hb : Rows' Q_hold_waiting w.heap bv (ws.map Wt.c)) (hn : ws.length ≤ 1000000) (hc : callable P f = true)
    (hso : ∀ (z : World) (x : Wt), x ∈ ws → Fr [] w z → cal P f ([wtv x] ++ cap) z fun r w' => r = .bool (so x) ∧ Fr [] z w') :
    cal P f_slices_ContainsFunc_hold_waiting_hold_waiting [bv, .func (.func f) #[] cap.toArray] w fun r w' => r = .bool (ws.any so) ∧ Fr [] w w' := by
  refine s_slices_ContainsFunc_hold_waiting_hold_waiting fun R hR => ?_
  unfold c_slices_ContainsFunc_hold_waiting_hold_waiting
  have hidx : cal P f_slices_IndexFunc_hold_waiting_hold_waiting [bv, .func (.func f) #[] cap.toArray] w fun r w' => (∃ i : Int, r = .int .i64 i ∧ decide (0 ≤ i) = ws.any so) ∧ Fr [] w w' := by
    refine s_slices_IndexFunc_hold_waiting_hold_waiting fun R hR => ?_
    unfold c_slices_IndexFunc_hold_waiting_hold_waiting
    have hlen : ∀ K, lenS bv K = K (.int .i64 ws.length) := fun K => by
      have := hb.len K
      rwa [List.length_map] at this
    simp only [hlen]
    refine ⟨fun z w' => ∃ i : Nat, z = .int .i64 i ∧ i ≤ ws.length ∧ (ws.take i).any so = false ∧ Fr [] w w', fun z _ => (ws.length - RowKit.intOf z).toNat, ⟨0, rfl, by omega, rfl, Fr.refl _ _⟩, ?_⟩
    rintro _ w1 ⟨i, rfl, hi, hany, hf⟩ -
    simp only [nilc_some, fad_mk, pik_true, pik_false, cnd_true, cnd_false, gif_same, gif_tf, gif_ft, gif_undef, bi_add, bi_sub, bi_mul, bi_eql, bi_neq, bi_lss, bi_leq, bi_gtr, bi_geq, notB_bool, cvi_int, lenS_mk, lenT_mk, ext0, ext1, ext2, nilP_mk, nilS_mk, fldv_agg, jn0_k, jn1_k, jn2_k, jn1_and, jn1_or, ex_some, Option.isNone_some, Option.isNone_none, Bool.false_bne, Bool.bne_true, Bool.bne_false, Bool.true_bne, Bool.not_true, Bool.not_false, Bool.and_true, Bool.true_and, Bool.and_false, Bool.false_and, Bool.or_true, Bool.true_or, Bool.or_false, Bool.false_or, cond_true, cond_false, List.getElem?_toArray, List.getElem?_cons_zero, List.getElem?_cons_succ, Nat.zero_add, Nat.add_zero, Nat.reduceAdd, forall_const]
    rw [cnd_bool]
    refine ⟨fun h => ?_, fun h => ?_⟩
    · have hlt : i < ws.length := by simp at h; omega
      obtain ⟨e, he⟩ : ∃ e, ws[i]? = some e := ⟨_, List.getElem?_eq_getElem hlt⟩
      have hem := List.mem_of_getElem? he
      have he' : (ws.map Wt.c)[i]? = some (e.c) := by rw [List.getElem?_map, he]; rfl
      change ixs 66 _ _ _
      refine Rows'.ldN (q := Q_hold_waiting) (by decide) (hb.fr hf) he' .i64 ?_
      refine calV_mkH hc (cal_i (hso w1 e hem hf) ?_)
      rintro _ w2 ⟨rfl, hf2⟩
      have hf' : Fr [] w w2 := hf.trans hf2 (by simp) (by simp)
      rw [cnd_bool]
      refine ⟨fun hk => ?_, fun hk => ?_⟩
      · exact hR _ _ ⟨⟨i, rfl, by rw [List.any_eq_true.2 ⟨e, hem, hk⟩]; simp⟩, hf'⟩
      · rw [wi64 (by omega) (by omega)]
        exact ⟨⟨i + 1, by simp, by omega, by rw [any_take hany he, hk], hf'⟩, by simp [RowKit.intOf]; omega⟩
    · have hge : i = ws.length := by simp at h; omega
      rw [hge, List.take_of_length_le (Nat.le_refl _)] at hany
      exact hR _ _ ⟨⟨-1, rfl, by rw [hany]; rfl⟩, hf⟩
  refine cal_i hidx ?_
  rintro _ w2 ⟨⟨i, rfl, hi⟩, hf⟩
  simp only [nilc_some, fad_mk, pik_true, pik_false, cnd_true, cnd_false, gif_same, gif_tf, gif_ft, gif_undef, bi_add, bi_sub, bi_mul, bi_eql, bi_neq, bi_lss, bi_leq, bi_gtr, bi_geq, notB_bool, cvi_int, lenS_mk, lenT_mk, ext0, ext1, ext2, nilP_mk, nilS_mk, fldv_agg, jn0_k, jn1_k, jn2_k, jn1_and, jn1_or, ex_some, Option.isNone_some, Option.isNone_none, Bool.false_bne, Bool.bne_true, Bool.bne_false, Bool.true_bne, Bool.not_true, Bool.not_false, Bool.and_true, Bool.true_and, Bool.and_false, Bool.false_and, Bool.or_true, Bool.true_or, Bool.or_false, Bool.false_or, cond_true, cond_false, List.getElem?_toArray, List.getElem?_cons_zero, List.getElem?_cons_succ, Nat.zero_add, Nat.add_zero, Nat.reduceAdd, forall_const]
  exact hR _ _ ⟨by rw [← hi], hf⟩
theorem hasV_spec {f : FuncId} {cap : List Value} {so : (Int × Int × Vec 32 × Vec 32) → Bool} (hb : Rows' Q_api_HeldVote w.heap bv (vs)) (hn : vs.length ≤ 1000000) (hc : callable P f = true)
    (hso : ∀ (z : World) (x : (Int × Int × Vec 32 × Vec 32)), x ∈ vs → Fr [] w z → cal P f ([hvv x] ++ cap) z fun r w' => r = .bool (so x) ∧ Fr [] z w') :
    cal P f_slices_ContainsFunc_api_HeldVote_api_HeldVote [bv, .func (.func f) #[] cap.toArray] w fun r w' => r = .bool (vs.any so) ∧ Fr [] w w' := by
  refine s_slices_ContainsFunc_api_HeldVote_api_HeldVote fun R hR => ?_
  unfold c_slices_ContainsFunc_api_HeldVote_api_HeldVote
  have hidx : cal P f_slices_IndexFunc_api_HeldVote_api_HeldVote [bv, .func (.func f) #[] cap.toArray] w fun r w' => (∃ i : Int, r = .int .i64 i ∧ decide (0 ≤ i) = vs.any so) ∧ Fr [] w w' := by
    refine s_slices_IndexFunc_api_HeldVote_api_HeldVote fun R hR => ?_
    unfold c_slices_IndexFunc_api_HeldVote_api_HeldVote
    have hlen : ∀ K, lenS bv K = K (.int .i64 vs.length) := fun K => by
      have := hb.len K
      exact this
    simp only [hlen]
    refine ⟨fun z w' => ∃ i : Nat, z = .int .i64 i ∧ i ≤ vs.length ∧ (vs.take i).any so = false ∧ Fr [] w w', fun z _ => (vs.length - RowKit.intOf z).toNat, ⟨0, rfl, by omega, rfl, Fr.refl _ _⟩, ?_⟩
    rintro _ w1 ⟨i, rfl, hi, hany, hf⟩ -
    simp only [nilc_some, fad_mk, pik_true, pik_false, cnd_true, cnd_false, gif_same, gif_tf, gif_ft, gif_undef, bi_add, bi_sub, bi_mul, bi_eql, bi_neq, bi_lss, bi_leq, bi_gtr, bi_geq, notB_bool, cvi_int, lenS_mk, lenT_mk, ext0, ext1, ext2, nilP_mk, nilS_mk, fldv_agg, jn0_k, jn1_k, jn2_k, jn1_and, jn1_or, ex_some, Option.isNone_some, Option.isNone_none, Bool.false_bne, Bool.bne_true, Bool.bne_false, Bool.true_bne, Bool.not_true, Bool.not_false, Bool.and_true, Bool.true_and, Bool.and_false, Bool.false_and, Bool.or_true, Bool.true_or, Bool.or_false, Bool.false_or, cond_true, cond_false, List.getElem?_toArray, List.getElem?_cons_zero, List.getElem?_cons_succ, Nat.zero_add, Nat.add_zero, Nat.reduceAdd, forall_const]
    rw [cnd_bool]
    refine ⟨fun h => ?_, fun h => ?_⟩
    · have hlt : i < vs.length := by simp at h; omega
      obtain ⟨e, he⟩ : ∃ e, vs[i]? = some e := ⟨_, List.getElem?_eq_getElem hlt⟩
      have hem := List.mem_of_getElem? he
      have he' : (vs)[i]? = some (e) := by exact he
      change ixs 66 _ _ _
      refine Rows'.ldN (q := Q_api_HeldVote) (by decide) (hb.fr hf) he' .i64 ?_
      refine calV_mkH hc (cal_i (hso w1 e hem hf) ?_)
      rintro _ w2 ⟨rfl, hf2⟩
      have hf' : Fr [] w w2 := hf.trans hf2 (by simp) (by simp)
      rw [cnd_bool]
      refine ⟨fun hk => ?_, fun hk => ?_⟩
      · exact hR _ _ ⟨⟨i, rfl, by rw [List.any_eq_true.2 ⟨e, hem, hk⟩]; simp⟩, hf'⟩
      · rw [wi64 (by omega) (by omega)]
        exact ⟨⟨i + 1, by simp, by omega, by rw [any_take hany he, hk], hf'⟩, by simp [RowKit.intOf]; omega⟩
    · have hge : i = vs.length := by simp at h; omega
      rw [hge, List.take_of_length_le (Nat.le_refl _)] at hany
      exact hR _ _ ⟨⟨-1, rfl, by rw [hany]; rfl⟩, hf⟩
  refine cal_i hidx ?_
  rintro _ w2 ⟨⟨i, rfl, hi⟩, hf⟩
  simp only [nilc_some, fad_mk, pik_true, pik_false, cnd_true, cnd_false, gif_same, gif_tf, gif_ft, gif_undef, bi_add, bi_sub, bi_mul, bi_eql, bi_neq, bi_lss, bi_leq, bi_gtr, bi_geq, notB_bool, cvi_int, lenS_mk, lenT_mk, ext0, ext1, ext2, nilP_mk, nilS_mk, fldv_agg, jn0_k, jn1_k, jn2_k, jn1_and, jn1_or, ex_some, Option.isNone_some, Option.isNone_none, Bool.false_bne, Bool.bne_true, Bool.bne_false, Bool.true_bne, Bool.not_true, Bool.not_false, Bool.and_true, Bool.true_and, Bool.and_false, Bool.false_and, Bool.or_true, Bool.true_or, Bool.or_false, Bool.false_or, cond_true, cond_false, List.getElem?_toArray, List.getElem?_cons_zero, List.getElem?_cons_succ, Nat.zero_add, Nat.add_zero, Nat.reduceAdd, forall_const]
  exact hR _ _ ⟨by rw [← hi], hf⟩
/-- Which error a vote has. -/
def votE (rv : Int) (vs : List (Int × Int × Vec 32 × Vec 32)) (v : (Int × Int × Vec 32 × Vec 32)) : Int := if vs.any (fun x => decide (x.1 = v.1) && decide (x.2.1 = v.2.1)) = true then 110 else if rv ≤ vs.length then 6 else 0
theorem hVote_spec {v : (Int × Int × Vec 32 × Vec 32)} (hs : Sep w0 w (hdH g bv vv rb rv ws vs ++ As)) (hd : DatW ws As) (hnv : vs.length ≤ 1000000) :
    cal P f_hold_Hold_Vote [.pointer (some ⟨g, 0, none⟩), hvv v] w fun r w' => r = .int .i64 (votE rv vs v) ∧
      ((votE rv vs v ≠ 0 ∧ Sep w0 w' (hdH g bv vv rb rv ws vs ++ As)) ∨ (votE rv vs v = 0 ∧ ∃ vv', Sep w0 w' (hdH g bv vv' rb rv ws (vs ++ [v]) ++ As))) := by
  refine s_hold_Hold_Vote fun R hR => ?_
  unfold c_hold_Hold_Vote
  refine bxQ hs fun g3 w1 hs1 => ?_
  have hr1 := hdH_rd hs1.tail hd
  refine cal_i (hnone_spec hr1) ?_
  rintro _ _ ⟨rfl, rfl⟩
  simp only [nilc_some, fad_mk, pik_true, pik_false, cnd_true, cnd_false, gif_same, gif_tf, gif_ft, gif_undef, bi_add, bi_sub, bi_mul, bi_eql, bi_neq, bi_lss, bi_leq, bi_gtr, bi_geq, notB_bool, cvi_int, lenS_mk, lenT_mk, ext0, ext1, ext2, nilP_mk, nilS_mk, fldv_agg, jn0_k, jn1_k, jn2_k, jn1_and, jn1_or, ex_some, Option.isNone_some, Option.isNone_none, Bool.false_bne, Bool.bne_true, Bool.bne_false, Bool.true_bne, Bool.not_true, Bool.not_false, Bool.and_true, Bool.true_and, Bool.and_false, Bool.false_and, Bool.or_true, Bool.true_or, Bool.or_false, Bool.false_or, cond_true, cond_false, List.getElem?_toArray, List.getElem?_cons_zero, List.getElem?_cons_succ, Nat.zero_add, Nat.add_zero, Nat.reduceAdd, forall_const, L_hold_Hold (Sep.blk hs1.p1), L_hold_Hold__made (Sep.blk hs1.p1), L_hold_Hold__roomB (Sep.blk hs1.p1), L_hold_Hold__roomV (Sep.blk hs1.p1), L_hold_Hold__blocks (Sep.blk hs1.p1), L_hold_Hold__votes (Sep.blk hs1.p1)]
  refine cal_i (hasV_spec (f := f_hold_Hold_Vote_1) (cap := [.pointer (some ⟨g3, 0, none⟩)]) (so := fun x => decide (x.1 = v.1) && decide (x.2.1 = v.2.1)) hr1.vw hnv (by kernel_rfl) ?_) ?_
  · intro z x hx hz
    have hsz := hs1.old hz
    refine s_hold_Hold_Vote_1 fun R hR => ?_
    unfold c_hold_Hold_Vote_1
    refine bxQ (Sep.start z) fun g2 w2 hs2 => ?_
    have hsz2 := hsz.join hs2
    simp only [nilc_some, fad_mk, pik_true, pik_false, cnd_true, cnd_false, gif_same, gif_tf, gif_ft, gif_undef, bi_add, bi_sub, bi_mul, bi_eql, bi_neq, bi_lss, bi_leq, bi_gtr, bi_geq, notB_bool, cvi_int, lenS_mk, lenT_mk, ext0, ext1, ext2, nilP_mk, nilS_mk, fldv_agg, jn0_k, jn1_k, jn2_k, jn1_and, jn1_or, ex_some, Option.isNone_some, Option.isNone_none, Bool.false_bne, Bool.bne_true, Bool.bne_false, Bool.true_bne, Bool.not_true, Bool.not_false, Bool.and_true, Bool.true_and, Bool.and_false, Bool.false_and, Bool.or_true, Bool.true_or, Bool.or_false, Bool.false_or, cond_true, cond_false, List.getElem?_toArray, List.getElem?_cons_zero, List.getElem?_cons_succ, Nat.zero_add, Nat.add_zero, Nat.reduceAdd, forall_const, L_api_HeldVote (Sep.blk hs2), L_api_HeldVote__Poll (Sep.blk hs2), L_api_HeldVote__Node (Sep.blk hs2), L_api_HeldVote__Want (Sep.blk hs2), L_api_HeldVote__Else (Sep.blk hs2), L_api_HeldVote (Sep.blk (Sep.pick hsz2 [1] 2)), L_api_HeldVote__Poll (Sep.blk (Sep.pick hsz2 [1] 2)), L_api_HeldVote__Node (Sep.blk (Sep.pick hsz2 [1] 2)), L_api_HeldVote__Want (Sep.blk (Sep.pick hsz2 [1] 2)), L_api_HeldVote__Else (Sep.blk (Sep.pick hsz2 [1] 2))]
    refine hR _ _ ⟨?_, hs2.fr0⟩
    rfl
  rintro _ w2 ⟨rfl, hf2⟩
  have hs2 := hs1.old hf2
  rw [cnd_bool]
  refine ⟨fun h => ?_, fun h => ?_⟩
  · have e : votE rv vs v = 110 := by unfold votE; rw [if_pos h]
    exact hR _ _ ⟨by rw [e], .inl ⟨by rw [e]; decide, hs2.tail⟩⟩
  have h1 : ¬ vs.any (fun x => decide (x.1 = v.1) && decide (x.2.1 = v.2.1)) = true := by rw [h]; simp
  refine drw_s hs2 fun w3 hs3 _ => ?_
  simp only [nilc_some, fad_mk, pik_true, pik_false, cnd_true, cnd_false, gif_same, gif_tf, gif_ft, gif_undef, bi_add, bi_sub, bi_mul, bi_eql, bi_neq, bi_lss, bi_leq, bi_gtr, bi_geq, notB_bool, cvi_int, lenS_mk, lenT_mk, ext0, ext1, ext2, nilP_mk, nilS_mk, fldv_agg, jn0_k, jn1_k, jn2_k, jn1_and, jn1_or, ex_some, Option.isNone_some, Option.isNone_none, Bool.false_bne, Bool.bne_true, Bool.bne_false, Bool.true_bne, Bool.not_true, Bool.not_false, Bool.and_true, Bool.true_and, Bool.and_false, Bool.false_and, Bool.or_true, Bool.true_or, Bool.or_false, Bool.false_or, cond_true, cond_false, List.getElem?_toArray, List.getElem?_cons_zero, List.getElem?_cons_succ, Nat.zero_add, Nat.add_zero, Nat.reduceAdd, forall_const, L_hold_Hold (Sep.blk hs3.p1), L_hold_Hold__made (Sep.blk hs3.p1), L_hold_Hold__roomB (Sep.blk hs3.p1), L_hold_Hold__roomV (Sep.blk hs3.p1), L_hold_Hold__blocks (Sep.blk hs3.p1), L_hold_Hold__votes (Sep.blk hs3.p1), hr1.vw.len]
  rw [cnd_bool]
  refine ⟨fun h => ?_, fun h => ?_⟩
  · have h : rv ≤ vs.length := by simpa using h
    have e : votE rv vs v = 6 := by unfold votE; rw [if_neg h1, if_pos h]
    exact hR _ _ ⟨by rw [e], .inl ⟨by rw [e]; decide, hs3.tail⟩⟩
  have h2 : ¬ rv ≤ vs.length := by simpa using h
  have e : votE rv vs v = 0 := by unfold votE; rw [if_neg h1, if_neg h2]
  refine drH_PH (S := fun u => Sep w0 u (blk g3 (Rdr.cells Q_api_HeldVote v).toArray T_api_HeldVote :: blk g (Rdr.cells Q_hold_Hold (true, rb, rv, bv, vv)).toArray T_hold_Hold :: rows Q_hold_waiting bv (ws.map Wt.c) :: As)) hs3 (fun u hu => Sep.pick hu [0, 1, 2] 4) fun w4 hs4 _ => ?_
  refine rdS_ld (v := vv) (fun u hu K hk => (L_hold_Hold__votes (Sep.blk hu.p1) K).mpr hk) ?_
  refine ⟨hvv v, fun u hu => (L_api_HeldVote (Sep.blk hu) _).mpr rfl, ?_⟩
  refine efS_i (rows_lit (q := Q_api_HeldVote) hs4 S_sl_api_HeldVote (l := [v]) (V := fun a => .agg (Rdr.cells Q_api_HeldVote a).toArray) (fun a => rfl) rfl rfl (by decide) (by decide) fun g8 w5 hs5 => ⟨Sep.pick hs5 [1, 2, 3] 5, ?_⟩)
  refine efC_efP (rows_app (q := Q_api_HeldVote) S_sl_api_HeldVote U_sl_api_HeldVote (by simp) (Sep.pick hs5 [4, 0, 1, 2, 3] 5) (Sep.rows hs5) ?_ (by simp; omega) (by simp; omega) fun v8 w8 hs8 => ?_)
  · simp only [List.flatMap_cons, List.flatMap_nil, List.append_nil]
    exact one_api_HeldVote
  refine efC_st1 (St_hold_Hold__votes (Sep.pick hs8 [3, 0, 1, 2, 4] 5) (Sep.oneR hs8) fun w9 hs9 => ?_)
  exact hR _ _ ⟨by rw [e], .inr ⟨e, v8, Sep.pick hs9 [0, 4, 1] 5⟩⟩
end
end Go.Fx
set_option linter.unusedVariables false
set_option linter.unusedSimpArgs false
namespace Go.Fx
/-- Which error a block has. -/
def blkE (rb : Int) (ws : List Wt) (b : Blk) : Int := if b.chk ≠ 0 then b.chk else if (noW b.id ws).isSome = true then 110 else if rb ≤ ws.length then 6 else 0
def blkId (rb : Int) (ws : List Wt) (b : Blk) : Vec 32 := if blkE rb ws b = 0 then b.id else vz 32
theorem chk0_len {b : Blk} (h : b.chk = 0) : b.d.length ≤ 200 := by
  unfold Blk.chk at h
  split at h
  · cases h
  · omega
section
variable {w0 w w' : World} {As : List Asn} {g : Nat} {bv vv : Value} {rb rv : Int} {ws : List Wt} {vs : List (Int × Int × Vec 32 × Vec 32)}
theorem hBlock_spec {b : Blk} {v : Value} (hs : Sep w0 w (hdH g bv vv rb rv ws vs ++ As)) (hd : DatW ws As) (hC : Cub w) (hb : RdB w.heap v b.d) (hh : b.h ≤ maxI) (hn : ws.length ≤ 1000000) (hl : ∀ x ∈ ws, x.2.1.d.length ≤ 200) :
    cal P f_hold_Hold_Block [.pointer (some ⟨g, 0, none⟩), bq b v] w fun r w' => r = .tuple #[kv (blkId rb ws b), .int .i64 (blkE rb ws b)] ∧
      ((blkE rb ws b ≠ 0 ∧ Sep w0 w' (hdH g bv vv rb rv ws vs ++ As)) ∨ (blkE rb ws b = 0 ∧ ∃ bv' vd, Sep w0 w' (hdH g bv' vv rb rv (ws ++ [(b.id, b, vd)]) vs ++ (ownB vd b.d :: As)))) := by
  have hr := hdH_rd hs hd
  refine s_hold_Hold_Block fun R hR => ?_
  unfold c_hold_Hold_Block
  refine bxQ (Sep.start w) fun g3 w1 hs1 => ?_
  refine alloc_s hs1 (A_api_ID w1) fun g4 w2 hs2 => ?_
  refine cal_i (hnone_spec (hs2.hd hr)) ?_
  rintro _ _ ⟨rfl, rfl⟩
  simp only [nilc_some, fad_mk, pik_true, pik_false, cnd_true, cnd_false, gif_same, gif_tf, gif_ft, gif_undef, bi_add, bi_sub, bi_mul, bi_eql, bi_neq, bi_lss, bi_leq, bi_gtr, bi_geq, notB_bool, cvi_int, lenS_mk, lenT_mk, ext0, ext1, ext2, nilP_mk, nilS_mk, fldv_agg, jn0_k, jn1_k, jn2_k, jn1_and, jn1_or, ex_some, Option.isNone_some, Option.isNone_none, Bool.false_bne, Bool.bne_true, Bool.bne_false, Bool.true_bne, Bool.not_true, Bool.not_false, Bool.and_true, Bool.true_and, Bool.and_false, Bool.false_and, Bool.or_true, Bool.true_or, Bool.or_false, Bool.false_or, cond_true, cond_false, List.getElem?_toArray, List.getElem?_cons_zero, List.getElem?_cons_succ, Nat.zero_add, Nat.add_zero, Nat.reduceAdd, forall_const, L_api_Block (Sep.p1 hs2).blk, L_api_Block__Parent (Sep.p1 hs2).blk, L_api_Block__Height (Sep.p1 hs2).blk, L_api_Block__Data (Sep.p1 hs2).blk]
  refine cal_i (bkID_spec (hC.fr hs2.fr0) (hb.fr hs2.fr0 (off_nil _)) hh) ?_
  rintro _ w3 ⟨rfl, hf3⟩
  have hs3 := hs2.old hf3
  simp only [nilc_some, fad_mk, pik_true, pik_false, cnd_true, cnd_false, gif_same, gif_tf, gif_ft, gif_undef, bi_add, bi_sub, bi_mul, bi_eql, bi_neq, bi_lss, bi_leq, bi_gtr, bi_geq, notB_bool, cvi_int, lenS_mk, lenT_mk, ext0, ext1, ext2, nilP_mk, nilS_mk, fldv_agg, jn0_k, jn1_k, jn2_k, jn1_and, jn1_or, ex_some, Option.isNone_some, Option.isNone_none, Bool.false_bne, Bool.bne_true, Bool.bne_false, Bool.true_bne, Bool.not_true, Bool.not_false, Bool.and_true, Bool.true_and, Bool.and_false, Bool.false_and, Bool.or_true, Bool.true_or, Bool.or_false, Bool.false_or, cond_true, cond_false, List.getElem?_toArray, List.getElem?_cons_zero, List.getElem?_cons_succ, Nat.zero_add, Nat.add_zero, Nat.reduceAdd, forall_const]
  refine alloc_s hs3 (A_api_ID w3) fun g6 w4 hs4 => ?_
  refine St_api_ID hs4 fun w5 hs5 => ?_
  have bad : ∀ (w6 : World) (e : Int), Sep w w6 [blk g6 (Rdr.cells (rVec 32) b.name).toArray T_api_ID, blk g4 (Rdr.cells (rVec 32) (vz 32)).toArray T_api_ID, blk g3 (Rdr.cells Q_api_Block (b.p, b.h, v)).toArray T_api_Block] → blkE rb ws b = e → e ≠ 0 →
      rdP P (Instr.build T_api_ID #[]) w6 fun t20 => stN 32 (.pointer (some ⟨g4, 0, none⟩)) t20 w6 fun w => ldN 32 (.pointer (some ⟨g4, 0, none⟩)) w.heap fun r1 => R (.tuple #[r1, .int .i64 e]) w := fun w6 e hs6 he h0 => by
    rw [B_ID0]
    refine St_api_ID hs6.p1 fun w7 hs7 => ?_
    simp only [L_api_ID hs7.blk]
    exact hR _ _ ⟨by rw [blkId, if_neg (by rw [he]; exact h0), he], .inl ⟨by rw [he]; exact h0, hs.old hs7.fr0⟩⟩
  rw [cnd_bool]
  refine ⟨fun h => ?_, fun h => ?_⟩
  · have h : b.chk ≠ 0 := by simpa using h
    exact bad w5 b.chk hs5 (by unfold blkE; rw [if_pos h]) h
  have h1 : b.chk = 0 := by simpa using h
  have hnm : b.name = b.id := by unfold Blk.name; rw [if_pos h1]
  rw [hnm] at hs5 bad
  simp only [L_api_ID hs5.blk]
  refine cal_i (hHas_spec (hs5.hd hr) hn hl b.id) ?_
  rintro _ w6 ⟨rfl, hf6⟩
  have hs6 := hs5.old hf6
  rw [cnd_bool]
  refine ⟨fun h => ?_, fun h => ?_⟩
  · exact bad w6 110 hs6 (by unfold blkE; rw [if_neg (by simpa using h1), if_pos h]) (by decide)
  have h2 : ¬ (noW b.id ws).isSome = true := by rw [h]; simp
  refine drw_s hs6 fun w10 hs10 hh10 => ?_
  have hr10 := hs10.hd hr
  obtain ⟨T, fr, hc⟩ := hr10.cell
  simp only [nilc_some, fad_mk, pik_true, pik_false, cnd_true, cnd_false, gif_same, gif_tf, gif_ft, gif_undef, bi_add, bi_sub, bi_mul, bi_eql, bi_neq, bi_lss, bi_leq, bi_gtr, bi_geq, notB_bool, cvi_int, lenS_mk, lenT_mk, ext0, ext1, ext2, nilP_mk, nilS_mk, fldv_agg, jn0_k, jn1_k, jn2_k, jn1_and, jn1_or, ex_some, Option.isNone_some, Option.isNone_none, Bool.false_bne, Bool.bne_true, Bool.bne_false, Bool.true_bne, Bool.not_true, Bool.not_false, Bool.and_true, Bool.true_and, Bool.and_false, Bool.false_and, Bool.or_true, Bool.true_or, Bool.or_false, Bool.false_or, cond_true, cond_false, List.getElem?_toArray, List.getElem?_cons_zero, List.getElem?_cons_succ, Nat.zero_add, Nat.add_zero, Nat.reduceAdd, forall_const, L_hold_Hold hc, L_hold_Hold__made hc, L_hold_Hold__roomB hc, L_hold_Hold__roomV hc, L_hold_Hold__blocks hc, L_hold_Hold__votes hc, hr10.lenB]
  rw [cnd_bool]
  refine ⟨fun h => ?_, fun h => ?_⟩
  · have h : rb ≤ (ws.length : Int) := by simpa using h
    exact bad w10 6 hs10 (by unfold blkE; rw [if_neg (by simpa using h1), if_neg h2, if_pos h]) (by decide)
  have h6 : ¬ rb ≤ (ws.length : Int) := by simpa using h
  have hE : blkE rb ws b = 0 := by unfold blkE; rw [if_neg (by simpa using h1), if_neg h2, if_neg h6]
  have hbl := chk0_len h1
  have hsA := hs.join hs10
  refine drH_PH (S := fun u => Sep w0 u (blk g6 (Rdr.cells (rVec 32) b.id).toArray T_api_ID :: blk g4 (Rdr.cells (rVec 32) (vz 32)).toArray T_api_ID :: blk g3 (Rdr.cells Q_api_Block (b.p, b.h, v)).toArray T_api_Block :: blk g (Rdr.cells Q_hold_Hold (true, rb, rv, bv, vv)).toArray T_hold_Hold :: rows Q_api_HeldVote vv vs :: As)) hsA (fun u hu => Sep.pick hu [0, 1, 2, 3, 5] 6) fun w11 hs11 hh11 => ?_
  refine rdS_ld (v := bv) (fun u hu K hk => (L_hold_Hold__blocks (Sep.p3 hu).blk K).mpr hk) ?_
  refine ⟨kv b.id, fun u hu => (L_api_ID (Sep.blk hu) _).mpr rfl, ?_⟩
  refine ⟨bq b v, fun u hu => (L_api_Block (Sep.blk (Sep.p2 hu)) _).mpr rfl, ?_⟩
  refine efS_i (cal_i (bkClone_spec (b := b) (v := v) (by rw [hh11]; exact hb.fr hs10.fr0 (off_nil _)) (by omega)) ?_)
  rintro _ w12 ⟨vd, rfl, hs12⟩
  have hs12' := hs11.join hs12
  have h1d := Sep.one hs12'
  refine ⟨Sep.pick hs12' [1, 2, 3, 4, 6] 7, ?_⟩
  refine ⟨.agg (Rdr.cells Q_hold_waiting (b.id, b.p, b.h, vd)).toArray, fun u hu => by rw [B_hold_waiting_0_1], ?_⟩
  refine efS_i (rows_lit (q := Q_hold_waiting) hs12' S_sl_hold_waiting (l := [(b.id, b.p, b.h, vd)]) (V := fun a => .agg (Rdr.cells Q_hold_waiting a).toArray) (fun a => rfl) rfl rfl (by decide) (by decide) fun g7 w13 hs13 => ⟨Sep.pick hs13 [2, 3, 4, 5, 7] 8, ?_⟩)
  refine efC_efP (rows_app (q := Q_hold_waiting) S_sl_hold_waiting U_sl_hold_waiting (by simp) (Sep.pick hs13 [6, 0, 1, 2, 3, 4, 5, 7] 8) (Sep.rows hs13) ?_ (by simp; omega) (by simp; omega) fun v14 w14 hs14 => ?_)
  · simp only [List.flatMap_cons, List.flatMap_nil, List.append_nil]
    exact one_hold_waiting h1d
  refine efC_st1 (St_hold_Hold__blocks (Sep.pick hs14 [6, 0, 1, 2, 3, 4, 5, 7] 8) (Sep.oneR hs14) fun w16 hs16 => ?_)
  simp only [L_api_ID (Sep.blk (Sep.pick hs16 [4] 5))]
  refine St_api_ID (Sep.pick hs16 [5, 0, 1, 2, 3, 4, 6, 7] 8) fun w17 hs17 => ?_
  simp only [L_api_ID (Sep.blk hs17)]
  refine hR _ _ ⟨by rw [blkId, if_pos hE, hE], .inr ⟨hE, v14, vd, ?_⟩⟩
  have e2 : (ws ++ [(b.id, b, vd)]).map Wt.c = ws.map Wt.c ++ [(b.id, b.p, b.h, vd)] := by simp [Wt.c]
  unfold hdH
  rw [e2]
  exact Sep.pick hs17 [1, 2, 7, 4] 8
end
end Go.Fx
set_option linter.unusedVariables false
set_option linter.unusedSimpArgs false
namespace Go.Fx
section
variable {w0 w w' : World} {As : List Asn} {g : Nat} {bv vv : Value} {rb rv : Int} {ws : List Wt} {vs : List (Int × Int × Vec 32 × Vec 32)}
theorem hVotes_spec {p : Int} (hr : HdR w.heap g bv vv rb rv ws vs) (hnv : vs.length ≤ 1000000) :
    cal P f_hold_Hold_Votes [.pointer (some ⟨g, 0, none⟩), .int .i64 p] w fun r w' => r = .int .i64 (vs.filter fun x => decide (x.1 = p)).length ∧ Fr [] w w' := by
  refine s_hold_Hold_Votes fun R hR => ?_
  unfold c_hold_Hold_Votes
  refine cal_i (hnone_spec hr) ?_
  rintro _ _ ⟨rfl, rfl⟩
  obtain ⟨T, fr, hc⟩ := hr.cell
  simp only [nilc_some, fad_mk, pik_true, pik_false, cnd_true, cnd_false, gif_same, gif_tf, gif_ft, gif_undef, bi_add, bi_sub, bi_mul, bi_eql, bi_neq, bi_lss, bi_leq, bi_gtr, bi_geq, notB_bool, cvi_int, lenS_mk, lenT_mk, ext0, ext1, ext2, nilP_mk, nilS_mk, fldv_agg, jn0_k, jn1_k, jn2_k, jn1_and, jn1_or, ex_some, Option.isNone_some, Option.isNone_none, Bool.false_bne, Bool.bne_true, Bool.bne_false, Bool.true_bne, Bool.not_true, Bool.not_false, Bool.and_true, Bool.true_and, Bool.and_false, Bool.false_and, Bool.or_true, Bool.true_or, Bool.or_false, Bool.false_or, cond_true, cond_false, List.getElem?_toArray, List.getElem?_cons_zero, List.getElem?_cons_succ, Nat.zero_add, Nat.add_zero, Nat.reduceAdd, forall_const, L_hold_Hold hc, L_hold_Hold__made hc, L_hold_Hold__roomB hc, L_hold_Hold__roomV hc, L_hold_Hold__blocks hc, L_hold_Hold__votes hc, hr.vw.len]
  refine ⟨fun x y z => ∃ i : Nat, y = .int .i64 i ∧ i ≤ vs.length ∧ x = .int .i64 ((vs.take i).filter fun x => decide (x.1 = p)).length ∧ Sep w z [], fun _ y _ => (vs.length - RowKit.intOf y).toNat, ⟨0, rfl, by omega, rfl, Sep.start w⟩, ?_⟩
  rintro _ _ w1 ⟨i, rfl, hi, rfl, hs1⟩ -
  simp only [nilc_some, fad_mk, pik_true, pik_false, cnd_true, cnd_false, gif_same, gif_tf, gif_ft, gif_undef, bi_add, bi_sub, bi_mul, bi_eql, bi_neq, bi_lss, bi_leq, bi_gtr, bi_geq, notB_bool, cvi_int, lenS_mk, lenT_mk, ext0, ext1, ext2, nilP_mk, nilS_mk, fldv_agg, jn0_k, jn1_k, jn2_k, jn1_and, jn1_or, ex_some, Option.isNone_some, Option.isNone_none, Bool.false_bne, Bool.bne_true, Bool.bne_false, Bool.true_bne, Bool.not_true, Bool.not_false, Bool.and_true, Bool.true_and, Bool.and_false, Bool.false_and, Bool.or_true, Bool.true_or, Bool.or_false, Bool.false_or, cond_true, cond_false, List.getElem?_toArray, List.getElem?_cons_zero, List.getElem?_cons_succ, Nat.zero_add, Nat.add_zero, Nat.reduceAdd, forall_const]
  rw [cnd_bool]
  refine ⟨fun h => ?_, fun h => ?_⟩
  · have hlt : i < vs.length := by simp at h; omega
    obtain ⟨e, he⟩ : ∃ e, vs[i]? = some e := ⟨_, List.getElem?_eq_getElem hlt⟩
    have t1 : (vs.take (i + 1)).filter (fun x => decide (x.1 = p)) = (vs.take i).filter (fun x => decide (x.1 = p)) ++ (if decide (e.1 = p) = true then [e] else []) := by
      rw [List.take_add_one, he, List.filter_append, filter_optH]
    have l1 : ((vs.take i).filter fun x => decide (x.1 = p)).length ≤ i := Nat.le_trans (List.length_filter_le _ _) (List.length_take_le _ _)
    refine ⟨fun a z => a = .int .i64 ((vs.take (i + 1)).filter fun x => decide (x.1 = p)).length ∧ Sep w z [], ?_, ?_⟩
    · change ixs 66 _ _ _
      refine Rows'.ldN (q := Q_api_HeldVote) (by decide) (hr.vw.fr hs1.fr0) he .i64 ?_
      refine alloc_s hs1 (A_api_HeldVote w1) fun g7 w2 hs2 => ?_
      refine St_api_HeldVote (b := e) hs2 one_api_HeldVote fun w3 hs3 => ?_
      simp only [nilc_some, fad_mk, pik_true, pik_false, cnd_true, cnd_false, gif_same, gif_tf, gif_ft, gif_undef, bi_add, bi_sub, bi_mul, bi_eql, bi_neq, bi_lss, bi_leq, bi_gtr, bi_geq, notB_bool, cvi_int, lenS_mk, lenT_mk, ext0, ext1, ext2, nilP_mk, nilS_mk, fldv_agg, jn0_k, jn1_k, jn2_k, jn1_and, jn1_or, ex_some, Option.isNone_some, Option.isNone_none, Bool.false_bne, Bool.bne_true, Bool.bne_false, Bool.true_bne, Bool.not_true, Bool.not_false, Bool.and_true, Bool.true_and, Bool.and_false, Bool.false_and, Bool.or_true, Bool.true_or, Bool.or_false, Bool.false_or, cond_true, cond_false, List.getElem?_toArray, List.getElem?_cons_zero, List.getElem?_cons_succ, Nat.zero_add, Nat.add_zero, Nat.reduceAdd, forall_const, L_api_HeldVote (Sep.blk hs3), L_api_HeldVote__Poll (Sep.blk hs3), L_api_HeldVote__Node (Sep.blk hs3), L_api_HeldVote__Want (Sep.blk hs3), L_api_HeldVote__Else (Sep.blk hs3)]
      rw [cnd_bool]
      refine ⟨fun hk => ?_, fun hk => ?_⟩
      · have hk : e.1 = p := by simpa using hk
        rw [wi64 (by omega) (by omega)]
        refine ⟨?_, hs3.tail⟩
        rw [t1, if_pos (decide_eq_true hk), List.length_append]
        rfl
      · have hk : ¬ e.1 = p := by simpa using hk
        refine ⟨?_, hs3.tail⟩
        rw [t1, if_neg (by simpa using hk), List.append_nil]
    · rintro a z ⟨rfl, hs2⟩ _
      rw [wi64 (by omega) (by omega)]
      exact ⟨⟨i + 1, by simp, by omega, rfl, hs2⟩, by simp [RowKit.intOf]; omega⟩
  · have hge : i = vs.length := by simp at h; omega
    rw [hge, List.take_of_length_le (Nat.le_refl _)]
    exact hR _ _ ⟨rfl, hs1.fr0⟩
theorem hWants_spec (hr : HdR w.heap g bv vv rb rv ws vs) (hn : ws.length ≤ 1000000) (hnv : vs.length ≤ 1000000) (k : Vec 32) :
    cal P f_hold_Hold_Wants [.pointer (some ⟨g, 0, none⟩), kv k] w fun r w' => r = .bool ((ws.any fun x => decide (x.2.1.p = k)) || vs.any fun x => decide (x.2.2.1 = k)) ∧ Fr [] w w' := by
  refine s_hold_Hold_Wants fun R hR => ?_
  unfold c_hold_Hold_Wants
  refine bxQ (Sep.start w) fun g3 w1 hs1 => ?_
  refine cal_i (hnone_spec (hs1.hd hr)) ?_
  rintro _ _ ⟨rfl, rfl⟩
  have hr1 := hs1.hd hr
  obtain ⟨T, fr, hc⟩ := hr1.cell
  simp only [nilc_some, fad_mk, pik_true, pik_false, cnd_true, cnd_false, gif_same, gif_tf, gif_ft, gif_undef, bi_add, bi_sub, bi_mul, bi_eql, bi_neq, bi_lss, bi_leq, bi_gtr, bi_geq, notB_bool, cvi_int, lenS_mk, lenT_mk, ext0, ext1, ext2, nilP_mk, nilS_mk, fldv_agg, jn0_k, jn1_k, jn2_k, jn1_and, jn1_or, ex_some, Option.isNone_some, Option.isNone_none, Bool.false_bne, Bool.bne_true, Bool.bne_false, Bool.true_bne, Bool.not_true, Bool.not_false, Bool.and_true, Bool.true_and, Bool.and_false, Bool.false_and, Bool.or_true, Bool.true_or, Bool.or_false, Bool.false_or, cond_true, cond_false, List.getElem?_toArray, List.getElem?_cons_zero, List.getElem?_cons_succ, Nat.zero_add, Nat.add_zero, Nat.reduceAdd, forall_const, L_hold_Hold hc, L_hold_Hold__made hc, L_hold_Hold__roomB hc, L_hold_Hold__roomV hc, L_hold_Hold__blocks hc, L_hold_Hold__votes hc]
  refine cal_i (hasW_spec (f := f_hold_Hold_Wants_1) (cap := [.pointer (some ⟨g3, 0, none⟩)]) (so := fun x => decide (x.2.1.p = k)) hr1.bw hn (by kernel_rfl) ?_) ?_
  · intro z x hx hz
    have hsz := hs1.old hz
    refine s_hold_Hold_Wants_1 fun R hR => ?_
    unfold c_hold_Hold_Wants_1
    refine bxQ (Sep.start z) fun g2 w2 hs2 => ?_
    have hsz2 := hsz.join hs2
    simp only [nilc_some, fad_mk, pik_true, pik_false, cnd_true, cnd_false, gif_same, gif_tf, gif_ft, gif_undef, bi_add, bi_sub, bi_mul, bi_eql, bi_neq, bi_lss, bi_leq, bi_gtr, bi_geq, notB_bool, cvi_int, lenS_mk, lenT_mk, ext0, ext1, ext2, nilP_mk, nilS_mk, fldv_agg, jn0_k, jn1_k, jn2_k, jn1_and, jn1_or, ex_some, Option.isNone_some, Option.isNone_none, Bool.false_bne, Bool.bne_true, Bool.bne_false, Bool.true_bne, Bool.not_true, Bool.not_false, Bool.and_true, Bool.true_and, Bool.and_false, Bool.false_and, Bool.or_true, Bool.true_or, Bool.or_false, Bool.false_or, cond_true, cond_false, List.getElem?_toArray, List.getElem?_cons_zero, List.getElem?_cons_succ, Nat.zero_add, Nat.add_zero, Nat.reduceAdd, forall_const, L_hold_waiting (Sep.blk hs2), L_hold_waiting__id (Sep.blk hs2), L_hold_waiting__b (Sep.blk hs2), L_hold_waiting__b_Parent (Sep.blk hs2), L_hold_waiting__b_Height (Sep.blk hs2), L_hold_waiting__b_Data (Sep.blk hs2), L_api_ID (Sep.blk (Sep.pick hsz2 [1] 2)), eq_api_ID]
    exact hR _ _ ⟨rfl, hs2.fr0⟩
  rintro _ w2 ⟨rfl, hf2⟩
  have hs2 := hs1.old hf2
  cases ha : ws.any fun x => decide (x.2.1.p = k) with
  | true =>
    simp only [nilc_some, fad_mk, pik_true, pik_false, cnd_true, cnd_false, gif_same, gif_tf, gif_ft, gif_undef, bi_add, bi_sub, bi_mul, bi_eql, bi_neq, bi_lss, bi_leq, bi_gtr, bi_geq, notB_bool, cvi_int, lenS_mk, lenT_mk, ext0, ext1, ext2, nilP_mk, nilS_mk, fldv_agg, jn0_k, jn1_k, jn2_k, jn1_and, jn1_or, ex_some, Option.isNone_some, Option.isNone_none, Bool.false_bne, Bool.bne_true, Bool.bne_false, Bool.true_bne, Bool.not_true, Bool.not_false, Bool.and_true, Bool.true_and, Bool.and_false, Bool.false_and, Bool.or_true, Bool.true_or, Bool.or_false, Bool.false_or, cond_true, cond_false, List.getElem?_toArray, List.getElem?_cons_zero, List.getElem?_cons_succ, Nat.zero_add, Nat.add_zero, Nat.reduceAdd, forall_const]
    exact hR _ _ ⟨by rw [ha, Bool.true_or], hs2.fr0⟩
  | false =>
    have hr2 := hs2.hd hr
    obtain ⟨T, fr, hc⟩ := hr2.cell
    simp only [nilc_some, fad_mk, pik_true, pik_false, cnd_true, cnd_false, gif_same, gif_tf, gif_ft, gif_undef, bi_add, bi_sub, bi_mul, bi_eql, bi_neq, bi_lss, bi_leq, bi_gtr, bi_geq, notB_bool, cvi_int, lenS_mk, lenT_mk, ext0, ext1, ext2, nilP_mk, nilS_mk, fldv_agg, jn0_k, jn1_k, jn2_k, jn1_and, jn1_or, ex_some, Option.isNone_some, Option.isNone_none, Bool.false_bne, Bool.bne_true, Bool.bne_false, Bool.true_bne, Bool.not_true, Bool.not_false, Bool.and_true, Bool.true_and, Bool.and_false, Bool.false_and, Bool.or_true, Bool.true_or, Bool.or_false, Bool.false_or, cond_true, cond_false, List.getElem?_toArray, List.getElem?_cons_zero, List.getElem?_cons_succ, Nat.zero_add, Nat.add_zero, Nat.reduceAdd, forall_const, L_hold_Hold hc, L_hold_Hold__made hc, L_hold_Hold__roomB hc, L_hold_Hold__roomV hc, L_hold_Hold__blocks hc, L_hold_Hold__votes hc]
    refine jn1_dup ?_
    refine cal_i (hasV_spec (f := f_hold_Hold_Wants_2) (cap := [.pointer (some ⟨g3, 0, none⟩)]) (so := fun x => decide (x.2.2.1 = k)) hr2.vw hnv (by kernel_rfl) ?_) ?_
    · intro z x hx hz
      have hsz := hs2.old hz
      refine s_hold_Hold_Wants_2 fun R hR => ?_
      unfold c_hold_Hold_Wants_2
      refine bxQ (Sep.start z) fun g2 w2 hs2 => ?_
      have hsz2 := hsz.join hs2
      simp only [nilc_some, fad_mk, pik_true, pik_false, cnd_true, cnd_false, gif_same, gif_tf, gif_ft, gif_undef, bi_add, bi_sub, bi_mul, bi_eql, bi_neq, bi_lss, bi_leq, bi_gtr, bi_geq, notB_bool, cvi_int, lenS_mk, lenT_mk, ext0, ext1, ext2, nilP_mk, nilS_mk, fldv_agg, jn0_k, jn1_k, jn2_k, jn1_and, jn1_or, ex_some, Option.isNone_some, Option.isNone_none, Bool.false_bne, Bool.bne_true, Bool.bne_false, Bool.true_bne, Bool.not_true, Bool.not_false, Bool.and_true, Bool.true_and, Bool.and_false, Bool.false_and, Bool.or_true, Bool.true_or, Bool.or_false, Bool.false_or, cond_true, cond_false, List.getElem?_toArray, List.getElem?_cons_zero, List.getElem?_cons_succ, Nat.zero_add, Nat.add_zero, Nat.reduceAdd, forall_const, L_api_HeldVote (Sep.blk hs2), L_api_HeldVote__Poll (Sep.blk hs2), L_api_HeldVote__Node (Sep.blk hs2), L_api_HeldVote__Want (Sep.blk hs2), L_api_HeldVote__Else (Sep.blk hs2), L_api_ID (Sep.blk (Sep.pick hsz2 [1] 2)), eq_api_ID]
      exact hR _ _ ⟨rfl, hs2.fr0⟩
    rintro _ w3 ⟨rfl, hf3⟩
    simp only [nilc_some, fad_mk, pik_true, pik_false, cnd_true, cnd_false, gif_same, gif_tf, gif_ft, gif_undef, bi_add, bi_sub, bi_mul, bi_eql, bi_neq, bi_lss, bi_leq, bi_gtr, bi_geq, notB_bool, cvi_int, lenS_mk, lenT_mk, ext0, ext1, ext2, nilP_mk, nilS_mk, fldv_agg, jn0_k, jn1_k, jn2_k, jn1_and, jn1_or, ex_some, Option.isNone_some, Option.isNone_none, Bool.false_bne, Bool.bne_true, Bool.bne_false, Bool.true_bne, Bool.not_true, Bool.not_false, Bool.and_true, Bool.true_and, Bool.and_false, Bool.false_and, Bool.or_true, Bool.true_or, Bool.or_false, Bool.false_or, cond_true, cond_false, List.getElem?_toArray, List.getElem?_cons_zero, List.getElem?_cons_succ, Nat.zero_add, Nat.add_zero, Nat.reduceAdd, forall_const]
    exact hR _ _ ⟨by rw [ha, Bool.false_or], (hs2.old hf3).fr0⟩
end
end Go.Fx
set_option linter.unusedVariables false
set_option linter.unusedSimpArgs false
namespace Go.Fx
section
variable {w0 w w' : World} {As : List Asn} {g : Nat} {bv vv : Value} {rb rv : Int} {ws : List Wt} {vs : List (Int × Int × Vec 32 × Vec 32)}
theorem cloneW {v : Value} {l : List (Vec 32 × Vec 32 × Int × Value)} (hv : Rows' Q_hold_waiting w.heap v l) (h1 : ∀ x ∈ l, x.2.2.2.oneCell' = true) (hl : l.length ≤ 1000000) : cal P f_slices_Clone_hold_waiting_hold_waiting [v] w fun r w' => Sep w w' [rows Q_hold_waiting r l] := by
  refine s_slices_Clone_hold_waiting_hold_waiting fun R hR => ?_
  unfold c_slices_Clone_hold_waiting_hold_waiting
  obtain ⟨a, c, rfl, hl', hh⟩ := id hv
  cases a with
  | none =>
    have h0 : l = [] := by
      rcases hh with h0 | ⟨_, _, _, _, _, h, _⟩
      · refine List.eq_nil_of_length_eq_zero ?_
        have : Q_hold_waiting.size = 66 := rfl
        rw [this] at h0
        omega
      · cases h
    subst h0
    simp only [nilc_some, fad_mk, pik_true, pik_false, cnd_true, cnd_false, gif_same, gif_tf, gif_ft, gif_undef, bi_add, bi_sub, bi_mul, bi_eql, bi_neq, bi_lss, bi_leq, bi_gtr, bi_geq, notB_bool, cvi_int, lenS_mk, lenT_mk, ext0, ext1, ext2, nilP_mk, nilS_mk, fldv_agg, jn0_k, jn1_k, jn2_k, jn1_and, jn1_or, ex_some, Option.isNone_some, Option.isNone_none, Bool.false_bne, Bool.bne_true, Bool.bne_false, Bool.true_bne, Bool.not_true, Bool.not_false, Bool.and_true, Bool.true_and, Bool.and_false, Bool.false_and, Bool.or_true, Bool.true_or, Bool.or_false, Bool.false_or, cond_true, cond_false, List.getElem?_toArray, List.getElem?_cons_zero, List.getElem?_cons_succ, Nat.zero_add, Nat.add_zero, Nat.reduceAdd, forall_const]
    exact hR _ _ (Sep.start w).nilR
  | some a =>
    simp only [nilc_some, fad_mk, pik_true, pik_false, cnd_true, cnd_false, gif_same, gif_tf, gif_ft, gif_undef, bi_add, bi_sub, bi_mul, bi_eql, bi_neq, bi_lss, bi_leq, bi_gtr, bi_geq, notB_bool, cvi_int, lenS_mk, lenT_mk, ext0, ext1, ext2, nilP_mk, nilS_mk, fldv_agg, jn0_k, jn1_k, jn2_k, jn1_and, jn1_or, ex_some, Option.isNone_some, Option.isNone_none, Bool.false_bne, Bool.bne_true, Bool.bne_false, Bool.true_bne, Bool.not_true, Bool.not_false, Bool.and_true, Bool.true_and, Bool.and_false, Bool.false_and, Bool.or_true, Bool.true_or, Bool.or_false, Bool.false_or, cond_true, cond_false, List.getElem?_toArray, List.getElem?_cons_zero, List.getElem?_cons_succ, Nat.zero_add, Nat.add_zero, Nat.reduceAdd, forall_const]
    have hb1 : ∀ w : World, (Instr.buildSlice T_sl_hold_waiting 0 #[]).run P w = .ok (.slice (some ⟨w.heap.size, 0, none⟩) 0 0) (w.alloc (.cells ([] : List Value).toArray T_hold_waiting)) := fun w => by kernel_rfl
    refine build_s (size := 66) (Sep.start w) (cs := []) rfl (hb1 w) fun g w1 hs1 => ?_
    replace hs1 : Sep w w1 [rows Q_hold_waiting (.slice (some ⟨g, 0, none⟩) 0 0) []] := hs1
    refine rows_app (q := Q_hold_waiting) S_sl_hold_waiting U_sl_hold_waiting (by simp) hs1 (hv.fr hs1.fr0) ?_ (by simp; omega) (by simp; omega) fun v8 w8 hs8 => ?_
    · intro u hu
      obtain ⟨x, hx, hu⟩ := List.mem_flatMap.1 hu
      exact one_hold_waiting (h1 x hx) u hu
    · exact hR _ _ (by simpa using hs8)
theorem cloneV {v : Value} {l : List (Int × Int × Vec 32 × Vec 32)} (hv : Rows' Q_api_HeldVote w.heap v l) (hl : l.length ≤ 1000000) : cal P f_slices_Clone_api_HeldVote_api_HeldVote [v] w fun r w' => Sep w w' [rows Q_api_HeldVote r l] := by
  refine s_slices_Clone_api_HeldVote_api_HeldVote fun R hR => ?_
  unfold c_slices_Clone_api_HeldVote_api_HeldVote
  obtain ⟨a, c, rfl, hl', hh⟩ := id hv
  cases a with
  | none =>
    have h0 : l = [] := by
      rcases hh with h0 | ⟨_, _, _, _, _, h, _⟩
      · refine List.eq_nil_of_length_eq_zero ?_
        have : Q_api_HeldVote.size = 66 := rfl
        rw [this] at h0
        omega
      · cases h
    subst h0
    simp only [nilc_some, fad_mk, pik_true, pik_false, cnd_true, cnd_false, gif_same, gif_tf, gif_ft, gif_undef, bi_add, bi_sub, bi_mul, bi_eql, bi_neq, bi_lss, bi_leq, bi_gtr, bi_geq, notB_bool, cvi_int, lenS_mk, lenT_mk, ext0, ext1, ext2, nilP_mk, nilS_mk, fldv_agg, jn0_k, jn1_k, jn2_k, jn1_and, jn1_or, ex_some, Option.isNone_some, Option.isNone_none, Bool.false_bne, Bool.bne_true, Bool.bne_false, Bool.true_bne, Bool.not_true, Bool.not_false, Bool.and_true, Bool.true_and, Bool.and_false, Bool.false_and, Bool.or_true, Bool.true_or, Bool.or_false, Bool.false_or, cond_true, cond_false, List.getElem?_toArray, List.getElem?_cons_zero, List.getElem?_cons_succ, Nat.zero_add, Nat.add_zero, Nat.reduceAdd, forall_const]
    exact hR _ _ (Sep.start w).nilR
  | some a =>
    simp only [nilc_some, fad_mk, pik_true, pik_false, cnd_true, cnd_false, gif_same, gif_tf, gif_ft, gif_undef, bi_add, bi_sub, bi_mul, bi_eql, bi_neq, bi_lss, bi_leq, bi_gtr, bi_geq, notB_bool, cvi_int, lenS_mk, lenT_mk, ext0, ext1, ext2, nilP_mk, nilS_mk, fldv_agg, jn0_k, jn1_k, jn2_k, jn1_and, jn1_or, ex_some, Option.isNone_some, Option.isNone_none, Bool.false_bne, Bool.bne_true, Bool.bne_false, Bool.true_bne, Bool.not_true, Bool.not_false, Bool.and_true, Bool.true_and, Bool.and_false, Bool.false_and, Bool.or_true, Bool.true_or, Bool.or_false, Bool.false_or, cond_true, cond_false, List.getElem?_toArray, List.getElem?_cons_zero, List.getElem?_cons_succ, Nat.zero_add, Nat.add_zero, Nat.reduceAdd, forall_const]
    have hb1 : ∀ w : World, (Instr.buildSlice T_sl_api_HeldVote 0 #[]).run P w = .ok (.slice (some ⟨w.heap.size, 0, none⟩) 0 0) (w.alloc (.cells ([] : List Value).toArray T_api_HeldVote)) := fun w => by kernel_rfl
    refine build_s (size := 66) (Sep.start w) (cs := []) rfl (hb1 w) fun g w1 hs1 => ?_
    replace hs1 : Sep w w1 [rows Q_api_HeldVote (.slice (some ⟨g, 0, none⟩) 0 0) []] := hs1
    refine rows_app (q := Q_api_HeldVote) S_sl_api_HeldVote U_sl_api_HeldVote (by simp) hs1 (hv.fr hs1.fr0) ?_ (by simp; omega) (by simp; omega) fun v8 w8 hs8 => ?_
    · intro u hu
      obtain ⟨x, hx, hu⟩ := List.mem_flatMap.1 hu
      exact one_api_HeldVote u hu
    · exact hR _ _ (by simpa using hs8)
theorem hClone_spec (hr : HdR w.heap g bv vv rb rv ws vs) (hn : ws.length ≤ 1000000) (hnv : vs.length ≤ 1000000) : cal P f_hold_Hold_Clone [.pointer (some ⟨g, 0, none⟩)] w fun r w' => ∃ g' bv' vv', r = .pointer (some ⟨g', 0, none⟩) ∧ Sep w w' (hdH g' bv' vv' rb rv ws vs) := by
  refine s_hold_Hold_Clone fun R hR => ?_
  unfold c_hold_Hold_Clone
  refine cal_i (hnone_spec hr) ?_
  rintro _ _ ⟨rfl, rfl⟩
  obtain ⟨T, fr, hc⟩ := hr.cell
  have hb1 : bv.oneCell' = true := by obtain ⟨a, c, rfl, _⟩ := hr.bw; rfl
  have hv1 : vv.oneCell' = true := by obtain ⟨a, c, rfl, _⟩ := hr.vw; rfl
  simp only [nilc_some, fad_mk, pik_true, pik_false, cnd_true, cnd_false, gif_same, gif_tf, gif_ft, gif_undef, bi_add, bi_sub, bi_mul, bi_eql, bi_neq, bi_lss, bi_leq, bi_gtr, bi_geq, notB_bool, cvi_int, lenS_mk, lenT_mk, ext0, ext1, ext2, nilP_mk, nilS_mk, fldv_agg, jn0_k, jn1_k, jn2_k, jn1_and, jn1_or, ex_some, Option.isNone_some, Option.isNone_none, Bool.false_bne, Bool.bne_true, Bool.bne_false, Bool.true_bne, Bool.not_true, Bool.not_false, Bool.and_true, Bool.true_and, Bool.and_false, Bool.false_and, Bool.or_true, Bool.true_or, Bool.or_false, Bool.false_or, cond_true, cond_false, List.getElem?_toArray, List.getElem?_cons_zero, List.getElem?_cons_succ, Nat.zero_add, Nat.add_zero, Nat.reduceAdd, forall_const, L_hold_Hold hc, L_hold_Hold__made hc, L_hold_Hold__roomB hc, L_hold_Hold__roomV hc, L_hold_Hold__blocks hc, L_hold_Hold__votes hc]
  refine alloc_s (Sep.start w) (A_hold_Hold w) fun g3 w1 hs1 => ?_
  refine St_hold_Hold (b := (true, rb, rv, bv, vv)) hs1 (one_hold_Hold hb1 hv1) fun w2 hs2 => ?_
  obtain ⟨T, fr, hc⟩ := (hs2.hd hr).cell
  simp only [nilc_some, fad_mk, pik_true, pik_false, cnd_true, cnd_false, gif_same, gif_tf, gif_ft, gif_undef, bi_add, bi_sub, bi_mul, bi_eql, bi_neq, bi_lss, bi_leq, bi_gtr, bi_geq, notB_bool, cvi_int, lenS_mk, lenT_mk, ext0, ext1, ext2, nilP_mk, nilS_mk, fldv_agg, jn0_k, jn1_k, jn2_k, jn1_and, jn1_or, ex_some, Option.isNone_some, Option.isNone_none, Bool.false_bne, Bool.bne_true, Bool.bne_false, Bool.true_bne, Bool.not_true, Bool.not_false, Bool.and_true, Bool.true_and, Bool.and_false, Bool.false_and, Bool.or_true, Bool.true_or, Bool.or_false, Bool.false_or, cond_true, cond_false, List.getElem?_toArray, List.getElem?_cons_zero, List.getElem?_cons_succ, Nat.zero_add, Nat.add_zero, Nat.reduceAdd, forall_const, L_hold_Hold hc, L_hold_Hold__made hc, L_hold_Hold__roomB hc, L_hold_Hold__roomV hc, L_hold_Hold__blocks hc, L_hold_Hold__votes hc]
  refine cal_i (cloneW (hs2.hd hr).bw (fun x hx => by
    obtain ⟨y, hy, rfl⟩ := List.mem_map.1 hx
    exact (hr.dat y hy).one) (by simpa using hn)) ?_
  rintro b' w3 hs3
  replace hs3 := hs2.join hs3
  refine St_hold_Hold__blocks (Sep.p1 hs3) (Sep.oneR hs3) fun w4 hs4 => ?_
  obtain ⟨T, fr, hc⟩ := (hs4.hd hr).cell
  simp only [nilc_some, fad_mk, pik_true, pik_false, cnd_true, cnd_false, gif_same, gif_tf, gif_ft, gif_undef, bi_add, bi_sub, bi_mul, bi_eql, bi_neq, bi_lss, bi_leq, bi_gtr, bi_geq, notB_bool, cvi_int, lenS_mk, lenT_mk, ext0, ext1, ext2, nilP_mk, nilS_mk, fldv_agg, jn0_k, jn1_k, jn2_k, jn1_and, jn1_or, ex_some, Option.isNone_some, Option.isNone_none, Bool.false_bne, Bool.bne_true, Bool.bne_false, Bool.true_bne, Bool.not_true, Bool.not_false, Bool.and_true, Bool.true_and, Bool.and_false, Bool.false_and, Bool.or_true, Bool.true_or, Bool.or_false, Bool.false_or, cond_true, cond_false, List.getElem?_toArray, List.getElem?_cons_zero, List.getElem?_cons_succ, Nat.zero_add, Nat.add_zero, Nat.reduceAdd, forall_const, L_hold_Hold hc, L_hold_Hold__made hc, L_hold_Hold__roomB hc, L_hold_Hold__roomV hc, L_hold_Hold__blocks hc, L_hold_Hold__votes hc]
  refine cal_i (cloneV (hs4.hd hr).vw hnv) ?_
  rintro v' w5 hs5
  replace hs5 := hs4.join hs5
  refine St_hold_Hold__votes (Sep.p1 hs5) (Sep.oneR hs5) fun w6 hs6 => ?_
  exact hR _ _ ⟨g3, b', v', rfl, Sep.pick hs6 [0, 2, 1] 3⟩
end
end Go.Fx
set_option linter.unusedVariables false
set_option linter.unusedSimpArgs false
namespace Go.Fx
section
variable {w0 w w' : World} {As : List Asn} {g : Nat} {bv vv : Value} {rb rv : Int} {ws : List Wt} {vs : List (Int × Int × Vec 32 × Vec 32)}
/-- A block's cells. -/
def Wb (y : Blk × Value) : Vec 32 × Int × Value := (y.1.p, y.1.h, y.2)
def DatO (os : List (Blk × Value)) (E : List Asn) : Prop := ∀ y ∈ os, ownB y.2 y.1.d ∈ E
abbrev oBk (y : Blk × Value) : Asn := ownB y.2 y.1.d
theorem hCame2_spec (hs : Sep w0 w (hdH g bv vv rb rv ws vs ++ As)) (hd : DatW ws As) (hn : ws.length ≤ 1000000) (hnv : vs.length ≤ 1000000) (hl : ∀ x ∈ ws, x.2.1.d.length ≤ 200) (k : Vec 32) :
    cal P f_hold_Hold_Came [.pointer (some ⟨g, 0, none⟩), kv k] w fun r w' => ∃ ob ov bv' vv' os E, r = .tuple #[ob, ov] ∧ os.map (·.1) = (ws.filter fun x => decide (x.2.1.p = k)).map (·.2.1) ∧ DatO os E ∧ E = (os.map oBk).reverse ∧
      Sep w0 w' (hdH g bv' vv' rb rv (ws.filter fun x => !decide (x.2.1.p = k)) (vs.filter fun x => !decide (x.2.2.1 = k)) ++ (rows Q_api_Block ob (os.map Wb) :: rows Q_api_HeldVote ov (vs.filter fun x => decide (x.2.2.1 = k)) :: (E ++ As))) := by
  refine s_hold_Hold_Came fun R hR => ?_
  unfold c_hold_Hold_Came
  refine bxQ hs fun g3 w1 hs1 => ?_
  refine cal_i (hTakes_spec (f := f_hold_Hold_Came_1) (cap := [.pointer (some ⟨g3, 0, none⟩)]) (so := fun x => decide (x = k)) (Sep.pick hs1 [1, 2, 3, 0] 4) (hd.sub fun A hA => List.mem_cons_of_mem _ hA) hn hnv (by kernel_rfl) ?_) ?_
  · intro z Bs x hz
    refine s_hold_Hold_Came_1 fun R hR => ?_
    unfold c_hold_Hold_Came_1
    refine bxQ (Sep.start z) fun g2 w2 hs2 => ?_
    have h3 := hs2.fr0.blk (Sep.blk (Sep.mid hz)) (by simp)
    simp only [L_api_ID (Sep.blk hs2), L_api_ID h3, eq_api_ID]
    exact hR _ _ ⟨rfl, hs2.fr0⟩
  rintro _ w2 ⟨wb, ov, bv', vv', rfl, hs2⟩
  obtain ⟨ws1, hws1⟩ : ∃ ws1, ws1 = ws.filter fun x => decide (x.2.1.p = k) := ⟨_, rfl⟩
  rw [← hws1] at hs2
  have hsub : ∀ x ∈ ws1, x ∈ ws := fun x hx => by rw [hws1] at hx; exact (List.mem_filter.1 hx).1
  have hn1 : ws1.length ≤ 1000000 := by rw [hws1]; exact Nat.le_trans (List.length_filter_le _ _) hn
  obtain ⟨L, hL⟩ : ∃ L, L = [blk g (Rdr.cells Q_hold_Hold (true, rb, rv, bv', vv')).toArray T_hold_Hold, rows Q_hold_waiting bv' ((ws.filter fun x => !decide (x.2.1.p = k)).map Wt.c), rows Q_api_HeldVote vv' (vs.filter fun x => !decide (x.2.2.1 = k)), rows Q_hold_waiting wb (ws1.map Wt.c), rows Q_api_HeldVote ov (vs.filter fun x => decide (x.2.2.1 = k)), blk g3 (Rdr.cells (rVec 32) k).toArray T_api_ID] := ⟨_, rfl⟩
  replace hs2 : Sep w0 w2 (L ++ As) := by rw [hL]; exact hs2
  have fwb : ∀ {z : World} {Cs : List Asn}, Sep w0 z (Cs ++ (L ++ As)) → Rows' Q_hold_waiting z.heap wb (ws1.map Wt.c) := fun {z Cs} hz => by
    have h1 : Sep w0 z ((L ++ As) ++ Cs) := hz.perm List.perm_append_comm
    rw [hL] at h1
    exact Sep.rows (Sep.pick h1 [3] 4)
  have fd : ∀ {z : World} {Cs : List Asn}, Sep w0 z (Cs ++ (L ++ As)) → ∀ x ∈ ws1, RdB z.heap x.2.2 x.2.1.d := fun {z Cs} hz x hx => by
    obtain ⟨F, hF⟩ := hz.onL (A := ownB x.2.2 x.2.1.d) (List.mem_append_right _ (List.mem_append_right _ (hd x (hsub x hx))))
    exact OwnB.rd hF
  have hlw : ∀ K, lenS wb K = K (.int .i64 ws1.length) := fun K => by
    have := (fwb (Cs := []) hs2).len K
    rwa [List.length_map] at this
  simp only [nilc_some, fad_mk, pik_true, pik_false, cnd_true, cnd_false, gif_same, gif_tf, gif_ft, gif_undef, bi_add, bi_sub, bi_mul, bi_eql, bi_neq, bi_lss, bi_leq, bi_gtr, bi_geq, notB_bool, cvi_int, lenS_mk, lenT_mk, ext0, ext1, ext2, nilP_mk, nilS_mk, fldv_agg, jn0_k, jn1_k, jn2_k, jn1_and, jn1_or, ex_some, Option.isNone_some, Option.isNone_none, Bool.false_bne, Bool.bne_true, Bool.bne_false, Bool.true_bne, Bool.not_true, Bool.not_false, Bool.and_true, Bool.true_and, Bool.and_false, Bool.false_and, Bool.or_true, Bool.true_or, Bool.or_false, Bool.false_or, cond_true, cond_false, List.getElem?_toArray, List.getElem?_cons_zero, List.getElem?_cons_succ, Nat.zero_add, Nat.add_zero, Nat.reduceAdd, forall_const, hlw]
  refine ⟨fun x y z => ∃ (i : Nat) (os : List (Blk × Value)) (E : List Asn), y = .int .i64 i ∧ i ≤ ws1.length ∧ os.map (·.1) = (ws1.take i).map (·.2.1) ∧ DatO os E ∧ E = (os.map oBk).reverse ∧ Sep w0 z (rows Q_api_Block x (os.map Wb) :: (E ++ (L ++ As))), fun _ y _ => (ws1.length - RowKit.intOf y).toNat, ⟨0, [], [], rfl, by omega, rfl, (fun y hy => by cases hy), rfl, hs2.nilR⟩, ?_⟩
  rintro x _ w3 ⟨i, os, E, rfl, hi, hos, hDO, hEq, hs3⟩ -
  simp only [nilc_some, fad_mk, pik_true, pik_false, cnd_true, cnd_false, gif_same, gif_tf, gif_ft, gif_undef, bi_add, bi_sub, bi_mul, bi_eql, bi_neq, bi_lss, bi_leq, bi_gtr, bi_geq, notB_bool, cvi_int, lenS_mk, lenT_mk, ext0, ext1, ext2, nilP_mk, nilS_mk, fldv_agg, jn0_k, jn1_k, jn2_k, jn1_and, jn1_or, ex_some, Option.isNone_some, Option.isNone_none, Bool.false_bne, Bool.bne_true, Bool.bne_false, Bool.true_bne, Bool.not_true, Bool.not_false, Bool.and_true, Bool.true_and, Bool.and_false, Bool.false_and, Bool.or_true, Bool.true_or, Bool.or_false, Bool.false_or, cond_true, cond_false, List.getElem?_toArray, List.getElem?_cons_zero, List.getElem?_cons_succ, Nat.zero_add, Nat.add_zero, Nat.reduceAdd, forall_const]
  rw [cnd_bool]
  refine ⟨fun h => ?_, fun h => ?_⟩
  · have hlt : i < ws1.length := by simp at h; omega
    obtain ⟨e, he⟩ : ∃ e, ws1[i]? = some e := ⟨_, List.getElem?_eq_getElem hlt⟩
    have hem := List.mem_of_getElem? he
    have he' : (ws1.map Wt.c)[i]? = some e.c := by rw [List.getElem?_map, he]; rfl
    have hol : os.length ≤ i := by
      have := congrArg List.length hos
      simp only [List.length_map, List.length_take] at this
      omega
    change ixs 66 _ _ _
    refine Rows'.ldN (q := Q_hold_waiting) (by decide) (fwb (Cs := _ :: E) hs3) he' .i64 ?_
    refine alloc_s hs3 (A_hold_waiting w3) fun g10 w4 hs4 => ?_
    refine St_hold_waiting (b := e.c) hs4 (one_hold_waiting (fd (Cs := _ :: E) hs3 e hem).one) fun w5 hs5 => ?_
    simp only [nilc_some, fad_mk, pik_true, pik_false, cnd_true, cnd_false, gif_same, gif_tf, gif_ft, gif_undef, bi_add, bi_sub, bi_mul, bi_eql, bi_neq, bi_lss, bi_leq, bi_gtr, bi_geq, notB_bool, cvi_int, lenS_mk, lenT_mk, ext0, ext1, ext2, nilP_mk, nilS_mk, fldv_agg, jn0_k, jn1_k, jn2_k, jn1_and, jn1_or, ex_some, Option.isNone_some, Option.isNone_none, Bool.false_bne, Bool.bne_true, Bool.bne_false, Bool.true_bne, Bool.not_true, Bool.not_false, Bool.and_true, Bool.true_and, Bool.and_false, Bool.false_and, Bool.or_true, Bool.true_or, Bool.or_false, Bool.false_or, cond_true, cond_false, List.getElem?_toArray, List.getElem?_cons_zero, List.getElem?_cons_succ, Nat.zero_add, Nat.add_zero, Nat.reduceAdd, forall_const, L_hold_waiting (Sep.blk hs5), L_hold_waiting__id (Sep.blk hs5), L_hold_waiting__b (Sep.blk hs5), L_hold_waiting__b_Parent (Sep.blk hs5), L_hold_waiting__b_Height (Sep.blk hs5), L_hold_waiting__b_Data (Sep.blk hs5)]
    refine cal_i (bkClone_spec (b := e.2.1) (v := e.2.2) (fd (Cs := _ :: _ :: E) hs5 e hem) (by have := hl e (hsub e hem); omega)) ?_
    rintro _ w6 ⟨vd, rfl, hs6⟩
    replace hs6 := hs5.join hs6
    have h1d := Sep.one hs6
    refine rows_lit (q := Q_api_Block) hs6 S_sl_api_Block (l := [(e.2.1.p, e.2.1.h, vd)]) (V := fun a => .agg (Rdr.cells Q_api_Block a).toArray) (fun a => rfl) rfl rfl (by decide) (by decide) fun g8 w7 hs7 => ?_
    refine rows_app (q := Q_api_Block) S_sl_api_Block U_sl_api_Block (by simp) (Sep.pick hs7 [3, 0, 1, 2] 4) (Sep.rows hs7) ?_ (by simp; omega) (by simp; omega) fun v8 w8 hs8 => ?_
    · simp only [List.flatMap_cons, List.flatMap_nil, List.append_nil]
      exact one_api_Block h1d
    rw [wi64 (by omega) (by omega)]
    refine ⟨⟨i + 1, os ++ [(e.2.1, vd)], ownB vd e.2.1.d :: E, by simp, by omega, ?_, ?_, by rw [hEq, List.map_append, List.reverse_append]; rfl, ?_⟩, by simp [RowKit.intOf]; omega⟩
    · rw [List.map_append, hos, List.take_add_one, he, List.map_append]
      rfl
    · intro y hy
      rcases List.mem_append.1 hy with hy | hy
      · exact List.mem_cons_of_mem _ (hDO y hy)
      · have : y = (e.2.1, vd) := by simpa using hy
        rw [this]
        exact List.mem_cons_self ..
    · have e5 : (os ++ [(e.2.1, vd)]).map Wb = os.map Wb ++ [(e.2.1.p, e.2.1.h, vd)] := by simp [Wb]
      rw [e5]
      exact Sep.pick hs8 [0, 2] 4
  · have hge : i = ws1.length := by simp at h; omega
    rw [hge, List.take_of_length_le (Nat.le_refl _)] at hos
    have hs4 : Sep w0 w3 (rows Q_api_Block x (os.map Wb) :: (L ++ (E ++ As))) := hs3.perm ((List.perm_append_comm_assoc E L As).cons _)
    rw [hL] at hs4
    rw [hws1] at hos
    exact hR _ _ ⟨x, ov, bv', vv', os, E, rfl, hos, hDO, hEq, Sep.pick hs4 [1, 2, 3, 0, 5] 7⟩
theorem hCame_spec (hs : Sep w0 w (hdH g bv vv rb rv ws vs ++ As)) (hd : DatW ws As) (hn : ws.length ≤ 1000000) (hnv : vs.length ≤ 1000000) (hl : ∀ x ∈ ws, x.2.1.d.length ≤ 200) (k : Vec 32) :
    cal P f_hold_Hold_Came [.pointer (some ⟨g, 0, none⟩), kv k] w fun r w' => ∃ ob ov bv' vv' os E, r = .tuple #[ob, ov] ∧ os.map (·.1) = (ws.filter fun x => decide (x.2.1.p = k)).map (·.2.1) ∧ DatO os E ∧
      Sep w0 w' (hdH g bv' vv' rb rv (ws.filter fun x => !decide (x.2.1.p = k)) (vs.filter fun x => !decide (x.2.2.1 = k)) ++ (rows Q_api_Block ob (os.map Wb) :: rows Q_api_HeldVote ov (vs.filter fun x => decide (x.2.2.1 = k)) :: (E ++ As))) :=
  cal_i (hCame2_spec hs hd hn hnv hl k) fun r w' ⟨ob, ov, bv', vv', os, E, h1, h2, h3, _, h4⟩ => ⟨ob, ov, bv', vv', os, E, h1, h2, h3, h4⟩
end
end Go.Fx
set_option linter.unusedVariables false
set_option linter.unusedSimpArgs false
namespace Go.Fx
section
variable {w : World}
theorem idsEqual_spec {u v : Value} {a b : List (Vec 32)} (ha : Rows' (rVec 32) w.heap u a) (hb : Rows' (rVec 32) w.heap v b) (hl : a.length ≤ 1000000) : cal P f_slices_Equal_api_ID_api_ID [u, v] w fun r w' => r = .bool (decide (a = b)) ∧ Fr [] w w' := by
  refine s_slices_Equal_api_ID_api_ID fun R hR => ?_
  unfold c_slices_Equal_api_ID_api_ID
  simp only [ha.len, hb.len, nilc_some, fad_mk, pik_true, pik_false, cnd_true, cnd_false, gif_same, gif_tf, gif_ft, gif_undef, bi_add, bi_sub, bi_mul, bi_eql, bi_neq, bi_lss, bi_leq, bi_gtr, bi_geq, notB_bool, cvi_int, lenS_mk, lenT_mk, ext0, ext1, ext2, nilP_mk, nilS_mk, fldv_agg, jn0_k, jn1_k, jn2_k, jn1_and, jn1_or, ex_some, Option.isNone_some, Option.isNone_none, Bool.false_bne, Bool.bne_true, Bool.bne_false, Bool.true_bne, Bool.not_true, Bool.not_false, Bool.and_true, Bool.true_and, Bool.and_false, Bool.false_and, Bool.or_true, Bool.true_or, Bool.or_false, Bool.false_or, cond_true, cond_false, List.getElem?_toArray, List.getElem?_cons_zero, List.getElem?_cons_succ, Nat.zero_add, Nat.add_zero, Nat.reduceAdd, forall_const]
  rw [cnd_bool]
  refine ⟨fun h => ?_, fun h => ?_⟩
  · have h : a.length ≠ b.length := by simp at h; omega
    exact hR _ _ ⟨by rw [decide_eq_false (fun he => h (by rw [he]))], Fr.refl _ _⟩
  have hab : a.length = b.length := by simp at h; omega
  refine ⟨fun y z => ∃ i : Nat, y = .int .i64 i ∧ i ≤ a.length ∧ a.take i = b.take i ∧ Fr [] w z, fun y _ => (a.length - RowKit.intOf y).toNat, ⟨0, rfl, by omega, by simp, Fr.refl _ _⟩, ?_⟩
  rintro _ w1 ⟨i, rfl, hi, ht, hf⟩ -
  simp only [nilc_some, fad_mk, pik_true, pik_false, cnd_true, cnd_false, gif_same, gif_tf, gif_ft, gif_undef, bi_add, bi_sub, bi_mul, bi_eql, bi_neq, bi_lss, bi_leq, bi_gtr, bi_geq, notB_bool, cvi_int, lenS_mk, lenT_mk, ext0, ext1, ext2, nilP_mk, nilS_mk, fldv_agg, jn0_k, jn1_k, jn2_k, jn1_and, jn1_or, ex_some, Option.isNone_some, Option.isNone_none, Bool.false_bne, Bool.bne_true, Bool.bne_false, Bool.true_bne, Bool.not_true, Bool.not_false, Bool.and_true, Bool.true_and, Bool.and_false, Bool.false_and, Bool.or_true, Bool.true_or, Bool.or_false, Bool.false_or, cond_true, cond_false, List.getElem?_toArray, List.getElem?_cons_zero, List.getElem?_cons_succ, Nat.zero_add, Nat.add_zero, Nat.reduceAdd, forall_const]
  rw [cnd_bool]
  refine ⟨fun h => ?_, fun h => ?_⟩
  · have hlt : i < a.length := by simp at h; omega
    obtain ⟨x, hx⟩ : ∃ x, a[i]? = some x := ⟨_, List.getElem?_eq_getElem hlt⟩
    obtain ⟨y, hy⟩ : ∃ y, b[i]? = some y := ⟨_, List.getElem?_eq_getElem (by omega)⟩
    refine drw_s ((Sep.start w).old hf) fun w2 hs2 _ => ?_
    change ixs 32 _ _ _
    refine Rows'.ldN (q := rVec 32) (by decide) (ha.fr hs2.fr0) hx .i64 ?_
    change ixs 32 _ _ _
    refine Rows'.ldN (q := rVec 32) (by decide) (hb.fr hs2.fr0) hy .i64 ?_
    rw [ne_api_ID, cnd_bool]
    refine ⟨fun h => ?_, fun h => ?_⟩
    · have h : ¬ x = y := by simpa using h
      refine hR _ _ ⟨?_, hs2.fr0⟩
      rw [decide_eq_false fun he => h (by rw [he, hy] at hx; simpa using hx.symm)]
    · have h : x = y := by simpa using h
      rw [wi64 (by omega) (by omega)]
      exact ⟨⟨i + 1, by simp, by omega, by rw [List.take_add_one, List.take_add_one, ht, hx, hy, h], hs2.fr0⟩, by simp [RowKit.intOf]; omega⟩
  · have hge : i = a.length := by simp at h; omega
    rw [hge, List.take_of_length_le (Nat.le_refl _), List.take_of_length_le (by omega)] at ht
    exact hR _ _ ⟨by rw [decide_eq_true ht], hf⟩
theorem idsIndex_spec {u : Value} {a : List (Vec 32)} (ha : Rows' (rVec 32) w.heap u a) (hl : a.length ≤ 1000000) (k : Vec 32) : cal P f_slices_Index_api_ID_api_ID [u, kv k] w fun r w' => (∃ i : Int, r = .int .i64 i ∧ (decide (0 ≤ i) = decide (k ∈ a))) ∧ Fr [] w w' := by
  refine s_slices_Index_api_ID_api_ID fun R hR => ?_
  unfold c_slices_Index_api_ID_api_ID
  refine bxQ (Sep.start w) fun g w1 hs => ?_
  simp only [ha.len]
  refine ⟨fun y z => ∃ i : Nat, y = .int .i64 i ∧ i ≤ a.length ∧ k ∉ a.take i ∧ Sep w z [blk g (Rdr.cells (rVec 32) k).toArray T_api_ID], fun y _ => (a.length - RowKit.intOf y).toNat, ⟨0, rfl, by omega, by simp, hs⟩, ?_⟩
  rintro _ w2 ⟨i, rfl, hi, ht, hs2⟩ -
  simp only [nilc_some, fad_mk, pik_true, pik_false, cnd_true, cnd_false, gif_same, gif_tf, gif_ft, gif_undef, bi_add, bi_sub, bi_mul, bi_eql, bi_neq, bi_lss, bi_leq, bi_gtr, bi_geq, notB_bool, cvi_int, lenS_mk, lenT_mk, ext0, ext1, ext2, nilP_mk, nilS_mk, fldv_agg, jn0_k, jn1_k, jn2_k, jn1_and, jn1_or, ex_some, Option.isNone_some, Option.isNone_none, Bool.false_bne, Bool.bne_true, Bool.bne_false, Bool.true_bne, Bool.not_true, Bool.not_false, Bool.and_true, Bool.true_and, Bool.and_false, Bool.false_and, Bool.or_true, Bool.true_or, Bool.or_false, Bool.false_or, cond_true, cond_false, List.getElem?_toArray, List.getElem?_cons_zero, List.getElem?_cons_succ, Nat.zero_add, Nat.add_zero, Nat.reduceAdd, forall_const]
  rw [cnd_bool]
  refine ⟨fun h => ?_, fun h => ?_⟩
  · have hlt : i < a.length := by simp at h; omega
    obtain ⟨x, hx⟩ : ∃ x, a[i]? = some x := ⟨_, List.getElem?_eq_getElem hlt⟩
    refine drw_s hs2 fun w3 hs3 _ => ?_
    simp only [L_api_ID hs3.blk]
    change ixs 32 _ _ _
    refine Rows'.ldN (q := rVec 32) (by decide) (ha.fr hs3.fr0) hx .i64 ?_
    rw [eq_api_ID, cnd_bool]
    refine ⟨fun h => ?_, fun h => ?_⟩
    · have h : k = x := by simpa using h
      refine hR _ _ ⟨⟨i, rfl, ?_⟩, hs3.fr0⟩
      rw [decide_eq_true (by omega), decide_eq_true (h ▸ List.mem_of_getElem? hx)]
    · have h : ¬ k = x := by simpa using h
      rw [wi64 (by omega) (by omega)]
      refine ⟨⟨i + 1, by simp, by omega, ?_, hs3⟩, by simp [RowKit.intOf]; omega⟩
      rw [List.take_add_one, hx, List.mem_append]
      rintro (hm | hm)
      · exact ht hm
      · exact h (by simpa using hm)
  · have hge : i = a.length := by simp at h; omega
    rw [hge, List.take_of_length_le (Nat.le_refl _)] at ht
    exact hR _ _ ⟨⟨-1, rfl, by rw [decide_eq_false (by omega), decide_eq_false ht]⟩, hs2.fr0⟩
theorem idsContains_spec {u : Value} {a : List (Vec 32)} (ha : Rows' (rVec 32) w.heap u a) (hl : a.length ≤ 1000000) (k : Vec 32) : cal P f_slices_Contains_api_ID_api_ID [u, kv k] w fun r w' => r = .bool (decide (k ∈ a)) ∧ Fr [] w w' := by
  refine s_slices_Contains_api_ID_api_ID fun R hR => ?_
  unfold c_slices_Contains_api_ID_api_ID
  refine bxQ (Sep.start w) fun g w1 hs => ?_
  simp only [L_api_ID hs.blk]
  refine cal_i (idsIndex_spec (ha.fr hs.fr0) hl k) ?_
  rintro _ w2 ⟨⟨i, rfl, hi⟩, hf⟩
  simp only [nilc_some, fad_mk, pik_true, pik_false, cnd_true, cnd_false, gif_same, gif_tf, gif_ft, gif_undef, bi_add, bi_sub, bi_mul, bi_eql, bi_neq, bi_lss, bi_leq, bi_gtr, bi_geq, notB_bool, cvi_int, lenS_mk, lenT_mk, ext0, ext1, ext2, nilP_mk, nilS_mk, fldv_agg, jn0_k, jn1_k, jn2_k, jn1_and, jn1_or, ex_some, Option.isNone_some, Option.isNone_none, Bool.false_bne, Bool.bne_true, Bool.bne_false, Bool.true_bne, Bool.not_true, Bool.not_false, Bool.and_true, Bool.true_and, Bool.and_false, Bool.false_and, Bool.or_true, Bool.true_or, Bool.or_false, Bool.false_or, cond_true, cond_false, List.getElem?_toArray, List.getElem?_cons_zero, List.getElem?_cons_succ, Nat.zero_add, Nat.add_zero, Nat.reduceAdd, forall_const]
  exact hR _ _ ⟨by rw [hi], (hs.old hf).fr0⟩
end
end Go.Fx
set_option linter.unusedVariables false
set_option linter.unusedSimpArgs false
namespace Go.Fx
/-- The names that are wanted, behind one more. -/
def wantS (ws : List Wt) (out : List (Vec 32)) (k : Vec 32) : List (Vec 32) := if (noW k ws).isSome = true ∨ k ∈ out then out else out ++ [k]
def wantedOf (ws : List Wt) (vs : List (Int × Int × Vec 32 × Vec 32)) : List (Vec 32) := (vs.map (·.2.2.1)).foldl (wantS ws) ((ws.map (·.2.1.p)).foldl (wantS ws) [])
theorem wantS_len (ws : List Wt) (out : List (Vec 32)) (k : Vec 32) : (wantS ws out k).length ≤ out.length + 1 := by
  unfold wantS
  split
  · omega
  · simp
theorem want_len (ws : List Wt) : ∀ (l out : List (Vec 32)), (l.foldl (wantS ws) out).length ≤ out.length + l.length
  | [], out => by simp
  | k :: l, out => by
    have h1 := want_len ws l (wantS ws out k)
    have h2 := wantS_len ws out k
    simp only [List.foldl_cons, List.length_cons]
    omega
section
variable {w0 w w' : World} {As : List Asn} {g : Nat} {bv vv : Value} {rb rv : Int} {ws : List Wt} {vs : List (Int × Int × Vec 32 × Vec 32)}
/-- One more name that may be wanted. -/
theorem hWanted1_spec {g1 g3 : Nat} {x : Value} {out : List (Vec 32)} (hs : Sep w0 w (rows (rVec 32) x out :: blk g3 #[x] T_sl_api_ID :: blk g1 #[.pointer (some ⟨g, 0, none⟩)] T_p_hold_Hold :: As)) (hr : HdR w0.heap g bv vv rb rv ws vs) (hn : ws.length ≤ 1000000) (hl : ∀ x ∈ ws, x.2.1.d.length ≤ 200) (ho : out.length ≤ 1000000) (k : Vec 32) :
    cal P f_hold_Hold_Wanted_1 [kv k, .pointer (some ⟨g1, 0, none⟩), .pointer (some ⟨g3, 0, none⟩)] w fun r w' => r = .tuple #[] ∧ ∃ x', Sep w0 w' (rows (rVec 32) x' (wantS ws out k) :: blk g3 #[x'] T_sl_api_ID :: blk g1 #[.pointer (some ⟨g, 0, none⟩)] T_p_hold_Hold :: As) := by
  refine s_hold_Hold_Wanted_1 fun R hR => ?_
  unfold c_hold_Hold_Wanted_1
  refine bxQ hs fun g4 w1 hs1 => ?_
  refine ld1_i (v := .pointer (some ⟨g, 0, none⟩)) (Sep.blk (Sep.pick hs1 [3] 4)) rfl ?_
  simp only [L_api_ID (Sep.blk hs1)]
  refine cal_i (hHas_spec (hs1.hd hr) hn hl k) ?_
  rintro _ w2 ⟨rfl, hf2⟩
  have hs2 := hs1.old hf2
  simp only [nilc_some, fad_mk, pik_true, pik_false, cnd_true, cnd_false, gif_same, gif_tf, gif_ft, gif_undef, bi_add, bi_sub, bi_mul, bi_eql, bi_neq, bi_lss, bi_leq, bi_gtr, bi_geq, notB_bool, cvi_int, lenS_mk, lenT_mk, ext0, ext1, ext2, nilP_mk, nilS_mk, fldv_agg, jn0_k, jn1_k, jn2_k, jn1_and, jn1_or, ex_some, Option.isNone_some, Option.isNone_none, Bool.false_bne, Bool.bne_true, Bool.bne_false, Bool.true_bne, Bool.not_true, Bool.not_false, Bool.and_true, Bool.true_and, Bool.and_false, Bool.false_and, Bool.or_true, Bool.true_or, Bool.or_false, Bool.false_or, cond_true, cond_false, List.getElem?_toArray, List.getElem?_cons_zero, List.getElem?_cons_succ, Nat.zero_add, Nat.add_zero, Nat.reduceAdd, forall_const]
  cases hh : (noW k ws).isSome with
  | true =>
    simp only [nilc_some, fad_mk, pik_true, pik_false, cnd_true, cnd_false, gif_same, gif_tf, gif_ft, gif_undef, bi_add, bi_sub, bi_mul, bi_eql, bi_neq, bi_lss, bi_leq, bi_gtr, bi_geq, notB_bool, cvi_int, lenS_mk, lenT_mk, ext0, ext1, ext2, nilP_mk, nilS_mk, fldv_agg, jn0_k, jn1_k, jn2_k, jn1_and, jn1_or, ex_some, Option.isNone_some, Option.isNone_none, Bool.false_bne, Bool.bne_true, Bool.bne_false, Bool.true_bne, Bool.not_true, Bool.not_false, Bool.and_true, Bool.true_and, Bool.and_false, Bool.false_and, Bool.or_true, Bool.true_or, Bool.or_false, Bool.false_or, cond_true, cond_false, List.getElem?_toArray, List.getElem?_cons_zero, List.getElem?_cons_succ, Nat.zero_add, Nat.add_zero, Nat.reduceAdd, forall_const]
    refine hR _ _ ⟨rfl, x, ?_⟩
    unfold wantS
    rw [if_pos (.inl hh)]
    exact hs2.tail
  | false =>
    simp only [nilc_some, fad_mk, pik_true, pik_false, cnd_true, cnd_false, gif_same, gif_tf, gif_ft, gif_undef, bi_add, bi_sub, bi_mul, bi_eql, bi_neq, bi_lss, bi_leq, bi_gtr, bi_geq, notB_bool, cvi_int, lenS_mk, lenT_mk, ext0, ext1, ext2, nilP_mk, nilS_mk, fldv_agg, jn0_k, jn1_k, jn2_k, jn1_and, jn1_or, ex_some, Option.isNone_some, Option.isNone_none, Bool.false_bne, Bool.bne_true, Bool.bne_false, Bool.true_bne, Bool.not_true, Bool.not_false, Bool.and_true, Bool.true_and, Bool.and_false, Bool.false_and, Bool.or_true, Bool.true_or, Bool.or_false, Bool.false_or, cond_true, cond_false, List.getElem?_toArray, List.getElem?_cons_zero, List.getElem?_cons_succ, Nat.zero_add, Nat.add_zero, Nat.reduceAdd, forall_const]
    refine jn1_dup ?_
    refine ld1_i (v := x) (Sep.blk (Sep.pick hs2 [2] 3)) rfl ?_
    simp only [L_api_ID (Sep.blk hs2)]
    refine cal_i (idsContains_spec (Sep.rows hs2.p1) ho k) ?_
    rintro _ w3 ⟨rfl, hf3⟩
    have hs3 := hs2.old hf3
    by_cases hk : k ∈ out
    · simp only [decide_eq_true hk, nilc_some, fad_mk, pik_true, pik_false, cnd_true, cnd_false, gif_same, gif_tf, gif_ft, gif_undef, bi_add, bi_sub, bi_mul, bi_eql, bi_neq, bi_lss, bi_leq, bi_gtr, bi_geq, notB_bool, cvi_int, lenS_mk, lenT_mk, ext0, ext1, ext2, nilP_mk, nilS_mk, fldv_agg, jn0_k, jn1_k, jn2_k, jn1_and, jn1_or, ex_some, Option.isNone_some, Option.isNone_none, Bool.false_bne, Bool.bne_true, Bool.bne_false, Bool.true_bne, Bool.not_true, Bool.not_false, Bool.and_true, Bool.true_and, Bool.and_false, Bool.false_and, Bool.or_true, Bool.true_or, Bool.or_false, Bool.false_or, cond_true, cond_false, List.getElem?_toArray, List.getElem?_cons_zero, List.getElem?_cons_succ, Nat.zero_add, Nat.add_zero, Nat.reduceAdd, forall_const]
      refine hR _ _ ⟨rfl, x, ?_⟩
      unfold wantS
      rw [if_pos (.inr hk)]
      exact hs3.tail
    · simp only [decide_eq_false hk, nilc_some, fad_mk, pik_true, pik_false, cnd_true, cnd_false, gif_same, gif_tf, gif_ft, gif_undef, bi_add, bi_sub, bi_mul, bi_eql, bi_neq, bi_lss, bi_leq, bi_gtr, bi_geq, notB_bool, cvi_int, lenS_mk, lenT_mk, ext0, ext1, ext2, nilP_mk, nilS_mk, fldv_agg, jn0_k, jn1_k, jn2_k, jn1_and, jn1_or, ex_some, Option.isNone_some, Option.isNone_none, Bool.false_bne, Bool.bne_true, Bool.bne_false, Bool.true_bne, Bool.not_true, Bool.not_false, Bool.and_true, Bool.true_and, Bool.and_false, Bool.false_and, Bool.or_true, Bool.true_or, Bool.or_false, Bool.false_or, cond_true, cond_false, List.getElem?_toArray, List.getElem?_cons_zero, List.getElem?_cons_succ, Nat.zero_add, Nat.add_zero, Nat.reduceAdd, forall_const]
      refine ld1_i (v := x) (Sep.blk (Sep.pick hs3 [2] 3)) rfl ?_
      simp only [L_api_ID (Sep.blk hs3)]
      refine rows_lit hs3 S_sl_api_ID (l := [k]) (V := fun a => .agg (Rdr.cells (rVec 32) a).toArray) (fun a => rfl) rfl rfl (by decide) (by decide) fun g8 w5 hs5 => ?_
      refine rows_app S_sl_api_ID U_sl_api_ID (by simp) hs5.p2 (Sep.rows hs5) ?_ (by simp; omega) (by simp; omega) fun v8 w8 hs8 => ?_
      · simp only [List.flatMap_cons, List.flatMap_nil, List.append_nil]
        exact oneVec
      refine st1_s (Sep.pick hs8 [3, 0, 4] 5) (by simp) (Sep.oneR hs8) fun w9 hs9 => ?_
      refine hR _ _ ⟨rfl, v8, ?_⟩
      unfold wantS
      rw [if_neg (by rw [hh]; simp [hk])]
      exact hs9.p1
end
end Go.Fx
set_option linter.unusedVariables false
set_option linter.unusedSimpArgs false
namespace Go.Fx
section
variable {w0 w w' : World} {As : List Asn} {g : Nat} {bv vv : Value} {rb rv : Int} {ws : List Wt} {vs : List (Int × Int × Vec 32 × Vec 32)}
theorem al_slH (w : World) : (Instr.alloc T_sl_api_ID true (.tuple #[])).run P w = .ok (.pointer (some ⟨w.heap.size, 0, none⟩)) (w.alloc (.cells #[.slice none 0 0] T_sl_api_ID)) := by kernel_rfl
theorem hWanted_spec (hr : HdR w.heap g bv vv rb rv ws vs) (hn : ws.length ≤ 300000) (hnv : vs.length ≤ 300000) (hl : ∀ x ∈ ws, x.2.1.d.length ≤ 200) :
    cal P f_hold_Hold_Wanted [.pointer (some ⟨g, 0, none⟩)] w fun r w' => Sep w w' [rows (rVec 32) r (wantedOf ws vs)] := by
  refine s_hold_Hold_Wanted fun R hR => ?_
  unfold c_hold_Hold_Wanted
  refine bx_s (Sep.start w) fun g1 w1 hs1 => ?_
  replace hs1 : Sep w w1 [blk g1 #[.pointer (some ⟨g, 0, none⟩)] T_p_hold_Hold] := hs1
  refine ld1_i (v := .pointer (some ⟨g, 0, none⟩)) (Sep.blk hs1) rfl ?_
  refine cal_i (hnone_spec (hs1.hd hr)) ?_
  rintro _ _ ⟨rfl, rfl⟩
  simp only [nilc_some, fad_mk, pik_true, pik_false, cnd_true, cnd_false, gif_same, gif_tf, gif_ft, gif_undef, bi_add, bi_sub, bi_mul, bi_eql, bi_neq, bi_lss, bi_leq, bi_gtr, bi_geq, notB_bool, cvi_int, lenS_mk, lenT_mk, ext0, ext1, ext2, nilP_mk, nilS_mk, fldv_agg, jn0_k, jn1_k, jn2_k, jn1_and, jn1_or, ex_some, Option.isNone_some, Option.isNone_none, Bool.false_bne, Bool.bne_true, Bool.bne_false, Bool.true_bne, Bool.not_true, Bool.not_false, Bool.and_true, Bool.true_and, Bool.and_false, Bool.false_and, Bool.or_true, Bool.true_or, Bool.or_false, Bool.false_or, cond_true, cond_false, List.getElem?_toArray, List.getElem?_cons_zero, List.getElem?_cons_succ, Nat.zero_add, Nat.add_zero, Nat.reduceAdd, forall_const]
  refine alloc_s hs1 (al_slH w1) fun g3 w2 hs2 => ?_
  refine ld1_i (v := .pointer (some ⟨g, 0, none⟩)) (Sep.blk hs2.p1) rfl ?_
  obtain ⟨T, fr, hc⟩ := (hs2.hd hr).cell
  simp only [nilc_some, fad_mk, pik_true, pik_false, cnd_true, cnd_false, gif_same, gif_tf, gif_ft, gif_undef, bi_add, bi_sub, bi_mul, bi_eql, bi_neq, bi_lss, bi_leq, bi_gtr, bi_geq, notB_bool, cvi_int, lenS_mk, lenT_mk, ext0, ext1, ext2, nilP_mk, nilS_mk, fldv_agg, jn0_k, jn1_k, jn2_k, jn1_and, jn1_or, ex_some, Option.isNone_some, Option.isNone_none, Bool.false_bne, Bool.bne_true, Bool.bne_false, Bool.true_bne, Bool.not_true, Bool.not_false, Bool.and_true, Bool.true_and, Bool.and_false, Bool.false_and, Bool.or_true, Bool.true_or, Bool.or_false, Bool.false_or, cond_true, cond_false, List.getElem?_toArray, List.getElem?_cons_zero, List.getElem?_cons_succ, Nat.zero_add, Nat.add_zero, Nat.reduceAdd, forall_const, L_hold_Hold hc, L_hold_Hold__made hc, L_hold_Hold__roomB hc, L_hold_Hold__roomV hc, L_hold_Hold__blocks hc, L_hold_Hold__votes hc, hr.lenB]
  refine ⟨fun y z => ∃ (i : Nat) (x : Value), y = .int .i64 i ∧ i ≤ ws.length ∧ Sep w z (rows (rVec 32) x (((ws.take i).map (·.2.1.p)).foldl (wantS ws) []) :: blk g3 #[x] T_sl_api_ID :: blk g1 #[.pointer (some ⟨g, 0, none⟩)] T_p_hold_Hold :: []), fun y _ => (ws.length - RowKit.intOf y).toNat, ⟨0, .slice none 0 0, rfl, by omega, hs2.nilR⟩, ?_⟩
  rintro _ w3 ⟨i, x, rfl, hi, hs3⟩ -
  simp only [nilc_some, fad_mk, pik_true, pik_false, cnd_true, cnd_false, gif_same, gif_tf, gif_ft, gif_undef, bi_add, bi_sub, bi_mul, bi_eql, bi_neq, bi_lss, bi_leq, bi_gtr, bi_geq, notB_bool, cvi_int, lenS_mk, lenT_mk, ext0, ext1, ext2, nilP_mk, nilS_mk, fldv_agg, jn0_k, jn1_k, jn2_k, jn1_and, jn1_or, ex_some, Option.isNone_some, Option.isNone_none, Bool.false_bne, Bool.bne_true, Bool.bne_false, Bool.true_bne, Bool.not_true, Bool.not_false, Bool.and_true, Bool.true_and, Bool.and_false, Bool.false_and, Bool.or_true, Bool.true_or, Bool.or_false, Bool.false_or, cond_true, cond_false, List.getElem?_toArray, List.getElem?_cons_zero, List.getElem?_cons_succ, Nat.zero_add, Nat.add_zero, Nat.reduceAdd, forall_const]
  rw [cnd_bool]
  refine ⟨fun h => ?_, fun h => ?_⟩
  · have hlt : i < ws.length := by simp at h; omega
    obtain ⟨e, he⟩ : ∃ e, ws[i]? = some e := ⟨_, List.getElem?_eq_getElem hlt⟩
    have hem := List.mem_of_getElem? he
    have he' : (ws.map Wt.c)[i]? = some e.c := by rw [List.getElem?_map, he]; rfl
    have hol := want_len ws ((ws.take i).map (·.2.1.p)) []
    rw [List.length_map, List.length_take, List.length_nil] at hol
    change ixs 66 _ _ _
    refine Rows'.ldN (q := Q_hold_waiting) (by decide) ((hs3.hd hr).bw) he' .i64 ?_
    refine alloc_s hs3 (A_hold_waiting w3) fun g6 w4 hs4 => ?_
    refine St_hold_waiting (b := e.c) hs4 (one_hold_waiting (hr.dat e hem).one) fun w5 hs5 => ?_
    simp only [nilc_some, fad_mk, pik_true, pik_false, cnd_true, cnd_false, gif_same, gif_tf, gif_ft, gif_undef, bi_add, bi_sub, bi_mul, bi_eql, bi_neq, bi_lss, bi_leq, bi_gtr, bi_geq, notB_bool, cvi_int, lenS_mk, lenT_mk, ext0, ext1, ext2, nilP_mk, nilS_mk, fldv_agg, jn0_k, jn1_k, jn2_k, jn1_and, jn1_or, ex_some, Option.isNone_some, Option.isNone_none, Bool.false_bne, Bool.bne_true, Bool.bne_false, Bool.true_bne, Bool.not_true, Bool.not_false, Bool.and_true, Bool.true_and, Bool.and_false, Bool.false_and, Bool.or_true, Bool.true_or, Bool.or_false, Bool.false_or, cond_true, cond_false, List.getElem?_toArray, List.getElem?_cons_zero, List.getElem?_cons_succ, Nat.zero_add, Nat.add_zero, Nat.reduceAdd, forall_const, L_hold_waiting (Sep.blk hs5), L_hold_waiting__id (Sep.blk hs5), L_hold_waiting__b (Sep.blk hs5), L_hold_waiting__b_Parent (Sep.blk hs5), L_hold_waiting__b_Height (Sep.blk hs5), L_hold_waiting__b_Data (Sep.blk hs5)]
    refine calV_mkH (cap := [.pointer (some ⟨g1, 0, none⟩), .pointer (some ⟨g3, 0, none⟩)]) (by kernel_rfl) (cal_i (hWanted1_spec hs5.tail hr (by omega) hl (by omega) e.2.1.p) ?_)
    rintro _ w6 ⟨rfl, x', hs6⟩
    rw [wi64 (by omega) (by omega)]
    refine ⟨⟨i + 1, x', by simp, by omega, ?_⟩, by simp [RowKit.intOf]; omega⟩
    have e1 : ((ws.take (i + 1)).map (·.2.1.p)).foldl (wantS ws) [] = wantS ws (((ws.take i).map (·.2.1.p)).foldl (wantS ws) []) e.2.1.p := by
      rw [List.take_add_one, he, List.map_append, List.foldl_append]
      rfl
    rw [e1]
    exact hs6
  have hge : i = ws.length := by simp at h; omega
  rw [hge, List.take_of_length_le (Nat.le_refl _)] at hs3
  have hol := want_len ws (ws.map (·.2.1.p)) []
  rw [List.length_map, List.length_nil] at hol
  unfold wantedOf at hR
  generalize (ws.map (·.2.1.p)).foldl (wantS ws) [] = O1 at *
  refine ld1_i (v := .pointer (some ⟨g, 0, none⟩)) (Sep.blk hs3.p2) rfl ?_
  obtain ⟨T, fr, hc⟩ := (hs3.hd hr).cell
  simp only [nilc_some, fad_mk, pik_true, pik_false, cnd_true, cnd_false, gif_same, gif_tf, gif_ft, gif_undef, bi_add, bi_sub, bi_mul, bi_eql, bi_neq, bi_lss, bi_leq, bi_gtr, bi_geq, notB_bool, cvi_int, lenS_mk, lenT_mk, ext0, ext1, ext2, nilP_mk, nilS_mk, fldv_agg, jn0_k, jn1_k, jn2_k, jn1_and, jn1_or, ex_some, Option.isNone_some, Option.isNone_none, Bool.false_bne, Bool.bne_true, Bool.bne_false, Bool.true_bne, Bool.not_true, Bool.not_false, Bool.and_true, Bool.true_and, Bool.and_false, Bool.false_and, Bool.or_true, Bool.true_or, Bool.or_false, Bool.false_or, cond_true, cond_false, List.getElem?_toArray, List.getElem?_cons_zero, List.getElem?_cons_succ, Nat.zero_add, Nat.add_zero, Nat.reduceAdd, forall_const, L_hold_Hold hc, L_hold_Hold__made hc, L_hold_Hold__roomB hc, L_hold_Hold__roomV hc, L_hold_Hold__blocks hc, L_hold_Hold__votes hc, hr.vw.len]
  refine ⟨fun y z => ∃ (i : Nat) (x : Value), y = .int .i64 i ∧ i ≤ vs.length ∧ Sep w z (rows (rVec 32) x (((vs.take i).map (·.2.2.1)).foldl (wantS ws) O1) :: blk g3 #[x] T_sl_api_ID :: blk g1 #[.pointer (some ⟨g, 0, none⟩)] T_p_hold_Hold :: []), fun y _ => (vs.length - RowKit.intOf y).toNat, ⟨0, x, rfl, by omega, hs3⟩, ?_⟩
  clear hs3 hs2 hs1
  rintro _ w3 ⟨i, x, rfl, hi, hs3⟩ -
  simp only [nilc_some, fad_mk, pik_true, pik_false, cnd_true, cnd_false, gif_same, gif_tf, gif_ft, gif_undef, bi_add, bi_sub, bi_mul, bi_eql, bi_neq, bi_lss, bi_leq, bi_gtr, bi_geq, notB_bool, cvi_int, lenS_mk, lenT_mk, ext0, ext1, ext2, nilP_mk, nilS_mk, fldv_agg, jn0_k, jn1_k, jn2_k, jn1_and, jn1_or, ex_some, Option.isNone_some, Option.isNone_none, Bool.false_bne, Bool.bne_true, Bool.bne_false, Bool.true_bne, Bool.not_true, Bool.not_false, Bool.and_true, Bool.true_and, Bool.and_false, Bool.false_and, Bool.or_true, Bool.true_or, Bool.or_false, Bool.false_or, cond_true, cond_false, List.getElem?_toArray, List.getElem?_cons_zero, List.getElem?_cons_succ, Nat.zero_add, Nat.add_zero, Nat.reduceAdd, forall_const]
  rw [cnd_bool]
  refine ⟨fun h => ?_, fun h => ?_⟩
  · have hlt : i < vs.length := by simp at h; omega
    obtain ⟨e, he⟩ : ∃ e, vs[i]? = some e := ⟨_, List.getElem?_eq_getElem hlt⟩
    have hol2 := want_len ws ((vs.take i).map (·.2.2.1)) O1
    rw [List.length_map, List.length_take] at hol2
    change ixs 66 _ _ _
    refine Rows'.ldN (q := Q_api_HeldVote) (by decide) ((hs3.hd hr).vw) he .i64 ?_
    refine alloc_s hs3 (A_api_HeldVote w3) fun g6 w4 hs4 => ?_
    refine St_api_HeldVote (b := e) hs4 one_api_HeldVote fun w5 hs5 => ?_
    simp only [nilc_some, fad_mk, pik_true, pik_false, cnd_true, cnd_false, gif_same, gif_tf, gif_ft, gif_undef, bi_add, bi_sub, bi_mul, bi_eql, bi_neq, bi_lss, bi_leq, bi_gtr, bi_geq, notB_bool, cvi_int, lenS_mk, lenT_mk, ext0, ext1, ext2, nilP_mk, nilS_mk, fldv_agg, jn0_k, jn1_k, jn2_k, jn1_and, jn1_or, ex_some, Option.isNone_some, Option.isNone_none, Bool.false_bne, Bool.bne_true, Bool.bne_false, Bool.true_bne, Bool.not_true, Bool.not_false, Bool.and_true, Bool.true_and, Bool.and_false, Bool.false_and, Bool.or_true, Bool.true_or, Bool.or_false, Bool.false_or, cond_true, cond_false, List.getElem?_toArray, List.getElem?_cons_zero, List.getElem?_cons_succ, Nat.zero_add, Nat.add_zero, Nat.reduceAdd, forall_const, L_api_HeldVote (Sep.blk hs5), L_api_HeldVote__Poll (Sep.blk hs5), L_api_HeldVote__Node (Sep.blk hs5), L_api_HeldVote__Want (Sep.blk hs5), L_api_HeldVote__Else (Sep.blk hs5)]
    refine calV_mkH (cap := [.pointer (some ⟨g1, 0, none⟩), .pointer (some ⟨g3, 0, none⟩)]) (by kernel_rfl) (cal_i (hWanted1_spec hs5.tail hr (by omega) hl (by omega) e.2.2.1) ?_)
    rintro _ w6 ⟨rfl, x', hs6⟩
    rw [wi64 (by omega) (by omega)]
    refine ⟨⟨i + 1, x', by simp, by omega, ?_⟩, by simp [RowKit.intOf]; omega⟩
    have e1 : ((vs.take (i + 1)).map (·.2.2.1)).foldl (wantS ws) O1 = wantS ws (((vs.take i).map (·.2.2.1)).foldl (wantS ws) O1) e.2.2.1 := by
      rw [List.take_add_one, he, List.map_append, List.foldl_append]
      rfl
    rw [e1]
    exact hs6
  have hge : i = vs.length := by simp at h; omega
  rw [hge, List.take_of_length_le (Nat.le_refl _)] at hs3
  refine ld1_i (v := x) (Sep.blk hs3.p1) rfl ?_
  exact hR _ _ (Sep.pick hs3 [0] 3)
end
end Go.Fx
set_option linter.unusedVariables false
set_option linter.unusedSimpArgs false
namespace Go.Fx
section
variable {P : Program} {T E n : Nat} {w0 w : World} {As : List Asn}
theorem bits_bv : ∀ (l : List UInt8) (m : Nat), ((bvs l).zip (bvs l)).all (fun x => Instr.sameBits (m + 1) x.1 x.2) = true
  | [], m => rfl
  | b :: l, m => by
    have ih := bits_bv l m
    unfold bvs at ih ⊢
    rw [List.map_cons, List.zip_cons_cons, List.all_cons, ih]
    simp [Instr.sameBits, bv]
theorem same_key (k : Vec n) (m : Nat) : Instr.sameBits (m + 2) (kv k) (kv k) = true := by
  show (((bvs k.1).toArray.size == (bvs k.1).toArray.size) && ((bvs k.1).toArray.toList.zip (bvs k.1).toArray.toList).all fun x => Instr.sameBits (m + 1) x.1 x.2) = true
  rw [List.toList_toArray, bits_bv]
  simp
theorem run_stays (k : Vec n) : (Instr.keyThatStays (kv k) (kv k)).run P w = .ok (kv k) w := by
  unfold Instr.keyThatStays
  rw [if_pos (same_key k 9998)]
  rfl
/-- An entry with another value. -/
def updE (k : Vec n) (v : Value) : List (Ent n) → List (Ent n)
  | [] => []
  | x :: l => if k = x.1 then (k, v, x.2.2) :: l else x :: updE k v l
theorem updE_born (k : Vec n) (v : Value) : ∀ l : List (Ent n), (updE k v l).map (·.2.2) = l.map (·.2.2)
  | [] => rfl
  | x :: l => by
    unfold updE
    split
    · rfl
    · rw [List.map_cons, updE_born k v l, List.map_cons]
theorem updE_get (k : Vec n) (v : Value) (k' : Vec n) : ∀ l : List (Ent n), (getE k l).isSome = true → getE k' (updE k v l) = if k' = k then some v else getE k' l
  | [], h => by simp [getE] at h
  | x :: l, h => by
    unfold updE
    by_cases hk : k = x.1
    · rw [if_pos hk]
      by_cases hk' : k' = k
      · unfold getE; rw [List.find?_cons_of_pos (by simpa using hk'), if_pos hk']; rfl
      · unfold getE
        rw [if_neg hk', List.find?_cons_of_neg (by simpa using hk'), List.find?_cons_of_neg (by rw [← hk]; simpa using hk')]
    · have h1 : (getE k l).isSome = true := by
        unfold getE at h ⊢
        rwa [List.find?_cons_of_neg (by simpa using hk)] at h
      have ih := updE_get k v k' l h1
      rw [if_neg hk]
      unfold getE at ih ⊢
      by_cases hx : k' = x.1
      · rw [List.find?_cons_of_pos (by simpa using hx), List.find?_cons_of_pos (by simpa using hx), if_neg (by rw [hx]; exact fun he => hk he.symm)]
      · rw [List.find?_cons_of_neg (by simpa using hx), List.find?_cons_of_neg (by simpa using hx)]
        exact ih
theorem findE_ge (k : Vec n) : ∀ (l : List (Ent n)) (i j : Nat) (y : Value), findE k l i = some (j, y) → i ≤ j
  | [], i, j, y, h => by simp [findE] at h
  | x :: l, i, j, y, h => by
    unfold findE at h
    split at h
    · simp only [Option.some.injEq, Prod.mk.injEq] at h; omega
    · have := findE_ge k l (i + 1) j y h; omega
theorem findE_key (k : Vec n) : ∀ (l : List (Ent n)) (i j : Nat) (y : Value), findE k l i = some (j, y) → ∃ x, l[j - i]? = some x ∧ x.1 = k ∧ x.2.1 = y
  | [], i, j, y, h => by simp [findE] at h
  | x :: l, i, j, y, h => by
    unfold findE at h
    split at h
    · rename_i hk
      simp only [Option.some.injEq, Prod.mk.injEq] at h
      refine ⟨x, ?_, hk.symm, h.2⟩
      rw [show j - i = 0 by omega]; rfl
    · have hg := findE_ge k l (i + 1) j y h
      obtain ⟨z, hz, h2⟩ := findE_key k l (i + 1) j y h
      refine ⟨z, ?_, h2⟩
      rw [show j - i = (j - (i + 1)) + 1 by omega]
      exact hz
theorem updE_mod (k : Vec n) (v : Value) : ∀ (l : List (Ent n)) (i j : Nat) (y : Value), findE k l i = some (j, y) → (l.map entM).modify (j - i) (fun e => { e with key := kv k, val := v }) = (updE k v l).map entM
  | [], i, j, y, h => by simp [findE] at h
  | x :: l, i, j, y, h => by
    unfold findE at h
    unfold updE
    split at h
    · rename_i hk
      simp only [Option.some.injEq, Prod.mk.injEq] at h
      rw [if_pos hk, show j - i = 0 by omega]
      rfl
    · rename_i hk
      have hg := findE_ge k l (i + 1) j y h
      have ih := updE_mod k v l (i + 1) j y h
      rw [if_neg hk, show j - i = (j - (i + 1)) + 1 by omega, List.map_cons, List.modify_succ_cons, ih, List.map_cons]
/-- When a key's entry came. -/
def bornE (k : Vec n) (l : List (Ent n)) : Option Nat := (l.find? fun x => decide (k = x.1)).map (·.2.2)
structure MOk (l : List (Ent n)) (c : Nat) : Prop where
  nd : (l.map (·.2.2)).Nodup
  lt : ∀ x ∈ l, x.2.2 < c
theorem MOk.nil : MOk ([] : List (Ent n)) 0 := ⟨by simp, fun x hx => by cases hx⟩
theorem MOk.push {l : List (Ent n)} {c : Nat} (h : MOk l c) (k : Vec n) (v : Value) : MOk (l ++ [(k, v, c)]) (c + 1) := by
  refine ⟨?_, fun x hx => ?_⟩
  · rw [List.map_append, List.nodup_append]
    refine ⟨h.nd, by simp, fun x hx y hy he => ?_⟩
    simp only [List.map_cons, List.map_nil, List.mem_singleton] at hy
    subst hy
    obtain ⟨z, hz, rfl⟩ := List.mem_map.1 hx
    have := h.lt z hz
    omega
  · rcases List.mem_append.1 hx with hx | hx
    · have := h.lt x hx; omega
    · obtain rfl : x = (k, v, c) := by simpa using hx
      show c < c + 1
      omega
theorem MOk.upd {l : List (Ent n)} {c : Nat} (h : MOk l c) (k : Vec n) (v : Value) : MOk (updE k v l) c := by
  refine ⟨by rw [updE_born]; exact h.nd, fun x hx => ?_⟩
  have h1 : x.2.2 ∈ (updE k v l).map (·.2.2) := List.mem_map_of_mem hx
  rw [updE_born] at h1
  obtain ⟨z, hz, he⟩ := List.mem_map.1 h1
  have := h.lt z hz
  omega
theorem push_get (k : Vec n) (v : Value) (c : Nat) {l : List (Ent n)} (hn : getE k l = none) (k' : Vec n) : getE k' (l ++ [(k, v, c)]) = if k' = k then some v else getE k' l := by
  unfold getE at hn ⊢
  rw [Option.map_eq_none_iff] at hn
  rw [List.find?_append]
  by_cases hk : k' = k
  · subst hk
    rw [hn, if_pos rfl]
    simp
  · rw [if_neg hk, List.find?_cons_of_neg (by simpa using hk)]
    simp
/-- The entry that came then, with another value. -/
theorem updE_at (k : Vec n) (v : Value) : ∀ (l : List (Ent n)) (b : Nat), bornE k l = some b → (l.map (·.2.2)).Nodup → ∃ i, (l.map entM).findIdx? (fun e => (e.born : Int) == (b : Int)) = some i ∧ (l.map entM).modify i (fun e => { e with val := v }) = (updE k v l).map entM
  | [], b, h, _ => by simp [bornE] at h
  | x :: l, b, h, hn => by
    rw [List.map_cons, List.nodup_cons] at hn
    unfold updE
    by_cases hk : k = x.1
    · unfold bornE at h
      rw [List.find?_cons_of_pos (by simpa using hk)] at h
      simp only [Option.map_some, Option.some.injEq] at h
      refine ⟨0, ?_, ?_⟩
      · rw [List.map_cons, List.findIdx?_cons]
        simp [entM, h]
      · rw [if_pos hk]
        subst hk
        rfl
    · have h1 : bornE k l = some b := by
        unfold bornE at h ⊢
        rwa [List.find?_cons_of_neg (by simpa using hk)] at h
      obtain ⟨i, hi, hm⟩ := updE_at k v l b h1 hn.2
      have hb : b ∈ l.map (·.2.2) := by
        unfold bornE at h1
        obtain ⟨z, hz, rfl⟩ := Option.map_eq_some_iff.1 h1
        exact List.mem_map_of_mem (List.mem_of_find?_eq_some hz)
      refine ⟨i + 1, ?_, ?_⟩
      · rw [List.map_cons, List.findIdx?_cons, hi]
        have : (((entM x).born : Int) == (b : Int)) = false := by
          rw [beq_eq_false_iff_ne]
          intro he
          have he' : x.2.2 = b := by
            have : ((entM x).born : Int) = (x.2.2 : Int) := rfl
            omega
          exact hn.1 (he' ▸ hb)
        rw [this]
        rfl
      · rw [if_neg hk, List.map_cons, List.modify_succ_cons, hm, List.map_cons]
/-- A map, by what each key has. -/
def MpR (h : Heap) (g : Nat) (f : Vec n → Option Value) : Prop := ∃ l c, MOk l c ∧ (∀ k, getE k l = f k) ∧ h[g]? = some (.map (ents l) c)
def mpF (g : Nat) (f : Vec n → Option Value) : Asn := Asn.ex fun l => Asn.ex fun c => (Asn.pr (MOk l c ∧ ∀ k, getE k l = f k)).star (mp g l c)
def mpB (g : Nat) (f : Vec n → Option Value) (k : Vec n) (b : Nat) : Asn := Asn.ex fun l => Asn.ex fun c => (Asn.pr (MOk l c ∧ bornE k l = some b ∧ ∀ k, getE k l = f k)).star (mp g l c)
def updF (f : Vec n → Option Value) (k : Vec n) (v : Value) : Vec n → Option Value := fun k' => if k' = k then some v else f k'
theorem mpF_open {g : Nat} {f : Vec n → Option Value} (h : Sep w0 w (mpF g f :: As)) : ∃ l c, (MOk l c ∧ ∀ k, getE k l = f k) ∧ Sep w0 w (mp g l c :: As) := by
  unfold mpF at h
  rw [Sep_ex] at h
  obtain ⟨l, h⟩ := h
  rw [Sep_ex] at h
  obtain ⟨c, h⟩ := h
  rw [Sep_star, Sep_pr] at h
  exact ⟨l, c, h.1, h.2⟩
theorem mpF_close {g c : Nat} {f : Vec n → Option Value} {l : List (Ent n)} (hl : MOk l c ∧ ∀ k, getE k l = f k) (h : Sep w0 w (mp g l c :: As)) : Sep w0 w (mpF g f :: As) := by
  unfold mpF
  rw [Sep_ex]
  refine ⟨l, ?_⟩
  rw [Sep_ex]
  exact ⟨c, by rw [Sep_star, Sep_pr]; exact ⟨hl, h⟩⟩
theorem mpB_open {g b : Nat} {k : Vec n} {f : Vec n → Option Value} (h : Sep w0 w (mpB g f k b :: As)) : ∃ l c, (MOk l c ∧ bornE k l = some b ∧ ∀ k, getE k l = f k) ∧ Sep w0 w (mp g l c :: As) := by
  unfold mpB at h
  rw [Sep_ex] at h
  obtain ⟨l, h⟩ := h
  rw [Sep_ex] at h
  obtain ⟨c, h⟩ := h
  rw [Sep_star, Sep_pr] at h
  exact ⟨l, c, h.1, h.2⟩
theorem mpB_close {g c b : Nat} {k : Vec n} {f : Vec n → Option Value} {l : List (Ent n)} (hl : MOk l c ∧ bornE k l = some b ∧ ∀ k, getE k l = f k) (h : Sep w0 w (mp g l c :: As)) : Sep w0 w (mpB g f k b :: As) := by
  unfold mpB
  rw [Sep_ex]
  refine ⟨l, ?_⟩
  rw [Sep_ex]
  exact ⟨c, by rw [Sep_star, Sep_pr]; exact ⟨hl, h⟩⟩
theorem mpF_rd {g : Nat} {f : Vec n → Option Value} (h : Sep w0 w (mpF g f :: As)) : MpR w.heap g f := by
  obtain ⟨l, c, hl, hs⟩ := mpF_open h
  exact ⟨l, c, hl.1, hl.2, hs.map⟩
theorem mpB_rd {g b : Nat} {k : Vec n} {f : Vec n → Option Value} (h : Sep w0 w (mpB g f k b :: As)) : MpR w.heap g f := by
  obtain ⟨l, c, hl, hs⟩ := mpB_open h
  exact ⟨l, c, hl.1, hl.2.2, hs.map⟩
theorem makeF_s {t : TypeId} {K : Value → World → Prop} (hs : Sep w0 w As) (h : ∀ g w', Sep w0 w' (mpF (n := n) g (fun _ => none) :: As) → K (.map (some g)) w') : efP P (Instr.makeMap t none) w K :=
  makeMap_s (n := n) hs fun g w' hs' => h g w' (mpF_close ⟨MOk.nil, fun _ => rfl⟩ hs')
theorem lookF1 {M V g : Nat} {f : Vec n → Option Value} {z : Value} (hM : P.underlying M = some (.map T V)) (hT : KeyT P T E n) (hz : ∀ w : World, (zeroValue V).run P w = .ok z w) (hg : MpR w.heap g f) (k : Vec n) (K : Value → Prop) :
    rdP P (Instr.lookup M (.map (some g)) (kv k) false) w K = K ((f k).getD z) := by
  obtain ⟨l, c, _, hf, hm⟩ := hg
  rw [lookup_map1 hM hT (hz w) hm k, hf]
/-- A key gets a value. -/
theorem putF_s {M V g : Nat} {f : Vec n → Option Value} {k : Vec n} {v : Value} {K : World → Prop} (hM : P.underlying M = some (.map T V)) (hT : KeyT P T E n) (hs : Sep w0 w (mpF g f :: As))
    (h : ∀ w', Sep w0 w' (mpF g (updF f k v) :: As) → K w') : efU P (Instr.mapUpdate M (.map (some g)) (kv k) v) w K := by
  obtain ⟨l, c, ⟨hok, hf⟩, hs⟩ := mpF_open hs
  cases hk : getE k l with
  | none => exact putNew_s hM hT hs hk fun w' hs' => h w' (mpF_close ⟨hok.push k v, fun k' => by rw [push_get k v c hk]; unfold updF; rw [hf]⟩ hs')
  | some y =>
    have hg := hs.map
    obtain ⟨F, ⟨hb, rfl⟩, hu⟩ := hs.upd
    have hfe := findE_get k l 0
    rw [hk] at hfe
    obtain ⟨⟨i, y'⟩, hfi, _⟩ := Option.map_eq_some_iff.1 hfe
    obtain ⟨x, hx, hxk, _⟩ := findE_key k l 0 i y' hfi
    have hm := updE_mod k v l 0 i y' hfi
    rw [Nat.sub_zero] at hx hm
    have e2 : (ents l).modify i (fun e => { e with key := kv k, val := v }) = ents (updE k v l) := by
      apply Array.ext'
      unfold ents
      rw [Array.toList_modify]
      exact hm
    refine ⟨setBlk w g (.map (ents (updE k v l)) c), ?_, h _ (mpF_close ⟨hok.upd k v, fun k' => by rw [updE_get k v k' l (by rw [hk]; rfl)]; unfold updF; rw [hf]⟩ (hu _ [g] (mp g _ _) ⟨setBlk_self w g _ _ hb, rfl⟩ (fr_setBlk w g _) (Grew.refl _ _)))⟩
    have e1 : (((ents l)[i]?).map (·.key)).getD (kv k) = kv k := by
      unfold ents
      rw [List.getElem?_toArray, List.getElem?_map, hx]
      show kv x.1 = kv k
      rw [hxk]
    unfold Instr.mapUpdate
    simp only [Sem.run_bind, run_underlying hM, Result.andThen_ok, get_map hg, run_key hT k _ 9998, run_findKey hT k l, hfi, e1, run_stays]
    rw [← e2]
    exact set_map _ hg
/-- A key's entry; a new one, if there was none. -/
theorem entF_s {M V g : Nat} {f : Vec n → Option Value} {k : Vec n} {z : Value} {K : Value → World → Prop} (hM : P.underlying M = some (.map T V)) (hT : KeyT P T E n) (hz : ∀ w : World, (zeroValue V).run P w = .ok z w) (hs : Sep w0 w (mpF g f :: As))
    (h : ∀ b w', Sep w0 w' (mpB g (updF f k ((f k).getD z)) k b :: As) → K (.tuple #[(f k).getD z, .int .i64 (b : Nat)]) w') : efP P (Instr.mapEntry M (.map (some g)) (kv k)) w K := by
  obtain ⟨l, c, ⟨hok, hf⟩, hs⟩ := mpF_open hs
  have hg := hs.map
  obtain ⟨F, ⟨hb, rfl⟩, hu⟩ := hs.upd
  cases hk : getE k l with
  | none =>
    have e : (ents l).push (entM (k, z, c)) = ents (l ++ [(k, z, c)]) := by
      apply Array.ext'
      simp [ents]
    have hfk : f k = none := by rw [← hf, hk]
    have hbn : bornE k (l ++ [(k, z, c)]) = some c := by
      unfold getE at hk
      rw [Option.map_eq_none_iff] at hk
      unfold bornE
      rw [List.find?_append, hk]
      simp
    refine ⟨.tuple #[z, .int .i64 c], setBlk w g (.map (ents (l ++ [(k, z, c)])) (c + 1)), ?_, ?_⟩
    · unfold Instr.mapEntry
      simp only [Sem.run_bind, run_underlying hM, Result.andThen_ok, get_map hg, run_key hT k _ 9998, run_findKey hT k l, getE_none hk 0, hz]
      rw [← e]
      have h2 := set_map (P := P) (.map ((ents l).push (entM (k, z, c))) (c + 1)) hg
      simp only [entM] at h2 ⊢
      rw [h2]
      rfl
    · have := h c (setBlk w g (.map (ents (l ++ [(k, z, c)])) (c + 1))) (mpB_close ⟨hok.push k z, hbn, fun k' => by rw [push_get k z c hk]; unfold updF; rw [hf, hfk]; rfl⟩ (hu _ [g] (mp g _ _) ⟨setBlk_self w g _ _ hb, rfl⟩ (fr_setBlk w g _) (Grew.refl _ _)))
      rw [hfk] at this
      exact this
  | some y =>
    have hfk : f k = some y := by rw [← hf, hk]
    have hfe := findE_get k l 0
    rw [hk] at hfe
    obtain ⟨⟨i, y'⟩, hfi, hyy⟩ := Option.map_eq_some_iff.1 hfe
    have hyy : y' = y := hyy
    subst hyy
    obtain ⟨x, hx, hxk, hxy⟩ := findE_key k l 0 i y' hfi
    have hm := updE_mod k y' l 0 i y' hfi
    rw [Nat.sub_zero] at hx hm
    have e2 : (ents l).modify i (fun e => { e with key := kv k }) = ents l := by
      apply Array.ext'
      unfold ents
      rw [Array.toList_modify]
      apply List.ext_getElem?
      intro j
      rw [List.getElem?_modify]
      by_cases hj : i = j
      · subst hj
        have : (l.map entM).toArray.toList[i]? = some (entM x) := by rw [List.toList_toArray, List.getElem?_map, hx]; rfl
        rw [this]
        simp only [Option.map_eq_map, Option.map_some, if_true]
        rw [← hxk]
        rfl
      · simp [hj]
    have hbn : ∃ b, bornE k l = some b := by
      unfold getE at hk
      obtain ⟨q, hq, _⟩ := Option.map_eq_some_iff.1 hk
      exact ⟨q.2.2, by unfold bornE; rw [hq]; rfl⟩
    obtain ⟨b, hbn⟩ := hbn
    have hxb : x.2.2 = b := by
      clear hm e2 hu hb hg hs hok hf hfk hfe h
      have : ∀ (l : List (Ent n)) (i0 : Nat), findE k l i0 = some (i, y') → l[i - i0]? = some x → bornE k l = some b → x.2.2 = b := by
        intro l
        induction l with
        | nil => intro i0 h1; simp [findE] at h1
        | cons a l ih =>
          intro i0 h1 h2 h3
          unfold findE at h1
          by_cases ha : k = a.1
          · rw [if_pos ha] at h1
            simp only [Option.some.injEq, Prod.mk.injEq] at h1
            rw [show i - i0 = 0 by omega] at h2
            unfold bornE at h3
            rw [List.find?_cons_of_pos (by simpa using ha)] at h3
            simp only [List.getElem?_cons_zero, Option.some.injEq] at h2
            simp only [Option.map_some, Option.some.injEq] at h3
            rw [← h2]; exact h3
          · rw [if_neg ha] at h1
            have hg := findE_ge k l (i0 + 1) i y' h1
            rw [show i - i0 = (i - (i0 + 1)) + 1 by omega, List.getElem?_cons_succ] at h2
            unfold bornE at h3
            rw [List.find?_cons_of_neg (by simpa using ha)] at h3
            exact ih (i0 + 1) h1 h2 h3
      exact this l 0 hfi (by rw [Nat.sub_zero]; exact hx) hbn
    refine ⟨.tuple #[y', .int .i64 b], setBlk w g (.map (ents l) c), ?_, ?_⟩
    · have e1 : (((ents l)[i]?).map (·.key)).getD (kv k) = kv k := by
        unfold ents
        rw [List.getElem?_toArray, List.getElem?_map, hx]
        show kv x.1 = kv k
        rw [hxk]
      have e3 : (((ents l)[i]?).map fun e => (e.born : Int)).getD 0 = (b : Int) := by
        unfold ents
        rw [List.getElem?_toArray, List.getElem?_map, hx]
        show (x.2.2 : Int) = b
        rw [hxb]
      unfold Instr.mapEntry
      simp only [Sem.run_bind, run_underlying hM, Result.andThen_ok, get_map hg, run_key hT k _ 9998, run_findKey hT k l, hfi, e1, run_stays]
      rw [e2, set_map (P := P) _ hg]
      simp only [Result.andThen_ok, e3]
      rfl
    · have := h b (setBlk w g (.map (ents l) c)) (mpB_close ⟨hok, hbn, fun k' => by
        unfold updF
        by_cases hk' : k' = k
        · rw [if_pos hk', hk', hk, hfk]; rfl
        · rw [if_neg hk', hf]⟩ (hu _ [g] (mp g _ _) ⟨setBlk_self w g _ _ hb, rfl⟩ (fr_setBlk w g _) (Grew.refl _ _)))
      rw [hfk] at this
      exact this
theorem entStF_s {M g b : Nat} {f : Vec n → Option Value} {k : Vec n} {v : Value} {K : World → Prop} (hs : Sep w0 w (mpB g f k b :: As)) (h : ∀ w', Sep w0 w' (mpF g (updF f k v) :: As) → K w') : efU P (Instr.entryStore M (.map (some g)) (.int .i64 (b : Nat)) v) w K := by
  obtain ⟨l, c, ⟨hok, hbn, hf⟩, hs⟩ := mpB_open hs
  have hg := hs.map
  obtain ⟨F, ⟨hb, rfl⟩, hu⟩ := hs.upd
  obtain ⟨i, hi, hm⟩ := updE_at k v l b hbn hok.nd
  have hsm : (getE k l).isSome = true := by
    unfold bornE at hbn
    obtain ⟨q, hq, _⟩ := Option.map_eq_some_iff.1 hbn
    unfold getE
    rw [hq]
    rfl
  refine ⟨setBlk w g (.map (ents (updE k v l)) c), ?_, h _ (mpF_close ⟨hok.upd k v, fun k' => by rw [updE_get k v k' l hsm]; unfold updF; rw [hf]⟩ (hu _ [g] (mp g _ _) ⟨setBlk_self w g _ _ hb, rfl⟩ (fr_setBlk w g _) (Grew.refl _ _)))⟩
  have e1 : (ents l).findIdx? (fun e => (e.born : Int) == (b : Int)) = some i := by
    unfold ents
    rw [List.findIdx?_toArray]
    exact hi
  have e2 : (ents l).modify i (fun e => { e with val := v }) = ents (updE k v l) := by
    apply Array.ext'
    unfold ents
    rw [Array.toList_modify]
    exact hm
  unfold Instr.entryStore
  simp only [Sem.run_bind, Result.andThen_ok, get_map hg, asInt, asIntOf, Sem.run_pure]
  rw [e1]
  simp only [e2]
  exact set_map _ hg
end
end Go.Fx
set_option linter.unusedVariables false
set_option linter.unusedSimpArgs false
namespace Go.Fx
def lostS (L : List (Vec 32)) (x : Wt) : List (Vec 32) := if x.2.1.p ∈ L ∧ x.1 ∉ L then L ++ [x.1] else L
def lostP (ws : List Wt) (L : List (Vec 32)) : List (Vec 32) := ws.foldl lostS L
def lostI (ws : List Wt) (k : Vec 32) : Nat → List (Vec 32)
  | 0 => [k]
  | n + 1 => lostP ws (lostI ws k n)
/-- All names that are lost with one. -/
def LostIs (ws : List Wt) (k : Vec 32) (L : List (Vec 32)) : Prop := lostP ws L = L ∧ ∃ n, L = lostI ws k n
def freshN (ws : List Wt) (L : List (Vec 32)) : Nat := (ws.filter fun x => !decide (x.1 ∈ L)).length
theorem filter_le {α : Type} {p q : α → Bool} (h : ∀ x, q x = true → p x = true) : ∀ l : List α, (l.filter q).length ≤ (l.filter p).length
  | [] => Nat.le_refl _
  | a :: l => by
    have ih := filter_le h l
    rw [List.filter_cons, List.filter_cons]
    by_cases hq : q a = true
    · rw [if_pos hq, if_pos (h a hq)]
      simp only [List.length_cons]; omega
    · rw [if_neg hq]
      split
      · simp only [List.length_cons]; omega
      · exact ih
theorem filter_lt {α : Type} {p q : α → Bool} (h : ∀ x, q x = true → p x = true) {a : α} (hp : p a = true) (hq : ¬ q a = true) : ∀ l : List α, a ∈ l → (l.filter q).length < (l.filter p).length
  | [], hm => by cases hm
  | b :: l, hm => by
    have hle := filter_le h l
    rw [List.filter_cons, List.filter_cons]
    rcases List.mem_cons.1 hm with rfl | hm
    · rw [if_neg hq, if_pos hp]
      simp only [List.length_cons]; omega
    · have ih := filter_lt h hp hq l hm
      by_cases hqb : q b = true
      · rw [if_pos hqb, if_pos (h b hqb)]
        simp only [List.length_cons]; omega
      · rw [if_neg hqb]
        split
        · simp only [List.length_cons]; omega
        · exact ih
def LG (ws : List Wt) (L : List (Vec 32)) : Prop := L.length + freshN ws L ≤ ws.length + 1
theorem LG.one (ws : List Wt) (k : Vec 32) : LG ws [k] := by
  have : freshN ws [k] ≤ ws.length := List.length_filter_le _ _
  show 1 + freshN ws [k] ≤ ws.length + 1
  omega
theorem LG.add {ws : List Wt} {L : List (Vec 32)} {x : Wt} (h : LG ws L) (hx : x ∈ ws) (hn : x.1 ∉ L) : LG ws (L ++ [x.1]) := by
  have := filter_lt (p := fun y : Wt => !decide (y.1 ∈ L)) (q := fun y : Wt => !decide (y.1 ∈ L ++ [x.1])) (fun y hy => by simp at hy ⊢; exact hy.1) (a := x) (by simpa using hn) (by simp) ws hx
  unfold LG at h ⊢
  unfold freshN at h ⊢
  rw [List.length_append]
  simp only [List.length_cons, List.length_nil]
  omega
theorem KTh : KeyT P T_api_ID T_uint8 32 := ⟨U_api_ID, U_uint8, by kernel_rfl, by kernel_rfl, EQ_api_ID⟩
theorem zBo (w : World) : (zeroValue T_bool).run P w = .ok (.bool false) w := by kernel_rfl
/-- Each name once, in the order in which they came, with one value. -/
def allE (v : Value) (xs : List (Vec 32)) : List (Ent 32) := xs.zipIdx.map fun x => (x.1, v, x.2)
theorem allE_snoc (v : Value) (xs : List (Vec 32)) (k : Vec 32) : allE v (xs ++ [k]) = allE v xs ++ [(k, v, xs.length)] := by
  unfold allE
  rw [List.zipIdx_append, List.map_append]
  simp
theorem allE_len (v : Value) (xs : List (Vec 32)) : (allE v xs).length = xs.length := by simp [allE]
theorem allE_get (v : Value) {xs : List (Vec 32)} {k : Vec 32} : getE k (allE v xs) = if k ∈ xs then some v else none := by
  by_cases h : k ∈ xs
  · rw [if_pos h]
    unfold getE
    cases hf : (allE v xs).find? fun x => decide (k = x.1) with
    | none =>
      rw [List.find?_eq_none] at hf
      obtain ⟨i, hi, he⟩ := List.getElem_of_mem h
      have : (k, v, i) ∈ allE v xs := by
        refine List.mem_map.2 ⟨(k, i), ?_, rfl⟩
        rw [List.mem_zipIdx_iff_getElem?]
        simp [List.getElem?_eq_getElem hi, he]
      exact absurd (by simp) (hf _ this)
    | some x =>
      have hx := List.mem_of_find?_eq_some hf
      obtain ⟨y, hy, rfl⟩ := List.mem_map.1 hx
      rfl
  · rw [if_neg h]
    unfold getE
    rw [Option.map_eq_none_iff, List.find?_eq_none]
    intro x hx
    obtain ⟨y, hy, rfl⟩ := List.mem_map.1 hx
    have := List.mem_zipIdx' hy
    have hm : y.1 ∈ xs := by rw [this.2]; exact List.getElem_mem _
    simp only [decide_eq_true_eq]
    intro he
    exact h (he ▸ hm)
def sizeM (w : World) (g : Nat) : Nat := match w.heap[g]? with
  | some (.map es _) => es.size
  | _ => 0
section
variable {w0 w w' : World} {As : List Asn} {g : Nat} {bv vv : Value} {rb rv : Int} {ws : List Wt} {vs : List (Int × Int × Vec 32 × Vec 32)}
abbrev mpL (gm : Nat) (L : List (Vec 32)) : Asn := mp gm (allE (.bool true) L) L.length
theorem size_mpL {gm : Nat} {L : List (Vec 32)} (hs : Sep w0 w (mpL gm L :: As)) : sizeM w gm = L.length := by
  unfold sizeM
  rw [hs.map]
  simp [ents, allE_len]
theorem look_mpL {gm : Nat} {L : List (Vec 32)} (hs : Sep w0 w (mpL gm L :: As)) (k : Vec 32) (K : Value → Prop) : rdP P (Instr.lookup T_map_api_ID_bool (.map (some gm)) (kv k) false) w K = K (.bool (decide (k ∈ L))) := by
  rw [lookup_map1 U_map_api_ID_bool KTh (zBo w) hs.map k, allE_get]
  by_cases h : k ∈ L <;> simp [h]
theorem put_mpL {gm : Nat} {L : List (Vec 32)} {k : Vec 32} {K : World → Prop} (hs : Sep w0 w (mpL gm L :: As)) (hk : k ∉ L) (h : ∀ w', Sep w0 w' (mpL gm (L ++ [k]) :: As) → K w') : efU P (Instr.mapUpdate T_map_api_ID_bool (.map (some gm)) (kv k) (.bool true)) w K := by
  refine putNew_s U_map_api_ID_bool KTh hs (by rw [allE_get, if_neg hk]) fun w' hs' => h w' ?_
  unfold mpL
  rw [allE_snoc, List.length_append]
  exact hs'
theorem al_mapB (w : World) : (Instr.alloc T_map_api_ID_bool true (.tuple #[])).run P w = .ok (.pointer (some ⟨w.heap.size, 0, none⟩)) (w.alloc (.cells #[.map none] T_map_api_ID_bool)) := by kernel_rfl
theorem hLost_spec (hs : Sep w0 w (hdH g bv vv rb rv ws vs ++ As)) (hd : DatW ws As) (hn : ws.length ≤ 1000000) (hnv : vs.length ≤ 1000000) (k : Vec 32) :
    cal P f_hold_Hold_Lost [.pointer (some ⟨g, 0, none⟩), kv k] w fun r w' => ∃ ob ov bv' vv' L, r = .tuple #[ob, ov] ∧ LostIs ws k L ∧
      Sep w0 w' (hdH g bv' vv' rb rv (ws.filter fun x => !decide (x.2.1.p ∈ L)) (vs.filter fun x => !decide (x.2.2.1 ∈ L)) ++ (rows (rVec 32) ob ((ws.filter fun x => decide (x.2.1.p ∈ L)).map (·.1)) :: rows Q_api_HeldVote ov (vs.filter fun x => decide (x.2.2.1 ∈ L)) :: As)) := by
  refine s_hold_Hold_Lost fun R hR => ?_
  unfold c_hold_Hold_Lost
  refine bxQ hs fun g3 w1 hs1 => ?_
  refine cal_i (hnone_spec (hdH_rd hs1.tail hd)) ?_
  rintro _ _ ⟨rfl, rfl⟩
  simp only [nilc_some, fad_mk, pik_true, pik_false, cnd_true, cnd_false, gif_same, gif_tf, gif_ft, gif_undef, bi_add, bi_sub, bi_mul, bi_eql, bi_neq, bi_lss, bi_leq, bi_gtr, bi_geq, notB_bool, cvi_int, lenS_mk, lenT_mk, ext0, ext1, ext2, nilP_mk, nilS_mk, fldv_agg, jn0_k, jn1_k, jn2_k, jn1_and, jn1_or, ex_some, Option.isNone_some, Option.isNone_none, Bool.false_bne, Bool.bne_true, Bool.bne_false, Bool.true_bne, Bool.not_true, Bool.not_false, Bool.and_true, Bool.true_and, Bool.and_false, Bool.false_and, Bool.or_true, Bool.true_or, Bool.or_false, Bool.false_or, cond_true, cond_false, List.getElem?_toArray, List.getElem?_cons_zero, List.getElem?_cons_succ, Nat.zero_add, Nat.add_zero, Nat.reduceAdd, forall_const]
  refine makeMap_s (n := 32) hs1 fun gm w2 hs2 => ?_
  simp only [L_api_ID (Sep.blk hs2.p1)]
  refine put_mpL (L := []) hs2 (by simp) fun w3 hs3 => ?_
  refine alloc_s hs3 (al_mapB w3) fun g6 w4 hs4 => ?_
  refine st1_s hs4 (by simp) rfl fun w5 hs5 => ?_
  replace hs5 : Sep w0 w5 (mpL gm [k] :: blk g6 #[.map (some gm)] T_map_api_ID_bool :: blk g3 (Rdr.cells (rVec 32) k).toArray T_api_ID :: (hdH g bv vv rb rv ws vs ++ As)) := hs5.p1
  clear hs4 hs3 hs2 hs1
  refine ⟨fun y z => ∃ b n, y = .bool b ∧ LG ws (lostI ws k n) ∧ (b = false → lostP ws (lostI ws k n) = lostI ws k n) ∧ Sep w0 z (mpL gm (lostI ws k n) :: blk g6 #[.map (some gm)] T_map_api_ID_bool :: blk g3 (Rdr.cells (rVec 32) k).toArray T_api_ID :: (hdH g bv vv rb rv ws vs ++ As)), fun y z => match y with | .bool true => ws.length + 2 - sizeM z gm | _ => 0, ⟨true, 0, rfl, LG.one ws k, (fun h => by cases h), hs5⟩, ?_⟩
  clear hs5
  rintro _ w6 ⟨b, n, rfl, hLG, hfix, hs6⟩ -
  generalize hLL : lostI ws k n = L at *
  simp only [nilc_some, fad_mk, pik_true, pik_false, cnd_true, cnd_false, gif_same, gif_tf, gif_ft, gif_undef, bi_add, bi_sub, bi_mul, bi_eql, bi_neq, bi_lss, bi_leq, bi_gtr, bi_geq, notB_bool, cvi_int, lenS_mk, lenT_mk, ext0, ext1, ext2, nilP_mk, nilS_mk, fldv_agg, jn0_k, jn1_k, jn2_k, jn1_and, jn1_or, ex_some, Option.isNone_some, Option.isNone_none, Bool.false_bne, Bool.bne_true, Bool.bne_false, Bool.true_bne, Bool.not_true, Bool.not_false, Bool.and_true, Bool.true_and, Bool.and_false, Bool.false_and, Bool.or_true, Bool.true_or, Bool.or_false, Bool.false_or, cond_true, cond_false, List.getElem?_toArray, List.getElem?_cons_zero, List.getElem?_cons_succ, Nat.zero_add, Nat.add_zero, Nat.reduceAdd, forall_const]
  rw [cnd_bool]
  refine ⟨fun h => ?_, fun h => ?_⟩
  · subst h
    have hr6 := hdH_rd hs6.tail.tail.tail hd
    obtain ⟨T, fr, hc⟩ := hr6.cell
    simp only [nilc_some, fad_mk, pik_true, pik_false, cnd_true, cnd_false, gif_same, gif_tf, gif_ft, gif_undef, bi_add, bi_sub, bi_mul, bi_eql, bi_neq, bi_lss, bi_leq, bi_gtr, bi_geq, notB_bool, cvi_int, lenS_mk, lenT_mk, ext0, ext1, ext2, nilP_mk, nilS_mk, fldv_agg, jn0_k, jn1_k, jn2_k, jn1_and, jn1_or, ex_some, Option.isNone_some, Option.isNone_none, Bool.false_bne, Bool.bne_true, Bool.bne_false, Bool.true_bne, Bool.not_true, Bool.not_false, Bool.and_true, Bool.true_and, Bool.and_false, Bool.false_and, Bool.or_true, Bool.true_or, Bool.or_false, Bool.false_or, cond_true, cond_false, List.getElem?_toArray, List.getElem?_cons_zero, List.getElem?_cons_succ, Nat.zero_add, Nat.add_zero, Nat.reduceAdd, forall_const, L_hold_Hold hc, L_hold_Hold__made hc, L_hold_Hold__roomB hc, L_hold_Hold__roomV hc, L_hold_Hold__blocks hc, L_hold_Hold__votes hc, hr6.lenB]
    refine ⟨fun y z w' => ∃ (i : Nat) (b : Bool), z = .int .i64 i ∧ y = .bool b ∧ i ≤ ws.length ∧ LG ws ((ws.take i).foldl lostS L) ∧ (b = true → L.length < ((ws.take i).foldl lostS L).length) ∧ (b = false → (ws.take i).foldl lostS L = L) ∧ Sep w0 w' (mpL gm ((ws.take i).foldl lostS L) :: blk g6 #[.map (some gm)] T_map_api_ID_bool :: blk g3 (Rdr.cells (rVec 32) k).toArray T_api_ID :: (hdH g bv vv rb rv ws vs ++ As)), fun _ z _ => (ws.length - RowKit.intOf z).toNat, ⟨0, false, rfl, rfl, by omega, hLG, (fun h => by cases h), (fun _ => rfl), hs6⟩, ?_⟩
    rintro _ _ w7 ⟨i, b, rfl, rfl, hi, hLi, hbt, hbf, hs7⟩ -
    simp only [nilc_some, fad_mk, pik_true, pik_false, cnd_true, cnd_false, gif_same, gif_tf, gif_ft, gif_undef, bi_add, bi_sub, bi_mul, bi_eql, bi_neq, bi_lss, bi_leq, bi_gtr, bi_geq, notB_bool, cvi_int, lenS_mk, lenT_mk, ext0, ext1, ext2, nilP_mk, nilS_mk, fldv_agg, jn0_k, jn1_k, jn2_k, jn1_and, jn1_or, ex_some, Option.isNone_some, Option.isNone_none, Bool.false_bne, Bool.bne_true, Bool.bne_false, Bool.true_bne, Bool.not_true, Bool.not_false, Bool.and_true, Bool.true_and, Bool.and_false, Bool.false_and, Bool.or_true, Bool.true_or, Bool.or_false, Bool.false_or, cond_true, cond_false, List.getElem?_toArray, List.getElem?_cons_zero, List.getElem?_cons_succ, Nat.zero_add, Nat.add_zero, Nat.reduceAdd, forall_const]
    rw [cnd_bool]
    refine ⟨fun h => ?_, fun h => ?_⟩
    · have hlt : i < ws.length := by simp at h; omega
      obtain ⟨e, he⟩ : ∃ e, ws[i]? = some e := ⟨_, List.getElem?_eq_getElem hlt⟩
      have hem := List.mem_of_getElem? he
      have he' : (ws.map Wt.c)[i]? = some e.c := by rw [List.getElem?_map, he]; rfl
      have hr7 := hdH_rd hs7.tail.tail.tail hd
      have e1 : (ws.take (i + 1)).foldl lostS L = lostS ((ws.take i).foldl lostS L) e := by
        rw [List.take_add_one, he, List.foldl_append]
        rfl
      generalize hLi0 : (ws.take i).foldl lostS L = Li at *
      refine ⟨fun y w' => ∃ b, y = .bool b ∧ LG ws (lostS Li e) ∧ (b = true → L.length < (lostS Li e).length) ∧ (b = false → lostS Li e = L) ∧ Sep w0 w' (mpL gm (lostS Li e) :: blk g6 #[.map (some gm)] T_map_api_ID_bool :: blk g3 (Rdr.cells (rVec 32) k).toArray T_api_ID :: (hdH g bv vv rb rv ws vs ++ As)), ?_, ?_⟩
      · change ixs 66 _ _ _
        refine Rows'.ldN (q := Q_hold_waiting) (by decide) hr7.bw he' .i64 ?_
        refine alloc_s hs7 (A_hold_waiting w7) fun g9 w8 hs8 => ?_
        refine St_hold_waiting (b := e.c) hs8 (one_hold_waiting (hr7.dat e hem).one) fun w9 hs9 => ?_
        refine ld1_i (v := .map (some gm)) (Sep.blk (Sep.pick hs9 [2] 3)) rfl ?_
        simp only [nilc_some, fad_mk, pik_true, pik_false, cnd_true, cnd_false, gif_same, gif_tf, gif_ft, gif_undef, bi_add, bi_sub, bi_mul, bi_eql, bi_neq, bi_lss, bi_leq, bi_gtr, bi_geq, notB_bool, cvi_int, lenS_mk, lenT_mk, ext0, ext1, ext2, nilP_mk, nilS_mk, fldv_agg, jn0_k, jn1_k, jn2_k, jn1_and, jn1_or, ex_some, Option.isNone_some, Option.isNone_none, Bool.false_bne, Bool.bne_true, Bool.bne_false, Bool.true_bne, Bool.not_true, Bool.not_false, Bool.and_true, Bool.true_and, Bool.and_false, Bool.false_and, Bool.or_true, Bool.true_or, Bool.or_false, Bool.false_or, cond_true, cond_false, List.getElem?_toArray, List.getElem?_cons_zero, List.getElem?_cons_succ, Nat.zero_add, Nat.add_zero, Nat.reduceAdd, forall_const, L_hold_waiting (Sep.blk hs9), L_hold_waiting__id (Sep.blk hs9), L_hold_waiting__b (Sep.blk hs9), L_hold_waiting__b_Parent (Sep.blk hs9), L_hold_waiting__b_Height (Sep.blk hs9), L_hold_waiting__b_Data (Sep.blk hs9)]
        have hel : ∀ K, rdP P (Instr.lookup T_map_api_ID_bool (.map (some gm)) (kv e.2.1.p) false) w9 K = K (.bool (decide (e.2.1.p ∈ Li))) := look_mpL hs9.p1 e.2.1.p
        have hel2 : ∀ K, rdP P (Instr.lookup T_map_api_ID_bool (.map (some gm)) (kv e.1) false) w9 K = K (.bool (decide (e.1 ∈ Li))) := look_mpL hs9.p1 e.1
        change rdP P (Instr.lookup T_map_api_ID_bool (.map (some gm)) (kv e.2.1.p) false) w9 _
        rw [hel]
        have same : ∀ (z : World), ¬ (e.2.1.p ∈ Li ∧ e.1 ∉ Li) → Sep w0 z (mpL gm Li :: blk g6 #[.map (some gm)] T_map_api_ID_bool :: blk g3 (Rdr.cells (rVec 32) k).toArray T_api_ID :: (hdH g bv vv rb rv ws vs ++ As)) → ∃ b', Value.bool b = .bool b' ∧ LG ws (lostS Li e) ∧ (b' = true → L.length < (lostS Li e).length) ∧ (b' = false → lostS Li e = L) ∧ Sep w0 z (mpL gm (lostS Li e) :: blk g6 #[.map (some gm)] T_map_api_ID_bool :: blk g3 (Rdr.cells (rVec 32) k).toArray T_api_ID :: (hdH g bv vv rb rv ws vs ++ As)) := fun z hno hz => by
          have e2 : lostS Li e = Li := if_neg hno
          rw [e2]
          exact ⟨b, rfl, hLi, hbt, hbf, hz⟩
        by_cases hp : e.2.1.p ∈ Li
        · simp only [decide_eq_true hp, nilc_some, fad_mk, pik_true, pik_false, cnd_true, cnd_false, gif_same, gif_tf, gif_ft, gif_undef, bi_add, bi_sub, bi_mul, bi_eql, bi_neq, bi_lss, bi_leq, bi_gtr, bi_geq, notB_bool, cvi_int, lenS_mk, lenT_mk, ext0, ext1, ext2, nilP_mk, nilS_mk, fldv_agg, jn0_k, jn1_k, jn2_k, jn1_and, jn1_or, ex_some, Option.isNone_some, Option.isNone_none, Bool.false_bne, Bool.bne_true, Bool.bne_false, Bool.true_bne, Bool.not_true, Bool.not_false, Bool.and_true, Bool.true_and, Bool.and_false, Bool.false_and, Bool.or_true, Bool.true_or, Bool.or_false, Bool.false_or, cond_true, cond_false, List.getElem?_toArray, List.getElem?_cons_zero, List.getElem?_cons_succ, Nat.zero_add, Nat.add_zero, Nat.reduceAdd, forall_const]
          refine jn1_dup ?_
          refine ld1_i (v := .map (some gm)) (Sep.blk (Sep.pick hs9 [2] 3)) rfl ?_
          simp only [nilc_some, fad_mk, pik_true, pik_false, cnd_true, cnd_false, gif_same, gif_tf, gif_ft, gif_undef, bi_add, bi_sub, bi_mul, bi_eql, bi_neq, bi_lss, bi_leq, bi_gtr, bi_geq, notB_bool, cvi_int, lenS_mk, lenT_mk, ext0, ext1, ext2, nilP_mk, nilS_mk, fldv_agg, jn0_k, jn1_k, jn2_k, jn1_and, jn1_or, ex_some, Option.isNone_some, Option.isNone_none, Bool.false_bne, Bool.bne_true, Bool.bne_false, Bool.true_bne, Bool.not_true, Bool.not_false, Bool.and_true, Bool.true_and, Bool.and_false, Bool.false_and, Bool.or_true, Bool.true_or, Bool.or_false, Bool.false_or, cond_true, cond_false, List.getElem?_toArray, List.getElem?_cons_zero, List.getElem?_cons_succ, Nat.zero_add, Nat.add_zero, Nat.reduceAdd, forall_const, L_hold_waiting (Sep.blk hs9), L_hold_waiting__id (Sep.blk hs9), L_hold_waiting__b (Sep.blk hs9), L_hold_waiting__b_Parent (Sep.blk hs9), L_hold_waiting__b_Height (Sep.blk hs9), L_hold_waiting__b_Data (Sep.blk hs9)]
          change rdP P (Instr.lookup T_map_api_ID_bool (.map (some gm)) (kv e.1) false) w9 _
          rw [hel2]
          by_cases hq : e.1 ∈ Li
          · simp only [decide_eq_true hq, nilc_some, fad_mk, pik_true, pik_false, cnd_true, cnd_false, gif_same, gif_tf, gif_ft, gif_undef, bi_add, bi_sub, bi_mul, bi_eql, bi_neq, bi_lss, bi_leq, bi_gtr, bi_geq, notB_bool, cvi_int, lenS_mk, lenT_mk, ext0, ext1, ext2, nilP_mk, nilS_mk, fldv_agg, jn0_k, jn1_k, jn2_k, jn1_and, jn1_or, ex_some, Option.isNone_some, Option.isNone_none, Bool.false_bne, Bool.bne_true, Bool.bne_false, Bool.true_bne, Bool.not_true, Bool.not_false, Bool.and_true, Bool.true_and, Bool.and_false, Bool.false_and, Bool.or_true, Bool.true_or, Bool.or_false, Bool.false_or, cond_true, cond_false, List.getElem?_toArray, List.getElem?_cons_zero, List.getElem?_cons_succ, Nat.zero_add, Nat.add_zero, Nat.reduceAdd, forall_const]
            exact same w9 (fun h => h.2 hq) hs9.tail
          · simp only [decide_eq_false hq, nilc_some, fad_mk, pik_true, pik_false, cnd_true, cnd_false, gif_same, gif_tf, gif_ft, gif_undef, bi_add, bi_sub, bi_mul, bi_eql, bi_neq, bi_lss, bi_leq, bi_gtr, bi_geq, notB_bool, cvi_int, lenS_mk, lenT_mk, ext0, ext1, ext2, nilP_mk, nilS_mk, fldv_agg, jn0_k, jn1_k, jn2_k, jn1_and, jn1_or, ex_some, Option.isNone_some, Option.isNone_none, Bool.false_bne, Bool.bne_true, Bool.bne_false, Bool.true_bne, Bool.not_true, Bool.not_false, Bool.and_true, Bool.true_and, Bool.and_false, Bool.false_and, Bool.or_true, Bool.true_or, Bool.or_false, Bool.false_or, cond_true, cond_false, List.getElem?_toArray, List.getElem?_cons_zero, List.getElem?_cons_succ, Nat.zero_add, Nat.add_zero, Nat.reduceAdd, forall_const]
            refine ld1_i (v := .map (some gm)) (Sep.blk (Sep.pick hs9 [2] 3)) rfl ?_
            refine put_mpL (Sep.p1 hs9) hq fun w10 hs10 => ?_
            have e2 : lostS Li e = Li ++ [e.1] := if_pos ⟨hp, hq⟩
            have hll : L.length ≤ Li.length := by
              cases b with
              | true => exact Nat.le_of_lt (hbt rfl)
              | false => rw [hbf rfl]; exact Nat.le_refl _
            rw [e2]
            refine ⟨true, rfl, hLi.add hem hq, (fun _ => by simp; omega), (fun h => by cases h), Sep.pick hs10 [0] 2⟩
        · simp only [decide_eq_false hp, nilc_some, fad_mk, pik_true, pik_false, cnd_true, cnd_false, gif_same, gif_tf, gif_ft, gif_undef, bi_add, bi_sub, bi_mul, bi_eql, bi_neq, bi_lss, bi_leq, bi_gtr, bi_geq, notB_bool, cvi_int, lenS_mk, lenT_mk, ext0, ext1, ext2, nilP_mk, nilS_mk, fldv_agg, jn0_k, jn1_k, jn2_k, jn1_and, jn1_or, ex_some, Option.isNone_some, Option.isNone_none, Bool.false_bne, Bool.bne_true, Bool.bne_false, Bool.true_bne, Bool.not_true, Bool.not_false, Bool.and_true, Bool.true_and, Bool.and_false, Bool.false_and, Bool.or_true, Bool.true_or, Bool.or_false, Bool.false_or, cond_true, cond_false, List.getElem?_toArray, List.getElem?_cons_zero, List.getElem?_cons_succ, Nat.zero_add, Nat.add_zero, Nat.reduceAdd, forall_const]
          exact same w9 (fun h => hp h.1) hs9.tail
      · rintro _ w8 ⟨b', rfl, h1, h2, h3, h4⟩ _
        rw [wi64 (by omega) (by omega)]
        rw [← e1] at h1 h2 h3 h4
        exact ⟨⟨i + 1, b', by simp, rfl, by omega, h1, h2, h3, h4⟩, by simp [RowKit.intOf]; omega⟩
    · have hge : i = ws.length := by simp at h; omega
      have e1 : (ws.take i).foldl lostS L = lostI ws k (n + 1) := by
        rw [hge, List.take_of_length_le (Nat.le_refl _), ← hLL]
        rfl
      have hsz := size_mpL hs6
      have hsz7 := size_mpL hs7
      have e3 : lostP ws L = lostI ws k (n + 1) := by rw [← hLL]; rfl
      refine ⟨⟨b, n + 1, rfl, by rw [← e1]; exact hLi, fun hb => ?_, by rw [← e1]; exact hs7⟩, ?_⟩
      · rw [← e1, hbf hb]
        rw [e3, ← e1, hbf hb]
      · unfold LG at hLG hLi
        rw [hsz, hsz7]
        cases b with
        | false => show 0 < _; omega
        | true =>
          have := hbt rfl
          show ws.length + 2 - _ < _
          omega
  · subst h
    have hfix := hfix rfl
    obtain ⟨M, hM⟩ : ∃ M, M = (mpL gm L :: blk g6 #[.map (some gm)] T_map_api_ID_bool :: blk g3 (Rdr.cells (rVec 32) k).toArray T_api_ID :: As) := ⟨_, rfl⟩
    have hs6' : Sep w0 w6 (hdH g bv vv rb rv ws vs ++ M) := by rw [hM]; exact Sep.pick hs6 [3, 4, 5, 0, 1, 2] 6
    refine cal_i (hTakes_spec (f := f_hold_Hold_Lost_1) (cap := [.pointer (some ⟨g6, 0, none⟩)]) (so := fun x => decide (x ∈ L)) hs6' (hd.sub fun A hA => by rw [hM]; simp [hA]) hn hnv (by kernel_rfl) ?_) ?_
    · intro z Bs x hz
      rw [hM] at hz
      refine s_hold_Hold_Lost_1 fun R hR => ?_
      unfold c_hold_Hold_Lost_1
      refine bxQ (Sep.start z) fun g2 w2 hs2 => ?_
      have hz2 := hz.old hs2.fr0
      refine ld1_i (v := .map (some gm)) (Sep.blk (Sep.mid (Sep.mid hz2).tail)) rfl ?_
      simp only [L_api_ID (Sep.blk hs2)]
      rw [look_mpL (Sep.mid hz2)]
      exact hR _ _ ⟨rfl, hs2.fr0⟩
    rintro _ w7 ⟨wb, ov, bv', vv', rfl, hs7⟩
    obtain ⟨ws1, hws1⟩ : ∃ ws1, ws1 = ws.filter fun x => decide (x.2.1.p ∈ L) := ⟨_, rfl⟩
    rw [← hws1] at hs7
    have hn1 : ws1.length ≤ 1000000 := by rw [hws1]; exact Nat.le_trans (List.length_filter_le _ _) hn
    have hd1 : DatW ws1 As := fun x hx => hd x (by rw [hws1] at hx; exact (List.mem_filter.1 hx).1)
    rw [hM] at hs7
    replace hs7 : Sep w0 w7 (rows Q_hold_waiting wb (ws1.map Wt.c) :: (hdH g bv' vv' rb rv (ws.filter fun x => !decide (x.2.1.p ∈ L)) (vs.filter fun x => !decide (x.2.2.1 ∈ L)) ++ (rows Q_api_HeldVote ov (vs.filter fun x => decide (x.2.2.1 ∈ L)) :: As))) := Sep.pick hs7 [3, 0, 1, 2, 4] 8
    obtain ⟨Y, hY⟩ : ∃ Y, Y = (hdH g bv' vv' rb rv (ws.filter fun x => !decide (x.2.1.p ∈ L)) (vs.filter fun x => !decide (x.2.2.1 ∈ L)) ++ (rows Q_api_HeldVote ov (vs.filter fun x => decide (x.2.2.1 ∈ L)) :: As)) := ⟨_, rfl⟩
    rw [← hY] at hs7
    have hYA : ∀ A ∈ As, A ∈ Y := fun A hA => by rw [hY]; simp [hA]
    have fd : ∀ {z : World} {B1 B2 : Asn}, Sep w0 z (B1 :: B2 :: Y) → ∀ x ∈ ws1, RdB z.heap x.2.2 x.2.1.d := fun {z B1 B2} hz x hx => by
      obtain ⟨F, hF⟩ := hz.onL (A := ownB x.2.2 x.2.1.d) (List.mem_cons_of_mem _ (List.mem_cons_of_mem _ (hYA _ (hd1 x hx))))
      exact OwnB.rd hF
    have hlw : ∀ K, lenS wb K = K (.int .i64 ws1.length) := fun K => by
      have := (Sep.rows hs7).len K
      rwa [List.length_map] at this
    simp only [nilc_some, fad_mk, pik_true, pik_false, cnd_true, cnd_false, gif_same, gif_tf, gif_ft, gif_undef, bi_add, bi_sub, bi_mul, bi_eql, bi_neq, bi_lss, bi_leq, bi_gtr, bi_geq, notB_bool, cvi_int, lenS_mk, lenT_mk, ext0, ext1, ext2, nilP_mk, nilS_mk, fldv_agg, jn0_k, jn1_k, jn2_k, jn1_and, jn1_or, ex_some, Option.isNone_some, Option.isNone_none, Bool.false_bne, Bool.bne_true, Bool.bne_false, Bool.true_bne, Bool.not_true, Bool.not_false, Bool.and_true, Bool.true_and, Bool.and_false, Bool.false_and, Bool.or_true, Bool.true_or, Bool.or_false, Bool.false_or, cond_true, cond_false, List.getElem?_toArray, List.getElem?_cons_zero, List.getElem?_cons_succ, Nat.zero_add, Nat.add_zero, Nat.reduceAdd, forall_const, hlw]
    refine ⟨fun x y z => ∃ i : Nat, y = .int .i64 i ∧ i ≤ ws1.length ∧ Sep w0 z (rows (rVec 32) x ((ws1.take i).map (·.1)) :: rows Q_hold_waiting wb (ws1.map Wt.c) :: Y), fun _ y _ => (ws1.length - RowKit.intOf y).toNat, ⟨0, rfl, by omega, hs7.nilR⟩, ?_⟩
    rintro x _ w8 ⟨i, rfl, hi, hs8⟩ -
    simp only [nilc_some, fad_mk, pik_true, pik_false, cnd_true, cnd_false, gif_same, gif_tf, gif_ft, gif_undef, bi_add, bi_sub, bi_mul, bi_eql, bi_neq, bi_lss, bi_leq, bi_gtr, bi_geq, notB_bool, cvi_int, lenS_mk, lenT_mk, ext0, ext1, ext2, nilP_mk, nilS_mk, fldv_agg, jn0_k, jn1_k, jn2_k, jn1_and, jn1_or, ex_some, Option.isNone_some, Option.isNone_none, Bool.false_bne, Bool.bne_true, Bool.bne_false, Bool.true_bne, Bool.not_true, Bool.not_false, Bool.and_true, Bool.true_and, Bool.and_false, Bool.false_and, Bool.or_true, Bool.true_or, Bool.or_false, Bool.false_or, cond_true, cond_false, List.getElem?_toArray, List.getElem?_cons_zero, List.getElem?_cons_succ, Nat.zero_add, Nat.add_zero, Nat.reduceAdd, forall_const]
    rw [cnd_bool]
    refine ⟨fun h => ?_, fun h => ?_⟩
    · have hlt : i < ws1.length := by simp at h; omega
      obtain ⟨e, he⟩ : ∃ e, ws1[i]? = some e := ⟨_, List.getElem?_eq_getElem hlt⟩
      have hem := List.mem_of_getElem? he
      have he' : (ws1.map Wt.c)[i]? = some e.c := by rw [List.getElem?_map, he]; rfl
      change ixs 66 _ _ _
      refine Rows'.ldN (q := Q_hold_waiting) (by decide) (Sep.rows hs8.p1) he' .i64 ?_
      refine alloc_s hs8 (A_hold_waiting w8) fun g14 w9 hs9 => ?_
      refine St_hold_waiting (b := e.c) hs9 (one_hold_waiting (fd hs8 e hem).one) fun w10 hs10 => ?_
      simp only [nilc_some, fad_mk, pik_true, pik_false, cnd_true, cnd_false, gif_same, gif_tf, gif_ft, gif_undef, bi_add, bi_sub, bi_mul, bi_eql, bi_neq, bi_lss, bi_leq, bi_gtr, bi_geq, notB_bool, cvi_int, lenS_mk, lenT_mk, ext0, ext1, ext2, nilP_mk, nilS_mk, fldv_agg, jn0_k, jn1_k, jn2_k, jn1_and, jn1_or, ex_some, Option.isNone_some, Option.isNone_none, Bool.false_bne, Bool.bne_true, Bool.bne_false, Bool.true_bne, Bool.not_true, Bool.not_false, Bool.and_true, Bool.true_and, Bool.and_false, Bool.false_and, Bool.or_true, Bool.true_or, Bool.or_false, Bool.false_or, cond_true, cond_false, List.getElem?_toArray, List.getElem?_cons_zero, List.getElem?_cons_succ, Nat.zero_add, Nat.add_zero, Nat.reduceAdd, forall_const, L_hold_waiting (Sep.blk hs10), L_hold_waiting__id (Sep.blk hs10), L_hold_waiting__b (Sep.blk hs10), L_hold_waiting__b_Parent (Sep.blk hs10), L_hold_waiting__b_Height (Sep.blk hs10), L_hold_waiting__b_Data (Sep.blk hs10)]
      refine rows_lit hs10 S_sl_api_ID (l := [e.1]) (V := fun a => .agg (Rdr.cells (rVec 32) a).toArray) (fun a => rfl) rfl rfl (by decide) (by decide) fun g15 w11 hs11 => ?_
      refine rows_app S_sl_api_ID U_sl_api_ID (by simp) hs11.p2 (Sep.rows hs11) ?_ (by simp; omega) (by simp; omega) fun v8 w12 hs12 => ?_
      · simp only [List.flatMap_cons, List.flatMap_nil, List.append_nil]
        exact oneVec
      rw [wi64 (by omega) (by omega)]
      refine ⟨⟨i + 1, by simp, by omega, ?_⟩, by simp [RowKit.intOf]; omega⟩
      have e5 : (ws1.take (i + 1)).map (·.1) = (ws1.take i).map (·.1) ++ [e.1] := by
        rw [List.take_add_one, he, List.map_append]
        rfl
      rw [e5]
      exact Sep.pick hs12 [0, 3] 4
    · have hge : i = ws1.length := by simp at h; omega
      rw [hge, List.take_of_length_le (Nat.le_refl _), hY, hws1] at hs8
      exact hR _ _ ⟨x, ov, bv', vv', L, rfl, ⟨hfix, n, hLL.symm⟩, Sep.pick hs8 [2, 3, 4, 0, 5] 6⟩
end
end Go.Fx
set_option linter.unusedVariables false
set_option linter.unusedSimpArgs false
namespace Go.Fx
section
variable {w : World}
theorem votesEqual_spec {u v : Value} {a b : List (Int × Int × Vec 32 × Vec 32)} (ha : Rows' Q_api_HeldVote w.heap u a) (hb : Rows' Q_api_HeldVote w.heap v b) (hl : a.length ≤ 1000000) : cal P f_slices_Equal_api_HeldVote_api_HeldVote [u, v] w fun r w' => r = .bool (decide (a = b)) ∧ Fr [] w w' := by
  refine s_slices_Equal_api_HeldVote_api_HeldVote fun R hR => ?_
  unfold c_slices_Equal_api_HeldVote_api_HeldVote
  simp only [ha.len, hb.len, nilc_some, fad_mk, pik_true, pik_false, cnd_true, cnd_false, gif_same, gif_tf, gif_ft, gif_undef, bi_add, bi_sub, bi_mul, bi_eql, bi_neq, bi_lss, bi_leq, bi_gtr, bi_geq, notB_bool, cvi_int, lenS_mk, lenT_mk, ext0, ext1, ext2, nilP_mk, nilS_mk, fldv_agg, jn0_k, jn1_k, jn2_k, jn1_and, jn1_or, ex_some, Option.isNone_some, Option.isNone_none, Bool.false_bne, Bool.bne_true, Bool.bne_false, Bool.true_bne, Bool.not_true, Bool.not_false, Bool.and_true, Bool.true_and, Bool.and_false, Bool.false_and, Bool.or_true, Bool.true_or, Bool.or_false, Bool.false_or, cond_true, cond_false, List.getElem?_toArray, List.getElem?_cons_zero, List.getElem?_cons_succ, Nat.zero_add, Nat.add_zero, Nat.reduceAdd, forall_const]
  rw [cnd_bool]
  refine ⟨fun h => ?_, fun h => ?_⟩
  · have h : a.length ≠ b.length := by simp at h; omega
    exact hR _ _ ⟨by rw [decide_eq_false (fun he => h (by rw [he]))], Fr.refl _ _⟩
  have hab : a.length = b.length := by simp at h; omega
  refine ⟨fun y z => ∃ i : Nat, y = .int .i64 i ∧ i ≤ a.length ∧ a.take i = b.take i ∧ Fr [] w z, fun y _ => (a.length - RowKit.intOf y).toNat, ⟨0, rfl, by omega, by simp, Fr.refl _ _⟩, ?_⟩
  rintro _ w1 ⟨i, rfl, hi, ht, hf⟩ -
  simp only [nilc_some, fad_mk, pik_true, pik_false, cnd_true, cnd_false, gif_same, gif_tf, gif_ft, gif_undef, bi_add, bi_sub, bi_mul, bi_eql, bi_neq, bi_lss, bi_leq, bi_gtr, bi_geq, notB_bool, cvi_int, lenS_mk, lenT_mk, ext0, ext1, ext2, nilP_mk, nilS_mk, fldv_agg, jn0_k, jn1_k, jn2_k, jn1_and, jn1_or, ex_some, Option.isNone_some, Option.isNone_none, Bool.false_bne, Bool.bne_true, Bool.bne_false, Bool.true_bne, Bool.not_true, Bool.not_false, Bool.and_true, Bool.true_and, Bool.and_false, Bool.false_and, Bool.or_true, Bool.true_or, Bool.or_false, Bool.false_or, cond_true, cond_false, List.getElem?_toArray, List.getElem?_cons_zero, List.getElem?_cons_succ, Nat.zero_add, Nat.add_zero, Nat.reduceAdd, forall_const]
  rw [cnd_bool]
  refine ⟨fun h => ?_, fun h => ?_⟩
  · have hlt : i < a.length := by simp at h; omega
    obtain ⟨x, hx⟩ : ∃ x, a[i]? = some x := ⟨_, List.getElem?_eq_getElem hlt⟩
    obtain ⟨y, hy⟩ : ∃ y, b[i]? = some y := ⟨_, List.getElem?_eq_getElem (by omega)⟩
    refine drw_s ((Sep.start w).old hf) fun w2 hs2 _ => ?_
    change ixs 66 _ _ _
    refine Rows'.ldN (q := Q_api_HeldVote) (by decide) (ha.fr hs2.fr0) hx .i64 ?_
    change ixs 66 _ _ _
    refine Rows'.ldN (q := Q_api_HeldVote) (by decide) (hb.fr hs2.fr0) hy .i64 ?_
    rw [ne_api_HeldVote, cnd_bool]
    refine ⟨fun h => ?_, fun h => ?_⟩
    · have h : ¬ x = y := by simpa using h
      refine hR _ _ ⟨?_, hs2.fr0⟩
      rw [decide_eq_false fun he => h (by rw [he, hy] at hx; simpa using hx.symm)]
    · have h : x = y := by simpa using h
      rw [wi64 (by omega) (by omega)]
      exact ⟨⟨i + 1, by simp, by omega, by rw [List.take_add_one, List.take_add_one, ht, hx, hy, h], hs2.fr0⟩, by simp [RowKit.intOf]; omega⟩
  · have hge : i = a.length := by simp at h; omega
    rw [hge, List.take_of_length_le (Nat.le_refl _), List.take_of_length_le (by omega)] at ht
    exact hR _ _ ⟨by rw [decide_eq_true ht], hf⟩
end
/-- A row, read in a region that draws (as in TrC, for other seats). -/
theorem rdS_rowH {α : Type} {q : Rdr α} {S : World → Prop} {w : World} {v : Value} {l : List α} {j : Nat} {a : α} {K : Value → Prop} (hp : 0 < q.size)
    (hw : S w) (hS : ∀ u, S u → Rows' q u.heap v l) (hj : l[j]? = some a) (k : IntKind) (h : K (.agg (q.cells a).toArray)) : ixs q.size v (.int k (j : Int)) fun t => rdS S (fun w => ldN q.size t w.heap) K := by
  obtain ⟨g, o, c, rfl⟩ := (hS w hw).form hp hj
  have hlt := (List.getElem?_eq_some_iff.1 hj).1
  rw [ixs_mk _ _ _ _ _ _ _ _ (by omega) (by omega), Int.toNat_natCast]
  refine ⟨.agg (q.cells a).toArray, fun z hz => ?_, h⟩
  have hat := At.of hp (hS z hz) hj
  exact (At.ldN hat (q.len a) _).mpr rfl
theorem sha_oneH (l : List UInt8) (h : l.length ≤ 55) : shaL l = mixM firstL (padT l l.length) := by
  have hl : (padT l l.length).length = 64 := by
    unfold padT
    simp only [List.length_append, List.length_replicate, List.length_singleton, be_length]
    unfold zer
    omega
  unfold shaL
  rw [foldM_step (by omega), foldM_end (by simp; omega), List.take_of_length_le (by omega)]
def hvG : Blk := Blk.first []
def hidG : Vec 32 := ⟨[135, 143, 50, 247, 107, 21, 148, 148, 245, 163, 159, 147, 33, 97, 108, 96, 104, 205, 184, 46, 136, 223, 137, 188, 199, 57, 187, 193, 234, 120, 225, 249], by decide⟩
def hvA : Blk := ⟨hidG, 1, [97]⟩
def hidA : Vec 32 := ⟨[62, 253, 43, 128, 233, 213, 25, 64, 19, 138, 112, 192, 69, 117, 141, 110, 224, 187, 73, 199, 3, 47, 27, 66, 188, 217, 192, 69, 156, 95, 161, 204], by decide⟩
def hvB : Blk := ⟨hidA, 2, [98]⟩
def hidB : Vec 32 := ⟨[14, 29, 244, 54, 134, 100, 220, 212, 83, 189, 125, 81, 230, 184, 242, 135, 211, 169, 170, 163, 239, 228, 185, 3, 98, 215, 115, 60, 241, 136, 174, 250], by decide⟩
set_option maxRecDepth 1000000 in
theorem hidG_eq : hvG.id = hidG := by
  apply Subtype.ext
  show (shaL hvG.bytes).flatMap wOut = _
  rw [sha_oneH _ (by decide +kernel)]
  decide +kernel
set_option maxRecDepth 1000000 in
theorem hidA_eq : hvA.id = hidA := by
  apply Subtype.ext
  show (shaL hvA.bytes).flatMap wOut = _
  rw [sha_oneH _ (by decide +kernel)]
  decide +kernel
set_option maxRecDepth 1000000 in
theorem hidB_eq : hvB.id = hidB := by
  apply Subtype.ext
  show (shaL hvB.bytes).flatMap wOut = _
  rw [sha_oneH _ (by decide +kernel)]
  decide +kernel
theorem hGA : hidG ≠ hidA := by decide +kernel
theorem hGB : hidG ≠ hidB := by decide +kernel
theorem hAB : hidA ≠ hidB := by decide +kernel
theorem hkA : hvG.child [97] = hvA := by
  unfold Blk.child
  rw [if_pos ⟨rfl, by decide, by decide⟩]
  show (⟨hvG.id, _, _⟩ : Blk) = _
  rw [hidG_eq]
  rfl
theorem hkB : hvA.child [98] = hvB := by
  unfold Blk.child
  rw [if_pos ⟨by decide +kernel, by decide, by decide⟩]
  show (⟨hvA.id, _, _⟩ : Blk) = _
  rw [hidA_eq]
  rfl
theorem heA : hvG.childE [97] = 0 := if_pos ⟨rfl, by decide, by decide⟩
theorem heB : hvA.childE [98] = 0 := if_pos ⟨by decide +kernel, by decide, by decide⟩
theorem hbB : blkE 9 [] hvB = 0 := by
  unfold blkE
  rw [if_neg (by decide +kernel), if_neg (by simp [noW]), if_neg (by decide)]
theorem hbA (v : Value) : blkE 9 [(hidB, hvB, v)] hvA = 0 := by
  unfold blkE
  rw [if_neg (by decide +kernel), hidA_eq, if_neg (by simp [noW, hAB.symm]), if_neg (by simp)]
abbrev hvW (v u : Value) : List Wt := [(hidB, hvB, v), (hidA, hvA, u)]
abbrev hvV : (Int × Int × Vec 32 × Vec 32) := (1, 0, hidB, vz 32)
theorem hvWanted (v u : Value) : wantedOf (hvW v u) [hvV] = [hidG] := by
  have e1 : hvB.p = hidA := rfl
  have e2 : hvA.p = hidG := rfl
  unfold wantedOf wantS
  simp [noW, e1, e2, hAB.symm, hGA.symm, hGB.symm, hAB, hGA, hGB]
theorem lpv0 (v u : Value) : lostP (hvW v u) [hidG] = [hidG, hidA] := by
  have e1 : hvB.p = hidA := rfl
  have e2 : hvA.p = hidG := rfl
  unfold lostP lostS
  simp [e1, e2, hGA.symm]
theorem lpv1 (v u : Value) : lostP (hvW v u) [hidG, hidA] = [hidG, hidA, hidB] := by
  have e1 : hvB.p = hidA := rfl
  have e2 : hvA.p = hidG := rfl
  unfold lostP lostS
  simp [e1, e2, hGA.symm, hGB.symm, hAB.symm]
theorem lpv2 (v u : Value) : lostP (hvW v u) [hidG, hidA, hidB] = [hidG, hidA, hidB] := by
  have e1 : hvB.p = hidA := rfl
  have e2 : hvA.p = hidG := rfl
  unfold lostP lostS
  simp [e1, e2]
theorem hvLost {v u : Value} {L : List (Vec 32)} (h : LostIs (hvW v u) hidG L) : L = [hidG, hidA, hidB] := by
  obtain ⟨hf, n, rfl⟩ := h
  have h2 : ∀ n, lostI (hvW v u) hidG (n + 2) = [hidG, hidA, hidB] := by
    intro n
    induction n with
    | zero => show lostP _ (lostP _ [hidG]) = _; rw [lpv0, lpv1]
    | succ n ih => show lostP _ (lostI _ _ (n + 2)) = _; rw [ih, lpv2]
  match n, hf with
  | 0, hf => change lostP _ [hidG] = [hidG] at hf; rw [lpv0] at hf; simp at hf
  | 1, hf => change lostP _ (lostP _ [hidG]) = lostP _ [hidG] at hf; rw [lpv0, lpv1] at hf; simp at hf
  | n + 2, _ => exact h2 n
theorem hvAll (v u : Value) : (hvW v u).filter (fun x => decide (x.2.1.p ∈ [hidG, hidA, hidB])) = hvW v u := by
  have e1 : hvB.p = hidA := rfl
  have e2 : hvA.p = hidG := rfl
  simp [e1, e2]
theorem hvAllV : ([hvV] : List (Int × Int × Vec 32 × Vec 32)).filter (fun x => decide (x.2.2.1 ∈ [hidG, hidA, hidB])) = [hvV] := by simp
theorem hvCame (v u : Value) : (hvW v u).filter (fun x => decide (x.2.1.p = hidG)) = [(hidA, hvA, u)] := by
  have e1 : hvB.p = hidA := rfl
  have e2 : hvA.p = hidG := rfl
  simp [e1, e2, hGA.symm]
end Go.Fx
