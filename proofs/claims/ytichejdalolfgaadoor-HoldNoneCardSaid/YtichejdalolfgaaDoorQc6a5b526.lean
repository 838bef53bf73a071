/-
  What is proved: for all arguments the law HoldNone returns true, and its arguments read as they did. Conditions: none.
-/
import Derived.Test.YtichejdalolfgaaDoorRows
import Derived.WalkKit
import Derived.ProofKit
import Derived.OpenShut
import Derived.ChangeOld
import Derived.Below
import Derived.Carry
import Derived.Test.YtichejdalolfgaaDoorCards
import Derived.Test.YtichejdalolfgaaDoorTie
import Derived.LaidMore
import Derived.Stop.Joined
import Derived.Test.YtichejdalolfgaaDoorQ6d5f9fa4
import Derived.Test.YtichejdalolfgaaDoorQd768562e
import Derived.Test.YtichejdalolfgaaDoorQ9f7b4e54
import Derived.Test.YtichejdalolfgaaDoorQd24245d5
import Derived.Test.YtichejdalolfgaaDoorQ648be8f6
set_option linter.unusedVariables false
set_option linter.unusedSimpArgs false
namespace Go.Fx
section
variable {w0 w : World} {As : List Asn}
theorem live23_spec (hC : Cub w) : cal P f_law23_live [] w fun r w' => r = .bool true ∧ Fr [] w w' := by
  refine s_law23_live fun R hR => ?_
  unfold c_law23_live
  have hb : ∀ (x : UInt8) (w : World), (Instr.buildSlice T_sl_uint8 1 #[(0, bv x)]).run P w = .ok (.slice (some ⟨w.heap.size, 0, none⟩) 1 1) (w.alloc (.cells (bvs [x]).toArray T_uint8)) := fun x w => by kernel_rfl
  refine cal_i (First_spec (rdNil w)) ?_
  have eG : (Blk.first []).mk' = hvG := rfl
  have cG : (Blk.first []).chk = 0 := rfl
  rw [eG, cG]
  rintro _ w1 ⟨v1, rfl, hs1⟩
  simp only [nilc_some, fad_mk, pik_true, pik_false, cnd_true, cnd_false, gif_same, gif_tf, gif_ft, gif_undef, bi_add, bi_sub, bi_mul, bi_eql, bi_neq, bi_lss, bi_leq, bi_gtr, bi_geq, notB_bool, cvi_int, lenS_mk, lenT_mk, ext0, ext1, ext2, nilP_mk, nilS_mk, fldv_agg, jn0_k, jn1_k, jn2_k, jn1_and, jn1_or, ex_some, Option.isNone_some, Option.isNone_none, Bool.false_bne, Bool.bne_true, Bool.bne_false, Bool.true_bne, Bool.not_true, Bool.not_false, Bool.and_true, Bool.true_and, Bool.and_false, Bool.false_and, Bool.or_true, Bool.true_or, Bool.or_false, Bool.false_or, cond_true, cond_false, List.getElem?_toArray, List.getElem?_cons_zero, List.getElem?_cons_succ, Nat.zero_add, Nat.add_zero, Nat.reduceAdd, forall_const]
  refine alloc_s hs1 (A_api_Block w1) fun g1 w2 hs2 => ?_
  refine St_api_Block hs2 (one_api_Block (Sep.one hs2.p1)) fun w3 hs3 => ?_
  simp only [L_api_Block hs3.blk, L_api_Block__Parent hs3.blk, L_api_Block__Height hs3.blk, L_api_Block__Data hs3.blk]
  refine lit_s (l := [97]) hs3 U_sl_uint8 U_uint8 rfl (hb 97 w3) fun g2 w4 hs4 => ?_
  refine cal_i (Child_spec (b := hvG) (d := [97]) (hC.fr hs4.fr0) (Sep.rd hs4.p2) (Sep.rda hs4) (by decide)) ?_
  rw [hkA, heA]
  rintro _ w5 ⟨v2, rfl, hs5⟩
  replace hs5 := hs4.join hs5
  simp only [nilc_some, fad_mk, pik_true, pik_false, cnd_true, cnd_false, gif_same, gif_tf, gif_ft, gif_undef, bi_add, bi_sub, bi_mul, bi_eql, bi_neq, bi_lss, bi_leq, bi_gtr, bi_geq, notB_bool, cvi_int, lenS_mk, lenT_mk, ext0, ext1, ext2, nilP_mk, nilS_mk, fldv_agg, jn0_k, jn1_k, jn2_k, jn1_and, jn1_or, ex_some, Option.isNone_some, Option.isNone_none, Bool.false_bne, Bool.bne_true, Bool.bne_false, Bool.true_bne, Bool.not_true, Bool.not_false, Bool.and_true, Bool.true_and, Bool.and_false, Bool.false_and, Bool.or_true, Bool.true_or, Bool.or_false, Bool.false_or, cond_true, cond_false, List.getElem?_toArray, List.getElem?_cons_zero, List.getElem?_cons_succ, Nat.zero_add, Nat.add_zero, Nat.reduceAdd, forall_const]
  refine alloc_s hs5 (A_api_Block w5) fun g3 w6 hs6 => ?_
  refine St_api_Block hs6 (one_api_Block (Sep.one hs6.p1)) fun w7 hs7 => ?_
  simp only [L_api_Block hs7.blk, L_api_Block__Parent hs7.blk, L_api_Block__Height hs7.blk, L_api_Block__Data hs7.blk]
  refine lit_s (l := [98]) hs7 U_sl_uint8 U_uint8 rfl (hb 98 w7) fun g4 w8 hs8 => ?_
  refine cal_i (Child_spec (b := hvA) (d := [98]) (hC.fr hs8.fr0) (Sep.rd hs8.p2) (Sep.rda hs8) (by decide)) ?_
  rw [hkB, heB]
  rintro _ w9 ⟨v3, rfl, hs9⟩
  replace hs9 := hs8.join hs9
  simp only [nilc_some, fad_mk, pik_true, pik_false, cnd_true, cnd_false, gif_same, gif_tf, gif_ft, gif_undef, bi_add, bi_sub, bi_mul, bi_eql, bi_neq, bi_lss, bi_leq, bi_gtr, bi_geq, notB_bool, cvi_int, lenS_mk, lenT_mk, ext0, ext1, ext2, nilP_mk, nilS_mk, fldv_agg, jn0_k, jn1_k, jn2_k, jn1_and, jn1_or, ex_some, Option.isNone_some, Option.isNone_none, Bool.false_bne, Bool.bne_true, Bool.bne_false, Bool.true_bne, Bool.not_true, Bool.not_false, Bool.and_true, Bool.true_and, Bool.and_false, Bool.false_and, Bool.or_true, Bool.true_or, Bool.or_false, Bool.false_or, cond_true, cond_false, List.getElem?_toArray, List.getElem?_cons_zero, List.getElem?_cons_succ, Nat.zero_add, Nat.add_zero, Nat.reduceAdd, forall_const]
  refine alloc_s hs9 (A_api_Block w9) fun g5 w10 hs10 => ?_
  refine St_api_Block hs10 (one_api_Block (Sep.one hs10.p1)) fun w11 hs11 => ?_
  refine cal_i (hNew_spec 9 9) ?_
  rintro _ w12 (⟨hno, _⟩ | ⟨_, g, rfl, hs12⟩)
  · exact absurd (by omega) hno
  replace hs12 := hs11.join hs12
  simp only [nilc_some, fad_mk, pik_true, pik_false, cnd_true, cnd_false, gif_same, gif_tf, gif_ft, gif_undef, bi_add, bi_sub, bi_mul, bi_eql, bi_neq, bi_lss, bi_leq, bi_gtr, bi_geq, notB_bool, cvi_int, lenS_mk, lenT_mk, ext0, ext1, ext2, nilP_mk, nilS_mk, fldv_agg, jn0_k, jn1_k, jn2_k, jn1_and, jn1_or, ex_some, Option.isNone_some, Option.isNone_none, Bool.false_bne, Bool.bne_true, Bool.bne_false, Bool.true_bne, Bool.not_true, Bool.not_false, Bool.and_true, Bool.true_and, Bool.and_false, Bool.false_and, Bool.or_true, Bool.true_or, Bool.or_false, Bool.false_or, cond_true, cond_false, List.getElem?_toArray, List.getElem?_cons_zero, List.getElem?_cons_succ, Nat.zero_add, Nat.add_zero, Nat.reduceAdd, forall_const, show ((0 : Int) != 0) = false from rfl, Option.isNone_some]
  replace hs12 : Sep w w12 (hdH g (.slice none 0 0) (.slice none 0 0) 9 9 [] [] ++ [blk g5 (Rdr.cells Q_api_Block (hvB.p, hvB.h, v3)).toArray T_api_Block, ownB v3 hvB.d, blk g3 (Rdr.cells Q_api_Block (hvA.p, hvA.h, v2)).toArray T_api_Block, ownB v2 hvA.d]) := Sep.pick hs12 [0, 1, 2, 3, 4, 6, 7] 11
  simp only [L_api_Block (Sep.blk hs12.p3), L_api_Block__Parent (Sep.blk hs12.p3), L_api_Block__Height (Sep.blk hs12.p3), L_api_Block__Data (Sep.blk hs12.p3)]
  refine cal_i (hBlock_spec (b := hvB) (v := v3) hs12 (DatW.nil _) (hC.fr hs12.fr0) (Sep.rd (Sep.pick hs12 [4] 5)) (by decide) (by simp) (by simp)) ?_
  rintro _ w13 ⟨rfl, ⟨hno, _⟩ | ⟨hE, bv1, vd1, hs13⟩⟩
  · exact absurd hbB hno
  have ei : blkId 9 [] hvB = hidB := by unfold blkId; rw [if_pos hbB, hidB_eq]
  rw [ei, hbB]
  rw [hidB_eq] at hs13
  clear ei hE
  simp only [nilc_some, fad_mk, pik_true, pik_false, cnd_true, cnd_false, gif_same, gif_tf, gif_ft, gif_undef, bi_add, bi_sub, bi_mul, bi_eql, bi_neq, bi_lss, bi_leq, bi_gtr, bi_geq, notB_bool, cvi_int, lenS_mk, lenT_mk, ext0, ext1, ext2, nilP_mk, nilS_mk, fldv_agg, jn0_k, jn1_k, jn2_k, jn1_and, jn1_or, ex_some, Option.isNone_some, Option.isNone_none, Bool.false_bne, Bool.bne_true, Bool.bne_false, Bool.true_bne, Bool.not_true, Bool.not_false, Bool.and_true, Bool.true_and, Bool.and_false, Bool.false_and, Bool.or_true, Bool.true_or, Bool.or_false, Bool.false_or, cond_true, cond_false, List.getElem?_toArray, List.getElem?_cons_zero, List.getElem?_cons_succ, Nat.zero_add, Nat.add_zero, Nat.reduceAdd, forall_const]
  refine alloc_s hs13 (A_api_ID w13) fun g9 w14 hs14 => ?_
  refine St_api_ID hs14 fun w15 hs15 => ?_
  simp only [L_api_Block (Sep.blk (Sep.pick hs15 [7] 8)), L_api_Block__Parent (Sep.blk (Sep.pick hs15 [7] 8)), L_api_Block__Height (Sep.blk (Sep.pick hs15 [7] 8)), L_api_Block__Data (Sep.blk (Sep.pick hs15 [7] 8))]
  replace hs15 : Sep w w15 (hdH g bv1 (.slice none 0 0) 9 9 [(hidB, hvB, vd1)] [] ++ [ownB vd1 hvB.d, blk g9 (Rdr.cells (rVec 32) hidB).toArray T_api_ID, blk g3 (Rdr.cells Q_api_Block (hvA.p, hvA.h, v2)).toArray T_api_Block, ownB v2 hvA.d]) := Sep.pick hs15 [1, 2, 3, 4, 0, 7, 8] 9
  have hD1 : DatW [(hidB, hvB, vd1)] [ownB vd1 hvB.d, blk g9 (Rdr.cells (rVec 32) hidB).toArray T_api_ID, blk g3 (Rdr.cells Q_api_Block (hvA.p, hvA.h, v2)).toArray T_api_Block, ownB v2 hvA.d] := fun x hx => by
    rw [List.mem_singleton.1 hx]
    exact List.mem_cons_self ..
  have hl1 : ∀ x ∈ [(hidB, hvB, vd1)], (x : Wt).2.1.d.length ≤ 200 := fun x hx => by
    rw [List.mem_singleton.1 hx]
    exact (by decide : (1 : Nat) ≤ 200)
  refine cal_i (hBlock_spec (b := hvA) (v := v2) hs15 hD1 (hC.fr hs15.fr0) (Sep.rd (Sep.pick hs15 [6] 7)) (by decide) (by simp) hl1) ?_
  rintro _ w16 ⟨rfl, ⟨hno, _⟩ | ⟨hE, bv2, vd2, hs16⟩⟩
  · exact absurd (hbA vd1) hno
  have ei : blkId 9 [(hidB, hvB, vd1)] hvA = hidA := by unfold blkId; rw [if_pos (hbA vd1), hidA_eq]
  rw [ei, hbA vd1]
  rw [hidA_eq] at hs16
  clear ei hE
  simp only [nilc_some, fad_mk, pik_true, pik_false, cnd_true, cnd_false, gif_same, gif_tf, gif_ft, gif_undef, bi_add, bi_sub, bi_mul, bi_eql, bi_neq, bi_lss, bi_leq, bi_gtr, bi_geq, notB_bool, cvi_int, lenS_mk, lenT_mk, ext0, ext1, ext2, nilP_mk, nilS_mk, fldv_agg, jn0_k, jn1_k, jn2_k, jn1_and, jn1_or, ex_some, Option.isNone_some, Option.isNone_none, Bool.false_bne, Bool.bne_true, Bool.bne_false, Bool.true_bne, Bool.not_true, Bool.not_false, Bool.and_true, Bool.true_and, Bool.and_false, Bool.false_and, Bool.or_true, Bool.true_or, Bool.or_false, Bool.false_or, cond_true, cond_false, List.getElem?_toArray, List.getElem?_cons_zero, List.getElem?_cons_succ, Nat.zero_add, Nat.add_zero, Nat.reduceAdd, forall_const]
  refine alloc_s hs16 (A_api_ID w16) fun g10 w17 hs17 => ?_
  refine St_api_ID hs17 fun w18 hs18 => ?_
  simp only [L_api_ID (Sep.blk (Sep.pick hs18 [6] 7)), B_api_HeldVote_0_2]
  refine alloc_s hs18 (A_api_HeldVote w18) fun g11 w19 hs19 => ?_
  refine St_api_HeldVote hs19 one_api_HeldVote fun w20 hs20 => ?_
  obtain ⟨M, hM⟩ : ∃ M, M = [blk g11 (Rdr.cells Q_api_HeldVote hvV).toArray T_api_HeldVote, blk g10 (Rdr.cells (rVec 32) hidA).toArray T_api_ID, blk g9 (Rdr.cells (rVec 32) hidB).toArray T_api_ID, blk g3 (Rdr.cells Q_api_Block (hvA.p, hvA.h, v2)).toArray T_api_Block, ownB v2 hvA.d, ownB vd2 hvA.d, ownB vd1 hvB.d] := ⟨_, rfl⟩
  replace hs20 : Sep w w20 (hdH g bv2 (.slice none 0 0) 9 9 (hvW vd1 vd2) [] ++ M) := by rw [hM]; exact Sep.pick hs20 [2, 3, 4, 0, 1, 7, 8, 9, 5, 6] 10
  have hD : DatW (hvW vd1 vd2) M := fun x hx => by
    rw [hM]
    simp only [List.mem_cons, List.not_mem_nil, or_false] at hx
    rcases hx with rfl | rfl <;> simp
  have hl : ∀ x ∈ hvW vd1 vd2, x.2.1.d.length ≤ 200 := fun x hx => by
    simp only [List.mem_cons, List.not_mem_nil, or_false] at hx
    rcases hx with rfl | rfl <;> exact (by decide : (1 : Nat) ≤ 200)
  have m11 : ∀ {z : World}, Sep w z M → ∀ K, ldN 66 (.pointer (some ⟨g11, 0, none⟩)) z.heap K = K (hvv hvV) := fun {z} hz K => by rw [hM] at hz; exact L_api_HeldVote (Sep.blk hz) K
  have m3 : ∀ {z : World}, Sep w z M → ∀ K, ldN 32 (.pointer (some ⟨g3, 0, none⟩)) z.heap K = K (kv hidG) := fun {z} hz K => by rw [hM] at hz; exact L_api_Block__Parent (Sep.blk hz.p3) K
  have m3b : ∀ {z : World}, Sep w z M → ∀ K, ldN 34 (.pointer (some ⟨g3, 0, none⟩)) z.heap K = K (bq hvA v2) := fun {z} hz K => by rw [hM] at hz; exact L_api_Block (Sep.blk hz.p3) K
  have m9 : ∀ {z : World}, Sep w z M → ∀ K, ldN 32 (.pointer (some ⟨g9, 0, none⟩)) z.heap K = K (kv hidB) := fun {z} hz K => by rw [hM] at hz; exact L_api_ID (Sep.blk hz.p2) K
  have m10 : ∀ {z : World}, Sep w z M → ∀ K, ldN 32 (.pointer (some ⟨g10, 0, none⟩)) z.heap K = K (kv hidA) := fun {z} hz K => by rw [hM] at hz; exact L_api_ID (Sep.blk hz.p1) K
  have mv2 : ∀ {z : World}, Sep w z M → RdB z.heap v2 hvA.d := fun {z} hz => by rw [hM] at hz; exact Sep.rd (Sep.pick hz [4] 5)
  clear hM hs19 hs18 hs17 hs16 hs15 hs14 hs13 hs12
  refine drH_PH (S := fun u => Sep w u M) hs20 (fun u hu => hu.tail.tail.tail) fun w21 hs21 _ => ?_
  simp only [nilc_some, fad_mk, pik_true, pik_false, cnd_true, cnd_false, gif_same, gif_tf, gif_ft, gif_undef, bi_add, bi_sub, bi_mul, bi_eql, bi_neq, bi_lss, bi_leq, bi_gtr, bi_geq, notB_bool, cvi_int, lenS_mk, lenT_mk, ext0, ext1, ext2, nilP_mk, nilS_mk, fldv_agg, jn0_k, jn1_k, jn2_k, jn1_and, jn1_or, ex_some, Option.isNone_some, Option.isNone_none, Bool.false_bne, Bool.bne_true, Bool.bne_false, Bool.true_bne, Bool.not_true, Bool.not_false, Bool.and_true, Bool.true_and, Bool.and_false, Bool.false_and, Bool.or_true, Bool.true_or, Bool.or_false, Bool.false_or, cond_true, cond_false, List.getElem?_toArray, List.getElem?_cons_zero, List.getElem?_cons_succ, Nat.zero_add, Nat.add_zero, Nat.reduceAdd, forall_const, show ((0 : Int) != 0) = false from rfl]
  refine ⟨fun y z => y = .bool false ∧ ∃ vv', Sep w z (hdH g bv2 vv' 9 9 (hvW vd1 vd2) [hvV] ++ M), ?_, ?_⟩
  · refine jn1_dup ?_
    refine ⟨hvv hvV, fun u hu => (m11 hu _).mpr rfl, ?_⟩
    intro _
    refine jn1_dup ?_
    refine efS_i (cal_i (hVote_spec (v := hvV) hs21 hD (by simp)) ?_)
    have eV : votE 9 [] hvV = 0 := rfl
    rw [eV]
    rintro _ w22 ⟨rfl, ⟨hno, _⟩ | ⟨_, vv', hs22⟩⟩
    · exact absurd rfl hno
    refine ⟨hs22.tail.tail.tail, ?_⟩
    replace hs22 : Sep w w22 (hdH g bv2 vv' 9 9 (hvW vd1 vd2) [hvV] ++ M) := hs22
    simp only [nilc_some, fad_mk, pik_true, pik_false, cnd_true, cnd_false, gif_same, gif_tf, gif_ft, gif_undef, bi_add, bi_sub, bi_mul, bi_eql, bi_neq, bi_lss, bi_leq, bi_gtr, bi_geq, notB_bool, cvi_int, lenS_mk, lenT_mk, ext0, ext1, ext2, nilP_mk, nilS_mk, fldv_agg, jn0_k, jn1_k, jn2_k, jn1_and, jn1_or, ex_some, Option.isNone_some, Option.isNone_none, Bool.false_bne, Bool.bne_true, Bool.bne_false, Bool.true_bne, Bool.not_true, Bool.not_false, Bool.and_true, Bool.true_and, Bool.and_false, Bool.false_and, Bool.or_true, Bool.true_or, Bool.or_false, Bool.false_or, cond_true, cond_false, List.getElem?_toArray, List.getElem?_cons_zero, List.getElem?_cons_succ, Nat.zero_add, Nat.add_zero, Nat.reduceAdd, forall_const, show ((0 : Int) != 0) = false from rfl]
    refine jn1_dup ?_
    refine ⟨kv hidG, fun u hu => (m3 hu _).mpr rfl, ?_⟩
    intro _
    have hW : ∀ {z : World}, Sep w z (hdH g bv2 vv' 9 9 (hvW vd1 vd2) [hvV] ++ M) → ∀ K : Value → World → Prop, (∀ r z', Sep w z' (rows (rVec 32) r [hidG] :: (hdH g bv2 vv' 9 9 (hvW vd1 vd2) [hvV] ++ M)) → K r z') → cal P f_hold_Hold_Wanted [.pointer (some ⟨g, 0, none⟩)] z K := fun {z} hz K hK => by
      refine cal_i (hWanted_spec (hdH_rd hz hD) (by simp) (by simp) hl) ?_
      rintro r z' hz'
      rw [hvWanted] at hz'
      exact hK r z' (hz.join hz')
    have lit1 : ∀ {z : World} {As : List Asn}, Sep w z As → ∀ K : Value → World → Prop, (∀ r z', Sep w z' (rows (rVec 32) r [hidG] :: As) → K r z') → efP P (Instr.buildSlice T_sl_api_ID 1 #[(0, kv hidG)]) z K := fun {z As} hz K hK =>
      rows_lit hz S_sl_api_ID (l := [hidG]) (V := fun a => .agg (Rdr.cells (rVec 32) a).toArray) (fun a => rfl) rfl rfl (by decide) (by decide) fun g z' hz' => hK _ z' hz'
    refine ⟨?_, ?_, trivial⟩
    · refine jn1_dup ?_
      refine efS_i (hW hs22 _ fun r1 w23 hs23 => ?_)
      refine ⟨hs23.tail.tail.tail.tail, ?_⟩
      intro _
      refine jn1_dup ?_
      refine efS_i (lit1 hs23 _ fun r2 w24 hs24 => ?_)
      refine ⟨hs24.tail.tail.tail.tail.tail, ?_⟩
      intro _
      refine jn1_dup ?_
      refine efS_i (cal_i (idsEqual_spec (Sep.rows hs24.p1) (Sep.rows hs24) (by simp)) ?_)
      rintro _ w25 ⟨rfl, hf25⟩
      have hs25 := hs24.tail.tail.old hf25
      refine ⟨hs25.tail.tail.tail, ?_⟩
      simp only [nilc_some, fad_mk, pik_true, pik_false, cnd_true, cnd_false, gif_same, gif_tf, gif_ft, gif_undef, bi_add, bi_sub, bi_mul, bi_eql, bi_neq, bi_lss, bi_leq, bi_gtr, bi_geq, notB_bool, cvi_int, lenS_mk, lenT_mk, ext0, ext1, ext2, nilP_mk, nilS_mk, fldv_agg, jn0_k, jn1_k, jn2_k, jn1_and, jn1_or, ex_some, Option.isNone_some, Option.isNone_none, Bool.false_bne, Bool.bne_true, Bool.bne_false, Bool.true_bne, Bool.not_true, Bool.not_false, Bool.and_true, Bool.true_and, Bool.and_false, Bool.false_and, Bool.or_true, Bool.true_or, Bool.or_false, Bool.false_or, cond_true, cond_false, List.getElem?_toArray, List.getElem?_cons_zero, List.getElem?_cons_succ, Nat.zero_add, Nat.add_zero, Nat.reduceAdd, forall_const, decide_true]
      exact ⟨trivial, vv', hs25⟩
    · refine jn1_dup ?_
      refine efS_i (lit1 hs22 _ fun r2 w23 hs23 => ?_)
      refine ⟨hs23.tail.tail.tail.tail, ?_⟩
      intro _
      refine jn1_dup ?_
      refine efS_i (cal_i (hWanted_spec (hdH_rd hs23.tail hD) (by simp) (by simp) hl) ?_)
      rintro r1 w24 hs24
      rw [hvWanted] at hs24
      replace hs24 := hs23.join hs24
      refine ⟨hs24.tail.tail.tail.tail.tail, ?_⟩
      intro _
      refine jn1_dup ?_
      refine efS_i (cal_i (idsEqual_spec (Sep.rows hs24) (Sep.rows hs24.p1) (by simp)) ?_)
      rintro _ w25 ⟨rfl, hf25⟩
      have hs25 := hs24.tail.tail.old hf25
      refine ⟨hs25.tail.tail.tail, ?_⟩
      simp only [nilc_some, fad_mk, pik_true, pik_false, cnd_true, cnd_false, gif_same, gif_tf, gif_ft, gif_undef, bi_add, bi_sub, bi_mul, bi_eql, bi_neq, bi_lss, bi_leq, bi_gtr, bi_geq, notB_bool, cvi_int, lenS_mk, lenT_mk, ext0, ext1, ext2, nilP_mk, nilS_mk, fldv_agg, jn0_k, jn1_k, jn2_k, jn1_and, jn1_or, ex_some, Option.isNone_some, Option.isNone_none, Bool.false_bne, Bool.bne_true, Bool.bne_false, Bool.true_bne, Bool.not_true, Bool.not_false, Bool.and_true, Bool.true_and, Bool.and_false, Bool.false_and, Bool.or_true, Bool.true_or, Bool.or_false, Bool.false_or, cond_true, cond_false, List.getElem?_toArray, List.getElem?_cons_zero, List.getElem?_cons_succ, Nat.zero_add, Nat.add_zero, Nat.reduceAdd, forall_const, decide_true]
      exact ⟨trivial, vv', hs25⟩
  rintro _ w22 ⟨rfl, vv', hs22⟩ _
  simp only [nilc_some, fad_mk, pik_true, pik_false, cnd_true, cnd_false, gif_same, gif_tf, gif_ft, gif_undef, bi_add, bi_sub, bi_mul, bi_eql, bi_neq, bi_lss, bi_leq, bi_gtr, bi_geq, notB_bool, cvi_int, lenS_mk, lenT_mk, ext0, ext1, ext2, nilP_mk, nilS_mk, fldv_agg, jn0_k, jn1_k, jn2_k, jn1_and, jn1_or, ex_some, Option.isNone_some, Option.isNone_none, Bool.false_bne, Bool.bne_true, Bool.bne_false, Bool.true_bne, Bool.not_true, Bool.not_false, Bool.and_true, Bool.true_and, Bool.and_false, Bool.false_and, Bool.or_true, Bool.true_or, Bool.or_false, Bool.false_or, cond_true, cond_false, List.getElem?_toArray, List.getElem?_cons_zero, List.getElem?_cons_succ, Nat.zero_add, Nat.add_zero, Nat.reduceAdd, forall_const]
  refine cal_i (hClone_spec (hdH_rd hs22 hD) (by simp) (by simp)) ?_
  rintro _ w23 ⟨g', bv', vv2, rfl, hs23⟩
  replace hs23 := hs22.join hs23
  rw [m3 hs23.dropL.tail.tail.tail]
  obtain ⟨N, hN⟩ : ∃ N, N = M ++ hdH g' bv' vv2 9 9 (hvW vd1 vd2) [hvV] := ⟨_, rfl⟩
  replace hs23 : Sep w w23 (hdH g bv2 vv' 9 9 (hvW vd1 vd2) [hvV] ++ N) := by
    rw [hN, ← List.append_assoc]
    exact hs23.perm List.perm_append_comm
  have mN : ∀ {z : World}, Sep w z N → Sep w z M := fun {z} hz => by rw [hN] at hz; exact Sep.dropR hz
  refine cal_i (hLost_spec hs23 (hD.sub fun A hA => by rw [hN]; exact List.mem_append_left _ hA) (by simp) (by simp) hidG) ?_
  rintro _ w24 ⟨ob, ov, bv3, vv3, L, rfl, hL, hs24⟩
  obtain rfl := hvLost hL
  rw [hvAll, hvAllV] at hs24
  have hs24' : Sep w w24 (rows (rVec 32) ob [hidB, hidA] :: rows Q_api_HeldVote ov [hvV] :: N) := hs24.tail.tail.tail
  simp only [nilc_some, fad_mk, pik_true, pik_false, cnd_true, cnd_false, gif_same, gif_tf, gif_ft, gif_undef, bi_add, bi_sub, bi_mul, bi_eql, bi_neq, bi_lss, bi_leq, bi_gtr, bi_geq, notB_bool, cvi_int, lenS_mk, lenT_mk, ext0, ext1, ext2, nilP_mk, nilS_mk, fldv_agg, jn0_k, jn1_k, jn2_k, jn1_and, jn1_or, ex_some, Option.isNone_some, Option.isNone_none, Bool.false_bne, Bool.bne_true, Bool.bne_false, Bool.true_bne, Bool.not_true, Bool.not_false, Bool.and_true, Bool.true_and, Bool.and_false, Bool.false_and, Bool.or_true, Bool.true_or, Bool.or_false, Bool.false_or, cond_true, cond_false, List.getElem?_toArray, List.getElem?_cons_zero, List.getElem?_cons_succ, Nat.zero_add, Nat.add_zero, Nat.reduceAdd, forall_const, Option.isNone_some, m9 (mN hs24'.tail.tail), m10 (mN hs24'.tail.tail)]
  refine jn1_dup ?_
  refine rows_lit hs24' S_sl_api_ID (l := [hidB, hidA]) (V := fun a => .agg (Rdr.cells (rVec 32) a).toArray) (fun a => rfl) rfl rfl (by decide) (by decide) fun g26 w25 hs25 => ?_
  refine cal_i (idsEqual_spec (Sep.rows hs25.p1) (Sep.rows hs25) (by simp)) ?_
  rintro _ w26 ⟨rfl, hf26⟩
  have hs26 := hs25.tail.old hf26
  simp only [nilc_some, fad_mk, pik_true, pik_false, cnd_true, cnd_false, gif_same, gif_tf, gif_ft, gif_undef, bi_add, bi_sub, bi_mul, bi_eql, bi_neq, bi_lss, bi_leq, bi_gtr, bi_geq, notB_bool, cvi_int, lenS_mk, lenT_mk, ext0, ext1, ext2, nilP_mk, nilS_mk, fldv_agg, jn0_k, jn1_k, jn2_k, jn1_and, jn1_or, ex_some, Option.isNone_some, Option.isNone_none, Bool.false_bne, Bool.bne_true, Bool.bne_false, Bool.true_bne, Bool.not_true, Bool.not_false, Bool.and_true, Bool.true_and, Bool.and_false, Bool.false_and, Bool.or_true, Bool.true_or, Bool.or_false, Bool.false_or, cond_true, cond_false, List.getElem?_toArray, List.getElem?_cons_zero, List.getElem?_cons_succ, Nat.zero_add, Nat.add_zero, Nat.reduceAdd, forall_const, decide_true, m11 (mN hs26.tail.tail)]
  refine jn1_dup ?_
  refine rows_lit hs26 S_sl_api_HeldVote (l := [hvV]) (V := fun a => .agg (Rdr.cells Q_api_HeldVote a).toArray) (fun a => rfl) rfl rfl (by decide) (by decide) fun g27 w27 hs27 => ?_
  refine cal_i (votesEqual_spec (Sep.rows (Sep.pick hs27 [2] 3)) (Sep.rows hs27) (by simp)) ?_
  rintro _ w28 ⟨rfl, hf28⟩
  have hs28 := hs27.tail.tail.tail.old hf28
  simp only [nilc_some, fad_mk, pik_true, pik_false, cnd_true, cnd_false, gif_same, gif_tf, gif_ft, gif_undef, bi_add, bi_sub, bi_mul, bi_eql, bi_neq, bi_lss, bi_leq, bi_gtr, bi_geq, notB_bool, cvi_int, lenS_mk, lenT_mk, ext0, ext1, ext2, nilP_mk, nilS_mk, fldv_agg, jn0_k, jn1_k, jn2_k, jn1_and, jn1_or, ex_some, Option.isNone_some, Option.isNone_none, Bool.false_bne, Bool.bne_true, Bool.bne_false, Bool.true_bne, Bool.not_true, Bool.not_false, Bool.and_true, Bool.true_and, Bool.and_false, Bool.false_and, Bool.or_true, Bool.true_or, Bool.or_false, Bool.false_or, cond_true, cond_false, List.getElem?_toArray, List.getElem?_cons_zero, List.getElem?_cons_succ, Nat.zero_add, Nat.add_zero, Nat.reduceAdd, forall_const, decide_true, m3 (mN hs28)]
  replace hs28 : Sep w w28 (hdH g' bv' vv2 9 9 (hvW vd1 vd2) [hvV] ++ M) := by
    rw [hN] at hs28
    exact hs28.perm List.perm_append_comm
  refine cal_i (hCame_spec hs28 hD (by simp) (by simp) hl hidG) ?_
  rintro _ w29 ⟨ob2, ov2, bv4, vv4, os, E, rfl, hos, hDO, hs29⟩
  rw [hvCame] at hos
  obtain ⟨y, rfl⟩ : ∃ y, os = [(hvA, y)] := by
    match os, hos with
    | [(a, y)], hos =>
      obtain rfl : a = hvA := by simpa using hos
      exact ⟨y, rfl⟩
  have hE : ownB y hvA.d ∈ E := hDO (hvA, y) (by simp)
  replace hs29 : Sep w w29 (rows Q_api_Block ob2 [(hvA.p, hvA.h, y)] :: (E ++ M)) := Sep.pick hs29 [3] 5
  simp only [nilc_some, fad_mk, pik_true, pik_false, cnd_true, cnd_false, gif_same, gif_tf, gif_ft, gif_undef, bi_add, bi_sub, bi_mul, bi_eql, bi_neq, bi_lss, bi_leq, bi_gtr, bi_geq, notB_bool, cvi_int, lenS_mk, lenT_mk, ext0, ext1, ext2, nilP_mk, nilS_mk, fldv_agg, jn0_k, jn1_k, jn2_k, jn1_and, jn1_or, ex_some, Option.isNone_some, Option.isNone_none, Bool.false_bne, Bool.bne_true, Bool.bne_false, Bool.true_bne, Bool.not_true, Bool.not_false, Bool.and_true, Bool.true_and, Bool.and_false, Bool.false_and, Bool.or_true, Bool.true_or, Bool.or_false, Bool.false_or, cond_true, cond_false, List.getElem?_toArray, List.getElem?_cons_zero, List.getElem?_cons_succ, Nat.zero_add, Nat.add_zero, Nat.reduceAdd, forall_const]
  refine drH_S hs29 fun w30 hs30 _ => ?_
  have hlen : ∀ K, lenS ob2 K = K (.int .i64 ((1 : Nat) : Int)) := fun K => (Sep.rows hs30).len K
  simp only [hlen, nilc_some, fad_mk, pik_true, pik_false, cnd_true, cnd_false, gif_same, gif_tf, gif_ft, gif_undef, bi_add, bi_sub, bi_mul, bi_eql, bi_neq, bi_lss, bi_leq, bi_gtr, bi_geq, notB_bool, cvi_int, lenS_mk, lenT_mk, ext0, ext1, ext2, nilP_mk, nilS_mk, fldv_agg, jn0_k, jn1_k, jn2_k, jn1_and, jn1_or, ex_some, Option.isNone_some, Option.isNone_none, Bool.false_bne, Bool.bne_true, Bool.bne_false, Bool.true_bne, Bool.not_true, Bool.not_false, Bool.and_true, Bool.true_and, Bool.and_false, Bool.false_and, Bool.or_true, Bool.true_or, Bool.or_false, Bool.false_or, cond_true, cond_false, List.getElem?_toArray, List.getElem?_cons_zero, List.getElem?_cons_succ, Nat.zero_add, Nat.add_zero, Nat.reduceAdd, forall_const, show ((((1 : Nat) : Int)) == 1) = true from rfl]
  refine jn1_dup ?_
  change ixs 34 _ (.int .i64 ((0 : Nat) : Int)) _
  refine rdS_rowH (q := Q_api_Block) (by decide) hs30 (fun u hu => Sep.rows hu) (j := 0) (a := (hvA.p, hvA.h, y)) rfl .i64 ?_
  refine ⟨bq hvA v2, fun u hu => (m3b hu.tail.dropL _).mpr rfl, ?_⟩
  have hy : RdB w30.heap y hvA.d := by
    obtain ⟨F, hF⟩ := hs30.onL (A := ownB y hvA.d) (List.mem_cons_of_mem _ (List.mem_append_left _ hE))
    exact OwnB.rd hF
  refine efS_i (cal_i (rSame_spec (a := hvA) (b := hvA) hy (mv2 hs30.tail.dropL)) ?_)
  rintro _ w31 ⟨rfl, hf31⟩
  refine ⟨hs30.old hf31, ?_⟩
  simp only [nilc_some, fad_mk, pik_true, pik_false, cnd_true, cnd_false, gif_same, gif_tf, gif_ft, gif_undef, bi_add, bi_sub, bi_mul, bi_eql, bi_neq, bi_lss, bi_leq, bi_gtr, bi_geq, notB_bool, cvi_int, lenS_mk, lenT_mk, ext0, ext1, ext2, nilP_mk, nilS_mk, fldv_agg, jn0_k, jn1_k, jn2_k, jn1_and, jn1_or, ex_some, Option.isNone_some, Option.isNone_none, Bool.false_bne, Bool.bne_true, Bool.bne_false, Bool.true_bne, Bool.not_true, Bool.not_false, Bool.and_true, Bool.true_and, Bool.and_false, Bool.false_and, Bool.or_true, Bool.true_or, Bool.or_false, Bool.false_or, cond_true, cond_false, List.getElem?_toArray, List.getElem?_cons_zero, List.getElem?_cons_succ, Nat.zero_add, Nat.add_zero, Nat.reduceAdd, forall_const, decide_true]
  exact hR _ _ ⟨rfl, (hs30.old hf31).fr0⟩
end
end Go.Fx
set_option linter.unusedVariables false
set_option linter.unusedSimpArgs false
namespace Go.Fx
theorem Rows'.ldV {w : World} {v : Value} {l : List Value} {j : Nat} {a : Value} (hr : Rows' qv w.heap v l) (hj : l[j]? = some a) (k : IntKind) {K : Value → Prop} (h : K a) : ixs 1 v (.int k (j : Int)) fun t => Go.Fx.ld1 t w.heap K := by
  obtain ⟨g, o, c, rfl⟩ := hr.form (by decide) hj
  have hlt := (List.getElem?_eq_some_iff.1 hj).1
  rw [ixs_mk _ _ _ _ _ _ _ _ (by omega) (by omega), Int.toNat_natCast]
  have hat := At.of (q := qv) (by decide) hr hj
  exact (Fld.ld1A (r := qv) Fld.self hat K).mpr h
section
variable {w : World}
theorem wHoldNone {x : Vec 32 × Int × Sl UInt8} {v : (Int × Int × Vec 32 × Vec 32)} (hc : Cub w) (hx : Rdr.ok R_api_Block w.heap x) : cal P f_law23_HoldNone [.agg (Rdr.cells R_api_Block x).toArray, hvv v] w fun r w' => r = .bool true ∧ Fr [] w w' := by
  obtain ⟨b, hbb⟩ : ∃ a, a = ab x := ⟨_, rfl⟩
  have hb := ab_rd hx
  have hbh := ab_h hx
  have hbl := ab_len hx
  rw [← hbb] at hb hbh hbl
  have ea : Value.agg (Rdr.cells R_api_Block x).toArray = bq b x.2.2.v := by rw [hbb]; rfl
  rw [ea]
  generalize x.2.2.v = y at *
  clear ea hbb hx
  refine s_law23_HoldNone fun R hR => ?_
  unfold c_law23_HoldNone
  refine bxQ (Sep.start w) fun g2 w1 hs1 => ?_
  refine bxQ hs1 fun g3 w2 hs2 => ?_
  have lv : ∀ {z : World}, Fr [] w z → cal P f_law23_live [] z R := fun {z} hf => cal_i (live23_spec (hc.fr hf)) fun r w' hr => hR _ _ ⟨hr.1, hf.trans hr.2 (by simp) (by simp)⟩
  refine cal_i (live23_spec (hc.fr hs2.fr0)) ?_
  rintro _ w3 ⟨rfl, hf3⟩
  have hs3 := hs2.old hf3
  have l1 : ∀ K, lenS (b.p, b.h, y).2.2 K = K (.int .i64 b.d.length) := hb.len
  simp only [nilc_some, fad_mk, pik_true, pik_false, cnd_true, cnd_false, gif_same, gif_tf, gif_ft, gif_undef, bi_add, bi_sub, bi_mul, bi_eql, bi_neq, bi_lss, bi_leq, bi_gtr, bi_geq, notB_bool, cvi_int, lenS_mk, lenT_mk, ext0, ext1, ext2, nilP_mk, nilS_mk, fldv_agg, jn0_k, jn1_k, jn2_k, jn1_and, jn1_or, ex_some, Option.isNone_some, Option.isNone_none, Bool.false_bne, Bool.bne_true, Bool.bne_false, Bool.true_bne, Bool.not_true, Bool.not_false, Bool.and_true, Bool.true_and, Bool.and_false, Bool.false_and, Bool.or_true, Bool.true_or, Bool.or_false, Bool.false_or, cond_true, cond_false, List.getElem?_toArray, List.getElem?_cons_zero, List.getElem?_cons_succ, Nat.zero_add, Nat.add_zero, Nat.reduceAdd, forall_const, L_api_Block (Sep.p1 hs3).blk, L_api_Block__Parent (Sep.p1 hs3).blk, L_api_Block__Height (Sep.p1 hs3).blk, L_api_Block__Data (Sep.p1 hs3).blk, l1]
  rw [cnd_bool]
  refine ⟨fun h => lv hs3.fr0, fun h => ?_⟩
  clear h lv
  rw [B_hold_Hold]
  refine bxQ hs3 fun g25 w4 hs4 => ?_
  refine rows_lit (q := qv) hs4 S_sl_p_hold_Hold (l := [.pointer none, .pointer (some ⟨g25, 0, none⟩)]) (V := fun a => if a.oneCell' then a else .agg #[a]) (fun a => by
    by_cases h : a.oneCell' = true
    · rw [if_pos h]; cases a <;> simp_all [Value.cells, Value.oneCell', qv]
    · rw [if_neg h]; rfl) rfl rfl (by decide) (by decide) fun g26 w5 hs5 => ?_
  obtain ⟨L, hL⟩ : ∃ L, L = [rows qv (.slice (some ⟨g26, 0, none⟩) 2 2) [.pointer none, .pointer (some ⟨g25, 0, none⟩)], blk g25 (Rdr.cells Q_hold_Hold (false, (0 : Int), (0 : Int), .slice none 0 0, .slice none 0 0)).toArray T_hold_Hold, blk g3 (Rdr.cells Q_api_HeldVote v).toArray T_api_HeldVote, blk g2 (Rdr.cells Q_api_Block (b.p, b.h, y)).toArray T_api_Block] := ⟨_, rfl⟩
  replace hs5 : Sep w w5 L := by rw [hL]; exact hs5
  have hnt : ∀ {z : World}, Sep w z L → ∀ (i : Nat) a, ([.pointer none, .pointer (some ⟨g25, 0, none⟩)] : List Value)[i]? = some a → NH a z := fun {z} hz i a ha => by
    rw [hL] at hz
    match i, ha with
    | 0, ha => cases ha; exact NH.nil z
    | 1, ha => cases ha; exact NH.zero hz.p1
  have frw : ∀ {z : World}, Sep w z L → Rows' qv z.heap (.slice (some ⟨g26, 0, none⟩) 2 2) [.pointer none, .pointer (some ⟨g25, 0, none⟩)] := fun {z} hz => by
    rw [hL] at hz
    exact Sep.rows hz
  have f3 : ∀ {z : World}, Sep w z L → ∀ K, ldN 32 (.pointer (some ⟨g3, 2, none⟩)) z.heap K = K (kv v.2.2.1) := fun {z} hz K => by
    rw [hL] at hz
    exact L_api_HeldVote__Want (Sep.blk hz.p2) K
  have f3p : ∀ {z : World}, Sep w z L → ∀ K, Go.Fx.ld1 (.pointer (some ⟨g3, 0, none⟩)) z.heap K = K (.int .i64 v.1) := fun {z} hz K => by
    rw [hL] at hz
    exact L_api_HeldVote__Poll (Sep.blk hz.p2) K
  have f3v : ∀ {z : World}, Sep w z L → ∀ K, ldN 66 (.pointer (some ⟨g3, 0, none⟩)) z.heap K = K (hvv v) := fun {z} hz K => by
    rw [hL] at hz
    exact L_api_HeldVote (Sep.blk hz.p2) K
  have f2 : ∀ {z : World}, Sep w z L → ∀ K, ldN 34 (.pointer (some ⟨g2, 0, none⟩)) z.heap K = K (bq b y) := fun {z} hz K => by
    rw [hL] at hz
    exact L_api_Block (Sep.blk hz.p3) K
  clear hL hs4 hs3 hs2 hs1
  have hlen : ∀ K, lenS (.slice (some ⟨g26, 0, none⟩) 2 2) K = K (.int .i64 ((2 : Nat) : Int)) := fun K => (frw hs5).len K
  rw [hlen]
  refine ⟨fun y z => ∃ i : Nat, y = .int .i64 i ∧ i ≤ 2 ∧ Sep w z L, fun y _ => (2 - RowKit.intOf y).toNat, ⟨0, rfl, by omega, hs5⟩, ?_⟩
  rintro _ w6 ⟨i, rfl, hi, hs6⟩ -
  simp only [nilc_some, fad_mk, pik_true, pik_false, cnd_true, cnd_false, gif_same, gif_tf, gif_ft, gif_undef, bi_add, bi_sub, bi_mul, bi_eql, bi_neq, bi_lss, bi_leq, bi_gtr, bi_geq, notB_bool, cvi_int, lenS_mk, lenT_mk, ext0, ext1, ext2, nilP_mk, nilS_mk, fldv_agg, jn0_k, jn1_k, jn2_k, jn1_and, jn1_or, ex_some, Option.isNone_some, Option.isNone_none, Bool.false_bne, Bool.bne_true, Bool.bne_false, Bool.true_bne, Bool.not_true, Bool.not_false, Bool.and_true, Bool.true_and, Bool.and_false, Bool.false_and, Bool.or_true, Bool.true_or, Bool.or_false, Bool.false_or, cond_true, cond_false, List.getElem?_toArray, List.getElem?_cons_zero, List.getElem?_cons_succ, Nat.zero_add, Nat.add_zero, Nat.reduceAdd, forall_const]
  rw [cnd_bool]
  refine ⟨fun h => ?_, fun h => ?_⟩
  case refine_2 => exact hR _ _ ⟨rfl, hs6.fr0⟩
  have hlt : i < 2 := by simp at h; omega
  obtain ⟨p, hpi⟩ : ∃ p, ([.pointer none, .pointer (some ⟨g25, 0, none⟩)] : List Value)[i]? = some p := ⟨_, List.getElem?_eq_getElem hlt⟩
  change ixs 1 _ _ _
  refine Rows'.ldV (frw hs6) hpi .i64 ?_
  have hp := hnt hs6 i p hpi
  have NHp : ∀ {z : World}, Sep w z L → NH p z := fun hz => hnt hz i p hpi
  clear hpi
  rw [f2 hs6]
  refine cal_i (nhBlock hp b y) ?_
  rintro _ w7 ⟨rfl, hf7⟩
  have hs7 := hs6.old hf7
  simp only [nilc_some, fad_mk, pik_true, pik_false, cnd_true, cnd_false, gif_same, gif_tf, gif_ft, gif_undef, bi_add, bi_sub, bi_mul, bi_eql, bi_neq, bi_lss, bi_leq, bi_gtr, bi_geq, notB_bool, cvi_int, lenS_mk, lenT_mk, ext0, ext1, ext2, nilP_mk, nilS_mk, fldv_agg, jn0_k, jn1_k, jn2_k, jn1_and, jn1_or, ex_some, Option.isNone_some, Option.isNone_none, Bool.false_bne, Bool.bne_true, Bool.bne_false, Bool.true_bne, Bool.not_true, Bool.not_false, Bool.and_true, Bool.true_and, Bool.and_false, Bool.false_and, Bool.or_true, Bool.true_or, Bool.or_false, Bool.false_or, cond_true, cond_false, List.getElem?_toArray, List.getElem?_cons_zero, List.getElem?_cons_succ, Nat.zero_add, Nat.add_zero, Nat.reduceAdd, forall_const]
  refine alloc_s hs7 (A_api_ID w7) fun g7 w8 hs8 => ?_
  refine St_api_ID (b := vz 32) hs8 fun w9 hs9 => ?_
  rw [f3 hs9.tail]
  refine cal_i (nhGet (NHp hs9.tail) v.2.2.1) ?_
  rintro _ w10 ⟨rfl, hf10⟩
  have hs10 := hs9.old hf10
  simp only [nilc_some, fad_mk, pik_true, pik_false, cnd_true, cnd_false, gif_same, gif_tf, gif_ft, gif_undef, bi_add, bi_sub, bi_mul, bi_eql, bi_neq, bi_lss, bi_leq, bi_gtr, bi_geq, notB_bool, cvi_int, lenS_mk, lenT_mk, ext0, ext1, ext2, nilP_mk, nilS_mk, fldv_agg, jn0_k, jn1_k, jn2_k, jn1_and, jn1_or, ex_some, Option.isNone_some, Option.isNone_none, Bool.false_bne, Bool.bne_true, Bool.bne_false, Bool.true_bne, Bool.not_true, Bool.not_false, Bool.and_true, Bool.true_and, Bool.and_false, Bool.false_and, Bool.or_true, Bool.true_or, Bool.or_false, Bool.false_or, cond_true, cond_false, List.getElem?_toArray, List.getElem?_cons_zero, List.getElem?_cons_succ, Nat.zero_add, Nat.add_zero, Nat.reduceAdd, forall_const]
  refine alloc_s hs10 (A_api_Block w10) fun g9 w11 hs11 => ?_
  refine St_api_Block (b := (Blk.none.p, Blk.none.h, .slice none 0 0)) hs11 (one_api_Block rfl) fun w12 hs12 => ?_
  rw [f3 hs12.tail.tail]
  refine cal_i (nhCame (NHp hs12.tail.tail) v.2.2.1) ?_
  rintro _ w13 ⟨rfl, hf13⟩
  have hs13 := hs12.old hf13
  simp only [nilc_some, fad_mk, pik_true, pik_false, cnd_true, cnd_false, gif_same, gif_tf, gif_ft, gif_undef, bi_add, bi_sub, bi_mul, bi_eql, bi_neq, bi_lss, bi_leq, bi_gtr, bi_geq, notB_bool, cvi_int, lenS_mk, lenT_mk, ext0, ext1, ext2, nilP_mk, nilS_mk, fldv_agg, jn0_k, jn1_k, jn2_k, jn1_and, jn1_or, ex_some, Option.isNone_some, Option.isNone_none, Bool.false_bne, Bool.bne_true, Bool.bne_false, Bool.true_bne, Bool.not_true, Bool.not_false, Bool.and_true, Bool.true_and, Bool.and_false, Bool.false_and, Bool.or_true, Bool.true_or, Bool.or_false, Bool.false_or, cond_true, cond_false, List.getElem?_toArray, List.getElem?_cons_zero, List.getElem?_cons_succ, Nat.zero_add, Nat.add_zero, Nat.reduceAdd, forall_const]
  rw [f3 hs13.tail.tail]
  refine cal_i (nhLost (NHp hs13.tail.tail) v.2.2.1) ?_
  rintro _ w14 ⟨rfl, hf14⟩
  have hs14 := hs13.old hf14
  simp only [nilc_some, fad_mk, pik_true, pik_false, cnd_true, cnd_false, gif_same, gif_tf, gif_ft, gif_undef, bi_add, bi_sub, bi_mul, bi_eql, bi_neq, bi_lss, bi_leq, bi_gtr, bi_geq, notB_bool, cvi_int, lenS_mk, lenT_mk, ext0, ext1, ext2, nilP_mk, nilS_mk, fldv_agg, jn0_k, jn1_k, jn2_k, jn1_and, jn1_or, ex_some, Option.isNone_some, Option.isNone_none, Bool.false_bne, Bool.bne_true, Bool.bne_false, Bool.true_bne, Bool.not_true, Bool.not_false, Bool.and_true, Bool.true_and, Bool.and_false, Bool.false_and, Bool.or_true, Bool.true_or, Bool.or_false, Bool.false_or, cond_true, cond_false, List.getElem?_toArray, List.getElem?_cons_zero, List.getElem?_cons_succ, Nat.zero_add, Nat.add_zero, Nat.reduceAdd, forall_const]
  refine cal_i (nhLen (NHp hs14.tail.tail)) ?_
  rintro _ w15 ⟨rfl, hf15⟩
  have hs15 := hs14.old hf15
  simp only [nilc_some, fad_mk, pik_true, pik_false, cnd_true, cnd_false, gif_same, gif_tf, gif_ft, gif_undef, bi_add, bi_sub, bi_mul, bi_eql, bi_neq, bi_lss, bi_leq, bi_gtr, bi_geq, notB_bool, cvi_int, lenS_mk, lenT_mk, ext0, ext1, ext2, nilP_mk, nilS_mk, fldv_agg, jn0_k, jn1_k, jn2_k, jn1_and, jn1_or, ex_some, Option.isNone_some, Option.isNone_none, Bool.false_bne, Bool.bne_true, Bool.bne_false, Bool.true_bne, Bool.not_true, Bool.not_false, Bool.and_true, Bool.true_and, Bool.and_false, Bool.false_and, Bool.or_true, Bool.true_or, Bool.or_false, Bool.false_or, cond_true, cond_false, List.getElem?_toArray, List.getElem?_cons_zero, List.getElem?_cons_succ, Nat.zero_add, Nat.add_zero, Nat.reduceAdd, forall_const]
  refine drH_S hs15 fun w17 hs17 _ => ?_
  have k3 : ∀ {z : World}, Sep w z (blk g9 (Rdr.cells Q_api_Block (Blk.none.p, Blk.none.h, .slice none 0 0)).toArray T_api_Block :: blk g7 (Rdr.cells (rVec 32) (vz 32)).toArray T_api_ID :: L) → NH p z := fun hz => NHp hz.tail.tail
  refine ⟨kv (vz 32), fun u hu => (L_api_ID (Sep.blk hu.p1) _).mpr rfl, ?_⟩
  refine ⟨kv (vz 32), fun u hu => by rw [B_ID0], ?_⟩
  refine ⟨.bool false, fun u hu => by rw [ne_api_ID, decide_eq_true rfl]; rfl, ?_⟩
  simp only [nilc_some, fad_mk, pik_true, pik_false, cnd_true, cnd_false, gif_same, gif_tf, gif_ft, gif_undef, bi_add, bi_sub, bi_mul, bi_eql, bi_neq, bi_lss, bi_leq, bi_gtr, bi_geq, notB_bool, cvi_int, lenS_mk, lenT_mk, ext0, ext1, ext2, nilP_mk, nilS_mk, fldv_agg, jn0_k, jn1_k, jn2_k, jn1_and, jn1_or, ex_some, Option.isNone_some, Option.isNone_none, Bool.false_bne, Bool.bne_true, Bool.bne_false, Bool.true_bne, Bool.not_true, Bool.not_false, Bool.and_true, Bool.true_and, Bool.and_false, Bool.false_and, Bool.or_true, Bool.true_or, Bool.or_false, Bool.false_or, cond_true, cond_false, List.getElem?_toArray, List.getElem?_cons_zero, List.getElem?_cons_succ, Nat.zero_add, Nat.add_zero, Nat.reduceAdd, forall_const, show ((2 : Int) != 2) = false from rfl]
  refine jn1_dup ?_
  refine ⟨hvv v, fun u hu => (f3v hu.tail.tail _).mpr rfl, ?_⟩
  refine efS_i (cal_i (nhVote (k3 hs17) v) ?_)
  rintro _ w18 ⟨rfl, hf18⟩
  have hs18 := hs17.old hf18
  refine ⟨hs18, ?_⟩
  simp only [nilc_some, fad_mk, pik_true, pik_false, cnd_true, cnd_false, gif_same, gif_tf, gif_ft, gif_undef, bi_add, bi_sub, bi_mul, bi_eql, bi_neq, bi_lss, bi_leq, bi_gtr, bi_geq, notB_bool, cvi_int, lenS_mk, lenT_mk, ext0, ext1, ext2, nilP_mk, nilS_mk, fldv_agg, jn0_k, jn1_k, jn2_k, jn1_and, jn1_or, ex_some, Option.isNone_some, Option.isNone_none, Bool.false_bne, Bool.bne_true, Bool.bne_false, Bool.true_bne, Bool.not_true, Bool.not_false, Bool.and_true, Bool.true_and, Bool.and_false, Bool.false_and, Bool.or_true, Bool.true_or, Bool.or_false, Bool.false_or, cond_true, cond_false, List.getElem?_toArray, List.getElem?_cons_zero, List.getElem?_cons_succ, Nat.zero_add, Nat.add_zero, Nat.reduceAdd, forall_const, show ((2 : Int) != 2) = false from rfl]
  refine jn1_dup ?_
  refine ⟨bq Blk.none (.slice none 0 0), fun u hu => (L_api_Block (Sep.blk hu) _).mpr rfl, ?_⟩
  refine ⟨bq Blk.none (.slice none 0 0), fun u hu => by rw [B_api_Block]; rfl, ?_⟩
  refine efS_i (cal_i (rSame_spec (a := Blk.none) (b := Blk.none) (u := .slice none 0 0) (v := .slice none 0 0) (rdNil w18) (rdNil w18)) ?_)
  rintro _ w19 ⟨rfl, hf19⟩
  have hs19 := hs18.old hf19
  refine ⟨hs19, ?_⟩
  have l0 : ∀ K, lenS (.slice none 0 0) K = K (.int .i64 ((0 : Nat) : Int)) := fun K => (rdNil w).len K
  have e0 : IntKind.i64.wrap (((0 : Nat) : Int) + ((0 : Nat) : Int)) = 0 := rfl
  have e1 : IntKind.i64.wrap ((0 : Int) + ((0 : Nat) : Int)) = 0 := rfl
  have e2 : IntKind.i64.wrap ((0 : Int) + (0 : Int)) = 0 := rfl
  simp only [nilc_some, fad_mk, pik_true, pik_false, cnd_true, cnd_false, gif_same, gif_tf, gif_ft, gif_undef, bi_add, bi_sub, bi_mul, bi_eql, bi_neq, bi_lss, bi_leq, bi_gtr, bi_geq, notB_bool, cvi_int, lenS_mk, lenT_mk, ext0, ext1, ext2, nilP_mk, nilS_mk, fldv_agg, jn0_k, jn1_k, jn2_k, jn1_and, jn1_or, ex_some, Option.isNone_some, Option.isNone_none, Bool.false_bne, Bool.bne_true, Bool.bne_false, Bool.true_bne, Bool.not_true, Bool.not_false, Bool.and_true, Bool.true_and, Bool.and_false, Bool.false_and, Bool.or_true, Bool.true_or, Bool.or_false, Bool.false_or, cond_true, cond_false, List.getElem?_toArray, List.getElem?_cons_zero, List.getElem?_cons_succ, Nat.zero_add, Nat.add_zero, Nat.reduceAdd, forall_const, decide_true, show ((2 : Int) != 2) = false from rfl, l0, e0, e1, e2]
  refine jn1_dup ?_
  refine rdS_ld (v := .int .i64 v.1) (fun u hu K hk => (f3p hu.tail.tail K).mpr hk) ?_
  refine rdS_ld (v := .int .i64 v.1) (fun u hu K hk => (f3p hu.tail.tail K).mpr hk) ?_
  refine efS_i (cal_i (nhDrop (k3 hs19) v.1) ?_)
  rintro _ w20 ⟨rfl, hf20⟩
  have hs20 := hs19.old hf20
  refine ⟨hs20, ?_⟩
  simp only [nilc_some, fad_mk, pik_true, pik_false, cnd_true, cnd_false, gif_same, gif_tf, gif_ft, gif_undef, bi_add, bi_sub, bi_mul, bi_eql, bi_neq, bi_lss, bi_leq, bi_gtr, bi_geq, notB_bool, cvi_int, lenS_mk, lenT_mk, ext0, ext1, ext2, nilP_mk, nilS_mk, fldv_agg, jn0_k, jn1_k, jn2_k, jn1_and, jn1_or, ex_some, Option.isNone_some, Option.isNone_none, Bool.false_bne, Bool.bne_true, Bool.bne_false, Bool.true_bne, Bool.not_true, Bool.not_false, Bool.and_true, Bool.true_and, Bool.and_false, Bool.false_and, Bool.or_true, Bool.true_or, Bool.or_false, Bool.false_or, cond_true, cond_false, List.getElem?_toArray, List.getElem?_cons_zero, List.getElem?_cons_succ, Nat.zero_add, Nat.add_zero, Nat.reduceAdd, forall_const, e2]
  refine efS_i (cal_i (nhVotes (k3 hs20) v.1) ?_)
  rintro _ w21 ⟨rfl, hf21⟩
  have hs21 := hs20.old hf21
  refine ⟨hs21, ?_⟩
  simp only [nilc_some, fad_mk, pik_true, pik_false, cnd_true, cnd_false, gif_same, gif_tf, gif_ft, gif_undef, bi_add, bi_sub, bi_mul, bi_eql, bi_neq, bi_lss, bi_leq, bi_gtr, bi_geq, notB_bool, cvi_int, lenS_mk, lenT_mk, ext0, ext1, ext2, nilP_mk, nilS_mk, fldv_agg, jn0_k, jn1_k, jn2_k, jn1_and, jn1_or, ex_some, Option.isNone_some, Option.isNone_none, Bool.false_bne, Bool.bne_true, Bool.bne_false, Bool.true_bne, Bool.not_true, Bool.not_false, Bool.and_true, Bool.true_and, Bool.and_false, Bool.false_and, Bool.or_true, Bool.true_or, Bool.or_false, Bool.false_or, cond_true, cond_false, List.getElem?_toArray, List.getElem?_cons_zero, List.getElem?_cons_succ, Nat.zero_add, Nat.add_zero, Nat.reduceAdd, forall_const, e2]
  refine efS_i (cal_i (nhWanted (k3 hs21)) ?_)
  rintro _ w22 ⟨rfl, hf22⟩
  have hs22 := hs21.old hf22
  refine ⟨hs22, ?_⟩
  simp only [nilc_some, fad_mk, pik_true, pik_false, cnd_true, cnd_false, gif_same, gif_tf, gif_ft, gif_undef, bi_add, bi_sub, bi_mul, bi_eql, bi_neq, bi_lss, bi_leq, bi_gtr, bi_geq, notB_bool, cvi_int, lenS_mk, lenT_mk, ext0, ext1, ext2, nilP_mk, nilS_mk, fldv_agg, jn0_k, jn1_k, jn2_k, jn1_and, jn1_or, ex_some, Option.isNone_some, Option.isNone_none, Bool.false_bne, Bool.bne_true, Bool.bne_false, Bool.true_bne, Bool.not_true, Bool.not_false, Bool.and_true, Bool.true_and, Bool.and_false, Bool.false_and, Bool.or_true, Bool.true_or, Bool.or_false, Bool.false_or, cond_true, cond_false, List.getElem?_toArray, List.getElem?_cons_zero, List.getElem?_cons_succ, Nat.zero_add, Nat.add_zero, Nat.reduceAdd, forall_const, l0, e1, show ((0 : Int) != 0) = false from rfl]
  refine jn1_dup ?_
  refine ⟨kv v.2.2.1, fun u hu => (f3 hu.tail.tail _).mpr rfl, ?_⟩
  refine efS_i (cal_i (nhHas (k3 hs22) v.2.2.1) ?_)
  rintro _ w23 ⟨rfl, hf23⟩
  have hs23 := hs22.old hf23
  refine ⟨hs23, ?_⟩
  simp only [nilc_some, fad_mk, pik_true, pik_false, cnd_true, cnd_false, gif_same, gif_tf, gif_ft, gif_undef, bi_add, bi_sub, bi_mul, bi_eql, bi_neq, bi_lss, bi_leq, bi_gtr, bi_geq, notB_bool, cvi_int, lenS_mk, lenT_mk, ext0, ext1, ext2, nilP_mk, nilS_mk, fldv_agg, jn0_k, jn1_k, jn2_k, jn1_and, jn1_or, ex_some, Option.isNone_some, Option.isNone_none, Bool.false_bne, Bool.bne_true, Bool.bne_false, Bool.true_bne, Bool.not_true, Bool.not_false, Bool.and_true, Bool.true_and, Bool.and_false, Bool.false_and, Bool.or_true, Bool.true_or, Bool.or_false, Bool.false_or, cond_true, cond_false, List.getElem?_toArray, List.getElem?_cons_zero, List.getElem?_cons_succ, Nat.zero_add, Nat.add_zero, Nat.reduceAdd, forall_const]
  refine jn1_dup ?_
  refine ⟨kv v.2.2.1, fun u hu => (f3 hu.tail.tail _).mpr rfl, ?_⟩
  refine efS_i (cal_i (nhWants (k3 hs23) v.2.2.1) ?_)
  rintro _ w24 ⟨rfl, hf24⟩
  have hs24 := hs23.old hf24
  refine ⟨hs24, ?_⟩
  simp only [nilc_some, fad_mk, pik_true, pik_false, cnd_true, cnd_false, gif_same, gif_tf, gif_ft, gif_undef, bi_add, bi_sub, bi_mul, bi_eql, bi_neq, bi_lss, bi_leq, bi_gtr, bi_geq, notB_bool, cvi_int, lenS_mk, lenT_mk, ext0, ext1, ext2, nilP_mk, nilS_mk, fldv_agg, jn0_k, jn1_k, jn2_k, jn1_and, jn1_or, ex_some, Option.isNone_some, Option.isNone_none, Bool.false_bne, Bool.bne_true, Bool.bne_false, Bool.true_bne, Bool.not_true, Bool.not_false, Bool.and_true, Bool.true_and, Bool.and_false, Bool.false_and, Bool.or_true, Bool.true_or, Bool.or_false, Bool.false_or, cond_true, cond_false, List.getElem?_toArray, List.getElem?_cons_zero, List.getElem?_cons_succ, Nat.zero_add, Nat.add_zero, Nat.reduceAdd, forall_const]
  refine jn1_dup ?_
  refine efS_i (cal_i (nhClone (k3 hs24)) ?_)
  rintro _ w25 ⟨rfl, hf25⟩
  have hs25 := hs24.old hf25
  refine ⟨hs25, ?_⟩
  simp only [nilc_some, fad_mk, pik_true, pik_false, cnd_true, cnd_false, gif_same, gif_tf, gif_ft, gif_undef, bi_add, bi_sub, bi_mul, bi_eql, bi_neq, bi_lss, bi_leq, bi_gtr, bi_geq, notB_bool, cvi_int, lenS_mk, lenT_mk, ext0, ext1, ext2, nilP_mk, nilS_mk, fldv_agg, jn0_k, jn1_k, jn2_k, jn1_and, jn1_or, ex_some, Option.isNone_some, Option.isNone_none, Bool.false_bne, Bool.bne_true, Bool.bne_false, Bool.true_bne, Bool.not_true, Bool.not_false, Bool.and_true, Bool.true_and, Bool.and_false, Bool.false_and, Bool.or_true, Bool.true_or, Bool.or_false, Bool.false_or, cond_true, cond_false, List.getElem?_toArray, List.getElem?_cons_zero, List.getElem?_cons_succ, Nat.zero_add, Nat.add_zero, Nat.reduceAdd, forall_const, Option.isNone_none]
  rw [wi64 (by omega) (by omega)]
  exact ⟨⟨i + 1, by simp, by omega, hs25.tail.tail⟩, by simp [RowKit.intOf]; omega⟩
end
end Go.Fx
namespace Go.Fx
theorem okWide_arr {P : Program} {w : World} {r : Reach} {base n : Nat} {t e : TypeId} {v : Value} (ht : P.underlying t = some (.array n e)) (h : Value.okWide P w r base t v) : ∃ cs, v = .agg cs ∧ cs.size = P.cellsOf t := by
  simp only [Value.okWide, ht] at h
  obtain ⟨cs, h1, h2, _⟩ := h
  exact ⟨cs, h1, h2⟩
end Go.Fx
namespace Go.Proofs.YtichejdalolfgaaDoor
open Go.ChangeShapes Go.WideShapes Go.ChangeAt Go.RowKit
theorem own : ownKnob Tryd.prog.godebug = none := by kernel_rfl
theorem laidOut : laidOutB Tryd.prog = true := by kernel_rfl
end Go.Proofs.YtichejdalolfgaaDoor
namespace Go.Proofs.YtichejdalolfgaaDoor
open Go.ChangeShapes Go.WideShapes Go.ChangeAt Go.RowKit
abbrev laidL : List (String × DataW Unit) := [("flurry/sha.cubes", Rows.laid_flurry_sha_cubes)]
theorem gCubes : Tryd.prog.globalNamed "flurry/sha.cubes" = some 0 := by kernel_rfl
theorem tCubes : (Tryd.prog.globals[0]?).map (·.type) = some Go.Fx.T_a64_uint32 := by kernel_rfl
theorem door_met (os : Os) (args : Array Value) : laidMetH Tryd.prog laidL ((World.doorLaid Tryd.prog 400 os).forCall (fun _ _ => 0) ⟨#[], args, []⟩).memory :=
  laidMetH_of_parts3 (fuel := 8) (laidMet_of_run' 8 (by kernel_rfl) (by kernel_rfl)) (by kernel_rfl) (by kernel_rfl)
theorem cub_of_laid {W : World} (h : laidMetH Tryd.prog laidL W) : Go.Fx.Cub W := by
  rw [MakeChecks.laidMetH_plain _ _ _ (by kernel_rfl)] at h
  obtain ⟨ps, ⟨g0, t0, cs0, f0, p0, q0, hg0, ht0, hv0, hd0, _, _⟩, _, _⟩ := h
  obtain rfl := Option.some.inj (gCubes.symm.trans hg0)
  obtain rfl := Option.some.inj (tCubes.symm.trans ht0)
  have hcs : cs0.toList = Go.Fx.wvs Go.Fx.cubesL := by
    obtain ⟨xs, m1, _, hx1, hlen, hn3, hel⟩ := DataW.trod_array Go.Fx.U_a64_uint32 hd0
    have c1 : Tryd.prog.cellsOf Go.Fx.T_uint32 = 1 := by kernel_rfl
    have c64 : Tryd.prog.cellsOf Go.Fx.T_a64_uint32 = 64 := by kernel_rfl
    rw [c64] at hlen
    rw [c1] at hel
    have hd : (Rows.laid_flurry_sha_cubes : DataW Unit) = .agg (Go.Fx.cubesL.map fun x => .lit (.int .u32 x.toNat)) := by kernel_rfl
    rw [hd] at hx1
    simp only [Prod.mk.injEq, DataW.agg.injEq] at hx1
    apply List.ext_getElem?
    intro i
    by_cases hi : i < 64
    · have h1 := hel i hi
      have hx : xs[i]? = some (xs[i]'(by omega)) := List.getElem?_eq_getElem _
      rw [hx] at h1
      generalize xs[i]'(by omega) = y at *
      obtain ⟨k, e1, e2, _⟩ := DataW.trod_int Go.Fx.U_uint32 h1
      have h2 := congrArg (·[i]?) hx1.1
      simp only [List.getElem?_map, hx, e2, Option.map_some] at h2
      have h3 : cs0.toList[i]? = some (.int .u32 k) := by
        have : ((cs0.toList.drop (i * 1)).take 1)[0]? = some (.int .u32 k) := by rw [e1]; rfl
        rw [List.getElem?_take_of_lt (by omega), List.getElem?_drop, Nat.mul_one, Nat.add_zero] at this
        exact this
      rw [h3, Go.Fx.wvs, List.getElem?_map]
      cases hc : Go.Fx.cubesL[i]? with
      | none => rw [hc] at h2; cases h2
      | some z =>
        rw [hc] at h2
        simp only [Option.map_some, Option.some.injEq, DataW.lit.injEq, Lit.int.injEq, true_and] at h2
        rw [Option.map_some, ← h2]
        rfl
    · rw [List.getElem?_eq_none (by omega), List.getElem?_eq_none (by rw [Go.Fx.wvs, List.length_map]; show 64 ≤ i; omega)]
  have hv1 := hv0
  unfold World.var? at hv1
  rw [hg0] at hv1
  simp only [Option.bind_some] at hv1
  cases hh : W.heap[0]? with
  | none => rw [hh] at hv1; cases hv1
  | some o =>
    rw [hh] at hv1
    cases o with
    | cells cs t fr =>
      simp only [Option.some.injEq] at hv1
      subst hv1
      refine ⟨t, fr, ?_⟩
      rw [hh]
      have : cs = (Go.Fx.wvs Go.Fx.cubesL).toArray := by apply Array.ext'; simpa using hcs
      rw [this]
    | _ => cases hv1
end Go.Proofs.YtichejdalolfgaaDoor
set_option linter.unusedVariables false
set_option linter.unusedSimpArgs false
namespace Go.Proofs.YtichejdalolfgaaDoor
open Go.ChangeShapes Go.WideShapes Go.ChangeAt Go.RowKit
set_option maxRecDepth 100000 in
theorem liftedHoldNone (os : Os) (started : os.Started) (H : Type) (enc : TypeId × Value → H) :
    ReturnsInHanded {} Tryd.checked os 5 .any (fun w args => (Rows.holdNoneSpec.pre enc Tryd.prog Tryd.f5 [] false w args ∧ laidMetH Tryd.prog laidL w) ∧ sizedMet enc Tryd.prog Tryd.f5 (OpenSpec.ofChange Rows.holdNoneSpec) false w args) (Rows.holdNoneSpec.post enc Tryd.prog Tryd.f5 false true false false) := by
  refine returnsInHanded_of_change_and (C := Tryd.checked) (X := fun w _ => laidMetH Tryd.prog laidL w) (fun _ _ _ hh h => h.of_heap hh) own started (by kernel_rfl) Tryd.func5
    (ChangeSpec.witness_shaped (enc := enc) (C := Tryd.checked) (os := os) (X := fun w _ => laidMetH Tryd.prog laidL w) false (World.doorLaid Tryd.prog 400 os) #[((Value.agg ((List.replicate 32 (Value.int IntKind.u8 0) ++ [(Value.int IntKind.i64 0)] ++ [(Value.slice none 0 0)] : List Value).toArray))), ((Value.agg ((List.replicate 2 (Value.int IntKind.i64 0) ++ List.replicate 64 (Value.int IntKind.u8 0) : List Value).toArray)))] 8 rfl (World.shaped_of_RefB (by kernel_rfl) (by kernel_rfl)) (by kernel_rfl) (by kernel_rfl) (by kernel_rfl) (door_met os _)) ?_
  intro W base args ds gs before hval0 hW _ _ hL _
  have hcub : Go.Fx.Cub W := cub_of_laid hL
  have hval : ∀ (j : Nat) t v, Tryd.f5.params[j]? = some t → args[j]? = some v → Value.okWide Tryd.prog W .any base t v := hval0
  have hW' := hW
  obtain ⟨p, q, hA0, hV, rfl, hfz, hnd⟩ := hW
  have hA : DataW.TrodAll enc Tryd.prog W 0 (fun _ => true) true Tryd.f5.params.toList args.toList ds p := hA0
  rw [Tryd.params5] at hA hval
  obtain ⟨v0, vs0, d0, ds0, p0, q0, hargs, rfl, rfl, h0, r0⟩ := trodAll_cons hA
  obtain ⟨v1, vs1, d1, ds1, p1, q1, rfl, rfl, rfl, h1, r1⟩ := trodAll_cons r0
  obtain ⟨rfl, rfl, rfl⟩ := trodAll_nil r1
  obtain rfl : args = #[v0, v1] := by cases args; simp_all
  obtain ⟨rfl, rfl⟩ := trodVars_none hV
  obtain ⟨cs0, rfl, sz0⟩ := okWide_struct Tryd.underlying47 (hval 0 47 v0 rfl rfl)
  have k0 := h0
  have lt0 : ∀ x ∈ p0, x.block < W.heap.size := by obtain ⟨m, hm⟩ := k0; exact DataW.trod_lt m _ _ _ hm
  obtain ⟨f0, hf0⟩ := h0
  have hx0 := Go.Fx.O_api_Block hf0
  obtain ⟨x0, rfl, rd0⟩ := hx0
  obtain ⟨cs1, rfl, sz1⟩ := okWide_struct Tryd.underlying56 (hval 1 56 v1 rfl rfl)
  have k1 := h1
  have lt1 : ∀ x ∈ p1, x.block < W.heap.size := by obtain ⟨m, hm⟩ := k1; exact DataW.trod_lt m _ _ _ hm
  obtain ⟨f1, hf1⟩ := h1
  have hx1 := Go.Fx.O_api_HeldVote hf1
  obtain ⟨x1, rfl, rd1⟩ := hx1
  clear hA0 hval0
  have hcal := Go.Fx.wHoldNone (v := x1) hcub rd0
  refine Calls.mono hcal fun e W' ⟨v, he, hv, hf⟩ => ?_
  subst hv
  subst he
  have bel : Below W.heap.size W W' := hf.below (by simp)
  exact ⟨_, rfl, _, _, _, [], _, [], hW', trodAll_mk1 (shut_bool Tryd.underlying4 _), (trodAll_cons_mk (Below.trod laidOut (by kernel_rfl) (of_decide_eq_true (by kernel_rfl)) k0 bel lt0) (trodAll_cons_mk (Below.trod laidOut (by kernel_rfl) (of_decide_eq_true (by kernel_rfl)) k1 bel lt1) trodAll_mk0)), rfl, bel.frame _, fun h => by cases h⟩
theorem holdNone : Rows.HoldNoneSaid :=
  OpenClaim.holds_of_wide 5 Tryd.f5 rfl rfl rfl rfl rfl rfl rfl ⟨rfl, rfl, rfl, rfl, rfl⟩ rfl rfl rfl rfl rfl (by kernel_rfl) Tryd.func5 (by kernel_rfl)
    (of_decide_eq_true (by kernel_rfl)) (by unfold Func.isWrapper; first | (rw [if_pos (by decide +kernel)]; kernel_rfl) | (rw [if_neg (by decide +kernel)]; exact ⟨rfl, rfl⟩))
    (fun os started H enc _ => liftedHoldNone os started H enc)
theorem holdNoneCard : Rows.HoldNoneCardSaid :=
  Claim7.holds_tied_plain_at .later [] [.data] true (true, "bb238fd5b4f7cb1e6b6dd57b0eb082b2e1123fe4deb289f25cd84a372771b954") false
    holdNone (fun _ h => by cases h) (by kernel_rfl) (fun _ h => by cases h) holdNone_row_tie rfl ⟨rfl, rfl⟩ (by kernel_rfl) rfl
    (fun f fn hf hfn => by
      obtain rfl : f = 5 := Option.some.inj ((show Tryd.prog.funcNamed "flurry/flurrylaw23.HoldNone" = some 5 by kernel_rfl).symm.trans hf) |>.symm
      obtain rfl : fn = Tryd.f5 := (Option.some.inj (Tryd.func5.symm.trans hfn)).symm
      exact ⟨by kernel_rfl, fun j t ht => by
        rw [Tryd.params5] at ht
        have hm : t ∈ [47, 56] := by simpa using Array.mem_of_getElem? ht
        have hall : ([47, 56].all fun u => !Tryd.prog.wantsStandIn u) = true := by kernel_rfl
        exact (show Tryd.prog.wantsStandIn t = false by simpa using List.all_eq_true.1 hall t hm)⟩)
    (by kernel_rfl)
#print axioms holdNoneCard
end Go.Proofs.YtichejdalolfgaaDoor
