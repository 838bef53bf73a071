/-
  What is proved: for all arguments the law HoldOnce returns true, and its arguments read as they did. Conditions: none.
-/
import Derived.Test.YtichejdalolfgaaDoorRows
import Derived.WalkKit
import Derived.ProofKit
import Derived.OpenShut
import Derived.ChangeOld
import Derived.Below
import Derived.Carry
import Derived.Test.YtichejdalolfgaaDoorCards
import Derived.Test.YtichejdalolfgaaDoorTie
import Derived.LaidMore
import Derived.Stop.Joined
import Derived.Test.YtichejdalolfgaaDoorQ6d5f9fa4
import Derived.Test.YtichejdalolfgaaDoorQd768562e
import Derived.Test.YtichejdalolfgaaDoorQ9f7b4e54
import Derived.Test.YtichejdalolfgaaDoorQd24245d5
import Derived.Test.YtichejdalolfgaaDoorQ648be8f6
set_option linter.unusedVariables false
set_option linter.unusedSimpArgs false
namespace Go.Fx
section
variable {w0 w : World} {As : List Asn}
theorem live23_spec (hC : Cub w) : cal P f_law23_live [] w fun r w' => r = .bool true ∧ Fr [] w w' := by
  refine s_law23_live fun R hR => ?_
  unfold c_law23_live
  have hb : ∀ (x : UInt8) (w : World), (Instr.buildSlice T_sl_uint8 1 #[(0, bv x)]).run P w = .ok (.slice (some ⟨w.heap.size, 0, none⟩) 1 1) (w.alloc (.cells (bvs [x]).toArray T_uint8)) := fun x w => by kernel_rfl
  refine cal_i (First_spec (rdNil w)) ?_
  have eG : (Blk.first []).mk' = hvG := rfl
  have cG : (Blk.first []).chk = 0 := rfl
  rw [eG, cG]
  rintro _ w1 ⟨v1, rfl, hs1⟩
  simp only [nilc_some, fad_mk, pik_true, pik_false, cnd_true, cnd_false, gif_same, gif_tf, gif_ft, gif_undef, bi_add, bi_sub, bi_mul, bi_eql, bi_neq, bi_lss, bi_leq, bi_gtr, bi_geq, notB_bool, cvi_int, lenS_mk, lenT_mk, ext0, ext1, ext2, nilP_mk, nilS_mk, fldv_agg, jn0_k, jn1_k, jn2_k, jn1_and, jn1_or, ex_some, Option.isNone_some, Option.isNone_none, Bool.false_bne, Bool.bne_true, Bool.bne_false, Bool.true_bne, Bool.not_true, Bool.not_false, Bool.and_true, Bool.true_and, Bool.and_false, Bool.false_and, Bool.or_true, Bool.true_or, Bool.or_false, Bool.false_or, cond_true, cond_false, List.getElem?_toArray, List.getElem?_cons_zero, List.getElem?_cons_succ, Nat.zero_add, Nat.add_zero, Nat.reduceAdd, forall_const]
  refine alloc_s hs1 (A_api_Block w1) fun g1 w2 hs2 => ?_
  refine St_api_Block hs2 (one_api_Block (Sep.one hs2.p1)) fun w3 hs3 => ?_
  simp only [L_api_Block hs3.blk, L_api_Block__Parent hs3.blk, L_api_Block__Height hs3.blk, L_api_Block__Data hs3.blk]
  refine lit_s (l := [97]) hs3 U_sl_uint8 U_uint8 rfl (hb 97 w3) fun g2 w4 hs4 => ?_
  refine cal_i (Child_spec (b := hvG) (d := [97]) (hC.fr hs4.fr0) (Sep.rd hs4.p2) (Sep.rda hs4) (by decide)) ?_
  rw [hkA, heA]
  rintro _ w5 ⟨v2, rfl, hs5⟩
  replace hs5 := hs4.join hs5
  simp only [nilc_some, fad_mk, pik_true, pik_false, cnd_true, cnd_false, gif_same, gif_tf, gif_ft, gif_undef, bi_add, bi_sub, bi_mul, bi_eql, bi_neq, bi_lss, bi_leq, bi_gtr, bi_geq, notB_bool, cvi_int, lenS_mk, lenT_mk, ext0, ext1, ext2, nilP_mk, nilS_mk, fldv_agg, jn0_k, jn1_k, jn2_k, jn1_and, jn1_or, ex_some, Option.isNone_some, Option.isNone_none, Bool.false_bne, Bool.bne_true, Bool.bne_false, Bool.true_bne, Bool.not_true, Bool.not_false, Bool.and_true, Bool.true_and, Bool.and_false, Bool.false_and, Bool.or_true, Bool.true_or, Bool.or_false, Bool.false_or, cond_true, cond_false, List.getElem?_toArray, List.getElem?_cons_zero, List.getElem?_cons_succ, Nat.zero_add, Nat.add_zero, Nat.reduceAdd, forall_const]
  refine alloc_s hs5 (A_api_Block w5) fun g3 w6 hs6 => ?_
  refine St_api_Block hs6 (one_api_Block (Sep.one hs6.p1)) fun w7 hs7 => ?_
  simp only [L_api_Block hs7.blk, L_api_Block__Parent hs7.blk, L_api_Block__Height hs7.blk, L_api_Block__Data hs7.blk]
  refine lit_s (l := [98]) hs7 U_sl_uint8 U_uint8 rfl (hb 98 w7) fun g4 w8 hs8 => ?_
  refine cal_i (Child_spec (b := hvA) (d := [98]) (hC.fr hs8.fr0) (Sep.rd hs8.p2) (Sep.rda hs8) (by decide)) ?_
  rw [hkB, heB]
  rintro _ w9 ⟨v3, rfl, hs9⟩
  replace hs9 := hs8.join hs9
  simp only [nilc_some, fad_mk, pik_true, pik_false, cnd_true, cnd_false, gif_same, gif_tf, gif_ft, gif_undef, bi_add, bi_sub, bi_mul, bi_eql, bi_neq, bi_lss, bi_leq, bi_gtr, bi_geq, notB_bool, cvi_int, lenS_mk, lenT_mk, ext0, ext1, ext2, nilP_mk, nilS_mk, fldv_agg, jn0_k, jn1_k, jn2_k, jn1_and, jn1_or, ex_some, Option.isNone_some, Option.isNone_none, Bool.false_bne, Bool.bne_true, Bool.bne_false, Bool.true_bne, Bool.not_true, Bool.not_false, Bool.and_true, Bool.true_and, Bool.and_false, Bool.false_and, Bool.or_true, Bool.true_or, Bool.or_false, Bool.false_or, cond_true, cond_false, List.getElem?_toArray, List.getElem?_cons_zero, List.getElem?_cons_succ, Nat.zero_add, Nat.add_zero, Nat.reduceAdd, forall_const]
  refine alloc_s hs9 (A_api_Block w9) fun g5 w10 hs10 => ?_
  refine St_api_Block hs10 (one_api_Block (Sep.one hs10.p1)) fun w11 hs11 => ?_
  refine cal_i (hNew_spec 9 9) ?_
  rintro _ w12 (⟨hno, _⟩ | ⟨_, g, rfl, hs12⟩)
  · exact absurd (by omega) hno
  replace hs12 := hs11.join hs12
  simp only [nilc_some, fad_mk, pik_true, pik_false, cnd_true, cnd_false, gif_same, gif_tf, gif_ft, gif_undef, bi_add, bi_sub, bi_mul, bi_eql, bi_neq, bi_lss, bi_leq, bi_gtr, bi_geq, notB_bool, cvi_int, lenS_mk, lenT_mk, ext0, ext1, ext2, nilP_mk, nilS_mk, fldv_agg, jn0_k, jn1_k, jn2_k, jn1_and, jn1_or, ex_some, Option.isNone_some, Option.isNone_none, Bool.false_bne, Bool.bne_true, Bool.bne_false, Bool.true_bne, Bool.not_true, Bool.not_false, Bool.and_true, Bool.true_and, Bool.and_false, Bool.false_and, Bool.or_true, Bool.true_or, Bool.or_false, Bool.false_or, cond_true, cond_false, List.getElem?_toArray, List.getElem?_cons_zero, List.getElem?_cons_succ, Nat.zero_add, Nat.add_zero, Nat.reduceAdd, forall_const, show ((0 : Int) != 0) = false from rfl, Option.isNone_some]
  replace hs12 : Sep w w12 (hdH g (.slice none 0 0) (.slice none 0 0) 9 9 [] [] ++ [blk g5 (Rdr.cells Q_api_Block (hvB.p, hvB.h, v3)).toArray T_api_Block, ownB v3 hvB.d, blk g3 (Rdr.cells Q_api_Block (hvA.p, hvA.h, v2)).toArray T_api_Block, ownB v2 hvA.d]) := Sep.pick hs12 [0, 1, 2, 3, 4, 6, 7] 11
  simp only [L_api_Block (Sep.blk hs12.p3), L_api_Block__Parent (Sep.blk hs12.p3), L_api_Block__Height (Sep.blk hs12.p3), L_api_Block__Data (Sep.blk hs12.p3)]
  refine cal_i (hBlock_spec (b := hvB) (v := v3) hs12 (DatW.nil _) (hC.fr hs12.fr0) (Sep.rd (Sep.pick hs12 [4] 5)) (by decide) (by simp) (by simp)) ?_
  rintro _ w13 ⟨rfl, ⟨hno, _⟩ | ⟨hE, bv1, vd1, hs13⟩⟩
  · exact absurd hbB hno
  have ei : blkId 9 [] hvB = hidB := by unfold blkId; rw [if_pos hbB, hidB_eq]
  rw [ei, hbB]
  rw [hidB_eq] at hs13
  clear ei hE
  simp only [nilc_some, fad_mk, pik_true, pik_false, cnd_true, cnd_false, gif_same, gif_tf, gif_ft, gif_undef, bi_add, bi_sub, bi_mul, bi_eql, bi_neq, bi_lss, bi_leq, bi_gtr, bi_geq, notB_bool, cvi_int, lenS_mk, lenT_mk, ext0, ext1, ext2, nilP_mk, nilS_mk, fldv_agg, jn0_k, jn1_k, jn2_k, jn1_and, jn1_or, ex_some, Option.isNone_some, Option.isNone_none, Bool.false_bne, Bool.bne_true, Bool.bne_false, Bool.true_bne, Bool.not_true, Bool.not_false, Bool.and_true, Bool.true_and, Bool.and_false, Bool.false_and, Bool.or_true, Bool.true_or, Bool.or_false, Bool.false_or, cond_true, cond_false, List.getElem?_toArray, List.getElem?_cons_zero, List.getElem?_cons_succ, Nat.zero_add, Nat.add_zero, Nat.reduceAdd, forall_const]
  refine alloc_s hs13 (A_api_ID w13) fun g9 w14 hs14 => ?_
  refine St_api_ID hs14 fun w15 hs15 => ?_
  simp only [L_api_Block (Sep.blk (Sep.pick hs15 [7] 8)), L_api_Block__Parent (Sep.blk (Sep.pick hs15 [7] 8)), L_api_Block__Height (Sep.blk (Sep.pick hs15 [7] 8)), L_api_Block__Data (Sep.blk (Sep.pick hs15 [7] 8))]
  replace hs15 : Sep w w15 (hdH g bv1 (.slice none 0 0) 9 9 [(hidB, hvB, vd1)] [] ++ [ownB vd1 hvB.d, blk g9 (Rdr.cells (rVec 32) hidB).toArray T_api_ID, blk g3 (Rdr.cells Q_api_Block (hvA.p, hvA.h, v2)).toArray T_api_Block, ownB v2 hvA.d]) := Sep.pick hs15 [1, 2, 3, 4, 0, 7, 8] 9
  have hD1 : DatW [(hidB, hvB, vd1)] [ownB vd1 hvB.d, blk g9 (Rdr.cells (rVec 32) hidB).toArray T_api_ID, blk g3 (Rdr.cells Q_api_Block (hvA.p, hvA.h, v2)).toArray T_api_Block, ownB v2 hvA.d] := fun x hx => by
    rw [List.mem_singleton.1 hx]
    exact List.mem_cons_self ..
  have hl1 : ∀ x ∈ [(hidB, hvB, vd1)], (x : Wt).2.1.d.length ≤ 200 := fun x hx => by
    rw [List.mem_singleton.1 hx]
    exact (by decide : (1 : Nat) ≤ 200)
  refine cal_i (hBlock_spec (b := hvA) (v := v2) hs15 hD1 (hC.fr hs15.fr0) (Sep.rd (Sep.pick hs15 [6] 7)) (by decide) (by simp) hl1) ?_
  rintro _ w16 ⟨rfl, ⟨hno, _⟩ | ⟨hE, bv2, vd2, hs16⟩⟩
  · exact absurd (hbA vd1) hno
  have ei : blkId 9 [(hidB, hvB, vd1)] hvA = hidA := by unfold blkId; rw [if_pos (hbA vd1), hidA_eq]
  rw [ei, hbA vd1]
  rw [hidA_eq] at hs16
  clear ei hE
  simp only [nilc_some, fad_mk, pik_true, pik_false, cnd_true, cnd_false, gif_same, gif_tf, gif_ft, gif_undef, bi_add, bi_sub, bi_mul, bi_eql, bi_neq, bi_lss, bi_leq, bi_gtr, bi_geq, notB_bool, cvi_int, lenS_mk, lenT_mk, ext0, ext1, ext2, nilP_mk, nilS_mk, fldv_agg, jn0_k, jn1_k, jn2_k, jn1_and, jn1_or, ex_some, Option.isNone_some, Option.isNone_none, Bool.false_bne, Bool.bne_true, Bool.bne_false, Bool.true_bne, Bool.not_true, Bool.not_false, Bool.and_true, Bool.true_and, Bool.and_false, Bool.false_and, Bool.or_true, Bool.true_or, Bool.or_false, Bool.false_or, cond_true, cond_false, List.getElem?_toArray, List.getElem?_cons_zero, List.getElem?_cons_succ, Nat.zero_add, Nat.add_zero, Nat.reduceAdd, forall_const]
  refine alloc_s hs16 (A_api_ID w16) fun g10 w17 hs17 => ?_
  refine St_api_ID hs17 fun w18 hs18 => ?_
  simp only [L_api_ID (Sep.blk (Sep.pick hs18 [6] 7)), B_api_HeldVote_0_2]
  refine alloc_s hs18 (A_api_HeldVote w18) fun g11 w19 hs19 => ?_
  refine St_api_HeldVote hs19 one_api_HeldVote fun w20 hs20 => ?_
  obtain ⟨M, hM⟩ : ∃ M, M = [blk g11 (Rdr.cells Q_api_HeldVote hvV).toArray T_api_HeldVote, blk g10 (Rdr.cells (rVec 32) hidA).toArray T_api_ID, blk g9 (Rdr.cells (rVec 32) hidB).toArray T_api_ID, blk g3 (Rdr.cells Q_api_Block (hvA.p, hvA.h, v2)).toArray T_api_Block, ownB v2 hvA.d, ownB vd2 hvA.d, ownB vd1 hvB.d] := ⟨_, rfl⟩
  replace hs20 : Sep w w20 (hdH g bv2 (.slice none 0 0) 9 9 (hvW vd1 vd2) [] ++ M) := by rw [hM]; exact Sep.pick hs20 [2, 3, 4, 0, 1, 7, 8, 9, 5, 6] 10
  have hD : DatW (hvW vd1 vd2) M := fun x hx => by
    rw [hM]
    simp only [List.mem_cons, List.not_mem_nil, or_false] at hx
    rcases hx with rfl | rfl <;> simp
  have hl : ∀ x ∈ hvW vd1 vd2, x.2.1.d.length ≤ 200 := fun x hx => by
    simp only [List.mem_cons, List.not_mem_nil, or_false] at hx
    rcases hx with rfl | rfl <;> exact (by decide : (1 : Nat) ≤ 200)
  have m11 : ∀ {z : World}, Sep w z M → ∀ K, ldN 66 (.pointer (some ⟨g11, 0, none⟩)) z.heap K = K (hvv hvV) := fun {z} hz K => by rw [hM] at hz; exact L_api_HeldVote (Sep.blk hz) K
  have m3 : ∀ {z : World}, Sep w z M → ∀ K, ldN 32 (.pointer (some ⟨g3, 0, none⟩)) z.heap K = K (kv hidG) := fun {z} hz K => by rw [hM] at hz; exact L_api_Block__Parent (Sep.blk hz.p3) K
  have m3b : ∀ {z : World}, Sep w z M → ∀ K, ldN 34 (.pointer (some ⟨g3, 0, none⟩)) z.heap K = K (bq hvA v2) := fun {z} hz K => by rw [hM] at hz; exact L_api_Block (Sep.blk hz.p3) K
  have m9 : ∀ {z : World}, Sep w z M → ∀ K, ldN 32 (.pointer (some ⟨g9, 0, none⟩)) z.heap K = K (kv hidB) := fun {z} hz K => by rw [hM] at hz; exact L_api_ID (Sep.blk hz.p2) K
  have m10 : ∀ {z : World}, Sep w z M → ∀ K, ldN 32 (.pointer (some ⟨g10, 0, none⟩)) z.heap K = K (kv hidA) := fun {z} hz K => by rw [hM] at hz; exact L_api_ID (Sep.blk hz.p1) K
  have mv2 : ∀ {z : World}, Sep w z M → RdB z.heap v2 hvA.d := fun {z} hz => by rw [hM] at hz; exact Sep.rd (Sep.pick hz [4] 5)
  clear hM hs19 hs18 hs17 hs16 hs15 hs14 hs13 hs12
  refine drH_PH (S := fun u => Sep w u M) hs20 (fun u hu => hu.tail.tail.tail) fun w21 hs21 _ => ?_
  simp only [nilc_some, fad_mk, pik_true, pik_false, cnd_true, cnd_false, gif_same, gif_tf, gif_ft, gif_undef, bi_add, bi_sub, bi_mul, bi_eql, bi_neq, bi_lss, bi_leq, bi_gtr, bi_geq, notB_bool, cvi_int, lenS_mk, lenT_mk, ext0, ext1, ext2, nilP_mk, nilS_mk, fldv_agg, jn0_k, jn1_k, jn2_k, jn1_and, jn1_or, ex_some, Option.isNone_some, Option.isNone_none, Bool.false_bne, Bool.bne_true, Bool.bne_false, Bool.true_bne, Bool.not_true, Bool.not_false, Bool.and_true, Bool.true_and, Bool.and_false, Bool.false_and, Bool.or_true, Bool.true_or, Bool.or_false, Bool.false_or, cond_true, cond_false, List.getElem?_toArray, List.getElem?_cons_zero, List.getElem?_cons_succ, Nat.zero_add, Nat.add_zero, Nat.reduceAdd, forall_const, show ((0 : Int) != 0) = false from rfl]
  refine ⟨fun y z => y = .bool false ∧ ∃ vv', Sep w z (hdH g bv2 vv' 9 9 (hvW vd1 vd2) [hvV] ++ M), ?_, ?_⟩
  · refine jn1_dup ?_
    refine ⟨hvv hvV, fun u hu => (m11 hu _).mpr rfl, ?_⟩
    intro _
    refine jn1_dup ?_
    refine efS_i (cal_i (hVote_spec (v := hvV) hs21 hD (by simp)) ?_)
    have eV : votE 9 [] hvV = 0 := rfl
    rw [eV]
    rintro _ w22 ⟨rfl, ⟨hno, _⟩ | ⟨_, vv', hs22⟩⟩
    · exact absurd rfl hno
    refine ⟨hs22.tail.tail.tail, ?_⟩
    replace hs22 : Sep w w22 (hdH g bv2 vv' 9 9 (hvW vd1 vd2) [hvV] ++ M) := hs22
    simp only [nilc_some, fad_mk, pik_true, pik_false, cnd_true, cnd_false, gif_same, gif_tf, gif_ft, gif_undef, bi_add, bi_sub, bi_mul, bi_eql, bi_neq, bi_lss, bi_leq, bi_gtr, bi_geq, notB_bool, cvi_int, lenS_mk, lenT_mk, ext0, ext1, ext2, nilP_mk, nilS_mk, fldv_agg, jn0_k, jn1_k, jn2_k, jn1_and, jn1_or, ex_some, Option.isNone_some, Option.isNone_none, Bool.false_bne, Bool.bne_true, Bool.bne_false, Bool.true_bne, Bool.not_true, Bool.not_false, Bool.and_true, Bool.true_and, Bool.and_false, Bool.false_and, Bool.or_true, Bool.true_or, Bool.or_false, Bool.false_or, cond_true, cond_false, List.getElem?_toArray, List.getElem?_cons_zero, List.getElem?_cons_succ, Nat.zero_add, Nat.add_zero, Nat.reduceAdd, forall_const, show ((0 : Int) != 0) = false from rfl]
    refine jn1_dup ?_
    refine ⟨kv hidG, fun u hu => (m3 hu _).mpr rfl, ?_⟩
    intro _
    have hW : ∀ {z : World}, Sep w z (hdH g bv2 vv' 9 9 (hvW vd1 vd2) [hvV] ++ M) → ∀ K : Value → World → Prop, (∀ r z', Sep w z' (rows (rVec 32) r [hidG] :: (hdH g bv2 vv' 9 9 (hvW vd1 vd2) [hvV] ++ M)) → K r z') → cal P f_hold_Hold_Wanted [.pointer (some ⟨g, 0, none⟩)] z K := fun {z} hz K hK => by
      refine cal_i (hWanted_spec (hdH_rd hz hD) (by simp) (by simp) hl) ?_
      rintro r z' hz'
      rw [hvWanted] at hz'
      exact hK r z' (hz.join hz')
    have lit1 : ∀ {z : World} {As : List Asn}, Sep w z As → ∀ K : Value → World → Prop, (∀ r z', Sep w z' (rows (rVec 32) r [hidG] :: As) → K r z') → efP P (Instr.buildSlice T_sl_api_ID 1 #[(0, kv hidG)]) z K := fun {z As} hz K hK =>
      rows_lit hz S_sl_api_ID (l := [hidG]) (V := fun a => .agg (Rdr.cells (rVec 32) a).toArray) (fun a => rfl) rfl rfl (by decide) (by decide) fun g z' hz' => hK _ z' hz'
    refine ⟨?_, ?_, trivial⟩
    · refine jn1_dup ?_
      refine efS_i (hW hs22 _ fun r1 w23 hs23 => ?_)
      refine ⟨hs23.tail.tail.tail.tail, ?_⟩
      intro _
      refine jn1_dup ?_
      refine efS_i (lit1 hs23 _ fun r2 w24 hs24 => ?_)
      refine ⟨hs24.tail.tail.tail.tail.tail, ?_⟩
      intro _
      refine jn1_dup ?_
      refine efS_i (cal_i (idsEqual_spec (Sep.rows hs24.p1) (Sep.rows hs24) (by simp)) ?_)
      rintro _ w25 ⟨rfl, hf25⟩
      have hs25 := hs24.tail.tail.old hf25
      refine ⟨hs25.tail.tail.tail, ?_⟩
      simp only [nilc_some, fad_mk, pik_true, pik_false, cnd_true, cnd_false, gif_same, gif_tf, gif_ft, gif_undef, bi_add, bi_sub, bi_mul, bi_eql, bi_neq, bi_lss, bi_leq, bi_gtr, bi_geq, notB_bool, cvi_int, lenS_mk, lenT_mk, ext0, ext1, ext2, nilP_mk, nilS_mk, fldv_agg, jn0_k, jn1_k, jn2_k, jn1_and, jn1_or, ex_some, Option.isNone_some, Option.isNone_none, Bool.false_bne, Bool.bne_true, Bool.bne_false, Bool.true_bne, Bool.not_true, Bool.not_false, Bool.and_true, Bool.true_and, Bool.and_false, Bool.false_and, Bool.or_true, Bool.true_or, Bool.or_false, Bool.false_or, cond_true, cond_false, List.getElem?_toArray, List.getElem?_cons_zero, List.getElem?_cons_succ, Nat.zero_add, Nat.add_zero, Nat.reduceAdd, forall_const, decide_true]
      exact ⟨trivial, vv', hs25⟩
    · refine jn1_dup ?_
      refine efS_i (lit1 hs22 _ fun r2 w23 hs23 => ?_)
      refine ⟨hs23.tail.tail.tail.tail, ?_⟩
      intro _
      refine jn1_dup ?_
      refine efS_i (cal_i (hWanted_spec (hdH_rd hs23.tail hD) (by simp) (by simp) hl) ?_)
      rintro r1 w24 hs24
      rw [hvWanted] at hs24
      replace hs24 := hs23.join hs24
      refine ⟨hs24.tail.tail.tail.tail.tail, ?_⟩
      intro _
      refine jn1_dup ?_
      refine efS_i (cal_i (idsEqual_spec (Sep.rows hs24) (Sep.rows hs24.p1) (by simp)) ?_)
      rintro _ w25 ⟨rfl, hf25⟩
      have hs25 := hs24.tail.tail.old hf25
      refine ⟨hs25.tail.tail.tail, ?_⟩
      simp only [nilc_some, fad_mk, pik_true, pik_false, cnd_true, cnd_false, gif_same, gif_tf, gif_ft, gif_undef, bi_add, bi_sub, bi_mul, bi_eql, bi_neq, bi_lss, bi_leq, bi_gtr, bi_geq, notB_bool, cvi_int, lenS_mk, lenT_mk, ext0, ext1, ext2, nilP_mk, nilS_mk, fldv_agg, jn0_k, jn1_k, jn2_k, jn1_and, jn1_or, ex_some, Option.isNone_some, Option.isNone_none, Bool.false_bne, Bool.bne_true, Bool.bne_false, Bool.true_bne, Bool.not_true, Bool.not_false, Bool.and_true, Bool.true_and, Bool.and_false, Bool.false_and, Bool.or_true, Bool.true_or, Bool.or_false, Bool.false_or, cond_true, cond_false, List.getElem?_toArray, List.getElem?_cons_zero, List.getElem?_cons_succ, Nat.zero_add, Nat.add_zero, Nat.reduceAdd, forall_const, decide_true]
      exact ⟨trivial, vv', hs25⟩
  rintro _ w22 ⟨rfl, vv', hs22⟩ _
  simp only [nilc_some, fad_mk, pik_true, pik_false, cnd_true, cnd_false, gif_same, gif_tf, gif_ft, gif_undef, bi_add, bi_sub, bi_mul, bi_eql, bi_neq, bi_lss, bi_leq, bi_gtr, bi_geq, notB_bool, cvi_int, lenS_mk, lenT_mk, ext0, ext1, ext2, nilP_mk, nilS_mk, fldv_agg, jn0_k, jn1_k, jn2_k, jn1_and, jn1_or, ex_some, Option.isNone_some, Option.isNone_none, Bool.false_bne, Bool.bne_true, Bool.bne_false, Bool.true_bne, Bool.not_true, Bool.not_false, Bool.and_true, Bool.true_and, Bool.and_false, Bool.false_and, Bool.or_true, Bool.true_or, Bool.or_false, Bool.false_or, cond_true, cond_false, List.getElem?_toArray, List.getElem?_cons_zero, List.getElem?_cons_succ, Nat.zero_add, Nat.add_zero, Nat.reduceAdd, forall_const]
  refine cal_i (hClone_spec (hdH_rd hs22 hD) (by simp) (by simp)) ?_
  rintro _ w23 ⟨g', bv', vv2, rfl, hs23⟩
  replace hs23 := hs22.join hs23
  rw [m3 hs23.dropL.tail.tail.tail]
  obtain ⟨N, hN⟩ : ∃ N, N = M ++ hdH g' bv' vv2 9 9 (hvW vd1 vd2) [hvV] := ⟨_, rfl⟩
  replace hs23 : Sep w w23 (hdH g bv2 vv' 9 9 (hvW vd1 vd2) [hvV] ++ N) := by
    rw [hN, ← List.append_assoc]
    exact hs23.perm List.perm_append_comm
  have mN : ∀ {z : World}, Sep w z N → Sep w z M := fun {z} hz => by rw [hN] at hz; exact Sep.dropR hz
  refine cal_i (hLost_spec hs23 (hD.sub fun A hA => by rw [hN]; exact List.mem_append_left _ hA) (by simp) (by simp) hidG) ?_
  rintro _ w24 ⟨ob, ov, bv3, vv3, L, rfl, hL, hs24⟩
  obtain rfl := hvLost hL
  rw [hvAll, hvAllV] at hs24
  have hs24' : Sep w w24 (rows (rVec 32) ob [hidB, hidA] :: rows Q_api_HeldVote ov [hvV] :: N) := hs24.tail.tail.tail
  simp only [nilc_some, fad_mk, pik_true, pik_false, cnd_true, cnd_false, gif_same, gif_tf, gif_ft, gif_undef, bi_add, bi_sub, bi_mul, bi_eql, bi_neq, bi_lss, bi_leq, bi_gtr, bi_geq, notB_bool, cvi_int, lenS_mk, lenT_mk, ext0, ext1, ext2, nilP_mk, nilS_mk, fldv_agg, jn0_k, jn1_k, jn2_k, jn1_and, jn1_or, ex_some, Option.isNone_some, Option.isNone_none, Bool.false_bne, Bool.bne_true, Bool.bne_false, Bool.true_bne, Bool.not_true, Bool.not_false, Bool.and_true, Bool.true_and, Bool.and_false, Bool.false_and, Bool.or_true, Bool.true_or, Bool.or_false, Bool.false_or, cond_true, cond_false, List.getElem?_toArray, List.getElem?_cons_zero, List.getElem?_cons_succ, Nat.zero_add, Nat.add_zero, Nat.reduceAdd, forall_const, Option.isNone_some, m9 (mN hs24'.tail.tail), m10 (mN hs24'.tail.tail)]
  refine jn1_dup ?_
  refine rows_lit hs24' S_sl_api_ID (l := [hidB, hidA]) (V := fun a => .agg (Rdr.cells (rVec 32) a).toArray) (fun a => rfl) rfl rfl (by decide) (by decide) fun g26 w25 hs25 => ?_
  refine cal_i (idsEqual_spec (Sep.rows hs25.p1) (Sep.rows hs25) (by simp)) ?_
  rintro _ w26 ⟨rfl, hf26⟩
  have hs26 := hs25.tail.old hf26
  simp only [nilc_some, fad_mk, pik_true, pik_false, cnd_true, cnd_false, gif_same, gif_tf, gif_ft, gif_undef, bi_add, bi_sub, bi_mul, bi_eql, bi_neq, bi_lss, bi_leq, bi_gtr, bi_geq, notB_bool, cvi_int, lenS_mk, lenT_mk, ext0, ext1, ext2, nilP_mk, nilS_mk, fldv_agg, jn0_k, jn1_k, jn2_k, jn1_and, jn1_or, ex_some, Option.isNone_some, Option.isNone_none, Bool.false_bne, Bool.bne_true, Bool.bne_false, Bool.true_bne, Bool.not_true, Bool.not_false, Bool.and_true, Bool.true_and, Bool.and_false, Bool.false_and, Bool.or_true, Bool.true_or, Bool.or_false, Bool.false_or, cond_true, cond_false, List.getElem?_toArray, List.getElem?_cons_zero, List.getElem?_cons_succ, Nat.zero_add, Nat.add_zero, Nat.reduceAdd, forall_const, decide_true, m11 (mN hs26.tail.tail)]
  refine jn1_dup ?_
  refine rows_lit hs26 S_sl_api_HeldVote (l := [hvV]) (V := fun a => .agg (Rdr.cells Q_api_HeldVote a).toArray) (fun a => rfl) rfl rfl (by decide) (by decide) fun g27 w27 hs27 => ?_
  refine cal_i (votesEqual_spec (Sep.rows (Sep.pick hs27 [2] 3)) (Sep.rows hs27) (by simp)) ?_
  rintro _ w28 ⟨rfl, hf28⟩
  have hs28 := hs27.tail.tail.tail.old hf28
  simp only [nilc_some, fad_mk, pik_true, pik_false, cnd_true, cnd_false, gif_same, gif_tf, gif_ft, gif_undef, bi_add, bi_sub, bi_mul, bi_eql, bi_neq, bi_lss, bi_leq, bi_gtr, bi_geq, notB_bool, cvi_int, lenS_mk, lenT_mk, ext0, ext1, ext2, nilP_mk, nilS_mk, fldv_agg, jn0_k, jn1_k, jn2_k, jn1_and, jn1_or, ex_some, Option.isNone_some, Option.isNone_none, Bool.false_bne, Bool.bne_true, Bool.bne_false, Bool.true_bne, Bool.not_true, Bool.not_false, Bool.and_true, Bool.true_and, Bool.and_false, Bool.false_and, Bool.or_true, Bool.true_or, Bool.or_false, Bool.false_or, cond_true, cond_false, List.getElem?_toArray, List.getElem?_cons_zero, List.getElem?_cons_succ, Nat.zero_add, Nat.add_zero, Nat.reduceAdd, forall_const, decide_true, m3 (mN hs28)]
  replace hs28 : Sep w w28 (hdH g' bv' vv2 9 9 (hvW vd1 vd2) [hvV] ++ M) := by
    rw [hN] at hs28
    exact hs28.perm List.perm_append_comm
  refine cal_i (hCame_spec hs28 hD (by simp) (by simp) hl hidG) ?_
  rintro _ w29 ⟨ob2, ov2, bv4, vv4, os, E, rfl, hos, hDO, hs29⟩
  rw [hvCame] at hos
  obtain ⟨y, rfl⟩ : ∃ y, os = [(hvA, y)] := by
    match os, hos with
    | [(a, y)], hos =>
      obtain rfl : a = hvA := by simpa using hos
      exact ⟨y, rfl⟩
  have hE : ownB y hvA.d ∈ E := hDO (hvA, y) (by simp)
  replace hs29 : Sep w w29 (rows Q_api_Block ob2 [(hvA.p, hvA.h, y)] :: (E ++ M)) := Sep.pick hs29 [3] 5
  simp only [nilc_some, fad_mk, pik_true, pik_false, cnd_true, cnd_false, gif_same, gif_tf, gif_ft, gif_undef, bi_add, bi_sub, bi_mul, bi_eql, bi_neq, bi_lss, bi_leq, bi_gtr, bi_geq, notB_bool, cvi_int, lenS_mk, lenT_mk, ext0, ext1, ext2, nilP_mk, nilS_mk, fldv_agg, jn0_k, jn1_k, jn2_k, jn1_and, jn1_or, ex_some, Option.isNone_some, Option.isNone_none, Bool.false_bne, Bool.bne_true, Bool.bne_false, Bool.true_bne, Bool.not_true, Bool.not_false, Bool.and_true, Bool.true_and, Bool.and_false, Bool.false_and, Bool.or_true, Bool.true_or, Bool.or_false, Bool.false_or, cond_true, cond_false, List.getElem?_toArray, List.getElem?_cons_zero, List.getElem?_cons_succ, Nat.zero_add, Nat.add_zero, Nat.reduceAdd, forall_const]
  refine drH_S hs29 fun w30 hs30 _ => ?_
  have hlen : ∀ K, lenS ob2 K = K (.int .i64 ((1 : Nat) : Int)) := fun K => (Sep.rows hs30).len K
  simp only [hlen, nilc_some, fad_mk, pik_true, pik_false, cnd_true, cnd_false, gif_same, gif_tf, gif_ft, gif_undef, bi_add, bi_sub, bi_mul, bi_eql, bi_neq, bi_lss, bi_leq, bi_gtr, bi_geq, notB_bool, cvi_int, lenS_mk, lenT_mk, ext0, ext1, ext2, nilP_mk, nilS_mk, fldv_agg, jn0_k, jn1_k, jn2_k, jn1_and, jn1_or, ex_some, Option.isNone_some, Option.isNone_none, Bool.false_bne, Bool.bne_true, Bool.bne_false, Bool.true_bne, Bool.not_true, Bool.not_false, Bool.and_true, Bool.true_and, Bool.and_false, Bool.false_and, Bool.or_true, Bool.true_or, Bool.or_false, Bool.false_or, cond_true, cond_false, List.getElem?_toArray, List.getElem?_cons_zero, List.getElem?_cons_succ, Nat.zero_add, Nat.add_zero, Nat.reduceAdd, forall_const, show ((((1 : Nat) : Int)) == 1) = true from rfl]
  refine jn1_dup ?_
  change ixs 34 _ (.int .i64 ((0 : Nat) : Int)) _
  refine rdS_rowH (q := Q_api_Block) (by decide) hs30 (fun u hu => Sep.rows hu) (j := 0) (a := (hvA.p, hvA.h, y)) rfl .i64 ?_
  refine ⟨bq hvA v2, fun u hu => (m3b hu.tail.dropL _).mpr rfl, ?_⟩
  have hy : RdB w30.heap y hvA.d := by
    obtain ⟨F, hF⟩ := hs30.onL (A := ownB y hvA.d) (List.mem_cons_of_mem _ (List.mem_append_left _ hE))
    exact OwnB.rd hF
  refine efS_i (cal_i (rSame_spec (a := hvA) (b := hvA) hy (mv2 hs30.tail.dropL)) ?_)
  rintro _ w31 ⟨rfl, hf31⟩
  refine ⟨hs30.old hf31, ?_⟩
  simp only [nilc_some, fad_mk, pik_true, pik_false, cnd_true, cnd_false, gif_same, gif_tf, gif_ft, gif_undef, bi_add, bi_sub, bi_mul, bi_eql, bi_neq, bi_lss, bi_leq, bi_gtr, bi_geq, notB_bool, cvi_int, lenS_mk, lenT_mk, ext0, ext1, ext2, nilP_mk, nilS_mk, fldv_agg, jn0_k, jn1_k, jn2_k, jn1_and, jn1_or, ex_some, Option.isNone_some, Option.isNone_none, Bool.false_bne, Bool.bne_true, Bool.bne_false, Bool.true_bne, Bool.not_true, Bool.not_false, Bool.and_true, Bool.true_and, Bool.and_false, Bool.false_and, Bool.or_true, Bool.true_or, Bool.or_false, Bool.false_or, cond_true, cond_false, List.getElem?_toArray, List.getElem?_cons_zero, List.getElem?_cons_succ, Nat.zero_add, Nat.add_zero, Nat.reduceAdd, forall_const, decide_true]
  exact hR _ _ ⟨rfl, (hs30.old hf31).fr0⟩
end
end Go.Fx
set_option linter.unusedVariables false
set_option linter.unusedSimpArgs false
namespace Go.Fx
/-- A number in a list, read in a region that draws (as in TrK, for other seats). -/
theorem rdS_rowIH {S : World → Prop} {w : World} {v : Value} {l : List Int} {j : Nat} {a : Int} {K : Value → Prop}
    (hw : S w) (hS : ∀ u, S u → Rows' (rInt .i64) u.heap v l) (hj : l[j]? = some a) (k : IntKind) (h : K (.int .i64 a)) : ixs 1 v (.int k (j : Int)) fun t => rdS S (fun w => Go.Fx.ld1 t w.heap) K := by
  obtain ⟨g, o, c, rfl⟩ := (hS w hw).form (by decide) hj
  have hlt := (List.getElem?_eq_some_iff.1 hj).1
  rw [ixs_mk _ _ _ _ _ _ _ _ (by omega) (by omega), Int.toNat_natCast]
  refine ⟨.int .i64 a, fun z hz => ?_, h⟩
  have hat := At.of (by decide) (hS z hz) hj
  have e : (rInt .i64).size = 1 := rfl
  rw [e] at hat
  show Go.Fx.ld1 _ z.heap _
  rw [At.ld1 (v := .int .i64 a) hat]
/-- Something that is done. -/
structure AA where
  act : Int
  k : Nat
  d : List UInt8
  dv : Value
  poll : Int
  node : Int
  raw : Bool
  b : Blk
  bv : Value
def AA.t (x : AA) : Int × Int × Value × Int × Int × Bool × Vec 32 × Int × Value := (x.act, (x.k : Int), x.dv, x.poll, x.node, x.raw, x.b.p, x.b.h, x.bv)
structure ARows (h : Heap) (v : Value) (l : List AA) : Prop where
  rw : Rows' Q_flurrylaw23_Act h v (l.map AA.t)
  d : ∀ x ∈ l, RdB h x.dv x.d ∧ RdB h x.bv x.b.d
theorem ARows.fr {w w' : World} {v : Value} {l : List AA} (h : ARows w.heap v l) (hf : Fr [] w w') : ARows w'.heap v l := ⟨h.rw.fr hf, fun x hx => ⟨(h.d x hx).1.fr hf (off_nil _), (h.d x hx).2.fr hf (off_nil _)⟩⟩
theorem ARows.len {h : Heap} {v : Value} {l : List AA} (hr : ARows h v l) (K : Value → Prop) : lenS v K = K (.int .i64 l.length) := by
  have := hr.rw.len K
  rwa [List.length_map] at this
def AOk (l : List AA) : Prop := ∀ x ∈ l, x.k < 256 ∧ x.b.h ≤ maxI ∧ x.d.length ≤ 9223372036854775807 ∧ x.b.d.length ≤ 9223372036854775807
theorem acts_arg {h : Heap} {s : Sl (Int × Nat × Sl UInt8 × Int × Int × Bool × (Vec 32 × Int × Sl UInt8))} (hs : (rSl R_flurrylaw23_Act).ok h s) : ∃ l : List AA, ARows h s.v l ∧ capOk s.v ∧ l.length ≤ 9223372036854775807 ∧ AOk l := by
  obtain ⟨h1, h2, h3, h4⟩ := hs
  refine ⟨s.l.map fun x => ⟨x.1, x.2.1, x.2.2.1.l, x.2.2.1.v, x.2.2.2.1, x.2.2.2.2.1, x.2.2.2.2.2.1, ab x.2.2.2.2.2.2, x.2.2.2.2.2.2.2.2.v⟩, ⟨?_, fun x hx => ?_⟩, h3, by simpa using h2, fun x hx => ?_⟩
  · have e : s.l.flatMap R_flurrylaw23_Act.cells = ((s.l.map fun x => (⟨x.1, x.2.1, x.2.2.1.l, x.2.2.1.v, x.2.2.2.1, x.2.2.2.2.1, x.2.2.2.2.2.1, ab x.2.2.2.2.2.2, x.2.2.2.2.2.2.2.2.v⟩ : AA)).map AA.t).flatMap Q_flurrylaw23_Act.cells := by
      generalize s.l = l
      induction l with
      | nil => rfl
      | cons a l ih => rw [List.flatMap_cons, ih]; rfl
    unfold Rows'
    rw [e] at h1
    simp only [List.length_map] at h1 ⊢
    exact h1
  · obtain ⟨y, hy, rfl⟩ := List.mem_map.1 hx
    obtain ⟨o0, o1, o2, o3, o4, o5, o6⟩ := h4 y hy
    exact ⟨o2.1, ab_rd o6⟩
  · obtain ⟨y, hy, rfl⟩ := List.mem_map.1 hx
    obtain ⟨o0, o1, o2, o3, o4, o5, o6⟩ := h4 y hy
    exact ⟨o1, ab_h o6, o2.2.1, ab_len o6⟩
/-- The block that is handed in. -/
def bA (ids : List (Vec 32)) (hs : List Int) (x : AA) : Blk := if x.raw then x.b else ⟨ids.getD (x.k % ids.length) (vz 32), min (hs.getD (x.k % ids.length) 0) 4611686018427387904 + 1, x.d⟩
def AA.v (x : AA) : Value := if x.raw then x.bv else x.dv
theorem bA_rd {h : Heap} {x : AA} {ids : List (Vec 32)} {hs : List Int} (hx : RdB h x.dv x.d ∧ RdB h x.bv x.b.d) : RdB h x.v (bA ids hs x).d := by
  unfold bA AA.v
  cases x.raw
  · exact hx.1
  · exact hx.2
theorem bA_h {x : AA} {ids : List (Vec 32)} {hs : List Int} (hx : x.b.h ≤ maxI) : (bA ids hs x).h ≤ maxI := by
  unfold bA maxI at *
  cases x.raw
  · show min _ _ + 1 ≤ _
    omega
  · exact hx
def addI (ids : List (Vec 32)) (b : Blk) : List (Vec 32) := if b.chk = 0 then ids ++ [b.id] else ids
def addH (hs : List Int) (b : Blk) : List Int := if b.chk = 0 then hs ++ [b.h] else hs
theorem chk0_h {b : Blk} (h : b.chk = 0) : 0 ≤ b.h := by
  unfold Blk.chk at h
  split at h
  · cases h
  · omega
section
variable {w0 w : World} {As : List Asn}
theorem fewA_spec {v : Value} {l : List AA} (hr : ARows w.heap v l) (hcap : capOk v) (h63 : l.length ≤ 9223372036854775807) (hok : AOk l) : cal P f_law23_few [v] w fun r w' => Fr [] w w' ∧ ∃ t, r = .bool t ∧ (t = true → l.length ≤ 60 ∧ ∀ x ∈ l, x.d.length ≤ 1000 ∧ x.b.d.length ≤ 1000) := by
  refine s_law23_few fun R hR => ?_
  unfold c_law23_few
  have hq : ∃ a c, v = .slice a l.length c ∧ l.length ≤ c := by
    obtain ⟨a, c, hv, _⟩ := hr.rw
    rw [List.length_map] at hv
    exact ⟨a, c, hv, hcap _ _ _ hv⟩
  obtain ⟨a, c, hv, hc⟩ := hq
  simp only [hr.len, min_int]
  obtain ⟨n, hn⟩ : ∃ n : Nat, n = min l.length 100 := ⟨_, rfl⟩
  have e1 : min (l.length : Int) 100 = (n : Int) := by omega
  rw [e1]
  have hnl : n ≤ l.length := by omega
  have hrt : ARows w.heap (.slice a n c) (l.take n) := by
    refine ⟨?_, fun x hx => hr.d x (List.mem_of_mem_take hx)⟩
    have := hr.rw
    rw [hv] at this
    have h2 := Rows'.take this (k := n) (by simpa using hnl) c
    rwa [← List.map_take] at h2
  rw [hv, slc_to (by omega)]
  have hlt : (l.take n).length = n := by rw [List.length_take]; omega
  have h5 := hrt.len
  rw [hlt] at h5
  have h6 := hr.len
  rw [hv] at h6
  simp only [h5]
  refine ⟨fun y z => ∃ i : Nat, y = .int .i64 i ∧ i ≤ n ∧ (∀ x ∈ l.take i, x.d.length ≤ 1000 ∧ x.b.d.length ≤ 1000) ∧ Fr [] w z, fun y _ => (n - RowKit.intOf y).toNat, ⟨0, rfl, by omega, (fun x hx => by cases hx), Fr.refl _ _⟩, ?_⟩
  rintro _ w1 ⟨i, rfl, hi, hsm, hf⟩ -
  simp only [nilc_some, fad_mk, pik_true, pik_false, cnd_true, cnd_false, gif_same, gif_tf, gif_ft, gif_undef, bi_add, bi_sub, bi_mul, bi_eql, bi_neq, bi_lss, bi_leq, bi_gtr, bi_geq, notB_bool, cvi_int, lenS_mk, lenT_mk, ext0, ext1, ext2, nilP_mk, nilS_mk, fldv_agg, jn0_k, jn1_k, jn2_k, jn1_and, jn1_or, ex_some, Option.isNone_some, Option.isNone_none, Bool.false_bne, Bool.bne_true, Bool.bne_false, Bool.true_bne, Bool.not_true, Bool.not_false, Bool.and_true, Bool.true_and, Bool.and_false, Bool.false_and, Bool.or_true, Bool.true_or, Bool.or_false, Bool.false_or, cond_true, cond_false, List.getElem?_toArray, List.getElem?_cons_zero, List.getElem?_cons_succ, Nat.zero_add, Nat.add_zero, Nat.reduceAdd, forall_const]
  rw [cnd_bool]
  refine ⟨fun h => ?_, fun h => ?_⟩
  · have hlt : i < n := by simp at h; omega
    obtain ⟨x, hx⟩ : ∃ x, l[i]? = some x := ⟨_, List.getElem?_eq_getElem (by omega)⟩
    have hxt : (l.take n)[i]? = some x := by rw [List.getElem?_take, if_pos hlt]; exact hx
    have hxm := List.mem_of_getElem? hx
    have hxm' : ((l.take n).map AA.t)[i]? = some x.t := by rw [List.getElem?_map, hxt]; rfl
    change ixs 40 _ _ _
    refine Rows'.ldN (q := Q_flurrylaw23_Act) (by decide) (hrt.rw.fr hf) hxm' .i64 ?_
    refine alloc_s ((Sep.start w).old hf) (A_flurrylaw23_Act w1) fun g w2 hs2 => ?_
    have hd := (hr.fr hs2.fr0).d x hxm
    refine St_flurrylaw23_Act (b := x.t) hs2 (one_flurrylaw23_Act hd.1.one hd.2.one) fun w3 hs3 => ?_
    have hd3 := (hr.fr hs3.fr0).d x hxm
    have l1 : ∀ K, lenS (AA.t x).2.2.1 K = K (.int .i64 x.d.length) := hd3.1.len
    have l2 : ∀ K, lenS (AA.t x).2.2.2.2.2.2.2.2 K = K (.int .i64 x.b.d.length) := hd3.2.len
    simp only [L_flurrylaw23_Act hs3.blk, L_flurrylaw23_Act__Do hs3.blk, L_flurrylaw23_Act__K hs3.blk, L_flurrylaw23_Act__Data hs3.blk, L_flurrylaw23_Act__Poll hs3.blk, L_flurrylaw23_Act__Node hs3.blk, L_flurrylaw23_Act__Raw hs3.blk, L_flurrylaw23_Act__B hs3.blk, L_flurrylaw23_Act__B_Parent hs3.blk, L_flurrylaw23_Act__B_Height hs3.blk, L_flurrylaw23_Act__B_Data hs3.blk, l1, l2, nilc_some, fad_mk, pik_true, pik_false, cnd_true, cnd_false, gif_same, gif_tf, gif_ft, gif_undef, bi_add, bi_sub, bi_mul, bi_eql, bi_neq, bi_lss, bi_leq, bi_gtr, bi_geq, notB_bool, cvi_int, lenS_mk, lenT_mk, ext0, ext1, ext2, nilP_mk, nilS_mk, fldv_agg, jn0_k, jn1_k, jn2_k, jn1_and, jn1_or, ex_some, Option.isNone_some, Option.isNone_none, Bool.false_bne, Bool.bne_true, Bool.bne_false, Bool.true_bne, Bool.not_true, Bool.not_false, Bool.and_true, Bool.true_and, Bool.and_false, Bool.false_and, Bool.or_true, Bool.true_or, Bool.or_false, Bool.false_or, cond_true, cond_false, List.getElem?_toArray, List.getElem?_cons_zero, List.getElem?_cons_succ, Nat.zero_add, Nat.add_zero, Nat.reduceAdd, forall_const]
    rw [cnd_bool]
    refine ⟨fun h => hR _ _ ⟨hs3.fr0, false, rfl, fun h => by cases h⟩, fun h => ?_⟩
    rw [wi64 (by omega) (by omega)]
    refine ⟨⟨i + 1, by simp, by omega, fun y hy => ?_, hs3.fr0⟩, by simp [RowKit.intOf]; omega⟩
    rw [List.take_add_one, hx] at hy
    rcases List.mem_append.1 hy with hy | hy
    · exact hsm y hy
    · obtain rfl : y = x := by simpa using hy
      simp only [Bool.or_eq_false_iff, decide_eq_false_iff_not] at h
      omega
  · have hge : i = n := by simp at h; omega
    refine hR _ _ ⟨hf, _, rfl, fun h => ?_⟩
    have hll : l.length ≤ 60 := by simp at h; omega
    refine ⟨hll, fun x hx => hsm x ?_⟩
    rw [hge, List.take_of_length_le (by omega)]
    exact hx
/-- Where names stand: in a variable, or in a part of one. -/
structure NmP (g o : Nat) (nmA : Value → Value → Asn) : Prop where
  ldI : ∀ {w0 w : World} {As : List Asn} {x y : Value}, Sep w0 w (nmA x y :: As) → ∀ K : Value → Prop, Go.Fx.ld1 (.pointer (some ⟨g, o, none⟩)) w.heap K = K x
  ldH : ∀ {w0 w : World} {As : List Asn} {x y : Value}, Sep w0 w (nmA x y :: As) → ∀ K : Value → Prop, Go.Fx.ld1 (.pointer (some ⟨g, o + 1, none⟩)) w.heap K = K y
  stI : ∀ {w0 w : World} {As : List Asn} {x y x' : Value} {K : World → Prop}, Sep w0 w (nmA x y :: As) → x'.oneCell' = true → (∀ w', Sep w0 w' (nmA x' y :: As) → K w') → Go.Fx.st1 (.pointer (some ⟨g, o, none⟩)) x' w K
  stH : ∀ {w0 w : World} {As : List Asn} {x y y' : Value} {K : World → Prop}, Sep w0 w (nmA x y :: As) → y'.oneCell' = true → (∀ w', Sep w0 w' (nmA x y' :: As) → K w') → Go.Fx.st1 (.pointer (some ⟨g, o + 1, none⟩)) y' w K
abbrev nmN (g : Nat) (x y : Value) : Asn := blk g (Rdr.cells Q_flurrylaw23_names (x, y)).toArray T_flurrylaw23_names
abbrev nmB (g : Nat) (h r : Value) (x y : Value) : Asn := blk g (Rdr.cells Q_flurrylaw23_both (h, r, x, y)).toArray T_flurrylaw23_both
theorem nmP_N (g : Nat) : NmP g 0 (nmN g) :=
  ⟨fun hs K => L_flurrylaw23_names__ids hs.blk K, fun hs K => L_flurrylaw23_names__heights hs.blk K, fun hs h1 h => St_flurrylaw23_names__ids hs h1 h, fun hs h1 h => St_flurrylaw23_names__heights hs h1 h⟩
theorem nmP_B (g : Nat) (h r : Value) : NmP g 2 (nmB g h r) :=
  ⟨fun hs K => L_flurrylaw23_both__n_ids hs.blk K, fun hs K => L_flurrylaw23_both__n_heights hs.blk K, fun hs h1 h => St_flurrylaw23_both__n_ids hs h1 h, fun hs h1 h => St_flurrylaw23_both__n_heights hs h1 h⟩
theorem bldIH {r : Vec 32} {K : Value → World → Prop} {Bs : List Asn} (hs : Sep w0 w Bs) (hk : ∀ a z, Sep w0 z (rows (rVec 32) a [r] :: Bs) → K a z) : efP P (Instr.buildSlice T_sl_api_ID 1 #[(0, kv r)]) w K :=
  rows_lit hs S_sl_api_ID (l := [r]) (V := fun a => .agg (Rdr.cells (rVec 32) a).toArray) (fun a => rfl) rfl rfl (by decide) (by decide) fun g7 w7 hs7 => hk _ _ hs7
theorem bldHH {h : Int} {K : Value → World → Prop} {Bs : List Asn} (hs : Sep w0 w Bs) (hk : ∀ a z, Sep w0 z (rows (rInt .i64) a [h] :: Bs) → K a z) : efP P (Instr.buildSlice T_sl_int64 1 #[(0, .int .i64 h)]) w K :=
  rows_lit (q := rInt .i64) hs S_sl_int64 (l := [h]) (V := fun a => .int .i64 a) (fun a => rfl) rfl rfl (by decide) (by decide) fun g7 w7 hs7 => hk _ _ hs7
theorem appIH {r : Vec 32} {x a : Value} {ids : List (Vec 32)} {K : Value → World → Prop} {Bs : List Asn} (hs : Sep w0 w (rows (rVec 32) x ids :: Bs)) (ha : Rows' (rVec 32) w.heap a [r]) (hl : ids.length ≤ 1000000)
    (hk : ∀ x' z, Sep w0 z (rows (rVec 32) x' (ids ++ [r]) :: Bs) → K x' z) : efP P (Builtin.append_ #[T_sl_api_ID, T_sl_api_ID] T_sl_api_ID #[x, a]) w K :=
  rows_app S_sl_api_ID U_sl_api_ID (by simp) hs ha (by simp only [List.flatMap_cons, List.flatMap_nil, List.append_nil]; exact oneVec) (by simp; omega) (by simp; omega) fun v8 w8 hs8 => hk _ _ hs8
theorem appHH {h : Int} {y b : Value} {hs' : List Int} {K : Value → World → Prop} {Bs : List Asn} (hs : Sep w0 w (rows (rInt .i64) y hs' :: Bs)) (ha : Rows' (rInt .i64) w.heap b [h]) (hl : hs'.length ≤ 1000000)
    (hk : ∀ y' z, Sep w0 z (rows (rInt .i64) y' (hs' ++ [h]) :: Bs) → K y' z) : efP P (Builtin.append_ #[T_sl_int64, T_sl_int64] T_sl_int64 #[y, b]) w K :=
  rows_app (q := rInt .i64) S_sl_int64 U_sl_int64 (by simp) hs ha (by simp only [List.flatMap_cons, List.flatMap_nil, List.append_nil]; exact oneI) (by simp; omega) (by simp; omega) fun v8 w8 hs8 => hk _ _ hs8
theorem three_appH {r : Vec 32} {h : Int} {x y : Value} {ids : List (Vec 32)} {hs' : List Int} {K : Value → Value → World → Prop} (hs : Sep w0 w (rows (rVec 32) x ids :: rows (rInt .i64) y hs' :: As)) (hl1 : ids.length ≤ 1000000) (hl2 : hs'.length ≤ 1000000)
    (hk : ∀ x' y' z, Sep w0 z (rows (rVec 32) x' (ids ++ [r]) :: rows (rInt .i64) y' (hs' ++ [h]) :: As) → K x' y' z) :
    (efS (fun u => Sep w0 u As) (efP P (Instr.buildSlice T_sl_api_ID 1 #[(0, kv r)])) w fun a w =>
      (efS (fun u => Sep w0 u As) (efP P (Builtin.append_ #[T_sl_api_ID, T_sl_api_ID] T_sl_api_ID #[x, a])) w fun x' w =>
        efS (fun u => Sep w0 u As) (efP P (Instr.buildSlice T_sl_int64 1 #[(0, .int .i64 h)])) w fun b w =>
        efC (efP P (Builtin.append_ #[T_sl_int64, T_sl_int64] T_sl_int64 #[y, b])) w fun S y' w => K x' y' w) ∧
      ((efS (fun u => Sep w0 u As) (efP P (Instr.buildSlice T_sl_int64 1 #[(0, .int .i64 h)])) w fun b w =>
        efS (fun u => Sep w0 u As) (efP P (Builtin.append_ #[T_sl_api_ID, T_sl_api_ID] T_sl_api_ID #[x, a])) w fun x' w =>
        efC (efP P (Builtin.append_ #[T_sl_int64, T_sl_int64] T_sl_int64 #[y, b])) w fun S y' w => K x' y' w) ∧ True)) ∧
    ((efS (fun u => Sep w0 u As) (efP P (Instr.buildSlice T_sl_int64 1 #[(0, .int .i64 h)])) w fun b w =>
      efS (fun u => Sep w0 u As) (efP P (Instr.buildSlice T_sl_api_ID 1 #[(0, kv r)])) w fun a w =>
      efS (fun u => Sep w0 u As) (efP P (Builtin.append_ #[T_sl_api_ID, T_sl_api_ID] T_sl_api_ID #[x, a])) w fun x' w =>
      efC (efP P (Builtin.append_ #[T_sl_int64, T_sl_int64] T_sl_int64 #[y, b])) w fun S y' w => K x' y' w) ∧ True) := by
  refine ⟨?_, ?_, trivial⟩
  · refine efS_i (bldIH hs fun a z hz => ⟨hz.tail.tail.tail, ?_, ?_, trivial⟩)
    · refine efS_i (appIH hz.p1 (Sep.rows hz) hl1 fun x' z' hz' => ⟨hz'.tail.tail.tail, ?_⟩)
      refine efS_i (bldHH hz' fun b z2 hz2 => ⟨hz2.tail.tail.tail.tail, ?_⟩)
      refine efC_efP (appHH (Sep.pick hz2 [3, 0, 1, 2] 4) (Sep.rows hz2) hl2 fun y' z3 hz3 => hk _ _ _ ?_)
      exact Sep.pick hz3 [2, 0] 4
    · refine efS_i (bldHH hz fun b z2 hz2 => ⟨hz2.tail.tail.tail.tail, ?_⟩)
      refine efS_i (appIH hz2.p2 (Sep.rows hz2.p1) hl1 fun x' z' hz' => ⟨hz'.tail.tail.tail.tail, ?_⟩)
      refine efC_efP (appHH (Sep.pick hz' [3, 0, 1, 2] 4) (Sep.rows hz'.p1) hl2 fun y' z3 hz3 => hk _ _ _ ?_)
      exact Sep.pick hz3 [1, 0] 4
  · refine efS_i (bldHH hs fun b z hz => ⟨hz.tail.tail.tail, ?_⟩)
    refine efS_i (bldIH hz fun a z2 hz2 => ⟨hz2.tail.tail.tail.tail, ?_⟩)
    refine efS_i (appIH hz2.p2 (Sep.rows hz2) hl1 fun x' z' hz' => ⟨hz'.tail.tail.tail.tail, ?_⟩)
    refine efC_efP (appHH (Sep.pick hz' [3, 0, 1, 2] 4) (Sep.rows hz'.p2) hl2 fun y' z3 hz3 => hk _ _ _ ?_)
    exact Sep.pick hz3 [1, 0] 4
def m77 : Vec 32 := ⟨77 :: List.replicate 31 0, by decide⟩
theorem B_ID77 {w : World} (K : Value → Prop) : rdP P (Instr.build T_api_ID #[(0, .int .u8 77)]) w K = K (kv m77) := rd_build (r := rVec 32) (a := m77) (by kernel_rfl) K
theorem start23_spec : cal P f_law23_start [] w fun r w' => ∃ x y, r = .agg (Rdr.cells Q_flurrylaw23_names (x, y)).toArray ∧ x.oneCell' = true ∧ y.oneCell' = true ∧ Sep w w' [rows (rVec 32) x [m77], rows (rInt .i64) y [3]] := by
  refine s_law23_start fun R hR => ?_
  unfold c_law23_start
  refine alloc_s (Sep.start w) (A_flurrylaw23_names w) fun g w1 hs1 => ?_
  rw [B_ID77]
  refine bldIH hs1 fun x w2 hs2 => ?_
  refine bldHH hs2 fun y w3 hs3 => ?_
  have hx1 := Sep.oneR hs3.p1
  have hy1 := Sep.oneR hs3
  rw [B_flurrylaw23_names_0_1 hx1 hy1]
  refine St_flurrylaw23_names hs3.p2 (one_flurrylaw23_names hx1 hy1) fun w4 hs4 => ?_
  simp only [L_flurrylaw23_names hs4.blk, L_flurrylaw23_names__ids hs4.blk, L_flurrylaw23_names__heights hs4.blk]
  exact hR _ _ ⟨x, y, rfl, hx1, hy1, Sep.pick hs4 [2, 1] 3⟩
variable {g o : Nat} {nmA : Value → Value → Asn} {xv yv : Value} {ids : List (Vec 32)} {hts : List Int}
theorem names_id_spec {k : Nat} (hP : NmP g o nmA) (hs : Sep w0 w (nmA xv yv :: rows (rVec 32) xv ids :: As)) (h0 : 0 < ids.length) (hn : ids.length ≤ 1000000) (hk : k < 256) :
    cal P f_law23_names_id [.pointer (some ⟨g, o, none⟩), .int .u8 k] w fun r w' => r = kv (ids.getD (k % ids.length) (vz 32)) ∧ Fr [] w w' := by
  refine s_law23_names_id fun R hR => ?_
  unfold c_law23_names_id
  refine alloc_s (Sep.start w) (A_api_ID w) fun g4 w1 hs1 => ?_
  have hj := hs.join hs1
  refine drH_PH (S := fun u => Sep w u [blk g4 (Rdr.cells (rVec 32) (vz 32)).toArray T_api_ID]) hs1 (fun u hu => hu) fun w2 hs2 _ => ?_
  have hJ : ∀ {u : World}, Sep w u [blk g4 (Rdr.cells (rVec 32) (vz 32)).toArray T_api_ID] → Sep w0 u (nmA xv yv :: rows (rVec 32) xv ids :: blk g4 (Rdr.cells (rVec 32) (vz 32)).toArray T_api_ID :: As) := fun {u} hu => Sep.pick (hs.join hu) [1, 2, 0] 3
  simp only [nilc_some, fad_mk, pik_true, pik_false, cnd_true, cnd_false, gif_same, gif_tf, gif_ft, gif_undef, bi_add, bi_sub, bi_mul, bi_eql, bi_neq, bi_lss, bi_leq, bi_gtr, bi_geq, notB_bool, cvi_int, lenS_mk, lenT_mk, ext0, ext1, ext2, nilP_mk, nilS_mk, fldv_agg, jn0_k, jn1_k, jn2_k, jn1_and, jn1_or, ex_some, Option.isNone_some, Option.isNone_none, Bool.false_bne, Bool.bne_true, Bool.bne_false, Bool.true_bne, Bool.not_true, Bool.not_false, Bool.and_true, Bool.true_and, Bool.and_false, Bool.false_and, Bool.or_true, Bool.true_or, Bool.or_false, Bool.false_or, cond_true, cond_false, List.getElem?_toArray, List.getElem?_cons_zero, List.getElem?_cons_succ, Nat.zero_add, Nat.add_zero, Nat.reduceAdd, forall_const]
  refine rdS_ld (v := xv) (fun u hu K hk => by rw [hP.ldI (hJ hu)]; exact hk) ?_
  refine rdS_ld (v := xv) (fun u hu K hk => by rw [hP.ldI (hJ hu)]; exact hk) ?_
  have hlen : ∀ K, lenS xv K = K (.int .i64 ids.length) := (Sep.rows hs.p1).len
  rw [wi64 (by omega) (by omega), hlen, bi_rem _ _ _ _ (by omega), tmodn]
  have hlt := Nat.mod_lt k h0
  obtain ⟨a, ha⟩ : ∃ a, ids[k % ids.length]? = some a := ⟨_, List.getElem?_eq_getElem hlt⟩
  change ixs 32 _ _ _
  refine rdS_rowH (q := rVec 32) (by decide) hs2 (fun u hu => Sep.rows (hJ hu).p1) ha .i64 ?_
  refine efC_stN (St_api_ID (b := a) hs2 fun w3 hs3 => ?_)
  simp only [L_api_ID hs3.blk]
  refine hR _ _ ⟨?_, hs3.fr0⟩
  rw [List.getD_eq_getElem?_getD, ha]
  rfl
theorem names_block_spec {x : AA} (hP : NmP g o nmA) (hs : Sep w0 w (nmA xv yv :: rows (rVec 32) xv ids :: rows (rInt .i64) yv hts :: As)) (hl : hts.length = ids.length) (h0 : 0 < ids.length) (hn : ids.length ≤ 1000000)
    (hx : RdB w0.heap x.dv x.d ∧ RdB w0.heap x.bv x.b.d) (hp : ∀ y ∈ hts, 0 ≤ y) (hk : x.k < 256) (hbh : x.b.h ≤ maxI) :
    cal P f_law23_names_block [.pointer (some ⟨g, o, none⟩), .agg (Rdr.cells Q_flurrylaw23_Act x.t).toArray] w fun r w' => r = bq (bA ids hts x) x.v ∧ ∃ xv' yv', Sep w0 w' (nmA xv' yv' :: rows (rVec 32) xv' (addI ids (bA ids hts x)) :: rows (rInt .i64) yv' (addH hts (bA ids hts x)) :: As) := by
  refine s_law23_names_block fun R hR => ?_
  unfold c_law23_names_block
  refine bxQ hs fun g3 w1 hs1 => ?_
  refine alloc_s hs1 (A_api_Block w1) fun g4 w2 hs2 => ?_
  refine drw_s hs2 fun w3 hs3 _ => ?_
  have ek : (AA.t x).2.1 = (x.k : Int) := rfl
  have hlen : ∀ K, lenS xv K = K (.int .i64 ids.length) := (Sep.rows (Sep.p1 hs)).len
  simp only [nilc_some, fad_mk, pik_true, pik_false, cnd_true, cnd_false, gif_same, gif_tf, gif_ft, gif_undef, bi_add, bi_sub, bi_mul, bi_eql, bi_neq, bi_lss, bi_leq, bi_gtr, bi_geq, notB_bool, cvi_int, lenS_mk, lenT_mk, ext0, ext1, ext2, nilP_mk, nilS_mk, fldv_agg, jn0_k, jn1_k, jn2_k, jn1_and, jn1_or, ex_some, Option.isNone_some, Option.isNone_none, Bool.false_bne, Bool.bne_true, Bool.bne_false, Bool.true_bne, Bool.not_true, Bool.not_false, Bool.and_true, Bool.true_and, Bool.and_false, Bool.false_and, Bool.or_true, Bool.true_or, Bool.or_false, Bool.false_or, cond_true, cond_false, List.getElem?_toArray, List.getElem?_cons_zero, List.getElem?_cons_succ, Nat.zero_add, Nat.add_zero, Nat.reduceAdd, forall_const, L_flurrylaw23_Act (Sep.blk hs3.p1), L_flurrylaw23_Act__Do (Sep.blk hs3.p1), L_flurrylaw23_Act__K (Sep.blk hs3.p1), L_flurrylaw23_Act__Data (Sep.blk hs3.p1), L_flurrylaw23_Act__Poll (Sep.blk hs3.p1), L_flurrylaw23_Act__Node (Sep.blk hs3.p1), L_flurrylaw23_Act__Raw (Sep.blk hs3.p1), L_flurrylaw23_Act__B (Sep.blk hs3.p1), L_flurrylaw23_Act__B_Parent (Sep.blk hs3.p1), L_flurrylaw23_Act__B_Height (Sep.blk hs3.p1), L_flurrylaw23_Act__B_Data (Sep.blk hs3.p1), hP.ldI hs3.p2, ek, hlen]
  rw [wi64 (by omega) (by omega), bi_rem _ _ _ _ (by omega), tmodn]
  have hlt := Nat.mod_lt x.k h0
  obtain ⟨a, ha⟩ : ∃ a, ids[x.k % ids.length]? = some a := ⟨_, List.getElem?_eq_getElem hlt⟩
  obtain ⟨y, hy⟩ : ∃ y, hts[x.k % ids.length]? = some y := ⟨_, List.getElem?_eq_getElem (by omega)⟩
  have hy0 := hp y (List.mem_of_getElem? hy)
  refine drH_S hs3 fun w4 hs4 _ => ?_
  refine rdS_ld (v := xv) (fun u hu K hk => by rw [hP.ldI hu.p2]; exact hk) ?_
  change ixs 32 _ _ _
  refine rdS_rowH (q := rVec 32) (by decide) hs4 (fun u hu => Sep.rows hu.p3) ha .i64 ?_
  refine rdS_ld (v := yv) (fun u hu K hk => by rw [hP.ldH hu.p2]; exact hk) ?_
  change ixs 1 _ _ _
  refine rdS_rowIH hs4 (fun u hu => Sep.rows hu.p4) hy .i64 ?_
  refine ⟨.int .i64 (min y 4611686018427387904), fun u hu => by rw [min_int], ?_⟩
  simp only [nilc_some, fad_mk, pik_true, pik_false, cnd_true, cnd_false, gif_same, gif_tf, gif_ft, gif_undef, bi_add, bi_sub, bi_mul, bi_eql, bi_neq, bi_lss, bi_leq, bi_gtr, bi_geq, notB_bool, cvi_int, lenS_mk, lenT_mk, ext0, ext1, ext2, nilP_mk, nilS_mk, fldv_agg, jn0_k, jn1_k, jn2_k, jn1_and, jn1_or, ex_some, Option.isNone_some, Option.isNone_none, Bool.false_bne, Bool.bne_true, Bool.bne_false, Bool.true_bne, Bool.not_true, Bool.not_false, Bool.and_true, Bool.true_and, Bool.and_false, Bool.false_and, Bool.or_true, Bool.true_or, Bool.or_false, Bool.false_or, cond_true, cond_false, List.getElem?_toArray, List.getElem?_cons_zero, List.getElem?_cons_succ, Nat.zero_add, Nat.add_zero, Nat.reduceAdd, forall_const]
  rw [wi64 (by omega) (by omega)]
  refine rdS_ld (v := x.dv) (fun u hu K hk => (L_flurrylaw23_Act__Data (Sep.blk hu.p1) K).mpr hk) ?_
  refine ⟨bq ⟨a, min y 4611686018427387904 + 1, x.d⟩ x.dv, fun u hu => by rw [B_api_Block_0_1_2 hx.1.one], ?_⟩
  refine efS_i (alloc_s hs4 (A_api_Block w4) fun g6 w5 hs5 => ⟨hs5.tail, ?_⟩)
  refine efC_stN (St_api_Block (b := (a, min y 4611686018427387904 + 1, x.dv)) hs5 (one_api_Block hx.1.one) fun w6 hs6 => ?_)
  obtain ⟨b, hb⟩ : ∃ b, b = bA ids hts x := ⟨_, rfl⟩
  rw [← hb] at hR
  have hbd : ∀ {z : World}, Fr [] w0 z → RdB z.heap x.v b.d := fun {z} hz => by
    rw [hb]
    exact bA_rd ⟨hx.1.fr hz (off_nil _), hx.2.fr hz (off_nil _)⟩
  have hbh' : b.h ≤ maxI := by rw [hb]; exact bA_h hbh
  refine ⟨fun z => Sep w0 z (blk g6 (Rdr.cells Q_api_Block (b.p, b.h, x.v)).toArray T_api_Block :: blk g4 (Rdr.cells Q_api_Block (vz 32, (0 : Int), .slice none 0 0)).toArray T_api_Block :: blk g3 (Rdr.cells Q_flurrylaw23_Act x.t).toArray T_flurrylaw23_Act :: nmA xv yv :: rows (rVec 32) xv ids :: rows (rInt .i64) yv hts :: As), ?_, ?_⟩
  · have eraw : (AA.t x).2.2.2.2.2.1 = x.raw := rfl
    simp only [nilc_some, fad_mk, pik_true, pik_false, cnd_true, cnd_false, gif_same, gif_tf, gif_ft, gif_undef, bi_add, bi_sub, bi_mul, bi_eql, bi_neq, bi_lss, bi_leq, bi_gtr, bi_geq, notB_bool, cvi_int, lenS_mk, lenT_mk, ext0, ext1, ext2, nilP_mk, nilS_mk, fldv_agg, jn0_k, jn1_k, jn2_k, jn1_and, jn1_or, ex_some, Option.isNone_some, Option.isNone_none, Bool.false_bne, Bool.bne_true, Bool.bne_false, Bool.true_bne, Bool.not_true, Bool.not_false, Bool.and_true, Bool.true_and, Bool.and_false, Bool.false_and, Bool.or_true, Bool.true_or, Bool.or_false, Bool.false_or, cond_true, cond_false, List.getElem?_toArray, List.getElem?_cons_zero, List.getElem?_cons_succ, Nat.zero_add, Nat.add_zero, Nat.reduceAdd, forall_const, L_flurrylaw23_Act (Sep.blk hs6.p2), L_flurrylaw23_Act__Do (Sep.blk hs6.p2), L_flurrylaw23_Act__K (Sep.blk hs6.p2), L_flurrylaw23_Act__Data (Sep.blk hs6.p2), L_flurrylaw23_Act__Poll (Sep.blk hs6.p2), L_flurrylaw23_Act__Node (Sep.blk hs6.p2), L_flurrylaw23_Act__Raw (Sep.blk hs6.p2), L_flurrylaw23_Act__B (Sep.blk hs6.p2), L_flurrylaw23_Act__B_Parent (Sep.blk hs6.p2), L_flurrylaw23_Act__B_Height (Sep.blk hs6.p2), L_flurrylaw23_Act__B_Data (Sep.blk hs6.p2), eraw]
    rw [cnd_bool]
    refine ⟨fun h => ?_, fun h => ?_⟩
    · refine St_api_Block (b := (x.b.p, x.b.h, x.bv)) hs6 (one_api_Block hx.2.one) fun w7 hs7 => ?_
      have eb : b = x.b := by rw [hb]; unfold bA; rw [if_pos h]
      have ev : x.v = x.bv := by unfold AA.v; rw [if_pos h]
      rw [eb, ev]
      exact hs7
    · have h' : ¬ x.raw = true := by rw [h]; simp
      have eb : b = ⟨a, min y 4611686018427387904 + 1, x.d⟩ := by
        rw [hb]
        unfold bA
        rw [if_neg h', List.getD_eq_getElem?_getD, ha, List.getD_eq_getElem?_getD, hy]
        rfl
      have ev : x.v = x.dv := by unfold AA.v; rw [if_neg h']
      rw [eb, ev]
      exact hs6
  clear hs6 hs5 hs4 hs3 hs2 hs1
  rintro w7 hs7 _
  refine ⟨fun z => ∃ xv' yv', Sep w0 z (blk g6 (Rdr.cells Q_api_Block (b.p, b.h, x.v)).toArray T_api_Block :: blk g4 (Rdr.cells Q_api_Block (vz 32, (0 : Int), .slice none 0 0)).toArray T_api_Block :: nmA xv' yv' :: rows (rVec 32) xv' (addI ids b) :: rows (rInt .i64) yv' (addH hts b) :: As), ?_, ?_⟩
  · simp only [L_api_Block hs7.blk, L_api_Block__Parent hs7.blk, L_api_Block__Height hs7.blk, L_api_Block__Data hs7.blk]
    refine cal_i (rbID_spec (b := b) (v := x.v) (hbd hs7.fr0) hbh') ?_
    rintro _ w8 ⟨rfl, hf8⟩
    have hs8 := hs7.old hf8
    simp only [nilc_some, fad_mk, pik_true, pik_false, cnd_true, cnd_false, gif_same, gif_tf, gif_ft, gif_undef, bi_add, bi_sub, bi_mul, bi_eql, bi_neq, bi_lss, bi_leq, bi_gtr, bi_geq, notB_bool, cvi_int, lenS_mk, lenT_mk, ext0, ext1, ext2, nilP_mk, nilS_mk, fldv_agg, jn0_k, jn1_k, jn2_k, jn1_and, jn1_or, ex_some, Option.isNone_some, Option.isNone_none, Bool.false_bne, Bool.bne_true, Bool.bne_false, Bool.true_bne, Bool.not_true, Bool.not_false, Bool.and_true, Bool.true_and, Bool.and_false, Bool.false_and, Bool.or_true, Bool.true_or, Bool.or_false, Bool.false_or, cond_true, cond_false, List.getElem?_toArray, List.getElem?_cons_zero, List.getElem?_cons_succ, Nat.zero_add, Nat.add_zero, Nat.reduceAdd, forall_const]
    refine alloc_s hs8 (A_api_ID w8) fun g7 w9 hs9 => ?_
    refine St_api_ID hs9 fun w10 hs10 => ?_
    rw [cnd_bool]
    refine ⟨fun h => ?_, fun h => ?_⟩
    · have h : b.chk = 0 := by simpa using h
      have hnm : b.name = b.id := by unfold Blk.name; rw [if_pos h]
      have eI : addI ids b = ids ++ [b.id] := if_pos h
      have eH : addH hts b = hts ++ [b.h] := if_pos h
      rw [hnm] at hs10
      rw [eI, eH]
      replace hs10 : Sep w0 w10 (rows (rVec 32) xv ids :: rows (rInt .i64) yv hts :: blk g7 (Rdr.cells (rVec 32) b.id).toArray T_api_ID :: blk g6 (Rdr.cells Q_api_Block (b.p, b.h, x.v)).toArray T_api_Block :: nmA xv yv :: blk g4 (Rdr.cells Q_api_Block (vz 32, (0 : Int), .slice none 0 0)).toArray T_api_Block :: As) := Sep.pick hs10 [5, 6, 0, 1, 4, 2] 7
      refine drH_PH (S := fun u => Sep w0 u (blk g7 (Rdr.cells (rVec 32) b.id).toArray T_api_ID :: blk g6 (Rdr.cells Q_api_Block (b.p, b.h, x.v)).toArray T_api_Block :: nmA xv yv :: blk g4 (Rdr.cells Q_api_Block (vz 32, (0 : Int), .slice none 0 0)).toArray T_api_Block :: As)) hs10 (fun u hu => hu.tail.tail) fun w11 hs11 _ => ?_
      refine ⟨fun z => ∃ xv' yv', Sep w0 z (blk g6 (Rdr.cells Q_api_Block (b.p, b.h, x.v)).toArray T_api_Block :: blk g4 (Rdr.cells Q_api_Block (vz 32, (0 : Int), .slice none 0 0)).toArray T_api_Block :: nmA xv' yv' :: rows (rVec 32) xv' (ids ++ [b.id]) :: rows (rInt .i64) yv' (hts ++ [b.h]) :: As), ?_, fun _ h _ => h⟩
      simp only [nilc_some, fad_mk, pik_true, pik_false, cnd_true, cnd_false, gif_same, gif_tf, gif_ft, gif_undef, bi_add, bi_sub, bi_mul, bi_eql, bi_neq, bi_lss, bi_leq, bi_gtr, bi_geq, notB_bool, cvi_int, lenS_mk, lenT_mk, ext0, ext1, ext2, nilP_mk, nilS_mk, fldv_agg, jn0_k, jn1_k, jn2_k, jn1_and, jn1_or, ex_some, Option.isNone_some, Option.isNone_none, Bool.false_bne, Bool.bne_true, Bool.bne_false, Bool.true_bne, Bool.not_true, Bool.not_false, Bool.and_true, Bool.true_and, Bool.and_false, Bool.false_and, Bool.or_true, Bool.true_or, Bool.or_false, Bool.false_or, cond_true, cond_false, List.getElem?_toArray, List.getElem?_cons_zero, List.getElem?_cons_succ, Nat.zero_add, Nat.add_zero, Nat.reduceAdd, forall_const]
      refine rdS_ld (v := xv) (fun u hu K hk => by rw [hP.ldI hu.p2]; exact hk) ?_
      refine ⟨kv b.id, fun u hu => (L_api_ID (Sep.blk hu) _).mpr rfl, ?_⟩
      refine rdS_ld (v := yv) (fun u hu K hk => by rw [hP.ldH hu.p2]; exact hk) ?_
      refine rdS_ld (v := .int .i64 b.h) (fun u hu K hk => (L_api_Block__Height (Sep.blk hu.p1) K).mpr hk) ?_
      refine three_appH hs11 hn (by omega) fun x' y' z hz => ?_
      refine efC_st1 (hP.stI (Sep.pick hz [4, 0, 1, 2, 3, 5] 6) (Sep.oneR hz) fun z2 hz2 => ?_)
      refine efC_st1 (hP.stH hz2 (Sep.oneR hz2.p2) fun z3 hz3 => ?_)
      exact ⟨x', y', Sep.pick hz3 [4, 5, 0, 1, 2] 6⟩
    · have h : ¬ b.chk = 0 := by simpa using h
      have eI : addI ids b = ids := if_neg h
      have eH : addH hts b = hts := if_neg h
      rw [eI, eH]
      exact ⟨xv, yv, Sep.pick hs10 [1, 2, 4, 5, 6] 7⟩
  rintro w8 ⟨xv', yv', hs8⟩ _
  simp only [L_api_Block hs8.blk, L_api_Block__Parent hs8.blk, L_api_Block__Height hs8.blk, L_api_Block__Data hs8.blk]
  refine St_api_Block (b := (b.p, b.h, x.v)) hs8.p1 (one_api_Block (hbd hs8.fr0).one) fun w9 hs9 => ?_
  simp only [L_api_Block hs9.blk, L_api_Block__Parent hs9.blk, L_api_Block__Height hs9.blk, L_api_Block__Data hs9.blk]
  exact hR _ _ ⟨rfl, xv', yv', hs9.tail.tail⟩
end
end Go.Fx
set_option linter.unusedVariables false
set_option linter.unusedSimpArgs false
namespace Go.Fx
/-- From a name that waits to the one that it waits for. -/
def upW (ws : List Wt) (k : Vec 32) : Vec 32 := (gotW k ws).1.p
def upN (ws : List Wt) (k : Vec 32) : Nat → Vec 32
  | 0 => k
  | n + 1 => upW ws (upN ws k n)
/-- The way up from a name leaves what waits. -/
def Ends (ws : List Wt) (k : Vec 32) : Prop := ∃ n, (noW (upN ws k n) ws).isSome = false
theorem noW_mem {ws : List Wt} (hn : (ws.map (·.1)).Nodup) {x : Wt} (hx : x ∈ ws) : noW x.1 ws = some x := by
  induction ws with
  | nil => cases hx
  | cons y ws ih =>
    rw [List.map_cons, List.nodup_cons] at hn
    unfold noW at ih ⊢
    rcases List.mem_cons.1 hx with rfl | hx
    · rw [List.find?_cons_of_pos (by simp)]
    · rw [List.find?_cons_of_neg (by
        simp only [decide_eq_true_eq]
        intro he
        exact hn.1 (he ▸ List.mem_map_of_mem hx))]
      exact ih hn.2 hx
theorem noW_some {ws : List Wt} {k : Vec 32} {x : Wt} (h : noW k ws = some x) : x ∈ ws ∧ x.1 = k := by
  unfold noW at h
  exact ⟨List.mem_of_find?_eq_some h, by have h2 := List.find?_some h; simpa using h2⟩
theorem noW_isSome {ws : List Wt} {k : Vec 32} : (noW k ws).isSome = true ↔ k ∈ ws.map (·.1) := by
  unfold noW
  rw [List.find?_isSome, List.mem_map]
  constructor
  · rintro ⟨x, hx, h⟩; exact ⟨x, hx, of_decide_eq_true h⟩
  · rintro ⟨x, hx, h⟩; exact ⟨x, hx, decide_eq_true h⟩
/-- If all that waits waits for something that waits, and each way up ends, nothing waits. -/
theorem none_left {ws0 ws : List Wt} (hn : (ws0.map (·.1)).Nodup) (hsub : ∀ x ∈ ws, x ∈ ws0) (he : ∀ x ∈ ws, Ends ws0 x.1) (hp : ∀ x ∈ ws, (noW x.2.1.p ws).isSome = true) : ws = [] := by
  cases ws with
  | nil => rfl
  | cons x ws =>
    exfalso
    obtain ⟨n, hend⟩ := he x (List.mem_cons_self ..)
    have key : ∀ n, ∃ y ∈ x :: ws, y.1 = upN ws0 x.1 n := by
      intro n
      induction n with
      | zero => exact ⟨x, List.mem_cons_self .., rfl⟩
      | succ n ih =>
        obtain ⟨y, hy, hyn⟩ := ih
        have h1 := hp y hy
        obtain ⟨z, hz⟩ := Option.isSome_iff_exists.1 h1
        have hz' := noW_some hz
        refine ⟨z, hz'.1, ?_⟩
        show z.1 = upW ws0 (upN ws0 x.1 n)
        unfold upW gotW
        rw [← hyn, noW_mem hn (hsub y hy)]
        exact hz'.2
    obtain ⟨y, hy, hyn⟩ := key n
    rw [← hyn, noW_mem hn (hsub y hy)] at hend
    cases hend
theorem wantS_sub {ws : List Wt} {out : List (Vec 32)} {k x : Vec 32} (h : x ∈ wantS ws out k) : x ∈ out ∨ x = k := by
  unfold wantS at h
  split at h
  · exact .inl h
  · simpa using h
theorem want_sub (ws : List Wt) : ∀ (l out : List (Vec 32)) (x : Vec 32), x ∈ l.foldl (wantS ws) out → x ∈ out ∨ x ∈ l
  | [], out, x, h => .inl h
  | k :: l, out, x, h => by
    rcases want_sub ws l (wantS ws out k) x h with h | h
    · rcases wantS_sub h with h | h
      · exact .inl h
      · exact .inr (by rw [h]; exact List.mem_cons_self ..)
    · exact .inr (List.mem_cons_of_mem _ h)
theorem want_nil (ws : List Wt) : ∀ (l out : List (Vec 32)), l.foldl (wantS ws) out = [] → out = [] ∧ ∀ k ∈ l, (noW k ws).isSome = true
  | [], out, h => ⟨h, fun k hk => by cases hk⟩
  | a :: l, out, h => by
    obtain ⟨h1, h2⟩ := want_nil ws l (wantS ws out a) h
    unfold wantS at h1
    split at h1
    · rename_i hc
      refine ⟨h1, fun k hk => ?_⟩
      rcases List.mem_cons.1 hk with rfl | hk
      · rcases hc with hc | hc
        · exact hc
        · rw [h1] at hc; cases hc
      · exact h2 k hk
    · simp at h1
/-- What is wanted waits for something. -/
theorem wanted_mem {ws : List Wt} {vs : List (Int × Int × Vec 32 × Vec 32)} {k : Vec 32} (h : k ∈ wantedOf ws vs) : (∃ x ∈ ws, x.2.1.p = k) ∨ ∃ v ∈ vs, v.2.2.1 = k := by
  unfold wantedOf at h
  rcases want_sub _ _ _ _ h with h | h
  · rcases want_sub _ _ _ _ h with h | h
    · cases h
    · obtain ⟨x, hx, h⟩ := List.mem_map.1 h
      exact .inl ⟨x, hx, h⟩
  · obtain ⟨x, hx, h⟩ := List.mem_map.1 h
    exact .inr ⟨x, hx, h⟩
/-- If nothing is wanted, and each way up ends, nothing waits. -/
theorem wanted_left {ws0 ws : List Wt} {vs : List (Int × Int × Vec 32 × Vec 32)} (hn : (ws0.map (·.1)).Nodup) (hsub : ∀ x ∈ ws, x ∈ ws0) (he : ∀ x ∈ ws, Ends ws0 x.1) (h : wantedOf ws vs = []) : ws = [] ∧ vs = [] := by
  unfold wantedOf at h
  obtain ⟨h1, h2⟩ := want_nil _ _ _ h
  obtain ⟨_, h3⟩ := want_nil _ _ _ h1
  have e := none_left hn hsub he fun x hx => h3 _ (List.mem_map_of_mem (f := fun x : Wt => x.2.1.p) hx)
  refine ⟨e, ?_⟩
  cases vs with
  | nil => rfl
  | cons v vs =>
    have := h2 v.2.2.1 (by simp)
    rw [e] at this
    cases this
theorem wanted_nn : wantedOf [] [] = [] := rfl
section
variable {w0 w w' : World} {As : List Asn} {g : Nat} {bv vv : Value} {rb rv : Int} {ws : List Wt} {vs : List (Int × Int × Vec 32 × Vec 32)}
theorem round_spec {iv : Value} {ids : List (Vec 32)} (hr : HdR w.heap g bv vv rb rv ws vs) (hi : Rows' (rVec 32) w.heap iv ids) (hn : ws.length ≤ 1000000) (hil : ids.length ≤ 1000000) (hl : ∀ x ∈ ws, x.2.1.d.length ≤ 200) :
    cal P f_law23_round [.pointer (some ⟨g, 0, none⟩), iv] w fun r w' => (∃ b, r = .bool b ∧ (b = false → ∀ k ∈ ids, Ends ws k)) ∧ Fr [] w w' := by
  refine s_law23_round fun R hR => ?_
  unfold c_law23_round
  simp only [hi.len]
  refine ⟨fun y z => ∃ i : Nat, y = .int .i64 i ∧ i ≤ ids.length ∧ (∀ k ∈ ids.take i, Ends ws k) ∧ Fr [] w z, fun y _ => (ids.length - RowKit.intOf y).toNat, ⟨0, rfl, by omega, (fun k hk => by cases hk), Fr.refl _ _⟩, ?_⟩
  rintro _ w1 ⟨i, rfl, hi', hE, hf1⟩ -
  simp only [nilc_some, fad_mk, pik_true, pik_false, cnd_true, cnd_false, gif_same, gif_tf, gif_ft, gif_undef, bi_add, bi_sub, bi_mul, bi_eql, bi_neq, bi_lss, bi_leq, bi_gtr, bi_geq, notB_bool, cvi_int, lenS_mk, lenT_mk, ext0, ext1, ext2, nilP_mk, nilS_mk, fldv_agg, jn0_k, jn1_k, jn2_k, jn1_and, jn1_or, ex_some, Option.isNone_some, Option.isNone_none, Bool.false_bne, Bool.bne_true, Bool.bne_false, Bool.true_bne, Bool.not_true, Bool.not_false, Bool.and_true, Bool.true_and, Bool.and_false, Bool.false_and, Bool.or_true, Bool.true_or, Bool.or_false, Bool.false_or, cond_true, cond_false, List.getElem?_toArray, List.getElem?_cons_zero, List.getElem?_cons_succ, Nat.zero_add, Nat.add_zero, Nat.reduceAdd, forall_const]
  rw [cnd_bool]
  refine ⟨fun h => ?_, fun h => ?_⟩
  case refine_2 =>
    have hge : i = ids.length := by simp at h; omega
    rw [hge, List.take_of_length_le (Nat.le_refl _)] at hE
    exact hR _ _ ⟨⟨false, rfl, fun _ => hE⟩, hf1⟩
  have hlt : i < ids.length := by simp at h; omega
  obtain ⟨a, ha⟩ : ∃ a, ids[i]? = some a := ⟨_, List.getElem?_eq_getElem hlt⟩
  change ixs 32 _ _ _
  refine Rows'.ldN (q := rVec 32) (by decide) (hi.fr hf1) ha .i64 ?_
  refine alloc_s ((Sep.start w).old hf1) (A_api_ID w1) fun g6 w2 hs2 => ?_
  refine St_api_ID (b := a) hs2 fun w3 hs3 => ?_
  simp only [L_api_ID hs3.blk]
  refine alloc_s hs3 (A_api_ID w3) fun g7 w4 hs4 => ?_
  refine St_api_ID (b := a) hs4 fun w5 hs5 => ?_
  replace hs5 := hs5.p1.tail
  refine ⟨fun y z => ∃ n : Nat, y = .int .i64 n ∧ n ≤ ids.length + 1 ∧ Sep w z [blk g7 (Rdr.cells (rVec 32) (upN ws a n)).toArray T_api_ID], fun y _ => (ids.length + 1 - RowKit.intOf y).toNat, ⟨0, rfl, by omega, hs5⟩, ?_⟩
  clear hs5 hs4 hs3 hs2
  rintro _ w6 ⟨n, rfl, hn', hs6⟩ -
  simp only [L_api_ID hs6.blk]
  refine cal_i (hHas_spec (hs6.hd hr) hn hl (upN ws a n)) ?_
  rintro _ w7 ⟨rfl, hf7⟩
  have hs7 := hs6.old hf7
  cases hh : (noW (upN ws a n) ws).isSome with
  | false =>
    simp only [nilc_some, fad_mk, pik_true, pik_false, cnd_true, cnd_false, gif_same, gif_tf, gif_ft, gif_undef, bi_add, bi_sub, bi_mul, bi_eql, bi_neq, bi_lss, bi_leq, bi_gtr, bi_geq, notB_bool, cvi_int, lenS_mk, lenT_mk, ext0, ext1, ext2, nilP_mk, nilS_mk, fldv_agg, jn0_k, jn1_k, jn2_k, jn1_and, jn1_or, ex_some, Option.isNone_some, Option.isNone_none, Bool.false_bne, Bool.bne_true, Bool.bne_false, Bool.true_bne, Bool.not_true, Bool.not_false, Bool.and_true, Bool.true_and, Bool.and_false, Bool.false_and, Bool.or_true, Bool.true_or, Bool.or_false, Bool.false_or, cond_true, cond_false, List.getElem?_toArray, List.getElem?_cons_zero, List.getElem?_cons_succ, Nat.zero_add, Nat.add_zero, Nat.reduceAdd, forall_const]
    rw [cnd_bool]
    refine ⟨fun h => hR _ _ ⟨⟨true, rfl, fun h => by cases h⟩, hs7.fr0⟩, fun h => ?_⟩
    rw [wi64 (by omega) (by omega)]
    refine ⟨⟨i + 1, by simp, by omega, fun k hk => ?_, hs7.fr0⟩, by simp [RowKit.intOf]; omega⟩
    rw [List.take_add_one, ha] at hk
    rcases List.mem_append.1 hk with hk | hk
    · exact hE k hk
    · obtain rfl : k = a := by simpa using hk
      exact ⟨n, hh⟩
  | true =>
  simp only [nilc_some, fad_mk, pik_true, pik_false, cnd_true, cnd_false, gif_same, gif_tf, gif_ft, gif_undef, bi_add, bi_sub, bi_mul, bi_eql, bi_neq, bi_lss, bi_leq, bi_gtr, bi_geq, notB_bool, cvi_int, lenS_mk, lenT_mk, ext0, ext1, ext2, nilP_mk, nilS_mk, fldv_agg, jn0_k, jn1_k, jn2_k, jn1_and, jn1_or, ex_some, Option.isNone_some, Option.isNone_none, Bool.false_bne, Bool.bne_true, Bool.bne_false, Bool.true_bne, Bool.not_true, Bool.not_false, Bool.and_true, Bool.true_and, Bool.and_false, Bool.false_and, Bool.or_true, Bool.true_or, Bool.or_false, Bool.false_or, cond_true, cond_false, List.getElem?_toArray, List.getElem?_cons_zero, List.getElem?_cons_succ, Nat.zero_add, Nat.add_zero, Nat.reduceAdd, forall_const]
  rw [cnd_bool]
  refine ⟨fun h => ?_, fun h => ?_⟩
  · have hle : n ≤ ids.length := by simp at h; omega
    simp only [L_api_ID hs7.blk]
    refine cal_i (hGet_spec (hs7.hd hr) hn hl (upN ws a n)) ?_
    rintro _ w8 ⟨v, rfl, hs8⟩
    replace hs8 := hs7.join hs8
    simp only [nilc_some, fad_mk, pik_true, pik_false, cnd_true, cnd_false, gif_same, gif_tf, gif_ft, gif_undef, bi_add, bi_sub, bi_mul, bi_eql, bi_neq, bi_lss, bi_leq, bi_gtr, bi_geq, notB_bool, cvi_int, lenS_mk, lenT_mk, ext0, ext1, ext2, nilP_mk, nilS_mk, fldv_agg, jn0_k, jn1_k, jn2_k, jn1_and, jn1_or, ex_some, Option.isNone_some, Option.isNone_none, Bool.false_bne, Bool.bne_true, Bool.bne_false, Bool.true_bne, Bool.not_true, Bool.not_false, Bool.and_true, Bool.true_and, Bool.and_false, Bool.false_and, Bool.or_true, Bool.true_or, Bool.or_false, Bool.false_or, cond_true, cond_false, List.getElem?_toArray, List.getElem?_cons_zero, List.getElem?_cons_succ, Nat.zero_add, Nat.add_zero, Nat.reduceAdd, forall_const, hh, if_true]
    refine alloc_s hs8 (A_api_Block w8) fun g9 w9 hs9 => ?_
    refine St_api_Block hs9 (one_api_Block (Sep.one hs9.p1)) fun w10 hs10 => ?_
    simp only [nilc_some, fad_mk, pik_true, pik_false, cnd_true, cnd_false, gif_same, gif_tf, gif_ft, gif_undef, bi_add, bi_sub, bi_mul, bi_eql, bi_neq, bi_lss, bi_leq, bi_gtr, bi_geq, notB_bool, cvi_int, lenS_mk, lenT_mk, ext0, ext1, ext2, nilP_mk, nilS_mk, fldv_agg, jn0_k, jn1_k, jn2_k, jn1_and, jn1_or, ex_some, Option.isNone_some, Option.isNone_none, Bool.false_bne, Bool.bne_true, Bool.bne_false, Bool.true_bne, Bool.not_true, Bool.not_false, Bool.and_true, Bool.true_and, Bool.and_false, Bool.false_and, Bool.or_true, Bool.true_or, Bool.or_false, Bool.false_or, cond_true, cond_false, List.getElem?_toArray, List.getElem?_cons_zero, List.getElem?_cons_succ, Nat.zero_add, Nat.add_zero, Nat.reduceAdd, forall_const, show ((0 : Int) != 0) = false from rfl, L_api_Block hs10.blk, L_api_Block__Parent hs10.blk, L_api_Block__Height hs10.blk, L_api_Block__Data hs10.blk]
    refine St_api_ID (Sep.pick hs10 [2] 3) fun w11 hs11 => ?_
    rw [wi64 (by omega) (by omega)]
    exact ⟨⟨n + 1, by simp, by omega, hs11⟩, by simp [RowKit.intOf]; omega⟩
  · have hgt : ids.length < n := by simp at h; omega
    rw [cnd_bool]
    refine ⟨fun h => hR _ _ ⟨⟨true, rfl, fun h => by cases h⟩, hs7.fr0⟩, fun h => ?_⟩
    rw [wi64 (by omega) (by omega)]
    refine ⟨⟨i + 1, by simp, by omega, fun k hk => ?_, hs7.fr0⟩, by simp [RowKit.intOf]; omega⟩
    rw [List.take_add_one, ha] at hk
    rcases List.mem_append.1 hk with hk | hk
    · exact hE k hk
    · obtain rfl : k = a := by simpa using hk
      simp at h
      omega
end
end Go.Fx
set_option linter.unusedVariables false
set_option linter.unusedSimpArgs false
namespace Go.Fx
theorem Rows'.ldBo {w : World} {v : Value} {l : List Bool} {j : Nat} {a : Bool} (hr : Rows' rBool w.heap v l) (hj : l[j]? = some a) (k : IntKind) {K : Value → Prop} (h : K (.bool a)) : ixs 1 v (.int k (j : Int)) fun t => Go.Fx.ld1 t w.heap K := by
  obtain ⟨g, o, ha, hx⟩ := hr.ix (by decide) hj
  have hx' : ∀ K, ixs 1 v (.int k (j : Int)) K = K (.pointer (some ⟨g, o, none⟩)) := hx k
  rw [hx', At.ld1 (v := .bool a) ha]
  exact h
/-- What is known of what waits, and of the names. -/
structure HI (ws : List Wt) (ids : List (Vec 32)) (hts : List Int) : Prop where
  nd : (ws.map (·.1)).Nodup
  ok : ∀ x ∈ ws, x.2.1.chk = 0 ∧ x.1 = x.2.1.id ∧ x.2.1.h ≤ maxI
  mem : ∀ x ∈ ws, x.1 ∈ ids
  hl : hts.length = ids.length
  h0 : 0 < ids.length
  hp : ∀ y ∈ hts, 0 ≤ y
theorem HI.sm {ws : List Wt} {ids : List (Vec 32)} {hts : List Int} (h : HI ws ids hts) : ∀ x ∈ ws, x.2.1.d.length ≤ 200 := fun x hx => chk0_len (h.ok x hx).1
theorem HI.start : HI [] [m77] [3] := ⟨by simp, (fun x hx => by cases hx), (fun x hx => by cases hx), rfl, by simp, fun y hy => by simp at hy; omega⟩
theorem HI.name {ws : List Wt} {ids : List (Vec 32)} {hts : List Int} (h : HI ws ids hts) (b : Blk) : HI ws (addI ids b) (addH hts b) := by
  unfold addI addH
  by_cases hb : b.chk = 0
  · rw [if_pos hb, if_pos hb]
    refine ⟨h.nd, h.ok, fun x hx => List.mem_append_left _ (h.mem x hx), by rw [List.length_append, List.length_append, h.hl]; rfl, by rw [List.length_append]; have := h.h0; omega, fun y hy => ?_⟩
    rcases List.mem_append.1 hy with hy | hy
    · exact h.hp y hy
    · rw [List.mem_singleton.1 hy]; exact chk0_h hb
  · rw [if_neg hb, if_neg hb]
    exact h
theorem blkE0 {rb : Int} {ws : List Wt} {b : Blk} (h : blkE rb ws b = 0) : b.chk = 0 ∧ b.id ∉ ws.map (·.1) ∧ (ws.length : Int) < rb := by
  unfold blkE at h
  split at h
  · rename_i h1; exact absurd h h1
  rename_i h1
  split at h
  · cases h
  rename_i h2
  split at h
  · cases h
  rename_i h3
  exact ⟨Decidable.not_not.1 h1, fun hm => h2 (noW_isSome.2 hm), by omega⟩
theorem HI.block {ws : List Wt} {ids : List (Vec 32)} {hts : List Int} {rb : Int} {b : Blk} {v : Value} (h : HI ws (addI ids b) hts) (hb : blkE rb ws b = 0) (hh : b.h ≤ maxI) : HI (ws ++ [(b.id, b, v)]) (addI ids b) hts := by
  obtain ⟨h1, h2, _⟩ := blkE0 hb
  refine ⟨?_, fun x hx => ?_, fun x hx => ?_, h.hl, h.h0, h.hp⟩
  · rw [List.map_append, List.nodup_append]
    refine ⟨h.nd, by simp, fun x hx y hy he => ?_⟩
    simp only [List.map_cons, List.map_nil, List.mem_singleton] at hy
    exact h2 (hy ▸ he ▸ hx)
  · rcases List.mem_append.1 hx with hx | hx
    · exact h.ok x hx
    · rw [List.mem_singleton.1 hx]; exact ⟨h1, rfl, hh⟩
  · rcases List.mem_append.1 hx with hx | hx
    · exact h.mem x hx
    · rw [List.mem_singleton.1 hx]
      unfold addI
      rw [if_pos h1]
      simp
theorem addI_len (ids : List (Vec 32)) (b : Blk) : (addI ids b).length ≤ ids.length + 1 := by
  unfold addI
  split
  · simp
  · omega
theorem DatW.app {ws : List Wt} {E : List Asn} {k : Vec 32} {b : Blk} {v : Value} (h : DatW ws E) : DatW (ws ++ [(k, b, v)]) (ownB v b.d :: E) := fun x hx => by
  rcases List.mem_append.1 hx with hx | hx
  · exact List.mem_cons_of_mem _ (h x hx)
  · rw [List.mem_singleton.1 hx]; exact List.mem_cons_self ..
/-- Behind n acts. -/
def ESt (w z : World) (g : Nat) (rb rv : Int) (gx : Nat) (rp : Value) (n : Nat) : Prop :=
  ∃ bv vv xv yv ws vs ids hts E, HI ws ids hts ∧ ws.length + vs.length ≤ n ∧ ids.length ≤ n + 1 ∧ DatW ws E ∧ Sep w z (hdH g bv vv rb rv ws vs ++ (nmB gx (.pointer (some ⟨g, 0, none⟩)) rp xv yv :: rows (rVec 32) xv ids :: rows (rInt .i64) yv hts :: E))
theorem len_splitH {α : Type} (p : α → Bool) : ∀ l : List α, (l.filter p).length + (l.filter fun x => !p x).length = l.length
  | [] => rfl
  | a :: l => by
    have ih := len_splitH p l
    rw [List.filter_cons, List.filter_cons]
    cases h : p a <;> simp [h] <;> omega
theorem len_pos {α : Type} {p : α → Bool} {a : α} (hp : p a = true) {l : List α} (h : a ∈ l) : 0 < (l.filter p).length := List.length_pos_of_mem (List.mem_filter.2 ⟨h, hp⟩)
theorem out_lt {ws : List Wt} {vs : List (Int × Int × Vec 32 × Vec 32)} {k : Vec 32} (p : Vec 32 → Bool) (hk : k ∈ wantedOf ws vs) (hp : p k = true) : (ws.filter fun x => !p x.2.1.p).length + (vs.filter fun x => !p x.2.2.1).length < ws.length + vs.length := by
  have h1 := len_splitH (fun x : Wt => p x.2.1.p) ws
  have h2 := len_splitH (fun x : Int × Int × Vec 32 × Vec 32 => p x.2.2.1) vs
  rcases wanted_mem hk with ⟨x, hx, he⟩ | ⟨x, hx, he⟩
  · have := len_pos (p := fun x : Wt => p x.2.1.p) (a := x) (by rw [he]; exact hp) hx
    omega
  · have := len_pos (p := fun x : Int × Int × Vec 32 × Vec 32 => p x.2.2.1) (a := x) (by rw [he]; exact hp) hx
    omega
theorem out_le (ws : List Wt) (vs : List (Int × Int × Vec 32 × Vec 32)) (p : Vec 32 → Bool) : (ws.filter fun x => !p x.2.1.p).length + (vs.filter fun x => !p x.2.2.1).length ≤ ws.length + vs.length := by
  have h1 := len_splitH (fun x : Wt => p x.2.1.p) ws
  have h2 := len_splitH (fun x : Int × Int × Vec 32 × Vec 32 => p x.2.2.1) vs
  omega
theorem lost_has {ws : List Wt} {k : Vec 32} {L : List (Vec 32)} (h : LostIs ws k L) : k ∈ L := by
  obtain ⟨hf, n, rfl⟩ := h
  clear hf
  have grow : ∀ (l : List Wt) (L : List (Vec 32)), k ∈ L → k ∈ l.foldl lostS L := by
    intro l
    induction l with
    | nil => intro L h; exact h
    | cons a l ih =>
      intro L h
      rw [List.foldl_cons]
      refine ih _ ?_
      unfold lostS
      split
      · exact List.mem_append_left _ h
      · exact h
  induction n with
  | zero => exact List.mem_cons_self ..
  | succ n ih => exact grow ws _ ih
section
variable {w0 w : World} {As : List Asn}
theorem acts_spec {v : Value} {l : List AA} {g gx : Nat} {rb rv : Int} {rp : Value} {R : Value → World → Prop} (hC : Cub w) (hr : ARows w.heap v l) (hok : AOk l) (hl : l.length ≤ 60) {a : AA} {i : Nat} (hi : i < l.length) (ha : l[i]? = some a) {z : World} (hz : ESt w z g rb rv gx rp i) :
    ∀ K : World → Prop, (∀ z', ESt w z' g rb rv gx rp (i + 1) → K z') →
    ixs 40 v (.int .i64 (i : Int)) fun t70 =>
  ldN 40 t70 z.heap fun t71 =>
  efP P (Instr.alloc T_flurrylaw23_Act true (.tuple #[])) z fun t13 w =>
  stN 40 t13 t71 w fun w =>
  fad 0 t13 fun t72 =>
  ld1 t72 w.heap fun t73 =>
  bi BinOp.eql t73 (Value.int IntKind.i64 0) fun t75 =>
  cnd t75
  (drH w fun S w =>
  nilc (.pointer (some ⟨gx, 0, none⟩)) fun t78 =>
  fad 2 t78 fun t79 =>
  rdS S (fun w => ldN 40 t13 w.heap) fun t80 =>
  efC (cal P f_law23_names_block [t79, t80]) w fun S t81 w =>
  efC (cal P f_hold_Hold_Block [.pointer (some ⟨g, 0, none⟩), t81]) w fun S t82 w =>
  K w)
  (bi BinOp.eql t73 (Value.int IntKind.i64 1) fun t84 =>
  cnd t84
  (drH w fun S w =>
  fad 3 t13 fun t86 =>
  rdS S (fun w => ld1 t86 w.heap) fun t87 =>
  fad 4 t13 fun t88 =>
  rdS S (fun w => ld1 t88 w.heap) fun t89 =>
  nilc (.pointer (some ⟨gx, 0, none⟩)) fun t91 =>
  fad 2 t91 fun t92 =>
  fad 1 t13 fun t93 =>
  rdS S (fun w => ld1 t93 w.heap) fun t94 =>
  efS S (cal P f_law23_names_id [t92, t94]) w fun t95 w =>
  rdS S (rdP P (Instr.build T_api_HeldVote #[(0, t87), (1, t89), (2, t95)])) fun t96 =>
  efC (cal P f_hold_Hold_Vote [.pointer (some ⟨g, 0, none⟩), t96]) w fun S t97 w =>
  K w)
  (K w)) := by
  intro K hK
  obtain ⟨bv, vv, xv, yv, ws, vs, ids, hts, E, hI, hn, hil, hD, hs⟩ := hz
  have hak := hok a (List.mem_of_getElem? ha)
  have ham := List.mem_of_getElem? ha
  have ha' : (l.map AA.t)[i]? = some a.t := by rw [List.getElem?_map, ha]; rfl
  change ixs 40 _ _ _
  refine Rows'.ldN (q := Q_flurrylaw23_Act) (by decide) (hr.rw.fr hs.fr0) ha' .i64 ?_
  refine alloc_s hs (A_flurrylaw23_Act z) fun g13 w1 hs1 => ?_
  have hd := hr.d a ham
  refine St_flurrylaw23_Act (b := a.t) hs1 (one_flurrylaw23_Act hd.1.one hd.2.one) fun w2 hs2 => ?_
  have e0 : (AA.t a).1 = a.act := rfl
  simp only [nilc_some, fad_mk, pik_true, pik_false, cnd_true, cnd_false, gif_same, gif_tf, gif_ft, gif_undef, bi_add, bi_sub, bi_mul, bi_eql, bi_neq, bi_lss, bi_leq, bi_gtr, bi_geq, notB_bool, cvi_int, lenS_mk, lenT_mk, ext0, ext1, ext2, nilP_mk, nilS_mk, fldv_agg, jn0_k, jn1_k, jn2_k, jn1_and, jn1_or, ex_some, Option.isNone_some, Option.isNone_none, Bool.false_bne, Bool.bne_true, Bool.bne_false, Bool.true_bne, Bool.not_true, Bool.not_false, Bool.and_true, Bool.true_and, Bool.and_false, Bool.false_and, Bool.or_true, Bool.true_or, Bool.or_false, Bool.false_or, cond_true, cond_false, List.getElem?_toArray, List.getElem?_cons_zero, List.getElem?_cons_succ, Nat.zero_add, Nat.add_zero, Nat.reduceAdd, forall_const, L_flurrylaw23_Act hs2.blk, L_flurrylaw23_Act__Do hs2.blk, L_flurrylaw23_Act__K hs2.blk, L_flurrylaw23_Act__Data hs2.blk, L_flurrylaw23_Act__Poll hs2.blk, L_flurrylaw23_Act__Node hs2.blk, L_flurrylaw23_Act__Raw hs2.blk, L_flurrylaw23_Act__B hs2.blk, L_flurrylaw23_Act__B_Parent hs2.blk, L_flurrylaw23_Act__B_Height hs2.blk, L_flurrylaw23_Act__B_Data hs2.blk, e0]
  rw [cnd_bool]
  refine ⟨fun h => ?_, fun h => ?_⟩
  · refine drH_S hs2 fun w3 hs3 _ => ?_
    refine ⟨.agg (Rdr.cells Q_flurrylaw23_Act a.t).toArray, fun u hu => (L_flurrylaw23_Act (Sep.blk hu) _).mpr rfl, ?_⟩
    obtain ⟨b, hb⟩ : ∃ b, b = bA ids hts a := ⟨_, rfl⟩
    have hbh : b.h ≤ maxI := by rw [hb]; exact bA_h hak.2.1
    refine efC_cal (cal_i (names_block_spec (x := a) (nmP_B gx (.pointer (some ⟨g, 0, none⟩)) rp) (Sep.pick hs3 [4, 5, 6, 0, 1, 2, 3] 7) hI.hl hI.h0 (by omega) hd hI.hp hak.1 hak.2.1) ?_)
    rw [← hb]
    rintro _ w4 ⟨rfl, xv', yv', hs4⟩
    have hbd : RdB w4.heap a.v b.d := by rw [hb]; exact bA_rd ⟨hd.1.fr hs4.fr0 (off_nil _), hd.2.fr hs4.fr0 (off_nil _)⟩
    replace hs4 : Sep w w4 (hdH g bv vv rb rv ws vs ++ (nmB gx (.pointer (some ⟨g, 0, none⟩)) rp xv' yv' :: rows (rVec 32) xv' (addI ids b) :: rows (rInt .i64) yv' (addH hts b) :: E)) := Sep.pick hs4 [4, 5, 6, 0, 1, 2] 7
    have hal := addI_len ids b
    refine efC_cal (cal_i (hBlock_spec hs4 (hD.sub fun A hA => List.mem_cons_of_mem _ (List.mem_cons_of_mem _ (List.mem_cons_of_mem _ hA))) (hC.fr hs4.fr0) hbd hbh (by omega) hI.sm) ?_)
    rintro _ w5 ⟨rfl, ⟨_, hs5⟩ | ⟨hE, bv', vd, hs5⟩⟩
    · exact hK _ ⟨bv, vv, xv', yv', ws, vs, addI ids b, addH hts b, E, hI.name b, by omega, by omega, hD, hs5⟩
    · exact hK _ ⟨bv', vv, xv', yv', ws ++ [(b.id, b, vd)], vs, addI ids b, addH hts b, ownB vd b.d :: E, (hI.name b).block hE hbh, by simp; omega, by omega, hD.app, Sep.pick hs5 [0, 1, 2, 4, 5, 6, 3] 7⟩
  rw [cnd_bool]
  refine ⟨fun h => ?_, fun h => ?_⟩
  · refine drH_S hs2 fun w3 hs3 _ => ?_
    refine rdS_ld (v := .int .i64 a.poll) (fun u hu K hk => (L_flurrylaw23_Act__Poll (Sep.blk hu) K).mpr hk) ?_
    refine rdS_ld (v := .int .i64 a.node) (fun u hu K hk => (L_flurrylaw23_Act__Node (Sep.blk hu) K).mpr hk) ?_
    refine rdS_ld (v := .int .u8 a.k) (fun u hu K hk => (L_flurrylaw23_Act__K (Sep.blk hu) K).mpr hk) ?_
    refine efS_i (cal_i (names_id_spec (nmP_B gx (.pointer (some ⟨g, 0, none⟩)) rp) (Sep.pick hs3 [4, 5] 7) hI.h0 (by omega) hak.1) ?_)
    rintro _ w4 ⟨rfl, hf4⟩
    have hs4 := hs3.old hf4
    refine ⟨hs4, ?_⟩
    refine ⟨.agg (Rdr.cells Q_api_HeldVote (a.poll, a.node, ids.getD (a.k % ids.length) (vz 32), vz 32)).toArray, fun u hu => by rw [B_api_HeldVote_0_1_2], ?_⟩
    replace hs4 : Sep w w4 (hdH g bv vv rb rv ws vs ++ (nmB gx (.pointer (some ⟨g, 0, none⟩)) rp xv yv :: rows (rVec 32) xv ids :: rows (rInt .i64) yv hts :: E)) := hs4.tail
    refine efC_cal (cal_i (hVote_spec hs4 (hD.sub fun A hA => List.mem_cons_of_mem _ (List.mem_cons_of_mem _ (List.mem_cons_of_mem _ hA))) (by omega)) ?_)
    rintro _ w5 ⟨rfl, ⟨_, hs5⟩ | ⟨hE, vv', hs5⟩⟩
    · exact hK _ ⟨bv, vv, xv, yv, ws, vs, ids, hts, E, hI, by omega, by omega, hD, hs5⟩
    · exact hK _ ⟨bv, vv', xv, yv, ws, _, ids, hts, E, hI, by simp; omega, by omega, hD, hs5⟩
  · exact hK _ ⟨bv, vv, xv, yv, ws, vs, ids, hts, E, hI, by omega, by omega, hD, hs2.tail⟩
end
end Go.Fx
set_option linter.unusedVariables false
set_option linter.unusedSimpArgs false
namespace Go.Fx
theorem zIh (w : World) : (zeroValue T_int).run P w = .ok (.int .i64 0) w := by kernel_rfl
theorem al_mapI (w : World) : (Instr.alloc T_map_api_ID_int true (.tuple #[])).run P w = .ok (.pointer (some ⟨w.heap.size, 0, none⟩)) (w.alloc (.cells #[.map none] T_map_api_ID_int)) := by kernel_rfl
theorem al_int (w : World) : (Instr.alloc T_int true (.tuple #[])).run P w = .ok (.pointer (some ⟨w.heap.size, 0, none⟩)) (w.alloc (.cells #[.int .i64 0] T_int)) := by kernel_rfl
def CntF (f : Vec 32 → Option Value) (c : Vec 32 → Nat) : Prop := ∀ k, (f k).getD (.int .i64 0) = .int .i64 (c k)
/-- A map that counts. -/
def mpC (g : Nat) (c : Vec 32 → Nat) : Asn := Asn.ex fun f => (Asn.pr (CntF f c)).star (mpF g f)
def incC (c : Vec 32 → Nat) (k : Vec 32) : Vec 32 → Nat := fun k' => if k' = k then c k + 1 else c k'
def incL (c : Vec 32 → Nat) (l : List (Vec 32)) : Vec 32 → Nat := l.foldl incC c
theorem incL_snoc (c : Vec 32 → Nat) (l : List (Vec 32)) (k : Vec 32) : incL c (l ++ [k]) = incC (incL c l) k := by
  unfold incL
  rw [List.foldl_append]
  rfl
theorem incL_app (c : Vec 32 → Nat) (l m : List (Vec 32)) : incL c (l ++ m) = incL (incL c l) m := by
  unfold incL
  rw [List.foldl_append]
theorem incL_one (k : Vec 32) : ∀ (l : List (Vec 32)) (c : Vec 32 → Nat), l.Nodup → incL c l k = c k + if k ∈ l then 1 else 0
  | [], c, _ => by simp [incL]
  | x :: l, c, hn => by
    have h1 := List.nodup_cons.1 hn
    have ih := incL_one k l (incC c x) h1.2
    have e : incL c (x :: l) = incL (incC c x) l := rfl
    rw [e, ih]
    unfold incC
    by_cases hk : k = x
    · subst hk
      rw [if_pos rfl, if_neg h1.1, if_pos (List.mem_cons_self ..)]
    · rw [if_neg hk]
      by_cases hl : k ∈ l
      · rw [if_pos hl, if_pos (List.mem_cons_of_mem _ hl)]
      · rw [if_neg hl, if_neg (by simp [hk, hl])]
theorem incL_le (k : Vec 32) (l : List (Vec 32)) (c : Vec 32 → Nat) : incL c l k ≤ c k + l.length := by
  induction l generalizing c with
  | nil => exact Nat.le_refl _
  | cons x l ih =>
    have h1 := ih (incC c x)
    have e : incL c (x :: l) = incL (incC c x) l := rfl
    rw [e]
    unfold incC at h1 ⊢
    simp only [List.length_cons]
    by_cases hk : k = x
    · rw [if_pos hk] at h1
      subst hk
      omega
    · rw [if_neg hk] at h1
      omega
section
variable {w0 w : World} {As : List Asn}
theorem mpC_open {g : Nat} {c : Vec 32 → Nat} (h : Sep w0 w (mpC g c :: As)) : ∃ f, CntF f c ∧ Sep w0 w (mpF g f :: As) := by
  unfold mpC at h
  rw [Sep_ex] at h
  obtain ⟨f, h⟩ := h
  rw [Sep_star, Sep_pr] at h
  exact ⟨f, h.1, h.2⟩
theorem mpC_close {g : Nat} {c : Vec 32 → Nat} {f : Vec 32 → Option Value} (hf : CntF f c) (h : Sep w0 w (mpF g f :: As)) : Sep w0 w (mpC g c :: As) := by
  unfold mpC
  rw [Sep_ex]
  exact ⟨f, by rw [Sep_star, Sep_pr]; exact ⟨hf, h⟩⟩
theorem mpC_look {g : Nat} {c : Vec 32 → Nat} (h : Sep w0 w (mpC g c :: As)) (k : Vec 32) (K : Value → Prop) : rdP P (Instr.lookup T_map_api_ID_int (.map (some g)) (kv k) false) w K = K (.int .i64 (c k)) := by
  obtain ⟨f, hf, hs⟩ := mpC_open h
  rw [lookF1 U_map_api_ID_int KTh zIh (mpF_rd hs) k, hf]
/-- What a region that draws may look at while a count goes up. -/
def IncS (w0 : World) (As : List Asn) (gm : Nat) (c : Vec 32 → Nat) (k : Vec 32) : World → Prop := fun u => Sep w0 u As ∧ ∃ f, MpR u.heap gm f ∧ (f k).getD (.int .i64 0) = .int .i64 (c k)
theorem IncS.of {gm : Nat} {c : Vec 32 → Nat} {k : Vec 32} {u : World} (h : Sep w0 u (mpC gm c :: As)) : IncS w0 As gm c k u := by
  obtain ⟨f, hf, hs⟩ := mpC_open h
  exact ⟨hs.tail, f, mpF_rd hs, hf k⟩
theorem inc_s {gm : Nat} {c : Vec 32 → Nat} {k : Vec 32} (hs : Sep w0 w (mpC gm c :: As)) (hc : c k ≤ 1000000) {K : World → Prop} (h : ∀ w', Sep w0 w' (mpC gm (incC c k) :: As) → K w') :
    rdS (IncS w0 As gm c k) (rdP P (Instr.lookup T_map_api_ID_int (.map (some gm)) (kv k) false)) fun t87 =>
    bi BinOp.add t87 (.int .i64 1) fun t88 =>
    efS (IncS w0 As gm c k) (efP P (Instr.mapEntry T_map_api_ID_int (.map (some gm)) (kv k))) w fun t89 w =>
    ext 1 t89 fun t90 =>
    efC (fun w K => efU P (Instr.entryStore T_map_api_ID_int (.map (some gm)) t90 t88) w (K undef)) w fun S _ w => K w := by
  refine ⟨.int .i64 (c k), fun u hu => by
    obtain ⟨_, f, hf, h0⟩ := hu
    rw [lookF1 U_map_api_ID_int KTh zIh hf k, h0], ?_⟩
  obtain ⟨f, hf, hs⟩ := mpC_open hs
  simp only [nilc_some, fad_mk, pik_true, pik_false, cnd_true, cnd_false, gif_same, gif_tf, gif_ft, gif_undef, bi_add, bi_sub, bi_mul, bi_eql, bi_neq, bi_lss, bi_leq, bi_gtr, bi_geq, notB_bool, cvi_int, lenS_mk, lenT_mk, ext0, ext1, ext2, nilP_mk, nilS_mk, fldv_agg, jn0_k, jn1_k, jn2_k, jn1_and, jn1_or, ex_some, Option.isNone_some, Option.isNone_none, Bool.false_bne, Bool.bne_true, Bool.bne_false, Bool.true_bne, Bool.not_true, Bool.not_false, Bool.and_true, Bool.true_and, Bool.and_false, Bool.false_and, Bool.or_true, Bool.true_or, Bool.or_false, Bool.false_or, cond_true, cond_false, List.getElem?_toArray, List.getElem?_cons_zero, List.getElem?_cons_succ, Nat.zero_add, Nat.add_zero, Nat.reduceAdd, forall_const]
  refine efS_i (entF_s U_map_api_ID_int KTh zIh hs fun b w1 hs1 => ⟨⟨hs1.tail, _, mpB_rd hs1, ?_⟩, ?_⟩)
  · unfold updF
    rw [if_pos rfl]
    exact hf k
  simp only [nilc_some, fad_mk, pik_true, pik_false, cnd_true, cnd_false, gif_same, gif_tf, gif_ft, gif_undef, bi_add, bi_sub, bi_mul, bi_eql, bi_neq, bi_lss, bi_leq, bi_gtr, bi_geq, notB_bool, cvi_int, lenS_mk, lenT_mk, ext0, ext1, ext2, nilP_mk, nilS_mk, fldv_agg, jn0_k, jn1_k, jn2_k, jn1_and, jn1_or, ex_some, Option.isNone_some, Option.isNone_none, Bool.false_bne, Bool.bne_true, Bool.bne_false, Bool.true_bne, Bool.not_true, Bool.not_false, Bool.and_true, Bool.true_and, Bool.and_false, Bool.false_and, Bool.or_true, Bool.true_or, Bool.or_false, Bool.false_or, cond_true, cond_false, List.getElem?_toArray, List.getElem?_cons_zero, List.getElem?_cons_succ, Nat.zero_add, Nat.add_zero, Nat.reduceAdd, forall_const]
  rw [wi64 (by omega) (by omega)]
  refine efC_efU (entStF_s hs1 fun w2 hs2 => h w2 (mpC_close ?_ hs2))
  intro k'
  unfold updF incC
  by_cases hk : k' = k
  · rw [if_pos hk, if_pos hk]
    simp
  · rw [if_neg hk, if_neg hk, if_neg hk]
    exact hf k'
variable {gg g11 g13 : Nat} {cg : Vec 32 → Nat} {told : Nat}
/-- What went out is counted. -/
theorem out_spec {bv iv vv : Value} {os : List (Blk × Value)} {ks : List (Vec 32)} {vs : List (Int × Int × Vec 32 × Vec 32)} (hs : Sep w0 w (mpC gg cg :: blk g11 #[.map (some gg)] T_map_api_ID_int :: blk g13 #[.int .i64 told] T_int :: As))
    (hb : ∀ z, Sep w0 z As → Rows' Q_api_Block z.heap bv (os.map Wb) ∧ ∀ y ∈ os, RdB z.heap y.2 y.1.d) (hi : ∀ z, Sep w0 z As → Rows' (rVec 32) z.heap iv ks) (hv : ∀ z, Sep w0 z As → Rows' Q_api_HeldVote z.heap vv vs)
    (hok : ∀ y ∈ os, y.1.chk = 0 ∧ y.1.h ≤ maxI) (hol : os.length ≤ 1000) (hkl : ks.length ≤ 1000) (hvl : vs.length ≤ 1000) (htl : told ≤ 1000) (hcl : ∀ k, cg k ≤ 1000) :
    cal P f_law23_HoldOnce_1 [bv, iv, vv, .pointer (some ⟨g11, 0, none⟩), .pointer (some ⟨g13, 0, none⟩)] w fun r w' => r = .tuple #[] ∧
      Sep w0 w' (mpC gg (incL cg (os.map (·.1.id) ++ ks)) :: blk g11 #[.map (some gg)] T_map_api_ID_int :: blk g13 #[.int .i64 ((told + vs.length : Nat) : Int)] T_int :: As) := by
  refine s_law23_HoldOnce_1 fun R hR => ?_
  unfold c_law23_HoldOnce_1
  have hlo : ∀ K, lenS bv K = K (.int .i64 os.length) := fun K => by
    have := (hb w hs.tail.tail.tail).1.len K
    rwa [List.length_map] at this
  have hlk : ∀ K, lenS iv K = K (.int .i64 ks.length) := (hi w hs.tail.tail.tail).len
  have hlv : ∀ K, lenS vv K = K (.int .i64 vs.length) := (hv w hs.tail.tail.tail).len
  simp only [hlo, hlk, hlv]
  refine ⟨fun y z => ∃ i : Nat, y = .int .i64 i ∧ i ≤ os.length ∧ Sep w0 z (mpC gg (incL cg ((os.take i).map (·.1.id))) :: blk g11 #[.map (some gg)] T_map_api_ID_int :: blk g13 #[.int .i64 told] T_int :: As), fun y _ => (os.length - RowKit.intOf y).toNat, ⟨0, rfl, by omega, hs⟩, ?_⟩
  clear hs
  rintro _ w1 ⟨i, rfl, hi', hs1⟩ -
  simp only [nilc_some, fad_mk, pik_true, pik_false, cnd_true, cnd_false, gif_same, gif_tf, gif_ft, gif_undef, bi_add, bi_sub, bi_mul, bi_eql, bi_neq, bi_lss, bi_leq, bi_gtr, bi_geq, notB_bool, cvi_int, lenS_mk, lenT_mk, ext0, ext1, ext2, nilP_mk, nilS_mk, fldv_agg, jn0_k, jn1_k, jn2_k, jn1_and, jn1_or, ex_some, Option.isNone_some, Option.isNone_none, Bool.false_bne, Bool.bne_true, Bool.bne_false, Bool.true_bne, Bool.not_true, Bool.not_false, Bool.and_true, Bool.true_and, Bool.and_false, Bool.false_and, Bool.or_true, Bool.true_or, Bool.or_false, Bool.false_or, cond_true, cond_false, List.getElem?_toArray, List.getElem?_cons_zero, List.getElem?_cons_succ, Nat.zero_add, Nat.add_zero, Nat.reduceAdd, forall_const]
  rw [cnd_bool]
  refine ⟨fun h => ?_, fun h => ?_⟩
  · have hlt : i < os.length := by simp at h; omega
    obtain ⟨e, he⟩ : ∃ e, os[i]? = some e := ⟨_, List.getElem?_eq_getElem hlt⟩
    have hem := List.mem_of_getElem? he
    have he' : (os.map Wb)[i]? = some (Wb e) := by rw [List.getElem?_map, he]; rfl
    have etk : (os.take (i + 1)).map (·.1.id) = (os.take i).map (·.1.id) ++ [e.1.id] := by
      rw [List.take_add_one, he, List.map_append]
      rfl
    have hcc : incL cg ((os.take i).map (·.1.id)) e.1.id ≤ 1000000 := by
      have h1 := incL_le e.1.id ((os.take i).map (·.1.id)) cg
      have h2 := hcl e.1.id
      rw [List.length_map, List.length_take] at h1
      omega
    refine ⟨fun z => Sep w0 z (mpC gg (incL cg ((os.take (i + 1)).map (·.1.id))) :: blk g11 #[.map (some gg)] T_map_api_ID_int :: blk g13 #[.int .i64 told] T_int :: As), ?_, ?_⟩
    · change ixs 34 _ _ _
      refine Rows'.ldN (q := Q_api_Block) (by decide) (hb w1 hs1.tail.tail.tail).1 he' .i64 ?_
      refine alloc_s hs1 (A_api_Block w1) fun g9 w2 hs2 => ?_
      refine St_api_Block (b := Wb e) hs2 (one_api_Block ((hb w1 hs1.tail.tail.tail).2 e hem).one) fun w3 hs3 => ?_
      simp only [L_api_Block hs3.blk, L_api_Block__Parent hs3.blk, L_api_Block__Height hs3.blk, L_api_Block__Data hs3.blk]
      refine cal_i (rbID_spec (b := e.1) (v := e.2) ((hb w3 hs3.tail.tail.tail.tail).2 e hem) (hok e hem).2) ?_
      rintro _ w4 ⟨rfl, hf4⟩
      have hs4 := hs3.old hf4
      have hnm : e.1.name = e.1.id := by unfold Blk.name; rw [if_pos (hok e hem).1]
      rw [hnm, (hok e hem).1]
      simp only [nilc_some, fad_mk, pik_true, pik_false, cnd_true, cnd_false, gif_same, gif_tf, gif_ft, gif_undef, bi_add, bi_sub, bi_mul, bi_eql, bi_neq, bi_lss, bi_leq, bi_gtr, bi_geq, notB_bool, cvi_int, lenS_mk, lenT_mk, ext0, ext1, ext2, nilP_mk, nilS_mk, fldv_agg, jn0_k, jn1_k, jn2_k, jn1_and, jn1_or, ex_some, Option.isNone_some, Option.isNone_none, Bool.false_bne, Bool.bne_true, Bool.bne_false, Bool.true_bne, Bool.not_true, Bool.not_false, Bool.and_true, Bool.true_and, Bool.and_false, Bool.false_and, Bool.or_true, Bool.true_or, Bool.or_false, Bool.false_or, cond_true, cond_false, List.getElem?_toArray, List.getElem?_cons_zero, List.getElem?_cons_succ, Nat.zero_add, Nat.add_zero, Nat.reduceAdd, forall_const]
      refine alloc_s hs4 (A_api_ID w4) fun g10 w5 hs5 => ?_
      refine St_api_ID hs5 fun w6 hs6 => ?_
      simp only [nilc_some, fad_mk, pik_true, pik_false, cnd_true, cnd_false, gif_same, gif_tf, gif_ft, gif_undef, bi_add, bi_sub, bi_mul, bi_eql, bi_neq, bi_lss, bi_leq, bi_gtr, bi_geq, notB_bool, cvi_int, lenS_mk, lenT_mk, ext0, ext1, ext2, nilP_mk, nilS_mk, fldv_agg, jn0_k, jn1_k, jn2_k, jn1_and, jn1_or, ex_some, Option.isNone_some, Option.isNone_none, Bool.false_bne, Bool.bne_true, Bool.bne_false, Bool.true_bne, Bool.not_true, Bool.not_false, Bool.and_true, Bool.true_and, Bool.and_false, Bool.false_and, Bool.or_true, Bool.true_or, Bool.or_false, Bool.false_or, cond_true, cond_false, List.getElem?_toArray, List.getElem?_cons_zero, List.getElem?_cons_succ, Nat.zero_add, Nat.add_zero, Nat.reduceAdd, forall_const, show ((0 : Int) == 0) = true from rfl]
      replace hs6 : Sep w0 w6 (mpC gg (incL cg ((os.take i).map (·.1.id))) :: blk g11 #[.map (some gg)] T_map_api_ID_int :: blk g10 (Rdr.cells (rVec 32) e.1.id).toArray T_api_ID :: blk g13 #[.int .i64 told] T_int :: As) := Sep.pick hs6 [2, 3, 0, 4] 5
      refine drH_PH (S := IncS w0 (blk g11 #[.map (some gg)] T_map_api_ID_int :: blk g10 (Rdr.cells (rVec 32) e.1.id).toArray T_api_ID :: blk g13 #[.int .i64 told] T_int :: As) gg (incL cg ((os.take i).map (·.1.id))) e.1.id) hs6 (fun u hu => IncS.of hu) fun w7 hs7 _ => ?_
      refine rdS_ld (v := .map (some gg)) (fun u hu K hk => ld1_i (Sep.blk hu.1) rfl hk) ?_
      refine ⟨kv e.1.id, fun u hu => (L_api_ID (Sep.blk hu.1.p1) _).mpr rfl, ?_⟩
      refine inc_s hs7 hcc fun w8 hs8 => ?_
      rw [etk, incL_snoc]
      exact Sep.pick hs8 [0, 1, 3] 4
    · rintro w2 hs2 _
      rw [wi64 (by omega) (by omega)]
      exact ⟨⟨i + 1, by simp, by omega, hs2⟩, by simp [RowKit.intOf]; omega⟩
  have hge : i = os.length := by simp at h; omega
  rw [hge, List.take_of_length_le (Nat.le_refl _)] at hs1
  refine ⟨fun y z => ∃ i : Nat, y = .int .i64 i ∧ i ≤ ks.length ∧ Sep w0 z (mpC gg (incL cg (os.map (·.1.id) ++ ks.take i)) :: blk g11 #[.map (some gg)] T_map_api_ID_int :: blk g13 #[.int .i64 told] T_int :: As), fun y _ => (ks.length - RowKit.intOf y).toNat, ⟨0, rfl, by omega, by rw [List.take_zero, List.append_nil]; exact hs1⟩, ?_⟩
  clear hs1 h hge hi'
  rintro _ w2 ⟨j, rfl, hj, hs2⟩ -
  simp only [nilc_some, fad_mk, pik_true, pik_false, cnd_true, cnd_false, gif_same, gif_tf, gif_ft, gif_undef, bi_add, bi_sub, bi_mul, bi_eql, bi_neq, bi_lss, bi_leq, bi_gtr, bi_geq, notB_bool, cvi_int, lenS_mk, lenT_mk, ext0, ext1, ext2, nilP_mk, nilS_mk, fldv_agg, jn0_k, jn1_k, jn2_k, jn1_and, jn1_or, ex_some, Option.isNone_some, Option.isNone_none, Bool.false_bne, Bool.bne_true, Bool.bne_false, Bool.true_bne, Bool.not_true, Bool.not_false, Bool.and_true, Bool.true_and, Bool.and_false, Bool.false_and, Bool.or_true, Bool.true_or, Bool.or_false, Bool.false_or, cond_true, cond_false, List.getElem?_toArray, List.getElem?_cons_zero, List.getElem?_cons_succ, Nat.zero_add, Nat.add_zero, Nat.reduceAdd, forall_const]
  rw [cnd_bool]
  refine ⟨fun h => ?_, fun h => ?_⟩
  · have hlt : j < ks.length := by simp at h; omega
    obtain ⟨e, he⟩ : ∃ e, ks[j]? = some e := ⟨_, List.getElem?_eq_getElem hlt⟩
    have etk : os.map (·.1.id) ++ ks.take (j + 1) = os.map (·.1.id) ++ ks.take j ++ [e] := by
      rw [List.take_add_one, he, List.append_assoc]
      rfl
    have hcc : incL cg (os.map (·.1.id) ++ ks.take j) e ≤ 1000000 := by
      have h1 := incL_le e (os.map (·.1.id) ++ ks.take j) cg
      have h2 := hcl e
      rw [List.length_append, List.length_map, List.length_take] at h1
      omega
    change ixs 32 _ _ _
    refine Rows'.ldN (q := rVec 32) (by decide) (hi w2 hs2.tail.tail.tail) he .i64 ?_
    refine alloc_s hs2 (A_api_ID w2) fun g10 w3 hs3 => ?_
    refine St_api_ID (b := e) hs3 fun w4 hs4 => ?_
    replace hs4 : Sep w0 w4 (mpC gg (incL cg (os.map (·.1.id) ++ ks.take j)) :: blk g11 #[.map (some gg)] T_map_api_ID_int :: blk g10 (Rdr.cells (rVec 32) e).toArray T_api_ID :: blk g13 #[.int .i64 told] T_int :: As) := Sep.pick hs4 [1, 2, 0, 3] 4
    refine drH_PH (S := IncS w0 (blk g11 #[.map (some gg)] T_map_api_ID_int :: blk g10 (Rdr.cells (rVec 32) e).toArray T_api_ID :: blk g13 #[.int .i64 told] T_int :: As) gg (incL cg (os.map (·.1.id) ++ ks.take j)) e) hs4 (fun u hu => IncS.of hu) fun w5 hs5 _ => ?_
    refine rdS_ld (v := .map (some gg)) (fun u hu K hk => ld1_i (Sep.blk hu.1) rfl hk) ?_
    refine ⟨kv e, fun u hu => (L_api_ID (Sep.blk hu.1.p1) _).mpr rfl, ?_⟩
    refine inc_s hs5 hcc fun w6 hs6 => ?_
    rw [wi64 (by omega) (by omega)]
    refine ⟨⟨j + 1, by simp, by omega, ?_⟩, by simp [RowKit.intOf]; omega⟩
    rw [etk, incL_snoc]
    exact Sep.pick hs6 [0, 1, 3] 4
  have hge : j = ks.length := by simp at h; omega
  rw [hge, List.take_of_length_le (Nat.le_refl _)] at hs2
  refine ld1_i (v := .int .i64 told) (Sep.blk hs2.p2) rfl ?_
  simp only [nilc_some, fad_mk, pik_true, pik_false, cnd_true, cnd_false, gif_same, gif_tf, gif_ft, gif_undef, bi_add, bi_sub, bi_mul, bi_eql, bi_neq, bi_lss, bi_leq, bi_gtr, bi_geq, notB_bool, cvi_int, lenS_mk, lenT_mk, ext0, ext1, ext2, nilP_mk, nilS_mk, fldv_agg, jn0_k, jn1_k, jn2_k, jn1_and, jn1_or, ex_some, Option.isNone_some, Option.isNone_none, Bool.false_bne, Bool.bne_true, Bool.bne_false, Bool.true_bne, Bool.not_true, Bool.not_false, Bool.and_true, Bool.true_and, Bool.and_false, Bool.false_and, Bool.or_true, Bool.true_or, Bool.or_false, Bool.false_or, cond_true, cond_false, List.getElem?_toArray, List.getElem?_cons_zero, List.getElem?_cons_succ, Nat.zero_add, Nat.add_zero, Nat.reduceAdd, forall_const]
  rw [wi64 (by omega) (by omega)]
  refine st1_s hs2.p2 (by simp) rfl fun w3 hs3 => ?_
  refine hR _ _ ⟨rfl, ?_⟩
  have e1 : ((told : Int) + (vs.length : Int)) = ((told + vs.length : Nat) : Int) := by omega
  rw [e1] at hs3
  exact Sep.pick hs3 [1, 2, 0] 3
end
end Go.Fx
set_option linter.unusedVariables false
set_option linter.unusedSimpArgs false
namespace Go.Fx
def inW (k : Vec 32) (ws : List Wt) : Nat := if k ∈ ws.map (·.1) then 1 else 0
theorem inW_split (p : Wt → Bool) (k : Vec 32) {ws : List Wt} (hn : (ws.map (·.1)).Nodup) : inW k (ws.filter p) + inW k (ws.filter fun x => !p x) = inW k ws := by
  induction ws with
  | nil => rfl
  | cons x ws ih =>
    rw [List.map_cons, List.nodup_cons] at hn
    have ih := ih hn.2
    have hsub : ∀ q : Wt → Bool, k ∉ ws.map (·.1) → inW k (ws.filter q) = 0 := fun q hk => by
      unfold inW
      rw [if_neg]
      intro h
      obtain ⟨y, hy, he⟩ := List.mem_map.1 h
      exact hk (he ▸ List.mem_map_of_mem (List.mem_filter.1 hy).1)
    have hcons : ∀ l : List Wt, inW k (x :: l) = if k = x.1 then 1 else inW k l := fun l => by
      unfold inW
      rw [List.map_cons]
      by_cases h : k = x.1
      · rw [if_pos h, if_pos (by rw [h]; exact List.mem_cons_self ..)]
      · rw [if_neg h]
        by_cases h2 : k ∈ l.map (·.1)
        · rw [if_pos h2, if_pos (List.mem_cons_of_mem _ h2)]
        · rw [if_neg h2, if_neg (by simp [h]; simpa using h2)]
    rw [List.filter_cons, List.filter_cons]
    cases hp : p x with
    | true =>
      simp only [if_true, Bool.not_true, Bool.false_eq_true, if_false]
      rw [hcons, hcons]
      by_cases h : k = x.1
      · rw [if_pos h, if_pos h, hsub (fun x => !p x) (h ▸ hn.1)]
      · rw [if_neg h, if_neg h]; exact ih
    | false =>
      simp only [if_true, Bool.not_false, Bool.false_eq_true, if_false]
      rw [hcons, hcons]
      by_cases h : k = x.1
      · rw [if_pos h, if_pos h, hsub p (h ▸ hn.1)]
      · rw [if_neg h, if_neg h]; exact ih
theorem inW_add (k k' : Vec 32) (ws : List Wt) (b : Blk) (v : Value) : inW k (ws ++ [(k', b, v)]) = if k = k' then 1 else inW k ws := by
  unfold inW
  rw [List.map_append, List.map_singleton]
  by_cases h : k = k'
  · rw [if_pos h, if_pos (by rw [h]; simp)]
  · rw [if_neg h]
    by_cases h2 : k ∈ ws.map (·.1)
    · rw [if_pos h2, if_pos (List.mem_append_left _ h2)]
    · rw [if_neg h2, if_neg fun hm => by
        rcases List.mem_append.1 hm with hm | hm
        · exact h2 hm
        · exact h (List.mem_singleton.1 hm)]
/-- How many wait of those whose names were seen. -/
def seenW (ws : List Wt) (l : List (Vec 32)) : Nat := (ws.filter fun x => decide (x.1 ∈ l)).length
theorem seenW_snoc (l : List (Vec 32)) (k : Vec 32) : ∀ {ws : List Wt}, (ws.map (·.1)).Nodup → seenW ws (l ++ [k]) = seenW ws l + if k ∈ l then 0 else inW k ws
  | [], _ => by unfold seenW inW; simp
  | x :: ws, hn => by
    rw [List.map_cons, List.nodup_cons] at hn
    have ih := seenW_snoc l k hn.2
    unfold seenW inW at ih ⊢
    rw [List.filter_cons, List.filter_cons, List.map_cons]
    by_cases hx : x.1 ∈ l
    · have h1 : x.1 ∈ l ++ [k] := List.mem_append_left _ hx
      simp only [hx, h1, decide_true, if_true, List.length_cons, ih]
      by_cases hk : k ∈ l
      · simp [hk]
      · have hne : k ≠ x.1 := fun h => hk (h ▸ hx)
        simp only [hk, if_false, List.mem_cons, hne, false_or]
        omega
    · by_cases hkx : k = x.1
      · subst hkx
        have h1 : x.1 ∈ l ++ [x.1] := by simp
        rw [if_neg hx, if_neg hn.1] at ih
        simp only [hx, h1, decide_true, decide_false, if_true, if_false, Bool.false_eq_true, List.length_cons, ih, List.mem_cons, true_or]
      · have h1 : x.1 ∉ l ++ [k] := by simp [hx]; exact fun h => hkx h.symm
        simp only [hx, h1, decide_false, if_false, Bool.false_eq_true, ih, List.mem_cons, hkx, false_or]
theorem seenW_all {ws : List Wt} {l : List (Vec 32)} (h : ∀ x ∈ ws, x.1 ∈ l) : seenW ws l = ws.length := by
  unfold seenW
  rw [List.filter_eq_self.2 fun x hx => decide_eq_true (h x hx)]
theorem HI.filter {ws : List Wt} {ids : List (Vec 32)} {hts : List Int} (h : HI ws ids hts) (p : Wt → Bool) : HI (ws.filter p) ids hts :=
  ⟨h.nd.sublist (List.filter_sublist.map _), fun x hx => h.ok x (List.mem_filter.1 hx).1, fun x hx => h.mem x (List.mem_filter.1 hx).1, h.hl, h.h0, h.hp⟩
theorem names_count {ws : List Wt} {ids : List (Vec 32)} {hts : List Int} (h : HI ws ids hts) (p : Wt → Bool) (c : Vec 32 → Nat) (k : Vec 32) : incL c ((ws.filter p).map (·.1)) k = c k + inW k (ws.filter p) :=
  incL_one k _ c (h.nd.sublist (List.filter_sublist.map _))
theorem Rows'.nilH {α : Type} (q : Rdr α) (h : Heap) : Rows' q h (.slice none 0 0) [] := ⟨none, 0, rfl, by simp, .inl (by simp)⟩
/-- What is known while acts are done. -/
def OSt (w z : World) (g : Nat) (a b : Int) (g9 gi gg g11 g13 n took drp : Nat) : Prop :=
  ∃ bv vv xv yv ws vs ids hts E ci cg told, HI ws ids hts ∧ DatW ws E ∧ ids.length ≤ n + 1 ∧ (ws.length : Int) ≤ a ∧ (vs.length : Int) ≤ b ∧ (∀ k, ci k = cg k + inW k ws) ∧ (∀ k, ci k ≤ n) ∧ took = told + drp + vs.length ∧ took ≤ n ∧
    Sep w z (hdH g bv vv a b ws vs ++ (nmN g9 xv yv :: rows (rVec 32) xv ids :: rows (rInt .i64) yv hts :: mpC gi ci :: mpC gg cg :: blk g11 #[.map (some gg)] T_map_api_ID_int :: blk g13 #[.int .i64 (told : Nat)] T_int :: E))
section
variable {w : World}
theorem once_spec {v : Value} {l : List AA} {g g9 gi gg g11 g13 took drp : Nat} {ra rb : Int} {R : Value → World → Prop} (hC : Cub w) (hr : ARows w.heap v l) (hok : AOk l) (hl : l.length ≤ 60) (hra : ra ≤ 256) (hrb : rb ≤ 256) {a : AA} {i : Nat} (hi : i < l.length) (ha : l[i]? = some a) {z : World} (hz : OSt w z g ra rb g9 gi gg g11 g13 i took drp) :
    ∀ K : Value → Value → World → Prop, (∀ t d z', OSt w z' g ra rb g9 gi gg g11 g13 (i + 1) t d → K (.int .i64 (t : Nat)) (.int .i64 (d : Nat)) z') →
  ∀ (t17 : Value) (g17 : Nat) (z1 : World), t17 = .pointer (some ⟨g17, 0, none⟩) → (∀ bs, Sep w z bs → Sep w z1 (blk g17 (Rdr.cells Q_flurrylaw23_Act a.t).toArray T_flurrylaw23_Act :: bs)) →
  fad 0 t17 fun t72 =>
  ld1 t72 z1.heap fun t73 =>
  bi BinOp.eql t73 (Value.int IntKind.i64 0) fun t75 =>
  cnd t75
  (ldN 40 t17 z1.heap fun t78 =>
  cal P f_law23_names_block [.pointer (some ⟨g9, 0, none⟩), t78] z1 fun t79 w =>
  cal P f_hold_Hold_Block [.pointer (some ⟨g, 0, none⟩), t79] w fun t80 w =>
  ext 0 t80 fun t81 =>
  ext 1 t80 fun t82 =>
  efP P (Instr.alloc T_api_ID true (.tuple #[])) w fun t18 w =>
  stN 32 t18 t81 w fun w =>
  bi BinOp.eql t82 (Value.int IntKind.i64 0) fun t84 =>
  cnd t84
  (drH w fun S w =>
  rdS S (fun w => ldN 32 t18 w.heap) fun t86 =>
  rdS S (rdP P (Instr.lookup T_map_api_ID_int (.map (some gi)) t86 false)) fun t87 =>
  bi BinOp.add t87 (Value.int IntKind.i64 1) fun t88 =>
  efS S (efP P (Instr.mapEntry T_map_api_ID_int (.map (some gi)) t86)) w fun t89 w =>
  ext 1 t89 fun t90 =>
  efC (fun w K => efU P (Instr.entryStore T_map_api_ID_int (.map (some gi)) t90 t88) w (K undef)) w fun S _ w =>
  K (.int .i64 (took : Nat)) (.int .i64 (drp : Nat)) w)
  (K (.int .i64 (took : Nat)) (.int .i64 (drp : Nat)) w))
  (bi BinOp.eql t73 (Value.int IntKind.i64 1) fun t92 =>
  cnd t92
  (drH z1 fun S w =>
  fad 3 t17 fun t94 =>
  rdS S (fun w => ld1 t94 w.heap) fun t95 =>
  fad 4 t17 fun t96 =>
  rdS S (fun w => ld1 t96 w.heap) fun t97 =>
  fad 1 t17 fun t98 =>
  rdS S (fun w => ld1 t98 w.heap) fun t99 =>
  efS S (cal P f_law23_names_id [.pointer (some ⟨g9, 0, none⟩), t99]) w fun t100 w =>
  rdS S (rdP P (Instr.build T_api_HeldVote #[(0, t95), (1, t97), (2, t100)])) fun t101 =>
  efC (cal P f_hold_Hold_Vote [.pointer (some ⟨g, 0, none⟩), t101]) w fun S t102 w =>
  bi BinOp.eql t102 (Value.int IntKind.i64 0) fun t103 =>
  cnd t103
  (bi BinOp.add (.int .i64 (took : Nat)) (Value.int IntKind.i64 1) fun t105 =>
  K t105 (.int .i64 (drp : Nat)) w)
  (K (.int .i64 (took : Nat)) (.int .i64 (drp : Nat)) w))
  (bi BinOp.eql t73 (Value.int IntKind.i64 2) fun t107 =>
  cnd t107
  (fad 1 t17 fun t110 =>
  ld1 t110 z1.heap fun t111 =>
  cal P f_law23_names_id [.pointer (some ⟨g9, 0, none⟩), t111] z1 fun t112 w =>
  cal P f_hold_Hold_Came [.pointer (some ⟨g, 0, none⟩), t112] w fun t113 w =>
  ext 0 t113 fun t114 =>
  ext 1 t113 fun t115 =>
  calV P (Value.func (Fn.func f_law23_HoldOnce_1) #[] #[.pointer (some ⟨g11, 0, none⟩), .pointer (some ⟨g13, 0, none⟩)]) [t114, (Value.slice none 0 0), t115] w fun t119 w =>
  K (.int .i64 (took : Nat)) (.int .i64 (drp : Nat)) w)
  (bi BinOp.eql t73 (Value.int IntKind.i64 3) fun t121 =>
  cnd t121
  (fad 1 t17 fun t124 =>
  ld1 t124 z1.heap fun t125 =>
  cal P f_law23_names_id [.pointer (some ⟨g9, 0, none⟩), t125] z1 fun t126 w =>
  cal P f_hold_Hold_Lost [.pointer (some ⟨g, 0, none⟩), t126] w fun t127 w =>
  ext 0 t127 fun t128 =>
  ext 1 t127 fun t129 =>
  calV P (Value.func (Fn.func f_law23_HoldOnce_1) #[] #[.pointer (some ⟨g11, 0, none⟩), .pointer (some ⟨g13, 0, none⟩)]) [(Value.slice none 0 0), t128, t129] w fun t133 w =>
  K (.int .i64 (took : Nat)) (.int .i64 (drp : Nat)) w)
  (bi BinOp.eql t73 (Value.int IntKind.i64 4) fun t135 =>
  cnd t135
  (fad 3 t17 fun t138 =>
  ld1 t138 z1.heap fun t139 =>
  cal P f_hold_Hold_Drop [.pointer (some ⟨g, 0, none⟩), t139] z1 fun t140 w =>
  bi BinOp.add (.int .i64 (drp : Nat)) t140 fun t141 =>
  K (.int .i64 (took : Nat)) t141 w)
  (K (.int .i64 (took : Nat)) (.int .i64 (drp : Nat)) z1))))) := by
  intro K hK t17 g17 z1 ht hzz
  subst ht
  obtain ⟨bv, vv, xv, yv, ws, vs, ids, hts, E, ci, cg, told, hI, hD, hil, hwa, hvb, hcc, hci, htk, htn, hs⟩ := hz
  have hak := hok a (List.mem_of_getElem? ha)
  have ham := List.mem_of_getElem? ha
  have hd := hr.d a ham
  have hcg : ∀ k, cg k ≤ 60 := fun k => by
    have := hcc k
    have := hci k
    omega
  replace hs := hzz _ hs
  clear hzz
  have e0 : (AA.t a).1 = a.act := rfl
  have ek : (AA.t a).2.1 = (a.k : Int) := rfl
  have ep : (AA.t a).2.2.2.1 = a.poll := rfl
  simp only [nilc_some, fad_mk, pik_true, pik_false, cnd_true, cnd_false, gif_same, gif_tf, gif_ft, gif_undef, bi_add, bi_sub, bi_mul, bi_eql, bi_neq, bi_lss, bi_leq, bi_gtr, bi_geq, notB_bool, cvi_int, lenS_mk, lenT_mk, ext0, ext1, ext2, nilP_mk, nilS_mk, fldv_agg, jn0_k, jn1_k, jn2_k, jn1_and, jn1_or, ex_some, Option.isNone_some, Option.isNone_none, Bool.false_bne, Bool.bne_true, Bool.bne_false, Bool.true_bne, Bool.not_true, Bool.not_false, Bool.and_true, Bool.true_and, Bool.and_false, Bool.false_and, Bool.or_true, Bool.true_or, Bool.or_false, Bool.false_or, cond_true, cond_false, List.getElem?_toArray, List.getElem?_cons_zero, List.getElem?_cons_succ, Nat.zero_add, Nat.add_zero, Nat.reduceAdd, forall_const, L_flurrylaw23_Act hs.blk, L_flurrylaw23_Act__Do hs.blk, L_flurrylaw23_Act__K hs.blk, L_flurrylaw23_Act__Data hs.blk, L_flurrylaw23_Act__Poll hs.blk, L_flurrylaw23_Act__Node hs.blk, L_flurrylaw23_Act__Raw hs.blk, L_flurrylaw23_Act__B hs.blk, L_flurrylaw23_Act__B_Parent hs.blk, L_flurrylaw23_Act__B_Height hs.blk, L_flurrylaw23_Act__B_Data hs.blk, e0, ek, ep]
  have hDA : ∀ {E' : List Asn}, (∀ A ∈ E, A ∈ E') → DatW ws E' := fun h => hD.sub h
  rw [cnd_bool]
  refine ⟨fun h => ?_, fun h => ?_⟩
  · obtain ⟨b, hb⟩ : ∃ b, b = bA ids hts a := ⟨_, rfl⟩
    have hbh : b.h ≤ maxI := by rw [hb]; exact bA_h hak.2.1
    refine cal_i (names_block_spec (x := a) (nmP_N g9) (Sep.pick hs [4, 5, 6, 1, 2, 3, 7, 8, 9, 10] 11) hI.hl hI.h0 (by omega) hd hI.hp hak.1 hak.2.1) ?_
    rw [← hb]
    rintro _ w4 ⟨rfl, xv', yv', hs4⟩
    have hbd : RdB w4.heap a.v b.d := by rw [hb]; exact bA_rd ⟨hd.1.fr hs4.fr0 (off_nil _), hd.2.fr hs4.fr0 (off_nil _)⟩
    replace hs4 : Sep w w4 (hdH g bv vv ra rb ws vs ++ (nmN g9 xv' yv' :: rows (rVec 32) xv' (addI ids b) :: rows (rInt .i64) yv' (addH hts b) :: mpC gi ci :: mpC gg cg :: blk g11 #[.map (some gg)] T_map_api_ID_int :: blk g13 #[.int .i64 (told : Nat)] T_int :: E)) := Sep.pick hs4 [3, 4, 5, 0, 1, 2, 6, 7, 8, 9] 10
    have hal := addI_len ids b
    refine cal_i (hBlock_spec hs4 (hDA fun A hA => by simp [hA]) (hC.fr hs4.fr0) hbd hbh (by omega) hI.sm) ?_
    rintro _ w5 ⟨rfl, hs5⟩
    simp only [nilc_some, fad_mk, pik_true, pik_false, cnd_true, cnd_false, gif_same, gif_tf, gif_ft, gif_undef, bi_add, bi_sub, bi_mul, bi_eql, bi_neq, bi_lss, bi_leq, bi_gtr, bi_geq, notB_bool, cvi_int, lenS_mk, lenT_mk, ext0, ext1, ext2, nilP_mk, nilS_mk, fldv_agg, jn0_k, jn1_k, jn2_k, jn1_and, jn1_or, ex_some, Option.isNone_some, Option.isNone_none, Bool.false_bne, Bool.bne_true, Bool.bne_false, Bool.true_bne, Bool.not_true, Bool.not_false, Bool.and_true, Bool.true_and, Bool.and_false, Bool.false_and, Bool.or_true, Bool.true_or, Bool.or_false, Bool.false_or, cond_true, cond_false, List.getElem?_toArray, List.getElem?_cons_zero, List.getElem?_cons_succ, Nat.zero_add, Nat.add_zero, Nat.reduceAdd, forall_const]
    rcases hs5 with ⟨hE, hs5⟩ | ⟨hE, bv', vd, hs5⟩
    · have hE' : (blkE ra ws b == 0) = false := by simpa using hE
      refine alloc_s hs5 (A_api_ID w5) fun g18 w6 hs6 => ?_
      refine St_api_ID hs6 fun w7 hs7 => ?_
      simp only [nilc_some, fad_mk, pik_true, pik_false, cnd_true, cnd_false, gif_same, gif_tf, gif_ft, gif_undef, bi_add, bi_sub, bi_mul, bi_eql, bi_neq, bi_lss, bi_leq, bi_gtr, bi_geq, notB_bool, cvi_int, lenS_mk, lenT_mk, ext0, ext1, ext2, nilP_mk, nilS_mk, fldv_agg, jn0_k, jn1_k, jn2_k, jn1_and, jn1_or, ex_some, Option.isNone_some, Option.isNone_none, Bool.false_bne, Bool.bne_true, Bool.bne_false, Bool.true_bne, Bool.not_true, Bool.not_false, Bool.and_true, Bool.true_and, Bool.and_false, Bool.false_and, Bool.or_true, Bool.true_or, Bool.or_false, Bool.false_or, cond_true, cond_false, List.getElem?_toArray, List.getElem?_cons_zero, List.getElem?_cons_succ, Nat.zero_add, Nat.add_zero, Nat.reduceAdd, forall_const, hE']
      exact hK _ _ _ ⟨bv, vv, xv', yv', ws, vs, addI ids b, addH hts b, E, ci, cg, told, hI.name b, hD, by omega, hwa, hvb, hcc, (fun k => by have := hci k; omega), htk, by omega, hs7.tail⟩
    · have hid : blkId ra ws b = b.id := if_pos hE
      obtain ⟨h1, h2, h3⟩ := blkE0 hE
      rw [hE, hid]
      refine alloc_s hs5 (A_api_ID w5) fun g18 w6 hs6 => ?_
      refine St_api_ID hs6 fun w7 hs7 => ?_
      simp only [nilc_some, fad_mk, pik_true, pik_false, cnd_true, cnd_false, gif_same, gif_tf, gif_ft, gif_undef, bi_add, bi_sub, bi_mul, bi_eql, bi_neq, bi_lss, bi_leq, bi_gtr, bi_geq, notB_bool, cvi_int, lenS_mk, lenT_mk, ext0, ext1, ext2, nilP_mk, nilS_mk, fldv_agg, jn0_k, jn1_k, jn2_k, jn1_and, jn1_or, ex_some, Option.isNone_some, Option.isNone_none, Bool.false_bne, Bool.bne_true, Bool.bne_false, Bool.true_bne, Bool.not_true, Bool.not_false, Bool.and_true, Bool.true_and, Bool.and_false, Bool.false_and, Bool.or_true, Bool.true_or, Bool.or_false, Bool.false_or, cond_true, cond_false, List.getElem?_toArray, List.getElem?_cons_zero, List.getElem?_cons_succ, Nat.zero_add, Nat.add_zero, Nat.reduceAdd, forall_const, show ((0 : Int) == 0) = true from rfl]
      replace hs7 : Sep w w7 (mpC gi ci :: blk g18 (Rdr.cells (rVec 32) b.id).toArray T_api_ID :: (hdH g bv' vv ra rb (ws ++ [(b.id, b, vd)]) vs ++ (nmN g9 xv' yv' :: rows (rVec 32) xv' (addI ids b) :: rows (rInt .i64) yv' (addH hts b) :: mpC gg cg :: blk g11 #[.map (some gg)] T_map_api_ID_int :: blk g13 #[.int .i64 (told : Nat)] T_int :: ownB vd b.d :: E))) := Sep.pick hs7 [8, 0, 1, 2, 3, 5, 6, 7, 9, 10, 11, 4] 12
      refine drH_PH (S := IncS w (blk g18 (Rdr.cells (rVec 32) b.id).toArray T_api_ID :: (hdH g bv' vv ra rb (ws ++ [(b.id, b, vd)]) vs ++ (nmN g9 xv' yv' :: rows (rVec 32) xv' (addI ids b) :: rows (rInt .i64) yv' (addH hts b) :: mpC gg cg :: blk g11 #[.map (some gg)] T_map_api_ID_int :: blk g13 #[.int .i64 (told : Nat)] T_int :: ownB vd b.d :: E))) gi ci b.id) hs7 (fun u hu => IncS.of hu) fun w8 hs8 _ => ?_
      refine ⟨kv b.id, fun u hu => (L_api_ID (Sep.blk hu.1) _).mpr rfl, ?_⟩
      refine inc_s hs8 (by have := hci b.id; omega) fun w9 hs9 => ?_
      have hnew : inW b.id ws = 0 := if_neg h2
      refine hK _ _ _ ⟨bv', vv, xv', yv', ws ++ [(b.id, b, vd)], vs, addI ids b, addH hts b, ownB vd b.d :: E, incC ci b.id, cg, told, (hI.name b).block hE hbh, hD.app, by omega, by simp; omega, hvb, fun k => ?_, fun k => ?_, htk, by omega, Sep.pick hs9 [2, 3, 4, 5, 6, 7, 0, 8, 9, 10] 11⟩
      · have hk := hcc k
        have hb' := hcc b.id
        unfold incC
        rw [inW_add]
        by_cases hkb : k = b.id
        · rw [if_pos hkb, if_pos hkb, hb', hnew, hkb]
        · rw [if_neg hkb, if_neg hkb, hk]
      · have hk := hci k
        have hb' := hci b.id
        unfold incC
        split <;> omega
  rw [cnd_bool]
  refine ⟨fun h => ?_, fun h => ?_⟩
  · refine drH_S hs fun w3 hs3 _ => ?_
    refine rdS_ld (v := .int .i64 a.poll) (fun u hu K hk => (L_flurrylaw23_Act__Poll (Sep.blk hu) K).mpr hk) ?_
    refine rdS_ld (v := .int .i64 a.node) (fun u hu K hk => (L_flurrylaw23_Act__Node (Sep.blk hu) K).mpr hk) ?_
    refine rdS_ld (v := .int .u8 a.k) (fun u hu K hk => (L_flurrylaw23_Act__K (Sep.blk hu) K).mpr hk) ?_
    refine efS_i (cal_i (names_id_spec (nmP_N g9) (Sep.pick hs3 [4, 5] 7) hI.h0 (by omega) hak.1) ?_)
    rintro _ w4 ⟨rfl, hf4⟩
    have hs4 := hs3.old hf4
    refine ⟨hs4, ?_⟩
    refine ⟨.agg (Rdr.cells Q_api_HeldVote (a.poll, a.node, ids.getD (a.k % ids.length) (vz 32), vz 32)).toArray, fun u hu => by rw [B_api_HeldVote_0_1_2], ?_⟩
    replace hs4 : Sep w w4 (hdH g bv vv ra rb ws vs ++ (nmN g9 xv yv :: rows (rVec 32) xv ids :: rows (rInt .i64) yv hts :: mpC gi ci :: mpC gg cg :: blk g11 #[.map (some gg)] T_map_api_ID_int :: blk g13 #[.int .i64 (told : Nat)] T_int :: E)) := hs4.tail
    refine efC_cal (cal_i (hVote_spec hs4 (hDA fun A hA => by simp [hA]) (by omega)) ?_)
    rintro _ w5 ⟨rfl, ⟨hE, hs5⟩ | ⟨hE, vv', hs5⟩⟩
    · have hE' : (votE rb vs (a.poll, a.node, ids.getD (a.k % ids.length) (vz 32), vz 32) == 0) = false := by simpa using hE
      simp only [nilc_some, fad_mk, pik_true, pik_false, cnd_true, cnd_false, gif_same, gif_tf, gif_ft, gif_undef, bi_add, bi_sub, bi_mul, bi_eql, bi_neq, bi_lss, bi_leq, bi_gtr, bi_geq, notB_bool, cvi_int, lenS_mk, lenT_mk, ext0, ext1, ext2, nilP_mk, nilS_mk, fldv_agg, jn0_k, jn1_k, jn2_k, jn1_and, jn1_or, ex_some, Option.isNone_some, Option.isNone_none, Bool.false_bne, Bool.bne_true, Bool.bne_false, Bool.true_bne, Bool.not_true, Bool.not_false, Bool.and_true, Bool.true_and, Bool.and_false, Bool.false_and, Bool.or_true, Bool.true_or, Bool.or_false, Bool.false_or, cond_true, cond_false, List.getElem?_toArray, List.getElem?_cons_zero, List.getElem?_cons_succ, Nat.zero_add, Nat.add_zero, Nat.reduceAdd, forall_const, hE']
      exact hK _ _ _ ⟨bv, vv, xv, yv, ws, vs, ids, hts, E, ci, cg, told, hI, hD, by omega, hwa, hvb, hcc, (fun k => by have := hci k; omega), htk, by omega, hs5⟩
    · rw [hE]
      simp only [nilc_some, fad_mk, pik_true, pik_false, cnd_true, cnd_false, gif_same, gif_tf, gif_ft, gif_undef, bi_add, bi_sub, bi_mul, bi_eql, bi_neq, bi_lss, bi_leq, bi_gtr, bi_geq, notB_bool, cvi_int, lenS_mk, lenT_mk, ext0, ext1, ext2, nilP_mk, nilS_mk, fldv_agg, jn0_k, jn1_k, jn2_k, jn1_and, jn1_or, ex_some, Option.isNone_some, Option.isNone_none, Bool.false_bne, Bool.bne_true, Bool.bne_false, Bool.true_bne, Bool.not_true, Bool.not_false, Bool.and_true, Bool.true_and, Bool.and_false, Bool.false_and, Bool.or_true, Bool.true_or, Bool.or_false, Bool.false_or, cond_true, cond_false, List.getElem?_toArray, List.getElem?_cons_zero, List.getElem?_cons_succ, Nat.zero_add, Nat.add_zero, Nat.reduceAdd, forall_const, show ((0 : Int) == 0) = true from rfl]
      rw [wi64 (by omega) (by omega)]
      have hlt : (vs.length : Int) < rb := by
        unfold votE at hE
        split at hE
        · cases hE
        split at hE
        · cases hE
        omega
      have e1 : ((took : Int) + 1) = ((took + 1 : Nat) : Int) := by omega
      rw [e1]
      exact hK _ _ _ ⟨bv, vv', xv, yv, ws, _, ids, hts, E, ci, cg, told, hI, hD, by omega, hwa, by simp; omega, hcc, (fun k => by have := hci k; omega), by simp; omega, by omega, hs5⟩
  rw [cnd_bool]
  refine ⟨fun h => ?_, fun h => ?_⟩
  · refine cal_i (names_id_spec (nmP_N g9) (Sep.pick hs [4, 5] 7) hI.h0 (by omega) hak.1) ?_
    rintro _ w4 ⟨rfl, hf4⟩
    have hs4 := (hs.old hf4).tail
    generalize ids.getD (a.k % ids.length) (vz 32) = kk
    refine cal_i (hCame_spec hs4 (hDA fun A hA => by simp [hA]) (by omega) (by omega) hI.sm kk) ?_
    rintro _ w5 ⟨ob, ov, bv', vv', os, E1, rfl, hos, hDO, hs5⟩
    simp only [nilc_some, fad_mk, pik_true, pik_false, cnd_true, cnd_false, gif_same, gif_tf, gif_ft, gif_undef, bi_add, bi_sub, bi_mul, bi_eql, bi_neq, bi_lss, bi_leq, bi_gtr, bi_geq, notB_bool, cvi_int, lenS_mk, lenT_mk, ext0, ext1, ext2, nilP_mk, nilS_mk, fldv_agg, jn0_k, jn1_k, jn2_k, jn1_and, jn1_or, ex_some, Option.isNone_some, Option.isNone_none, Bool.false_bne, Bool.bne_true, Bool.bne_false, Bool.true_bne, Bool.not_true, Bool.not_false, Bool.and_true, Bool.true_and, Bool.and_false, Bool.false_and, Bool.or_true, Bool.true_or, Bool.or_false, Bool.false_or, cond_true, cond_false, List.getElem?_toArray, List.getElem?_cons_zero, List.getElem?_cons_succ, Nat.zero_add, Nat.add_zero, Nat.reduceAdd, forall_const]
    have hfl := List.length_filter_le (fun x : Wt => !decide (x.2.1.p = kk)) ws
    have hvs := len_splitH (fun x : Int × Int × Vec 32 × Vec 32 => decide (x.2.2.1 = kk)) vs
    have hosn : os.map (·.1.id) = (ws.filter fun x => decide (x.2.1.p = kk)).map (·.1) := by
      have e1 : os.map (·.1.id) = (os.map (·.1)).map Blk.id := by rw [List.map_map]; rfl
      rw [e1, hos, List.map_map]
      exact List.map_congr_left fun x hx => (hI.ok x (List.mem_filter.1 hx).1).2.1.symm
    have hosl : os.length ≤ ws.length := by
      have := congrArg List.length hosn
      rw [List.length_map, List.length_map] at this
      rw [this]
      exact List.length_filter_le _ _
    have hmem : ∀ y ∈ os, y.1.chk = 0 ∧ y.1.h ≤ maxI := fun y hy => by
      have h1 : y.1 ∈ os.map (·.1) := List.mem_map_of_mem hy
      rw [hos] at h1
      obtain ⟨e, he, hee⟩ := List.mem_map.1 h1
      have := hI.ok e (List.mem_filter.1 he).1
      rw [← hee]
      exact ⟨this.1, this.2.2⟩
    replace hs5 : Sep w w5 (hdH g bv' vv' ra rb (ws.filter fun x => !decide (x.2.1.p = kk)) (vs.filter fun x => !decide (x.2.2.1 = kk)) ++ (rows Q_api_Block ob (os.map Wb) :: rows Q_api_HeldVote ov (vs.filter fun x => decide (x.2.2.1 = kk)) :: ([nmN g9 xv yv, rows (rVec 32) xv ids, rows (rInt .i64) yv hts, mpC gi ci, mpC gg cg, blk g11 #[.map (some gg)] T_map_api_ID_int, blk g13 #[.int .i64 (told : Nat)] T_int] ++ (E1 ++ E)))) :=
      hs5.perm (List.Perm.append_left _ (((List.perm_append_comm_assoc E1 [nmN g9 xv yv, rows (rVec 32) xv ids, rows (rInt .i64) yv hts, mpC gi ci, mpC gg cg, blk g11 #[.map (some gg)] T_map_api_ID_int, blk g13 #[.int .i64 (told : Nat)] T_int] E).cons _).cons _))
    obtain ⟨M, hM⟩ : ∃ M, M = hdH g bv' vv' ra rb (ws.filter fun x => !decide (x.2.1.p = kk)) (vs.filter fun x => !decide (x.2.2.1 = kk)) ++ (rows Q_api_Block ob (os.map Wb) :: rows Q_api_HeldVote ov (vs.filter fun x => decide (x.2.2.1 = kk)) :: nmN g9 xv yv :: rows (rVec 32) xv ids :: rows (rInt .i64) yv hts :: mpC gi ci :: (E1 ++ E)) := ⟨_, rfl⟩
    replace hs5 : Sep w w5 (mpC gg cg :: blk g11 #[.map (some gg)] T_map_api_ID_int :: blk g13 #[.int .i64 (told : Nat)] T_int :: M) := by rw [hM]; exact Sep.pick hs5 [9, 10, 11, 0, 1, 2, 3, 4, 5, 6, 7, 8] 12
    refine calV_mkH (cap := [.pointer (some ⟨g11, 0, none⟩), .pointer (some ⟨g13, 0, none⟩)]) (by kernel_rfl) (cal_i (out_spec (os := os) (ks := []) (vs := vs.filter fun x => decide (x.2.2.1 = kk)) hs5 (fun z hz => ?_) (fun z hz => Rows'.nilH _ _) (fun z hz => ?_) hmem (by omega) (by simp) (by omega) (by omega) (fun k => by have := hcg k; omega)) ?_)
    · rw [hM] at hz
      refine ⟨Sep.rows (Sep.pick hz [3] 4), fun y hy => ?_⟩
      obtain ⟨F, hF⟩ := hz.onL (A := ownB y.2 y.1.d) (List.mem_append_right _ (by simp [hDO y hy]))
      exact OwnB.rd hF
    · rw [hM] at hz
      exact Sep.rows (Sep.pick hz [4] 5)
    rintro _ w6 ⟨rfl, hs6⟩
    rw [List.append_nil, hosn, hM] at hs6
    refine hK _ _ _ ⟨bv', vv', xv, yv, _, _, ids, hts, rows Q_api_Block ob (os.map Wb) :: rows Q_api_HeldVote ov (vs.filter fun x => decide (x.2.2.1 = kk)) :: (E1 ++ E), ci, incL cg ((ws.filter fun x => decide (x.2.1.p = kk)).map (·.1)), told + (vs.filter fun x => decide (x.2.2.1 = kk)).length, hI.filter _, (hDA (E' := _ :: _ :: (E1 ++ E)) fun A hA => by simp [hA]).filter _, by omega, by omega, by omega, fun k => ?_, (fun k => by have := hci k; omega), by omega, by omega, Sep.pick hs6 [3, 4, 5, 8, 9, 10, 11, 0, 1, 2, 6, 7] 12⟩
    have h1 := names_count hI (fun x => decide (x.2.1.p = kk)) cg k
    have h2 := inW_split (fun x => decide (x.2.1.p = kk)) k hI.nd
    have h3 := hcc k
    omega
  rw [cnd_bool]
  refine ⟨fun h => ?_, fun h => ?_⟩
  · refine cal_i (names_id_spec (nmP_N g9) (Sep.pick hs [4, 5] 7) hI.h0 (by omega) hak.1) ?_
    rintro _ w4 ⟨rfl, hf4⟩
    have hs4 := (hs.old hf4).tail
    generalize ids.getD (a.k % ids.length) (vz 32) = kk
    refine cal_i (hLost_spec hs4 (hDA fun A hA => by simp [hA]) (by omega) (by omega) kk) ?_
    rintro _ w5 ⟨ob, ov, bv', vv', L, rfl, hL, hs5⟩
    simp only [nilc_some, fad_mk, pik_true, pik_false, cnd_true, cnd_false, gif_same, gif_tf, gif_ft, gif_undef, bi_add, bi_sub, bi_mul, bi_eql, bi_neq, bi_lss, bi_leq, bi_gtr, bi_geq, notB_bool, cvi_int, lenS_mk, lenT_mk, ext0, ext1, ext2, nilP_mk, nilS_mk, fldv_agg, jn0_k, jn1_k, jn2_k, jn1_and, jn1_or, ex_some, Option.isNone_some, Option.isNone_none, Bool.false_bne, Bool.bne_true, Bool.bne_false, Bool.true_bne, Bool.not_true, Bool.not_false, Bool.and_true, Bool.true_and, Bool.and_false, Bool.false_and, Bool.or_true, Bool.true_or, Bool.or_false, Bool.false_or, cond_true, cond_false, List.getElem?_toArray, List.getElem?_cons_zero, List.getElem?_cons_succ, Nat.zero_add, Nat.add_zero, Nat.reduceAdd, forall_const]
    have hfl := List.length_filter_le (fun x : Wt => !decide (x.2.1.p ∈ L)) ws
    have hfl2 := List.length_filter_le (fun x : Wt => decide (x.2.1.p ∈ L)) ws
    have hvs := len_splitH (fun x : Int × Int × Vec 32 × Vec 32 => decide (x.2.2.1 ∈ L)) vs
    obtain ⟨M, hM⟩ : ∃ M, M = hdH g bv' vv' ra rb (ws.filter fun x => !decide (x.2.1.p ∈ L)) (vs.filter fun x => !decide (x.2.2.1 ∈ L)) ++ (rows (rVec 32) ob ((ws.filter fun x => decide (x.2.1.p ∈ L)).map (·.1)) :: rows Q_api_HeldVote ov (vs.filter fun x => decide (x.2.2.1 ∈ L)) :: nmN g9 xv yv :: rows (rVec 32) xv ids :: rows (rInt .i64) yv hts :: mpC gi ci :: E) := ⟨_, rfl⟩
    replace hs5 : Sep w w5 (mpC gg cg :: blk g11 #[.map (some gg)] T_map_api_ID_int :: blk g13 #[.int .i64 (told : Nat)] T_int :: M) := by rw [hM]; exact Sep.pick hs5 [9, 10, 11, 0, 1, 2, 3, 4, 5, 6, 7, 8] 12
    refine calV_mkH (cap := [.pointer (some ⟨g11, 0, none⟩), .pointer (some ⟨g13, 0, none⟩)]) (by kernel_rfl) (cal_i (out_spec (os := []) (ks := (ws.filter fun x => decide (x.2.1.p ∈ L)).map (·.1)) (vs := vs.filter fun x => decide (x.2.2.1 ∈ L)) hs5 (fun z hz => ⟨Rows'.nilH _ _, fun y hy => by cases hy⟩) (fun z hz => ?_) (fun z hz => ?_) (fun y hy => by cases hy) (by simp) (by rw [List.length_map]; omega) (by omega) (by omega) (fun k => by have := hcg k; omega)) ?_)
    · rw [hM] at hz
      exact Sep.rows (Sep.pick hz [3] 4)
    · rw [hM] at hz
      exact Sep.rows (Sep.pick hz [4] 5)
    rintro _ w6 ⟨rfl, hs6⟩
    rw [List.map_nil, List.nil_append, hM] at hs6
    refine hK _ _ _ ⟨bv', vv', xv, yv, _, _, ids, hts, rows (rVec 32) ob ((ws.filter fun x => decide (x.2.1.p ∈ L)).map (·.1)) :: rows Q_api_HeldVote ov (vs.filter fun x => decide (x.2.2.1 ∈ L)) :: E, ci, incL cg ((ws.filter fun x => decide (x.2.1.p ∈ L)).map (·.1)), told + (vs.filter fun x => decide (x.2.2.1 ∈ L)).length, hI.filter _, (hDA (E' := _ :: _ :: E) fun A hA => by simp [hA]).filter _, by omega, by omega, by omega, fun k => ?_, (fun k => by have := hci k; omega), by omega, by omega, Sep.pick hs6 [3, 4, 5, 8, 9, 10, 11, 0, 1, 2, 6, 7] 12⟩
    have h1 := names_count hI (fun x => decide (x.2.1.p ∈ L)) cg k
    have h2 := inW_split (fun x => decide (x.2.1.p ∈ L)) k hI.nd
    have h3 := hcc k
    omega
  rw [cnd_bool]
  refine ⟨fun h => ?_, fun h => ?_⟩
  · refine cal_i (hDrop_spec (p := a.poll) hs.tail (hDA fun A hA => by simp [hA]) (by omega)) ?_
    rintro _ w5 ⟨rfl, vv', hs5⟩
    simp only [nilc_some, fad_mk, pik_true, pik_false, cnd_true, cnd_false, gif_same, gif_tf, gif_ft, gif_undef, bi_add, bi_sub, bi_mul, bi_eql, bi_neq, bi_lss, bi_leq, bi_gtr, bi_geq, notB_bool, cvi_int, lenS_mk, lenT_mk, ext0, ext1, ext2, nilP_mk, nilS_mk, fldv_agg, jn0_k, jn1_k, jn2_k, jn1_and, jn1_or, ex_some, Option.isNone_some, Option.isNone_none, Bool.false_bne, Bool.bne_true, Bool.bne_false, Bool.true_bne, Bool.not_true, Bool.not_false, Bool.and_true, Bool.true_and, Bool.and_false, Bool.false_and, Bool.or_true, Bool.true_or, Bool.or_false, Bool.false_or, cond_true, cond_false, List.getElem?_toArray, List.getElem?_cons_zero, List.getElem?_cons_succ, Nat.zero_add, Nat.add_zero, Nat.reduceAdd, forall_const]
    have hsp := len_splitH (fun x : Int × Int × Vec 32 × Vec 32 => decide (x.1 = a.poll)) vs
    rw [wi64 (by omega) (by omega)]
    have e1 : ((drp : Int) + ((vs.filter fun x => decide (x.1 = a.poll)).length : Int)) = ((drp + (vs.filter fun x => decide (x.1 = a.poll)).length : Nat) : Int) := by omega
    rw [e1]
    exact hK _ _ _ ⟨bv, vv', xv, yv, ws, _, ids, hts, E, ci, cg, told, hI, hD, by omega, hwa, by omega, hcc, (fun k => by have := hci k; omega), by omega, by omega, hs5⟩
  · exact hK _ _ _ ⟨bv, vv, xv, yv, ws, vs, ids, hts, E, ci, cg, told, hI, hD, by omega, hwa, hvb, hcc, (fun k => by have := hci k; omega), htk, by omega, hs.tail⟩
end
end Go.Fx
set_option linter.unusedVariables false
set_option linter.unusedSimpArgs false
namespace Go.Fx
def markF (l : List (Vec 32)) : Vec 32 → Option Value := fun k => if k ∈ l then some (.bool true) else none
theorem markF_add (l : List (Vec 32)) (k : Vec 32) : updF (markF l) k (.bool true) = markF (l ++ [k]) := by
  funext k'
  unfold updF markF
  by_cases h : k' = k
  · rw [if_pos h, if_pos (by rw [h]; simp)]
  · rw [if_neg h]
    by_cases h2 : k' ∈ l
    · rw [if_pos h2, if_pos (List.mem_append_left _ h2)]
    · rw [if_neg h2, if_neg (by simp [h, h2])]
theorem markF_look {w0 w : World} {As : List Asn} {g : Nat} {l : List (Vec 32)} (hs : Sep w0 w (mpF g (markF l) :: As)) (k : Vec 32) (K : Value → Prop) : rdP P (Instr.lookup T_map_api_ID_bool (.map (some g)) (kv k) false) w K = K (.bool (decide (k ∈ l))) := by
  rw [lookF1 U_map_api_ID_bool KTh zBo (mpF_rd hs) k]
  unfold markF
  by_cases h : k ∈ l <;> simp [h]
theorem seenW_nil (ws : List Wt) : seenW ws [] = 0 := by
  unfold seenW
  rw [List.length_eq_zero_iff, List.filter_eq_nil_iff]
  intro x hx
  simp
theorem inW_has (k : Vec 32) (ws : List Wt) : inW k ws = if (noW k ws).isSome = true then 1 else 0 := by
  unfold inW
  by_cases h : k ∈ ws.map (·.1)
  · rw [if_pos h, if_pos (noW_isSome.2 h)]
  · rw [if_neg h, if_neg fun h2 => h (noW_isSome.1 h2)]
section
variable {w : World}
theorem wHoldOnce {a b : Int} {s : Sl (Int × Nat × Sl UInt8 × Int × Int × Bool × (Vec 32 × Int × Sl UInt8))} (hc : Cub w) (hs0 : (rSl R_flurrylaw23_Act).ok w.heap s) :
    cal P f_law23_HoldOnce [.int .i64 a, .int .i64 b, s.v] w fun r w' => r = .bool true ∧ Fr [] w w' := by
  obtain ⟨l, hr, hcap, hl63, hok⟩ := acts_arg hs0
  generalize s.v = v at *
  clear hs0
  refine s_law23_HoldOnce fun R hR => ?_
  unfold c_law23_HoldOnce
  have lv0 : ∀ {z : World}, Fr [] w z → ∀ K : Value → World → Prop, (∀ z', Fr [] w z' → K (.bool true) z') → cal P f_law23_live [] z K := fun {z} hf K hK => cal_i (live23_spec (hc.fr hf)) fun r w' hr => by
    obtain ⟨rfl, h2⟩ := hr
    exact hK _ (hf.trans h2 (by simp) (by simp))
  refine cal_i (hNew_spec a b) ?_
  rintro _ w1 (⟨_, rfl, hf1⟩ | ⟨hab, g, rfl, hs1⟩)
  · simp only [nilc_some, fad_mk, pik_true, pik_false, cnd_true, cnd_false, gif_same, gif_tf, gif_ft, gif_undef, bi_add, bi_sub, bi_mul, bi_eql, bi_neq, bi_lss, bi_leq, bi_gtr, bi_geq, notB_bool, cvi_int, lenS_mk, lenT_mk, ext0, ext1, ext2, nilP_mk, nilS_mk, fldv_agg, jn0_k, jn1_k, jn2_k, jn1_and, jn1_or, ex_some, Option.isNone_some, Option.isNone_none, Bool.false_bne, Bool.bne_true, Bool.bne_false, Bool.true_bne, Bool.not_true, Bool.not_false, Bool.and_true, Bool.true_and, Bool.and_false, Bool.false_and, Bool.or_true, Bool.true_or, Bool.or_false, Bool.false_or, cond_true, cond_false, List.getElem?_toArray, List.getElem?_cons_zero, List.getElem?_cons_succ, Nat.zero_add, Nat.add_zero, Nat.reduceAdd, forall_const]
    refine lv0 hf1 _ fun w2 hf2 => ?_
    simp only [nilc_some, fad_mk, pik_true, pik_false, cnd_true, cnd_false, gif_same, gif_tf, gif_ft, gif_undef, bi_add, bi_sub, bi_mul, bi_eql, bi_neq, bi_lss, bi_leq, bi_gtr, bi_geq, notB_bool, cvi_int, lenS_mk, lenT_mk, ext0, ext1, ext2, nilP_mk, nilS_mk, fldv_agg, jn0_k, jn1_k, jn2_k, jn1_and, jn1_or, ex_some, Option.isNone_some, Option.isNone_none, Bool.false_bne, Bool.bne_true, Bool.bne_false, Bool.true_bne, Bool.not_true, Bool.not_false, Bool.and_true, Bool.true_and, Bool.and_false, Bool.false_and, Bool.or_true, Bool.true_or, Bool.or_false, Bool.false_or, cond_true, cond_false, List.getElem?_toArray, List.getElem?_cons_zero, List.getElem?_cons_succ, Nat.zero_add, Nat.add_zero, Nat.reduceAdd, forall_const, show ((1 : Int) != 0) = true from rfl, Option.isNone_none]
    refine lv0 hf2 _ fun w3 hf3 => ?_
    simp only [nilc_some, fad_mk, pik_true, pik_false, cnd_true, cnd_false, gif_same, gif_tf, gif_ft, gif_undef, bi_add, bi_sub, bi_mul, bi_eql, bi_neq, bi_lss, bi_leq, bi_gtr, bi_geq, notB_bool, cvi_int, lenS_mk, lenT_mk, ext0, ext1, ext2, nilP_mk, nilS_mk, fldv_agg, jn0_k, jn1_k, jn2_k, jn1_and, jn1_or, ex_some, Option.isNone_some, Option.isNone_none, Bool.false_bne, Bool.bne_true, Bool.bne_false, Bool.true_bne, Bool.not_true, Bool.not_false, Bool.and_true, Bool.true_and, Bool.and_false, Bool.false_and, Bool.or_true, Bool.true_or, Bool.or_false, Bool.false_or, cond_true, cond_false, List.getElem?_toArray, List.getElem?_cons_zero, List.getElem?_cons_succ, Nat.zero_add, Nat.add_zero, Nat.reduceAdd, forall_const, eqS_bool _ _ UT_bool, show ((1 : Int) != 0) = true from rfl, Option.isNone_none, beq_self_eq_true]
    exact hR _ _ ⟨rfl, hf3⟩
  simp only [nilc_some, fad_mk, pik_true, pik_false, cnd_true, cnd_false, gif_same, gif_tf, gif_ft, gif_undef, bi_add, bi_sub, bi_mul, bi_eql, bi_neq, bi_lss, bi_leq, bi_gtr, bi_geq, notB_bool, cvi_int, lenS_mk, lenT_mk, ext0, ext1, ext2, nilP_mk, nilS_mk, fldv_agg, jn0_k, jn1_k, jn2_k, jn1_and, jn1_or, ex_some, Option.isNone_some, Option.isNone_none, Bool.false_bne, Bool.bne_true, Bool.bne_false, Bool.true_bne, Bool.not_true, Bool.not_false, Bool.and_true, Bool.true_and, Bool.and_false, Bool.false_and, Bool.or_true, Bool.true_or, Bool.or_false, Bool.false_or, cond_true, cond_false, List.getElem?_toArray, List.getElem?_cons_zero, List.getElem?_cons_succ, Nat.zero_add, Nat.add_zero, Nat.reduceAdd, forall_const]
  refine cal_i (live23_spec (hc.fr hs1.fr0)) ?_
  rintro _ w2 ⟨rfl, hf2⟩
  have hs2 := hs1.old hf2
  simp only [nilc_some, fad_mk, pik_true, pik_false, cnd_true, cnd_false, gif_same, gif_tf, gif_ft, gif_undef, bi_add, bi_sub, bi_mul, bi_eql, bi_neq, bi_lss, bi_leq, bi_gtr, bi_geq, notB_bool, cvi_int, lenS_mk, lenT_mk, ext0, ext1, ext2, nilP_mk, nilS_mk, fldv_agg, jn0_k, jn1_k, jn2_k, jn1_and, jn1_or, ex_some, Option.isNone_some, Option.isNone_none, Bool.false_bne, Bool.bne_true, Bool.bne_false, Bool.true_bne, Bool.not_true, Bool.not_false, Bool.and_true, Bool.true_and, Bool.and_false, Bool.false_and, Bool.or_true, Bool.true_or, Bool.or_false, Bool.false_or, cond_true, cond_false, List.getElem?_toArray, List.getElem?_cons_zero, List.getElem?_cons_succ, Nat.zero_add, Nat.add_zero, Nat.reduceAdd, forall_const, show ((0 : Int) != 0) = false from rfl, Option.isNone_some]
  refine jn1_dup ?_
  refine cal_i (fewA_spec (hr.fr hs2.fr0) hcap hl63 hok) ?_
  rintro _ w3 ⟨hf3, t, rfl, ht⟩
  have hs3 := hs2.old hf3
  cases t with
  | false =>
    simp only [nilc_some, fad_mk, pik_true, pik_false, cnd_true, cnd_false, gif_same, gif_tf, gif_ft, gif_undef, bi_add, bi_sub, bi_mul, bi_eql, bi_neq, bi_lss, bi_leq, bi_gtr, bi_geq, notB_bool, cvi_int, lenS_mk, lenT_mk, ext0, ext1, ext2, nilP_mk, nilS_mk, fldv_agg, jn0_k, jn1_k, jn2_k, jn1_and, jn1_or, ex_some, Option.isNone_some, Option.isNone_none, Bool.false_bne, Bool.bne_true, Bool.bne_false, Bool.true_bne, Bool.not_true, Bool.not_false, Bool.and_true, Bool.true_and, Bool.and_false, Bool.false_and, Bool.or_true, Bool.true_or, Bool.or_false, Bool.false_or, cond_true, cond_false, List.getElem?_toArray, List.getElem?_cons_zero, List.getElem?_cons_succ, Nat.zero_add, Nat.add_zero, Nat.reduceAdd, forall_const]
    refine lv0 hs3.fr0 _ fun w4 hf4 => ?_
    simp only [nilc_some, fad_mk, pik_true, pik_false, cnd_true, cnd_false, gif_same, gif_tf, gif_ft, gif_undef, bi_add, bi_sub, bi_mul, bi_eql, bi_neq, bi_lss, bi_leq, bi_gtr, bi_geq, notB_bool, cvi_int, lenS_mk, lenT_mk, ext0, ext1, ext2, nilP_mk, nilS_mk, fldv_agg, jn0_k, jn1_k, jn2_k, jn1_and, jn1_or, ex_some, Option.isNone_some, Option.isNone_none, Bool.false_bne, Bool.bne_true, Bool.bne_false, Bool.true_bne, Bool.not_true, Bool.not_false, Bool.and_true, Bool.true_and, Bool.and_false, Bool.false_and, Bool.or_true, Bool.true_or, Bool.or_false, Bool.false_or, cond_true, cond_false, List.getElem?_toArray, List.getElem?_cons_zero, List.getElem?_cons_succ, Nat.zero_add, Nat.add_zero, Nat.reduceAdd, forall_const, eqS_bool _ _ UT_bool, show ((0 : Int) != 0) = false from rfl, Option.isNone_some, beq_self_eq_true]
    exact hR _ _ ⟨rfl, hf4⟩
  | true =>
  obtain ⟨hl, hsm⟩ := ht rfl
  simp only [nilc_some, fad_mk, pik_true, pik_false, cnd_true, cnd_false, gif_same, gif_tf, gif_ft, gif_undef, bi_add, bi_sub, bi_mul, bi_eql, bi_neq, bi_lss, bi_leq, bi_gtr, bi_geq, notB_bool, cvi_int, lenS_mk, lenT_mk, ext0, ext1, ext2, nilP_mk, nilS_mk, fldv_agg, jn0_k, jn1_k, jn2_k, jn1_and, jn1_or, ex_some, Option.isNone_some, Option.isNone_none, Bool.false_bne, Bool.bne_true, Bool.bne_false, Bool.true_bne, Bool.not_true, Bool.not_false, Bool.and_true, Bool.true_and, Bool.and_false, Bool.false_and, Bool.or_true, Bool.true_or, Bool.or_false, Bool.false_or, cond_true, cond_false, List.getElem?_toArray, List.getElem?_cons_zero, List.getElem?_cons_succ, Nat.zero_add, Nat.add_zero, Nat.reduceAdd, forall_const]
  clear lv0
  refine cal_i (start23_spec) ?_
  rintro _ w4 ⟨xv, yv, rfl, hx1, hy1, hs4⟩
  replace hs4 := hs3.join hs4
  refine alloc_s hs4 (A_flurrylaw23_names w4) fun g9 w5 hs5 => ?_
  refine St_flurrylaw23_names hs5 (one_flurrylaw23_names hx1 hy1) fun w6 hs6 => ?_
  refine makeF_s (n := 32) hs6 fun gi w7 hs7 => ?_
  refine makeF_s (n := 32) hs7 fun gg w8 hs8 => ?_
  refine alloc_s hs8 (al_mapI w8) fun g11 w9 hs9 => ?_
  refine st1_s hs9 (by simp) rfl fun w10 hs10 => ?_
  refine alloc_s hs10 (al_int w10) fun g13 w11 hs11 => ?_
  refine st1_s hs11 (by simp) rfl fun w12 hs12 => ?_
  replace hs12 : Sep w w12 (mpF gg (fun _ => none) :: (hdH g (.slice none 0 0) (.slice none 0 0) a b [] [] ++ (nmN g9 xv yv :: rows (rVec 32) xv [m77] :: rows (rInt .i64) yv [3] :: mpF gi (fun _ => none) :: blk g11 #[.map (some gg)] T_map_api_ID_int :: blk g13 #[.int .i64 0] T_int :: []))) := Sep.pick hs12 [2, 7, 8, 9, 4, 5, 6, 3, 1, 0] 10
  have c0 : CntF (fun _ => none) (fun _ => 0) := fun k => rfl
  replace hs12 := mpC_close c0 (Sep.pick (mpC_close c0 hs12) [7, 0, 1, 2, 3, 4, 5, 6, 8, 9] 10)
  have hO0 : OSt w w12 g a b g9 gi gg g11 g13 0 0 0 := ⟨.slice none 0 0, .slice none 0 0, xv, yv, [], [], [m77], [3], [], fun _ => 0, fun _ => 0, 0, HI.start, DatW.nil _, by simp, by simp; omega, by simp; omega, fun k => rfl, fun k => Nat.le_refl _, by simp, by omega, Sep.pick hs12 [2, 3, 4, 5, 6, 7, 0, 1, 8, 9] 10⟩
  clear hs12 hs11 hs10 hs9 hs8 hs7 hs6 hs5 hs4 hs3 hs2 hs1 hf2 hf3
  simp only [hr.len]
  refine ⟨fun x y y' z => ∃ i took drp : Nat, x = .int .i64 took ∧ y = .int .i64 drp ∧ y' = .int .i64 i ∧ i ≤ l.length ∧ OSt w z g a b g9 gi gg g11 g13 i took drp, fun _ _ y _ => (l.length - RowKit.intOf y).toNat, ⟨0, 0, 0, rfl, rfl, rfl, by omega, hO0⟩, ?_⟩
  clear hO0
  rintro _ _ _ w13 ⟨i, took, drp, rfl, rfl, rfl, hi, hO⟩ -
  simp only [nilc_some, fad_mk, pik_true, pik_false, cnd_true, cnd_false, gif_same, gif_tf, gif_ft, gif_undef, bi_add, bi_sub, bi_mul, bi_eql, bi_neq, bi_lss, bi_leq, bi_gtr, bi_geq, notB_bool, cvi_int, lenS_mk, lenT_mk, ext0, ext1, ext2, nilP_mk, nilS_mk, fldv_agg, jn0_k, jn1_k, jn2_k, jn1_and, jn1_or, ex_some, Option.isNone_some, Option.isNone_none, Bool.false_bne, Bool.bne_true, Bool.bne_false, Bool.true_bne, Bool.not_true, Bool.not_false, Bool.and_true, Bool.true_and, Bool.and_false, Bool.false_and, Bool.or_true, Bool.true_or, Bool.or_false, Bool.false_or, cond_true, cond_false, List.getElem?_toArray, List.getElem?_cons_zero, List.getElem?_cons_succ, Nat.zero_add, Nat.add_zero, Nat.reduceAdd, forall_const]
  rw [cnd_bool]
  refine ⟨fun h => ?_, fun h => ?_⟩
  · have hlt : i < l.length := by simp at h; omega
    obtain ⟨e, he⟩ : ∃ e, l[i]? = some e := ⟨_, List.getElem?_eq_getElem hlt⟩
    have he' : (l.map AA.t)[i]? = some e.t := by rw [List.getElem?_map, he]; rfl
    have hfz : Fr [] w w13 := by
      obtain ⟨bv, vv, xv, yv, ws, vs, ids, hts, E, ci, cg, told, hI, hD, hil, hwa, hvb, hcc, hci, htk, htn, hs⟩ := hO
      exact hs.fr0
    have hd := hr.d e (List.mem_of_getElem? he)
    change ixs 40 _ _ _
    refine Rows'.ldN (q := Q_flurrylaw23_Act) (by decide) (hr.rw.fr hfz) he' .i64 ?_
    refine alloc_s (Sep.start w13) (A_flurrylaw23_Act w13) fun g17 w14 hs14 => ?_
    refine St_flurrylaw23_Act (b := e.t) hs14 (one_flurrylaw23_Act hd.1.one hd.2.one) fun w15 hs15 => ?_
    refine ⟨fun x y z => ∃ t d : Nat, x = .int .i64 t ∧ y = .int .i64 d ∧ OSt w z g a b g9 gi gg g11 g13 (i + 1) t d, ?_, ?_⟩
    · have := once_spec (R := R) hc hr hok hl (by omega) (by omega) hlt he hO (fun x y z => ∃ t d : Nat, x = .int .i64 t ∧ y = .int .i64 d ∧ OSt w z g a b g9 gi gg g11 g13 (i + 1) t d) (fun t d z' h => ⟨t, d, rfl, rfl, h⟩) _ g17 w15 rfl fun bs hbs => hbs.join hs15
      simp only [nilc_some, fad_mk, pik_true, pik_false, cnd_true, cnd_false, gif_same, gif_tf, gif_ft, gif_undef, bi_add, bi_sub, bi_mul, bi_eql, bi_neq, bi_lss, bi_leq, bi_gtr, bi_geq, notB_bool, cvi_int, lenS_mk, lenT_mk, ext0, ext1, ext2, nilP_mk, nilS_mk, fldv_agg, jn0_k, jn1_k, jn2_k, jn1_and, jn1_or, ex_some, Option.isNone_some, Option.isNone_none, Bool.false_bne, Bool.bne_true, Bool.bne_false, Bool.true_bne, Bool.not_true, Bool.not_false, Bool.and_true, Bool.true_and, Bool.and_false, Bool.false_and, Bool.or_true, Bool.true_or, Bool.or_false, Bool.false_or, cond_true, cond_false, List.getElem?_toArray, List.getElem?_cons_zero, List.getElem?_cons_succ, Nat.zero_add, Nat.add_zero, Nat.reduceAdd, forall_const] at this ⊢
      exact this
    · rintro _ _ w16 ⟨t, d, rfl, rfl, hO6⟩ _
      obtain ⟨bv, vv, xv, yv, ws, vs, ids, hts, E, ci, cg, told, hI, hD, hil, hwa, hvb, hcc, hci, htk, htn, hs⟩ := id hO6
      refine cal_i (hLen_spec (hdH_rd hs (hD.sub fun A hA => by simp [hA]))) ?_
      rintro _ w17 ⟨rfl, hf17⟩
      have hs17 := hs.old hf17
      have e1 : decide ((ws.length : Int) > a) = false := decide_eq_false (by omega)
      have e2 : decide ((vs.length : Int) > b) = false := decide_eq_false (by omega)
      have e3 : decide ((ws.length : Int) < 0) = false := decide_eq_false (by omega)
      simp only [nilc_some, fad_mk, pik_true, pik_false, cnd_true, cnd_false, gif_same, gif_tf, gif_ft, gif_undef, bi_add, bi_sub, bi_mul, bi_eql, bi_neq, bi_lss, bi_leq, bi_gtr, bi_geq, notB_bool, cvi_int, lenS_mk, lenT_mk, ext0, ext1, ext2, nilP_mk, nilS_mk, fldv_agg, jn0_k, jn1_k, jn2_k, jn1_and, jn1_or, ex_some, Option.isNone_some, Option.isNone_none, Bool.false_bne, Bool.bne_true, Bool.bne_false, Bool.true_bne, Bool.not_true, Bool.not_false, Bool.and_true, Bool.true_and, Bool.and_false, Bool.false_and, Bool.or_true, Bool.true_or, Bool.or_false, Bool.false_or, cond_true, cond_false, List.getElem?_toArray, List.getElem?_cons_zero, List.getElem?_cons_succ, Nat.zero_add, Nat.add_zero, Nat.reduceAdd, forall_const, e1, e2, e3]
      refine jn1_dup ?_
      refine ld1_i (v := .int .i64 (told : Nat)) (Sep.blk (Sep.pick hs17 [9] 10)) rfl ?_
      simp only [nilc_some, fad_mk, pik_true, pik_false, cnd_true, cnd_false, gif_same, gif_tf, gif_ft, gif_undef, bi_add, bi_sub, bi_mul, bi_eql, bi_neq, bi_lss, bi_leq, bi_gtr, bi_geq, notB_bool, cvi_int, lenS_mk, lenT_mk, ext0, ext1, ext2, nilP_mk, nilS_mk, fldv_agg, jn0_k, jn1_k, jn2_k, jn1_and, jn1_or, ex_some, Option.isNone_some, Option.isNone_none, Bool.false_bne, Bool.bne_true, Bool.bne_false, Bool.true_bne, Bool.not_true, Bool.not_false, Bool.and_true, Bool.true_and, Bool.and_false, Bool.false_and, Bool.or_true, Bool.true_or, Bool.or_false, Bool.false_or, cond_true, cond_false, List.getElem?_toArray, List.getElem?_cons_zero, List.getElem?_cons_succ, Nat.zero_add, Nat.add_zero, Nat.reduceAdd, forall_const]
      rw [wi64 (x := (t : Int) - (told : Int)) (by omega) (by omega), wi64 (by omega) (by omega)]
      have e4 : ((vs.length : Int) != (t : Int) - (told : Int) - (d : Int)) = false := by
        rw [bne_eq_false_iff_eq]
        omega
      simp only [e4, nilc_some, fad_mk, pik_true, pik_false, cnd_true, cnd_false, gif_same, gif_tf, gif_ft, gif_undef, bi_add, bi_sub, bi_mul, bi_eql, bi_neq, bi_lss, bi_leq, bi_gtr, bi_geq, notB_bool, cvi_int, lenS_mk, lenT_mk, ext0, ext1, ext2, nilP_mk, nilS_mk, fldv_agg, jn0_k, jn1_k, jn2_k, jn1_and, jn1_or, ex_some, Option.isNone_some, Option.isNone_none, Bool.false_bne, Bool.bne_true, Bool.bne_false, Bool.true_bne, Bool.not_true, Bool.not_false, Bool.and_true, Bool.true_and, Bool.and_false, Bool.false_and, Bool.or_true, Bool.true_or, Bool.or_false, Bool.false_or, cond_true, cond_false, List.getElem?_toArray, List.getElem?_cons_zero, List.getElem?_cons_succ, Nat.zero_add, Nat.add_zero, Nat.reduceAdd, forall_const]
      rw [wi64 (by omega) (by omega)]
      exact ⟨⟨i + 1, t, d, rfl, rfl, by simp, by omega, bv, vv, xv, yv, ws, vs, ids, hts, E, ci, cg, told, hI, hD, hil, hwa, hvb, hcc, hci, htk, htn, hs17⟩, by simp [RowKit.intOf]; omega⟩
  have hge : i = l.length := by simp at h; omega
  obtain ⟨bv, vv, xv, yv, ws, vs, ids, hts, E, ci, cg, told, hI, hD, hil, hwa, hvb, hcc, hci, htk, htn, hs⟩ := hO
  clear h
  refine makeF_s (n := 32) hs fun gs w14 hs14 => ?_
  obtain ⟨Y, hY⟩ : ∃ Y, Y = hdH g bv vv a b ws vs ++ (nmN g9 xv yv :: rows (rVec 32) xv ids :: rows (rInt .i64) yv hts :: mpC gi ci :: mpC gg cg :: blk g11 #[.map (some gg)] T_map_api_ID_int :: blk g13 #[.int .i64 (told : Nat)] T_int :: E) := ⟨_, rfl⟩
  have hmk : mpF gs (fun _ => none) = mpF gs (markF []) := rfl
  rw [hmk, ← hY] at hs14
  have fh : ∀ {z : World} {Bs : List Asn}, Sep w z (Bs ++ Y) → HdR z.heap g bv vv a b ws vs := fun {z Bs} hz => by
    have hz := hz.dropL
    rw [hY] at hz
    exact hdH_rd hz (hD.sub fun A hA => by simp [hA])
  have fI : ∀ {z : World} {Bs : List Asn}, Sep w z (Bs ++ Y) → Rows' (rVec 32) z.heap xv ids := fun {z Bs} hz => by
    have hz := hz.dropL
    rw [hY] at hz
    exact Sep.rows (Sep.pick hz [4] 5)
  have fi : ∀ {z : World} {Bs : List Asn}, Sep w z (Bs ++ Y) → ∀ (k : Vec 32) (K : Value → Prop), rdP P (Instr.lookup T_map_api_ID_int (.map (some gi)) (kv k) false) z K = K (.int .i64 (ci k)) := fun {z Bs} hz => by
    have hz := hz.dropL
    rw [hY] at hz
    exact mpC_look (Sep.pick hz [6] 7)
  have fg : ∀ {z : World} {Bs : List Asn}, Sep w z (Bs ++ Y) → ∀ (k : Vec 32) (K : Value → Prop), rdP P (Instr.lookup T_map_api_ID_int (.map (some gg)) (kv k) false) z K = K (.int .i64 (cg k)) := fun {z Bs} hz => by
    have hz := hz.dropL
    rw [hY] at hz
    exact mpC_look (Sep.pick hz [7] 8)
  have f11 : ∀ {z : World} {Bs : List Asn}, Sep w z (Bs ++ Y) → ∀ (K : Value → Prop), K (.map (some gg)) → Go.Fx.ld1 (.pointer (some ⟨g11, 0, none⟩)) z.heap K := fun {z Bs} hz K hK => by
    have hz := hz.dropL
    rw [hY] at hz
    exact ld1_i (v := .map (some gg)) (Sep.blk (Sep.pick hz [8] 9)) rfl hK
  have hx14 : w14.heap = w14.heap := rfl
  have hnm : ∀ K : Value → Prop, Go.Fx.ld1 (.pointer (some ⟨g9, 0, none⟩)) w14.heap K = K xv := fun K => by
    have hz := hs14.tail
    rw [hY] at hz
    exact (nmP_N g9).ldI (Sep.p3 hz) K
  clear hs hY
  simp only [nilc_some, fad_mk, pik_true, pik_false, cnd_true, cnd_false, gif_same, gif_tf, gif_ft, gif_undef, bi_add, bi_sub, bi_mul, bi_eql, bi_neq, bi_lss, bi_leq, bi_gtr, bi_geq, notB_bool, cvi_int, lenS_mk, lenT_mk, ext0, ext1, ext2, nilP_mk, nilS_mk, fldv_agg, jn0_k, jn1_k, jn2_k, jn1_and, jn1_or, ex_some, Option.isNone_some, Option.isNone_none, Bool.false_bne, Bool.bne_true, Bool.bne_false, Bool.true_bne, Bool.not_true, Bool.not_false, Bool.and_true, Bool.true_and, Bool.and_false, Bool.false_and, Bool.or_true, Bool.true_or, Bool.or_false, Bool.false_or, cond_true, cond_false, List.getElem?_toArray, List.getElem?_cons_zero, List.getElem?_cons_succ, Nat.zero_add, Nat.add_zero, Nat.reduceAdd, forall_const, hnm, (fI (Bs := [_]) hs14).len]
  refine ⟨fun x y z => ∃ j : Nat, x = .int .i64 (seenW ws (ids.take j)) ∧ y = .int .i64 j ∧ j ≤ ids.length ∧ Sep w z (mpF gs (markF (ids.take j)) :: Y), fun _ y _ => (ids.length - RowKit.intOf y).toNat, ⟨0, by rw [List.take_zero, seenW_nil]; rfl, rfl, by omega, hs14⟩, ?_⟩
  clear hs14 hnm
  rintro _ _ w15 ⟨j, rfl, rfl, hj, hs15⟩ -
  have hswl : ∀ l', seenW ws l' ≤ ws.length := fun l' => List.length_filter_le _ _
  simp only [nilc_some, fad_mk, pik_true, pik_false, cnd_true, cnd_false, gif_same, gif_tf, gif_ft, gif_undef, bi_add, bi_sub, bi_mul, bi_eql, bi_neq, bi_lss, bi_leq, bi_gtr, bi_geq, notB_bool, cvi_int, lenS_mk, lenT_mk, ext0, ext1, ext2, nilP_mk, nilS_mk, fldv_agg, jn0_k, jn1_k, jn2_k, jn1_and, jn1_or, ex_some, Option.isNone_some, Option.isNone_none, Bool.false_bne, Bool.bne_true, Bool.bne_false, Bool.true_bne, Bool.not_true, Bool.not_false, Bool.and_true, Bool.true_and, Bool.and_false, Bool.false_and, Bool.or_true, Bool.true_or, Bool.or_false, Bool.false_or, cond_true, cond_false, List.getElem?_toArray, List.getElem?_cons_zero, List.getElem?_cons_succ, Nat.zero_add, Nat.add_zero, Nat.reduceAdd, forall_const]
  rw [cnd_bool]
  refine ⟨fun h => ?_, fun h => ?_⟩
  · have hlt : j < ids.length := by simp at h; omega
    obtain ⟨k, hk⟩ : ∃ k, ids[j]? = some k := ⟨_, List.getElem?_eq_getElem hlt⟩
    have etk : ids.take (j + 1) = ids.take j ++ [k] := by rw [List.take_add_one, hk]; rfl
    change ixs 32 _ _ _
    refine Rows'.ldN (q := rVec 32) (by decide) (fI (Bs := [_]) hs15) hk .i64 ?_
    refine alloc_s hs15 (A_api_ID w15) fun g29 w16 hs16 => ?_
    refine St_api_ID (b := k) hs16 fun w17 hs17 => ?_
    refine ⟨fun y z => y = .int .i64 (inW k ws) ∧ Sep w z (blk g29 (Rdr.cells (rVec 32) k).toArray T_api_ID :: mpF gs (markF (ids.take j)) :: Y), ?_, ?_⟩
    · simp only [L_api_ID hs17.blk]
      refine cal_i (hHas_spec (fh (Bs := [_, _]) hs17) (by omega) hI.sm k) ?_
      rintro _ w18 ⟨rfl, hf18⟩
      have hs18 := hs17.old hf18
      rw [cnd_bool, inW_has]
      refine ⟨fun h => ?_, fun h => ?_⟩
      · rw [if_pos h]; exact ⟨rfl, hs18⟩
      · rw [if_neg (by rw [h]; simp)]; exact ⟨rfl, hs18⟩
    rintro _ w18 ⟨rfl, hs18⟩ _
    refine drw_s hs18 fun w19 hs19 _ => ?_
    simp only [L_api_ID hs19.blk, fi (Bs := [_, _]) hs19]
    refine f11 (Bs := [_, _]) hs19 _ ?_
    simp only [L_api_ID hs19.blk, fg (Bs := [_, _]) hs19, nilc_some, fad_mk, pik_true, pik_false, cnd_true, cnd_false, gif_same, gif_tf, gif_ft, gif_undef, bi_add, bi_sub, bi_mul, bi_eql, bi_neq, bi_lss, bi_leq, bi_gtr, bi_geq, notB_bool, cvi_int, lenS_mk, lenT_mk, ext0, ext1, ext2, nilP_mk, nilS_mk, fldv_agg, jn0_k, jn1_k, jn2_k, jn1_and, jn1_or, ex_some, Option.isNone_some, Option.isNone_none, Bool.false_bne, Bool.bne_true, Bool.bne_false, Bool.true_bne, Bool.not_true, Bool.not_false, Bool.and_true, Bool.true_and, Bool.and_false, Bool.false_and, Bool.or_true, Bool.true_or, Bool.or_false, Bool.false_or, cond_true, cond_false, List.getElem?_toArray, List.getElem?_cons_zero, List.getElem?_cons_succ, Nat.zero_add, Nat.add_zero, Nat.reduceAdd, forall_const]
    have h1 := hcc k
    have h2 := hci k
    have h3 : inW k ws ≤ 1 := by unfold inW; split <;> omega
    rw [wi64 (by omega) (by omega)]
    have e4 : (((ci k : Int) - (cg k : Int)) != (inW k ws : Int)) = false := by
      rw [bne_eq_false_iff_eq]
      omega
    simp only [e4, nilc_some, fad_mk, pik_true, pik_false, cnd_true, cnd_false, gif_same, gif_tf, gif_ft, gif_undef, bi_add, bi_sub, bi_mul, bi_eql, bi_neq, bi_lss, bi_leq, bi_gtr, bi_geq, notB_bool, cvi_int, lenS_mk, lenT_mk, ext0, ext1, ext2, nilP_mk, nilS_mk, fldv_agg, jn0_k, jn1_k, jn2_k, jn1_and, jn1_or, ex_some, Option.isNone_some, Option.isNone_none, Bool.false_bne, Bool.bne_true, Bool.bne_false, Bool.true_bne, Bool.not_true, Bool.not_false, Bool.and_true, Bool.true_and, Bool.and_false, Bool.false_and, Bool.or_true, Bool.true_or, Bool.or_false, Bool.false_or, cond_true, cond_false, List.getElem?_toArray, List.getElem?_cons_zero, List.getElem?_cons_succ, Nat.zero_add, Nat.add_zero, Nat.reduceAdd, forall_const]
    have hsn := seenW_snoc (ids.take j) k hI.nd
    have hsl := hswl (ids.take j)
    refine ⟨fun y z => y = .int .i64 (seenW ws (ids.take (j + 1))) ∧ Sep w z (blk g29 (Rdr.cells (rVec 32) k).toArray T_api_ID :: mpF gs (markF (ids.take j)) :: Y), ?_, ?_⟩
    · change rdP P (Instr.lookup T_map_api_ID_bool (.map (some gs)) (kv k) false) w19 _
      rw [markF_look (Sep.p1 hs19)]
      simp only [nilc_some, fad_mk, pik_true, pik_false, cnd_true, cnd_false, gif_same, gif_tf, gif_ft, gif_undef, bi_add, bi_sub, bi_mul, bi_eql, bi_neq, bi_lss, bi_leq, bi_gtr, bi_geq, notB_bool, cvi_int, lenS_mk, lenT_mk, ext0, ext1, ext2, nilP_mk, nilS_mk, fldv_agg, jn0_k, jn1_k, jn2_k, jn1_and, jn1_or, ex_some, Option.isNone_some, Option.isNone_none, Bool.false_bne, Bool.bne_true, Bool.bne_false, Bool.true_bne, Bool.not_true, Bool.not_false, Bool.and_true, Bool.true_and, Bool.and_false, Bool.false_and, Bool.or_true, Bool.true_or, Bool.or_false, Bool.false_or, cond_true, cond_false, List.getElem?_toArray, List.getElem?_cons_zero, List.getElem?_cons_succ, Nat.zero_add, Nat.add_zero, Nat.reduceAdd, forall_const]
      rw [cnd_bool, etk]
      refine ⟨fun h => ?_, fun h => ?_⟩
      · have hkn : k ∉ ids.take j := by simpa using h
        rw [wi64 (by omega) (by omega)]
        rw [hsn, if_neg hkn]
        exact ⟨by rw [Int.natCast_add], hs19⟩
      · have hkn : k ∈ ids.take j := by simpa using h
        rw [hsn, if_pos hkn]
        exact ⟨rfl, hs19⟩
    rintro _ w20 ⟨rfl, hs20⟩ _
    simp only [L_api_ID hs20.blk]
    refine putF_s U_map_api_ID_bool KTh (Sep.p1 hs20) fun w21 hs21 => ?_
    rw [wi64 (by omega) (by omega)]
    rw [markF_add, ← etk] at hs21
    exact ⟨⟨j + 1, rfl, by simp, by omega, Sep.pick hs21 [0] 2⟩, by simp [RowKit.intOf]; omega⟩
  have hgj : j = ids.length := by simp at h; omega
  rw [hgj, List.take_of_length_le (Nat.le_refl _), seenW_all hI.mem]
  refine cal_i (hLen_spec (fh (Bs := [_]) hs15)) ?_
  rintro _ w16 ⟨rfl, hf16⟩
  simp only [nilc_some, fad_mk, pik_true, pik_false, cnd_true, cnd_false, gif_same, gif_tf, gif_ft, gif_undef, bi_add, bi_sub, bi_mul, bi_eql, bi_neq, bi_lss, bi_leq, bi_gtr, bi_geq, notB_bool, cvi_int, lenS_mk, lenT_mk, ext0, ext1, ext2, nilP_mk, nilS_mk, fldv_agg, jn0_k, jn1_k, jn2_k, jn1_and, jn1_or, ex_some, Option.isNone_some, Option.isNone_none, Bool.false_bne, Bool.bne_true, Bool.bne_false, Bool.true_bne, Bool.not_true, Bool.not_false, Bool.and_true, Bool.true_and, Bool.and_false, Bool.false_and, Bool.or_true, Bool.true_or, Bool.or_false, Bool.false_or, cond_true, cond_false, List.getElem?_toArray, List.getElem?_cons_zero, List.getElem?_cons_succ, Nat.zero_add, Nat.add_zero, Nat.reduceAdd, forall_const, beq_self_eq_true]
  exact hR _ _ ⟨rfl, (hs15.old hf16).fr0⟩
end
end Go.Fx
namespace Go.Fx
theorem okWide_arr {P : Program} {w : World} {r : Reach} {base n : Nat} {t e : TypeId} {v : Value} (ht : P.underlying t = some (.array n e)) (h : Value.okWide P w r base t v) : ∃ cs, v = .agg cs ∧ cs.size = P.cellsOf t := by
  simp only [Value.okWide, ht] at h
  obtain ⟨cs, h1, h2, _⟩ := h
  exact ⟨cs, h1, h2⟩
end Go.Fx
namespace Go.Proofs.YtichejdalolfgaaDoor
open Go.ChangeShapes Go.WideShapes Go.ChangeAt Go.RowKit
theorem own : ownKnob Tryd.prog.godebug = none := by kernel_rfl
theorem laidOut : laidOutB Tryd.prog = true := by kernel_rfl
end Go.Proofs.YtichejdalolfgaaDoor
namespace Go.Proofs.YtichejdalolfgaaDoor
open Go.ChangeShapes Go.WideShapes Go.ChangeAt Go.RowKit
abbrev laidL : List (String × DataW Unit) := [("flurry/sha.cubes", Rows.laid_flurry_sha_cubes)]
theorem gCubes : Tryd.prog.globalNamed "flurry/sha.cubes" = some 0 := by kernel_rfl
theorem tCubes : (Tryd.prog.globals[0]?).map (·.type) = some Go.Fx.T_a64_uint32 := by kernel_rfl
theorem door_met (os : Os) (args : Array Value) : laidMetH Tryd.prog laidL ((World.doorLaid Tryd.prog 400 os).forCall (fun _ _ => 0) ⟨#[], args, []⟩).memory :=
  laidMetH_of_parts3 (fuel := 8) (laidMet_of_run' 8 (by kernel_rfl) (by kernel_rfl)) (by kernel_rfl) (by kernel_rfl)
theorem cub_of_laid {W : World} (h : laidMetH Tryd.prog laidL W) : Go.Fx.Cub W := by
  rw [MakeChecks.laidMetH_plain _ _ _ (by kernel_rfl)] at h
  obtain ⟨ps, ⟨g0, t0, cs0, f0, p0, q0, hg0, ht0, hv0, hd0, _, _⟩, _, _⟩ := h
  obtain rfl := Option.some.inj (gCubes.symm.trans hg0)
  obtain rfl := Option.some.inj (tCubes.symm.trans ht0)
  have hcs : cs0.toList = Go.Fx.wvs Go.Fx.cubesL := by
    obtain ⟨xs, m1, _, hx1, hlen, hn3, hel⟩ := DataW.trod_array Go.Fx.U_a64_uint32 hd0
    have c1 : Tryd.prog.cellsOf Go.Fx.T_uint32 = 1 := by kernel_rfl
    have c64 : Tryd.prog.cellsOf Go.Fx.T_a64_uint32 = 64 := by kernel_rfl
    rw [c64] at hlen
    rw [c1] at hel
    have hd : (Rows.laid_flurry_sha_cubes : DataW Unit) = .agg (Go.Fx.cubesL.map fun x => .lit (.int .u32 x.toNat)) := by kernel_rfl
    rw [hd] at hx1
    simp only [Prod.mk.injEq, DataW.agg.injEq] at hx1
    apply List.ext_getElem?
    intro i
    by_cases hi : i < 64
    · have h1 := hel i hi
      have hx : xs[i]? = some (xs[i]'(by omega)) := List.getElem?_eq_getElem _
      rw [hx] at h1
      generalize xs[i]'(by omega) = y at *
      obtain ⟨k, e1, e2, _⟩ := DataW.trod_int Go.Fx.U_uint32 h1
      have h2 := congrArg (·[i]?) hx1.1
      simp only [List.getElem?_map, hx, e2, Option.map_some] at h2
      have h3 : cs0.toList[i]? = some (.int .u32 k) := by
        have : ((cs0.toList.drop (i * 1)).take 1)[0]? = some (.int .u32 k) := by rw [e1]; rfl
        rw [List.getElem?_take_of_lt (by omega), List.getElem?_drop, Nat.mul_one, Nat.add_zero] at this
        exact this
      rw [h3, Go.Fx.wvs, List.getElem?_map]
      cases hc : Go.Fx.cubesL[i]? with
      | none => rw [hc] at h2; cases h2
      | some z =>
        rw [hc] at h2
        simp only [Option.map_some, Option.some.injEq, DataW.lit.injEq, Lit.int.injEq, true_and] at h2
        rw [Option.map_some, ← h2]
        rfl
    · rw [List.getElem?_eq_none (by omega), List.getElem?_eq_none (by rw [Go.Fx.wvs, List.length_map]; show 64 ≤ i; omega)]
  have hv1 := hv0
  unfold World.var? at hv1
  rw [hg0] at hv1
  simp only [Option.bind_some] at hv1
  cases hh : W.heap[0]? with
  | none => rw [hh] at hv1; cases hv1
  | some o =>
    rw [hh] at hv1
    cases o with
    | cells cs t fr =>
      simp only [Option.some.injEq] at hv1
      subst hv1
      refine ⟨t, fr, ?_⟩
      rw [hh]
      have : cs = (Go.Fx.wvs Go.Fx.cubesL).toArray := by apply Array.ext'; simpa using hcs
      rw [this]
    | _ => cases hv1
end Go.Proofs.YtichejdalolfgaaDoor
set_option linter.unusedVariables false
set_option linter.unusedSimpArgs false
namespace Go.Proofs.YtichejdalolfgaaDoor
open Go.ChangeShapes Go.WideShapes Go.ChangeAt Go.RowKit
set_option maxRecDepth 100000 in
theorem liftedHoldOnce (os : Os) (started : os.Started) (H : Type) (enc : TypeId × Value → H) :
    ReturnsInHanded {} Tryd.checked os 4 .any (fun w args => (Rows.holdOnceSpec.pre enc Tryd.prog Tryd.f4 [] false w args ∧ laidMetH Tryd.prog laidL w) ∧ sizedMet enc Tryd.prog Tryd.f4 (OpenSpec.ofChange Rows.holdOnceSpec) false w args) (Rows.holdOnceSpec.post enc Tryd.prog Tryd.f4 false true false false) := by
  refine returnsInHanded_of_change_and (C := Tryd.checked) (X := fun w _ => laidMetH Tryd.prog laidL w) (fun _ _ _ hh h => h.of_heap hh) own started (by kernel_rfl) Tryd.func4
    (ChangeSpec.witness_shaped (enc := enc) (C := Tryd.checked) (os := os) (X := fun w _ => laidMetH Tryd.prog laidL w) false (World.doorLaid Tryd.prog 400 os) #[.int .i64 0, .int .i64 0, .slice none 0 0] 8 rfl (World.shaped_of_RefB (by kernel_rfl) (by kernel_rfl)) (by kernel_rfl) (by kernel_rfl) (by kernel_rfl) (door_met os _)) ?_
  intro W base args ds gs before hval0 hW _ _ hL _
  have hcub : Go.Fx.Cub W := cub_of_laid hL
  have hval : ∀ (j : Nat) t v, Tryd.f4.params[j]? = some t → args[j]? = some v → Value.okWide Tryd.prog W .any base t v := hval0
  have hW' := hW
  obtain ⟨p, q, hA0, hV, rfl, hfz, hnd⟩ := hW
  have hA : DataW.TrodAll enc Tryd.prog W 0 (fun _ => true) true Tryd.f4.params.toList args.toList ds p := hA0
  rw [Tryd.params4] at hA hval
  obtain ⟨v0, vs0, d0, ds0, p0, q0, hargs, rfl, rfl, h0, r0⟩ := trodAll_cons hA
  obtain ⟨v1, vs1, d1, ds1, p1, q1, rfl, rfl, rfl, h1, r1⟩ := trodAll_cons r0
  obtain ⟨v2, vs2, d2, ds2, p2, q2, rfl, rfl, rfl, h2, r2⟩ := trodAll_cons r1
  obtain ⟨rfl, rfl, rfl⟩ := trodAll_nil r2
  obtain rfl : args = #[v0, v1, v2] := by cases args; simp_all
  obtain ⟨rfl, rfl⟩ := trodVars_none hV
  obtain ⟨a0, rfl, rfl, rfl, w0⟩ := open_int Tryd.underlying3 (hval 0 3 v0 rfl rfl) h0
  have b0 := bounds_i64 w0
  obtain ⟨a1, rfl, rfl, rfl, w1⟩ := open_int Tryd.underlying3 (hval 1 3 v1 rfl rfl) h1
  have b1 := bounds_i64 w1
  obtain ⟨a2, len2, cap2, rfl⟩ := okWide_slice Tryd.underlying22 (hval 2 22 v2 rfl rfl)
  have k2 := h2
  have lt2 : ∀ x ∈ p2, x.block < W.heap.size := by obtain ⟨m, hm⟩ := k2; exact DataW.trod_lt m _ _ _ hm
  obtain ⟨f2, hf2⟩ := h2
  have hx2 := Go.Fx.O_sl_flurrylaw23_Act hf2
  obtain ⟨l2, rd2⟩ := hx2
  clear hA0 hval0
  have hcal := Go.Fx.wHoldOnce (a := a0) (b := a1) hcub rd2
  refine Calls.mono hcal fun e W' ⟨v, he, hv, hf⟩ => ?_
  subst hv
  subst he
  have bel : Below W.heap.size W W' := hf.below (by simp)
  exact ⟨_, rfl, _, _, _, [], _, [], hW', trodAll_mk1 (shut_bool Tryd.underlying4 _), (trodAll_cons_mk (shut_int Tryd.underlying3 w0) (trodAll_cons_mk (shut_int Tryd.underlying3 w1) (trodAll_cons_mk (Below.trod laidOut (by kernel_rfl) (of_decide_eq_true (by kernel_rfl)) k2 bel lt2) trodAll_mk0))), rfl, bel.frame _, fun h => by cases h⟩
theorem holdOnce : Rows.HoldOnceSaid :=
  OpenClaim.holds_of_wide 4 Tryd.f4 rfl rfl rfl rfl rfl rfl rfl ⟨rfl, rfl, rfl, rfl, rfl⟩ rfl rfl rfl rfl rfl (by kernel_rfl) Tryd.func4 (by kernel_rfl)
    (of_decide_eq_true (by kernel_rfl)) (by unfold Func.isWrapper; first | (rw [if_pos (by decide +kernel)]; kernel_rfl) | (rw [if_neg (by decide +kernel)]; exact ⟨rfl, rfl⟩))
    (fun os started H enc _ => liftedHoldOnce os started H enc)
theorem holdOnceCard : Rows.HoldOnceCardSaid :=
  Claim7.holds_tied_plain_at .later [] [.data] true (true, "bb238fd5b4f7cb1e6b6dd57b0eb082b2e1123fe4deb289f25cd84a372771b954") false
    holdOnce (fun _ h => by cases h) (by kernel_rfl) (fun _ h => by cases h) holdOnce_row_tie rfl ⟨rfl, rfl⟩ (by kernel_rfl) rfl
    (fun f fn hf hfn => by
      obtain rfl : f = 4 := Option.some.inj ((show Tryd.prog.funcNamed "flurry/flurrylaw23.HoldOnce" = some 4 by kernel_rfl).symm.trans hf) |>.symm
      obtain rfl : fn = Tryd.f4 := (Option.some.inj (Tryd.func4.symm.trans hfn)).symm
      exact ⟨by kernel_rfl, fun j t ht => by
        rw [Tryd.params4] at ht
        have hm : t ∈ [3, 3, 22] := by simpa using Array.mem_of_getElem? ht
        have hall : ([3, 3, 22].all fun u => !Tryd.prog.wantsStandIn u) = true := by kernel_rfl
        exact (show Tryd.prog.wantsStandIn t = false by simpa using List.all_eq_true.1 hall t hm)⟩)
    (by kernel_rfl)
#print axioms holdOnceCard
end Go.Proofs.YtichejdalolfgaaDoor
