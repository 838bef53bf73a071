/-
  What is proved: for all arguments the law HoldEmpties returns true, and its arguments read as they did. Conditions: none.
-/
import Derived.Test.YtichejdalolfgaaDoorRows
import Derived.WalkKit
import Derived.ProofKit
import Derived.OpenShut
import Derived.ChangeOld
import Derived.Below
import Derived.Carry
import Derived.Test.YtichejdalolfgaaDoorCards
import Derived.Test.YtichejdalolfgaaDoorTie
import Derived.LaidMore
import Derived.Stop.Joined
import Derived.Test.YtichejdalolfgaaDoorQ6d5f9fa4
import Derived.Test.YtichejdalolfgaaDoorQd768562e
import Derived.Test.YtichejdalolfgaaDoorQ9f7b4e54
import Derived.Test.YtichejdalolfgaaDoorQd24245d5
import Derived.Test.YtichejdalolfgaaDoorQ648be8f6
set_option linter.unusedVariables false
set_option linter.unusedSimpArgs false
namespace Go.Fx
section
variable {w0 w : World} {As : List Asn}
theorem live23_spec (hC : Cub w) : cal P f_law23_live [] w fun r w' => r = .bool true ∧ Fr [] w w' := by
  refine s_law23_live fun R hR => ?_
  unfold c_law23_live
  have hb : ∀ (x : UInt8) (w : World), (Instr.buildSlice T_sl_uint8 1 #[(0, bv x)]).run P w = .ok (.slice (some ⟨w.heap.size, 0, none⟩) 1 1) (w.alloc (.cells (bvs [x]).toArray T_uint8)) := fun x w => by kernel_rfl
  refine cal_i (First_spec (rdNil w)) ?_
  have eG : (Blk.first []).mk' = hvG := rfl
  have cG : (Blk.first []).chk = 0 := rfl
  rw [eG, cG]
  rintro _ w1 ⟨v1, rfl, hs1⟩
  simp only [nilc_some, fad_mk, pik_true, pik_false, cnd_true, cnd_false, gif_same, gif_tf, gif_ft, gif_undef, bi_add, bi_sub, bi_mul, bi_eql, bi_neq, bi_lss, bi_leq, bi_gtr, bi_geq, notB_bool, cvi_int, lenS_mk, lenT_mk, ext0, ext1, ext2, nilP_mk, nilS_mk, fldv_agg, jn0_k, jn1_k, jn2_k, jn1_and, jn1_or, ex_some, Option.isNone_some, Option.isNone_none, Bool.false_bne, Bool.bne_true, Bool.bne_false, Bool.true_bne, Bool.not_true, Bool.not_false, Bool.and_true, Bool.true_and, Bool.and_false, Bool.false_and, Bool.or_true, Bool.true_or, Bool.or_false, Bool.false_or, cond_true, cond_false, List.getElem?_toArray, List.getElem?_cons_zero, List.getElem?_cons_succ, Nat.zero_add, Nat.add_zero, Nat.reduceAdd, forall_const]
  refine alloc_s hs1 (A_api_Block w1) fun g1 w2 hs2 => ?_
  refine St_api_Block hs2 (one_api_Block (Sep.one hs2.p1)) fun w3 hs3 => ?_
  simp only [L_api_Block hs3.blk, L_api_Block__Parent hs3.blk, L_api_Block__Height hs3.blk, L_api_Block__Data hs3.blk]
  refine lit_s (l := [97]) hs3 U_sl_uint8 U_uint8 rfl (hb 97 w3) fun g2 w4 hs4 => ?_
  refine cal_i (Child_spec (b := hvG) (d := [97]) (hC.fr hs4.fr0) (Sep.rd hs4.p2) (Sep.rda hs4) (by decide)) ?_
  rw [hkA, heA]
  rintro _ w5 ⟨v2, rfl, hs5⟩
  replace hs5 := hs4.join hs5
  simp only [nilc_some, fad_mk, pik_true, pik_false, cnd_true, cnd_false, gif_same, gif_tf, gif_ft, gif_undef, bi_add, bi_sub, bi_mul, bi_eql, bi_neq, bi_lss, bi_leq, bi_gtr, bi_geq, notB_bool, cvi_int, lenS_mk, lenT_mk, ext0, ext1, ext2, nilP_mk, nilS_mk, fldv_agg, jn0_k, jn1_k, jn2_k, jn1_and, jn1_or, ex_some, Option.isNone_some, Option.isNone_none, Bool.false_bne, Bool.bne_true, Bool.bne_false, Bool.true_bne, Bool.not_true, Bool.not_false, Bool.and_true, Bool.true_and, Bool.and_false, Bool.false_and, Bool.or_true, Bool.true_or, Bool.or_false, Bool.false_or, cond_true, cond_false, List.getElem?_toArray, List.getElem?_cons_zero, List.getElem?_cons_succ, Nat.zero_add, Nat.add_zero, Nat.reduceAdd, forall_const]
  refine alloc_s hs5 (A_api_Block w5) fun g3 w6 hs6 => ?_
  refine St_api_Block hs6 (one_api_Block (Sep.one hs6.p1)) fun w7 hs7 => ?_
  simp only [L_api_Block hs7.blk, L_api_Block__Parent hs7.blk, L_api_Block__Height hs7.blk, L_api_Block__Data hs7.blk]
  refine lit_s (l := [98]) hs7 U_sl_uint8 U_uint8 rfl (hb 98 w7) fun g4 w8 hs8 => ?_
  refine cal_i (Child_spec (b := hvA) (d := [98]) (hC.fr hs8.fr0) (Sep.rd hs8.p2) (Sep.rda hs8) (by decide)) ?_
  rw [hkB, heB]
  rintro _ w9 ⟨v3, rfl, hs9⟩
  replace hs9 := hs8.join hs9
  simp only [nilc_some, fad_mk, pik_true, pik_false, cnd_true, cnd_false, gif_same, gif_tf, gif_ft, gif_undef, bi_add, bi_sub, bi_mul, bi_eql, bi_neq, bi_lss, bi_leq, bi_gtr, bi_geq, notB_bool, cvi_int, lenS_mk, lenT_mk, ext0, ext1, ext2, nilP_mk, nilS_mk, fldv_agg, jn0_k, jn1_k, jn2_k, jn1_and, jn1_or, ex_some, Option.isNone_some, Option.isNone_none, Bool.false_bne, Bool.bne_true, Bool.bne_false, Bool.true_bne, Bool.not_true, Bool.not_false, Bool.and_true, Bool.true_and, Bool.and_false, Bool.false_and, Bool.or_true, Bool.true_or, Bool.or_false, Bool.false_or, cond_true, cond_false, List.getElem?_toArray, List.getElem?_cons_zero, List.getElem?_cons_succ, Nat.zero_add, Nat.add_zero, Nat.reduceAdd, forall_const]
  refine alloc_s hs9 (A_api_Block w9) fun g5 w10 hs10 => ?_
  refine St_api_Block hs10 (one_api_Block (Sep.one hs10.p1)) fun w11 hs11 => ?_
  refine cal_i (hNew_spec 9 9) ?_
  rintro _ w12 (⟨hno, _⟩ | ⟨_, g, rfl, hs12⟩)
  · exact absurd (by omega) hno
  replace hs12 := hs11.join hs12
  simp only [nilc_some, fad_mk, pik_true, pik_false, cnd_true, cnd_false, gif_same, gif_tf, gif_ft, gif_undef, bi_add, bi_sub, bi_mul, bi_eql, bi_neq, bi_lss, bi_leq, bi_gtr, bi_geq, notB_bool, cvi_int, lenS_mk, lenT_mk, ext0, ext1, ext2, nilP_mk, nilS_mk, fldv_agg, jn0_k, jn1_k, jn2_k, jn1_and, jn1_or, ex_some, Option.isNone_some, Option.isNone_none, Bool.false_bne, Bool.bne_true, Bool.bne_false, Bool.true_bne, Bool.not_true, Bool.not_false, Bool.and_true, Bool.true_and, Bool.and_false, Bool.false_and, Bool.or_true, Bool.true_or, Bool.or_false, Bool.false_or, cond_true, cond_false, List.getElem?_toArray, List.getElem?_cons_zero, List.getElem?_cons_succ, Nat.zero_add, Nat.add_zero, Nat.reduceAdd, forall_const, show ((0 : Int) != 0) = false from rfl, Option.isNone_some]
  replace hs12 : Sep w w12 (hdH g (.slice none 0 0) (.slice none 0 0) 9 9 [] [] ++ [blk g5 (Rdr.cells Q_api_Block (hvB.p, hvB.h, v3)).toArray T_api_Block, ownB v3 hvB.d, blk g3 (Rdr.cells Q_api_Block (hvA.p, hvA.h, v2)).toArray T_api_Block, ownB v2 hvA.d]) := Sep.pick hs12 [0, 1, 2, 3, 4, 6, 7] 11
  simp only [L_api_Block (Sep.blk hs12.p3), L_api_Block__Parent (Sep.blk hs12.p3), L_api_Block__Height (Sep.blk hs12.p3), L_api_Block__Data (Sep.blk hs12.p3)]
  refine cal_i (hBlock_spec (b := hvB) (v := v3) hs12 (DatW.nil _) (hC.fr hs12.fr0) (Sep.rd (Sep.pick hs12 [4] 5)) (by decide) (by simp) (by simp)) ?_
  rintro _ w13 ⟨rfl, ⟨hno, _⟩ | ⟨hE, bv1, vd1, hs13⟩⟩
  · exact absurd hbB hno
  have ei : blkId 9 [] hvB = hidB := by unfold blkId; rw [if_pos hbB, hidB_eq]
  rw [ei, hbB]
  rw [hidB_eq] at hs13
  clear ei hE
  simp only [nilc_some, fad_mk, pik_true, pik_false, cnd_true, cnd_false, gif_same, gif_tf, gif_ft, gif_undef, bi_add, bi_sub, bi_mul, bi_eql, bi_neq, bi_lss, bi_leq, bi_gtr, bi_geq, notB_bool, cvi_int, lenS_mk, lenT_mk, ext0, ext1, ext2, nilP_mk, nilS_mk, fldv_agg, jn0_k, jn1_k, jn2_k, jn1_and, jn1_or, ex_some, Option.isNone_some, Option.isNone_none, Bool.false_bne, Bool.bne_true, Bool.bne_false, Bool.true_bne, Bool.not_true, Bool.not_false, Bool.and_true, Bool.true_and, Bool.and_false, Bool.false_and, Bool.or_true, Bool.true_or, Bool.or_false, Bool.false_or, cond_true, cond_false, List.getElem?_toArray, List.getElem?_cons_zero, List.getElem?_cons_succ, Nat.zero_add, Nat.add_zero, Nat.reduceAdd, forall_const]
  refine alloc_s hs13 (A_api_ID w13) fun g9 w14 hs14 => ?_
  refine St_api_ID hs14 fun w15 hs15 => ?_
  simp only [L_api_Block (Sep.blk (Sep.pick hs15 [7] 8)), L_api_Block__Parent (Sep.blk (Sep.pick hs15 [7] 8)), L_api_Block__Height (Sep.blk (Sep.pick hs15 [7] 8)), L_api_Block__Data (Sep.blk (Sep.pick hs15 [7] 8))]
  replace hs15 : Sep w w15 (hdH g bv1 (.slice none 0 0) 9 9 [(hidB, hvB, vd1)] [] ++ [ownB vd1 hvB.d, blk g9 (Rdr.cells (rVec 32) hidB).toArray T_api_ID, blk g3 (Rdr.cells Q_api_Block (hvA.p, hvA.h, v2)).toArray T_api_Block, ownB v2 hvA.d]) := Sep.pick hs15 [1, 2, 3, 4, 0, 7, 8] 9
  have hD1 : DatW [(hidB, hvB, vd1)] [ownB vd1 hvB.d, blk g9 (Rdr.cells (rVec 32) hidB).toArray T_api_ID, blk g3 (Rdr.cells Q_api_Block (hvA.p, hvA.h, v2)).toArray T_api_Block, ownB v2 hvA.d] := fun x hx => by
    rw [List.mem_singleton.1 hx]
    exact List.mem_cons_self ..
  have hl1 : ∀ x ∈ [(hidB, hvB, vd1)], (x : Wt).2.1.d.length ≤ 200 := fun x hx => by
    rw [List.mem_singleton.1 hx]
    exact (by decide : (1 : Nat) ≤ 200)
  refine cal_i (hBlock_spec (b := hvA) (v := v2) hs15 hD1 (hC.fr hs15.fr0) (Sep.rd (Sep.pick hs15 [6] 7)) (by decide) (by simp) hl1) ?_
  rintro _ w16 ⟨rfl, ⟨hno, _⟩ | ⟨hE, bv2, vd2, hs16⟩⟩
  · exact absurd (hbA vd1) hno
  have ei : blkId 9 [(hidB, hvB, vd1)] hvA = hidA := by unfold blkId; rw [if_pos (hbA vd1), hidA_eq]
  rw [ei, hbA vd1]
  rw [hidA_eq] at hs16
  clear ei hE
  simp only [nilc_some, fad_mk, pik_true, pik_false, cnd_true, cnd_false, gif_same, gif_tf, gif_ft, gif_undef, bi_add, bi_sub, bi_mul, bi_eql, bi_neq, bi_lss, bi_leq, bi_gtr, bi_geq, notB_bool, cvi_int, lenS_mk, lenT_mk, ext0, ext1, ext2, nilP_mk, nilS_mk, fldv_agg, jn0_k, jn1_k, jn2_k, jn1_and, jn1_or, ex_some, Option.isNone_some, Option.isNone_none, Bool.false_bne, Bool.bne_true, Bool.bne_false, Bool.true_bne, Bool.not_true, Bool.not_false, Bool.and_true, Bool.true_and, Bool.and_false, Bool.false_and, Bool.or_true, Bool.true_or, Bool.or_false, Bool.false_or, cond_true, cond_false, List.getElem?_toArray, List.getElem?_cons_zero, List.getElem?_cons_succ, Nat.zero_add, Nat.add_zero, Nat.reduceAdd, forall_const]
  refine alloc_s hs16 (A_api_ID w16) fun g10 w17 hs17 => ?_
  refine St_api_ID hs17 fun w18 hs18 => ?_
  simp only [L_api_ID (Sep.blk (Sep.pick hs18 [6] 7)), B_api_HeldVote_0_2]
  refine alloc_s hs18 (A_api_HeldVote w18) fun g11 w19 hs19 => ?_
  refine St_api_HeldVote hs19 one_api_HeldVote fun w20 hs20 => ?_
  obtain ⟨M, hM⟩ : ∃ M, M = [blk g11 (Rdr.cells Q_api_HeldVote hvV).toArray T_api_HeldVote, blk g10 (Rdr.cells (rVec 32) hidA).toArray T_api_ID, blk g9 (Rdr.cells (rVec 32) hidB).toArray T_api_ID, blk g3 (Rdr.cells Q_api_Block (hvA.p, hvA.h, v2)).toArray T_api_Block, ownB v2 hvA.d, ownB vd2 hvA.d, ownB vd1 hvB.d] := ⟨_, rfl⟩
  replace hs20 : Sep w w20 (hdH g bv2 (.slice none 0 0) 9 9 (hvW vd1 vd2) [] ++ M) := by rw [hM]; exact Sep.pick hs20 [2, 3, 4, 0, 1, 7, 8, 9, 5, 6] 10
  have hD : DatW (hvW vd1 vd2) M := fun x hx => by
    rw [hM]
    simp only [List.mem_cons, List.not_mem_nil, or_false] at hx
    rcases hx with rfl | rfl <;> simp
  have hl : ∀ x ∈ hvW vd1 vd2, x.2.1.d.length ≤ 200 := fun x hx => by
    simp only [List.mem_cons, List.not_mem_nil, or_false] at hx
    rcases hx with rfl | rfl <;> exact (by decide : (1 : Nat) ≤ 200)
  have m11 : ∀ {z : World}, Sep w z M → ∀ K, ldN 66 (.pointer (some ⟨g11, 0, none⟩)) z.heap K = K (hvv hvV) := fun {z} hz K => by rw [hM] at hz; exact L_api_HeldVote (Sep.blk hz) K
  have m3 : ∀ {z : World}, Sep w z M → ∀ K, ldN 32 (.pointer (some ⟨g3, 0, none⟩)) z.heap K = K (kv hidG) := fun {z} hz K => by rw [hM] at hz; exact L_api_Block__Parent (Sep.blk hz.p3) K
  have m3b : ∀ {z : World}, Sep w z M → ∀ K, ldN 34 (.pointer (some ⟨g3, 0, none⟩)) z.heap K = K (bq hvA v2) := fun {z} hz K => by rw [hM] at hz; exact L_api_Block (Sep.blk hz.p3) K
  have m9 : ∀ {z : World}, Sep w z M → ∀ K, ldN 32 (.pointer (some ⟨g9, 0, none⟩)) z.heap K = K (kv hidB) := fun {z} hz K => by rw [hM] at hz; exact L_api_ID (Sep.blk hz.p2) K
  have m10 : ∀ {z : World}, Sep w z M → ∀ K, ldN 32 (.pointer (some ⟨g10, 0, none⟩)) z.heap K = K (kv hidA) := fun {z} hz K => by rw [hM] at hz; exact L_api_ID (Sep.blk hz.p1) K
  have mv2 : ∀ {z : World}, Sep w z M → RdB z.heap v2 hvA.d := fun {z} hz => by rw [hM] at hz; exact Sep.rd (Sep.pick hz [4] 5)
  clear hM hs19 hs18 hs17 hs16 hs15 hs14 hs13 hs12
  refine drH_PH (S := fun u => Sep w u M) hs20 (fun u hu => hu.tail.tail.tail) fun w21 hs21 _ => ?_
  simp only [nilc_some, fad_mk, pik_true, pik_false, cnd_true, cnd_false, gif_same, gif_tf, gif_ft, gif_undef, bi_add, bi_sub, bi_mul, bi_eql, bi_neq, bi_lss, bi_leq, bi_gtr, bi_geq, notB_bool, cvi_int, lenS_mk, lenT_mk, ext0, ext1, ext2, nilP_mk, nilS_mk, fldv_agg, jn0_k, jn1_k, jn2_k, jn1_and, jn1_or, ex_some, Option.isNone_some, Option.isNone_none, Bool.false_bne, Bool.bne_true, Bool.bne_false, Bool.true_bne, Bool.not_true, Bool.not_false, Bool.and_true, Bool.true_and, Bool.and_false, Bool.false_and, Bool.or_true, Bool.true_or, Bool.or_false, Bool.false_or, cond_true, cond_false, List.getElem?_toArray, List.getElem?_cons_zero, List.getElem?_cons_succ, Nat.zero_add, Nat.add_zero, Nat.reduceAdd, forall_const, show ((0 : Int) != 0) = false from rfl]
  refine ⟨fun y z => y = .bool false ∧ ∃ vv', Sep w z (hdH g bv2 vv' 9 9 (hvW vd1 vd2) [hvV] ++ M), ?_, ?_⟩
  · refine jn1_dup ?_
    refine ⟨hvv hvV, fun u hu => (m11 hu _).mpr rfl, ?_⟩
    intro _
    refine jn1_dup ?_
    refine efS_i (cal_i (hVote_spec (v := hvV) hs21 hD (by simp)) ?_)
    have eV : votE 9 [] hvV = 0 := rfl
    rw [eV]
    rintro _ w22 ⟨rfl, ⟨hno, _⟩ | ⟨_, vv', hs22⟩⟩
    · exact absurd rfl hno
    refine ⟨hs22.tail.tail.tail, ?_⟩
    replace hs22 : Sep w w22 (hdH g bv2 vv' 9 9 (hvW vd1 vd2) [hvV] ++ M) := hs22
    simp only [nilc_some, fad_mk, pik_true, pik_false, cnd_true, cnd_false, gif_same, gif_tf, gif_ft, gif_undef, bi_add, bi_sub, bi_mul, bi_eql, bi_neq, bi_lss, bi_leq, bi_gtr, bi_geq, notB_bool, cvi_int, lenS_mk, lenT_mk, ext0, ext1, ext2, nilP_mk, nilS_mk, fldv_agg, jn0_k, jn1_k, jn2_k, jn1_and, jn1_or, ex_some, Option.isNone_some, Option.isNone_none, Bool.false_bne, Bool.bne_true, Bool.bne_false, Bool.true_bne, Bool.not_true, Bool.not_false, Bool.and_true, Bool.true_and, Bool.and_false, Bool.false_and, Bool.or_true, Bool.true_or, Bool.or_false, Bool.false_or, cond_true, cond_false, List.getElem?_toArray, List.getElem?_cons_zero, List.getElem?_cons_succ, Nat.zero_add, Nat.add_zero, Nat.reduceAdd, forall_const, show ((0 : Int) != 0) = false from rfl]
    refine jn1_dup ?_
    refine ⟨kv hidG, fun u hu => (m3 hu _).mpr rfl, ?_⟩
    intro _
    have hW : ∀ {z : World}, Sep w z (hdH g bv2 vv' 9 9 (hvW vd1 vd2) [hvV] ++ M) → ∀ K : Value → World → Prop, (∀ r z', Sep w z' (rows (rVec 32) r [hidG] :: (hdH g bv2 vv' 9 9 (hvW vd1 vd2) [hvV] ++ M)) → K r z') → cal P f_hold_Hold_Wanted [.pointer (some ⟨g, 0, none⟩)] z K := fun {z} hz K hK => by
      refine cal_i (hWanted_spec (hdH_rd hz hD) (by simp) (by simp) hl) ?_
      rintro r z' hz'
      rw [hvWanted] at hz'
      exact hK r z' (hz.join hz')
    have lit1 : ∀ {z : World} {As : List Asn}, Sep w z As → ∀ K : Value → World → Prop, (∀ r z', Sep w z' (rows (rVec 32) r [hidG] :: As) → K r z') → efP P (Instr.buildSlice T_sl_api_ID 1 #[(0, kv hidG)]) z K := fun {z As} hz K hK =>
      rows_lit hz S_sl_api_ID (l := [hidG]) (V := fun a => .agg (Rdr.cells (rVec 32) a).toArray) (fun a => rfl) rfl rfl (by decide) (by decide) fun g z' hz' => hK _ z' hz'
    refine ⟨?_, ?_, trivial⟩
    · refine jn1_dup ?_
      refine efS_i (hW hs22 _ fun r1 w23 hs23 => ?_)
      refine ⟨hs23.tail.tail.tail.tail, ?_⟩
      intro _
      refine jn1_dup ?_
      refine efS_i (lit1 hs23 _ fun r2 w24 hs24 => ?_)
      refine ⟨hs24.tail.tail.tail.tail.tail, ?_⟩
      intro _
      refine jn1_dup ?_
      refine efS_i (cal_i (idsEqual_spec (Sep.rows hs24.p1) (Sep.rows hs24) (by simp)) ?_)
      rintro _ w25 ⟨rfl, hf25⟩
      have hs25 := hs24.tail.tail.old hf25
      refine ⟨hs25.tail.tail.tail, ?_⟩
      simp only [nilc_some, fad_mk, pik_true, pik_false, cnd_true, cnd_false, gif_same, gif_tf, gif_ft, gif_undef, bi_add, bi_sub, bi_mul, bi_eql, bi_neq, bi_lss, bi_leq, bi_gtr, bi_geq, notB_bool, cvi_int, lenS_mk, lenT_mk, ext0, ext1, ext2, nilP_mk, nilS_mk, fldv_agg, jn0_k, jn1_k, jn2_k, jn1_and, jn1_or, ex_some, Option.isNone_some, Option.isNone_none, Bool.false_bne, Bool.bne_true, Bool.bne_false, Bool.true_bne, Bool.not_true, Bool.not_false, Bool.and_true, Bool.true_and, Bool.and_false, Bool.false_and, Bool.or_true, Bool.true_or, Bool.or_false, Bool.false_or, cond_true, cond_false, List.getElem?_toArray, List.getElem?_cons_zero, List.getElem?_cons_succ, Nat.zero_add, Nat.add_zero, Nat.reduceAdd, forall_const, decide_true]
      exact ⟨trivial, vv', hs25⟩
    · refine jn1_dup ?_
      refine efS_i (lit1 hs22 _ fun r2 w23 hs23 => ?_)
      refine ⟨hs23.tail.tail.tail.tail, ?_⟩
      intro _
      refine jn1_dup ?_
      refine efS_i (cal_i (hWanted_spec (hdH_rd hs23.tail hD) (by simp) (by simp) hl) ?_)
      rintro r1 w24 hs24
      rw [hvWanted] at hs24
      replace hs24 := hs23.join hs24
      refine ⟨hs24.tail.tail.tail.tail.tail, ?_⟩
      intro _
      refine jn1_dup ?_
      refine efS_i (cal_i (idsEqual_spec (Sep.rows hs24) (Sep.rows hs24.p1) (by simp)) ?_)
      rintro _ w25 ⟨rfl, hf25⟩
      have hs25 := hs24.tail.tail.old hf25
      refine ⟨hs25.tail.tail.tail, ?_⟩
      simp only [nilc_some, fad_mk, pik_true, pik_false, cnd_true, cnd_false, gif_same, gif_tf, gif_ft, gif_undef, bi_add, bi_sub, bi_mul, bi_eql, bi_neq, bi_lss, bi_leq, bi_gtr, bi_geq, notB_bool, cvi_int, lenS_mk, lenT_mk, ext0, ext1, ext2, nilP_mk, nilS_mk, fldv_agg, jn0_k, jn1_k, jn2_k, jn1_and, jn1_or, ex_some, Option.isNone_some, Option.isNone_none, Bool.false_bne, Bool.bne_true, Bool.bne_false, Bool.true_bne, Bool.not_true, Bool.not_false, Bool.and_true, Bool.true_and, Bool.and_false, Bool.false_and, Bool.or_true, Bool.true_or, Bool.or_false, Bool.false_or, cond_true, cond_false, List.getElem?_toArray, List.getElem?_cons_zero, List.getElem?_cons_succ, Nat.zero_add, Nat.add_zero, Nat.reduceAdd, forall_const, decide_true]
      exact ⟨trivial, vv', hs25⟩
  rintro _ w22 ⟨rfl, vv', hs22⟩ _
  simp only [nilc_some, fad_mk, pik_true, pik_false, cnd_true, cnd_false, gif_same, gif_tf, gif_ft, gif_undef, bi_add, bi_sub, bi_mul, bi_eql, bi_neq, bi_lss, bi_leq, bi_gtr, bi_geq, notB_bool, cvi_int, lenS_mk, lenT_mk, ext0, ext1, ext2, nilP_mk, nilS_mk, fldv_agg, jn0_k, jn1_k, jn2_k, jn1_and, jn1_or, ex_some, Option.isNone_some, Option.isNone_none, Bool.false_bne, Bool.bne_true, Bool.bne_false, Bool.true_bne, Bool.not_true, Bool.not_false, Bool.and_true, Bool.true_and, Bool.and_false, Bool.false_and, Bool.or_true, Bool.true_or, Bool.or_false, Bool.false_or, cond_true, cond_false, List.getElem?_toArray, List.getElem?_cons_zero, List.getElem?_cons_succ, Nat.zero_add, Nat.add_zero, Nat.reduceAdd, forall_const]
  refine cal_i (hClone_spec (hdH_rd hs22 hD) (by simp) (by simp)) ?_
  rintro _ w23 ⟨g', bv', vv2, rfl, hs23⟩
  replace hs23 := hs22.join hs23
  rw [m3 hs23.dropL.tail.tail.tail]
  obtain ⟨N, hN⟩ : ∃ N, N = M ++ hdH g' bv' vv2 9 9 (hvW vd1 vd2) [hvV] := ⟨_, rfl⟩
  replace hs23 : Sep w w23 (hdH g bv2 vv' 9 9 (hvW vd1 vd2) [hvV] ++ N) := by
    rw [hN, ← List.append_assoc]
    exact hs23.perm List.perm_append_comm
  have mN : ∀ {z : World}, Sep w z N → Sep w z M := fun {z} hz => by rw [hN] at hz; exact Sep.dropR hz
  refine cal_i (hLost_spec hs23 (hD.sub fun A hA => by rw [hN]; exact List.mem_append_left _ hA) (by simp) (by simp) hidG) ?_
  rintro _ w24 ⟨ob, ov, bv3, vv3, L, rfl, hL, hs24⟩
  obtain rfl := hvLost hL
  rw [hvAll, hvAllV] at hs24
  have hs24' : Sep w w24 (rows (rVec 32) ob [hidB, hidA] :: rows Q_api_HeldVote ov [hvV] :: N) := hs24.tail.tail.tail
  simp only [nilc_some, fad_mk, pik_true, pik_false, cnd_true, cnd_false, gif_same, gif_tf, gif_ft, gif_undef, bi_add, bi_sub, bi_mul, bi_eql, bi_neq, bi_lss, bi_leq, bi_gtr, bi_geq, notB_bool, cvi_int, lenS_mk, lenT_mk, ext0, ext1, ext2, nilP_mk, nilS_mk, fldv_agg, jn0_k, jn1_k, jn2_k, jn1_and, jn1_or, ex_some, Option.isNone_some, Option.isNone_none, Bool.false_bne, Bool.bne_true, Bool.bne_false, Bool.true_bne, Bool.not_true, Bool.not_false, Bool.and_true, Bool.true_and, Bool.and_false, Bool.false_and, Bool.or_true, Bool.true_or, Bool.or_false, Bool.false_or, cond_true, cond_false, List.getElem?_toArray, List.getElem?_cons_zero, List.getElem?_cons_succ, Nat.zero_add, Nat.add_zero, Nat.reduceAdd, forall_const, Option.isNone_some, m9 (mN hs24'.tail.tail), m10 (mN hs24'.tail.tail)]
  refine jn1_dup ?_
  refine rows_lit hs24' S_sl_api_ID (l := [hidB, hidA]) (V := fun a => .agg (Rdr.cells (rVec 32) a).toArray) (fun a => rfl) rfl rfl (by decide) (by decide) fun g26 w25 hs25 => ?_
  refine cal_i (idsEqual_spec (Sep.rows hs25.p1) (Sep.rows hs25) (by simp)) ?_
  rintro _ w26 ⟨rfl, hf26⟩
  have hs26 := hs25.tail.old hf26
  simp only [nilc_some, fad_mk, pik_true, pik_false, cnd_true, cnd_false, gif_same, gif_tf, gif_ft, gif_undef, bi_add, bi_sub, bi_mul, bi_eql, bi_neq, bi_lss, bi_leq, bi_gtr, bi_geq, notB_bool, cvi_int, lenS_mk, lenT_mk, ext0, ext1, ext2, nilP_mk, nilS_mk, fldv_agg, jn0_k, jn1_k, jn2_k, jn1_and, jn1_or, ex_some, Option.isNone_some, Option.isNone_none, Bool.false_bne, Bool.bne_true, Bool.bne_false, Bool.true_bne, Bool.not_true, Bool.not_false, Bool.and_true, Bool.true_and, Bool.and_false, Bool.false_and, Bool.or_true, Bool.true_or, Bool.or_false, Bool.false_or, cond_true, cond_false, List.getElem?_toArray, List.getElem?_cons_zero, List.getElem?_cons_succ, Nat.zero_add, Nat.add_zero, Nat.reduceAdd, forall_const, decide_true, m11 (mN hs26.tail.tail)]
  refine jn1_dup ?_
  refine rows_lit hs26 S_sl_api_HeldVote (l := [hvV]) (V := fun a => .agg (Rdr.cells Q_api_HeldVote a).toArray) (fun a => rfl) rfl rfl (by decide) (by decide) fun g27 w27 hs27 => ?_
  refine cal_i (votesEqual_spec (Sep.rows (Sep.pick hs27 [2] 3)) (Sep.rows hs27) (by simp)) ?_
  rintro _ w28 ⟨rfl, hf28⟩
  have hs28 := hs27.tail.tail.tail.old hf28
  simp only [nilc_some, fad_mk, pik_true, pik_false, cnd_true, cnd_false, gif_same, gif_tf, gif_ft, gif_undef, bi_add, bi_sub, bi_mul, bi_eql, bi_neq, bi_lss, bi_leq, bi_gtr, bi_geq, notB_bool, cvi_int, lenS_mk, lenT_mk, ext0, ext1, ext2, nilP_mk, nilS_mk, fldv_agg, jn0_k, jn1_k, jn2_k, jn1_and, jn1_or, ex_some, Option.isNone_some, Option.isNone_none, Bool.false_bne, Bool.bne_true, Bool.bne_false, Bool.true_bne, Bool.not_true, Bool.not_false, Bool.and_true, Bool.true_and, Bool.and_false, Bool.false_and, Bool.or_true, Bool.true_or, Bool.or_false, Bool.false_or, cond_true, cond_false, List.getElem?_toArray, List.getElem?_cons_zero, List.getElem?_cons_succ, Nat.zero_add, Nat.add_zero, Nat.reduceAdd, forall_const, decide_true, m3 (mN hs28)]
  replace hs28 : Sep w w28 (hdH g' bv' vv2 9 9 (hvW vd1 vd2) [hvV] ++ M) := by
    rw [hN] at hs28
    exact hs28.perm List.perm_append_comm
  refine cal_i (hCame_spec hs28 hD (by simp) (by simp) hl hidG) ?_
  rintro _ w29 ⟨ob2, ov2, bv4, vv4, os, E, rfl, hos, hDO, hs29⟩
  rw [hvCame] at hos
  obtain ⟨y, rfl⟩ : ∃ y, os = [(hvA, y)] := by
    match os, hos with
    | [(a, y)], hos =>
      obtain rfl : a = hvA := by simpa using hos
      exact ⟨y, rfl⟩
  have hE : ownB y hvA.d ∈ E := hDO (hvA, y) (by simp)
  replace hs29 : Sep w w29 (rows Q_api_Block ob2 [(hvA.p, hvA.h, y)] :: (E ++ M)) := Sep.pick hs29 [3] 5
  simp only [nilc_some, fad_mk, pik_true, pik_false, cnd_true, cnd_false, gif_same, gif_tf, gif_ft, gif_undef, bi_add, bi_sub, bi_mul, bi_eql, bi_neq, bi_lss, bi_leq, bi_gtr, bi_geq, notB_bool, cvi_int, lenS_mk, lenT_mk, ext0, ext1, ext2, nilP_mk, nilS_mk, fldv_agg, jn0_k, jn1_k, jn2_k, jn1_and, jn1_or, ex_some, Option.isNone_some, Option.isNone_none, Bool.false_bne, Bool.bne_true, Bool.bne_false, Bool.true_bne, Bool.not_true, Bool.not_false, Bool.and_true, Bool.true_and, Bool.and_false, Bool.false_and, Bool.or_true, Bool.true_or, Bool.or_false, Bool.false_or, cond_true, cond_false, List.getElem?_toArray, List.getElem?_cons_zero, List.getElem?_cons_succ, Nat.zero_add, Nat.add_zero, Nat.reduceAdd, forall_const]
  refine drH_S hs29 fun w30 hs30 _ => ?_
  have hlen : ∀ K, lenS ob2 K = K (.int .i64 ((1 : Nat) : Int)) := fun K => (Sep.rows hs30).len K
  simp only [hlen, nilc_some, fad_mk, pik_true, pik_false, cnd_true, cnd_false, gif_same, gif_tf, gif_ft, gif_undef, bi_add, bi_sub, bi_mul, bi_eql, bi_neq, bi_lss, bi_leq, bi_gtr, bi_geq, notB_bool, cvi_int, lenS_mk, lenT_mk, ext0, ext1, ext2, nilP_mk, nilS_mk, fldv_agg, jn0_k, jn1_k, jn2_k, jn1_and, jn1_or, ex_some, Option.isNone_some, Option.isNone_none, Bool.false_bne, Bool.bne_true, Bool.bne_false, Bool.true_bne, Bool.not_true, Bool.not_false, Bool.and_true, Bool.true_and, Bool.and_false, Bool.false_and, Bool.or_true, Bool.true_or, Bool.or_false, Bool.false_or, cond_true, cond_false, List.getElem?_toArray, List.getElem?_cons_zero, List.getElem?_cons_succ, Nat.zero_add, Nat.add_zero, Nat.reduceAdd, forall_const, show ((((1 : Nat) : Int)) == 1) = true from rfl]
  refine jn1_dup ?_
  change ixs 34 _ (.int .i64 ((0 : Nat) : Int)) _
  refine rdS_rowH (q := Q_api_Block) (by decide) hs30 (fun u hu => Sep.rows hu) (j := 0) (a := (hvA.p, hvA.h, y)) rfl .i64 ?_
  refine ⟨bq hvA v2, fun u hu => (m3b hu.tail.dropL _).mpr rfl, ?_⟩
  have hy : RdB w30.heap y hvA.d := by
    obtain ⟨F, hF⟩ := hs30.onL (A := ownB y hvA.d) (List.mem_cons_of_mem _ (List.mem_append_left _ hE))
    exact OwnB.rd hF
  refine efS_i (cal_i (rSame_spec (a := hvA) (b := hvA) hy (mv2 hs30.tail.dropL)) ?_)
  rintro _ w31 ⟨rfl, hf31⟩
  refine ⟨hs30.old hf31, ?_⟩
  simp only [nilc_some, fad_mk, pik_true, pik_false, cnd_true, cnd_false, gif_same, gif_tf, gif_ft, gif_undef, bi_add, bi_sub, bi_mul, bi_eql, bi_neq, bi_lss, bi_leq, bi_gtr, bi_geq, notB_bool, cvi_int, lenS_mk, lenT_mk, ext0, ext1, ext2, nilP_mk, nilS_mk, fldv_agg, jn0_k, jn1_k, jn2_k, jn1_and, jn1_or, ex_some, Option.isNone_some, Option.isNone_none, Bool.false_bne, Bool.bne_true, Bool.bne_false, Bool.true_bne, Bool.not_true, Bool.not_false, Bool.and_true, Bool.true_and, Bool.and_false, Bool.false_and, Bool.or_true, Bool.true_or, Bool.or_false, Bool.false_or, cond_true, cond_false, List.getElem?_toArray, List.getElem?_cons_zero, List.getElem?_cons_succ, Nat.zero_add, Nat.add_zero, Nat.reduceAdd, forall_const, decide_true]
  exact hR _ _ ⟨rfl, (hs30.old hf31).fr0⟩
end
end Go.Fx
set_option linter.unusedVariables false
set_option linter.unusedSimpArgs false
namespace Go.Fx
/-- A number in a list, read in a region that draws (as in TrK, for other seats). -/
theorem rdS_rowIH {S : World → Prop} {w : World} {v : Value} {l : List Int} {j : Nat} {a : Int} {K : Value → Prop}
    (hw : S w) (hS : ∀ u, S u → Rows' (rInt .i64) u.heap v l) (hj : l[j]? = some a) (k : IntKind) (h : K (.int .i64 a)) : ixs 1 v (.int k (j : Int)) fun t => rdS S (fun w => Go.Fx.ld1 t w.heap) K := by
  obtain ⟨g, o, c, rfl⟩ := (hS w hw).form (by decide) hj
  have hlt := (List.getElem?_eq_some_iff.1 hj).1
  rw [ixs_mk _ _ _ _ _ _ _ _ (by omega) (by omega), Int.toNat_natCast]
  refine ⟨.int .i64 a, fun z hz => ?_, h⟩
  have hat := At.of (by decide) (hS z hz) hj
  have e : (rInt .i64).size = 1 := rfl
  rw [e] at hat
  show Go.Fx.ld1 _ z.heap _
  rw [At.ld1 (v := .int .i64 a) hat]
/-- Something that is done. -/
structure AA where
  act : Int
  k : Nat
  d : List UInt8
  dv : Value
  poll : Int
  node : Int
  raw : Bool
  b : Blk
  bv : Value
def AA.t (x : AA) : Int × Int × Value × Int × Int × Bool × Vec 32 × Int × Value := (x.act, (x.k : Int), x.dv, x.poll, x.node, x.raw, x.b.p, x.b.h, x.bv)
structure ARows (h : Heap) (v : Value) (l : List AA) : Prop where
  rw : Rows' Q_flurrylaw23_Act h v (l.map AA.t)
  d : ∀ x ∈ l, RdB h x.dv x.d ∧ RdB h x.bv x.b.d
theorem ARows.fr {w w' : World} {v : Value} {l : List AA} (h : ARows w.heap v l) (hf : Fr [] w w') : ARows w'.heap v l := ⟨h.rw.fr hf, fun x hx => ⟨(h.d x hx).1.fr hf (off_nil _), (h.d x hx).2.fr hf (off_nil _)⟩⟩
theorem ARows.len {h : Heap} {v : Value} {l : List AA} (hr : ARows h v l) (K : Value → Prop) : lenS v K = K (.int .i64 l.length) := by
  have := hr.rw.len K
  rwa [List.length_map] at this
def AOk (l : List AA) : Prop := ∀ x ∈ l, x.k < 256 ∧ x.b.h ≤ maxI ∧ x.d.length ≤ 9223372036854775807 ∧ x.b.d.length ≤ 9223372036854775807
theorem acts_arg {h : Heap} {s : Sl (Int × Nat × Sl UInt8 × Int × Int × Bool × (Vec 32 × Int × Sl UInt8))} (hs : (rSl R_flurrylaw23_Act).ok h s) : ∃ l : List AA, ARows h s.v l ∧ capOk s.v ∧ l.length ≤ 9223372036854775807 ∧ AOk l := by
  obtain ⟨h1, h2, h3, h4⟩ := hs
  refine ⟨s.l.map fun x => ⟨x.1, x.2.1, x.2.2.1.l, x.2.2.1.v, x.2.2.2.1, x.2.2.2.2.1, x.2.2.2.2.2.1, ab x.2.2.2.2.2.2, x.2.2.2.2.2.2.2.2.v⟩, ⟨?_, fun x hx => ?_⟩, h3, by simpa using h2, fun x hx => ?_⟩
  · have e : s.l.flatMap R_flurrylaw23_Act.cells = ((s.l.map fun x => (⟨x.1, x.2.1, x.2.2.1.l, x.2.2.1.v, x.2.2.2.1, x.2.2.2.2.1, x.2.2.2.2.2.1, ab x.2.2.2.2.2.2, x.2.2.2.2.2.2.2.2.v⟩ : AA)).map AA.t).flatMap Q_flurrylaw23_Act.cells := by
      generalize s.l = l
      induction l with
      | nil => rfl
      | cons a l ih => rw [List.flatMap_cons, ih]; rfl
    unfold Rows'
    rw [e] at h1
    simp only [List.length_map] at h1 ⊢
    exact h1
  · obtain ⟨y, hy, rfl⟩ := List.mem_map.1 hx
    obtain ⟨o0, o1, o2, o3, o4, o5, o6⟩ := h4 y hy
    exact ⟨o2.1, ab_rd o6⟩
  · obtain ⟨y, hy, rfl⟩ := List.mem_map.1 hx
    obtain ⟨o0, o1, o2, o3, o4, o5, o6⟩ := h4 y hy
    exact ⟨o1, ab_h o6, o2.2.1, ab_len o6⟩
/-- The block that is handed in. -/
def bA (ids : List (Vec 32)) (hs : List Int) (x : AA) : Blk := if x.raw then x.b else ⟨ids.getD (x.k % ids.length) (vz 32), min (hs.getD (x.k % ids.length) 0) 4611686018427387904 + 1, x.d⟩
def AA.v (x : AA) : Value := if x.raw then x.bv else x.dv
theorem bA_rd {h : Heap} {x : AA} {ids : List (Vec 32)} {hs : List Int} (hx : RdB h x.dv x.d ∧ RdB h x.bv x.b.d) : RdB h x.v (bA ids hs x).d := by
  unfold bA AA.v
  cases x.raw
  · exact hx.1
  · exact hx.2
theorem bA_h {x : AA} {ids : List (Vec 32)} {hs : List Int} (hx : x.b.h ≤ maxI) : (bA ids hs x).h ≤ maxI := by
  unfold bA maxI at *
  cases x.raw
  · show min _ _ + 1 ≤ _
    omega
  · exact hx
def addI (ids : List (Vec 32)) (b : Blk) : List (Vec 32) := if b.chk = 0 then ids ++ [b.id] else ids
def addH (hs : List Int) (b : Blk) : List Int := if b.chk = 0 then hs ++ [b.h] else hs
theorem chk0_h {b : Blk} (h : b.chk = 0) : 0 ≤ b.h := by
  unfold Blk.chk at h
  split at h
  · cases h
  · omega
section
variable {w0 w : World} {As : List Asn}
theorem fewA_spec {v : Value} {l : List AA} (hr : ARows w.heap v l) (hcap : capOk v) (h63 : l.length ≤ 9223372036854775807) (hok : AOk l) : cal P f_law23_few [v] w fun r w' => Fr [] w w' ∧ ∃ t, r = .bool t ∧ (t = true → l.length ≤ 60 ∧ ∀ x ∈ l, x.d.length ≤ 1000 ∧ x.b.d.length ≤ 1000) := by
  refine s_law23_few fun R hR => ?_
  unfold c_law23_few
  have hq : ∃ a c, v = .slice a l.length c ∧ l.length ≤ c := by
    obtain ⟨a, c, hv, _⟩ := hr.rw
    rw [List.length_map] at hv
    exact ⟨a, c, hv, hcap _ _ _ hv⟩
  obtain ⟨a, c, hv, hc⟩ := hq
  simp only [hr.len, min_int]
  obtain ⟨n, hn⟩ : ∃ n : Nat, n = min l.length 100 := ⟨_, rfl⟩
  have e1 : min (l.length : Int) 100 = (n : Int) := by omega
  rw [e1]
  have hnl : n ≤ l.length := by omega
  have hrt : ARows w.heap (.slice a n c) (l.take n) := by
    refine ⟨?_, fun x hx => hr.d x (List.mem_of_mem_take hx)⟩
    have := hr.rw
    rw [hv] at this
    have h2 := Rows'.take this (k := n) (by simpa using hnl) c
    rwa [← List.map_take] at h2
  rw [hv, slc_to (by omega)]
  have hlt : (l.take n).length = n := by rw [List.length_take]; omega
  have h5 := hrt.len
  rw [hlt] at h5
  have h6 := hr.len
  rw [hv] at h6
  simp only [h5]
  refine ⟨fun y z => ∃ i : Nat, y = .int .i64 i ∧ i ≤ n ∧ (∀ x ∈ l.take i, x.d.length ≤ 1000 ∧ x.b.d.length ≤ 1000) ∧ Fr [] w z, fun y _ => (n - RowKit.intOf y).toNat, ⟨0, rfl, by omega, (fun x hx => by cases hx), Fr.refl _ _⟩, ?_⟩
  rintro _ w1 ⟨i, rfl, hi, hsm, hf⟩ -
  simp only [nilc_some, fad_mk, pik_true, pik_false, cnd_true, cnd_false, gif_same, gif_tf, gif_ft, gif_undef, bi_add, bi_sub, bi_mul, bi_eql, bi_neq, bi_lss, bi_leq, bi_gtr, bi_geq, notB_bool, cvi_int, lenS_mk, lenT_mk, ext0, ext1, ext2, nilP_mk, nilS_mk, fldv_agg, jn0_k, jn1_k, jn2_k, jn1_and, jn1_or, ex_some, Option.isNone_some, Option.isNone_none, Bool.false_bne, Bool.bne_true, Bool.bne_false, Bool.true_bne, Bool.not_true, Bool.not_false, Bool.and_true, Bool.true_and, Bool.and_false, Bool.false_and, Bool.or_true, Bool.true_or, Bool.or_false, Bool.false_or, cond_true, cond_false, List.getElem?_toArray, List.getElem?_cons_zero, List.getElem?_cons_succ, Nat.zero_add, Nat.add_zero, Nat.reduceAdd, forall_const]
  rw [cnd_bool]
  refine ⟨fun h => ?_, fun h => ?_⟩
  · have hlt : i < n := by simp at h; omega
    obtain ⟨x, hx⟩ : ∃ x, l[i]? = some x := ⟨_, List.getElem?_eq_getElem (by omega)⟩
    have hxt : (l.take n)[i]? = some x := by rw [List.getElem?_take, if_pos hlt]; exact hx
    have hxm := List.mem_of_getElem? hx
    have hxm' : ((l.take n).map AA.t)[i]? = some x.t := by rw [List.getElem?_map, hxt]; rfl
    change ixs 40 _ _ _
    refine Rows'.ldN (q := Q_flurrylaw23_Act) (by decide) (hrt.rw.fr hf) hxm' .i64 ?_
    refine alloc_s ((Sep.start w).old hf) (A_flurrylaw23_Act w1) fun g w2 hs2 => ?_
    have hd := (hr.fr hs2.fr0).d x hxm
    refine St_flurrylaw23_Act (b := x.t) hs2 (one_flurrylaw23_Act hd.1.one hd.2.one) fun w3 hs3 => ?_
    have hd3 := (hr.fr hs3.fr0).d x hxm
    have l1 : ∀ K, lenS (AA.t x).2.2.1 K = K (.int .i64 x.d.length) := hd3.1.len
    have l2 : ∀ K, lenS (AA.t x).2.2.2.2.2.2.2.2 K = K (.int .i64 x.b.d.length) := hd3.2.len
    simp only [L_flurrylaw23_Act hs3.blk, L_flurrylaw23_Act__Do hs3.blk, L_flurrylaw23_Act__K hs3.blk, L_flurrylaw23_Act__Data hs3.blk, L_flurrylaw23_Act__Poll hs3.blk, L_flurrylaw23_Act__Node hs3.blk, L_flurrylaw23_Act__Raw hs3.blk, L_flurrylaw23_Act__B hs3.blk, L_flurrylaw23_Act__B_Parent hs3.blk, L_flurrylaw23_Act__B_Height hs3.blk, L_flurrylaw23_Act__B_Data hs3.blk, l1, l2, nilc_some, fad_mk, pik_true, pik_false, cnd_true, cnd_false, gif_same, gif_tf, gif_ft, gif_undef, bi_add, bi_sub, bi_mul, bi_eql, bi_neq, bi_lss, bi_leq, bi_gtr, bi_geq, notB_bool, cvi_int, lenS_mk, lenT_mk, ext0, ext1, ext2, nilP_mk, nilS_mk, fldv_agg, jn0_k, jn1_k, jn2_k, jn1_and, jn1_or, ex_some, Option.isNone_some, Option.isNone_none, Bool.false_bne, Bool.bne_true, Bool.bne_false, Bool.true_bne, Bool.not_true, Bool.not_false, Bool.and_true, Bool.true_and, Bool.and_false, Bool.false_and, Bool.or_true, Bool.true_or, Bool.or_false, Bool.false_or, cond_true, cond_false, List.getElem?_toArray, List.getElem?_cons_zero, List.getElem?_cons_succ, Nat.zero_add, Nat.add_zero, Nat.reduceAdd, forall_const]
    rw [cnd_bool]
    refine ⟨fun h => hR _ _ ⟨hs3.fr0, false, rfl, fun h => by cases h⟩, fun h => ?_⟩
    rw [wi64 (by omega) (by omega)]
    refine ⟨⟨i + 1, by simp, by omega, fun y hy => ?_, hs3.fr0⟩, by simp [RowKit.intOf]; omega⟩
    rw [List.take_add_one, hx] at hy
    rcases List.mem_append.1 hy with hy | hy
    · exact hsm y hy
    · obtain rfl : y = x := by simpa using hy
      simp only [Bool.or_eq_false_iff, decide_eq_false_iff_not] at h
      omega
  · have hge : i = n := by simp at h; omega
    refine hR _ _ ⟨hf, _, rfl, fun h => ?_⟩
    have hll : l.length ≤ 60 := by simp at h; omega
    refine ⟨hll, fun x hx => hsm x ?_⟩
    rw [hge, List.take_of_length_le (by omega)]
    exact hx
/-- Where names stand: in a variable, or in a part of one. -/
structure NmP (g o : Nat) (nmA : Value → Value → Asn) : Prop where
  ldI : ∀ {w0 w : World} {As : List Asn} {x y : Value}, Sep w0 w (nmA x y :: As) → ∀ K : Value → Prop, Go.Fx.ld1 (.pointer (some ⟨g, o, none⟩)) w.heap K = K x
  ldH : ∀ {w0 w : World} {As : List Asn} {x y : Value}, Sep w0 w (nmA x y :: As) → ∀ K : Value → Prop, Go.Fx.ld1 (.pointer (some ⟨g, o + 1, none⟩)) w.heap K = K y
  stI : ∀ {w0 w : World} {As : List Asn} {x y x' : Value} {K : World → Prop}, Sep w0 w (nmA x y :: As) → x'.oneCell' = true → (∀ w', Sep w0 w' (nmA x' y :: As) → K w') → Go.Fx.st1 (.pointer (some ⟨g, o, none⟩)) x' w K
  stH : ∀ {w0 w : World} {As : List Asn} {x y y' : Value} {K : World → Prop}, Sep w0 w (nmA x y :: As) → y'.oneCell' = true → (∀ w', Sep w0 w' (nmA x y' :: As) → K w') → Go.Fx.st1 (.pointer (some ⟨g, o + 1, none⟩)) y' w K
abbrev nmN (g : Nat) (x y : Value) : Asn := blk g (Rdr.cells Q_flurrylaw23_names (x, y)).toArray T_flurrylaw23_names
abbrev nmB (g : Nat) (h r : Value) (x y : Value) : Asn := blk g (Rdr.cells Q_flurrylaw23_both (h, r, x, y)).toArray T_flurrylaw23_both
theorem nmP_N (g : Nat) : NmP g 0 (nmN g) :=
  ⟨fun hs K => L_flurrylaw23_names__ids hs.blk K, fun hs K => L_flurrylaw23_names__heights hs.blk K, fun hs h1 h => St_flurrylaw23_names__ids hs h1 h, fun hs h1 h => St_flurrylaw23_names__heights hs h1 h⟩
theorem nmP_B (g : Nat) (h r : Value) : NmP g 2 (nmB g h r) :=
  ⟨fun hs K => L_flurrylaw23_both__n_ids hs.blk K, fun hs K => L_flurrylaw23_both__n_heights hs.blk K, fun hs h1 h => St_flurrylaw23_both__n_ids hs h1 h, fun hs h1 h => St_flurrylaw23_both__n_heights hs h1 h⟩
theorem bldIH {r : Vec 32} {K : Value → World → Prop} {Bs : List Asn} (hs : Sep w0 w Bs) (hk : ∀ a z, Sep w0 z (rows (rVec 32) a [r] :: Bs) → K a z) : efP P (Instr.buildSlice T_sl_api_ID 1 #[(0, kv r)]) w K :=
  rows_lit hs S_sl_api_ID (l := [r]) (V := fun a => .agg (Rdr.cells (rVec 32) a).toArray) (fun a => rfl) rfl rfl (by decide) (by decide) fun g7 w7 hs7 => hk _ _ hs7
theorem bldHH {h : Int} {K : Value → World → Prop} {Bs : List Asn} (hs : Sep w0 w Bs) (hk : ∀ a z, Sep w0 z (rows (rInt .i64) a [h] :: Bs) → K a z) : efP P (Instr.buildSlice T_sl_int64 1 #[(0, .int .i64 h)]) w K :=
  rows_lit (q := rInt .i64) hs S_sl_int64 (l := [h]) (V := fun a => .int .i64 a) (fun a => rfl) rfl rfl (by decide) (by decide) fun g7 w7 hs7 => hk _ _ hs7
theorem appIH {r : Vec 32} {x a : Value} {ids : List (Vec 32)} {K : Value → World → Prop} {Bs : List Asn} (hs : Sep w0 w (rows (rVec 32) x ids :: Bs)) (ha : Rows' (rVec 32) w.heap a [r]) (hl : ids.length ≤ 1000000)
    (hk : ∀ x' z, Sep w0 z (rows (rVec 32) x' (ids ++ [r]) :: Bs) → K x' z) : efP P (Builtin.append_ #[T_sl_api_ID, T_sl_api_ID] T_sl_api_ID #[x, a]) w K :=
  rows_app S_sl_api_ID U_sl_api_ID (by simp) hs ha (by simp only [List.flatMap_cons, List.flatMap_nil, List.append_nil]; exact oneVec) (by simp; omega) (by simp; omega) fun v8 w8 hs8 => hk _ _ hs8
theorem appHH {h : Int} {y b : Value} {hs' : List Int} {K : Value → World → Prop} {Bs : List Asn} (hs : Sep w0 w (rows (rInt .i64) y hs' :: Bs)) (ha : Rows' (rInt .i64) w.heap b [h]) (hl : hs'.length ≤ 1000000)
    (hk : ∀ y' z, Sep w0 z (rows (rInt .i64) y' (hs' ++ [h]) :: Bs) → K y' z) : efP P (Builtin.append_ #[T_sl_int64, T_sl_int64] T_sl_int64 #[y, b]) w K :=
  rows_app (q := rInt .i64) S_sl_int64 U_sl_int64 (by simp) hs ha (by simp only [List.flatMap_cons, List.flatMap_nil, List.append_nil]; exact oneI) (by simp; omega) (by simp; omega) fun v8 w8 hs8 => hk _ _ hs8
theorem three_appH {r : Vec 32} {h : Int} {x y : Value} {ids : List (Vec 32)} {hs' : List Int} {K : Value → Value → World → Prop} (hs : Sep w0 w (rows (rVec 32) x ids :: rows (rInt .i64) y hs' :: As)) (hl1 : ids.length ≤ 1000000) (hl2 : hs'.length ≤ 1000000)
    (hk : ∀ x' y' z, Sep w0 z (rows (rVec 32) x' (ids ++ [r]) :: rows (rInt .i64) y' (hs' ++ [h]) :: As) → K x' y' z) :
    (efS (fun u => Sep w0 u As) (efP P (Instr.buildSlice T_sl_api_ID 1 #[(0, kv r)])) w fun a w =>
      (efS (fun u => Sep w0 u As) (efP P (Builtin.append_ #[T_sl_api_ID, T_sl_api_ID] T_sl_api_ID #[x, a])) w fun x' w =>
        efS (fun u => Sep w0 u As) (efP P (Instr.buildSlice T_sl_int64 1 #[(0, .int .i64 h)])) w fun b w =>
        efC (efP P (Builtin.append_ #[T_sl_int64, T_sl_int64] T_sl_int64 #[y, b])) w fun S y' w => K x' y' w) ∧
      ((efS (fun u => Sep w0 u As) (efP P (Instr.buildSlice T_sl_int64 1 #[(0, .int .i64 h)])) w fun b w =>
        efS (fun u => Sep w0 u As) (efP P (Builtin.append_ #[T_sl_api_ID, T_sl_api_ID] T_sl_api_ID #[x, a])) w fun x' w =>
        efC (efP P (Builtin.append_ #[T_sl_int64, T_sl_int64] T_sl_int64 #[y, b])) w fun S y' w => K x' y' w) ∧ True)) ∧
    ((efS (fun u => Sep w0 u As) (efP P (Instr.buildSlice T_sl_int64 1 #[(0, .int .i64 h)])) w fun b w =>
      efS (fun u => Sep w0 u As) (efP P (Instr.buildSlice T_sl_api_ID 1 #[(0, kv r)])) w fun a w =>
      efS (fun u => Sep w0 u As) (efP P (Builtin.append_ #[T_sl_api_ID, T_sl_api_ID] T_sl_api_ID #[x, a])) w fun x' w =>
      efC (efP P (Builtin.append_ #[T_sl_int64, T_sl_int64] T_sl_int64 #[y, b])) w fun S y' w => K x' y' w) ∧ True) := by
  refine ⟨?_, ?_, trivial⟩
  · refine efS_i (bldIH hs fun a z hz => ⟨hz.tail.tail.tail, ?_, ?_, trivial⟩)
    · refine efS_i (appIH hz.p1 (Sep.rows hz) hl1 fun x' z' hz' => ⟨hz'.tail.tail.tail, ?_⟩)
      refine efS_i (bldHH hz' fun b z2 hz2 => ⟨hz2.tail.tail.tail.tail, ?_⟩)
      refine efC_efP (appHH (Sep.pick hz2 [3, 0, 1, 2] 4) (Sep.rows hz2) hl2 fun y' z3 hz3 => hk _ _ _ ?_)
      exact Sep.pick hz3 [2, 0] 4
    · refine efS_i (bldHH hz fun b z2 hz2 => ⟨hz2.tail.tail.tail.tail, ?_⟩)
      refine efS_i (appIH hz2.p2 (Sep.rows hz2.p1) hl1 fun x' z' hz' => ⟨hz'.tail.tail.tail.tail, ?_⟩)
      refine efC_efP (appHH (Sep.pick hz' [3, 0, 1, 2] 4) (Sep.rows hz'.p1) hl2 fun y' z3 hz3 => hk _ _ _ ?_)
      exact Sep.pick hz3 [1, 0] 4
  · refine efS_i (bldHH hs fun b z hz => ⟨hz.tail.tail.tail, ?_⟩)
    refine efS_i (bldIH hz fun a z2 hz2 => ⟨hz2.tail.tail.tail.tail, ?_⟩)
    refine efS_i (appIH hz2.p2 (Sep.rows hz2) hl1 fun x' z' hz' => ⟨hz'.tail.tail.tail.tail, ?_⟩)
    refine efC_efP (appHH (Sep.pick hz' [3, 0, 1, 2] 4) (Sep.rows hz'.p2) hl2 fun y' z3 hz3 => hk _ _ _ ?_)
    exact Sep.pick hz3 [1, 0] 4
def m77 : Vec 32 := ⟨77 :: List.replicate 31 0, by decide⟩
theorem B_ID77 {w : World} (K : Value → Prop) : rdP P (Instr.build T_api_ID #[(0, .int .u8 77)]) w K = K (kv m77) := rd_build (r := rVec 32) (a := m77) (by kernel_rfl) K
theorem start23_spec : cal P f_law23_start [] w fun r w' => ∃ x y, r = .agg (Rdr.cells Q_flurrylaw23_names (x, y)).toArray ∧ x.oneCell' = true ∧ y.oneCell' = true ∧ Sep w w' [rows (rVec 32) x [m77], rows (rInt .i64) y [3]] := by
  refine s_law23_start fun R hR => ?_
  unfold c_law23_start
  refine alloc_s (Sep.start w) (A_flurrylaw23_names w) fun g w1 hs1 => ?_
  rw [B_ID77]
  refine bldIH hs1 fun x w2 hs2 => ?_
  refine bldHH hs2 fun y w3 hs3 => ?_
  have hx1 := Sep.oneR hs3.p1
  have hy1 := Sep.oneR hs3
  rw [B_flurrylaw23_names_0_1 hx1 hy1]
  refine St_flurrylaw23_names hs3.p2 (one_flurrylaw23_names hx1 hy1) fun w4 hs4 => ?_
  simp only [L_flurrylaw23_names hs4.blk, L_flurrylaw23_names__ids hs4.blk, L_flurrylaw23_names__heights hs4.blk]
  exact hR _ _ ⟨x, y, rfl, hx1, hy1, Sep.pick hs4 [2, 1] 3⟩
variable {g o : Nat} {nmA : Value → Value → Asn} {xv yv : Value} {ids : List (Vec 32)} {hts : List Int}
theorem names_id_spec {k : Nat} (hP : NmP g o nmA) (hs : Sep w0 w (nmA xv yv :: rows (rVec 32) xv ids :: As)) (h0 : 0 < ids.length) (hn : ids.length ≤ 1000000) (hk : k < 256) :
    cal P f_law23_names_id [.pointer (some ⟨g, o, none⟩), .int .u8 k] w fun r w' => r = kv (ids.getD (k % ids.length) (vz 32)) ∧ Fr [] w w' := by
  refine s_law23_names_id fun R hR => ?_
  unfold c_law23_names_id
  refine alloc_s (Sep.start w) (A_api_ID w) fun g4 w1 hs1 => ?_
  have hj := hs.join hs1
  refine drH_PH (S := fun u => Sep w u [blk g4 (Rdr.cells (rVec 32) (vz 32)).toArray T_api_ID]) hs1 (fun u hu => hu) fun w2 hs2 _ => ?_
  have hJ : ∀ {u : World}, Sep w u [blk g4 (Rdr.cells (rVec 32) (vz 32)).toArray T_api_ID] → Sep w0 u (nmA xv yv :: rows (rVec 32) xv ids :: blk g4 (Rdr.cells (rVec 32) (vz 32)).toArray T_api_ID :: As) := fun {u} hu => Sep.pick (hs.join hu) [1, 2, 0] 3
  simp only [nilc_some, fad_mk, pik_true, pik_false, cnd_true, cnd_false, gif_same, gif_tf, gif_ft, gif_undef, bi_add, bi_sub, bi_mul, bi_eql, bi_neq, bi_lss, bi_leq, bi_gtr, bi_geq, notB_bool, cvi_int, lenS_mk, lenT_mk, ext0, ext1, ext2, nilP_mk, nilS_mk, fldv_agg, jn0_k, jn1_k, jn2_k, jn1_and, jn1_or, ex_some, Option.isNone_some, Option.isNone_none, Bool.false_bne, Bool.bne_true, Bool.bne_false, Bool.true_bne, Bool.not_true, Bool.not_false, Bool.and_true, Bool.true_and, Bool.and_false, Bool.false_and, Bool.or_true, Bool.true_or, Bool.or_false, Bool.false_or, cond_true, cond_false, List.getElem?_toArray, List.getElem?_cons_zero, List.getElem?_cons_succ, Nat.zero_add, Nat.add_zero, Nat.reduceAdd, forall_const]
  refine rdS_ld (v := xv) (fun u hu K hk => by rw [hP.ldI (hJ hu)]; exact hk) ?_
  refine rdS_ld (v := xv) (fun u hu K hk => by rw [hP.ldI (hJ hu)]; exact hk) ?_
  have hlen : ∀ K, lenS xv K = K (.int .i64 ids.length) := (Sep.rows hs.p1).len
  rw [wi64 (by omega) (by omega), hlen, bi_rem _ _ _ _ (by omega), tmodn]
  have hlt := Nat.mod_lt k h0
  obtain ⟨a, ha⟩ : ∃ a, ids[k % ids.length]? = some a := ⟨_, List.getElem?_eq_getElem hlt⟩
  change ixs 32 _ _ _
  refine rdS_rowH (q := rVec 32) (by decide) hs2 (fun u hu => Sep.rows (hJ hu).p1) ha .i64 ?_
  refine efC_stN (St_api_ID (b := a) hs2 fun w3 hs3 => ?_)
  simp only [L_api_ID hs3.blk]
  refine hR _ _ ⟨?_, hs3.fr0⟩
  rw [List.getD_eq_getElem?_getD, ha]
  rfl
theorem names_block_spec {x : AA} (hP : NmP g o nmA) (hs : Sep w0 w (nmA xv yv :: rows (rVec 32) xv ids :: rows (rInt .i64) yv hts :: As)) (hl : hts.length = ids.length) (h0 : 0 < ids.length) (hn : ids.length ≤ 1000000)
    (hx : RdB w0.heap x.dv x.d ∧ RdB w0.heap x.bv x.b.d) (hp : ∀ y ∈ hts, 0 ≤ y) (hk : x.k < 256) (hbh : x.b.h ≤ maxI) :
    cal P f_law23_names_block [.pointer (some ⟨g, o, none⟩), .agg (Rdr.cells Q_flurrylaw23_Act x.t).toArray] w fun r w' => r = bq (bA ids hts x) x.v ∧ ∃ xv' yv', Sep w0 w' (nmA xv' yv' :: rows (rVec 32) xv' (addI ids (bA ids hts x)) :: rows (rInt .i64) yv' (addH hts (bA ids hts x)) :: As) := by
  refine s_law23_names_block fun R hR => ?_
  unfold c_law23_names_block
  refine bxQ hs fun g3 w1 hs1 => ?_
  refine alloc_s hs1 (A_api_Block w1) fun g4 w2 hs2 => ?_
  refine drw_s hs2 fun w3 hs3 _ => ?_
  have ek : (AA.t x).2.1 = (x.k : Int) := rfl
  have hlen : ∀ K, lenS xv K = K (.int .i64 ids.length) := (Sep.rows (Sep.p1 hs)).len
  simp only [nilc_some, fad_mk, pik_true, pik_false, cnd_true, cnd_false, gif_same, gif_tf, gif_ft, gif_undef, bi_add, bi_sub, bi_mul, bi_eql, bi_neq, bi_lss, bi_leq, bi_gtr, bi_geq, notB_bool, cvi_int, lenS_mk, lenT_mk, ext0, ext1, ext2, nilP_mk, nilS_mk, fldv_agg, jn0_k, jn1_k, jn2_k, jn1_and, jn1_or, ex_some, Option.isNone_some, Option.isNone_none, Bool.false_bne, Bool.bne_true, Bool.bne_false, Bool.true_bne, Bool.not_true, Bool.not_false, Bool.and_true, Bool.true_and, Bool.and_false, Bool.false_and, Bool.or_true, Bool.true_or, Bool.or_false, Bool.false_or, cond_true, cond_false, List.getElem?_toArray, List.getElem?_cons_zero, List.getElem?_cons_succ, Nat.zero_add, Nat.add_zero, Nat.reduceAdd, forall_const, L_flurrylaw23_Act (Sep.blk hs3.p1), L_flurrylaw23_Act__Do (Sep.blk hs3.p1), L_flurrylaw23_Act__K (Sep.blk hs3.p1), L_flurrylaw23_Act__Data (Sep.blk hs3.p1), L_flurrylaw23_Act__Poll (Sep.blk hs3.p1), L_flurrylaw23_Act__Node (Sep.blk hs3.p1), L_flurrylaw23_Act__Raw (Sep.blk hs3.p1), L_flurrylaw23_Act__B (Sep.blk hs3.p1), L_flurrylaw23_Act__B_Parent (Sep.blk hs3.p1), L_flurrylaw23_Act__B_Height (Sep.blk hs3.p1), L_flurrylaw23_Act__B_Data (Sep.blk hs3.p1), hP.ldI hs3.p2, ek, hlen]
  rw [wi64 (by omega) (by omega), bi_rem _ _ _ _ (by omega), tmodn]
  have hlt := Nat.mod_lt x.k h0
  obtain ⟨a, ha⟩ : ∃ a, ids[x.k % ids.length]? = some a := ⟨_, List.getElem?_eq_getElem hlt⟩
  obtain ⟨y, hy⟩ : ∃ y, hts[x.k % ids.length]? = some y := ⟨_, List.getElem?_eq_getElem (by omega)⟩
  have hy0 := hp y (List.mem_of_getElem? hy)
  refine drH_S hs3 fun w4 hs4 _ => ?_
  refine rdS_ld (v := xv) (fun u hu K hk => by rw [hP.ldI hu.p2]; exact hk) ?_
  change ixs 32 _ _ _
  refine rdS_rowH (q := rVec 32) (by decide) hs4 (fun u hu => Sep.rows hu.p3) ha .i64 ?_
  refine rdS_ld (v := yv) (fun u hu K hk => by rw [hP.ldH hu.p2]; exact hk) ?_
  change ixs 1 _ _ _
  refine rdS_rowIH hs4 (fun u hu => Sep.rows hu.p4) hy .i64 ?_
  refine ⟨.int .i64 (min y 4611686018427387904), fun u hu => by rw [min_int], ?_⟩
  simp only [nilc_some, fad_mk, pik_true, pik_false, cnd_true, cnd_false, gif_same, gif_tf, gif_ft, gif_undef, bi_add, bi_sub, bi_mul, bi_eql, bi_neq, bi_lss, bi_leq, bi_gtr, bi_geq, notB_bool, cvi_int, lenS_mk, lenT_mk, ext0, ext1, ext2, nilP_mk, nilS_mk, fldv_agg, jn0_k, jn1_k, jn2_k, jn1_and, jn1_or, ex_some, Option.isNone_some, Option.isNone_none, Bool.false_bne, Bool.bne_true, Bool.bne_false, Bool.true_bne, Bool.not_true, Bool.not_false, Bool.and_true, Bool.true_and, Bool.and_false, Bool.false_and, Bool.or_true, Bool.true_or, Bool.or_false, Bool.false_or, cond_true, cond_false, List.getElem?_toArray, List.getElem?_cons_zero, List.getElem?_cons_succ, Nat.zero_add, Nat.add_zero, Nat.reduceAdd, forall_const]
  rw [wi64 (by omega) (by omega)]
  refine rdS_ld (v := x.dv) (fun u hu K hk => (L_flurrylaw23_Act__Data (Sep.blk hu.p1) K).mpr hk) ?_
  refine ⟨bq ⟨a, min y 4611686018427387904 + 1, x.d⟩ x.dv, fun u hu => by rw [B_api_Block_0_1_2 hx.1.one], ?_⟩
  refine efS_i (alloc_s hs4 (A_api_Block w4) fun g6 w5 hs5 => ⟨hs5.tail, ?_⟩)
  refine efC_stN (St_api_Block (b := (a, min y 4611686018427387904 + 1, x.dv)) hs5 (one_api_Block hx.1.one) fun w6 hs6 => ?_)
  obtain ⟨b, hb⟩ : ∃ b, b = bA ids hts x := ⟨_, rfl⟩
  rw [← hb] at hR
  have hbd : ∀ {z : World}, Fr [] w0 z → RdB z.heap x.v b.d := fun {z} hz => by
    rw [hb]
    exact bA_rd ⟨hx.1.fr hz (off_nil _), hx.2.fr hz (off_nil _)⟩
  have hbh' : b.h ≤ maxI := by rw [hb]; exact bA_h hbh
  refine ⟨fun z => Sep w0 z (blk g6 (Rdr.cells Q_api_Block (b.p, b.h, x.v)).toArray T_api_Block :: blk g4 (Rdr.cells Q_api_Block (vz 32, (0 : Int), .slice none 0 0)).toArray T_api_Block :: blk g3 (Rdr.cells Q_flurrylaw23_Act x.t).toArray T_flurrylaw23_Act :: nmA xv yv :: rows (rVec 32) xv ids :: rows (rInt .i64) yv hts :: As), ?_, ?_⟩
  · have eraw : (AA.t x).2.2.2.2.2.1 = x.raw := rfl
    simp only [nilc_some, fad_mk, pik_true, pik_false, cnd_true, cnd_false, gif_same, gif_tf, gif_ft, gif_undef, bi_add, bi_sub, bi_mul, bi_eql, bi_neq, bi_lss, bi_leq, bi_gtr, bi_geq, notB_bool, cvi_int, lenS_mk, lenT_mk, ext0, ext1, ext2, nilP_mk, nilS_mk, fldv_agg, jn0_k, jn1_k, jn2_k, jn1_and, jn1_or, ex_some, Option.isNone_some, Option.isNone_none, Bool.false_bne, Bool.bne_true, Bool.bne_false, Bool.true_bne, Bool.not_true, Bool.not_false, Bool.and_true, Bool.true_and, Bool.and_false, Bool.false_and, Bool.or_true, Bool.true_or, Bool.or_false, Bool.false_or, cond_true, cond_false, List.getElem?_toArray, List.getElem?_cons_zero, List.getElem?_cons_succ, Nat.zero_add, Nat.add_zero, Nat.reduceAdd, forall_const, L_flurrylaw23_Act (Sep.blk hs6.p2), L_flurrylaw23_Act__Do (Sep.blk hs6.p2), L_flurrylaw23_Act__K (Sep.blk hs6.p2), L_flurrylaw23_Act__Data (Sep.blk hs6.p2), L_flurrylaw23_Act__Poll (Sep.blk hs6.p2), L_flurrylaw23_Act__Node (Sep.blk hs6.p2), L_flurrylaw23_Act__Raw (Sep.blk hs6.p2), L_flurrylaw23_Act__B (Sep.blk hs6.p2), L_flurrylaw23_Act__B_Parent (Sep.blk hs6.p2), L_flurrylaw23_Act__B_Height (Sep.blk hs6.p2), L_flurrylaw23_Act__B_Data (Sep.blk hs6.p2), eraw]
    rw [cnd_bool]
    refine ⟨fun h => ?_, fun h => ?_⟩
    · refine St_api_Block (b := (x.b.p, x.b.h, x.bv)) hs6 (one_api_Block hx.2.one) fun w7 hs7 => ?_
      have eb : b = x.b := by rw [hb]; unfold bA; rw [if_pos h]
      have ev : x.v = x.bv := by unfold AA.v; rw [if_pos h]
      rw [eb, ev]
      exact hs7
    · have h' : ¬ x.raw = true := by rw [h]; simp
      have eb : b = ⟨a, min y 4611686018427387904 + 1, x.d⟩ := by
        rw [hb]
        unfold bA
        rw [if_neg h', List.getD_eq_getElem?_getD, ha, List.getD_eq_getElem?_getD, hy]
        rfl
      have ev : x.v = x.dv := by unfold AA.v; rw [if_neg h']
      rw [eb, ev]
      exact hs6
  clear hs6 hs5 hs4 hs3 hs2 hs1
  rintro w7 hs7 _
  refine ⟨fun z => ∃ xv' yv', Sep w0 z (blk g6 (Rdr.cells Q_api_Block (b.p, b.h, x.v)).toArray T_api_Block :: blk g4 (Rdr.cells Q_api_Block (vz 32, (0 : Int), .slice none 0 0)).toArray T_api_Block :: nmA xv' yv' :: rows (rVec 32) xv' (addI ids b) :: rows (rInt .i64) yv' (addH hts b) :: As), ?_, ?_⟩
  · simp only [L_api_Block hs7.blk, L_api_Block__Parent hs7.blk, L_api_Block__Height hs7.blk, L_api_Block__Data hs7.blk]
    refine cal_i (rbID_spec (b := b) (v := x.v) (hbd hs7.fr0) hbh') ?_
    rintro _ w8 ⟨rfl, hf8⟩
    have hs8 := hs7.old hf8
    simp only [nilc_some, fad_mk, pik_true, pik_false, cnd_true, cnd_false, gif_same, gif_tf, gif_ft, gif_undef, bi_add, bi_sub, bi_mul, bi_eql, bi_neq, bi_lss, bi_leq, bi_gtr, bi_geq, notB_bool, cvi_int, lenS_mk, lenT_mk, ext0, ext1, ext2, nilP_mk, nilS_mk, fldv_agg, jn0_k, jn1_k, jn2_k, jn1_and, jn1_or, ex_some, Option.isNone_some, Option.isNone_none, Bool.false_bne, Bool.bne_true, Bool.bne_false, Bool.true_bne, Bool.not_true, Bool.not_false, Bool.and_true, Bool.true_and, Bool.and_false, Bool.false_and, Bool.or_true, Bool.true_or, Bool.or_false, Bool.false_or, cond_true, cond_false, List.getElem?_toArray, List.getElem?_cons_zero, List.getElem?_cons_succ, Nat.zero_add, Nat.add_zero, Nat.reduceAdd, forall_const]
    refine alloc_s hs8 (A_api_ID w8) fun g7 w9 hs9 => ?_
    refine St_api_ID hs9 fun w10 hs10 => ?_
    rw [cnd_bool]
    refine ⟨fun h => ?_, fun h => ?_⟩
    · have h : b.chk = 0 := by simpa using h
      have hnm : b.name = b.id := by unfold Blk.name; rw [if_pos h]
      have eI : addI ids b = ids ++ [b.id] := if_pos h
      have eH : addH hts b = hts ++ [b.h] := if_pos h
      rw [hnm] at hs10
      rw [eI, eH]
      replace hs10 : Sep w0 w10 (rows (rVec 32) xv ids :: rows (rInt .i64) yv hts :: blk g7 (Rdr.cells (rVec 32) b.id).toArray T_api_ID :: blk g6 (Rdr.cells Q_api_Block (b.p, b.h, x.v)).toArray T_api_Block :: nmA xv yv :: blk g4 (Rdr.cells Q_api_Block (vz 32, (0 : Int), .slice none 0 0)).toArray T_api_Block :: As) := Sep.pick hs10 [5, 6, 0, 1, 4, 2] 7
      refine drH_PH (S := fun u => Sep w0 u (blk g7 (Rdr.cells (rVec 32) b.id).toArray T_api_ID :: blk g6 (Rdr.cells Q_api_Block (b.p, b.h, x.v)).toArray T_api_Block :: nmA xv yv :: blk g4 (Rdr.cells Q_api_Block (vz 32, (0 : Int), .slice none 0 0)).toArray T_api_Block :: As)) hs10 (fun u hu => hu.tail.tail) fun w11 hs11 _ => ?_
      refine ⟨fun z => ∃ xv' yv', Sep w0 z (blk g6 (Rdr.cells Q_api_Block (b.p, b.h, x.v)).toArray T_api_Block :: blk g4 (Rdr.cells Q_api_Block (vz 32, (0 : Int), .slice none 0 0)).toArray T_api_Block :: nmA xv' yv' :: rows (rVec 32) xv' (ids ++ [b.id]) :: rows (rInt .i64) yv' (hts ++ [b.h]) :: As), ?_, fun _ h _ => h⟩
      simp only [nilc_some, fad_mk, pik_true, pik_false, cnd_true, cnd_false, gif_same, gif_tf, gif_ft, gif_undef, bi_add, bi_sub, bi_mul, bi_eql, bi_neq, bi_lss, bi_leq, bi_gtr, bi_geq, notB_bool, cvi_int, lenS_mk, lenT_mk, ext0, ext1, ext2, nilP_mk, nilS_mk, fldv_agg, jn0_k, jn1_k, jn2_k, jn1_and, jn1_or, ex_some, Option.isNone_some, Option.isNone_none, Bool.false_bne, Bool.bne_true, Bool.bne_false, Bool.true_bne, Bool.not_true, Bool.not_false, Bool.and_true, Bool.true_and, Bool.and_false, Bool.false_and, Bool.or_true, Bool.true_or, Bool.or_false, Bool.false_or, cond_true, cond_false, List.getElem?_toArray, List.getElem?_cons_zero, List.getElem?_cons_succ, Nat.zero_add, Nat.add_zero, Nat.reduceAdd, forall_const]
      refine rdS_ld (v := xv) (fun u hu K hk => by rw [hP.ldI hu.p2]; exact hk) ?_
      refine ⟨kv b.id, fun u hu => (L_api_ID (Sep.blk hu) _).mpr rfl, ?_⟩
      refine rdS_ld (v := yv) (fun u hu K hk => by rw [hP.ldH hu.p2]; exact hk) ?_
      refine rdS_ld (v := .int .i64 b.h) (fun u hu K hk => (L_api_Block__Height (Sep.blk hu.p1) K).mpr hk) ?_
      refine three_appH hs11 hn (by omega) fun x' y' z hz => ?_
      refine efC_st1 (hP.stI (Sep.pick hz [4, 0, 1, 2, 3, 5] 6) (Sep.oneR hz) fun z2 hz2 => ?_)
      refine efC_st1 (hP.stH hz2 (Sep.oneR hz2.p2) fun z3 hz3 => ?_)
      exact ⟨x', y', Sep.pick hz3 [4, 5, 0, 1, 2] 6⟩
    · have h : ¬ b.chk = 0 := by simpa using h
      have eI : addI ids b = ids := if_neg h
      have eH : addH hts b = hts := if_neg h
      rw [eI, eH]
      exact ⟨xv, yv, Sep.pick hs10 [1, 2, 4, 5, 6] 7⟩
  rintro w8 ⟨xv', yv', hs8⟩ _
  simp only [L_api_Block hs8.blk, L_api_Block__Parent hs8.blk, L_api_Block__Height hs8.blk, L_api_Block__Data hs8.blk]
  refine St_api_Block (b := (b.p, b.h, x.v)) hs8.p1 (one_api_Block (hbd hs8.fr0).one) fun w9 hs9 => ?_
  simp only [L_api_Block hs9.blk, L_api_Block__Parent hs9.blk, L_api_Block__Height hs9.blk, L_api_Block__Data hs9.blk]
  exact hR _ _ ⟨rfl, xv', yv', hs9.tail.tail⟩
end
end Go.Fx
set_option linter.unusedVariables false
set_option linter.unusedSimpArgs false
namespace Go.Fx
/-- From a name that waits to the one that it waits for. -/
def upW (ws : List Wt) (k : Vec 32) : Vec 32 := (gotW k ws).1.p
def upN (ws : List Wt) (k : Vec 32) : Nat → Vec 32
  | 0 => k
  | n + 1 => upW ws (upN ws k n)
/-- The way up from a name leaves what waits. -/
def Ends (ws : List Wt) (k : Vec 32) : Prop := ∃ n, (noW (upN ws k n) ws).isSome = false
theorem noW_mem {ws : List Wt} (hn : (ws.map (·.1)).Nodup) {x : Wt} (hx : x ∈ ws) : noW x.1 ws = some x := by
  induction ws with
  | nil => cases hx
  | cons y ws ih =>
    rw [List.map_cons, List.nodup_cons] at hn
    unfold noW at ih ⊢
    rcases List.mem_cons.1 hx with rfl | hx
    · rw [List.find?_cons_of_pos (by simp)]
    · rw [List.find?_cons_of_neg (by
        simp only [decide_eq_true_eq]
        intro he
        exact hn.1 (he ▸ List.mem_map_of_mem hx))]
      exact ih hn.2 hx
theorem noW_some {ws : List Wt} {k : Vec 32} {x : Wt} (h : noW k ws = some x) : x ∈ ws ∧ x.1 = k := by
  unfold noW at h
  exact ⟨List.mem_of_find?_eq_some h, by have h2 := List.find?_some h; simpa using h2⟩
theorem noW_isSome {ws : List Wt} {k : Vec 32} : (noW k ws).isSome = true ↔ k ∈ ws.map (·.1) := by
  unfold noW
  rw [List.find?_isSome, List.mem_map]
  constructor
  · rintro ⟨x, hx, h⟩; exact ⟨x, hx, of_decide_eq_true h⟩
  · rintro ⟨x, hx, h⟩; exact ⟨x, hx, decide_eq_true h⟩
/-- If all that waits waits for something that waits, and each way up ends, nothing waits. -/
theorem none_left {ws0 ws : List Wt} (hn : (ws0.map (·.1)).Nodup) (hsub : ∀ x ∈ ws, x ∈ ws0) (he : ∀ x ∈ ws, Ends ws0 x.1) (hp : ∀ x ∈ ws, (noW x.2.1.p ws).isSome = true) : ws = [] := by
  cases ws with
  | nil => rfl
  | cons x ws =>
    exfalso
    obtain ⟨n, hend⟩ := he x (List.mem_cons_self ..)
    have key : ∀ n, ∃ y ∈ x :: ws, y.1 = upN ws0 x.1 n := by
      intro n
      induction n with
      | zero => exact ⟨x, List.mem_cons_self .., rfl⟩
      | succ n ih =>
        obtain ⟨y, hy, hyn⟩ := ih
        have h1 := hp y hy
        obtain ⟨z, hz⟩ := Option.isSome_iff_exists.1 h1
        have hz' := noW_some hz
        refine ⟨z, hz'.1, ?_⟩
        show z.1 = upW ws0 (upN ws0 x.1 n)
        unfold upW gotW
        rw [← hyn, noW_mem hn (hsub y hy)]
        exact hz'.2
    obtain ⟨y, hy, hyn⟩ := key n
    rw [← hyn, noW_mem hn (hsub y hy)] at hend
    cases hend
theorem wantS_sub {ws : List Wt} {out : List (Vec 32)} {k x : Vec 32} (h : x ∈ wantS ws out k) : x ∈ out ∨ x = k := by
  unfold wantS at h
  split at h
  · exact .inl h
  · simpa using h
theorem want_sub (ws : List Wt) : ∀ (l out : List (Vec 32)) (x : Vec 32), x ∈ l.foldl (wantS ws) out → x ∈ out ∨ x ∈ l
  | [], out, x, h => .inl h
  | k :: l, out, x, h => by
    rcases want_sub ws l (wantS ws out k) x h with h | h
    · rcases wantS_sub h with h | h
      · exact .inl h
      · exact .inr (by rw [h]; exact List.mem_cons_self ..)
    · exact .inr (List.mem_cons_of_mem _ h)
theorem want_nil (ws : List Wt) : ∀ (l out : List (Vec 32)), l.foldl (wantS ws) out = [] → out = [] ∧ ∀ k ∈ l, (noW k ws).isSome = true
  | [], out, h => ⟨h, fun k hk => by cases hk⟩
  | a :: l, out, h => by
    obtain ⟨h1, h2⟩ := want_nil ws l (wantS ws out a) h
    unfold wantS at h1
    split at h1
    · rename_i hc
      refine ⟨h1, fun k hk => ?_⟩
      rcases List.mem_cons.1 hk with rfl | hk
      · rcases hc with hc | hc
        · exact hc
        · rw [h1] at hc; cases hc
      · exact h2 k hk
    · simp at h1
/-- What is wanted waits for something. -/
theorem wanted_mem {ws : List Wt} {vs : List (Int × Int × Vec 32 × Vec 32)} {k : Vec 32} (h : k ∈ wantedOf ws vs) : (∃ x ∈ ws, x.2.1.p = k) ∨ ∃ v ∈ vs, v.2.2.1 = k := by
  unfold wantedOf at h
  rcases want_sub _ _ _ _ h with h | h
  · rcases want_sub _ _ _ _ h with h | h
    · cases h
    · obtain ⟨x, hx, h⟩ := List.mem_map.1 h
      exact .inl ⟨x, hx, h⟩
  · obtain ⟨x, hx, h⟩ := List.mem_map.1 h
    exact .inr ⟨x, hx, h⟩
/-- If nothing is wanted, and each way up ends, nothing waits. -/
theorem wanted_left {ws0 ws : List Wt} {vs : List (Int × Int × Vec 32 × Vec 32)} (hn : (ws0.map (·.1)).Nodup) (hsub : ∀ x ∈ ws, x ∈ ws0) (he : ∀ x ∈ ws, Ends ws0 x.1) (h : wantedOf ws vs = []) : ws = [] ∧ vs = [] := by
  unfold wantedOf at h
  obtain ⟨h1, h2⟩ := want_nil _ _ _ h
  obtain ⟨_, h3⟩ := want_nil _ _ _ h1
  have e := none_left hn hsub he fun x hx => h3 _ (List.mem_map_of_mem (f := fun x : Wt => x.2.1.p) hx)
  refine ⟨e, ?_⟩
  cases vs with
  | nil => rfl
  | cons v vs =>
    have := h2 v.2.2.1 (by simp)
    rw [e] at this
    cases this
theorem wanted_nn : wantedOf [] [] = [] := rfl
section
variable {w0 w w' : World} {As : List Asn} {g : Nat} {bv vv : Value} {rb rv : Int} {ws : List Wt} {vs : List (Int × Int × Vec 32 × Vec 32)}
theorem round_spec {iv : Value} {ids : List (Vec 32)} (hr : HdR w.heap g bv vv rb rv ws vs) (hi : Rows' (rVec 32) w.heap iv ids) (hn : ws.length ≤ 1000000) (hil : ids.length ≤ 1000000) (hl : ∀ x ∈ ws, x.2.1.d.length ≤ 200) :
    cal P f_law23_round [.pointer (some ⟨g, 0, none⟩), iv] w fun r w' => (∃ b, r = .bool b ∧ (b = false → ∀ k ∈ ids, Ends ws k)) ∧ Fr [] w w' := by
  refine s_law23_round fun R hR => ?_
  unfold c_law23_round
  simp only [hi.len]
  refine ⟨fun y z => ∃ i : Nat, y = .int .i64 i ∧ i ≤ ids.length ∧ (∀ k ∈ ids.take i, Ends ws k) ∧ Fr [] w z, fun y _ => (ids.length - RowKit.intOf y).toNat, ⟨0, rfl, by omega, (fun k hk => by cases hk), Fr.refl _ _⟩, ?_⟩
  rintro _ w1 ⟨i, rfl, hi', hE, hf1⟩ -
  simp only [nilc_some, fad_mk, pik_true, pik_false, cnd_true, cnd_false, gif_same, gif_tf, gif_ft, gif_undef, bi_add, bi_sub, bi_mul, bi_eql, bi_neq, bi_lss, bi_leq, bi_gtr, bi_geq, notB_bool, cvi_int, lenS_mk, lenT_mk, ext0, ext1, ext2, nilP_mk, nilS_mk, fldv_agg, jn0_k, jn1_k, jn2_k, jn1_and, jn1_or, ex_some, Option.isNone_some, Option.isNone_none, Bool.false_bne, Bool.bne_true, Bool.bne_false, Bool.true_bne, Bool.not_true, Bool.not_false, Bool.and_true, Bool.true_and, Bool.and_false, Bool.false_and, Bool.or_true, Bool.true_or, Bool.or_false, Bool.false_or, cond_true, cond_false, List.getElem?_toArray, List.getElem?_cons_zero, List.getElem?_cons_succ, Nat.zero_add, Nat.add_zero, Nat.reduceAdd, forall_const]
  rw [cnd_bool]
  refine ⟨fun h => ?_, fun h => ?_⟩
  case refine_2 =>
    have hge : i = ids.length := by simp at h; omega
    rw [hge, List.take_of_length_le (Nat.le_refl _)] at hE
    exact hR _ _ ⟨⟨false, rfl, fun _ => hE⟩, hf1⟩
  have hlt : i < ids.length := by simp at h; omega
  obtain ⟨a, ha⟩ : ∃ a, ids[i]? = some a := ⟨_, List.getElem?_eq_getElem hlt⟩
  change ixs 32 _ _ _
  refine Rows'.ldN (q := rVec 32) (by decide) (hi.fr hf1) ha .i64 ?_
  refine alloc_s ((Sep.start w).old hf1) (A_api_ID w1) fun g6 w2 hs2 => ?_
  refine St_api_ID (b := a) hs2 fun w3 hs3 => ?_
  simp only [L_api_ID hs3.blk]
  refine alloc_s hs3 (A_api_ID w3) fun g7 w4 hs4 => ?_
  refine St_api_ID (b := a) hs4 fun w5 hs5 => ?_
  replace hs5 := hs5.p1.tail
  refine ⟨fun y z => ∃ n : Nat, y = .int .i64 n ∧ n ≤ ids.length + 1 ∧ Sep w z [blk g7 (Rdr.cells (rVec 32) (upN ws a n)).toArray T_api_ID], fun y _ => (ids.length + 1 - RowKit.intOf y).toNat, ⟨0, rfl, by omega, hs5⟩, ?_⟩
  clear hs5 hs4 hs3 hs2
  rintro _ w6 ⟨n, rfl, hn', hs6⟩ -
  simp only [L_api_ID hs6.blk]
  refine cal_i (hHas_spec (hs6.hd hr) hn hl (upN ws a n)) ?_
  rintro _ w7 ⟨rfl, hf7⟩
  have hs7 := hs6.old hf7
  cases hh : (noW (upN ws a n) ws).isSome with
  | false =>
    simp only [nilc_some, fad_mk, pik_true, pik_false, cnd_true, cnd_false, gif_same, gif_tf, gif_ft, gif_undef, bi_add, bi_sub, bi_mul, bi_eql, bi_neq, bi_lss, bi_leq, bi_gtr, bi_geq, notB_bool, cvi_int, lenS_mk, lenT_mk, ext0, ext1, ext2, nilP_mk, nilS_mk, fldv_agg, jn0_k, jn1_k, jn2_k, jn1_and, jn1_or, ex_some, Option.isNone_some, Option.isNone_none, Bool.false_bne, Bool.bne_true, Bool.bne_false, Bool.true_bne, Bool.not_true, Bool.not_false, Bool.and_true, Bool.true_and, Bool.and_false, Bool.false_and, Bool.or_true, Bool.true_or, Bool.or_false, Bool.false_or, cond_true, cond_false, List.getElem?_toArray, List.getElem?_cons_zero, List.getElem?_cons_succ, Nat.zero_add, Nat.add_zero, Nat.reduceAdd, forall_const]
    rw [cnd_bool]
    refine ⟨fun h => hR _ _ ⟨⟨true, rfl, fun h => by cases h⟩, hs7.fr0⟩, fun h => ?_⟩
    rw [wi64 (by omega) (by omega)]
    refine ⟨⟨i + 1, by simp, by omega, fun k hk => ?_, hs7.fr0⟩, by simp [RowKit.intOf]; omega⟩
    rw [List.take_add_one, ha] at hk
    rcases List.mem_append.1 hk with hk | hk
    · exact hE k hk
    · obtain rfl : k = a := by simpa using hk
      exact ⟨n, hh⟩
  | true =>
  simp only [nilc_some, fad_mk, pik_true, pik_false, cnd_true, cnd_false, gif_same, gif_tf, gif_ft, gif_undef, bi_add, bi_sub, bi_mul, bi_eql, bi_neq, bi_lss, bi_leq, bi_gtr, bi_geq, notB_bool, cvi_int, lenS_mk, lenT_mk, ext0, ext1, ext2, nilP_mk, nilS_mk, fldv_agg, jn0_k, jn1_k, jn2_k, jn1_and, jn1_or, ex_some, Option.isNone_some, Option.isNone_none, Bool.false_bne, Bool.bne_true, Bool.bne_false, Bool.true_bne, Bool.not_true, Bool.not_false, Bool.and_true, Bool.true_and, Bool.and_false, Bool.false_and, Bool.or_true, Bool.true_or, Bool.or_false, Bool.false_or, cond_true, cond_false, List.getElem?_toArray, List.getElem?_cons_zero, List.getElem?_cons_succ, Nat.zero_add, Nat.add_zero, Nat.reduceAdd, forall_const]
  rw [cnd_bool]
  refine ⟨fun h => ?_, fun h => ?_⟩
  · have hle : n ≤ ids.length := by simp at h; omega
    simp only [L_api_ID hs7.blk]
    refine cal_i (hGet_spec (hs7.hd hr) hn hl (upN ws a n)) ?_
    rintro _ w8 ⟨v, rfl, hs8⟩
    replace hs8 := hs7.join hs8
    simp only [nilc_some, fad_mk, pik_true, pik_false, cnd_true, cnd_false, gif_same, gif_tf, gif_ft, gif_undef, bi_add, bi_sub, bi_mul, bi_eql, bi_neq, bi_lss, bi_leq, bi_gtr, bi_geq, notB_bool, cvi_int, lenS_mk, lenT_mk, ext0, ext1, ext2, nilP_mk, nilS_mk, fldv_agg, jn0_k, jn1_k, jn2_k, jn1_and, jn1_or, ex_some, Option.isNone_some, Option.isNone_none, Bool.false_bne, Bool.bne_true, Bool.bne_false, Bool.true_bne, Bool.not_true, Bool.not_false, Bool.and_true, Bool.true_and, Bool.and_false, Bool.false_and, Bool.or_true, Bool.true_or, Bool.or_false, Bool.false_or, cond_true, cond_false, List.getElem?_toArray, List.getElem?_cons_zero, List.getElem?_cons_succ, Nat.zero_add, Nat.add_zero, Nat.reduceAdd, forall_const, hh, if_true]
    refine alloc_s hs8 (A_api_Block w8) fun g9 w9 hs9 => ?_
    refine St_api_Block hs9 (one_api_Block (Sep.one hs9.p1)) fun w10 hs10 => ?_
    simp only [nilc_some, fad_mk, pik_true, pik_false, cnd_true, cnd_false, gif_same, gif_tf, gif_ft, gif_undef, bi_add, bi_sub, bi_mul, bi_eql, bi_neq, bi_lss, bi_leq, bi_gtr, bi_geq, notB_bool, cvi_int, lenS_mk, lenT_mk, ext0, ext1, ext2, nilP_mk, nilS_mk, fldv_agg, jn0_k, jn1_k, jn2_k, jn1_and, jn1_or, ex_some, Option.isNone_some, Option.isNone_none, Bool.false_bne, Bool.bne_true, Bool.bne_false, Bool.true_bne, Bool.not_true, Bool.not_false, Bool.and_true, Bool.true_and, Bool.and_false, Bool.false_and, Bool.or_true, Bool.true_or, Bool.or_false, Bool.false_or, cond_true, cond_false, List.getElem?_toArray, List.getElem?_cons_zero, List.getElem?_cons_succ, Nat.zero_add, Nat.add_zero, Nat.reduceAdd, forall_const, show ((0 : Int) != 0) = false from rfl, L_api_Block hs10.blk, L_api_Block__Parent hs10.blk, L_api_Block__Height hs10.blk, L_api_Block__Data hs10.blk]
    refine St_api_ID (Sep.pick hs10 [2] 3) fun w11 hs11 => ?_
    rw [wi64 (by omega) (by omega)]
    exact ⟨⟨n + 1, by simp, by omega, hs11⟩, by simp [RowKit.intOf]; omega⟩
  · have hgt : ids.length < n := by simp at h; omega
    rw [cnd_bool]
    refine ⟨fun h => hR _ _ ⟨⟨true, rfl, fun h => by cases h⟩, hs7.fr0⟩, fun h => ?_⟩
    rw [wi64 (by omega) (by omega)]
    refine ⟨⟨i + 1, by simp, by omega, fun k hk => ?_, hs7.fr0⟩, by simp [RowKit.intOf]; omega⟩
    rw [List.take_add_one, ha] at hk
    rcases List.mem_append.1 hk with hk | hk
    · exact hE k hk
    · obtain rfl : k = a := by simpa using hk
      simp at h
      omega
end
end Go.Fx
set_option linter.unusedVariables false
set_option linter.unusedSimpArgs false
namespace Go.Fx
theorem Rows'.ldBo {w : World} {v : Value} {l : List Bool} {j : Nat} {a : Bool} (hr : Rows' rBool w.heap v l) (hj : l[j]? = some a) (k : IntKind) {K : Value → Prop} (h : K (.bool a)) : ixs 1 v (.int k (j : Int)) fun t => Go.Fx.ld1 t w.heap K := by
  obtain ⟨g, o, ha, hx⟩ := hr.ix (by decide) hj
  have hx' : ∀ K, ixs 1 v (.int k (j : Int)) K = K (.pointer (some ⟨g, o, none⟩)) := hx k
  rw [hx', At.ld1 (v := .bool a) ha]
  exact h
/-- What is known of what waits, and of the names. -/
structure HI (ws : List Wt) (ids : List (Vec 32)) (hts : List Int) : Prop where
  nd : (ws.map (·.1)).Nodup
  ok : ∀ x ∈ ws, x.2.1.chk = 0 ∧ x.1 = x.2.1.id ∧ x.2.1.h ≤ maxI
  mem : ∀ x ∈ ws, x.1 ∈ ids
  hl : hts.length = ids.length
  h0 : 0 < ids.length
  hp : ∀ y ∈ hts, 0 ≤ y
theorem HI.sm {ws : List Wt} {ids : List (Vec 32)} {hts : List Int} (h : HI ws ids hts) : ∀ x ∈ ws, x.2.1.d.length ≤ 200 := fun x hx => chk0_len (h.ok x hx).1
theorem HI.start : HI [] [m77] [3] := ⟨by simp, (fun x hx => by cases hx), (fun x hx => by cases hx), rfl, by simp, fun y hy => by simp at hy; omega⟩
theorem HI.name {ws : List Wt} {ids : List (Vec 32)} {hts : List Int} (h : HI ws ids hts) (b : Blk) : HI ws (addI ids b) (addH hts b) := by
  unfold addI addH
  by_cases hb : b.chk = 0
  · rw [if_pos hb, if_pos hb]
    refine ⟨h.nd, h.ok, fun x hx => List.mem_append_left _ (h.mem x hx), by rw [List.length_append, List.length_append, h.hl]; rfl, by rw [List.length_append]; have := h.h0; omega, fun y hy => ?_⟩
    rcases List.mem_append.1 hy with hy | hy
    · exact h.hp y hy
    · rw [List.mem_singleton.1 hy]; exact chk0_h hb
  · rw [if_neg hb, if_neg hb]
    exact h
theorem blkE0 {rb : Int} {ws : List Wt} {b : Blk} (h : blkE rb ws b = 0) : b.chk = 0 ∧ b.id ∉ ws.map (·.1) ∧ (ws.length : Int) < rb := by
  unfold blkE at h
  split at h
  · rename_i h1; exact absurd h h1
  rename_i h1
  split at h
  · cases h
  rename_i h2
  split at h
  · cases h
  rename_i h3
  exact ⟨Decidable.not_not.1 h1, fun hm => h2 (noW_isSome.2 hm), by omega⟩
theorem HI.block {ws : List Wt} {ids : List (Vec 32)} {hts : List Int} {rb : Int} {b : Blk} {v : Value} (h : HI ws (addI ids b) hts) (hb : blkE rb ws b = 0) (hh : b.h ≤ maxI) : HI (ws ++ [(b.id, b, v)]) (addI ids b) hts := by
  obtain ⟨h1, h2, _⟩ := blkE0 hb
  refine ⟨?_, fun x hx => ?_, fun x hx => ?_, h.hl, h.h0, h.hp⟩
  · rw [List.map_append, List.nodup_append]
    refine ⟨h.nd, by simp, fun x hx y hy he => ?_⟩
    simp only [List.map_cons, List.map_nil, List.mem_singleton] at hy
    exact h2 (hy ▸ he ▸ hx)
  · rcases List.mem_append.1 hx with hx | hx
    · exact h.ok x hx
    · rw [List.mem_singleton.1 hx]; exact ⟨h1, rfl, hh⟩
  · rcases List.mem_append.1 hx with hx | hx
    · exact h.mem x hx
    · rw [List.mem_singleton.1 hx]
      unfold addI
      rw [if_pos h1]
      simp
theorem addI_len (ids : List (Vec 32)) (b : Blk) : (addI ids b).length ≤ ids.length + 1 := by
  unfold addI
  split
  · simp
  · omega
theorem DatW.app {ws : List Wt} {E : List Asn} {k : Vec 32} {b : Blk} {v : Value} (h : DatW ws E) : DatW (ws ++ [(k, b, v)]) (ownB v b.d :: E) := fun x hx => by
  rcases List.mem_append.1 hx with hx | hx
  · exact List.mem_cons_of_mem _ (h x hx)
  · rw [List.mem_singleton.1 hx]; exact List.mem_cons_self ..
/-- Behind n acts. -/
def ESt (w z : World) (g : Nat) (rb rv : Int) (gx : Nat) (rp : Value) (n : Nat) : Prop :=
  ∃ bv vv xv yv ws vs ids hts E, HI ws ids hts ∧ ws.length + vs.length ≤ n ∧ ids.length ≤ n + 1 ∧ DatW ws E ∧ Sep w z (hdH g bv vv rb rv ws vs ++ (nmB gx (.pointer (some ⟨g, 0, none⟩)) rp xv yv :: rows (rVec 32) xv ids :: rows (rInt .i64) yv hts :: E))
theorem len_splitH {α : Type} (p : α → Bool) : ∀ l : List α, (l.filter p).length + (l.filter fun x => !p x).length = l.length
  | [] => rfl
  | a :: l => by
    have ih := len_splitH p l
    rw [List.filter_cons, List.filter_cons]
    cases h : p a <;> simp [h] <;> omega
theorem len_pos {α : Type} {p : α → Bool} {a : α} (hp : p a = true) {l : List α} (h : a ∈ l) : 0 < (l.filter p).length := List.length_pos_of_mem (List.mem_filter.2 ⟨h, hp⟩)
theorem out_lt {ws : List Wt} {vs : List (Int × Int × Vec 32 × Vec 32)} {k : Vec 32} (p : Vec 32 → Bool) (hk : k ∈ wantedOf ws vs) (hp : p k = true) : (ws.filter fun x => !p x.2.1.p).length + (vs.filter fun x => !p x.2.2.1).length < ws.length + vs.length := by
  have h1 := len_splitH (fun x : Wt => p x.2.1.p) ws
  have h2 := len_splitH (fun x : Int × Int × Vec 32 × Vec 32 => p x.2.2.1) vs
  rcases wanted_mem hk with ⟨x, hx, he⟩ | ⟨x, hx, he⟩
  · have := len_pos (p := fun x : Wt => p x.2.1.p) (a := x) (by rw [he]; exact hp) hx
    omega
  · have := len_pos (p := fun x : Int × Int × Vec 32 × Vec 32 => p x.2.2.1) (a := x) (by rw [he]; exact hp) hx
    omega
theorem out_le (ws : List Wt) (vs : List (Int × Int × Vec 32 × Vec 32)) (p : Vec 32 → Bool) : (ws.filter fun x => !p x.2.1.p).length + (vs.filter fun x => !p x.2.2.1).length ≤ ws.length + vs.length := by
  have h1 := len_splitH (fun x : Wt => p x.2.1.p) ws
  have h2 := len_splitH (fun x : Int × Int × Vec 32 × Vec 32 => p x.2.2.1) vs
  omega
theorem lost_has {ws : List Wt} {k : Vec 32} {L : List (Vec 32)} (h : LostIs ws k L) : k ∈ L := by
  obtain ⟨hf, n, rfl⟩ := h
  clear hf
  have grow : ∀ (l : List Wt) (L : List (Vec 32)), k ∈ L → k ∈ l.foldl lostS L := by
    intro l
    induction l with
    | nil => intro L h; exact h
    | cons a l ih =>
      intro L h
      rw [List.foldl_cons]
      refine ih _ ?_
      unfold lostS
      split
      · exact List.mem_append_left _ h
      · exact h
  induction n with
  | zero => exact List.mem_cons_self ..
  | succ n ih => exact grow ws _ ih
section
variable {w0 w : World} {As : List Asn}
theorem acts_spec {v : Value} {l : List AA} {g gx : Nat} {rb rv : Int} {rp : Value} {R : Value → World → Prop} (hC : Cub w) (hr : ARows w.heap v l) (hok : AOk l) (hl : l.length ≤ 60) {a : AA} {i : Nat} (hi : i < l.length) (ha : l[i]? = some a) {z : World} (hz : ESt w z g rb rv gx rp i) :
    ∀ K : World → Prop, (∀ z', ESt w z' g rb rv gx rp (i + 1) → K z') →
    ixs 40 v (.int .i64 (i : Int)) fun t70 =>
  ldN 40 t70 z.heap fun t71 =>
  efP P (Instr.alloc T_flurrylaw23_Act true (.tuple #[])) z fun t13 w =>
  stN 40 t13 t71 w fun w =>
  fad 0 t13 fun t72 =>
  ld1 t72 w.heap fun t73 =>
  bi BinOp.eql t73 (Value.int IntKind.i64 0) fun t75 =>
  cnd t75
  (drH w fun S w =>
  nilc (.pointer (some ⟨gx, 0, none⟩)) fun t78 =>
  fad 2 t78 fun t79 =>
  rdS S (fun w => ldN 40 t13 w.heap) fun t80 =>
  efC (cal P f_law23_names_block [t79, t80]) w fun S t81 w =>
  efC (cal P f_hold_Hold_Block [.pointer (some ⟨g, 0, none⟩), t81]) w fun S t82 w =>
  K w)
  (bi BinOp.eql t73 (Value.int IntKind.i64 1) fun t84 =>
  cnd t84
  (drH w fun S w =>
  fad 3 t13 fun t86 =>
  rdS S (fun w => ld1 t86 w.heap) fun t87 =>
  fad 4 t13 fun t88 =>
  rdS S (fun w => ld1 t88 w.heap) fun t89 =>
  nilc (.pointer (some ⟨gx, 0, none⟩)) fun t91 =>
  fad 2 t91 fun t92 =>
  fad 1 t13 fun t93 =>
  rdS S (fun w => ld1 t93 w.heap) fun t94 =>
  efS S (cal P f_law23_names_id [t92, t94]) w fun t95 w =>
  rdS S (rdP P (Instr.build T_api_HeldVote #[(0, t87), (1, t89), (2, t95)])) fun t96 =>
  efC (cal P f_hold_Hold_Vote [.pointer (some ⟨g, 0, none⟩), t96]) w fun S t97 w =>
  K w)
  (K w)) := by
  intro K hK
  obtain ⟨bv, vv, xv, yv, ws, vs, ids, hts, E, hI, hn, hil, hD, hs⟩ := hz
  have hak := hok a (List.mem_of_getElem? ha)
  have ham := List.mem_of_getElem? ha
  have ha' : (l.map AA.t)[i]? = some a.t := by rw [List.getElem?_map, ha]; rfl
  change ixs 40 _ _ _
  refine Rows'.ldN (q := Q_flurrylaw23_Act) (by decide) (hr.rw.fr hs.fr0) ha' .i64 ?_
  refine alloc_s hs (A_flurrylaw23_Act z) fun g13 w1 hs1 => ?_
  have hd := hr.d a ham
  refine St_flurrylaw23_Act (b := a.t) hs1 (one_flurrylaw23_Act hd.1.one hd.2.one) fun w2 hs2 => ?_
  have e0 : (AA.t a).1 = a.act := rfl
  simp only [nilc_some, fad_mk, pik_true, pik_false, cnd_true, cnd_false, gif_same, gif_tf, gif_ft, gif_undef, bi_add, bi_sub, bi_mul, bi_eql, bi_neq, bi_lss, bi_leq, bi_gtr, bi_geq, notB_bool, cvi_int, lenS_mk, lenT_mk, ext0, ext1, ext2, nilP_mk, nilS_mk, fldv_agg, jn0_k, jn1_k, jn2_k, jn1_and, jn1_or, ex_some, Option.isNone_some, Option.isNone_none, Bool.false_bne, Bool.bne_true, Bool.bne_false, Bool.true_bne, Bool.not_true, Bool.not_false, Bool.and_true, Bool.true_and, Bool.and_false, Bool.false_and, Bool.or_true, Bool.true_or, Bool.or_false, Bool.false_or, cond_true, cond_false, List.getElem?_toArray, List.getElem?_cons_zero, List.getElem?_cons_succ, Nat.zero_add, Nat.add_zero, Nat.reduceAdd, forall_const, L_flurrylaw23_Act hs2.blk, L_flurrylaw23_Act__Do hs2.blk, L_flurrylaw23_Act__K hs2.blk, L_flurrylaw23_Act__Data hs2.blk, L_flurrylaw23_Act__Poll hs2.blk, L_flurrylaw23_Act__Node hs2.blk, L_flurrylaw23_Act__Raw hs2.blk, L_flurrylaw23_Act__B hs2.blk, L_flurrylaw23_Act__B_Parent hs2.blk, L_flurrylaw23_Act__B_Height hs2.blk, L_flurrylaw23_Act__B_Data hs2.blk, e0]
  rw [cnd_bool]
  refine ⟨fun h => ?_, fun h => ?_⟩
  · refine drH_S hs2 fun w3 hs3 _ => ?_
    refine ⟨.agg (Rdr.cells Q_flurrylaw23_Act a.t).toArray, fun u hu => (L_flurrylaw23_Act (Sep.blk hu) _).mpr rfl, ?_⟩
    obtain ⟨b, hb⟩ : ∃ b, b = bA ids hts a := ⟨_, rfl⟩
    have hbh : b.h ≤ maxI := by rw [hb]; exact bA_h hak.2.1
    refine efC_cal (cal_i (names_block_spec (x := a) (nmP_B gx (.pointer (some ⟨g, 0, none⟩)) rp) (Sep.pick hs3 [4, 5, 6, 0, 1, 2, 3] 7) hI.hl hI.h0 (by omega) hd hI.hp hak.1 hak.2.1) ?_)
    rw [← hb]
    rintro _ w4 ⟨rfl, xv', yv', hs4⟩
    have hbd : RdB w4.heap a.v b.d := by rw [hb]; exact bA_rd ⟨hd.1.fr hs4.fr0 (off_nil _), hd.2.fr hs4.fr0 (off_nil _)⟩
    replace hs4 : Sep w w4 (hdH g bv vv rb rv ws vs ++ (nmB gx (.pointer (some ⟨g, 0, none⟩)) rp xv' yv' :: rows (rVec 32) xv' (addI ids b) :: rows (rInt .i64) yv' (addH hts b) :: E)) := Sep.pick hs4 [4, 5, 6, 0, 1, 2] 7
    have hal := addI_len ids b
    refine efC_cal (cal_i (hBlock_spec hs4 (hD.sub fun A hA => List.mem_cons_of_mem _ (List.mem_cons_of_mem _ (List.mem_cons_of_mem _ hA))) (hC.fr hs4.fr0) hbd hbh (by omega) hI.sm) ?_)
    rintro _ w5 ⟨rfl, ⟨_, hs5⟩ | ⟨hE, bv', vd, hs5⟩⟩
    · exact hK _ ⟨bv, vv, xv', yv', ws, vs, addI ids b, addH hts b, E, hI.name b, by omega, by omega, hD, hs5⟩
    · exact hK _ ⟨bv', vv, xv', yv', ws ++ [(b.id, b, vd)], vs, addI ids b, addH hts b, ownB vd b.d :: E, (hI.name b).block hE hbh, by simp; omega, by omega, hD.app, Sep.pick hs5 [0, 1, 2, 4, 5, 6, 3] 7⟩
  rw [cnd_bool]
  refine ⟨fun h => ?_, fun h => ?_⟩
  · refine drH_S hs2 fun w3 hs3 _ => ?_
    refine rdS_ld (v := .int .i64 a.poll) (fun u hu K hk => (L_flurrylaw23_Act__Poll (Sep.blk hu) K).mpr hk) ?_
    refine rdS_ld (v := .int .i64 a.node) (fun u hu K hk => (L_flurrylaw23_Act__Node (Sep.blk hu) K).mpr hk) ?_
    refine rdS_ld (v := .int .u8 a.k) (fun u hu K hk => (L_flurrylaw23_Act__K (Sep.blk hu) K).mpr hk) ?_
    refine efS_i (cal_i (names_id_spec (nmP_B gx (.pointer (some ⟨g, 0, none⟩)) rp) (Sep.pick hs3 [4, 5] 7) hI.h0 (by omega) hak.1) ?_)
    rintro _ w4 ⟨rfl, hf4⟩
    have hs4 := hs3.old hf4
    refine ⟨hs4, ?_⟩
    refine ⟨.agg (Rdr.cells Q_api_HeldVote (a.poll, a.node, ids.getD (a.k % ids.length) (vz 32), vz 32)).toArray, fun u hu => by rw [B_api_HeldVote_0_1_2], ?_⟩
    replace hs4 : Sep w w4 (hdH g bv vv rb rv ws vs ++ (nmB gx (.pointer (some ⟨g, 0, none⟩)) rp xv yv :: rows (rVec 32) xv ids :: rows (rInt .i64) yv hts :: E)) := hs4.tail
    refine efC_cal (cal_i (hVote_spec hs4 (hD.sub fun A hA => List.mem_cons_of_mem _ (List.mem_cons_of_mem _ (List.mem_cons_of_mem _ hA))) (by omega)) ?_)
    rintro _ w5 ⟨rfl, ⟨_, hs5⟩ | ⟨hE, vv', hs5⟩⟩
    · exact hK _ ⟨bv, vv, xv, yv, ws, vs, ids, hts, E, hI, by omega, by omega, hD, hs5⟩
    · exact hK _ ⟨bv, vv', xv, yv, ws, _, ids, hts, E, hI, by simp; omega, by omega, hD, hs5⟩
  · exact hK _ ⟨bv, vv, xv, yv, ws, vs, ids, hts, E, hI, by omega, by omega, hD, hs2.tail⟩
end
end Go.Fx
set_option linter.unusedVariables false
set_option linter.unusedSimpArgs false
namespace Go.Fx
/-- What waits still, while all is emptied: n is more than how much. -/
def EmT (w z : World) (g : Nat) (rb rv : Int) (ws0 : List Wt) (n : Nat) : Prop :=
  ∃ bv vv ws vs E, (∀ x ∈ ws, x ∈ ws0) ∧ ws.length + vs.length ≤ n ∧ DatW ws E ∧ Sep w z (hdH g bv vv rb rv ws vs ++ E)
/-- While names come. -/
def ComeT (w z : World) (g : Nat) (rb rv : Int) (ws0 : List Wt) (k0 : Vec 32) (m1 m2 : Nat) (x : Value) (k : Nat) : Prop :=
  ∃ bv vv ws vs E C, (∀ x ∈ ws, x ∈ ws0) ∧ DatW ws E ∧ k ≤ C.length ∧ C.length + ws.length ≤ 1 + m1 ∧ (k = 0 → C = [k0] ∧ k0 ∈ wantedOf ws vs ∧ ws.length + vs.length ≤ m2 + 1) ∧ (0 < k → ws.length + vs.length ≤ m2) ∧
    Sep w z (rows (rVec 32) x C :: (hdH g bv vv rb rv ws vs ++ E))
section
variable {w0 w : World} {As : List Asn} {g : Nat} {rb rv : Int} {ws0 : List Wt} {k0 : Vec 32} {m1 m2 : Nat} {x : Value}
/-- One name comes: what came is put behind those that come. -/
theorem come_spec {R : Value → World → Prop} {k : Nat} {z : World} (hC : Cub w) (hok : ∀ x ∈ ws0, x.2.1.chk = 0 ∧ x.1 = x.2.1.id ∧ x.2.1.h ≤ maxI) (hm1 : m1 ≤ 1000) (hm2 : m2 ≤ 1000) (hz : ComeT w z g rb rv ws0 k0 m1 m2 x k) (hlt : ∀ C, ∀ z, Rows' (rVec 32) z x C → k < C.length)
    (K : Value → World → Prop) (hK : ∀ x' z', ComeT w z' g rb rv ws0 k0 m1 m2 x' (k + 1) → K x' z') :
  ixs 32 x (.int .i64 (k : Int)) fun t153 =>
  ldN 32 t153 z.heap fun t154 =>
  cal P f_hold_Hold_Came [.pointer (some ⟨g, 0, none⟩), t154] z fun t155 w =>
  ext 0 t155 fun t156 =>
  ext 1 t155 fun t157 =>
  lenS t156 fun t159 =>
  lp2 x (Value.int IntKind.i64 0) w fun _ t16_1 t160 w again13 =>
  bi BinOp.lss t160 t159 fun t161 =>
  cnd t161
  (ixs 34 t156 t160 fun t162 =>
  ldN 34 t162 w.heap fun t163 =>
  efP P (Instr.alloc T_api_Block true (.tuple #[])) w fun t21 w =>
  stN 34 t21 t163 w fun w =>
  ldN 34 t21 w.heap fun t165 =>
  cal P f_block_ID [t165] w fun t166 w =>
  ext 0 t166 fun t167 =>
  ext 1 t166 fun t168 =>
  efP P (Instr.alloc T_api_ID true (.tuple #[])) w fun t22 w =>
  stN 32 t22 t167 w fun w =>
  bi BinOp.neq t168 (Value.int IntKind.i64 0) fun t170 =>
  cnd t170
  (R (Value.bool false) w)
  (ldN 32 t22 w.heap fun t172 =>
  efP P (Instr.buildSlice T_sl_api_ID 1 #[(0, t172)]) w fun t173 w =>
  efP P (Builtin.append_ #[T_sl_api_ID, T_sl_api_ID] T_sl_api_ID #[t16_1, t173]) w fun t174 w =>
  bi BinOp.add t160 (Value.int IntKind.i64 1) fun t175 =>
  again13 t174 t175 w))
  (K t16_1 w) := by
  obtain ⟨bv, vv, ws, vs, E, C, hsub, hD, hk, hCl, hk0, hk1, hs⟩ := hz
  have hlt := hlt C z.heap (Sep.rows hs)
  obtain ⟨kk, hkk⟩ : ∃ kk, C[k]? = some kk := ⟨_, List.getElem?_eq_getElem hlt⟩
  have hwsl : ∀ y ∈ ws, y.2.1.d.length ≤ 200 := fun y hy => chk0_len (hok y (hsub y hy)).1
  have hvl : vs.length ≤ 1000000 := by
    by_cases h0 : k = 0
    · have := (hk0 h0).2.2; omega
    · have := hk1 (by omega); omega
  change ixs 32 _ _ _
  refine Rows'.ldN (q := rVec 32) (by decide) (Sep.rows hs) hkk .i64 ?_
  replace hs : Sep w z (hdH g bv vv rb rv ws vs ++ (rows (rVec 32) x C :: E)) := Sep.pick hs [1, 2, 3, 0] 4
  refine cal_i (hCame_spec hs (hD.sub fun A hA => List.mem_cons_of_mem _ hA) (by omega) hvl hwsl kk) ?_
  rintro _ w1 ⟨ob, ov, bv', vv', os, E1, rfl, hos, hDO, hs1⟩
  obtain ⟨ws1, hws1⟩ : ∃ ws1, ws1 = ws.filter fun x => decide (x.2.1.p = kk) := ⟨_, rfl⟩
  rw [← hws1] at hos
  have hosl : os.length = ws1.length := by
    have := congrArg List.length hos
    simpa using this
  have hcl2 := len_splitH (fun x : Wt => decide (x.2.1.p = kk)) ws
  rw [← hws1] at hcl2
  have hle := out_le ws vs fun x => decide (x = kk)
  have hmem : ∀ y ∈ os, y.1.chk = 0 ∧ y.1.h ≤ maxI := fun y hy => by
    have h1 : y.1 ∈ os.map (·.1) := List.mem_map_of_mem hy
    rw [hos] at h1
    obtain ⟨e, he, hee⟩ := List.mem_map.1 h1
    rw [hws1] at he
    have := hok e (hsub e (List.mem_filter.1 he).1)
    rw [← hee]
    exact ⟨this.1, this.2.2⟩
  have hfin : k + 1 ≤ C.length + os.length ∧ (C ++ os.map (·.1.id)).length + (ws.filter fun x => !decide (x.2.1.p = kk)).length ≤ 1 + m1 ∧ (ws.filter fun x => !decide (x.2.1.p = kk)).length + (vs.filter fun x => !decide (x.2.2.1 = kk)).length ≤ m2 := by
    refine ⟨by omega, by rw [List.length_append, List.length_map]; omega, ?_⟩
    by_cases h0 : k = 0
    · obtain ⟨hC1, hw, hm⟩ := hk0 h0
      subst h0
      rw [hC1] at hkk
      obtain rfl : k0 = kk := by simpa using hkk
      have := out_lt (fun x => decide (x = k0)) hw (by simp)
      omega
    · have := hk1 (by omega)
      omega
  obtain ⟨Y, hY⟩ : ∃ Y, Y = hdH g bv' vv' rb rv (ws.filter fun x => !decide (x.2.1.p = kk)) (vs.filter fun x => !decide (x.2.2.1 = kk)) ++ (rows Q_api_Block ob (os.map Wb) :: rows Q_api_HeldVote ov (vs.filter fun x => decide (x.2.2.1 = kk)) :: (E1 ++ E)) := ⟨_, rfl⟩
  replace hs1 : Sep w w1 (rows (rVec 32) x C :: Y) := by
    rw [hY]
    have h1 : Sep w w1 ((hdH g bv' vv' rb rv (ws.filter fun x => !decide (x.2.1.p = kk)) (vs.filter fun x => !decide (x.2.2.1 = kk)) ++ (rows Q_api_Block ob (os.map Wb) :: rows Q_api_HeldVote ov (vs.filter fun x => decide (x.2.2.1 = kk)) :: E1)) ++ rows (rVec 32) x C :: E) := by
      simp only [List.append_assoc, List.cons_append]
      exact hs1
    have h2 := Sep.mid h1
    simp only [List.append_assoc, List.cons_append] at h2
    exact h2
  have fob : ∀ {z : World} {B1 : Asn}, Sep w z (B1 :: Y) → Rows' Q_api_Block z.heap ob (os.map Wb) := fun {z B1} hz => by
    rw [hY] at hz
    exact Sep.rows (Sep.pick hz [4] 5)
  have fd : ∀ {z : World} {B1 : Asn}, Sep w z (B1 :: Y) → ∀ y ∈ os, RdB z.heap y.2 y.1.d := fun {z B1} hz y hy => by
    obtain ⟨F, hF⟩ := hz.onL (A := ownB y.2 y.1.d) (List.mem_cons_of_mem _ (by rw [hY]; exact List.mem_append_right _ (List.mem_cons_of_mem _ (List.mem_cons_of_mem _ (List.mem_append_left _ (hDO y hy))))))
    exact OwnB.rd hF
  have hlo : ∀ K, lenS ob K = K (.int .i64 os.length) := fun K => by
    have := (fob hs1).len K
    rwa [List.length_map] at this
  simp only [nilc_some, fad_mk, pik_true, pik_false, cnd_true, cnd_false, gif_same, gif_tf, gif_ft, gif_undef, bi_add, bi_sub, bi_mul, bi_eql, bi_neq, bi_lss, bi_leq, bi_gtr, bi_geq, notB_bool, cvi_int, lenS_mk, lenT_mk, ext0, ext1, ext2, nilP_mk, nilS_mk, fldv_agg, jn0_k, jn1_k, jn2_k, jn1_and, jn1_or, ex_some, Option.isNone_some, Option.isNone_none, Bool.false_bne, Bool.bne_true, Bool.bne_false, Bool.true_bne, Bool.not_true, Bool.not_false, Bool.and_true, Bool.true_and, Bool.and_false, Bool.false_and, Bool.or_true, Bool.true_or, Bool.or_false, Bool.false_or, cond_true, cond_false, List.getElem?_toArray, List.getElem?_cons_zero, List.getElem?_cons_succ, Nat.zero_add, Nat.add_zero, Nat.reduceAdd, forall_const, hlo]
  refine ⟨fun y z' w' => ∃ j : Nat, z' = .int .i64 j ∧ j ≤ os.length ∧ Sep w w' (rows (rVec 32) y (C ++ (os.take j).map (·.1.id)) :: Y), fun _ z' _ => (os.length - RowKit.intOf z').toNat, ⟨0, rfl, by omega, by simpa using hs1⟩, ?_⟩
  clear hs1 hs
  rintro y _ w2 ⟨j, rfl, hj, hs2⟩ -
  simp only [nilc_some, fad_mk, pik_true, pik_false, cnd_true, cnd_false, gif_same, gif_tf, gif_ft, gif_undef, bi_add, bi_sub, bi_mul, bi_eql, bi_neq, bi_lss, bi_leq, bi_gtr, bi_geq, notB_bool, cvi_int, lenS_mk, lenT_mk, ext0, ext1, ext2, nilP_mk, nilS_mk, fldv_agg, jn0_k, jn1_k, jn2_k, jn1_and, jn1_or, ex_some, Option.isNone_some, Option.isNone_none, Bool.false_bne, Bool.bne_true, Bool.bne_false, Bool.true_bne, Bool.not_true, Bool.not_false, Bool.and_true, Bool.true_and, Bool.and_false, Bool.false_and, Bool.or_true, Bool.true_or, Bool.or_false, Bool.false_or, cond_true, cond_false, List.getElem?_toArray, List.getElem?_cons_zero, List.getElem?_cons_succ, Nat.zero_add, Nat.add_zero, Nat.reduceAdd, forall_const]
  rw [cnd_bool]
  refine ⟨fun h => ?_, fun h => ?_⟩
  · have hjlt : j < os.length := by simp at h; omega
    obtain ⟨e, he⟩ : ∃ e, os[j]? = some e := ⟨_, List.getElem?_eq_getElem hjlt⟩
    have hem := List.mem_of_getElem? he
    have he' : (os.map Wb)[j]? = some (Wb e) := by rw [List.getElem?_map, he]; rfl
    change ixs 34 _ _ _
    refine Rows'.ldN (q := Q_api_Block) (by decide) (fob hs2) he' .i64 ?_
    refine alloc_s hs2 (A_api_Block w2) fun g21 w3 hs3 => ?_
    refine St_api_Block (b := Wb e) hs3 (one_api_Block (fd hs2 e hem).one) fun w4 hs4 => ?_
    simp only [L_api_Block hs4.blk, L_api_Block__Parent hs4.blk, L_api_Block__Height hs4.blk, L_api_Block__Data hs4.blk]
    refine cal_i (bkID_spec (b := e.1) (v := e.2) (hC.fr hs4.fr0) (fd hs4.p1.tail e hem) (hmem e hem).2) ?_
    rintro _ w5 ⟨rfl, hf5⟩
    have hs5 := hs4.old hf5
    have hnm : e.1.name = e.1.id := by unfold Blk.name; rw [if_pos (hmem e hem).1]
    rw [hnm, (hmem e hem).1]
    simp only [nilc_some, fad_mk, pik_true, pik_false, cnd_true, cnd_false, gif_same, gif_tf, gif_ft, gif_undef, bi_add, bi_sub, bi_mul, bi_eql, bi_neq, bi_lss, bi_leq, bi_gtr, bi_geq, notB_bool, cvi_int, lenS_mk, lenT_mk, ext0, ext1, ext2, nilP_mk, nilS_mk, fldv_agg, jn0_k, jn1_k, jn2_k, jn1_and, jn1_or, ex_some, Option.isNone_some, Option.isNone_none, Bool.false_bne, Bool.bne_true, Bool.bne_false, Bool.true_bne, Bool.not_true, Bool.not_false, Bool.and_true, Bool.true_and, Bool.and_false, Bool.false_and, Bool.or_true, Bool.true_or, Bool.or_false, Bool.false_or, cond_true, cond_false, List.getElem?_toArray, List.getElem?_cons_zero, List.getElem?_cons_succ, Nat.zero_add, Nat.add_zero, Nat.reduceAdd, forall_const]
    refine alloc_s hs5 (A_api_ID w5) fun g22 w6 hs6 => ?_
    refine St_api_ID hs6 fun w7 hs7 => ?_
    simp only [nilc_some, fad_mk, pik_true, pik_false, cnd_true, cnd_false, gif_same, gif_tf, gif_ft, gif_undef, bi_add, bi_sub, bi_mul, bi_eql, bi_neq, bi_lss, bi_leq, bi_gtr, bi_geq, notB_bool, cvi_int, lenS_mk, lenT_mk, ext0, ext1, ext2, nilP_mk, nilS_mk, fldv_agg, jn0_k, jn1_k, jn2_k, jn1_and, jn1_or, ex_some, Option.isNone_some, Option.isNone_none, Bool.false_bne, Bool.bne_true, Bool.bne_false, Bool.true_bne, Bool.not_true, Bool.not_false, Bool.and_true, Bool.true_and, Bool.and_false, Bool.false_and, Bool.or_true, Bool.true_or, Bool.or_false, Bool.false_or, cond_true, cond_false, List.getElem?_toArray, List.getElem?_cons_zero, List.getElem?_cons_succ, Nat.zero_add, Nat.add_zero, Nat.reduceAdd, forall_const, show ((0 : Int) != 0) = false from rfl, L_api_ID hs7.blk]
    refine bldIH hs7 fun v8 w8 hs8 => ?_
    have hcl3 : (C ++ (os.take j).map (·.1.id)).length ≤ 1000000 := by
      rw [List.length_append, List.length_map, List.length_take]
      omega
    refine appIH hs8.p3 (Sep.rows hs8) hcl3 fun v9 w9 hs9 => ?_
    rw [wi64 (by omega) (by omega)]
    refine ⟨⟨j + 1, by simp, by omega, ?_⟩, by simp [RowKit.intOf]; omega⟩
    have e5 : C ++ (os.take (j + 1)).map (·.1.id) = C ++ (os.take j).map (·.1.id) ++ [e.1.id] := by
      rw [List.take_add_one, he, List.map_append, List.append_assoc]
      rfl
    rw [e5]
    exact Sep.pick hs9 [0] 4
  · have hge : j = os.length := by simp at h; omega
    rw [hge, List.take_of_length_le (Nat.le_refl _), hY] at hs2
    refine hK _ _ ⟨bv', vv', _, _, _, C ++ os.map (·.1.id), fun y hy => hsub y (List.mem_filter.1 hy).1, ?_, by rw [List.length_append, List.length_map]; exact hfin.1, hfin.2.1, (fun h => by omega), fun _ => hfin.2.2, hs2⟩
    intro y hy
    exact List.mem_cons_of_mem _ (List.mem_cons_of_mem _ (List.mem_append_right _ (hD y (List.mem_filter.1 hy).1)))
end
end Go.Fx
set_option linter.unusedVariables false
set_option linter.unusedSimpArgs false
namespace Go.Fx
section
variable {w : World}
theorem wHoldEmpties {a b : Int} {s : Sl (Int × Nat × Sl UInt8 × Int × Int × Bool × (Vec 32 × Int × Sl UInt8))} {sl : Sl Bool} (hc : Cub w) (hs0 : (rSl R_flurrylaw23_Act).ok w.heap s) (hs1 : (rSl rBool).ok w.heap sl) :
    cal P f_law23_HoldEmpties [.int .i64 a, .int .i64 b, s.v, sl.v] w fun r w' => r = .bool true ∧ Fr [] w w' := by
  obtain ⟨l, hr, hcap, hl63, hok⟩ := acts_arg hs0
  have hlr : Rows' rBool w.heap sl.v sl.l := hs1.1
  generalize s.v = v at *
  generalize sl.v = lv at *
  generalize sl.l = lose at *
  clear hs0 hs1
  refine s_law23_HoldEmpties fun R hR => ?_
  unfold c_law23_HoldEmpties
  have lv0 : ∀ {z : World}, Fr [] w z → ∀ K : Value → World → Prop, (∀ z', Fr [] w z' → K (.bool true) z') → cal P f_law23_live [] z K := fun {z} hf K hK => cal_i (live23_spec (hc.fr hf)) fun r w' hr => by
    obtain ⟨rfl, h2⟩ := hr
    exact hK _ (hf.trans h2 (by simp) (by simp))
  refine cal_i (hNew_spec a b) ?_
  rintro _ w1 (⟨_, rfl, hf1⟩ | ⟨_, g, rfl, hs1⟩)
  · simp only [nilc_some, fad_mk, pik_true, pik_false, cnd_true, cnd_false, gif_same, gif_tf, gif_ft, gif_undef, bi_add, bi_sub, bi_mul, bi_eql, bi_neq, bi_lss, bi_leq, bi_gtr, bi_geq, notB_bool, cvi_int, lenS_mk, lenT_mk, ext0, ext1, ext2, nilP_mk, nilS_mk, fldv_agg, jn0_k, jn1_k, jn2_k, jn1_and, jn1_or, ex_some, Option.isNone_some, Option.isNone_none, Bool.false_bne, Bool.bne_true, Bool.bne_false, Bool.true_bne, Bool.not_true, Bool.not_false, Bool.and_true, Bool.true_and, Bool.and_false, Bool.false_and, Bool.or_true, Bool.true_or, Bool.or_false, Bool.false_or, cond_true, cond_false, List.getElem?_toArray, List.getElem?_cons_zero, List.getElem?_cons_succ, Nat.zero_add, Nat.add_zero, Nat.reduceAdd, forall_const]
    refine lv0 hf1 _ fun w2 hf2 => ?_
    simp only [nilc_some, fad_mk, pik_true, pik_false, cnd_true, cnd_false, gif_same, gif_tf, gif_ft, gif_undef, bi_add, bi_sub, bi_mul, bi_eql, bi_neq, bi_lss, bi_leq, bi_gtr, bi_geq, notB_bool, cvi_int, lenS_mk, lenT_mk, ext0, ext1, ext2, nilP_mk, nilS_mk, fldv_agg, jn0_k, jn1_k, jn2_k, jn1_and, jn1_or, ex_some, Option.isNone_some, Option.isNone_none, Bool.false_bne, Bool.bne_true, Bool.bne_false, Bool.true_bne, Bool.not_true, Bool.not_false, Bool.and_true, Bool.true_and, Bool.and_false, Bool.false_and, Bool.or_true, Bool.true_or, Bool.or_false, Bool.false_or, cond_true, cond_false, List.getElem?_toArray, List.getElem?_cons_zero, List.getElem?_cons_succ, Nat.zero_add, Nat.add_zero, Nat.reduceAdd, forall_const, show ((1 : Int) != 0) = true from rfl, Option.isNone_none]
    refine lv0 hf2 _ fun w3 hf3 => ?_
    simp only [nilc_some, fad_mk, pik_true, pik_false, cnd_true, cnd_false, gif_same, gif_tf, gif_ft, gif_undef, bi_add, bi_sub, bi_mul, bi_eql, bi_neq, bi_lss, bi_leq, bi_gtr, bi_geq, notB_bool, cvi_int, lenS_mk, lenT_mk, ext0, ext1, ext2, nilP_mk, nilS_mk, fldv_agg, jn0_k, jn1_k, jn2_k, jn1_and, jn1_or, ex_some, Option.isNone_some, Option.isNone_none, Bool.false_bne, Bool.bne_true, Bool.bne_false, Bool.true_bne, Bool.not_true, Bool.not_false, Bool.and_true, Bool.true_and, Bool.and_false, Bool.false_and, Bool.or_true, Bool.true_or, Bool.or_false, Bool.false_or, cond_true, cond_false, List.getElem?_toArray, List.getElem?_cons_zero, List.getElem?_cons_succ, Nat.zero_add, Nat.add_zero, Nat.reduceAdd, forall_const, eqS_bool _ _ UT_bool, show ((1 : Int) != 0) = true from rfl, Option.isNone_none, beq_self_eq_true]
    exact hR _ _ ⟨rfl, hf3⟩
  simp only [nilc_some, fad_mk, pik_true, pik_false, cnd_true, cnd_false, gif_same, gif_tf, gif_ft, gif_undef, bi_add, bi_sub, bi_mul, bi_eql, bi_neq, bi_lss, bi_leq, bi_gtr, bi_geq, notB_bool, cvi_int, lenS_mk, lenT_mk, ext0, ext1, ext2, nilP_mk, nilS_mk, fldv_agg, jn0_k, jn1_k, jn2_k, jn1_and, jn1_or, ex_some, Option.isNone_some, Option.isNone_none, Bool.false_bne, Bool.bne_true, Bool.bne_false, Bool.true_bne, Bool.not_true, Bool.not_false, Bool.and_true, Bool.true_and, Bool.and_false, Bool.false_and, Bool.or_true, Bool.true_or, Bool.or_false, Bool.false_or, cond_true, cond_false, List.getElem?_toArray, List.getElem?_cons_zero, List.getElem?_cons_succ, Nat.zero_add, Nat.add_zero, Nat.reduceAdd, forall_const]
  refine cal_i (live23_spec (hc.fr hs1.fr0)) ?_
  rintro _ w2 ⟨rfl, hf2⟩
  have hs2 := hs1.old hf2
  simp only [nilc_some, fad_mk, pik_true, pik_false, cnd_true, cnd_false, gif_same, gif_tf, gif_ft, gif_undef, bi_add, bi_sub, bi_mul, bi_eql, bi_neq, bi_lss, bi_leq, bi_gtr, bi_geq, notB_bool, cvi_int, lenS_mk, lenT_mk, ext0, ext1, ext2, nilP_mk, nilS_mk, fldv_agg, jn0_k, jn1_k, jn2_k, jn1_and, jn1_or, ex_some, Option.isNone_some, Option.isNone_none, Bool.false_bne, Bool.bne_true, Bool.bne_false, Bool.true_bne, Bool.not_true, Bool.not_false, Bool.and_true, Bool.true_and, Bool.and_false, Bool.false_and, Bool.or_true, Bool.true_or, Bool.or_false, Bool.false_or, cond_true, cond_false, List.getElem?_toArray, List.getElem?_cons_zero, List.getElem?_cons_succ, Nat.zero_add, Nat.add_zero, Nat.reduceAdd, forall_const, show ((0 : Int) != 0) = false from rfl, Option.isNone_some]
  refine jn1_dup ?_
  refine cal_i (fewA_spec (hr.fr hs2.fr0) hcap hl63 hok) ?_
  rintro _ w3 ⟨hf3, t, rfl, ht⟩
  have hs3 := hs2.old hf3
  have out : ∀ {z : World}, Fr [] w z → cal P f_law23_live [] z R := fun {z} hf => lv0 hf _ fun z' hf' => hR _ _ ⟨rfl, hf'⟩
  cases t with
  | false =>
    simp only [nilc_some, fad_mk, pik_true, pik_false, cnd_true, cnd_false, gif_same, gif_tf, gif_ft, gif_undef, bi_add, bi_sub, bi_mul, bi_eql, bi_neq, bi_lss, bi_leq, bi_gtr, bi_geq, notB_bool, cvi_int, lenS_mk, lenT_mk, ext0, ext1, ext2, nilP_mk, nilS_mk, fldv_agg, jn0_k, jn1_k, jn2_k, jn1_and, jn1_or, ex_some, Option.isNone_some, Option.isNone_none, Bool.false_bne, Bool.bne_true, Bool.bne_false, Bool.true_bne, Bool.not_true, Bool.not_false, Bool.and_true, Bool.true_and, Bool.and_false, Bool.false_and, Bool.or_true, Bool.true_or, Bool.or_false, Bool.false_or, cond_true, cond_false, List.getElem?_toArray, List.getElem?_cons_zero, List.getElem?_cons_succ, Nat.zero_add, Nat.add_zero, Nat.reduceAdd, forall_const]
    refine lv0 hs3.fr0 _ fun w4 hf4 => ?_
    simp only [nilc_some, fad_mk, pik_true, pik_false, cnd_true, cnd_false, gif_same, gif_tf, gif_ft, gif_undef, bi_add, bi_sub, bi_mul, bi_eql, bi_neq, bi_lss, bi_leq, bi_gtr, bi_geq, notB_bool, cvi_int, lenS_mk, lenT_mk, ext0, ext1, ext2, nilP_mk, nilS_mk, fldv_agg, jn0_k, jn1_k, jn2_k, jn1_and, jn1_or, ex_some, Option.isNone_some, Option.isNone_none, Bool.false_bne, Bool.bne_true, Bool.bne_false, Bool.true_bne, Bool.not_true, Bool.not_false, Bool.and_true, Bool.true_and, Bool.and_false, Bool.false_and, Bool.or_true, Bool.true_or, Bool.or_false, Bool.false_or, cond_true, cond_false, List.getElem?_toArray, List.getElem?_cons_zero, List.getElem?_cons_succ, Nat.zero_add, Nat.add_zero, Nat.reduceAdd, forall_const, eqS_bool _ _ UT_bool, show ((0 : Int) != 0) = false from rfl, Option.isNone_some, beq_self_eq_true]
    exact hR _ _ ⟨rfl, hf4⟩
  | true =>
  obtain ⟨hl, hsm⟩ := ht rfl
  simp only [nilc_some, fad_mk, pik_true, pik_false, cnd_true, cnd_false, gif_same, gif_tf, gif_ft, gif_undef, bi_add, bi_sub, bi_mul, bi_eql, bi_neq, bi_lss, bi_leq, bi_gtr, bi_geq, notB_bool, cvi_int, lenS_mk, lenT_mk, ext0, ext1, ext2, nilP_mk, nilS_mk, fldv_agg, jn0_k, jn1_k, jn2_k, jn1_and, jn1_or, ex_some, Option.isNone_some, Option.isNone_none, Bool.false_bne, Bool.bne_true, Bool.bne_false, Bool.true_bne, Bool.not_true, Bool.not_false, Bool.and_true, Bool.true_and, Bool.and_false, Bool.false_and, Bool.or_true, Bool.true_or, Bool.or_false, Bool.false_or, cond_true, cond_false, List.getElem?_toArray, List.getElem?_cons_zero, List.getElem?_cons_succ, Nat.zero_add, Nat.add_zero, Nat.reduceAdd, forall_const, hlr.len]
  rw [cnd_bool]
  refine ⟨fun h => ?_, fun h => ?_⟩
  · refine lv0 hs3.fr0 _ fun w4 hf4 => ?_
    simp only [nilc_some, fad_mk, pik_true, pik_false, cnd_true, cnd_false, gif_same, gif_tf, gif_ft, gif_undef, bi_add, bi_sub, bi_mul, bi_eql, bi_neq, bi_lss, bi_leq, bi_gtr, bi_geq, notB_bool, cvi_int, lenS_mk, lenT_mk, ext0, ext1, ext2, nilP_mk, nilS_mk, fldv_agg, jn0_k, jn1_k, jn2_k, jn1_and, jn1_or, ex_some, Option.isNone_some, Option.isNone_none, Bool.false_bne, Bool.bne_true, Bool.bne_false, Bool.true_bne, Bool.not_true, Bool.not_false, Bool.and_true, Bool.true_and, Bool.and_false, Bool.false_and, Bool.or_true, Bool.true_or, Bool.or_false, Bool.false_or, cond_true, cond_false, List.getElem?_toArray, List.getElem?_cons_zero, List.getElem?_cons_succ, Nat.zero_add, Nat.add_zero, Nat.reduceAdd, forall_const, eqS_bool _ _ UT_bool, show ((0 : Int) != 0) = false from rfl, Option.isNone_some, beq_self_eq_true]
    exact hR _ _ ⟨rfl, hf4⟩
  clear h lv0
  rw [B_flurryref23_Hold]
  refine bxQ hs3 fun g62 w4 hs4 => ?_
  refine cal_i (start23_spec) ?_
  rintro _ w5 ⟨xv, yv, rfl, hx1, hy1, hs5⟩
  replace hs5 := hs4.join hs5
  rw [B_flurrylaw23_both_0_1_2 rfl rfl]
  refine bxQ hs5 fun gx w6 hs6 => ?_
  obtain ⟨rp, hrp⟩ : ∃ rp, rp = Value.pointer (some ⟨g62, 0, none⟩) := ⟨_, rfl⟩
  rw [← hrp] at hs6
  have hE0 : ESt w w6 g a b gx rp 0 := ⟨.slice none 0 0, .slice none 0 0, xv, yv, [], [], [m77], [3], [], HI.start, by simp, by simp, DatW.nil _, Sep.pick hs6 [4, 5, 6, 0, 1, 2] 7⟩
  clear hs6 hs5 hs4 hs3 hs2 hs1 hf2 hf3
  simp only [hr.len]
  refine ⟨fun y z => ∃ i : Nat, y = .int .i64 i ∧ i ≤ l.length ∧ ESt w z g a b gx rp i, fun y _ => (l.length - RowKit.intOf y).toNat, ⟨0, rfl, by omega, hE0⟩, ?_⟩
  clear hE0
  rintro _ w7 ⟨i, rfl, hi, hE7⟩ -
  simp only [nilc_some, fad_mk, pik_true, pik_false, cnd_true, cnd_false, gif_same, gif_tf, gif_ft, gif_undef, bi_add, bi_sub, bi_mul, bi_eql, bi_neq, bi_lss, bi_leq, bi_gtr, bi_geq, notB_bool, cvi_int, lenS_mk, lenT_mk, ext0, ext1, ext2, nilP_mk, nilS_mk, fldv_agg, jn0_k, jn1_k, jn2_k, jn1_and, jn1_or, ex_some, Option.isNone_some, Option.isNone_none, Bool.false_bne, Bool.bne_true, Bool.bne_false, Bool.true_bne, Bool.not_true, Bool.not_false, Bool.and_true, Bool.true_and, Bool.and_false, Bool.false_and, Bool.or_true, Bool.true_or, Bool.or_false, Bool.false_or, cond_true, cond_false, List.getElem?_toArray, List.getElem?_cons_zero, List.getElem?_cons_succ, Nat.zero_add, Nat.add_zero, Nat.reduceAdd, forall_const]
  rw [cnd_bool]
  refine ⟨fun h => ?_, fun h => ?_⟩
  · have hlt : i < l.length := by simp at h; omega
    obtain ⟨e, he⟩ : ∃ e, l[i]? = some e := ⟨_, List.getElem?_eq_getElem hlt⟩
    refine ⟨fun z => ESt w z g a b gx rp (i + 1), ?_, ?_⟩
    · have := acts_spec (R := R) hc hr hok hl hlt he hE7 (fun z => ESt w z g a b gx rp (i + 1)) fun z' h => h
      simp only [nilc_some, fad_mk, pik_true, pik_false, cnd_true, cnd_false, gif_same, gif_tf, gif_ft, gif_undef, bi_add, bi_sub, bi_mul, bi_eql, bi_neq, bi_lss, bi_leq, bi_gtr, bi_geq, notB_bool, cvi_int, lenS_mk, lenT_mk, ext0, ext1, ext2, nilP_mk, nilS_mk, fldv_agg, jn0_k, jn1_k, jn2_k, jn1_and, jn1_or, ex_some, Option.isNone_some, Option.isNone_none, Bool.false_bne, Bool.bne_true, Bool.bne_false, Bool.true_bne, Bool.not_true, Bool.not_false, Bool.and_true, Bool.true_and, Bool.and_false, Bool.false_and, Bool.or_true, Bool.true_or, Bool.or_false, Bool.false_or, cond_true, cond_false, List.getElem?_toArray, List.getElem?_cons_zero, List.getElem?_cons_succ, Nat.zero_add, Nat.add_zero, Nat.reduceAdd, forall_const] at this
      exact this
    · rintro w8 hE8 _
      rw [wi64 (by omega) (by omega)]
      exact ⟨⟨i + 1, by simp, by omega, hE8⟩, by simp [RowKit.intOf]; omega⟩
  have hge : i = l.length := by simp at h; omega
  rw [hge] at hE7
  obtain ⟨bv, vv, xv', yv', ws, vs, ids, hts, E, hI, hn, hil, hD, hs7⟩ := hE7
  clear h hge hi
  simp only [nilc_some, fad_mk, pik_true, pik_false, cnd_true, cnd_false, gif_same, gif_tf, gif_ft, gif_undef, bi_add, bi_sub, bi_mul, bi_eql, bi_neq, bi_lss, bi_leq, bi_gtr, bi_geq, notB_bool, cvi_int, lenS_mk, lenT_mk, ext0, ext1, ext2, nilP_mk, nilS_mk, fldv_agg, jn0_k, jn1_k, jn2_k, jn1_and, jn1_or, ex_some, Option.isNone_some, Option.isNone_none, Bool.false_bne, Bool.bne_true, Bool.bne_false, Bool.true_bne, Bool.not_true, Bool.not_false, Bool.and_true, Bool.true_and, Bool.and_false, Bool.false_and, Bool.or_true, Bool.true_or, Bool.or_false, Bool.false_or, cond_true, cond_false, List.getElem?_toArray, List.getElem?_cons_zero, List.getElem?_cons_succ, Nat.zero_add, Nat.add_zero, Nat.reduceAdd, forall_const, L_flurrylaw23_both (Sep.blk hs7.p3), L_flurrylaw23_both__h (Sep.blk hs7.p3), L_flurrylaw23_both__r (Sep.blk hs7.p3), L_flurrylaw23_both__n (Sep.blk hs7.p3), L_flurrylaw23_both__n_ids (Sep.blk hs7.p3), L_flurrylaw23_both__n_heights (Sep.blk hs7.p3)]
  refine cal_i (round_spec (ids := ids) (hdH_rd hs7 (hD.sub fun A hA => List.mem_cons_of_mem _ (List.mem_cons_of_mem _ (List.mem_cons_of_mem _ hA)))) (Sep.rows (Sep.p4 hs7)) (by omega) (by omega) hI.sm) ?_
  rintro _ w8 ⟨⟨rb', rfl, hrnd⟩, hf8⟩
  have hs8 := hs7.old hf8
  rw [cnd_bool]
  refine ⟨fun h => hR _ _ ⟨rfl, hs8.fr0⟩, fun h => ?_⟩
  have hends : ∀ x ∈ ws, Ends ws x.1 := fun x hx => hrnd h x.1 (hI.mem x hx)
  replace hs8 : Sep w w8 (hdH g bv vv a b ws vs ++ E) := Sep.pick hs8 [0, 1, 2] 6
  have hE8 : EmT w w8 g a b ws l.length := ⟨bv, vv, ws, vs, E, fun x hx => hx, hn, hD, hs8⟩
  clear hs8 hs7 hD hn hrnd
  refine ⟨fun z => ∃ bv vv E, Sep w z (hdH g bv vv a b [] [] ++ E), ?_, ?_⟩
  case refine_2 =>
    rintro w9 ⟨bv, vv, E, hs9⟩ _
    refine cal_i (hLen_spec (hdH_rd hs9 (DatW.nil _))) ?_
    rintro _ w10 ⟨rfl, hf10⟩
    have hs10 := hs9.old hf10
    simp only [nilc_some, fad_mk, pik_true, pik_false, cnd_true, cnd_false, gif_same, gif_tf, gif_ft, gif_undef, bi_add, bi_sub, bi_mul, bi_eql, bi_neq, bi_lss, bi_leq, bi_gtr, bi_geq, notB_bool, cvi_int, lenS_mk, lenT_mk, ext0, ext1, ext2, nilP_mk, nilS_mk, fldv_agg, jn0_k, jn1_k, jn2_k, jn1_and, jn1_or, ex_some, Option.isNone_some, Option.isNone_none, Bool.false_bne, Bool.bne_true, Bool.bne_false, Bool.true_bne, Bool.not_true, Bool.not_false, Bool.and_true, Bool.true_and, Bool.and_false, Bool.false_and, Bool.or_true, Bool.true_or, Bool.or_false, Bool.false_or, cond_true, cond_false, List.getElem?_toArray, List.getElem?_cons_zero, List.getElem?_cons_succ, Nat.zero_add, Nat.add_zero, Nat.reduceAdd, forall_const, List.length_nil, show ((((0 : Nat) : Int)) == 0) = true from rfl]
    refine jn1_dup ?_
    refine cal_i (hWanted_spec (hdH_rd hs10 (DatW.nil _)) (by simp) (by simp) (fun x hx => by cases hx)) ?_
    rintro r w11 hs11
    have hs11' := hs10.old hs11.fr0
    have hlr2 : ∀ K, lenS r K = K (.int .i64 ((0 : Nat) : Int)) := fun K => (Sep.rows hs11).len K
    simp only [nilc_some, fad_mk, pik_true, pik_false, cnd_true, cnd_false, gif_same, gif_tf, gif_ft, gif_undef, bi_add, bi_sub, bi_mul, bi_eql, bi_neq, bi_lss, bi_leq, bi_gtr, bi_geq, notB_bool, cvi_int, lenS_mk, lenT_mk, ext0, ext1, ext2, nilP_mk, nilS_mk, fldv_agg, jn0_k, jn1_k, jn2_k, jn1_and, jn1_or, ex_some, Option.isNone_some, Option.isNone_none, Bool.false_bne, Bool.bne_true, Bool.bne_false, Bool.true_bne, Bool.not_true, Bool.not_false, Bool.and_true, Bool.true_and, Bool.and_false, Bool.false_and, Bool.or_true, Bool.true_or, Bool.or_false, Bool.false_or, cond_true, cond_false, List.getElem?_toArray, List.getElem?_cons_zero, List.getElem?_cons_succ, Nat.zero_add, Nat.add_zero, Nat.reduceAdd, forall_const, hlr2, show ((((0 : Nat) : Int)) == 0) = true from rfl]
    exact hR _ _ ⟨rfl, hs11'.fr0⟩
  have e4 : IntKind.i64.wrap (4 * (l.length : Int)) = ((4 * l.length : Nat) : Int) := by rw [wi64 (by omega) (by omega)]; omega
  rw [e4]
  refine ⟨fun y z => ∃ i n : Nat, y = .int .i64 i ∧ i + n ≤ l.length ∧ EmT w z g a b ws n, fun y _ => (4 * l.length - RowKit.intOf y).toNat, ⟨0, l.length, rfl, by omega, hE8⟩, ?_⟩
  clear hE8
  rintro _ w9 ⟨i, n, rfl, hin, bv, vv, ws', vs', E, hsub, hn, hD, hs9⟩ -
  have hsm' : ∀ x ∈ ws', x.2.1.d.length ≤ 200 := fun x hx => hI.sm x (hsub x hx)
  simp only [nilc_some, fad_mk, pik_true, pik_false, cnd_true, cnd_false, gif_same, gif_tf, gif_ft, gif_undef, bi_add, bi_sub, bi_mul, bi_eql, bi_neq, bi_lss, bi_leq, bi_gtr, bi_geq, notB_bool, cvi_int, lenS_mk, lenT_mk, ext0, ext1, ext2, nilP_mk, nilS_mk, fldv_agg, jn0_k, jn1_k, jn2_k, jn1_and, jn1_or, ex_some, Option.isNone_some, Option.isNone_none, Bool.false_bne, Bool.bne_true, Bool.bne_false, Bool.true_bne, Bool.not_true, Bool.not_false, Bool.and_true, Bool.true_and, Bool.and_false, Bool.false_and, Bool.or_true, Bool.true_or, Bool.or_false, Bool.false_or, cond_true, cond_false, List.getElem?_toArray, List.getElem?_cons_zero, List.getElem?_cons_succ, Nat.zero_add, Nat.add_zero, Nat.reduceAdd, forall_const]
  rw [cnd_bool]
  refine ⟨fun h => ?_, fun h => ?_⟩
  case refine_2 =>
    have h0 : n = 0 := by simp at h; omega
    have hw : ws' = [] := List.eq_nil_of_length_eq_zero (by omega)
    have hv : vs' = [] := List.eq_nil_of_length_eq_zero (by omega)
    rw [hw, hv] at hs9
    exact ⟨bv, vv, E, hs9⟩
  have hilt : i < 4 * l.length := by simp at h; omega
  refine ⟨fun z => ∃ n', i + 1 + n' ≤ l.length ∧ EmT w z g a b ws n', ?_, ?_⟩
  case refine_2 =>
    rintro w10 ⟨n', hn', hE⟩ _
    rw [wi64 (by omega) (by omega)]
    exact ⟨⟨i + 1, n', by simp, by omega, hE⟩, by simp [RowKit.intOf]; omega⟩
  refine cal_i (hWanted_spec (hdH_rd hs9 hD) (by omega) (by omega) hsm') ?_
  rintro r w10 hs10
  replace hs10 : Sep w w10 (rows (rVec 32) r (wantedOf ws' vs') :: (hdH g bv vv a b ws' vs' ++ E)) := hs9.join hs10
  have hlenr : ∀ K, lenS r K = K (.int .i64 (wantedOf ws' vs').length) := (Sep.rows hs10).len
  simp only [nilc_some, fad_mk, pik_true, pik_false, cnd_true, cnd_false, gif_same, gif_tf, gif_ft, gif_undef, bi_add, bi_sub, bi_mul, bi_eql, bi_neq, bi_lss, bi_leq, bi_gtr, bi_geq, notB_bool, cvi_int, lenS_mk, lenT_mk, ext0, ext1, ext2, nilP_mk, nilS_mk, fldv_agg, jn0_k, jn1_k, jn2_k, jn1_and, jn1_or, ex_some, Option.isNone_some, Option.isNone_none, Bool.false_bne, Bool.bne_true, Bool.bne_false, Bool.true_bne, Bool.not_true, Bool.not_false, Bool.and_true, Bool.true_and, Bool.and_false, Bool.false_and, Bool.or_true, Bool.true_or, Bool.or_false, Bool.false_or, cond_true, cond_false, List.getElem?_toArray, List.getElem?_cons_zero, List.getElem?_cons_succ, Nat.zero_add, Nat.add_zero, Nat.reduceAdd, forall_const, hlenr]
  rw [cnd_bool]
  refine ⟨fun h => ?_, fun h => ?_⟩
  · have hw0 : wantedOf ws' vs' = [] := List.eq_nil_of_length_eq_zero (by have h' := eq_of_beq h; omega)
    obtain ⟨hw, hv⟩ := wanted_left hI.nd hsub (fun x hx => hends x (hsub x hx)) hw0
    rw [hw, hv] at hs10
    exact ⟨bv, vv, E, hs10.tail⟩
  obtain ⟨k0, rest, hw⟩ : ∃ k0 rest, wantedOf ws' vs' = k0 :: rest := by
    cases hq : wantedOf ws' vs' with
    | nil => rw [hq] at h; simp at h
    | cons k0 rest => exact ⟨k0, rest, rfl⟩
  have hk0 : k0 ∈ wantedOf ws' vs' := by rw [hw]; exact List.mem_cons_self ..
  have hn1 : 1 ≤ n := by
    have := out_lt (fun _ => true) hk0 rfl
    omega
  refine ⟨fun y z => z = w10 ∧ (decide ((i : Int) < (lose.length : Int)) = true → ∃ c, y = .bool c), ?_, ?_⟩
  · cases hd : decide ((i : Int) < (lose.length : Int)) with
    | false => simp only [nilc_some, fad_mk, pik_true, pik_false, cnd_true, cnd_false, gif_same, gif_tf, gif_ft, gif_undef, bi_add, bi_sub, bi_mul, bi_eql, bi_neq, bi_lss, bi_leq, bi_gtr, bi_geq, notB_bool, cvi_int, lenS_mk, lenT_mk, ext0, ext1, ext2, nilP_mk, nilS_mk, fldv_agg, jn0_k, jn1_k, jn2_k, jn1_and, jn1_or, ex_some, Option.isNone_some, Option.isNone_none, Bool.false_bne, Bool.bne_true, Bool.bne_false, Bool.true_bne, Bool.not_true, Bool.not_false, Bool.and_true, Bool.true_and, Bool.and_false, Bool.false_and, Bool.or_true, Bool.true_or, Bool.or_false, Bool.false_or, cond_true, cond_false, List.getElem?_toArray, List.getElem?_cons_zero, List.getElem?_cons_succ, Nat.zero_add, Nat.add_zero, Nat.reduceAdd, forall_const]; exact ⟨trivial, fun h => by cases h⟩
    | true =>
      simp only [nilc_some, fad_mk, pik_true, pik_false, cnd_true, cnd_false, gif_same, gif_tf, gif_ft, gif_undef, bi_add, bi_sub, bi_mul, bi_eql, bi_neq, bi_lss, bi_leq, bi_gtr, bi_geq, notB_bool, cvi_int, lenS_mk, lenT_mk, ext0, ext1, ext2, nilP_mk, nilS_mk, fldv_agg, jn0_k, jn1_k, jn2_k, jn1_and, jn1_or, ex_some, Option.isNone_some, Option.isNone_none, Bool.false_bne, Bool.bne_true, Bool.bne_false, Bool.true_bne, Bool.not_true, Bool.not_false, Bool.and_true, Bool.true_and, Bool.and_false, Bool.false_and, Bool.or_true, Bool.true_or, Bool.or_false, Bool.false_or, cond_true, cond_false, List.getElem?_toArray, List.getElem?_cons_zero, List.getElem?_cons_succ, Nat.zero_add, Nat.add_zero, Nat.reduceAdd, forall_const]
      have hlt : i < lose.length := by simp at hd; omega
      obtain ⟨c, hcc⟩ : ∃ c, lose[i]? = some c := ⟨_, List.getElem?_eq_getElem hlt⟩
      change ixs 1 _ _ _
      exact Rows'.ldBo (hlr.fr hs10.fr0) hcc .i64 ⟨trivial, c, rfl⟩
  rintro y _ ⟨rfl, hy⟩ _
  obtain ⟨c, hpk⟩ : ∃ c, ∀ K : Value → Prop, pik (.bool (decide ((i : Int) < (lose.length : Int)))) y (.bool false) K = K (.bool c) := by
    cases hd : decide ((i : Int) < (lose.length : Int)) with
    | false => exact ⟨false, fun K => by simp only [nilc_some, fad_mk, pik_true, pik_false, cnd_true, cnd_false, gif_same, gif_tf, gif_ft, gif_undef, bi_add, bi_sub, bi_mul, bi_eql, bi_neq, bi_lss, bi_leq, bi_gtr, bi_geq, notB_bool, cvi_int, lenS_mk, lenT_mk, ext0, ext1, ext2, nilP_mk, nilS_mk, fldv_agg, jn0_k, jn1_k, jn2_k, jn1_and, jn1_or, ex_some, Option.isNone_some, Option.isNone_none, Bool.false_bne, Bool.bne_true, Bool.bne_false, Bool.true_bne, Bool.not_true, Bool.not_false, Bool.and_true, Bool.true_and, Bool.and_false, Bool.false_and, Bool.or_true, Bool.true_or, Bool.or_false, Bool.false_or, cond_true, cond_false, List.getElem?_toArray, List.getElem?_cons_zero, List.getElem?_cons_succ, Nat.zero_add, Nat.add_zero, Nat.reduceAdd, forall_const]⟩
    | true =>
      obtain ⟨c, rfl⟩ := hy hd
      exact ⟨c, fun K => by simp only [nilc_some, fad_mk, pik_true, pik_false, cnd_true, cnd_false, gif_same, gif_tf, gif_ft, gif_undef, bi_add, bi_sub, bi_mul, bi_eql, bi_neq, bi_lss, bi_leq, bi_gtr, bi_geq, notB_bool, cvi_int, lenS_mk, lenT_mk, ext0, ext1, ext2, nilP_mk, nilS_mk, fldv_agg, jn0_k, jn1_k, jn2_k, jn1_and, jn1_or, ex_some, Option.isNone_some, Option.isNone_none, Bool.false_bne, Bool.bne_true, Bool.bne_false, Bool.true_bne, Bool.not_true, Bool.not_false, Bool.and_true, Bool.true_and, Bool.and_false, Bool.false_and, Bool.or_true, Bool.true_or, Bool.or_false, Bool.false_or, cond_true, cond_false, List.getElem?_toArray, List.getElem?_cons_zero, List.getElem?_cons_succ, Nat.zero_add, Nat.add_zero, Nat.reduceAdd, forall_const]⟩
  rw [hpk, cnd_bool]
  refine ⟨fun h => ?_, fun h => ?_⟩
  · change ixs 32 _ (.int .i64 ((0 : Nat) : Int)) _
    refine Rows'.ldN (q := rVec 32) (by decide) (Sep.rows hs10) (j := 0) (a := k0) (by rw [hw]; rfl) .i64 ?_
    refine cal_i (hLost_spec (Sep.pick hs10 [1, 2, 3, 0] 4) (hD.sub fun A hA => List.mem_cons_of_mem _ hA) (by omega) (by omega) k0) ?_
    rintro _ w11 ⟨ob, ov, bv', vv', L, rfl, hL, hs11⟩
    have hlt := out_lt (fun x => decide (x ∈ L)) hk0 (by simpa using lost_has hL)
    refine ⟨n - 1, by omega, bv', vv', _, _, _, fun x hx => hsub x (List.mem_filter.1 hx).1, by omega, ?_, hs11⟩
    exact fun x hx => List.mem_cons_of_mem _ (List.mem_cons_of_mem _ (List.mem_cons_of_mem _ (hD x (List.mem_filter.1 hx).1)))
  · change ixs 32 _ (.int .i64 ((0 : Nat) : Int)) _
    refine Rows'.ldN (q := rVec 32) (by decide) (Sep.rows hs10) (j := 0) (a := k0) (by rw [hw]; rfl) .i64 ?_
    refine bldIH hs10 fun v11 w11 hs11 => ?_
    refine ⟨fun x y z => ∃ k : Nat, y = .int .i64 k ∧ ComeT w z g a b ws k0 ws'.length (n - 1) x k, fun _ y _ => (4 * l.length - RowKit.intOf y).toNat, ⟨0, rfl, bv, vv, ws', vs', rows (rVec 32) r (wantedOf ws' vs') :: E, [k0], hsub, hD.sub (fun A hA => List.mem_cons_of_mem _ hA), by omega, by simp, fun _ => ⟨rfl, hk0, by omega⟩, (fun h => by omega), Sep.pick hs11 [0, 2, 3, 4, 1] 5⟩, ?_⟩
    clear hs11
    rintro x _ w12 ⟨k, rfl, hC⟩ -
    obtain ⟨bv2, vv2, ws2, vs2, E2, C, hsub2, hD2, hkC, hCl, hC0, hC1, hs12⟩ := id hC
    have hlenx : ∀ K, lenS x K = K (.int .i64 C.length) := (Sep.rows hs12).len
    simp only [nilc_some, fad_mk, pik_true, pik_false, cnd_true, cnd_false, gif_same, gif_tf, gif_ft, gif_undef, bi_add, bi_sub, bi_mul, bi_eql, bi_neq, bi_lss, bi_leq, bi_gtr, bi_geq, notB_bool, cvi_int, lenS_mk, lenT_mk, ext0, ext1, ext2, nilP_mk, nilS_mk, fldv_agg, jn0_k, jn1_k, jn2_k, jn1_and, jn1_or, ex_some, Option.isNone_some, Option.isNone_none, Bool.false_bne, Bool.bne_true, Bool.bne_false, Bool.true_bne, Bool.not_true, Bool.not_false, Bool.and_true, Bool.true_and, Bool.and_false, Bool.false_and, Bool.or_true, Bool.true_or, Bool.or_false, Bool.false_or, cond_true, cond_false, List.getElem?_toArray, List.getElem?_cons_zero, List.getElem?_cons_succ, Nat.zero_add, Nat.add_zero, Nat.reduceAdd, forall_const, hlenx]
    rw [cnd_bool]
    refine ⟨fun h => ?_, fun h => ?_⟩
    · simp only [Bool.and_eq_true, decide_eq_true_eq] at h
      refine come_spec (R := R) hc hI.ok (by omega) (by omega) hC (fun C' z hz => ?_) _ fun x' z' hC' => ?_
      · have h1 := hz.len fun v => v = .int .i64 C.length
        rw [hlenx] at h1
        have h2 : Value.int .i64 (C'.length : Int) = .int .i64 (C.length : Int) := h1.mp rfl
        simp only [Value.int.injEq, true_and] at h2
        omega
      · rw [wi64 (by omega) (by omega)]
        exact ⟨⟨k + 1, by simp, hC'⟩, by simp [RowKit.intOf]; omega⟩
    · have hk : 0 < k := by
        by_cases h0 : k = 0
        · subst h0
          rw [(hC0 rfl).1] at h
          simp only [List.length_cons, List.length_nil, Bool.and_eq_false_iff, decide_eq_false_iff_not] at h
          omega
        · omega
      exact ⟨n - 1, by omega, bv2, vv2, ws2, vs2, E2, hsub2, hC1 hk, hD2, hs12.tail⟩
end
end Go.Fx
namespace Go.Fx
theorem okWide_arr {P : Program} {w : World} {r : Reach} {base n : Nat} {t e : TypeId} {v : Value} (ht : P.underlying t = some (.array n e)) (h : Value.okWide P w r base t v) : ∃ cs, v = .agg cs ∧ cs.size = P.cellsOf t := by
  simp only [Value.okWide, ht] at h
  obtain ⟨cs, h1, h2, _⟩ := h
  exact ⟨cs, h1, h2⟩
end Go.Fx
namespace Go.Proofs.YtichejdalolfgaaDoor
open Go.ChangeShapes Go.WideShapes Go.ChangeAt Go.RowKit
theorem own : ownKnob Tryd.prog.godebug = none := by kernel_rfl
theorem laidOut : laidOutB Tryd.prog = true := by kernel_rfl
end Go.Proofs.YtichejdalolfgaaDoor
namespace Go.Proofs.YtichejdalolfgaaDoor
open Go.ChangeShapes Go.WideShapes Go.ChangeAt Go.RowKit
abbrev laidL : List (String × DataW Unit) := [("flurry/sha.cubes", Rows.laid_flurry_sha_cubes)]
theorem gCubes : Tryd.prog.globalNamed "flurry/sha.cubes" = some 0 := by kernel_rfl
theorem tCubes : (Tryd.prog.globals[0]?).map (·.type) = some Go.Fx.T_a64_uint32 := by kernel_rfl
theorem door_met (os : Os) (args : Array Value) : laidMetH Tryd.prog laidL ((World.doorLaid Tryd.prog 400 os).forCall (fun _ _ => 0) ⟨#[], args, []⟩).memory :=
  laidMetH_of_parts3 (fuel := 8) (laidMet_of_run' 8 (by kernel_rfl) (by kernel_rfl)) (by kernel_rfl) (by kernel_rfl)
theorem cub_of_laid {W : World} (h : laidMetH Tryd.prog laidL W) : Go.Fx.Cub W := by
  rw [MakeChecks.laidMetH_plain _ _ _ (by kernel_rfl)] at h
  obtain ⟨ps, ⟨g0, t0, cs0, f0, p0, q0, hg0, ht0, hv0, hd0, _, _⟩, _, _⟩ := h
  obtain rfl := Option.some.inj (gCubes.symm.trans hg0)
  obtain rfl := Option.some.inj (tCubes.symm.trans ht0)
  have hcs : cs0.toList = Go.Fx.wvs Go.Fx.cubesL := by
    obtain ⟨xs, m1, _, hx1, hlen, hn3, hel⟩ := DataW.trod_array Go.Fx.U_a64_uint32 hd0
    have c1 : Tryd.prog.cellsOf Go.Fx.T_uint32 = 1 := by kernel_rfl
    have c64 : Tryd.prog.cellsOf Go.Fx.T_a64_uint32 = 64 := by kernel_rfl
    rw [c64] at hlen
    rw [c1] at hel
    have hd : (Rows.laid_flurry_sha_cubes : DataW Unit) = .agg (Go.Fx.cubesL.map fun x => .lit (.int .u32 x.toNat)) := by kernel_rfl
    rw [hd] at hx1
    simp only [Prod.mk.injEq, DataW.agg.injEq] at hx1
    apply List.ext_getElem?
    intro i
    by_cases hi : i < 64
    · have h1 := hel i hi
      have hx : xs[i]? = some (xs[i]'(by omega)) := List.getElem?_eq_getElem _
      rw [hx] at h1
      generalize xs[i]'(by omega) = y at *
      obtain ⟨k, e1, e2, _⟩ := DataW.trod_int Go.Fx.U_uint32 h1
      have h2 := congrArg (·[i]?) hx1.1
      simp only [List.getElem?_map, hx, e2, Option.map_some] at h2
      have h3 : cs0.toList[i]? = some (.int .u32 k) := by
        have : ((cs0.toList.drop (i * 1)).take 1)[0]? = some (.int .u32 k) := by rw [e1]; rfl
        rw [List.getElem?_take_of_lt (by omega), List.getElem?_drop, Nat.mul_one, Nat.add_zero] at this
        exact this
      rw [h3, Go.Fx.wvs, List.getElem?_map]
      cases hc : Go.Fx.cubesL[i]? with
      | none => rw [hc] at h2; cases h2
      | some z =>
        rw [hc] at h2
        simp only [Option.map_some, Option.some.injEq, DataW.lit.injEq, Lit.int.injEq, true_and] at h2
        rw [Option.map_some, ← h2]
        rfl
    · rw [List.getElem?_eq_none (by omega), List.getElem?_eq_none (by rw [Go.Fx.wvs, List.length_map]; show 64 ≤ i; omega)]
  have hv1 := hv0
  unfold World.var? at hv1
  rw [hg0] at hv1
  simp only [Option.bind_some] at hv1
  cases hh : W.heap[0]? with
  | none => rw [hh] at hv1; cases hv1
  | some o =>
    rw [hh] at hv1
    cases o with
    | cells cs t fr =>
      simp only [Option.some.injEq] at hv1
      subst hv1
      refine ⟨t, fr, ?_⟩
      rw [hh]
      have : cs = (Go.Fx.wvs Go.Fx.cubesL).toArray := by apply Array.ext'; simpa using hcs
      rw [this]
    | _ => cases hv1
end Go.Proofs.YtichejdalolfgaaDoor
set_option linter.unusedVariables false
set_option linter.unusedSimpArgs false
namespace Go.Proofs.YtichejdalolfgaaDoor
open Go.ChangeShapes Go.WideShapes Go.ChangeAt Go.RowKit
set_option maxRecDepth 100000 in
theorem liftedHoldEmpties (os : Os) (started : os.Started) (H : Type) (enc : TypeId × Value → H) :
    ReturnsInHanded {} Tryd.checked os 3 .any (fun w args => (Rows.holdEmptiesSpec.pre enc Tryd.prog Tryd.f3 [] false w args ∧ laidMetH Tryd.prog laidL w) ∧ sizedMet enc Tryd.prog Tryd.f3 (OpenSpec.ofChange Rows.holdEmptiesSpec) false w args) (Rows.holdEmptiesSpec.post enc Tryd.prog Tryd.f3 false true false false) := by
  refine returnsInHanded_of_change_and (C := Tryd.checked) (X := fun w _ => laidMetH Tryd.prog laidL w) (fun _ _ _ hh h => h.of_heap hh) own started (by kernel_rfl) Tryd.func3
    (ChangeSpec.witness_shaped (enc := enc) (C := Tryd.checked) (os := os) (X := fun w _ => laidMetH Tryd.prog laidL w) false (World.doorLaid Tryd.prog 400 os) #[.int .i64 0, .int .i64 0, .slice none 0 0, .slice none 0 0] 8 rfl (World.shaped_of_RefB (by kernel_rfl) (by kernel_rfl)) (by kernel_rfl) (by kernel_rfl) (by kernel_rfl) (door_met os _)) ?_
  intro W base args ds gs before hval0 hW _ _ hL _
  have hcub : Go.Fx.Cub W := cub_of_laid hL
  have hval : ∀ (j : Nat) t v, Tryd.f3.params[j]? = some t → args[j]? = some v → Value.okWide Tryd.prog W .any base t v := hval0
  have hW' := hW
  obtain ⟨p, q, hA0, hV, rfl, hfz, hnd⟩ := hW
  have hA : DataW.TrodAll enc Tryd.prog W 0 (fun _ => true) true Tryd.f3.params.toList args.toList ds p := hA0
  rw [Tryd.params3] at hA hval
  obtain ⟨v0, vs0, d0, ds0, p0, q0, hargs, rfl, rfl, h0, r0⟩ := trodAll_cons hA
  obtain ⟨v1, vs1, d1, ds1, p1, q1, rfl, rfl, rfl, h1, r1⟩ := trodAll_cons r0
  obtain ⟨v2, vs2, d2, ds2, p2, q2, rfl, rfl, rfl, h2, r2⟩ := trodAll_cons r1
  obtain ⟨v3, vs3, d3, ds3, p3, q3, rfl, rfl, rfl, h3, r3⟩ := trodAll_cons r2
  obtain ⟨rfl, rfl, rfl⟩ := trodAll_nil r3
  obtain rfl : args = #[v0, v1, v2, v3] := by cases args; simp_all
  obtain ⟨rfl, rfl⟩ := trodVars_none hV
  obtain ⟨a0, rfl, rfl, rfl, w0⟩ := open_int Tryd.underlying3 (hval 0 3 v0 rfl rfl) h0
  have b0 := bounds_i64 w0
  obtain ⟨a1, rfl, rfl, rfl, w1⟩ := open_int Tryd.underlying3 (hval 1 3 v1 rfl rfl) h1
  have b1 := bounds_i64 w1
  obtain ⟨a2, len2, cap2, rfl⟩ := okWide_slice Tryd.underlying22 (hval 2 22 v2 rfl rfl)
  have k2 := h2
  have lt2 : ∀ x ∈ p2, x.block < W.heap.size := by obtain ⟨m, hm⟩ := k2; exact DataW.trod_lt m _ _ _ hm
  obtain ⟨f2, hf2⟩ := h2
  have hx2 := Go.Fx.O_sl_flurrylaw23_Act hf2
  obtain ⟨l2, rd2⟩ := hx2
  obtain ⟨a3, len3, cap3, rfl⟩ := okWide_slice Tryd.underlying23 (hval 3 23 v3 rfl rfl)
  have k3 := h3
  have lt3 : ∀ x ∈ p3, x.block < W.heap.size := by obtain ⟨m, hm⟩ := k3; exact DataW.trod_lt m _ _ _ hm
  obtain ⟨f3, hf3⟩ := h3
  have hx3 := Go.Fx.O_sl_bool hf3
  obtain ⟨l3, rd3⟩ := hx3
  clear hA0 hval0
  have hcal := Go.Fx.wHoldEmpties (a := a0) (b := a1) hcub rd2 rd3
  refine Calls.mono hcal fun e W' ⟨v, he, hv, hf⟩ => ?_
  subst hv
  subst he
  have bel : Below W.heap.size W W' := hf.below (by simp)
  exact ⟨_, rfl, _, _, _, [], _, [], hW', trodAll_mk1 (shut_bool Tryd.underlying4 _), (trodAll_cons_mk (shut_int Tryd.underlying3 w0) (trodAll_cons_mk (shut_int Tryd.underlying3 w1) (trodAll_cons_mk (Below.trod laidOut (by kernel_rfl) (of_decide_eq_true (by kernel_rfl)) k2 bel lt2) (trodAll_cons_mk (Below.trod laidOut (by kernel_rfl) (of_decide_eq_true (by kernel_rfl)) k3 bel lt3) trodAll_mk0)))), rfl, bel.frame _, fun h => by cases h⟩
theorem holdEmpties : Rows.HoldEmptiesSaid :=
  OpenClaim.holds_of_wide 3 Tryd.f3 rfl rfl rfl rfl rfl rfl rfl ⟨rfl, rfl, rfl, rfl, rfl⟩ rfl rfl rfl rfl rfl (by kernel_rfl) Tryd.func3 (by kernel_rfl)
    (of_decide_eq_true (by kernel_rfl)) (by unfold Func.isWrapper; first | (rw [if_pos (by decide +kernel)]; kernel_rfl) | (rw [if_neg (by decide +kernel)]; exact ⟨rfl, rfl⟩))
    (fun os started H enc _ => liftedHoldEmpties os started H enc)
theorem holdEmptiesCard : Rows.HoldEmptiesCardSaid :=
  Claim7.holds_tied_plain_at .later [] [.data] true (true, "bb238fd5b4f7cb1e6b6dd57b0eb082b2e1123fe4deb289f25cd84a372771b954") false
    holdEmpties (fun _ h => by cases h) (by kernel_rfl) (fun _ h => by cases h) holdEmpties_row_tie rfl ⟨rfl, rfl⟩ (by kernel_rfl) rfl
    (fun f fn hf hfn => by
      obtain rfl : f = 3 := Option.some.inj ((show Tryd.prog.funcNamed "flurry/flurrylaw23.HoldEmpties" = some 3 by kernel_rfl).symm.trans hf) |>.symm
      obtain rfl : fn = Tryd.f3 := (Option.some.inj (Tryd.func3.symm.trans hfn)).symm
      exact ⟨by kernel_rfl, fun j t ht => by
        rw [Tryd.params3] at ht
        have hm : t ∈ [3, 3, 22, 23] := by simpa using Array.mem_of_getElem? ht
        have hall : ([3, 3, 22, 23].all fun u => !Tryd.prog.wantsStandIn u) = true := by kernel_rfl
        exact (show Tryd.prog.wantsStandIn t = false by simpa using List.all_eq_true.1 hall t hm)⟩)
    (by kernel_rfl)
#print axioms holdEmptiesCard
end Go.Proofs.YtichejdalolfgaaDoor
