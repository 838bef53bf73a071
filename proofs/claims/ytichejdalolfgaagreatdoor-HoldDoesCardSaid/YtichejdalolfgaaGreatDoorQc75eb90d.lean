/-
  Both holds: 'does'.
-/
import Derived.Test.YtichejdalolfgaaGreatDoorQ31d9d544
import Derived.Test.YtichejdalolfgaaGreatDoorQd768562e
import Derived.Test.YtichejdalolfgaaGreatDoorQf187741a
import Derived.Test.YtichejdalolfgaaGreatDoorQb57e8ea3
import Derived.Test.YtichejdalolfgaaGreatDoorQ4b51fd60
set_option linter.unusedVariables false
set_option linter.unusedSimpArgs false
namespace Go.Fx
section
variable {w0 w : World} {As : List Asn}
theorem live23_spec (hC : Cub w) : cal P f_law23_live [] w fun r w' => r = .bool true ∧ Fr [] w w' := by
  refine s_law23_live fun R hR => ?_
  unfold c_law23_live
  have hb : ∀ (x : UInt8) (w : World), (Instr.buildSlice T_sl_uint8 1 #[(0, bv x)]).run P w = .ok (.slice (some ⟨w.heap.size, 0, none⟩) 1 1) (w.alloc (.cells (bvs [x]).toArray T_uint8)) := fun x w => by kernel_rfl
  refine cal_i (First_spec (rdNil w)) ?_
  have eG : (Blk.first []).mk' = hvG := rfl
  have cG : (Blk.first []).chk = 0 := rfl
  rw [eG, cG]
  rintro _ w1 ⟨v1, rfl, hs1⟩
  simp only [nilc_some, fad_mk, pik_true, pik_false, cnd_true, cnd_false, gif_same, gif_tf, gif_ft, gif_undef, bi_add, bi_sub, bi_mul, bi_eql, bi_neq, bi_lss, bi_leq, bi_gtr, bi_geq, notB_bool, cvi_int, lenS_mk, lenT_mk, ext0, ext1, ext2, nilP_mk, nilS_mk, fldv_agg, jn0_k, jn1_k, jn2_k, jn1_and, jn1_or, ex_some, Option.isNone_some, Option.isNone_none, Bool.false_bne, Bool.bne_true, Bool.bne_false, Bool.true_bne, Bool.not_true, Bool.not_false, Bool.and_true, Bool.true_and, Bool.and_false, Bool.false_and, Bool.or_true, Bool.true_or, Bool.or_false, Bool.false_or, cond_true, cond_false, List.getElem?_toArray, List.getElem?_cons_zero, List.getElem?_cons_succ, Nat.zero_add, Nat.add_zero, Nat.reduceAdd, forall_const]
  refine alloc_s hs1 (A_api_Block w1) fun g1 w2 hs2 => ?_
  refine St_api_Block hs2 (one_api_Block (Sep.one hs2.p1)) fun w3 hs3 => ?_
  simp only [L_api_Block hs3.blk, L_api_Block__Parent hs3.blk, L_api_Block__Height hs3.blk, L_api_Block__Data hs3.blk]
  refine lit_s (l := [97]) hs3 U_sl_uint8 U_uint8 rfl (hb 97 w3) fun g2 w4 hs4 => ?_
  refine cal_i (Child_spec (b := hvG) (d := [97]) (hC.fr hs4.fr0) (Sep.rd hs4.p2) (Sep.rda hs4) (by decide)) ?_
  rw [hkA, heA]
  rintro _ w5 ⟨v2, rfl, hs5⟩
  replace hs5 := hs4.join hs5
  simp only [nilc_some, fad_mk, pik_true, pik_false, cnd_true, cnd_false, gif_same, gif_tf, gif_ft, gif_undef, bi_add, bi_sub, bi_mul, bi_eql, bi_neq, bi_lss, bi_leq, bi_gtr, bi_geq, notB_bool, cvi_int, lenS_mk, lenT_mk, ext0, ext1, ext2, nilP_mk, nilS_mk, fldv_agg, jn0_k, jn1_k, jn2_k, jn1_and, jn1_or, ex_some, Option.isNone_some, Option.isNone_none, Bool.false_bne, Bool.bne_true, Bool.bne_false, Bool.true_bne, Bool.not_true, Bool.not_false, Bool.and_true, Bool.true_and, Bool.and_false, Bool.false_and, Bool.or_true, Bool.true_or, Bool.or_false, Bool.false_or, cond_true, cond_false, List.getElem?_toArray, List.getElem?_cons_zero, List.getElem?_cons_succ, Nat.zero_add, Nat.add_zero, Nat.reduceAdd, forall_const]
  refine alloc_s hs5 (A_api_Block w5) fun g3 w6 hs6 => ?_
  refine St_api_Block hs6 (one_api_Block (Sep.one hs6.p1)) fun w7 hs7 => ?_
  simp only [L_api_Block hs7.blk, L_api_Block__Parent hs7.blk, L_api_Block__Height hs7.blk, L_api_Block__Data hs7.blk]
  refine lit_s (l := [98]) hs7 U_sl_uint8 U_uint8 rfl (hb 98 w7) fun g4 w8 hs8 => ?_
  refine cal_i (Child_spec (b := hvA) (d := [98]) (hC.fr hs8.fr0) (Sep.rd hs8.p2) (Sep.rda hs8) (by decide)) ?_
  rw [hkB, heB]
  rintro _ w9 ⟨v3, rfl, hs9⟩
  replace hs9 := hs8.join hs9
  simp only [nilc_some, fad_mk, pik_true, pik_false, cnd_true, cnd_false, gif_same, gif_tf, gif_ft, gif_undef, bi_add, bi_sub, bi_mul, bi_eql, bi_neq, bi_lss, bi_leq, bi_gtr, bi_geq, notB_bool, cvi_int, lenS_mk, lenT_mk, ext0, ext1, ext2, nilP_mk, nilS_mk, fldv_agg, jn0_k, jn1_k, jn2_k, jn1_and, jn1_or, ex_some, Option.isNone_some, Option.isNone_none, Bool.false_bne, Bool.bne_true, Bool.bne_false, Bool.true_bne, Bool.not_true, Bool.not_false, Bool.and_true, Bool.true_and, Bool.and_false, Bool.false_and, Bool.or_true, Bool.true_or, Bool.or_false, Bool.false_or, cond_true, cond_false, List.getElem?_toArray, List.getElem?_cons_zero, List.getElem?_cons_succ, Nat.zero_add, Nat.add_zero, Nat.reduceAdd, forall_const]
  refine alloc_s hs9 (A_api_Block w9) fun g5 w10 hs10 => ?_
  refine St_api_Block hs10 (one_api_Block (Sep.one hs10.p1)) fun w11 hs11 => ?_
  refine cal_i (hNew_spec 9 9) ?_
  rintro _ w12 (⟨hno, _⟩ | ⟨_, g, rfl, hs12⟩)
  · exact absurd (by omega) hno
  replace hs12 := hs11.join hs12
  simp only [nilc_some, fad_mk, pik_true, pik_false, cnd_true, cnd_false, gif_same, gif_tf, gif_ft, gif_undef, bi_add, bi_sub, bi_mul, bi_eql, bi_neq, bi_lss, bi_leq, bi_gtr, bi_geq, notB_bool, cvi_int, lenS_mk, lenT_mk, ext0, ext1, ext2, nilP_mk, nilS_mk, fldv_agg, jn0_k, jn1_k, jn2_k, jn1_and, jn1_or, ex_some, Option.isNone_some, Option.isNone_none, Bool.false_bne, Bool.bne_true, Bool.bne_false, Bool.true_bne, Bool.not_true, Bool.not_false, Bool.and_true, Bool.true_and, Bool.and_false, Bool.false_and, Bool.or_true, Bool.true_or, Bool.or_false, Bool.false_or, cond_true, cond_false, List.getElem?_toArray, List.getElem?_cons_zero, List.getElem?_cons_succ, Nat.zero_add, Nat.add_zero, Nat.reduceAdd, forall_const, show ((0 : Int) != 0) = false from rfl, Option.isNone_some]
  replace hs12 : Sep w w12 (hdH g (.slice none 0 0) (.slice none 0 0) 9 9 [] [] ++ [blk g5 (Rdr.cells Q_api_Block (hvB.p, hvB.h, v3)).toArray T_api_Block, ownB v3 hvB.d, blk g3 (Rdr.cells Q_api_Block (hvA.p, hvA.h, v2)).toArray T_api_Block, ownB v2 hvA.d]) := Sep.pick hs12 [0, 1, 2, 3, 4, 6, 7] 11
  simp only [L_api_Block (Sep.blk hs12.p3), L_api_Block__Parent (Sep.blk hs12.p3), L_api_Block__Height (Sep.blk hs12.p3), L_api_Block__Data (Sep.blk hs12.p3)]
  refine cal_i (hBlock_spec (b := hvB) (v := v3) hs12 (DatW.nil _) (hC.fr hs12.fr0) (Sep.rd (Sep.pick hs12 [4] 5)) (by decide) (by simp) (by simp)) ?_
  rintro _ w13 ⟨rfl, ⟨hno, _⟩ | ⟨hE, bv1, vd1, hs13⟩⟩
  · exact absurd hbB hno
  have ei : blkId 9 [] hvB = hidB := by unfold blkId; rw [if_pos hbB, hidB_eq]
  rw [ei, hbB]
  rw [hidB_eq] at hs13
  clear ei hE
  simp only [nilc_some, fad_mk, pik_true, pik_false, cnd_true, cnd_false, gif_same, gif_tf, gif_ft, gif_undef, bi_add, bi_sub, bi_mul, bi_eql, bi_neq, bi_lss, bi_leq, bi_gtr, bi_geq, notB_bool, cvi_int, lenS_mk, lenT_mk, ext0, ext1, ext2, nilP_mk, nilS_mk, fldv_agg, jn0_k, jn1_k, jn2_k, jn1_and, jn1_or, ex_some, Option.isNone_some, Option.isNone_none, Bool.false_bne, Bool.bne_true, Bool.bne_false, Bool.true_bne, Bool.not_true, Bool.not_false, Bool.and_true, Bool.true_and, Bool.and_false, Bool.false_and, Bool.or_true, Bool.true_or, Bool.or_false, Bool.false_or, cond_true, cond_false, List.getElem?_toArray, List.getElem?_cons_zero, List.getElem?_cons_succ, Nat.zero_add, Nat.add_zero, Nat.reduceAdd, forall_const]
  refine alloc_s hs13 (A_api_ID w13) fun g9 w14 hs14 => ?_
  refine St_api_ID hs14 fun w15 hs15 => ?_
  simp only [L_api_Block (Sep.blk (Sep.pick hs15 [7] 8)), L_api_Block__Parent (Sep.blk (Sep.pick hs15 [7] 8)), L_api_Block__Height (Sep.blk (Sep.pick hs15 [7] 8)), L_api_Block__Data (Sep.blk (Sep.pick hs15 [7] 8))]
  replace hs15 : Sep w w15 (hdH g bv1 (.slice none 0 0) 9 9 [(hidB, hvB, vd1)] [] ++ [ownB vd1 hvB.d, blk g9 (Rdr.cells (rVec 32) hidB).toArray T_api_ID, blk g3 (Rdr.cells Q_api_Block (hvA.p, hvA.h, v2)).toArray T_api_Block, ownB v2 hvA.d]) := Sep.pick hs15 [1, 2, 3, 4, 0, 7, 8] 9
  have hD1 : DatW [(hidB, hvB, vd1)] [ownB vd1 hvB.d, blk g9 (Rdr.cells (rVec 32) hidB).toArray T_api_ID, blk g3 (Rdr.cells Q_api_Block (hvA.p, hvA.h, v2)).toArray T_api_Block, ownB v2 hvA.d] := fun x hx => by
    rw [List.mem_singleton.1 hx]
    exact List.mem_cons_self ..
  have hl1 : ∀ x ∈ [(hidB, hvB, vd1)], (x : Wt).2.1.d.length ≤ 200 := fun x hx => by
    rw [List.mem_singleton.1 hx]
    exact (by decide : (1 : Nat) ≤ 200)
  refine cal_i (hBlock_spec (b := hvA) (v := v2) hs15 hD1 (hC.fr hs15.fr0) (Sep.rd (Sep.pick hs15 [6] 7)) (by decide) (by simp) hl1) ?_
  rintro _ w16 ⟨rfl, ⟨hno, _⟩ | ⟨hE, bv2, vd2, hs16⟩⟩
  · exact absurd (hbA vd1) hno
  have ei : blkId 9 [(hidB, hvB, vd1)] hvA = hidA := by unfold blkId; rw [if_pos (hbA vd1), hidA_eq]
  rw [ei, hbA vd1]
  rw [hidA_eq] at hs16
  clear ei hE
  simp only [nilc_some, fad_mk, pik_true, pik_false, cnd_true, cnd_false, gif_same, gif_tf, gif_ft, gif_undef, bi_add, bi_sub, bi_mul, bi_eql, bi_neq, bi_lss, bi_leq, bi_gtr, bi_geq, notB_bool, cvi_int, lenS_mk, lenT_mk, ext0, ext1, ext2, nilP_mk, nilS_mk, fldv_agg, jn0_k, jn1_k, jn2_k, jn1_and, jn1_or, ex_some, Option.isNone_some, Option.isNone_none, Bool.false_bne, Bool.bne_true, Bool.bne_false, Bool.true_bne, Bool.not_true, Bool.not_false, Bool.and_true, Bool.true_and, Bool.and_false, Bool.false_and, Bool.or_true, Bool.true_or, Bool.or_false, Bool.false_or, cond_true, cond_false, List.getElem?_toArray, List.getElem?_cons_zero, List.getElem?_cons_succ, Nat.zero_add, Nat.add_zero, Nat.reduceAdd, forall_const]
  refine alloc_s hs16 (A_api_ID w16) fun g10 w17 hs17 => ?_
  refine St_api_ID hs17 fun w18 hs18 => ?_
  simp only [L_api_ID (Sep.blk (Sep.pick hs18 [6] 7)), B_api_HeldVote_0_2]
  refine alloc_s hs18 (A_api_HeldVote w18) fun g11 w19 hs19 => ?_
  refine St_api_HeldVote hs19 one_api_HeldVote fun w20 hs20 => ?_
  obtain ⟨M, hM⟩ : ∃ M, M = [blk g11 (Rdr.cells Q_api_HeldVote hvV).toArray T_api_HeldVote, blk g10 (Rdr.cells (rVec 32) hidA).toArray T_api_ID, blk g9 (Rdr.cells (rVec 32) hidB).toArray T_api_ID, blk g3 (Rdr.cells Q_api_Block (hvA.p, hvA.h, v2)).toArray T_api_Block, ownB v2 hvA.d, ownB vd2 hvA.d, ownB vd1 hvB.d] := ⟨_, rfl⟩
  replace hs20 : Sep w w20 (hdH g bv2 (.slice none 0 0) 9 9 (hvW vd1 vd2) [] ++ M) := by rw [hM]; exact Sep.pick hs20 [2, 3, 4, 0, 1, 7, 8, 9, 5, 6] 10
  have hD : DatW (hvW vd1 vd2) M := fun x hx => by
    rw [hM]
    simp only [List.mem_cons, List.not_mem_nil, or_false] at hx
    rcases hx with rfl | rfl <;> simp
  have hl : ∀ x ∈ hvW vd1 vd2, x.2.1.d.length ≤ 200 := fun x hx => by
    simp only [List.mem_cons, List.not_mem_nil, or_false] at hx
    rcases hx with rfl | rfl <;> exact (by decide : (1 : Nat) ≤ 200)
  have m11 : ∀ {z : World}, Sep w z M → ∀ K, ldN 66 (.pointer (some ⟨g11, 0, none⟩)) z.heap K = K (hvv hvV) := fun {z} hz K => by rw [hM] at hz; exact L_api_HeldVote (Sep.blk hz) K
  have m3 : ∀ {z : World}, Sep w z M → ∀ K, ldN 32 (.pointer (some ⟨g3, 0, none⟩)) z.heap K = K (kv hidG) := fun {z} hz K => by rw [hM] at hz; exact L_api_Block__Parent (Sep.blk hz.p3) K
  have m3b : ∀ {z : World}, Sep w z M → ∀ K, ldN 34 (.pointer (some ⟨g3, 0, none⟩)) z.heap K = K (bq hvA v2) := fun {z} hz K => by rw [hM] at hz; exact L_api_Block (Sep.blk hz.p3) K
  have m9 : ∀ {z : World}, Sep w z M → ∀ K, ldN 32 (.pointer (some ⟨g9, 0, none⟩)) z.heap K = K (kv hidB) := fun {z} hz K => by rw [hM] at hz; exact L_api_ID (Sep.blk hz.p2) K
  have m10 : ∀ {z : World}, Sep w z M → ∀ K, ldN 32 (.pointer (some ⟨g10, 0, none⟩)) z.heap K = K (kv hidA) := fun {z} hz K => by rw [hM] at hz; exact L_api_ID (Sep.blk hz.p1) K
  have mv2 : ∀ {z : World}, Sep w z M → RdB z.heap v2 hvA.d := fun {z} hz => by rw [hM] at hz; exact Sep.rd (Sep.pick hz [4] 5)
  clear hM hs19 hs18 hs17 hs16 hs15 hs14 hs13 hs12
  refine drH_PH (S := fun u => Sep w u M) hs20 (fun u hu => hu.tail.tail.tail) fun w21 hs21 _ => ?_
  simp only [nilc_some, fad_mk, pik_true, pik_false, cnd_true, cnd_false, gif_same, gif_tf, gif_ft, gif_undef, bi_add, bi_sub, bi_mul, bi_eql, bi_neq, bi_lss, bi_leq, bi_gtr, bi_geq, notB_bool, cvi_int, lenS_mk, lenT_mk, ext0, ext1, ext2, nilP_mk, nilS_mk, fldv_agg, jn0_k, jn1_k, jn2_k, jn1_and, jn1_or, ex_some, Option.isNone_some, Option.isNone_none, Bool.false_bne, Bool.bne_true, Bool.bne_false, Bool.true_bne, Bool.not_true, Bool.not_false, Bool.and_true, Bool.true_and, Bool.and_false, Bool.false_and, Bool.or_true, Bool.true_or, Bool.or_false, Bool.false_or, cond_true, cond_false, List.getElem?_toArray, List.getElem?_cons_zero, List.getElem?_cons_succ, Nat.zero_add, Nat.add_zero, Nat.reduceAdd, forall_const, show ((0 : Int) != 0) = false from rfl]
  refine ⟨fun y z => y = .bool false ∧ ∃ vv', Sep w z (hdH g bv2 vv' 9 9 (hvW vd1 vd2) [hvV] ++ M), ?_, ?_⟩
  · refine jn1_dup ?_
    refine ⟨hvv hvV, fun u hu => (m11 hu _).mpr rfl, ?_⟩
    intro _
    refine jn1_dup ?_
    refine efS_i (cal_i (hVote_spec (v := hvV) hs21 hD (by simp)) ?_)
    have eV : votE 9 [] hvV = 0 := rfl
    rw [eV]
    rintro _ w22 ⟨rfl, ⟨hno, _⟩ | ⟨_, vv', hs22⟩⟩
    · exact absurd rfl hno
    refine ⟨hs22.tail.tail.tail, ?_⟩
    replace hs22 : Sep w w22 (hdH g bv2 vv' 9 9 (hvW vd1 vd2) [hvV] ++ M) := hs22
    simp only [nilc_some, fad_mk, pik_true, pik_false, cnd_true, cnd_false, gif_same, gif_tf, gif_ft, gif_undef, bi_add, bi_sub, bi_mul, bi_eql, bi_neq, bi_lss, bi_leq, bi_gtr, bi_geq, notB_bool, cvi_int, lenS_mk, lenT_mk, ext0, ext1, ext2, nilP_mk, nilS_mk, fldv_agg, jn0_k, jn1_k, jn2_k, jn1_and, jn1_or, ex_some, Option.isNone_some, Option.isNone_none, Bool.false_bne, Bool.bne_true, Bool.bne_false, Bool.true_bne, Bool.not_true, Bool.not_false, Bool.and_true, Bool.true_and, Bool.and_false, Bool.false_and, Bool.or_true, Bool.true_or, Bool.or_false, Bool.false_or, cond_true, cond_false, List.getElem?_toArray, List.getElem?_cons_zero, List.getElem?_cons_succ, Nat.zero_add, Nat.add_zero, Nat.reduceAdd, forall_const, show ((0 : Int) != 0) = false from rfl]
    refine jn1_dup ?_
    refine ⟨kv hidG, fun u hu => (m3 hu _).mpr rfl, ?_⟩
    intro _
    have hW : ∀ {z : World}, Sep w z (hdH g bv2 vv' 9 9 (hvW vd1 vd2) [hvV] ++ M) → ∀ K : Value → World → Prop, (∀ r z', Sep w z' (rows (rVec 32) r [hidG] :: (hdH g bv2 vv' 9 9 (hvW vd1 vd2) [hvV] ++ M)) → K r z') → cal P f_hold_Hold_Wanted [.pointer (some ⟨g, 0, none⟩)] z K := fun {z} hz K hK => by
      refine cal_i (hWanted_spec (hdH_rd hz hD) (by simp) (by simp) hl) ?_
      rintro r z' hz'
      rw [hvWanted] at hz'
      exact hK r z' (hz.join hz')
    have lit1 : ∀ {z : World} {As : List Asn}, Sep w z As → ∀ K : Value → World → Prop, (∀ r z', Sep w z' (rows (rVec 32) r [hidG] :: As) → K r z') → efP P (Instr.buildSlice T_sl_api_ID 1 #[(0, kv hidG)]) z K := fun {z As} hz K hK =>
      rows_lit hz S_sl_api_ID (l := [hidG]) (V := fun a => .agg (Rdr.cells (rVec 32) a).toArray) (fun a => rfl) rfl rfl (by decide) (by decide) fun g z' hz' => hK _ z' hz'
    refine ⟨?_, ?_, trivial⟩
    · refine jn1_dup ?_
      refine efS_i (hW hs22 _ fun r1 w23 hs23 => ?_)
      refine ⟨hs23.tail.tail.tail.tail, ?_⟩
      intro _
      refine jn1_dup ?_
      refine efS_i (lit1 hs23 _ fun r2 w24 hs24 => ?_)
      refine ⟨hs24.tail.tail.tail.tail.tail, ?_⟩
      intro _
      refine jn1_dup ?_
      refine efS_i (cal_i (idsEqual_spec (Sep.rows hs24.p1) (Sep.rows hs24) (by simp)) ?_)
      rintro _ w25 ⟨rfl, hf25⟩
      have hs25 := hs24.tail.tail.old hf25
      refine ⟨hs25.tail.tail.tail, ?_⟩
      simp only [nilc_some, fad_mk, pik_true, pik_false, cnd_true, cnd_false, gif_same, gif_tf, gif_ft, gif_undef, bi_add, bi_sub, bi_mul, bi_eql, bi_neq, bi_lss, bi_leq, bi_gtr, bi_geq, notB_bool, cvi_int, lenS_mk, lenT_mk, ext0, ext1, ext2, nilP_mk, nilS_mk, fldv_agg, jn0_k, jn1_k, jn2_k, jn1_and, jn1_or, ex_some, Option.isNone_some, Option.isNone_none, Bool.false_bne, Bool.bne_true, Bool.bne_false, Bool.true_bne, Bool.not_true, Bool.not_false, Bool.and_true, Bool.true_and, Bool.and_false, Bool.false_and, Bool.or_true, Bool.true_or, Bool.or_false, Bool.false_or, cond_true, cond_false, List.getElem?_toArray, List.getElem?_cons_zero, List.getElem?_cons_succ, Nat.zero_add, Nat.add_zero, Nat.reduceAdd, forall_const, decide_true]
      exact ⟨trivial, vv', hs25⟩
    · refine jn1_dup ?_
      refine efS_i (lit1 hs22 _ fun r2 w23 hs23 => ?_)
      refine ⟨hs23.tail.tail.tail.tail, ?_⟩
      intro _
      refine jn1_dup ?_
      refine efS_i (cal_i (hWanted_spec (hdH_rd hs23.tail hD) (by simp) (by simp) hl) ?_)
      rintro r1 w24 hs24
      rw [hvWanted] at hs24
      replace hs24 := hs23.join hs24
      refine ⟨hs24.tail.tail.tail.tail.tail, ?_⟩
      intro _
      refine jn1_dup ?_
      refine efS_i (cal_i (idsEqual_spec (Sep.rows hs24) (Sep.rows hs24.p1) (by simp)) ?_)
      rintro _ w25 ⟨rfl, hf25⟩
      have hs25 := hs24.tail.tail.old hf25
      refine ⟨hs25.tail.tail.tail, ?_⟩
      simp only [nilc_some, fad_mk, pik_true, pik_false, cnd_true, cnd_false, gif_same, gif_tf, gif_ft, gif_undef, bi_add, bi_sub, bi_mul, bi_eql, bi_neq, bi_lss, bi_leq, bi_gtr, bi_geq, notB_bool, cvi_int, lenS_mk, lenT_mk, ext0, ext1, ext2, nilP_mk, nilS_mk, fldv_agg, jn0_k, jn1_k, jn2_k, jn1_and, jn1_or, ex_some, Option.isNone_some, Option.isNone_none, Bool.false_bne, Bool.bne_true, Bool.bne_false, Bool.true_bne, Bool.not_true, Bool.not_false, Bool.and_true, Bool.true_and, Bool.and_false, Bool.false_and, Bool.or_true, Bool.true_or, Bool.or_false, Bool.false_or, cond_true, cond_false, List.getElem?_toArray, List.getElem?_cons_zero, List.getElem?_cons_succ, Nat.zero_add, Nat.add_zero, Nat.reduceAdd, forall_const, decide_true]
      exact ⟨trivial, vv', hs25⟩
  rintro _ w22 ⟨rfl, vv', hs22⟩ _
  simp only [nilc_some, fad_mk, pik_true, pik_false, cnd_true, cnd_false, gif_same, gif_tf, gif_ft, gif_undef, bi_add, bi_sub, bi_mul, bi_eql, bi_neq, bi_lss, bi_leq, bi_gtr, bi_geq, notB_bool, cvi_int, lenS_mk, lenT_mk, ext0, ext1, ext2, nilP_mk, nilS_mk, fldv_agg, jn0_k, jn1_k, jn2_k, jn1_and, jn1_or, ex_some, Option.isNone_some, Option.isNone_none, Bool.false_bne, Bool.bne_true, Bool.bne_false, Bool.true_bne, Bool.not_true, Bool.not_false, Bool.and_true, Bool.true_and, Bool.and_false, Bool.false_and, Bool.or_true, Bool.true_or, Bool.or_false, Bool.false_or, cond_true, cond_false, List.getElem?_toArray, List.getElem?_cons_zero, List.getElem?_cons_succ, Nat.zero_add, Nat.add_zero, Nat.reduceAdd, forall_const]
  refine cal_i (hClone_spec (hdH_rd hs22 hD) (by simp) (by simp)) ?_
  rintro _ w23 ⟨g', bv', vv2, rfl, hs23⟩
  replace hs23 := hs22.join hs23
  rw [m3 hs23.dropL.tail.tail.tail]
  obtain ⟨N, hN⟩ : ∃ N, N = M ++ hdH g' bv' vv2 9 9 (hvW vd1 vd2) [hvV] := ⟨_, rfl⟩
  replace hs23 : Sep w w23 (hdH g bv2 vv' 9 9 (hvW vd1 vd2) [hvV] ++ N) := by
    rw [hN, ← List.append_assoc]
    exact hs23.perm List.perm_append_comm
  have mN : ∀ {z : World}, Sep w z N → Sep w z M := fun {z} hz => by rw [hN] at hz; exact Sep.dropR hz
  refine cal_i (hLost_spec hs23 (hD.sub fun A hA => by rw [hN]; exact List.mem_append_left _ hA) (by simp) (by simp) hidG) ?_
  rintro _ w24 ⟨ob, ov, bv3, vv3, L, rfl, hL, hs24⟩
  obtain rfl := hvLost hL
  rw [hvAll, hvAllV] at hs24
  have hs24' : Sep w w24 (rows (rVec 32) ob [hidB, hidA] :: rows Q_api_HeldVote ov [hvV] :: N) := hs24.tail.tail.tail
  simp only [nilc_some, fad_mk, pik_true, pik_false, cnd_true, cnd_false, gif_same, gif_tf, gif_ft, gif_undef, bi_add, bi_sub, bi_mul, bi_eql, bi_neq, bi_lss, bi_leq, bi_gtr, bi_geq, notB_bool, cvi_int, lenS_mk, lenT_mk, ext0, ext1, ext2, nilP_mk, nilS_mk, fldv_agg, jn0_k, jn1_k, jn2_k, jn1_and, jn1_or, ex_some, Option.isNone_some, Option.isNone_none, Bool.false_bne, Bool.bne_true, Bool.bne_false, Bool.true_bne, Bool.not_true, Bool.not_false, Bool.and_true, Bool.true_and, Bool.and_false, Bool.false_and, Bool.or_true, Bool.true_or, Bool.or_false, Bool.false_or, cond_true, cond_false, List.getElem?_toArray, List.getElem?_cons_zero, List.getElem?_cons_succ, Nat.zero_add, Nat.add_zero, Nat.reduceAdd, forall_const, Option.isNone_some, m9 (mN hs24'.tail.tail), m10 (mN hs24'.tail.tail)]
  refine jn1_dup ?_
  refine rows_lit hs24' S_sl_api_ID (l := [hidB, hidA]) (V := fun a => .agg (Rdr.cells (rVec 32) a).toArray) (fun a => rfl) rfl rfl (by decide) (by decide) fun g26 w25 hs25 => ?_
  refine cal_i (idsEqual_spec (Sep.rows hs25.p1) (Sep.rows hs25) (by simp)) ?_
  rintro _ w26 ⟨rfl, hf26⟩
  have hs26 := hs25.tail.old hf26
  simp only [nilc_some, fad_mk, pik_true, pik_false, cnd_true, cnd_false, gif_same, gif_tf, gif_ft, gif_undef, bi_add, bi_sub, bi_mul, bi_eql, bi_neq, bi_lss, bi_leq, bi_gtr, bi_geq, notB_bool, cvi_int, lenS_mk, lenT_mk, ext0, ext1, ext2, nilP_mk, nilS_mk, fldv_agg, jn0_k, jn1_k, jn2_k, jn1_and, jn1_or, ex_some, Option.isNone_some, Option.isNone_none, Bool.false_bne, Bool.bne_true, Bool.bne_false, Bool.true_bne, Bool.not_true, Bool.not_false, Bool.and_true, Bool.true_and, Bool.and_false, Bool.false_and, Bool.or_true, Bool.true_or, Bool.or_false, Bool.false_or, cond_true, cond_false, List.getElem?_toArray, List.getElem?_cons_zero, List.getElem?_cons_succ, Nat.zero_add, Nat.add_zero, Nat.reduceAdd, forall_const, decide_true, m11 (mN hs26.tail.tail)]
  refine jn1_dup ?_
  refine rows_lit hs26 S_sl_api_HeldVote (l := [hvV]) (V := fun a => .agg (Rdr.cells Q_api_HeldVote a).toArray) (fun a => rfl) rfl rfl (by decide) (by decide) fun g27 w27 hs27 => ?_
  refine cal_i (votesEqual_spec (Sep.rows (Sep.pick hs27 [2] 3)) (Sep.rows hs27) (by simp)) ?_
  rintro _ w28 ⟨rfl, hf28⟩
  have hs28 := hs27.tail.tail.tail.old hf28
  simp only [nilc_some, fad_mk, pik_true, pik_false, cnd_true, cnd_false, gif_same, gif_tf, gif_ft, gif_undef, bi_add, bi_sub, bi_mul, bi_eql, bi_neq, bi_lss, bi_leq, bi_gtr, bi_geq, notB_bool, cvi_int, lenS_mk, lenT_mk, ext0, ext1, ext2, nilP_mk, nilS_mk, fldv_agg, jn0_k, jn1_k, jn2_k, jn1_and, jn1_or, ex_some, Option.isNone_some, Option.isNone_none, Bool.false_bne, Bool.bne_true, Bool.bne_false, Bool.true_bne, Bool.not_true, Bool.not_false, Bool.and_true, Bool.true_and, Bool.and_false, Bool.false_and, Bool.or_true, Bool.true_or, Bool.or_false, Bool.false_or, cond_true, cond_false, List.getElem?_toArray, List.getElem?_cons_zero, List.getElem?_cons_succ, Nat.zero_add, Nat.add_zero, Nat.reduceAdd, forall_const, decide_true, m3 (mN hs28)]
  replace hs28 : Sep w w28 (hdH g' bv' vv2 9 9 (hvW vd1 vd2) [hvV] ++ M) := by
    rw [hN] at hs28
    exact hs28.perm List.perm_append_comm
  refine cal_i (hCame_spec hs28 hD (by simp) (by simp) hl hidG) ?_
  rintro _ w29 ⟨ob2, ov2, bv4, vv4, os, E, rfl, hos, hDO, hs29⟩
  rw [hvCame] at hos
  obtain ⟨y, rfl⟩ : ∃ y, os = [(hvA, y)] := by
    match os, hos with
    | [(a, y)], hos =>
      obtain rfl : a = hvA := by simpa using hos
      exact ⟨y, rfl⟩
  have hE : ownB y hvA.d ∈ E := hDO (hvA, y) (by simp)
  replace hs29 : Sep w w29 (rows Q_api_Block ob2 [(hvA.p, hvA.h, y)] :: (E ++ M)) := Sep.pick hs29 [3] 5
  simp only [nilc_some, fad_mk, pik_true, pik_false, cnd_true, cnd_false, gif_same, gif_tf, gif_ft, gif_undef, bi_add, bi_sub, bi_mul, bi_eql, bi_neq, bi_lss, bi_leq, bi_gtr, bi_geq, notB_bool, cvi_int, lenS_mk, lenT_mk, ext0, ext1, ext2, nilP_mk, nilS_mk, fldv_agg, jn0_k, jn1_k, jn2_k, jn1_and, jn1_or, ex_some, Option.isNone_some, Option.isNone_none, Bool.false_bne, Bool.bne_true, Bool.bne_false, Bool.true_bne, Bool.not_true, Bool.not_false, Bool.and_true, Bool.true_and, Bool.and_false, Bool.false_and, Bool.or_true, Bool.true_or, Bool.or_false, Bool.false_or, cond_true, cond_false, List.getElem?_toArray, List.getElem?_cons_zero, List.getElem?_cons_succ, Nat.zero_add, Nat.add_zero, Nat.reduceAdd, forall_const]
  refine drH_S hs29 fun w30 hs30 _ => ?_
  have hlen : ∀ K, lenS ob2 K = K (.int .i64 ((1 : Nat) : Int)) := fun K => (Sep.rows hs30).len K
  simp only [hlen, nilc_some, fad_mk, pik_true, pik_false, cnd_true, cnd_false, gif_same, gif_tf, gif_ft, gif_undef, bi_add, bi_sub, bi_mul, bi_eql, bi_neq, bi_lss, bi_leq, bi_gtr, bi_geq, notB_bool, cvi_int, lenS_mk, lenT_mk, ext0, ext1, ext2, nilP_mk, nilS_mk, fldv_agg, jn0_k, jn1_k, jn2_k, jn1_and, jn1_or, ex_some, Option.isNone_some, Option.isNone_none, Bool.false_bne, Bool.bne_true, Bool.bne_false, Bool.true_bne, Bool.not_true, Bool.not_false, Bool.and_true, Bool.true_and, Bool.and_false, Bool.false_and, Bool.or_true, Bool.true_or, Bool.or_false, Bool.false_or, cond_true, cond_false, List.getElem?_toArray, List.getElem?_cons_zero, List.getElem?_cons_succ, Nat.zero_add, Nat.add_zero, Nat.reduceAdd, forall_const, show ((((1 : Nat) : Int)) == 1) = true from rfl]
  refine jn1_dup ?_
  change ixs 34 _ (.int .i64 ((0 : Nat) : Int)) _
  refine rdS_rowH (q := Q_api_Block) (by decide) hs30 (fun u hu => Sep.rows hu) (j := 0) (a := (hvA.p, hvA.h, y)) rfl .i64 ?_
  refine ⟨bq hvA v2, fun u hu => (m3b hu.tail.dropL _).mpr rfl, ?_⟩
  have hy : RdB w30.heap y hvA.d := by
    obtain ⟨F, hF⟩ := hs30.onL (A := ownB y hvA.d) (List.mem_cons_of_mem _ (List.mem_append_left _ hE))
    exact OwnB.rd hF
  refine efS_i (cal_i (rSame_spec (a := hvA) (b := hvA) hy (mv2 hs30.tail.dropL)) ?_)
  rintro _ w31 ⟨rfl, hf31⟩
  refine ⟨hs30.old hf31, ?_⟩
  simp only [nilc_some, fad_mk, pik_true, pik_false, cnd_true, cnd_false, gif_same, gif_tf, gif_ft, gif_undef, bi_add, bi_sub, bi_mul, bi_eql, bi_neq, bi_lss, bi_leq, bi_gtr, bi_geq, notB_bool, cvi_int, lenS_mk, lenT_mk, ext0, ext1, ext2, nilP_mk, nilS_mk, fldv_agg, jn0_k, jn1_k, jn2_k, jn1_and, jn1_or, ex_some, Option.isNone_some, Option.isNone_none, Bool.false_bne, Bool.bne_true, Bool.bne_false, Bool.true_bne, Bool.not_true, Bool.not_false, Bool.and_true, Bool.true_and, Bool.and_false, Bool.false_and, Bool.or_true, Bool.true_or, Bool.or_false, Bool.false_or, cond_true, cond_false, List.getElem?_toArray, List.getElem?_cons_zero, List.getElem?_cons_succ, Nat.zero_add, Nat.add_zero, Nat.reduceAdd, forall_const, decide_true]
  exact hR _ _ ⟨rfl, (hs30.old hf31).fr0⟩
end
end Go.Fx
set_option linter.unusedVariables false
set_option linter.unusedSimpArgs false
namespace Go.Fx
/-- A number in a list, read in a region that draws (as in TrK, for other seats). -/
theorem rdS_rowIH {S : World → Prop} {w : World} {v : Value} {l : List Int} {j : Nat} {a : Int} {K : Value → Prop}
    (hw : S w) (hS : ∀ u, S u → Rows' (rInt .i64) u.heap v l) (hj : l[j]? = some a) (k : IntKind) (h : K (.int .i64 a)) : ixs 1 v (.int k (j : Int)) fun t => rdS S (fun w => Go.Fx.ld1 t w.heap) K := by
  obtain ⟨g, o, c, rfl⟩ := (hS w hw).form (by decide) hj
  have hlt := (List.getElem?_eq_some_iff.1 hj).1
  rw [ixs_mk _ _ _ _ _ _ _ _ (by omega) (by omega), Int.toNat_natCast]
  refine ⟨.int .i64 a, fun z hz => ?_, h⟩
  have hat := At.of (by decide) (hS z hz) hj
  have e : (rInt .i64).size = 1 := rfl
  rw [e] at hat
  show Go.Fx.ld1 _ z.heap _
  rw [At.ld1 (v := .int .i64 a) hat]
/-- Something that is done. -/
structure AA where
  act : Int
  k : Nat
  d : List UInt8
  dv : Value
  poll : Int
  node : Int
  raw : Bool
  b : Blk
  bv : Value
def AA.t (x : AA) : Int × Int × Value × Int × Int × Bool × Vec 32 × Int × Value := (x.act, (x.k : Int), x.dv, x.poll, x.node, x.raw, x.b.p, x.b.h, x.bv)
structure ARows (h : Heap) (v : Value) (l : List AA) : Prop where
  rw : Rows' Q_flurrylaw23_Act h v (l.map AA.t)
  d : ∀ x ∈ l, RdB h x.dv x.d ∧ RdB h x.bv x.b.d
theorem ARows.fr {w w' : World} {v : Value} {l : List AA} (h : ARows w.heap v l) (hf : Fr [] w w') : ARows w'.heap v l := ⟨h.rw.fr hf, fun x hx => ⟨(h.d x hx).1.fr hf (off_nil _), (h.d x hx).2.fr hf (off_nil _)⟩⟩
theorem ARows.len {h : Heap} {v : Value} {l : List AA} (hr : ARows h v l) (K : Value → Prop) : lenS v K = K (.int .i64 l.length) := by
  have := hr.rw.len K
  rwa [List.length_map] at this
def AOk (l : List AA) : Prop := ∀ x ∈ l, x.k < 256 ∧ x.b.h ≤ maxI ∧ x.d.length ≤ 9223372036854775807 ∧ x.b.d.length ≤ 9223372036854775807
theorem acts_arg {h : Heap} {s : Sl (Int × Nat × Sl UInt8 × Int × Int × Bool × (Vec 32 × Int × Sl UInt8))} (hs : (rSl R_flurrylaw23_Act).ok h s) : ∃ l : List AA, ARows h s.v l ∧ capOk s.v ∧ l.length ≤ 9223372036854775807 ∧ AOk l := by
  obtain ⟨h1, h2, h3, h4⟩ := hs
  refine ⟨s.l.map fun x => ⟨x.1, x.2.1, x.2.2.1.l, x.2.2.1.v, x.2.2.2.1, x.2.2.2.2.1, x.2.2.2.2.2.1, ab x.2.2.2.2.2.2, x.2.2.2.2.2.2.2.2.v⟩, ⟨?_, fun x hx => ?_⟩, h3, by simpa using h2, fun x hx => ?_⟩
  · have e : s.l.flatMap R_flurrylaw23_Act.cells = ((s.l.map fun x => (⟨x.1, x.2.1, x.2.2.1.l, x.2.2.1.v, x.2.2.2.1, x.2.2.2.2.1, x.2.2.2.2.2.1, ab x.2.2.2.2.2.2, x.2.2.2.2.2.2.2.2.v⟩ : AA)).map AA.t).flatMap Q_flurrylaw23_Act.cells := by
      generalize s.l = l
      induction l with
      | nil => rfl
      | cons a l ih => rw [List.flatMap_cons, ih]; rfl
    unfold Rows'
    rw [e] at h1
    simp only [List.length_map] at h1 ⊢
    exact h1
  · obtain ⟨y, hy, rfl⟩ := List.mem_map.1 hx
    obtain ⟨o0, o1, o2, o3, o4, o5, o6⟩ := h4 y hy
    exact ⟨o2.1, ab_rd o6⟩
  · obtain ⟨y, hy, rfl⟩ := List.mem_map.1 hx
    obtain ⟨o0, o1, o2, o3, o4, o5, o6⟩ := h4 y hy
    exact ⟨o1, ab_h o6, o2.2.1, ab_len o6⟩
/-- The block that is handed in. -/
def bA (ids : List (Vec 32)) (hs : List Int) (x : AA) : Blk := if x.raw then x.b else ⟨ids.getD (x.k % ids.length) (vz 32), min (hs.getD (x.k % ids.length) 0) 4611686018427387904 + 1, x.d⟩
def AA.v (x : AA) : Value := if x.raw then x.bv else x.dv
theorem bA_rd {h : Heap} {x : AA} {ids : List (Vec 32)} {hs : List Int} (hx : RdB h x.dv x.d ∧ RdB h x.bv x.b.d) : RdB h x.v (bA ids hs x).d := by
  unfold bA AA.v
  cases x.raw
  · exact hx.1
  · exact hx.2
theorem bA_h {x : AA} {ids : List (Vec 32)} {hs : List Int} (hx : x.b.h ≤ maxI) : (bA ids hs x).h ≤ maxI := by
  unfold bA maxI at *
  cases x.raw
  · show min _ _ + 1 ≤ _
    omega
  · exact hx
def addI (ids : List (Vec 32)) (b : Blk) : List (Vec 32) := if b.chk = 0 then ids ++ [b.id] else ids
def addH (hs : List Int) (b : Blk) : List Int := if b.chk = 0 then hs ++ [b.h] else hs
theorem chk0_h {b : Blk} (h : b.chk = 0) : 0 ≤ b.h := by
  unfold Blk.chk at h
  split at h
  · cases h
  · omega
section
variable {w0 w : World} {As : List Asn}
theorem fewA_spec {v : Value} {l : List AA} (hr : ARows w.heap v l) (hcap : capOk v) (h63 : l.length ≤ 9223372036854775807) (hok : AOk l) : cal P f_law23_few [v] w fun r w' => Fr [] w w' ∧ ∃ t, r = .bool t ∧ (t = true → l.length ≤ 60 ∧ ∀ x ∈ l, x.d.length ≤ 1000 ∧ x.b.d.length ≤ 1000) := by
  refine s_law23_few fun R hR => ?_
  unfold c_law23_few
  have hq : ∃ a c, v = .slice a l.length c ∧ l.length ≤ c := by
    obtain ⟨a, c, hv, _⟩ := hr.rw
    rw [List.length_map] at hv
    exact ⟨a, c, hv, hcap _ _ _ hv⟩
  obtain ⟨a, c, hv, hc⟩ := hq
  simp only [hr.len, min_int]
  obtain ⟨n, hn⟩ : ∃ n : Nat, n = min l.length 100 := ⟨_, rfl⟩
  have e1 : min (l.length : Int) 100 = (n : Int) := by omega
  rw [e1]
  have hnl : n ≤ l.length := by omega
  have hrt : ARows w.heap (.slice a n c) (l.take n) := by
    refine ⟨?_, fun x hx => hr.d x (List.mem_of_mem_take hx)⟩
    have := hr.rw
    rw [hv] at this
    have h2 := Rows'.take this (k := n) (by simpa using hnl) c
    rwa [← List.map_take] at h2
  rw [hv, slc_to (by omega)]
  have hlt : (l.take n).length = n := by rw [List.length_take]; omega
  have h5 := hrt.len
  rw [hlt] at h5
  have h6 := hr.len
  rw [hv] at h6
  simp only [h5]
  refine ⟨fun y z => ∃ i : Nat, y = .int .i64 i ∧ i ≤ n ∧ (∀ x ∈ l.take i, x.d.length ≤ 1000 ∧ x.b.d.length ≤ 1000) ∧ Fr [] w z, fun y _ => (n - RowKit.intOf y).toNat, ⟨0, rfl, by omega, (fun x hx => by cases hx), Fr.refl _ _⟩, ?_⟩
  rintro _ w1 ⟨i, rfl, hi, hsm, hf⟩ -
  simp only [nilc_some, fad_mk, pik_true, pik_false, cnd_true, cnd_false, gif_same, gif_tf, gif_ft, gif_undef, bi_add, bi_sub, bi_mul, bi_eql, bi_neq, bi_lss, bi_leq, bi_gtr, bi_geq, notB_bool, cvi_int, lenS_mk, lenT_mk, ext0, ext1, ext2, nilP_mk, nilS_mk, fldv_agg, jn0_k, jn1_k, jn2_k, jn1_and, jn1_or, ex_some, Option.isNone_some, Option.isNone_none, Bool.false_bne, Bool.bne_true, Bool.bne_false, Bool.true_bne, Bool.not_true, Bool.not_false, Bool.and_true, Bool.true_and, Bool.and_false, Bool.false_and, Bool.or_true, Bool.true_or, Bool.or_false, Bool.false_or, cond_true, cond_false, List.getElem?_toArray, List.getElem?_cons_zero, List.getElem?_cons_succ, Nat.zero_add, Nat.add_zero, Nat.reduceAdd, forall_const]
  rw [cnd_bool]
  refine ⟨fun h => ?_, fun h => ?_⟩
  · have hlt : i < n := by simp at h; omega
    obtain ⟨x, hx⟩ : ∃ x, l[i]? = some x := ⟨_, List.getElem?_eq_getElem (by omega)⟩
    have hxt : (l.take n)[i]? = some x := by rw [List.getElem?_take, if_pos hlt]; exact hx
    have hxm := List.mem_of_getElem? hx
    have hxm' : ((l.take n).map AA.t)[i]? = some x.t := by rw [List.getElem?_map, hxt]; rfl
    change ixs 40 _ _ _
    refine Rows'.ldN (q := Q_flurrylaw23_Act) (by decide) (hrt.rw.fr hf) hxm' .i64 ?_
    refine alloc_s ((Sep.start w).old hf) (A_flurrylaw23_Act w1) fun g w2 hs2 => ?_
    have hd := (hr.fr hs2.fr0).d x hxm
    refine St_flurrylaw23_Act (b := x.t) hs2 (one_flurrylaw23_Act hd.1.one hd.2.one) fun w3 hs3 => ?_
    have hd3 := (hr.fr hs3.fr0).d x hxm
    have l1 : ∀ K, lenS (AA.t x).2.2.1 K = K (.int .i64 x.d.length) := hd3.1.len
    have l2 : ∀ K, lenS (AA.t x).2.2.2.2.2.2.2.2 K = K (.int .i64 x.b.d.length) := hd3.2.len
    simp only [L_flurrylaw23_Act hs3.blk, L_flurrylaw23_Act__Do hs3.blk, L_flurrylaw23_Act__K hs3.blk, L_flurrylaw23_Act__Data hs3.blk, L_flurrylaw23_Act__Poll hs3.blk, L_flurrylaw23_Act__Node hs3.blk, L_flurrylaw23_Act__Raw hs3.blk, L_flurrylaw23_Act__B hs3.blk, L_flurrylaw23_Act__B_Parent hs3.blk, L_flurrylaw23_Act__B_Height hs3.blk, L_flurrylaw23_Act__B_Data hs3.blk, l1, l2, nilc_some, fad_mk, pik_true, pik_false, cnd_true, cnd_false, gif_same, gif_tf, gif_ft, gif_undef, bi_add, bi_sub, bi_mul, bi_eql, bi_neq, bi_lss, bi_leq, bi_gtr, bi_geq, notB_bool, cvi_int, lenS_mk, lenT_mk, ext0, ext1, ext2, nilP_mk, nilS_mk, fldv_agg, jn0_k, jn1_k, jn2_k, jn1_and, jn1_or, ex_some, Option.isNone_some, Option.isNone_none, Bool.false_bne, Bool.bne_true, Bool.bne_false, Bool.true_bne, Bool.not_true, Bool.not_false, Bool.and_true, Bool.true_and, Bool.and_false, Bool.false_and, Bool.or_true, Bool.true_or, Bool.or_false, Bool.false_or, cond_true, cond_false, List.getElem?_toArray, List.getElem?_cons_zero, List.getElem?_cons_succ, Nat.zero_add, Nat.add_zero, Nat.reduceAdd, forall_const]
    rw [cnd_bool]
    refine ⟨fun h => hR _ _ ⟨hs3.fr0, false, rfl, fun h => by cases h⟩, fun h => ?_⟩
    rw [wi64 (by omega) (by omega)]
    refine ⟨⟨i + 1, by simp, by omega, fun y hy => ?_, hs3.fr0⟩, by simp [RowKit.intOf]; omega⟩
    rw [List.take_add_one, hx] at hy
    rcases List.mem_append.1 hy with hy | hy
    · exact hsm y hy
    · obtain rfl : y = x := by simpa using hy
      simp only [Bool.or_eq_false_iff, decide_eq_false_iff_not] at h
      omega
  · have hge : i = n := by simp at h; omega
    refine hR _ _ ⟨hf, _, rfl, fun h => ?_⟩
    have hll : l.length ≤ 60 := by simp at h; omega
    refine ⟨hll, fun x hx => hsm x ?_⟩
    rw [hge, List.take_of_length_le (by omega)]
    exact hx
/-- Where names stand: in a variable, or in a part of one. -/
structure NmP (g o : Nat) (nmA : Value → Value → Asn) : Prop where
  ldI : ∀ {w0 w : World} {As : List Asn} {x y : Value}, Sep w0 w (nmA x y :: As) → ∀ K : Value → Prop, Go.Fx.ld1 (.pointer (some ⟨g, o, none⟩)) w.heap K = K x
  ldH : ∀ {w0 w : World} {As : List Asn} {x y : Value}, Sep w0 w (nmA x y :: As) → ∀ K : Value → Prop, Go.Fx.ld1 (.pointer (some ⟨g, o + 1, none⟩)) w.heap K = K y
  stI : ∀ {w0 w : World} {As : List Asn} {x y x' : Value} {K : World → Prop}, Sep w0 w (nmA x y :: As) → x'.oneCell' = true → (∀ w', Sep w0 w' (nmA x' y :: As) → K w') → Go.Fx.st1 (.pointer (some ⟨g, o, none⟩)) x' w K
  stH : ∀ {w0 w : World} {As : List Asn} {x y y' : Value} {K : World → Prop}, Sep w0 w (nmA x y :: As) → y'.oneCell' = true → (∀ w', Sep w0 w' (nmA x y' :: As) → K w') → Go.Fx.st1 (.pointer (some ⟨g, o + 1, none⟩)) y' w K
abbrev nmN (g : Nat) (x y : Value) : Asn := blk g (Rdr.cells Q_flurrylaw23_names (x, y)).toArray T_flurrylaw23_names
abbrev nmB (g : Nat) (h r : Value) (x y : Value) : Asn := blk g (Rdr.cells Q_flurrylaw23_both (h, r, x, y)).toArray T_flurrylaw23_both
theorem nmP_N (g : Nat) : NmP g 0 (nmN g) :=
  ⟨fun hs K => L_flurrylaw23_names__ids hs.blk K, fun hs K => L_flurrylaw23_names__heights hs.blk K, fun hs h1 h => St_flurrylaw23_names__ids hs h1 h, fun hs h1 h => St_flurrylaw23_names__heights hs h1 h⟩
theorem nmP_B (g : Nat) (h r : Value) : NmP g 2 (nmB g h r) :=
  ⟨fun hs K => L_flurrylaw23_both__n_ids hs.blk K, fun hs K => L_flurrylaw23_both__n_heights hs.blk K, fun hs h1 h => St_flurrylaw23_both__n_ids hs h1 h, fun hs h1 h => St_flurrylaw23_both__n_heights hs h1 h⟩
theorem bldIH {r : Vec 32} {K : Value → World → Prop} {Bs : List Asn} (hs : Sep w0 w Bs) (hk : ∀ a z, Sep w0 z (rows (rVec 32) a [r] :: Bs) → K a z) : efP P (Instr.buildSlice T_sl_api_ID 1 #[(0, kv r)]) w K :=
  rows_lit hs S_sl_api_ID (l := [r]) (V := fun a => .agg (Rdr.cells (rVec 32) a).toArray) (fun a => rfl) rfl rfl (by decide) (by decide) fun g7 w7 hs7 => hk _ _ hs7
theorem bldHH {h : Int} {K : Value → World → Prop} {Bs : List Asn} (hs : Sep w0 w Bs) (hk : ∀ a z, Sep w0 z (rows (rInt .i64) a [h] :: Bs) → K a z) : efP P (Instr.buildSlice T_sl_int64 1 #[(0, .int .i64 h)]) w K :=
  rows_lit (q := rInt .i64) hs S_sl_int64 (l := [h]) (V := fun a => .int .i64 a) (fun a => rfl) rfl rfl (by decide) (by decide) fun g7 w7 hs7 => hk _ _ hs7
theorem appIH {r : Vec 32} {x a : Value} {ids : List (Vec 32)} {K : Value → World → Prop} {Bs : List Asn} (hs : Sep w0 w (rows (rVec 32) x ids :: Bs)) (ha : Rows' (rVec 32) w.heap a [r]) (hl : ids.length ≤ 1000000)
    (hk : ∀ x' z, Sep w0 z (rows (rVec 32) x' (ids ++ [r]) :: Bs) → K x' z) : efP P (Builtin.append_ #[T_sl_api_ID, T_sl_api_ID] T_sl_api_ID #[x, a]) w K :=
  rows_app S_sl_api_ID U_sl_api_ID (by simp) hs ha (by simp only [List.flatMap_cons, List.flatMap_nil, List.append_nil]; exact oneVec) (by simp; omega) (by simp; omega) fun v8 w8 hs8 => hk _ _ hs8
theorem appHH {h : Int} {y b : Value} {hs' : List Int} {K : Value → World → Prop} {Bs : List Asn} (hs : Sep w0 w (rows (rInt .i64) y hs' :: Bs)) (ha : Rows' (rInt .i64) w.heap b [h]) (hl : hs'.length ≤ 1000000)
    (hk : ∀ y' z, Sep w0 z (rows (rInt .i64) y' (hs' ++ [h]) :: Bs) → K y' z) : efP P (Builtin.append_ #[T_sl_int64, T_sl_int64] T_sl_int64 #[y, b]) w K :=
  rows_app (q := rInt .i64) S_sl_int64 U_sl_int64 (by simp) hs ha (by simp only [List.flatMap_cons, List.flatMap_nil, List.append_nil]; exact oneI) (by simp; omega) (by simp; omega) fun v8 w8 hs8 => hk _ _ hs8
theorem three_appH {r : Vec 32} {h : Int} {x y : Value} {ids : List (Vec 32)} {hs' : List Int} {K : Value → Value → World → Prop} (hs : Sep w0 w (rows (rVec 32) x ids :: rows (rInt .i64) y hs' :: As)) (hl1 : ids.length ≤ 1000000) (hl2 : hs'.length ≤ 1000000)
    (hk : ∀ x' y' z, Sep w0 z (rows (rVec 32) x' (ids ++ [r]) :: rows (rInt .i64) y' (hs' ++ [h]) :: As) → K x' y' z) :
    (efS (fun u => Sep w0 u As) (efP P (Instr.buildSlice T_sl_api_ID 1 #[(0, kv r)])) w fun a w =>
      (efS (fun u => Sep w0 u As) (efP P (Builtin.append_ #[T_sl_api_ID, T_sl_api_ID] T_sl_api_ID #[x, a])) w fun x' w =>
        efS (fun u => Sep w0 u As) (efP P (Instr.buildSlice T_sl_int64 1 #[(0, .int .i64 h)])) w fun b w =>
        efC (efP P (Builtin.append_ #[T_sl_int64, T_sl_int64] T_sl_int64 #[y, b])) w fun S y' w => K x' y' w) ∧
      ((efS (fun u => Sep w0 u As) (efP P (Instr.buildSlice T_sl_int64 1 #[(0, .int .i64 h)])) w fun b w =>
        efS (fun u => Sep w0 u As) (efP P (Builtin.append_ #[T_sl_api_ID, T_sl_api_ID] T_sl_api_ID #[x, a])) w fun x' w =>
        efC (efP P (Builtin.append_ #[T_sl_int64, T_sl_int64] T_sl_int64 #[y, b])) w fun S y' w => K x' y' w) ∧ True)) ∧
    ((efS (fun u => Sep w0 u As) (efP P (Instr.buildSlice T_sl_int64 1 #[(0, .int .i64 h)])) w fun b w =>
      efS (fun u => Sep w0 u As) (efP P (Instr.buildSlice T_sl_api_ID 1 #[(0, kv r)])) w fun a w =>
      efS (fun u => Sep w0 u As) (efP P (Builtin.append_ #[T_sl_api_ID, T_sl_api_ID] T_sl_api_ID #[x, a])) w fun x' w =>
      efC (efP P (Builtin.append_ #[T_sl_int64, T_sl_int64] T_sl_int64 #[y, b])) w fun S y' w => K x' y' w) ∧ True) := by
  refine ⟨?_, ?_, trivial⟩
  · refine efS_i (bldIH hs fun a z hz => ⟨hz.tail.tail.tail, ?_, ?_, trivial⟩)
    · refine efS_i (appIH hz.p1 (Sep.rows hz) hl1 fun x' z' hz' => ⟨hz'.tail.tail.tail, ?_⟩)
      refine efS_i (bldHH hz' fun b z2 hz2 => ⟨hz2.tail.tail.tail.tail, ?_⟩)
      refine efC_efP (appHH (Sep.pick hz2 [3, 0, 1, 2] 4) (Sep.rows hz2) hl2 fun y' z3 hz3 => hk _ _ _ ?_)
      exact Sep.pick hz3 [2, 0] 4
    · refine efS_i (bldHH hz fun b z2 hz2 => ⟨hz2.tail.tail.tail.tail, ?_⟩)
      refine efS_i (appIH hz2.p2 (Sep.rows hz2.p1) hl1 fun x' z' hz' => ⟨hz'.tail.tail.tail.tail, ?_⟩)
      refine efC_efP (appHH (Sep.pick hz' [3, 0, 1, 2] 4) (Sep.rows hz'.p1) hl2 fun y' z3 hz3 => hk _ _ _ ?_)
      exact Sep.pick hz3 [1, 0] 4
  · refine efS_i (bldHH hs fun b z hz => ⟨hz.tail.tail.tail, ?_⟩)
    refine efS_i (bldIH hz fun a z2 hz2 => ⟨hz2.tail.tail.tail.tail, ?_⟩)
    refine efS_i (appIH hz2.p2 (Sep.rows hz2) hl1 fun x' z' hz' => ⟨hz'.tail.tail.tail.tail, ?_⟩)
    refine efC_efP (appHH (Sep.pick hz' [3, 0, 1, 2] 4) (Sep.rows hz'.p2) hl2 fun y' z3 hz3 => hk _ _ _ ?_)
    exact Sep.pick hz3 [1, 0] 4
def m77 : Vec 32 := ⟨77 :: List.replicate 31 0, by decide⟩
theorem B_ID77 {w : World} (K : Value → Prop) : rdP P (Instr.build T_api_ID #[(0, .int .u8 77)]) w K = K (kv m77) := rd_build (r := rVec 32) (a := m77) (by kernel_rfl) K
theorem start23_spec : cal P f_law23_start [] w fun r w' => ∃ x y, r = .agg (Rdr.cells Q_flurrylaw23_names (x, y)).toArray ∧ x.oneCell' = true ∧ y.oneCell' = true ∧ Sep w w' [rows (rVec 32) x [m77], rows (rInt .i64) y [3]] := by
  refine s_law23_start fun R hR => ?_
  unfold c_law23_start
  refine alloc_s (Sep.start w) (A_flurrylaw23_names w) fun g w1 hs1 => ?_
  rw [B_ID77]
  refine bldIH hs1 fun x w2 hs2 => ?_
  refine bldHH hs2 fun y w3 hs3 => ?_
  have hx1 := Sep.oneR hs3.p1
  have hy1 := Sep.oneR hs3
  rw [B_flurrylaw23_names_0_1 hx1 hy1]
  refine St_flurrylaw23_names hs3.p2 (one_flurrylaw23_names hx1 hy1) fun w4 hs4 => ?_
  simp only [L_flurrylaw23_names hs4.blk, L_flurrylaw23_names__ids hs4.blk, L_flurrylaw23_names__heights hs4.blk]
  exact hR _ _ ⟨x, y, rfl, hx1, hy1, Sep.pick hs4 [2, 1] 3⟩
variable {g o : Nat} {nmA : Value → Value → Asn} {xv yv : Value} {ids : List (Vec 32)} {hts : List Int}
theorem names_id_spec {k : Nat} (hP : NmP g o nmA) (hs : Sep w0 w (nmA xv yv :: rows (rVec 32) xv ids :: As)) (h0 : 0 < ids.length) (hn : ids.length ≤ 1000000) (hk : k < 256) :
    cal P f_law23_names_id [.pointer (some ⟨g, o, none⟩), .int .u8 k] w fun r w' => r = kv (ids.getD (k % ids.length) (vz 32)) ∧ Fr [] w w' := by
  refine s_law23_names_id fun R hR => ?_
  unfold c_law23_names_id
  refine alloc_s (Sep.start w) (A_api_ID w) fun g4 w1 hs1 => ?_
  have hj := hs.join hs1
  refine drH_PH (S := fun u => Sep w u [blk g4 (Rdr.cells (rVec 32) (vz 32)).toArray T_api_ID]) hs1 (fun u hu => hu) fun w2 hs2 _ => ?_
  have hJ : ∀ {u : World}, Sep w u [blk g4 (Rdr.cells (rVec 32) (vz 32)).toArray T_api_ID] → Sep w0 u (nmA xv yv :: rows (rVec 32) xv ids :: blk g4 (Rdr.cells (rVec 32) (vz 32)).toArray T_api_ID :: As) := fun {u} hu => Sep.pick (hs.join hu) [1, 2, 0] 3
  simp only [nilc_some, fad_mk, pik_true, pik_false, cnd_true, cnd_false, gif_same, gif_tf, gif_ft, gif_undef, bi_add, bi_sub, bi_mul, bi_eql, bi_neq, bi_lss, bi_leq, bi_gtr, bi_geq, notB_bool, cvi_int, lenS_mk, lenT_mk, ext0, ext1, ext2, nilP_mk, nilS_mk, fldv_agg, jn0_k, jn1_k, jn2_k, jn1_and, jn1_or, ex_some, Option.isNone_some, Option.isNone_none, Bool.false_bne, Bool.bne_true, Bool.bne_false, Bool.true_bne, Bool.not_true, Bool.not_false, Bool.and_true, Bool.true_and, Bool.and_false, Bool.false_and, Bool.or_true, Bool.true_or, Bool.or_false, Bool.false_or, cond_true, cond_false, List.getElem?_toArray, List.getElem?_cons_zero, List.getElem?_cons_succ, Nat.zero_add, Nat.add_zero, Nat.reduceAdd, forall_const]
  refine rdS_ld (v := xv) (fun u hu K hk => by rw [hP.ldI (hJ hu)]; exact hk) ?_
  refine rdS_ld (v := xv) (fun u hu K hk => by rw [hP.ldI (hJ hu)]; exact hk) ?_
  have hlen : ∀ K, lenS xv K = K (.int .i64 ids.length) := (Sep.rows hs.p1).len
  rw [wi64 (by omega) (by omega), hlen, bi_rem _ _ _ _ (by omega), tmodn]
  have hlt := Nat.mod_lt k h0
  obtain ⟨a, ha⟩ : ∃ a, ids[k % ids.length]? = some a := ⟨_, List.getElem?_eq_getElem hlt⟩
  change ixs 32 _ _ _
  refine rdS_rowH (q := rVec 32) (by decide) hs2 (fun u hu => Sep.rows (hJ hu).p1) ha .i64 ?_
  refine efC_stN (St_api_ID (b := a) hs2 fun w3 hs3 => ?_)
  simp only [L_api_ID hs3.blk]
  refine hR _ _ ⟨?_, hs3.fr0⟩
  rw [List.getD_eq_getElem?_getD, ha]
  rfl
theorem names_block_spec {x : AA} (hP : NmP g o nmA) (hs : Sep w0 w (nmA xv yv :: rows (rVec 32) xv ids :: rows (rInt .i64) yv hts :: As)) (hl : hts.length = ids.length) (h0 : 0 < ids.length) (hn : ids.length ≤ 1000000)
    (hx : RdB w0.heap x.dv x.d ∧ RdB w0.heap x.bv x.b.d) (hp : ∀ y ∈ hts, 0 ≤ y) (hk : x.k < 256) (hbh : x.b.h ≤ maxI) :
    cal P f_law23_names_block [.pointer (some ⟨g, o, none⟩), .agg (Rdr.cells Q_flurrylaw23_Act x.t).toArray] w fun r w' => r = bq (bA ids hts x) x.v ∧ ∃ xv' yv', Sep w0 w' (nmA xv' yv' :: rows (rVec 32) xv' (addI ids (bA ids hts x)) :: rows (rInt .i64) yv' (addH hts (bA ids hts x)) :: As) := by
  refine s_law23_names_block fun R hR => ?_
  unfold c_law23_names_block
  refine bxQ hs fun g3 w1 hs1 => ?_
  refine alloc_s hs1 (A_api_Block w1) fun g4 w2 hs2 => ?_
  refine drw_s hs2 fun w3 hs3 _ => ?_
  have ek : (AA.t x).2.1 = (x.k : Int) := rfl
  have hlen : ∀ K, lenS xv K = K (.int .i64 ids.length) := (Sep.rows (Sep.p1 hs)).len
  simp only [nilc_some, fad_mk, pik_true, pik_false, cnd_true, cnd_false, gif_same, gif_tf, gif_ft, gif_undef, bi_add, bi_sub, bi_mul, bi_eql, bi_neq, bi_lss, bi_leq, bi_gtr, bi_geq, notB_bool, cvi_int, lenS_mk, lenT_mk, ext0, ext1, ext2, nilP_mk, nilS_mk, fldv_agg, jn0_k, jn1_k, jn2_k, jn1_and, jn1_or, ex_some, Option.isNone_some, Option.isNone_none, Bool.false_bne, Bool.bne_true, Bool.bne_false, Bool.true_bne, Bool.not_true, Bool.not_false, Bool.and_true, Bool.true_and, Bool.and_false, Bool.false_and, Bool.or_true, Bool.true_or, Bool.or_false, Bool.false_or, cond_true, cond_false, List.getElem?_toArray, List.getElem?_cons_zero, List.getElem?_cons_succ, Nat.zero_add, Nat.add_zero, Nat.reduceAdd, forall_const, L_flurrylaw23_Act (Sep.blk hs3.p1), L_flurrylaw23_Act__Do (Sep.blk hs3.p1), L_flurrylaw23_Act__K (Sep.blk hs3.p1), L_flurrylaw23_Act__Data (Sep.blk hs3.p1), L_flurrylaw23_Act__Poll (Sep.blk hs3.p1), L_flurrylaw23_Act__Node (Sep.blk hs3.p1), L_flurrylaw23_Act__Raw (Sep.blk hs3.p1), L_flurrylaw23_Act__B (Sep.blk hs3.p1), L_flurrylaw23_Act__B_Parent (Sep.blk hs3.p1), L_flurrylaw23_Act__B_Height (Sep.blk hs3.p1), L_flurrylaw23_Act__B_Data (Sep.blk hs3.p1), hP.ldI hs3.p2, ek, hlen]
  rw [wi64 (by omega) (by omega), bi_rem _ _ _ _ (by omega), tmodn]
  have hlt := Nat.mod_lt x.k h0
  obtain ⟨a, ha⟩ : ∃ a, ids[x.k % ids.length]? = some a := ⟨_, List.getElem?_eq_getElem hlt⟩
  obtain ⟨y, hy⟩ : ∃ y, hts[x.k % ids.length]? = some y := ⟨_, List.getElem?_eq_getElem (by omega)⟩
  have hy0 := hp y (List.mem_of_getElem? hy)
  refine drH_S hs3 fun w4 hs4 _ => ?_
  refine rdS_ld (v := xv) (fun u hu K hk => by rw [hP.ldI hu.p2]; exact hk) ?_
  change ixs 32 _ _ _
  refine rdS_rowH (q := rVec 32) (by decide) hs4 (fun u hu => Sep.rows hu.p3) ha .i64 ?_
  refine rdS_ld (v := yv) (fun u hu K hk => by rw [hP.ldH hu.p2]; exact hk) ?_
  change ixs 1 _ _ _
  refine rdS_rowIH hs4 (fun u hu => Sep.rows hu.p4) hy .i64 ?_
  refine ⟨.int .i64 (min y 4611686018427387904), fun u hu => by rw [min_int], ?_⟩
  simp only [nilc_some, fad_mk, pik_true, pik_false, cnd_true, cnd_false, gif_same, gif_tf, gif_ft, gif_undef, bi_add, bi_sub, bi_mul, bi_eql, bi_neq, bi_lss, bi_leq, bi_gtr, bi_geq, notB_bool, cvi_int, lenS_mk, lenT_mk, ext0, ext1, ext2, nilP_mk, nilS_mk, fldv_agg, jn0_k, jn1_k, jn2_k, jn1_and, jn1_or, ex_some, Option.isNone_some, Option.isNone_none, Bool.false_bne, Bool.bne_true, Bool.bne_false, Bool.true_bne, Bool.not_true, Bool.not_false, Bool.and_true, Bool.true_and, Bool.and_false, Bool.false_and, Bool.or_true, Bool.true_or, Bool.or_false, Bool.false_or, cond_true, cond_false, List.getElem?_toArray, List.getElem?_cons_zero, List.getElem?_cons_succ, Nat.zero_add, Nat.add_zero, Nat.reduceAdd, forall_const]
  rw [wi64 (by omega) (by omega)]
  refine rdS_ld (v := x.dv) (fun u hu K hk => (L_flurrylaw23_Act__Data (Sep.blk hu.p1) K).mpr hk) ?_
  refine ⟨bq ⟨a, min y 4611686018427387904 + 1, x.d⟩ x.dv, fun u hu => by rw [B_api_Block_0_1_2 hx.1.one], ?_⟩
  refine efS_i (alloc_s hs4 (A_api_Block w4) fun g6 w5 hs5 => ⟨hs5.tail, ?_⟩)
  refine efC_stN (St_api_Block (b := (a, min y 4611686018427387904 + 1, x.dv)) hs5 (one_api_Block hx.1.one) fun w6 hs6 => ?_)
  obtain ⟨b, hb⟩ : ∃ b, b = bA ids hts x := ⟨_, rfl⟩
  rw [← hb] at hR
  have hbd : ∀ {z : World}, Fr [] w0 z → RdB z.heap x.v b.d := fun {z} hz => by
    rw [hb]
    exact bA_rd ⟨hx.1.fr hz (off_nil _), hx.2.fr hz (off_nil _)⟩
  have hbh' : b.h ≤ maxI := by rw [hb]; exact bA_h hbh
  refine ⟨fun z => Sep w0 z (blk g6 (Rdr.cells Q_api_Block (b.p, b.h, x.v)).toArray T_api_Block :: blk g4 (Rdr.cells Q_api_Block (vz 32, (0 : Int), .slice none 0 0)).toArray T_api_Block :: blk g3 (Rdr.cells Q_flurrylaw23_Act x.t).toArray T_flurrylaw23_Act :: nmA xv yv :: rows (rVec 32) xv ids :: rows (rInt .i64) yv hts :: As), ?_, ?_⟩
  · have eraw : (AA.t x).2.2.2.2.2.1 = x.raw := rfl
    simp only [nilc_some, fad_mk, pik_true, pik_false, cnd_true, cnd_false, gif_same, gif_tf, gif_ft, gif_undef, bi_add, bi_sub, bi_mul, bi_eql, bi_neq, bi_lss, bi_leq, bi_gtr, bi_geq, notB_bool, cvi_int, lenS_mk, lenT_mk, ext0, ext1, ext2, nilP_mk, nilS_mk, fldv_agg, jn0_k, jn1_k, jn2_k, jn1_and, jn1_or, ex_some, Option.isNone_some, Option.isNone_none, Bool.false_bne, Bool.bne_true, Bool.bne_false, Bool.true_bne, Bool.not_true, Bool.not_false, Bool.and_true, Bool.true_and, Bool.and_false, Bool.false_and, Bool.or_true, Bool.true_or, Bool.or_false, Bool.false_or, cond_true, cond_false, List.getElem?_toArray, List.getElem?_cons_zero, List.getElem?_cons_succ, Nat.zero_add, Nat.add_zero, Nat.reduceAdd, forall_const, L_flurrylaw23_Act (Sep.blk hs6.p2), L_flurrylaw23_Act__Do (Sep.blk hs6.p2), L_flurrylaw23_Act__K (Sep.blk hs6.p2), L_flurrylaw23_Act__Data (Sep.blk hs6.p2), L_flurrylaw23_Act__Poll (Sep.blk hs6.p2), L_flurrylaw23_Act__Node (Sep.blk hs6.p2), L_flurrylaw23_Act__Raw (Sep.blk hs6.p2), L_flurrylaw23_Act__B (Sep.blk hs6.p2), L_flurrylaw23_Act__B_Parent (Sep.blk hs6.p2), L_flurrylaw23_Act__B_Height (Sep.blk hs6.p2), L_flurrylaw23_Act__B_Data (Sep.blk hs6.p2), eraw]
    rw [cnd_bool]
    refine ⟨fun h => ?_, fun h => ?_⟩
    · refine St_api_Block (b := (x.b.p, x.b.h, x.bv)) hs6 (one_api_Block hx.2.one) fun w7 hs7 => ?_
      have eb : b = x.b := by rw [hb]; unfold bA; rw [if_pos h]
      have ev : x.v = x.bv := by unfold AA.v; rw [if_pos h]
      rw [eb, ev]
      exact hs7
    · have h' : ¬ x.raw = true := by rw [h]; simp
      have eb : b = ⟨a, min y 4611686018427387904 + 1, x.d⟩ := by
        rw [hb]
        unfold bA
        rw [if_neg h', List.getD_eq_getElem?_getD, ha, List.getD_eq_getElem?_getD, hy]
        rfl
      have ev : x.v = x.dv := by unfold AA.v; rw [if_neg h']
      rw [eb, ev]
      exact hs6
  clear hs6 hs5 hs4 hs3 hs2 hs1
  rintro w7 hs7 _
  refine ⟨fun z => ∃ xv' yv', Sep w0 z (blk g6 (Rdr.cells Q_api_Block (b.p, b.h, x.v)).toArray T_api_Block :: blk g4 (Rdr.cells Q_api_Block (vz 32, (0 : Int), .slice none 0 0)).toArray T_api_Block :: nmA xv' yv' :: rows (rVec 32) xv' (addI ids b) :: rows (rInt .i64) yv' (addH hts b) :: As), ?_, ?_⟩
  · simp only [L_api_Block hs7.blk, L_api_Block__Parent hs7.blk, L_api_Block__Height hs7.blk, L_api_Block__Data hs7.blk]
    refine cal_i (rbID_spec (b := b) (v := x.v) (hbd hs7.fr0) hbh') ?_
    rintro _ w8 ⟨rfl, hf8⟩
    have hs8 := hs7.old hf8
    simp only [nilc_some, fad_mk, pik_true, pik_false, cnd_true, cnd_false, gif_same, gif_tf, gif_ft, gif_undef, bi_add, bi_sub, bi_mul, bi_eql, bi_neq, bi_lss, bi_leq, bi_gtr, bi_geq, notB_bool, cvi_int, lenS_mk, lenT_mk, ext0, ext1, ext2, nilP_mk, nilS_mk, fldv_agg, jn0_k, jn1_k, jn2_k, jn1_and, jn1_or, ex_some, Option.isNone_some, Option.isNone_none, Bool.false_bne, Bool.bne_true, Bool.bne_false, Bool.true_bne, Bool.not_true, Bool.not_false, Bool.and_true, Bool.true_and, Bool.and_false, Bool.false_and, Bool.or_true, Bool.true_or, Bool.or_false, Bool.false_or, cond_true, cond_false, List.getElem?_toArray, List.getElem?_cons_zero, List.getElem?_cons_succ, Nat.zero_add, Nat.add_zero, Nat.reduceAdd, forall_const]
    refine alloc_s hs8 (A_api_ID w8) fun g7 w9 hs9 => ?_
    refine St_api_ID hs9 fun w10 hs10 => ?_
    rw [cnd_bool]
    refine ⟨fun h => ?_, fun h => ?_⟩
    · have h : b.chk = 0 := by simpa using h
      have hnm : b.name = b.id := by unfold Blk.name; rw [if_pos h]
      have eI : addI ids b = ids ++ [b.id] := if_pos h
      have eH : addH hts b = hts ++ [b.h] := if_pos h
      rw [hnm] at hs10
      rw [eI, eH]
      replace hs10 : Sep w0 w10 (rows (rVec 32) xv ids :: rows (rInt .i64) yv hts :: blk g7 (Rdr.cells (rVec 32) b.id).toArray T_api_ID :: blk g6 (Rdr.cells Q_api_Block (b.p, b.h, x.v)).toArray T_api_Block :: nmA xv yv :: blk g4 (Rdr.cells Q_api_Block (vz 32, (0 : Int), .slice none 0 0)).toArray T_api_Block :: As) := Sep.pick hs10 [5, 6, 0, 1, 4, 2] 7
      refine drH_PH (S := fun u => Sep w0 u (blk g7 (Rdr.cells (rVec 32) b.id).toArray T_api_ID :: blk g6 (Rdr.cells Q_api_Block (b.p, b.h, x.v)).toArray T_api_Block :: nmA xv yv :: blk g4 (Rdr.cells Q_api_Block (vz 32, (0 : Int), .slice none 0 0)).toArray T_api_Block :: As)) hs10 (fun u hu => hu.tail.tail) fun w11 hs11 _ => ?_
      refine ⟨fun z => ∃ xv' yv', Sep w0 z (blk g6 (Rdr.cells Q_api_Block (b.p, b.h, x.v)).toArray T_api_Block :: blk g4 (Rdr.cells Q_api_Block (vz 32, (0 : Int), .slice none 0 0)).toArray T_api_Block :: nmA xv' yv' :: rows (rVec 32) xv' (ids ++ [b.id]) :: rows (rInt .i64) yv' (hts ++ [b.h]) :: As), ?_, fun _ h _ => h⟩
      simp only [nilc_some, fad_mk, pik_true, pik_false, cnd_true, cnd_false, gif_same, gif_tf, gif_ft, gif_undef, bi_add, bi_sub, bi_mul, bi_eql, bi_neq, bi_lss, bi_leq, bi_gtr, bi_geq, notB_bool, cvi_int, lenS_mk, lenT_mk, ext0, ext1, ext2, nilP_mk, nilS_mk, fldv_agg, jn0_k, jn1_k, jn2_k, jn1_and, jn1_or, ex_some, Option.isNone_some, Option.isNone_none, Bool.false_bne, Bool.bne_true, Bool.bne_false, Bool.true_bne, Bool.not_true, Bool.not_false, Bool.and_true, Bool.true_and, Bool.and_false, Bool.false_and, Bool.or_true, Bool.true_or, Bool.or_false, Bool.false_or, cond_true, cond_false, List.getElem?_toArray, List.getElem?_cons_zero, List.getElem?_cons_succ, Nat.zero_add, Nat.add_zero, Nat.reduceAdd, forall_const]
      refine rdS_ld (v := xv) (fun u hu K hk => by rw [hP.ldI hu.p2]; exact hk) ?_
      refine ⟨kv b.id, fun u hu => (L_api_ID (Sep.blk hu) _).mpr rfl, ?_⟩
      refine rdS_ld (v := yv) (fun u hu K hk => by rw [hP.ldH hu.p2]; exact hk) ?_
      refine rdS_ld (v := .int .i64 b.h) (fun u hu K hk => (L_api_Block__Height (Sep.blk hu.p1) K).mpr hk) ?_
      refine three_appH hs11 hn (by omega) fun x' y' z hz => ?_
      refine efC_st1 (hP.stI (Sep.pick hz [4, 0, 1, 2, 3, 5] 6) (Sep.oneR hz) fun z2 hz2 => ?_)
      refine efC_st1 (hP.stH hz2 (Sep.oneR hz2.p2) fun z3 hz3 => ?_)
      exact ⟨x', y', Sep.pick hz3 [4, 5, 0, 1, 2] 6⟩
    · have h : ¬ b.chk = 0 := by simpa using h
      have eI : addI ids b = ids := if_neg h
      have eH : addH hts b = hts := if_neg h
      rw [eI, eH]
      exact ⟨xv, yv, Sep.pick hs10 [1, 2, 4, 5, 6] 7⟩
  rintro w8 ⟨xv', yv', hs8⟩ _
  simp only [L_api_Block hs8.blk, L_api_Block__Parent hs8.blk, L_api_Block__Height hs8.blk, L_api_Block__Data hs8.blk]
  refine St_api_Block (b := (b.p, b.h, x.v)) hs8.p1 (one_api_Block (hbd hs8.fr0).one) fun w9 hs9 => ?_
  simp only [L_api_Block hs9.blk, L_api_Block__Parent hs9.blk, L_api_Block__Height hs9.blk, L_api_Block__Data hs9.blk]
  exact hR _ _ ⟨rfl, xv', yv', hs9.tail.tail⟩
end
end Go.Fx
set_option linter.unusedVariables false
set_option linter.unusedSimpArgs false
namespace Go.Fx
/-- From a name that waits to the one that it waits for. -/
def upW (ws : List Wt) (k : Vec 32) : Vec 32 := (gotW k ws).1.p
def upN (ws : List Wt) (k : Vec 32) : Nat → Vec 32
  | 0 => k
  | n + 1 => upW ws (upN ws k n)
/-- The way up from a name leaves what waits. -/
def Ends (ws : List Wt) (k : Vec 32) : Prop := ∃ n, (noW (upN ws k n) ws).isSome = false
theorem noW_mem {ws : List Wt} (hn : (ws.map (·.1)).Nodup) {x : Wt} (hx : x ∈ ws) : noW x.1 ws = some x := by
  induction ws with
  | nil => cases hx
  | cons y ws ih =>
    rw [List.map_cons, List.nodup_cons] at hn
    unfold noW at ih ⊢
    rcases List.mem_cons.1 hx with rfl | hx
    · rw [List.find?_cons_of_pos (by simp)]
    · rw [List.find?_cons_of_neg (by
        simp only [decide_eq_true_eq]
        intro he
        exact hn.1 (he ▸ List.mem_map_of_mem hx))]
      exact ih hn.2 hx
theorem noW_some {ws : List Wt} {k : Vec 32} {x : Wt} (h : noW k ws = some x) : x ∈ ws ∧ x.1 = k := by
  unfold noW at h
  exact ⟨List.mem_of_find?_eq_some h, by have h2 := List.find?_some h; simpa using h2⟩
theorem noW_isSome {ws : List Wt} {k : Vec 32} : (noW k ws).isSome = true ↔ k ∈ ws.map (·.1) := by
  unfold noW
  rw [List.find?_isSome, List.mem_map]
  constructor
  · rintro ⟨x, hx, h⟩; exact ⟨x, hx, of_decide_eq_true h⟩
  · rintro ⟨x, hx, h⟩; exact ⟨x, hx, decide_eq_true h⟩
/-- If all that waits waits for something that waits, and each way up ends, nothing waits. -/
theorem none_left {ws0 ws : List Wt} (hn : (ws0.map (·.1)).Nodup) (hsub : ∀ x ∈ ws, x ∈ ws0) (he : ∀ x ∈ ws, Ends ws0 x.1) (hp : ∀ x ∈ ws, (noW x.2.1.p ws).isSome = true) : ws = [] := by
  cases ws with
  | nil => rfl
  | cons x ws =>
    exfalso
    obtain ⟨n, hend⟩ := he x (List.mem_cons_self ..)
    have key : ∀ n, ∃ y ∈ x :: ws, y.1 = upN ws0 x.1 n := by
      intro n
      induction n with
      | zero => exact ⟨x, List.mem_cons_self .., rfl⟩
      | succ n ih =>
        obtain ⟨y, hy, hyn⟩ := ih
        have h1 := hp y hy
        obtain ⟨z, hz⟩ := Option.isSome_iff_exists.1 h1
        have hz' := noW_some hz
        refine ⟨z, hz'.1, ?_⟩
        show z.1 = upW ws0 (upN ws0 x.1 n)
        unfold upW gotW
        rw [← hyn, noW_mem hn (hsub y hy)]
        exact hz'.2
    obtain ⟨y, hy, hyn⟩ := key n
    rw [← hyn, noW_mem hn (hsub y hy)] at hend
    cases hend
theorem wantS_sub {ws : List Wt} {out : List (Vec 32)} {k x : Vec 32} (h : x ∈ wantS ws out k) : x ∈ out ∨ x = k := by
  unfold wantS at h
  split at h
  · exact .inl h
  · simpa using h
theorem want_sub (ws : List Wt) : ∀ (l out : List (Vec 32)) (x : Vec 32), x ∈ l.foldl (wantS ws) out → x ∈ out ∨ x ∈ l
  | [], out, x, h => .inl h
  | k :: l, out, x, h => by
    rcases want_sub ws l (wantS ws out k) x h with h | h
    · rcases wantS_sub h with h | h
      · exact .inl h
      · exact .inr (by rw [h]; exact List.mem_cons_self ..)
    · exact .inr (List.mem_cons_of_mem _ h)
theorem want_nil (ws : List Wt) : ∀ (l out : List (Vec 32)), l.foldl (wantS ws) out = [] → out = [] ∧ ∀ k ∈ l, (noW k ws).isSome = true
  | [], out, h => ⟨h, fun k hk => by cases hk⟩
  | a :: l, out, h => by
    obtain ⟨h1, h2⟩ := want_nil ws l (wantS ws out a) h
    unfold wantS at h1
    split at h1
    · rename_i hc
      refine ⟨h1, fun k hk => ?_⟩
      rcases List.mem_cons.1 hk with rfl | hk
      · rcases hc with hc | hc
        · exact hc
        · rw [h1] at hc; cases hc
      · exact h2 k hk
    · simp at h1
/-- What is wanted waits for something. -/
theorem wanted_mem {ws : List Wt} {vs : List (Int × Int × Vec 32 × Vec 32)} {k : Vec 32} (h : k ∈ wantedOf ws vs) : (∃ x ∈ ws, x.2.1.p = k) ∨ ∃ v ∈ vs, v.2.2.1 = k := by
  unfold wantedOf at h
  rcases want_sub _ _ _ _ h with h | h
  · rcases want_sub _ _ _ _ h with h | h
    · cases h
    · obtain ⟨x, hx, h⟩ := List.mem_map.1 h
      exact .inl ⟨x, hx, h⟩
  · obtain ⟨x, hx, h⟩ := List.mem_map.1 h
    exact .inr ⟨x, hx, h⟩
/-- If nothing is wanted, and each way up ends, nothing waits. -/
theorem wanted_left {ws0 ws : List Wt} {vs : List (Int × Int × Vec 32 × Vec 32)} (hn : (ws0.map (·.1)).Nodup) (hsub : ∀ x ∈ ws, x ∈ ws0) (he : ∀ x ∈ ws, Ends ws0 x.1) (h : wantedOf ws vs = []) : ws = [] ∧ vs = [] := by
  unfold wantedOf at h
  obtain ⟨h1, h2⟩ := want_nil _ _ _ h
  obtain ⟨_, h3⟩ := want_nil _ _ _ h1
  have e := none_left hn hsub he fun x hx => h3 _ (List.mem_map_of_mem (f := fun x : Wt => x.2.1.p) hx)
  refine ⟨e, ?_⟩
  cases vs with
  | nil => rfl
  | cons v vs =>
    have := h2 v.2.2.1 (by simp)
    rw [e] at this
    cases this
theorem wanted_nn : wantedOf [] [] = [] := rfl
section
variable {w0 w w' : World} {As : List Asn} {g : Nat} {bv vv : Value} {rb rv : Int} {ws : List Wt} {vs : List (Int × Int × Vec 32 × Vec 32)}
end
end Go.Fx
set_option linter.unusedVariables false
set_option linter.unusedSimpArgs false
namespace Go.Fx
theorem Rows'.ldBo {w : World} {v : Value} {l : List Bool} {j : Nat} {a : Bool} (hr : Rows' rBool w.heap v l) (hj : l[j]? = some a) (k : IntKind) {K : Value → Prop} (h : K (.bool a)) : ixs 1 v (.int k (j : Int)) fun t => Go.Fx.ld1 t w.heap K := by
  obtain ⟨g, o, ha, hx⟩ := hr.ix (by decide) hj
  have hx' : ∀ K, ixs 1 v (.int k (j : Int)) K = K (.pointer (some ⟨g, o, none⟩)) := hx k
  rw [hx', At.ld1 (v := .bool a) ha]
  exact h
/-- What is known of what waits, and of the names. -/
structure HI (ws : List Wt) (ids : List (Vec 32)) (hts : List Int) : Prop where
  nd : (ws.map (·.1)).Nodup
  ok : ∀ x ∈ ws, x.2.1.chk = 0 ∧ x.1 = x.2.1.id ∧ x.2.1.h ≤ maxI
  mem : ∀ x ∈ ws, x.1 ∈ ids
  hl : hts.length = ids.length
  h0 : 0 < ids.length
  hp : ∀ y ∈ hts, 0 ≤ y
theorem HI.sm {ws : List Wt} {ids : List (Vec 32)} {hts : List Int} (h : HI ws ids hts) : ∀ x ∈ ws, x.2.1.d.length ≤ 200 := fun x hx => chk0_len (h.ok x hx).1
theorem HI.start : HI [] [m77] [3] := ⟨by simp, (fun x hx => by cases hx), (fun x hx => by cases hx), rfl, by simp, fun y hy => by simp at hy; omega⟩
theorem HI.name {ws : List Wt} {ids : List (Vec 32)} {hts : List Int} (h : HI ws ids hts) (b : Blk) : HI ws (addI ids b) (addH hts b) := by
  unfold addI addH
  by_cases hb : b.chk = 0
  · rw [if_pos hb, if_pos hb]
    refine ⟨h.nd, h.ok, fun x hx => List.mem_append_left _ (h.mem x hx), by rw [List.length_append, List.length_append, h.hl]; rfl, by rw [List.length_append]; have := h.h0; omega, fun y hy => ?_⟩
    rcases List.mem_append.1 hy with hy | hy
    · exact h.hp y hy
    · rw [List.mem_singleton.1 hy]; exact chk0_h hb
  · rw [if_neg hb, if_neg hb]
    exact h
theorem blkE0 {rb : Int} {ws : List Wt} {b : Blk} (h : blkE rb ws b = 0) : b.chk = 0 ∧ b.id ∉ ws.map (·.1) ∧ (ws.length : Int) < rb := by
  unfold blkE at h
  split at h
  · rename_i h1; exact absurd h h1
  rename_i h1
  split at h
  · cases h
  rename_i h2
  split at h
  · cases h
  rename_i h3
  exact ⟨Decidable.not_not.1 h1, fun hm => h2 (noW_isSome.2 hm), by omega⟩
theorem HI.block {ws : List Wt} {ids : List (Vec 32)} {hts : List Int} {rb : Int} {b : Blk} {v : Value} (h : HI ws (addI ids b) hts) (hb : blkE rb ws b = 0) (hh : b.h ≤ maxI) : HI (ws ++ [(b.id, b, v)]) (addI ids b) hts := by
  obtain ⟨h1, h2, _⟩ := blkE0 hb
  refine ⟨?_, fun x hx => ?_, fun x hx => ?_, h.hl, h.h0, h.hp⟩
  · rw [List.map_append, List.nodup_append]
    refine ⟨h.nd, by simp, fun x hx y hy he => ?_⟩
    simp only [List.map_cons, List.map_nil, List.mem_singleton] at hy
    exact h2 (hy ▸ he ▸ hx)
  · rcases List.mem_append.1 hx with hx | hx
    · exact h.ok x hx
    · rw [List.mem_singleton.1 hx]; exact ⟨h1, rfl, hh⟩
  · rcases List.mem_append.1 hx with hx | hx
    · exact h.mem x hx
    · rw [List.mem_singleton.1 hx]
      unfold addI
      rw [if_pos h1]
      simp
theorem addI_len (ids : List (Vec 32)) (b : Blk) : (addI ids b).length ≤ ids.length + 1 := by
  unfold addI
  split
  · simp
  · omega
theorem DatW.app {ws : List Wt} {E : List Asn} {k : Vec 32} {b : Blk} {v : Value} (h : DatW ws E) : DatW (ws ++ [(k, b, v)]) (ownB v b.d :: E) := fun x hx => by
  rcases List.mem_append.1 hx with hx | hx
  · exact List.mem_cons_of_mem _ (h x hx)
  · rw [List.mem_singleton.1 hx]; exact List.mem_cons_self ..
/-- Behind n acts. -/
def ESt (w z : World) (g : Nat) (rb rv : Int) (gx : Nat) (rp : Value) (n : Nat) : Prop :=
  ∃ bv vv xv yv ws vs ids hts E, HI ws ids hts ∧ ws.length + vs.length ≤ n ∧ ids.length ≤ n + 1 ∧ DatW ws E ∧ Sep w z (hdH g bv vv rb rv ws vs ++ (nmB gx (.pointer (some ⟨g, 0, none⟩)) rp xv yv :: rows (rVec 32) xv ids :: rows (rInt .i64) yv hts :: E))
theorem len_splitH {α : Type} (p : α → Bool) : ∀ l : List α, (l.filter p).length + (l.filter fun x => !p x).length = l.length
  | [] => rfl
  | a :: l => by
    have ih := len_splitH p l
    rw [List.filter_cons, List.filter_cons]
    cases h : p a <;> simp [h] <;> omega
theorem len_pos {α : Type} {p : α → Bool} {a : α} (hp : p a = true) {l : List α} (h : a ∈ l) : 0 < (l.filter p).length := List.length_pos_of_mem (List.mem_filter.2 ⟨h, hp⟩)
theorem out_lt {ws : List Wt} {vs : List (Int × Int × Vec 32 × Vec 32)} {k : Vec 32} (p : Vec 32 → Bool) (hk : k ∈ wantedOf ws vs) (hp : p k = true) : (ws.filter fun x => !p x.2.1.p).length + (vs.filter fun x => !p x.2.2.1).length < ws.length + vs.length := by
  have h1 := len_splitH (fun x : Wt => p x.2.1.p) ws
  have h2 := len_splitH (fun x : Int × Int × Vec 32 × Vec 32 => p x.2.2.1) vs
  rcases wanted_mem hk with ⟨x, hx, he⟩ | ⟨x, hx, he⟩
  · have := len_pos (p := fun x : Wt => p x.2.1.p) (a := x) (by rw [he]; exact hp) hx
    omega
  · have := len_pos (p := fun x : Int × Int × Vec 32 × Vec 32 => p x.2.2.1) (a := x) (by rw [he]; exact hp) hx
    omega
theorem out_le (ws : List Wt) (vs : List (Int × Int × Vec 32 × Vec 32)) (p : Vec 32 → Bool) : (ws.filter fun x => !p x.2.1.p).length + (vs.filter fun x => !p x.2.2.1).length ≤ ws.length + vs.length := by
  have h1 := len_splitH (fun x : Wt => p x.2.1.p) ws
  have h2 := len_splitH (fun x : Int × Int × Vec 32 × Vec 32 => p x.2.2.1) vs
  omega
theorem lost_has {ws : List Wt} {k : Vec 32} {L : List (Vec 32)} (h : LostIs ws k L) : k ∈ L := by
  obtain ⟨hf, n, rfl⟩ := h
  clear hf
  have grow : ∀ (l : List Wt) (L : List (Vec 32)), k ∈ L → k ∈ l.foldl lostS L := by
    intro l
    induction l with
    | nil => intro L h; exact h
    | cons a l ih =>
      intro L h
      rw [List.foldl_cons]
      refine ih _ ?_
      unfold lostS
      split
      · exact List.mem_append_left _ h
      · exact h
  induction n with
  | zero => exact List.mem_cons_self ..
  | succ n ih => exact grow ws _ ih
section
variable {w0 w : World} {As : List Asn}
end
end Go.Fx
set_option linter.unusedVariables false
set_option linter.unusedSimpArgs false
namespace Go.Fx
structure RhR (h : Heap) (g : Nat) (bv vv : Value) (rb rv : Int) (ws : List Wt) (vs : List (Int × Int × Vec 32 × Vec 32)) : Prop where
  cell : ∃ T fr, h[g]? = some (.cells (Rdr.cells Q_flurryref23_Hold (rb, rv, bv, vv)).toArray T fr)
  bw : Rows' Q_flurryref23_Node h bv (ws.map Wt.c)
  vw : Rows' Q_api_HeldVote h vv vs
  dat : ∀ x ∈ ws, RdB h x.2.2 x.2.1.d
def rhH (g : Nat) (bv vv : Value) (rb rv : Int) (ws : List Wt) (vs : List (Int × Int × Vec 32 × Vec 32)) : List Asn :=
  [blk g (Rdr.cells Q_flurryref23_Hold (rb, rv, bv, vv)).toArray T_flurryref23_Hold, rows Q_flurryref23_Node bv (ws.map Wt.c), rows Q_api_HeldVote vv vs]
section
variable {w0 w w' : World} {As : List Asn} {g : Nat} {bv vv : Value} {rb rv : Int} {ws : List Wt} {vs : List (Int × Int × Vec 32 × Vec 32)}
theorem RhR.fr (h : RhR w.heap g bv vv rb rv ws vs) (hf : Fr [] w w') : RhR w'.heap g bv vv rb rv ws vs := by
  obtain ⟨⟨T, fr, hc⟩, h2, h3, h4⟩ := h
  exact ⟨⟨T, fr, hf.blk hc (by simp)⟩, h2.fr hf, h3.fr hf, fun x hx => (h4 x hx).fr hf (off_nil _)⟩
theorem Sep.rh (h : Sep w0 w As) (hr : RhR w0.heap g bv vv rb rv ws vs) : RhR w.heap g bv vv rb rv ws vs := hr.fr h.1
theorem rhH_rd (h : Sep w0 w (rhH g bv vv rb rv ws vs ++ As)) (hd : DatW ws As) : RhR w.heap g bv vv rb rv ws vs :=
  ⟨⟨_, _, Sep.blk h⟩, Sep.rows (Sep.tail h), Sep.rows (Sep.tail (Sep.tail h)), fun x hx => by
    obtain ⟨As1, As2, rfl⟩ := List.append_of_mem (hd x hx)
    exact Sep.rd (Sep.mid (Sep.tail (Sep.tail (Sep.tail h))))⟩
theorem RhR.lenB (hr : RhR w.heap g bv vv rb rv ws vs) (K : Value → Prop) : lenS bv K = K (.int .i64 ws.length) := by
  have := hr.bw.len K
  rwa [List.length_map] at this
theorem RhR.ix (hr : RhR w.heap g bv vv rb rv ws vs) {i : Nat} {x : Wt} (hi : ws[i]? = some x) : ∃ g2 o, At w.heap g2 o (Rdr.cells Q_flurryref23_Node x.c) ∧ ∀ (k : IntKind) (K : Value → Prop), ixs 66 bv (.int k (i : Int)) K = K (.pointer (some ⟨g2, o, none⟩)) := by
  have h1 : (ws.map Wt.c)[i]? = some x.c := by rw [List.getElem?_map, hi]; rfl
  exact Rows'.ix (q := Q_flurryref23_Node) (by decide) hr.bw h1
theorem RhR.ixV (hr : RhR w.heap g bv vv rb rv ws vs) {i : Nat} {x : Int × Int × Vec 32 × Vec 32} (hi : vs[i]? = some x) : ∃ g2 o, At w.heap g2 o (Rdr.cells Q_api_HeldVote x) ∧ ∀ (k : IntKind) (K : Value → Prop), ixs 66 vv (.int k (i : Int)) K = K (.pointer (some ⟨g2, o, none⟩)) :=
  Rows'.ix (q := Q_api_HeldVote) (by decide) hr.vw hi
theorem rhas_spec {v : Value} {l : List (Vec 32)} (hv : Rows' (rVec 32) w.heap v l) (hl : l.length ≤ 1000000) (k : Vec 32) : cal P f_ref23_has [v, kv k] w fun r w' => r = .bool (decide (k ∈ l)) ∧ Fr [] w w' := by
  refine s_ref23_has fun R hR => ?_
  unfold c_ref23_has
  refine bxQ (Sep.start w) fun g3 w1 hs1 => ?_
  simp only [hv.len]
  refine ⟨fun y z => ∃ i : Nat, y = .int .i64 i ∧ i ≤ l.length ∧ k ∉ l.take i ∧ Sep w z [blk g3 (Rdr.cells (rVec 32) k).toArray T_api_ID], fun y _ => (l.length - RowKit.intOf y).toNat, ⟨0, rfl, by omega, by simp, hs1⟩, ?_⟩
  rintro _ w2 ⟨i, rfl, hi, hno, hs2⟩ -
  simp only [nilc_some, fad_mk, pik_true, pik_false, cnd_true, cnd_false, gif_same, gif_tf, gif_ft, gif_undef, bi_add, bi_sub, bi_mul, bi_eql, bi_neq, bi_lss, bi_leq, bi_gtr, bi_geq, notB_bool, cvi_int, lenS_mk, lenT_mk, ext0, ext1, ext2, nilP_mk, nilS_mk, fldv_agg, jn0_k, jn1_k, jn2_k, jn1_and, jn1_or, ex_some, Option.isNone_some, Option.isNone_none, Bool.false_bne, Bool.bne_true, Bool.bne_false, Bool.true_bne, Bool.not_true, Bool.not_false, Bool.and_true, Bool.true_and, Bool.and_false, Bool.false_and, Bool.or_true, Bool.true_or, Bool.or_false, Bool.false_or, cond_true, cond_false, List.getElem?_toArray, List.getElem?_cons_zero, List.getElem?_cons_succ, Nat.zero_add, Nat.add_zero, Nat.reduceAdd, forall_const]
  rw [cnd_bool]
  refine ⟨fun h => ?_, fun h => ?_⟩
  · have hlt : i < l.length := by simp at h; omega
    obtain ⟨x, hx⟩ : ∃ x, l[i]? = some x := ⟨_, List.getElem?_eq_getElem hlt⟩
    refine drw_s hs2 fun w3 hs3 _ => ?_
    simp only [L_api_ID hs3.blk]
    change ixs 32 _ _ _
    refine Rows'.ldN (q := rVec 32) (by decide) (hv.fr hs3.fr0) hx .i64 ?_
    rw [eq_api_ID, cnd_bool]
    refine ⟨fun h => ?_, fun h => ?_⟩
    · have h : x = k := of_decide_eq_true h
      exact hR _ _ ⟨by rw [decide_eq_true (h ▸ List.mem_of_getElem? hx)], hs3.fr0⟩
    · have h : ¬ x = k := of_decide_eq_false h
      rw [wi64 (by omega) (by omega)]
      refine ⟨⟨i + 1, by simp, by omega, fun hm => ?_, hs3⟩, by simp [RowKit.intOf]; omega⟩
      rw [List.take_add_one, hx] at hm
      rcases List.mem_append.1 hm with hm | hm
      · exact hno hm
      · exact h (by simpa using hm : k = x).symm
  · have hge : i = l.length := by simp at h; omega
    rw [hge, List.take_of_length_le (Nat.le_refl _)] at hno
    exact hR _ _ ⟨by rw [decide_eq_false hno], hs2.fr0⟩
theorem rhNew_spec (a b : Int) : cal P f_ref23_New [.int .i64 a, .int .i64 b] w fun r w' => (¬ (1 ≤ a ∧ a ≤ 256 ∧ 1 ≤ b ∧ b ≤ 256) ∧ r = .tuple #[.pointer none, .int .i64 1] ∧ Fr [] w w') ∨
    ((1 ≤ a ∧ a ≤ 256 ∧ 1 ≤ b ∧ b ≤ 256) ∧ ∃ g, r = .tuple #[.pointer (some ⟨g, 0, none⟩), .int .i64 0] ∧ Sep w w' (rhH g (.slice none 0 0) (.slice none 0 0) a b [] [])) := by
  refine s_ref23_New fun R hR => ?_
  unfold c_ref23_New
  simp only [nilc_some, fad_mk, pik_true, pik_false, cnd_true, cnd_false, gif_same, gif_tf, gif_ft, gif_undef, bi_add, bi_sub, bi_mul, bi_eql, bi_neq, bi_lss, bi_leq, bi_gtr, bi_geq, notB_bool, cvi_int, lenS_mk, lenT_mk, ext0, ext1, ext2, nilP_mk, nilS_mk, fldv_agg, jn0_k, jn1_k, jn2_k, jn1_and, jn1_or, ex_some, Option.isNone_some, Option.isNone_none, Bool.false_bne, Bool.bne_true, Bool.bne_false, Bool.true_bne, Bool.not_true, Bool.not_false, Bool.and_true, Bool.true_and, Bool.and_false, Bool.false_and, Bool.or_true, Bool.true_or, Bool.or_false, Bool.false_or, cond_true, cond_false, List.getElem?_toArray, List.getElem?_cons_zero, List.getElem?_cons_succ, Nat.zero_add, Nat.add_zero, Nat.reduceAdd, forall_const]
  rw [cnd_bool]
  refine ⟨fun hc => ?_, fun hc => ?_⟩
  · simp only [Bool.or_eq_true, decide_eq_true_eq] at hc
    exact hR _ _ (.inl ⟨by omega, rfl, Fr.refl _ _⟩)
  simp only [Bool.or_eq_false_iff, decide_eq_false_iff_not] at hc
  rw [B_flurryref23_Hold_0_1]
  refine bxQ (Sep.start w) fun g w1 hs1 => ?_
  refine hR _ _ (.inr ⟨by omega, g, rfl, ?_⟩)
  exact Sep.pick ((hs1.nilR (q := Q_flurryref23_Node)).nilR (q := Q_api_HeldVote)) [2, 1, 0] 3
theorem rhGet_spec (hr : RhR w.heap g bv vv rb rv ws vs) (hn : ws.length ≤ 1000000) (k : Vec 32) :
    cal P f_ref23_Hold_Get [.pointer (some ⟨g, 0, none⟩), kv k] w fun r w' => r = .tuple #[bq (gotW k ws).1 (gotW k ws).2, .int .i64 (if (noW k ws).isSome then 0 else 4)] ∧ Fr [] w w' := by
  refine s_ref23_Hold_Get fun R hR => ?_
  unfold c_ref23_Hold_Get
  refine bxQ (Sep.start w) fun g3 w1 hs1 => ?_
  refine alloc_s hs1 (A_api_Block w1) fun g4 w2 hs2 => ?_
  refine ⟨fun y z => ∃ i : Nat, y = .int .i64 i ∧ i ≤ ws.length ∧ noW k (ws.take i) = none ∧ Sep w z [blk g4 (Rdr.cells Q_api_Block (vz 32, (0 : Int), .slice none 0 0)).toArray T_api_Block, blk g3 (Rdr.cells (rVec 32) k).toArray T_api_ID], fun y _ => (ws.length - RowKit.intOf y).toNat, ⟨0, rfl, by omega, rfl, hs2⟩, ?_⟩
  rintro _ w3 ⟨i, rfl, hi, hno, hs3⟩ -
  have hr3 := hs3.rh hr
  obtain ⟨T, fr, hc⟩ := hr3.cell
  simp only [nilc_some, fad_mk, pik_true, pik_false, cnd_true, cnd_false, gif_same, gif_tf, gif_ft, gif_undef, bi_add, bi_sub, bi_mul, bi_eql, bi_neq, bi_lss, bi_leq, bi_gtr, bi_geq, notB_bool, cvi_int, lenS_mk, lenT_mk, ext0, ext1, ext2, nilP_mk, nilS_mk, fldv_agg, jn0_k, jn1_k, jn2_k, jn1_and, jn1_or, ex_some, Option.isNone_some, Option.isNone_none, Bool.false_bne, Bool.bne_true, Bool.bne_false, Bool.true_bne, Bool.not_true, Bool.not_false, Bool.and_true, Bool.true_and, Bool.and_false, Bool.false_and, Bool.or_true, Bool.true_or, Bool.or_false, Bool.false_or, cond_true, cond_false, List.getElem?_toArray, List.getElem?_cons_zero, List.getElem?_cons_succ, Nat.zero_add, Nat.add_zero, Nat.reduceAdd, forall_const, L_flurryref23_Hold hc, L_flurryref23_Hold__MaxB hc, L_flurryref23_Hold__MaxV hc, L_flurryref23_Hold__B hc, L_flurryref23_Hold__V hc, hr3.lenB]
  rw [cnd_bool]
  refine ⟨fun h => ?_, fun h => ?_⟩
  · have hlt : i < ws.length := by simp at h; omega
    obtain ⟨x, hx⟩ : ∃ x, ws[i]? = some x := ⟨_, List.getElem?_eq_getElem hlt⟩
    have hxm := List.mem_of_getElem? hx
    refine drw_s hs3 fun w4 hs4 _ => ?_
    have hr4 := hs4.rh hr
    obtain ⟨T, fr, hc⟩ := hr4.cell
    obtain ⟨g2, o, ha, hix⟩ := hr4.ix hx
    simp only [nilc_some, fad_mk, pik_true, pik_false, cnd_true, cnd_false, gif_same, gif_tf, gif_ft, gif_undef, bi_add, bi_sub, bi_mul, bi_eql, bi_neq, bi_lss, bi_leq, bi_gtr, bi_geq, notB_bool, cvi_int, lenS_mk, lenT_mk, ext0, ext1, ext2, nilP_mk, nilS_mk, fldv_agg, jn0_k, jn1_k, jn2_k, jn1_and, jn1_or, ex_some, Option.isNone_some, Option.isNone_none, Bool.false_bne, Bool.bne_true, Bool.bne_false, Bool.true_bne, Bool.not_true, Bool.not_false, Bool.and_true, Bool.true_and, Bool.and_false, Bool.false_and, Bool.or_true, Bool.true_or, Bool.or_false, Bool.false_or, cond_true, cond_false, List.getElem?_toArray, List.getElem?_cons_zero, List.getElem?_cons_succ, Nat.zero_add, Nat.add_zero, Nat.reduceAdd, forall_const, L_flurryref23_Hold hc, L_flurryref23_Hold__MaxB hc, L_flurryref23_Hold__MaxV hc, L_flurryref23_Hold__B hc, L_flurryref23_Hold__V hc, hix, LA_flurryref23_Node__ID ha, LA_flurryref23_Node__B ha, L_api_ID (Sep.blk hs4.p1), eq_api_ID]
    rw [cnd_bool]
    refine ⟨fun h => ?_, fun h => ?_⟩
    · have h : x.1 = k := of_decide_eq_true h
      have hf := noW_hit hno hx h
      refine St_api_Block (b := (x.2.1.p, x.2.1.h, x.2.2)) hs4 (one_api_Block (hr4.dat x hxm).one) fun w5 hs5 => ?_
      simp only [L_api_Block hs5.blk, L_api_Block__Parent hs5.blk, L_api_Block__Height hs5.blk, L_api_Block__Data hs5.blk]
      refine hR _ _ ⟨?_, hs5.fr0⟩
      unfold gotW
      rw [hf]
      rfl
    · have h : ¬ x.1 = k := of_decide_eq_false h
      rw [wi64 (by omega) (by omega)]
      exact ⟨⟨i + 1, by simp, by omega, by rw [noW_take hno hx, if_neg h], hs4⟩, by simp [RowKit.intOf]; omega⟩
  · have hge : i = ws.length := by simp at h; omega
    rw [hge, List.take_of_length_le (Nat.le_refl _)] at hno
    rw [B_api_Block]
    refine St_api_Block hs3 (one_api_Block rfl) fun w4 hs4 => ?_
    simp only [L_api_Block hs4.blk, L_api_Block__Parent hs4.blk, L_api_Block__Height hs4.blk, L_api_Block__Data hs4.blk]
    refine hR _ _ ⟨?_, hs4.fr0⟩
    unfold gotW
    rw [hno]
    rfl
theorem gotW_one (hr : RhR w.heap g bv vv rb rv ws vs) (k : Vec 32) : (gotW k ws).2.oneCell' = true := by
  unfold gotW
  cases h : noW k ws with
  | none => rfl
  | some x => exact (hr.dat x (noW_some h).1).one
theorem rhHas_spec (hr : RhR w.heap g bv vv rb rv ws vs) (hn : ws.length ≤ 1000000) (k : Vec 32) :
    cal P f_ref23_Hold_Has [.pointer (some ⟨g, 0, none⟩), kv k] w fun r w' => r = .bool (noW k ws).isSome ∧ Fr [] w w' := by
  refine s_ref23_Hold_Has fun R hR => ?_
  unfold c_ref23_Hold_Has
  refine bxQ (Sep.start w) fun g3 w1 hs1 => ?_
  simp only [L_api_ID hs1.blk]
  refine cal_i (rhGet_spec (hs1.rh hr) hn k) ?_
  rintro _ w2 ⟨rfl, hf2⟩
  have hs2 := hs1.old hf2
  simp only [nilc_some, fad_mk, pik_true, pik_false, cnd_true, cnd_false, gif_same, gif_tf, gif_ft, gif_undef, bi_add, bi_sub, bi_mul, bi_eql, bi_neq, bi_lss, bi_leq, bi_gtr, bi_geq, notB_bool, cvi_int, lenS_mk, lenT_mk, ext0, ext1, ext2, nilP_mk, nilS_mk, fldv_agg, jn0_k, jn1_k, jn2_k, jn1_and, jn1_or, ex_some, Option.isNone_some, Option.isNone_none, Bool.false_bne, Bool.bne_true, Bool.bne_false, Bool.true_bne, Bool.not_true, Bool.not_false, Bool.and_true, Bool.true_and, Bool.and_false, Bool.false_and, Bool.or_true, Bool.true_or, Bool.or_false, Bool.false_or, cond_true, cond_false, List.getElem?_toArray, List.getElem?_cons_zero, List.getElem?_cons_succ, Nat.zero_add, Nat.add_zero, Nat.reduceAdd, forall_const]
  refine alloc_s hs2 (A_api_Block w2) fun g5 w3 hs3 => ?_
  refine St_api_Block hs3 (one_api_Block (gotW_one hr k)) fun w4 hs4 => ?_
  refine hR _ _ ⟨?_, hs4.fr0⟩
  cases noW k ws <;> rfl
theorem rhVotes_spec {p : Int} (hr : RhR w.heap g bv vv rb rv ws vs) (hnv : vs.length ≤ 1000000) :
    cal P f_ref23_Hold_Votes [.pointer (some ⟨g, 0, none⟩), .int .i64 p] w fun r w' => r = .int .i64 (vs.filter fun x => decide (x.1 = p)).length ∧ Fr [] w w' := by
  refine s_ref23_Hold_Votes fun R hR => ?_
  unfold c_ref23_Hold_Votes
  refine ⟨fun x y z => ∃ i : Nat, x = .int .i64 ((vs.take i).filter fun x => decide (x.1 = p)).length ∧ y = .int .i64 i ∧ i ≤ vs.length ∧ Fr [] w z, fun _ y _ => (vs.length - RowKit.intOf y).toNat, ⟨0, rfl, rfl, by omega, Fr.refl _ _⟩, ?_⟩
  rintro _ _ w1 ⟨i, rfl, rfl, hi, hf⟩ -
  have hr1 := hr.fr hf
  obtain ⟨T, fr, hc⟩ := hr1.cell
  have hle : ((vs.take i).filter fun x => decide (x.1 = p)).length ≤ i := Nat.le_trans (List.length_filter_le _ _) (List.length_take_le _ _)
  simp only [nilc_some, fad_mk, pik_true, pik_false, cnd_true, cnd_false, gif_same, gif_tf, gif_ft, gif_undef, bi_add, bi_sub, bi_mul, bi_eql, bi_neq, bi_lss, bi_leq, bi_gtr, bi_geq, notB_bool, cvi_int, lenS_mk, lenT_mk, ext0, ext1, ext2, nilP_mk, nilS_mk, fldv_agg, jn0_k, jn1_k, jn2_k, jn1_and, jn1_or, ex_some, Option.isNone_some, Option.isNone_none, Bool.false_bne, Bool.bne_true, Bool.bne_false, Bool.true_bne, Bool.not_true, Bool.not_false, Bool.and_true, Bool.true_and, Bool.and_false, Bool.false_and, Bool.or_true, Bool.true_or, Bool.or_false, Bool.false_or, cond_true, cond_false, List.getElem?_toArray, List.getElem?_cons_zero, List.getElem?_cons_succ, Nat.zero_add, Nat.add_zero, Nat.reduceAdd, forall_const, L_flurryref23_Hold hc, L_flurryref23_Hold__MaxB hc, L_flurryref23_Hold__MaxV hc, L_flurryref23_Hold__B hc, L_flurryref23_Hold__V hc, hr1.vw.len]
  rw [cnd_bool]
  refine ⟨fun h => ?_, fun h => ?_⟩
  · have hlt : i < vs.length := by simp at h; omega
    obtain ⟨x, hx⟩ : ∃ x, vs[i]? = some x := ⟨_, List.getElem?_eq_getElem hlt⟩
    obtain ⟨g2, o, ha, hix⟩ := hr1.ixV hx
    have t1 : (vs.take (i + 1)).filter (fun x => decide (x.1 = p)) = (vs.take i).filter (fun x => decide (x.1 = p)) ++ (if decide (x.1 = p) = true then [x] else []) := by
      rw [List.take_add_one, hx, List.filter_append, filter_optH]
    refine ⟨fun y z => y = .int .i64 ((vs.take (i + 1)).filter fun x => decide (x.1 = p)).length ∧ Fr [] w z, ?_, ?_⟩
    · simp only [nilc_some, fad_mk, pik_true, pik_false, cnd_true, cnd_false, gif_same, gif_tf, gif_ft, gif_undef, bi_add, bi_sub, bi_mul, bi_eql, bi_neq, bi_lss, bi_leq, bi_gtr, bi_geq, notB_bool, cvi_int, lenS_mk, lenT_mk, ext0, ext1, ext2, nilP_mk, nilS_mk, fldv_agg, jn0_k, jn1_k, jn2_k, jn1_and, jn1_or, ex_some, Option.isNone_some, Option.isNone_none, Bool.false_bne, Bool.bne_true, Bool.bne_false, Bool.true_bne, Bool.not_true, Bool.not_false, Bool.and_true, Bool.true_and, Bool.and_false, Bool.false_and, Bool.or_true, Bool.true_or, Bool.or_false, Bool.false_or, cond_true, cond_false, List.getElem?_toArray, List.getElem?_cons_zero, List.getElem?_cons_succ, Nat.zero_add, Nat.add_zero, Nat.reduceAdd, forall_const, L_flurryref23_Hold hc, L_flurryref23_Hold__MaxB hc, L_flurryref23_Hold__MaxV hc, L_flurryref23_Hold__B hc, L_flurryref23_Hold__V hc, hix]
      rw [LA_api_HeldVote__Poll ha]
      simp only [nilc_some, fad_mk, pik_true, pik_false, cnd_true, cnd_false, gif_same, gif_tf, gif_ft, gif_undef, bi_add, bi_sub, bi_mul, bi_eql, bi_neq, bi_lss, bi_leq, bi_gtr, bi_geq, notB_bool, cvi_int, lenS_mk, lenT_mk, ext0, ext1, ext2, nilP_mk, nilS_mk, fldv_agg, jn0_k, jn1_k, jn2_k, jn1_and, jn1_or, ex_some, Option.isNone_some, Option.isNone_none, Bool.false_bne, Bool.bne_true, Bool.bne_false, Bool.true_bne, Bool.not_true, Bool.not_false, Bool.and_true, Bool.true_and, Bool.and_false, Bool.false_and, Bool.or_true, Bool.true_or, Bool.or_false, Bool.false_or, cond_true, cond_false, List.getElem?_toArray, List.getElem?_cons_zero, List.getElem?_cons_succ, Nat.zero_add, Nat.add_zero, Nat.reduceAdd, forall_const]
      rw [cnd_bool, t1]
      refine ⟨fun h => ?_, fun h => ?_⟩
      · have h : x.1 = p := by simpa using h
        rw [wi64 (by omega) (by omega), if_pos (by simpa using h)]
        exact ⟨by simp, hf⟩
      · have h : ¬ x.1 = p := by simpa using h
        rw [if_neg (by simpa using h)]
        exact ⟨by simp, hf⟩
    · rintro _ w2 ⟨rfl, hf2⟩ _
      rw [wi64 (by omega) (by omega)]
      exact ⟨⟨i + 1, rfl, by simp, by omega, hf2⟩, by simp [RowKit.intOf]; omega⟩
  · have hge : i = vs.length := by simp at h; omega
    rw [hge, List.take_of_length_le (Nat.le_refl _)]
    exact hR _ _ ⟨rfl, hf⟩
theorem rhWants_spec (hr : RhR w.heap g bv vv rb rv ws vs) (hn : ws.length ≤ 1000000) (hnv : vs.length ≤ 1000000) (k : Vec 32) :
    cal P f_ref23_Hold_Wants [.pointer (some ⟨g, 0, none⟩), kv k] w fun r w' => r = .bool ((ws.any fun x => decide (x.2.1.p = k)) || vs.any fun x => decide (x.2.2.1 = k)) ∧ Fr [] w w' := by
  refine s_ref23_Hold_Wants fun R hR => ?_
  unfold c_ref23_Hold_Wants
  refine bxQ (Sep.start w) fun g3 w1 hs1 => ?_
  refine ⟨fun y z => ∃ i : Nat, y = .int .i64 i ∧ i ≤ ws.length ∧ ((ws.take i).any fun x => decide (x.2.1.p = k)) = false ∧ Sep w z [blk g3 (Rdr.cells (rVec 32) k).toArray T_api_ID], fun y _ => (ws.length - RowKit.intOf y).toNat, ⟨0, rfl, by omega, rfl, hs1⟩, ?_⟩
  rintro _ w2 ⟨i, rfl, hi, hno, hs2⟩ -
  have hr2 := hs2.rh hr
  obtain ⟨T, fr, hc⟩ := hr2.cell
  simp only [nilc_some, fad_mk, pik_true, pik_false, cnd_true, cnd_false, gif_same, gif_tf, gif_ft, gif_undef, bi_add, bi_sub, bi_mul, bi_eql, bi_neq, bi_lss, bi_leq, bi_gtr, bi_geq, notB_bool, cvi_int, lenS_mk, lenT_mk, ext0, ext1, ext2, nilP_mk, nilS_mk, fldv_agg, jn0_k, jn1_k, jn2_k, jn1_and, jn1_or, ex_some, Option.isNone_some, Option.isNone_none, Bool.false_bne, Bool.bne_true, Bool.bne_false, Bool.true_bne, Bool.not_true, Bool.not_false, Bool.and_true, Bool.true_and, Bool.and_false, Bool.false_and, Bool.or_true, Bool.true_or, Bool.or_false, Bool.false_or, cond_true, cond_false, List.getElem?_toArray, List.getElem?_cons_zero, List.getElem?_cons_succ, Nat.zero_add, Nat.add_zero, Nat.reduceAdd, forall_const, L_flurryref23_Hold hc, L_flurryref23_Hold__MaxB hc, L_flurryref23_Hold__MaxV hc, L_flurryref23_Hold__B hc, L_flurryref23_Hold__V hc, hr2.lenB]
  rw [cnd_bool]
  refine ⟨fun h => ?_, fun h => ?_⟩
  · have hlt : i < ws.length := by simp at h; omega
    obtain ⟨x, hx⟩ : ∃ x, ws[i]? = some x := ⟨_, List.getElem?_eq_getElem hlt⟩
    refine drw_s hs2 fun w3 hs3 _ => ?_
    have hr3 := hs3.rh hr
    obtain ⟨T, fr, hc⟩ := hr3.cell
    obtain ⟨g2, o, ha, hix⟩ := hr3.ix hx
    simp only [nilc_some, fad_mk, pik_true, pik_false, cnd_true, cnd_false, gif_same, gif_tf, gif_ft, gif_undef, bi_add, bi_sub, bi_mul, bi_eql, bi_neq, bi_lss, bi_leq, bi_gtr, bi_geq, notB_bool, cvi_int, lenS_mk, lenT_mk, ext0, ext1, ext2, nilP_mk, nilS_mk, fldv_agg, jn0_k, jn1_k, jn2_k, jn1_and, jn1_or, ex_some, Option.isNone_some, Option.isNone_none, Bool.false_bne, Bool.bne_true, Bool.bne_false, Bool.true_bne, Bool.not_true, Bool.not_false, Bool.and_true, Bool.true_and, Bool.and_false, Bool.false_and, Bool.or_true, Bool.true_or, Bool.or_false, Bool.false_or, cond_true, cond_false, List.getElem?_toArray, List.getElem?_cons_zero, List.getElem?_cons_succ, Nat.zero_add, Nat.add_zero, Nat.reduceAdd, forall_const, L_flurryref23_Hold hc, L_flurryref23_Hold__MaxB hc, L_flurryref23_Hold__MaxV hc, L_flurryref23_Hold__B hc, L_flurryref23_Hold__V hc, hix, LA_flurryref23_Node__B_Parent ha, L_api_ID hs3.blk, eq_api_ID]
    rw [cnd_bool]
    refine ⟨fun h => ?_, fun h => ?_⟩
    · have h : x.2.1.p = k := of_decide_eq_true h
      refine hR _ _ ⟨?_, hs3.fr0⟩
      rw [List.any_eq_true.2 ⟨x, List.mem_of_getElem? hx, decide_eq_true h⟩]
      rfl
    · have h : ¬ x.2.1.p = k := of_decide_eq_false h
      rw [wi64 (by omega) (by omega)]
      exact ⟨⟨i + 1, by simp, by omega, by rw [any_take hno hx]; exact decide_eq_false h, hs3⟩, by simp [RowKit.intOf]; omega⟩
  have hge : i = ws.length := by simp at h; omega
  rw [hge, List.take_of_length_le (Nat.le_refl _)] at hno
  rw [hno, Bool.false_or] at hR
  refine ⟨fun y z => ∃ i : Nat, y = .int .i64 i ∧ i ≤ vs.length ∧ ((vs.take i).any fun x => decide (x.2.2.1 = k)) = false ∧ Sep w z [blk g3 (Rdr.cells (rVec 32) k).toArray T_api_ID], fun y _ => (vs.length - RowKit.intOf y).toNat, ⟨0, rfl, by omega, rfl, hs2⟩, ?_⟩
  clear hs2 hr2 hc h hge hno hi hs1
  rintro _ w2 ⟨i, rfl, hi, hno, hs2⟩ -
  have hr2 := hs2.rh hr
  obtain ⟨T, fr, hc⟩ := hr2.cell
  simp only [nilc_some, fad_mk, pik_true, pik_false, cnd_true, cnd_false, gif_same, gif_tf, gif_ft, gif_undef, bi_add, bi_sub, bi_mul, bi_eql, bi_neq, bi_lss, bi_leq, bi_gtr, bi_geq, notB_bool, cvi_int, lenS_mk, lenT_mk, ext0, ext1, ext2, nilP_mk, nilS_mk, fldv_agg, jn0_k, jn1_k, jn2_k, jn1_and, jn1_or, ex_some, Option.isNone_some, Option.isNone_none, Bool.false_bne, Bool.bne_true, Bool.bne_false, Bool.true_bne, Bool.not_true, Bool.not_false, Bool.and_true, Bool.true_and, Bool.and_false, Bool.false_and, Bool.or_true, Bool.true_or, Bool.or_false, Bool.false_or, cond_true, cond_false, List.getElem?_toArray, List.getElem?_cons_zero, List.getElem?_cons_succ, Nat.zero_add, Nat.add_zero, Nat.reduceAdd, forall_const, L_flurryref23_Hold hc, L_flurryref23_Hold__MaxB hc, L_flurryref23_Hold__MaxV hc, L_flurryref23_Hold__B hc, L_flurryref23_Hold__V hc, hr2.vw.len]
  rw [cnd_bool]
  refine ⟨fun h => ?_, fun h => ?_⟩
  · have hlt : i < vs.length := by simp at h; omega
    obtain ⟨x, hx⟩ : ∃ x, vs[i]? = some x := ⟨_, List.getElem?_eq_getElem hlt⟩
    refine drw_s hs2 fun w3 hs3 _ => ?_
    have hr3 := hs3.rh hr
    obtain ⟨T, fr, hc⟩ := hr3.cell
    obtain ⟨g2, o, ha, hix⟩ := hr3.ixV hx
    simp only [nilc_some, fad_mk, pik_true, pik_false, cnd_true, cnd_false, gif_same, gif_tf, gif_ft, gif_undef, bi_add, bi_sub, bi_mul, bi_eql, bi_neq, bi_lss, bi_leq, bi_gtr, bi_geq, notB_bool, cvi_int, lenS_mk, lenT_mk, ext0, ext1, ext2, nilP_mk, nilS_mk, fldv_agg, jn0_k, jn1_k, jn2_k, jn1_and, jn1_or, ex_some, Option.isNone_some, Option.isNone_none, Bool.false_bne, Bool.bne_true, Bool.bne_false, Bool.true_bne, Bool.not_true, Bool.not_false, Bool.and_true, Bool.true_and, Bool.and_false, Bool.false_and, Bool.or_true, Bool.true_or, Bool.or_false, Bool.false_or, cond_true, cond_false, List.getElem?_toArray, List.getElem?_cons_zero, List.getElem?_cons_succ, Nat.zero_add, Nat.add_zero, Nat.reduceAdd, forall_const, L_flurryref23_Hold hc, L_flurryref23_Hold__MaxB hc, L_flurryref23_Hold__MaxV hc, L_flurryref23_Hold__B hc, L_flurryref23_Hold__V hc, hix, LA_api_HeldVote__Want ha, L_api_ID hs3.blk, eq_api_ID]
    rw [cnd_bool]
    refine ⟨fun h => ?_, fun h => ?_⟩
    · have h : x.2.2.1 = k := of_decide_eq_true h
      refine hR _ _ ⟨?_, hs3.fr0⟩
      rw [List.any_eq_true.2 ⟨x, List.mem_of_getElem? hx, decide_eq_true h⟩]
    · have h : ¬ x.2.2.1 = k := of_decide_eq_false h
      rw [wi64 (by omega) (by omega)]
      exact ⟨⟨i + 1, by simp, by omega, by rw [any_take hno hx]; exact decide_eq_false h, hs3⟩, by simp [RowKit.intOf]; omega⟩
  have hge : i = vs.length := by simp at h; omega
  rw [hge, List.take_of_length_le (Nat.le_refl _)] at hno
  exact hR _ _ ⟨by rw [hno], hs2.fr0⟩
theorem wanted_app (ws : List Wt) (vs : List (Int × Int × Vec 32 × Vec 32)) : wantedOf ws vs = (ws.map (·.2.1.p) ++ vs.map (·.2.2.1)).foldl (wantS ws) [] := by
  unfold wantedOf
  rw [List.foldl_append]
theorem rhWanted_spec (hr : RhR w.heap g bv vv rb rv ws vs) (hn : ws.length ≤ 300000) (hnv : vs.length ≤ 300000) :
    cal P f_ref23_Hold_Wanted [.pointer (some ⟨g, 0, none⟩)] w fun r w' => Sep w w' [rows (rVec 32) r (wantedOf ws vs)] := by
  refine s_ref23_Hold_Wanted fun R hR => ?_
  unfold c_ref23_Hold_Wanted
  obtain ⟨Ks, hKs⟩ : ∃ Ks, Ks = ws.map (·.2.1.p) ++ vs.map (·.2.2.1) := ⟨_, rfl⟩
  have hKl : Ks.length = ws.length + vs.length := by rw [hKs]; simp
  rw [wanted_app, ← hKs] at hR
  refine ⟨fun x y z => ∃ i : Nat, y = .int .i64 i ∧ i ≤ Ks.length ∧ Sep w z [rows (rVec 32) x ((Ks.take i).foldl (wantS ws) [])], fun _ y _ => (Ks.length - RowKit.intOf y).toNat, ⟨0, rfl, by omega, (Sep.start w).nilR⟩, ?_⟩
  rintro x _ w1 ⟨i, rfl, hi, hs1⟩ -
  refine drw_s hs1 fun w2 hs2 _ => ?_
  have hr2 := hs2.rh hr
  obtain ⟨T, fr, hc⟩ := hr2.cell
  simp only [nilc_some, fad_mk, pik_true, pik_false, cnd_true, cnd_false, gif_same, gif_tf, gif_ft, gif_undef, bi_add, bi_sub, bi_mul, bi_eql, bi_neq, bi_lss, bi_leq, bi_gtr, bi_geq, notB_bool, cvi_int, lenS_mk, lenT_mk, ext0, ext1, ext2, nilP_mk, nilS_mk, fldv_agg, jn0_k, jn1_k, jn2_k, jn1_and, jn1_or, ex_some, Option.isNone_some, Option.isNone_none, Bool.false_bne, Bool.bne_true, Bool.bne_false, Bool.true_bne, Bool.not_true, Bool.not_false, Bool.and_true, Bool.true_and, Bool.and_false, Bool.false_and, Bool.or_true, Bool.true_or, Bool.or_false, Bool.false_or, cond_true, cond_false, List.getElem?_toArray, List.getElem?_cons_zero, List.getElem?_cons_succ, Nat.zero_add, Nat.add_zero, Nat.reduceAdd, forall_const, L_flurryref23_Hold hc, L_flurryref23_Hold__MaxB hc, L_flurryref23_Hold__MaxV hc, L_flurryref23_Hold__B hc, L_flurryref23_Hold__V hc, hr2.lenB, hr2.vw.len]
  rw [wi64 (by omega) (by omega), cnd_bool]
  refine ⟨fun h => ?_, fun h => ?_⟩
  case refine_2 =>
    have hge : i = Ks.length := by simp at h; omega
    rw [hge, List.take_of_length_le (Nat.le_refl _)] at hs2
    exact hR _ _ hs2
  have hlt : i < Ks.length := by simp at h; omega
  obtain ⟨k, hk⟩ : ∃ k, Ks[i]? = some k := ⟨_, List.getElem?_eq_getElem hlt⟩
  have etk : (Ks.take (i + 1)).foldl (wantS ws) [] = wantS ws ((Ks.take i).foldl (wantS ws) []) k := by
    rw [List.take_add_one, hk, List.foldl_append]
    rfl
  have hol := want_len ws (Ks.take i) []
  rw [List.length_take, List.length_nil] at hol
  generalize (Ks.take i).foldl (wantS ws) [] = out at *
  refine ⟨fun y z => Sep w z [rows (rVec 32) y (wantS ws out k)], ?_, ?_⟩
  case refine_2 =>
    rintro y w3 hs3 _
    rw [wi64 (by omega) (by omega)]
    exact ⟨⟨i + 1, by simp, by omega, by rw [etk]; exact hs3⟩, by simp [RowKit.intOf]; omega⟩
  refine alloc_s hs2 (A_api_ID w2) fun g5 w3 hs3 => ?_
  refine ⟨fun z => Sep w z [blk g5 (Rdr.cells (rVec 32) k).toArray T_api_ID, rows (rVec 32) x out], ?_, ?_⟩
  · have hr3 := hs3.rh hr
    obtain ⟨T, fr, hc⟩ := hr3.cell
    simp only [nilc_some, fad_mk, pik_true, pik_false, cnd_true, cnd_false, gif_same, gif_tf, gif_ft, gif_undef, bi_add, bi_sub, bi_mul, bi_eql, bi_neq, bi_lss, bi_leq, bi_gtr, bi_geq, notB_bool, cvi_int, lenS_mk, lenT_mk, ext0, ext1, ext2, nilP_mk, nilS_mk, fldv_agg, jn0_k, jn1_k, jn2_k, jn1_and, jn1_or, ex_some, Option.isNone_some, Option.isNone_none, Bool.false_bne, Bool.bne_true, Bool.bne_false, Bool.true_bne, Bool.not_true, Bool.not_false, Bool.and_true, Bool.true_and, Bool.and_false, Bool.false_and, Bool.or_true, Bool.true_or, Bool.or_false, Bool.false_or, cond_true, cond_false, List.getElem?_toArray, List.getElem?_cons_zero, List.getElem?_cons_succ, Nat.zero_add, Nat.add_zero, Nat.reduceAdd, forall_const, L_flurryref23_Hold hc, L_flurryref23_Hold__MaxB hc, L_flurryref23_Hold__MaxV hc, L_flurryref23_Hold__B hc, L_flurryref23_Hold__V hc, hr3.lenB]
    rw [cnd_bool]
    refine ⟨fun h => ?_, fun h => ?_⟩
    · have hlt2 : i < ws.length := by simp at h; omega
      obtain ⟨e, he⟩ : ∃ e, ws[i]? = some e := ⟨_, List.getElem?_eq_getElem hlt2⟩
      have hek : e.2.1.p = k := by
        rw [hKs, List.getElem?_append_left (by simpa using hlt2), List.getElem?_map, he] at hk
        simpa using hk
      obtain ⟨g2, o, ha, hix⟩ := hr3.ix he
      simp only [nilc_some, fad_mk, pik_true, pik_false, cnd_true, cnd_false, gif_same, gif_tf, gif_ft, gif_undef, bi_add, bi_sub, bi_mul, bi_eql, bi_neq, bi_lss, bi_leq, bi_gtr, bi_geq, notB_bool, cvi_int, lenS_mk, lenT_mk, ext0, ext1, ext2, nilP_mk, nilS_mk, fldv_agg, jn0_k, jn1_k, jn2_k, jn1_and, jn1_or, ex_some, Option.isNone_some, Option.isNone_none, Bool.false_bne, Bool.bne_true, Bool.bne_false, Bool.true_bne, Bool.not_true, Bool.not_false, Bool.and_true, Bool.true_and, Bool.and_false, Bool.false_and, Bool.or_true, Bool.true_or, Bool.or_false, Bool.false_or, cond_true, cond_false, List.getElem?_toArray, List.getElem?_cons_zero, List.getElem?_cons_succ, Nat.zero_add, Nat.add_zero, Nat.reduceAdd, forall_const, hix, LA_flurryref23_Node__B_Parent ha]
      refine St_api_ID (b := e.2.1.p) hs3 fun w4 hs4 => ?_
      rw [hek] at hs4
      exact hs4
    · have hge2 : ws.length ≤ i := by simp at h; omega
      obtain ⟨e, he⟩ : ∃ e, vs[i - ws.length]? = some e := ⟨_, List.getElem?_eq_getElem (by omega)⟩
      have hek : e.2.2.1 = k := by
        rw [hKs, List.getElem?_append_right (by simpa using hge2), List.length_map, List.getElem?_map, he] at hk
        simpa using hk
      refine drH_S hs3 fun w4 hs4 _ => ?_
      refine rdS_ld (v := vv) (fun u hu K hk => by obtain ⟨T, fr, hc⟩ := (hu.rh hr).cell; exact (L_flurryref23_Hold__V hc K).mpr hk) ?_
      refine rdS_ld (v := bv) (fun u hu K hk => by obtain ⟨T, fr, hc⟩ := (hu.rh hr).cell; exact (L_flurryref23_Hold__B hc K).mpr hk) ?_
      simp only [hr3.lenB, nilc_some, fad_mk, pik_true, pik_false, cnd_true, cnd_false, gif_same, gif_tf, gif_ft, gif_undef, bi_add, bi_sub, bi_mul, bi_eql, bi_neq, bi_lss, bi_leq, bi_gtr, bi_geq, notB_bool, cvi_int, lenS_mk, lenT_mk, ext0, ext1, ext2, nilP_mk, nilS_mk, fldv_agg, jn0_k, jn1_k, jn2_k, jn1_and, jn1_or, ex_some, Option.isNone_some, Option.isNone_none, Bool.false_bne, Bool.bne_true, Bool.bne_false, Bool.true_bne, Bool.not_true, Bool.not_false, Bool.and_true, Bool.true_and, Bool.and_false, Bool.false_and, Bool.or_true, Bool.true_or, Bool.or_false, Bool.false_or, cond_true, cond_false, List.getElem?_toArray, List.getElem?_cons_zero, List.getElem?_cons_succ, Nat.zero_add, Nat.add_zero, Nat.reduceAdd, forall_const]
      rw [wi64 (by omega) (by omega)]
      have e1 : (i : Int) - (ws.length : Int) = ((i - ws.length : Nat) : Int) := by omega
      rw [e1]
      obtain ⟨g2, o, _, hix⟩ := (hs4.rh hr).ixV he
      rw [hix]
      simp only [nilc_some, fad_mk, pik_true, pik_false, cnd_true, cnd_false, gif_same, gif_tf, gif_ft, gif_undef, bi_add, bi_sub, bi_mul, bi_eql, bi_neq, bi_lss, bi_leq, bi_gtr, bi_geq, notB_bool, cvi_int, lenS_mk, lenT_mk, ext0, ext1, ext2, nilP_mk, nilS_mk, fldv_agg, jn0_k, jn1_k, jn2_k, jn1_and, jn1_or, ex_some, Option.isNone_some, Option.isNone_none, Bool.false_bne, Bool.bne_true, Bool.bne_false, Bool.true_bne, Bool.not_true, Bool.not_false, Bool.and_true, Bool.true_and, Bool.and_false, Bool.false_and, Bool.or_true, Bool.true_or, Bool.or_false, Bool.false_or, cond_true, cond_false, List.getElem?_toArray, List.getElem?_cons_zero, List.getElem?_cons_succ, Nat.zero_add, Nat.add_zero, Nat.reduceAdd, forall_const]
      refine ⟨kv e.2.2.1, fun u hu => ?_, ?_⟩
      · obtain ⟨g2', o', ha', hix'⟩ := (hu.rh hr).ixV he
        have e2 := hix' .i64 fun v => v = .pointer (some ⟨g2', o', none⟩)
        rw [hix] at e2
        have e3 : Value.pointer (some ⟨g2, o, none⟩) = .pointer (some ⟨g2', o', none⟩) := e2.mpr rfl
        simp only [Value.pointer.injEq, Option.some.injEq, Addr.mk.injEq] at e3
        obtain ⟨rfl, rfl, _⟩ := e3
        exact (LA_api_HeldVote__Want ha' _).mpr rfl
      refine efC_stN (St_api_ID (b := e.2.2.1) hs4 fun w5 hs5 => ?_)
      rw [hek] at hs5
      exact hs5
  rintro w4 hs4 _
  simp only [L_api_ID hs4.blk]
  refine cal_i (rhHas_spec (hs4.rh hr) (by omega) k) ?_
  rintro _ w5 ⟨rfl, hf5⟩
  have hs5 := hs4.old hf5
  cases hh : (noW k ws).isSome with
  | true =>
    have e2 : wantS ws out k = out := if_pos (.inl hh)
    simp only [nilc_some, fad_mk, pik_true, pik_false, cnd_true, cnd_false, gif_same, gif_tf, gif_ft, gif_undef, bi_add, bi_sub, bi_mul, bi_eql, bi_neq, bi_lss, bi_leq, bi_gtr, bi_geq, notB_bool, cvi_int, lenS_mk, lenT_mk, ext0, ext1, ext2, nilP_mk, nilS_mk, fldv_agg, jn0_k, jn1_k, jn2_k, jn1_and, jn1_or, ex_some, Option.isNone_some, Option.isNone_none, Bool.false_bne, Bool.bne_true, Bool.bne_false, Bool.true_bne, Bool.not_true, Bool.not_false, Bool.and_true, Bool.true_and, Bool.and_false, Bool.false_and, Bool.or_true, Bool.true_or, Bool.or_false, Bool.false_or, cond_true, cond_false, List.getElem?_toArray, List.getElem?_cons_zero, List.getElem?_cons_succ, Nat.zero_add, Nat.add_zero, Nat.reduceAdd, forall_const]
    rw [e2]
    exact hs5.tail
  | false =>
    simp only [nilc_some, fad_mk, pik_true, pik_false, cnd_true, cnd_false, gif_same, gif_tf, gif_ft, gif_undef, bi_add, bi_sub, bi_mul, bi_eql, bi_neq, bi_lss, bi_leq, bi_gtr, bi_geq, notB_bool, cvi_int, lenS_mk, lenT_mk, ext0, ext1, ext2, nilP_mk, nilS_mk, fldv_agg, jn0_k, jn1_k, jn2_k, jn1_and, jn1_or, ex_some, Option.isNone_some, Option.isNone_none, Bool.false_bne, Bool.bne_true, Bool.bne_false, Bool.true_bne, Bool.not_true, Bool.not_false, Bool.and_true, Bool.true_and, Bool.and_false, Bool.false_and, Bool.or_true, Bool.true_or, Bool.or_false, Bool.false_or, cond_true, cond_false, List.getElem?_toArray, List.getElem?_cons_zero, List.getElem?_cons_succ, Nat.zero_add, Nat.add_zero, Nat.reduceAdd, forall_const, L_api_ID hs5.blk]
    refine jn1_dup ?_
    refine cal_i (rhas_spec (Sep.rows hs5.p1) (by omega) k) ?_
    rintro _ w6 ⟨rfl, hf6⟩
    have hs6 := hs5.old hf6
    by_cases hk2 : k ∈ out
    · have e2 : wantS ws out k = out := if_pos (.inr hk2)
      simp only [decide_eq_true hk2, nilc_some, fad_mk, pik_true, pik_false, cnd_true, cnd_false, gif_same, gif_tf, gif_ft, gif_undef, bi_add, bi_sub, bi_mul, bi_eql, bi_neq, bi_lss, bi_leq, bi_gtr, bi_geq, notB_bool, cvi_int, lenS_mk, lenT_mk, ext0, ext1, ext2, nilP_mk, nilS_mk, fldv_agg, jn0_k, jn1_k, jn2_k, jn1_and, jn1_or, ex_some, Option.isNone_some, Option.isNone_none, Bool.false_bne, Bool.bne_true, Bool.bne_false, Bool.true_bne, Bool.not_true, Bool.not_false, Bool.and_true, Bool.true_and, Bool.and_false, Bool.false_and, Bool.or_true, Bool.true_or, Bool.or_false, Bool.false_or, cond_true, cond_false, List.getElem?_toArray, List.getElem?_cons_zero, List.getElem?_cons_succ, Nat.zero_add, Nat.add_zero, Nat.reduceAdd, forall_const]
      rw [e2]
      exact hs6.tail
    · have e2 : wantS ws out k = out ++ [k] := if_neg (by rw [hh]; simp [hk2])
      simp only [decide_eq_false hk2, nilc_some, fad_mk, pik_true, pik_false, cnd_true, cnd_false, gif_same, gif_tf, gif_ft, gif_undef, bi_add, bi_sub, bi_mul, bi_eql, bi_neq, bi_lss, bi_leq, bi_gtr, bi_geq, notB_bool, cvi_int, lenS_mk, lenT_mk, ext0, ext1, ext2, nilP_mk, nilS_mk, fldv_agg, jn0_k, jn1_k, jn2_k, jn1_and, jn1_or, ex_some, Option.isNone_some, Option.isNone_none, Bool.false_bne, Bool.bne_true, Bool.bne_false, Bool.true_bne, Bool.not_true, Bool.not_false, Bool.and_true, Bool.true_and, Bool.and_false, Bool.false_and, Bool.or_true, Bool.true_or, Bool.or_false, Bool.false_or, cond_true, cond_false, List.getElem?_toArray, List.getElem?_cons_zero, List.getElem?_cons_succ, Nat.zero_add, Nat.add_zero, Nat.reduceAdd, forall_const, L_api_ID hs6.blk]
      refine bldIH hs6 fun v7 w7 hs7 => ?_
      refine appIH hs7.p2 (Sep.rows hs7) (by omega) fun v8 w8 hs8 => ?_
      rw [e2]
      exact Sep.pick hs8 [0] 3
end
end Go.Fx
set_option linter.unusedVariables false
set_option linter.unusedSimpArgs false
namespace Go.Fx
section
variable {w0 w w' : World} {As : List Asn} {g : Nat} {bv vv : Value} {rb rv : Int} {ws : List Wt} {vs : List (Int × Int × Vec 32 × Vec 32)}
theorem rhBlock_spec {b : Blk} {v : Value} (hs : Sep w0 w (rhH g bv vv rb rv ws vs ++ As)) (hd : DatW ws As) (hb : RdB w.heap v b.d) (hh : b.h ≤ maxI) (hn : ws.length ≤ 1000000) :
    cal P f_ref23_Hold_Block [.pointer (some ⟨g, 0, none⟩), bq b v] w fun r w' => r = .tuple #[kv (blkId rb ws b), .int .i64 (blkE rb ws b)] ∧
      ((blkE rb ws b ≠ 0 ∧ Sep w0 w' (rhH g bv vv rb rv ws vs ++ As)) ∨ (blkE rb ws b = 0 ∧ ∃ bv' vd, Sep w0 w' (rhH g bv' vv rb rv (ws ++ [(b.id, b, vd)]) vs ++ (ownB vd b.d :: As)))) := by
  have hr := rhH_rd hs hd
  refine s_ref23_Hold_Block fun R hR => ?_
  unfold c_ref23_Hold_Block
  refine bxQ (Sep.start w) fun g3 w1 hs1 => ?_
  refine alloc_s hs1 (A_api_ID w1) fun g4 w2 hs2 => ?_
  simp only [L_api_Block (Sep.p1 hs2).blk, L_api_Block__Parent (Sep.p1 hs2).blk, L_api_Block__Height (Sep.p1 hs2).blk, L_api_Block__Data (Sep.p1 hs2).blk]
  refine cal_i (rbID_spec (hb.fr hs2.fr0 (off_nil _)) hh) ?_
  rintro _ w3 ⟨rfl, hf3⟩
  have hs3 := hs2.old hf3
  simp only [nilc_some, fad_mk, pik_true, pik_false, cnd_true, cnd_false, gif_same, gif_tf, gif_ft, gif_undef, bi_add, bi_sub, bi_mul, bi_eql, bi_neq, bi_lss, bi_leq, bi_gtr, bi_geq, notB_bool, cvi_int, lenS_mk, lenT_mk, ext0, ext1, ext2, nilP_mk, nilS_mk, fldv_agg, jn0_k, jn1_k, jn2_k, jn1_and, jn1_or, ex_some, Option.isNone_some, Option.isNone_none, Bool.false_bne, Bool.bne_true, Bool.bne_false, Bool.true_bne, Bool.not_true, Bool.not_false, Bool.and_true, Bool.true_and, Bool.and_false, Bool.false_and, Bool.or_true, Bool.true_or, Bool.or_false, Bool.false_or, cond_true, cond_false, List.getElem?_toArray, List.getElem?_cons_zero, List.getElem?_cons_succ, Nat.zero_add, Nat.add_zero, Nat.reduceAdd, forall_const]
  refine alloc_s hs3 (A_api_ID w3) fun g6 w4 hs4 => ?_
  refine St_api_ID hs4 fun w5 hs5 => ?_
  have bad : ∀ (w6 : World) (e : Int), Sep w w6 [blk g6 (Rdr.cells (rVec 32) b.name).toArray T_api_ID, blk g4 (Rdr.cells (rVec 32) (vz 32)).toArray T_api_ID, blk g3 (Rdr.cells Q_api_Block (b.p, b.h, v)).toArray T_api_Block] → blkE rb ws b = e → e ≠ 0 →
      rdP P (Instr.build T_api_ID #[]) w6 fun t20 => stN 32 (.pointer (some ⟨g4, 0, none⟩)) t20 w6 fun w => ldN 32 (.pointer (some ⟨g4, 0, none⟩)) w.heap fun r1 => R (.tuple #[r1, .int .i64 e]) w := fun w6 e hs6 he h0 => by
    rw [B_ID0]
    refine St_api_ID hs6.p1 fun w7 hs7 => ?_
    simp only [L_api_ID hs7.blk]
    exact hR _ _ ⟨by rw [blkId, if_neg (by rw [he]; exact h0), he], .inl ⟨by rw [he]; exact h0, hs.old hs7.fr0⟩⟩
  rw [cnd_bool]
  refine ⟨fun h => ?_, fun h => ?_⟩
  · have h : b.chk ≠ 0 := by simpa using h
    exact bad w5 b.chk hs5 (by unfold blkE; rw [if_pos h]) h
  have h1 : b.chk = 0 := by simpa using h
  have hnm : b.name = b.id := by unfold Blk.name; rw [if_pos h1]
  rw [hnm] at hs5 bad
  simp only [L_api_ID hs5.blk]
  refine cal_i (rhHas_spec (hs5.rh hr) hn b.id) ?_
  rintro _ w6 ⟨rfl, hf6⟩
  have hs6 := hs5.old hf6
  rw [cnd_bool]
  refine ⟨fun h => ?_, fun h => ?_⟩
  · exact bad w6 110 hs6 (by unfold blkE; rw [if_neg (by simpa using h1), if_pos h]) (by decide)
  have h2 : ¬ (noW b.id ws).isSome = true := by rw [h]; simp
  refine drw_s hs6 fun w10 hs10 hh10 => ?_
  have hr10 := hs10.rh hr
  obtain ⟨T, fr, hc⟩ := hr10.cell
  simp only [nilc_some, fad_mk, pik_true, pik_false, cnd_true, cnd_false, gif_same, gif_tf, gif_ft, gif_undef, bi_add, bi_sub, bi_mul, bi_eql, bi_neq, bi_lss, bi_leq, bi_gtr, bi_geq, notB_bool, cvi_int, lenS_mk, lenT_mk, ext0, ext1, ext2, nilP_mk, nilS_mk, fldv_agg, jn0_k, jn1_k, jn2_k, jn1_and, jn1_or, ex_some, Option.isNone_some, Option.isNone_none, Bool.false_bne, Bool.bne_true, Bool.bne_false, Bool.true_bne, Bool.not_true, Bool.not_false, Bool.and_true, Bool.true_and, Bool.and_false, Bool.false_and, Bool.or_true, Bool.true_or, Bool.or_false, Bool.false_or, cond_true, cond_false, List.getElem?_toArray, List.getElem?_cons_zero, List.getElem?_cons_succ, Nat.zero_add, Nat.add_zero, Nat.reduceAdd, forall_const, L_flurryref23_Hold hc, L_flurryref23_Hold__MaxB hc, L_flurryref23_Hold__MaxV hc, L_flurryref23_Hold__B hc, L_flurryref23_Hold__V hc, hr10.lenB]
  rw [cnd_bool]
  refine ⟨fun h => ?_, fun h => ?_⟩
  · have h : rb ≤ (ws.length : Int) := by simpa using h
    exact bad w10 6 hs10 (by unfold blkE; rw [if_neg (by simpa using h1), if_neg h2, if_pos h]) (by decide)
  have h6 : ¬ rb ≤ (ws.length : Int) := by simpa using h
  have hE : blkE rb ws b = 0 := by unfold blkE; rw [if_neg (by simpa using h1), if_neg h2, if_neg h6]
  have hbl := chk0_len h1
  have hsA := hs.join hs10
  refine drH_PH (S := fun u => Sep w0 u (blk g6 (Rdr.cells (rVec 32) b.id).toArray T_api_ID :: blk g4 (Rdr.cells (rVec 32) (vz 32)).toArray T_api_ID :: blk g3 (Rdr.cells Q_api_Block (b.p, b.h, v)).toArray T_api_Block :: blk g (Rdr.cells Q_flurryref23_Hold (rb, rv, bv, vv)).toArray T_flurryref23_Hold :: rows Q_api_HeldVote vv vs :: As)) hsA (fun u hu => Sep.pick hu [0, 1, 2, 3, 5] 6) fun w11 hs11 hh11 => ?_
  refine rdS_ld (v := bv) (fun u hu K hk => (L_flurryref23_Hold__B (Sep.p3 hu).blk K).mpr hk) ?_
  refine ⟨kv b.id, fun u hu => (L_api_ID (Sep.blk hu) _).mpr rfl, ?_⟩
  refine ⟨bq b v, fun u hu => (L_api_Block (Sep.blk (Sep.p2 hu)) _).mpr rfl, ?_⟩
  refine efS_i (cal_i (rbClone_spec (b := b) (v := v) (by rw [hh11]; exact hb.fr hs10.fr0 (off_nil _)) (by omega)) ?_)
  rintro _ w12 ⟨vd, rfl, hs12⟩
  have hs12' := hs11.join hs12
  have h1d := Sep.one hs12'
  refine ⟨Sep.pick hs12' [1, 2, 3, 4, 6] 7, ?_⟩
  refine ⟨.agg (Rdr.cells Q_flurryref23_Node (b.id, b.p, b.h, vd)).toArray, fun u hu => by rw [B_flurryref23_Node_0_1], ?_⟩
  refine efS_i (rows_lit (q := Q_flurryref23_Node) hs12' S_sl_flurryref23_Node (l := [(b.id, b.p, b.h, vd)]) (V := fun a => .agg (Rdr.cells Q_flurryref23_Node a).toArray) (fun a => rfl) rfl rfl (by decide) (by decide) fun g7 w13 hs13 => ⟨Sep.pick hs13 [2, 3, 4, 5, 7] 8, ?_⟩)
  refine efC_efP (rows_app (q := Q_flurryref23_Node) S_sl_flurryref23_Node U_sl_flurryref23_Node (by simp) (Sep.pick hs13 [6, 0, 1, 2, 3, 4, 5, 7] 8) (Sep.rows hs13) ?_ (by simp; omega) (by simp; omega) fun v14 w14 hs14 => ?_)
  · simp only [List.flatMap_cons, List.flatMap_nil, List.append_nil]
    exact one_flurryref23_Node h1d
  refine efC_st1 (St_flurryref23_Hold__B (Sep.pick hs14 [6, 0, 1, 2, 3, 4, 5, 7] 8) (Sep.oneR hs14) fun w16 hs16 => ?_)
  simp only [L_api_ID (Sep.blk (Sep.pick hs16 [4] 5))]
  refine St_api_ID (Sep.pick hs16 [5, 0, 1, 2, 3, 4, 6, 7] 8) fun w17 hs17 => ?_
  simp only [L_api_ID (Sep.blk hs17)]
  refine hR _ _ ⟨by rw [blkId, if_pos hE, hE], .inr ⟨hE, v14, vd, ?_⟩⟩
  have e2 : (ws ++ [(b.id, b, vd)]).map Wt.c = ws.map Wt.c ++ [(b.id, b.p, b.h, vd)] := by simp [Wt.c]
  unfold rhH
  rw [e2]
  exact Sep.pick hs17 [1, 2, 7, 4] 8
theorem rhVote_spec {v : Int × Int × Vec 32 × Vec 32} (hs : Sep w0 w (rhH g bv vv rb rv ws vs ++ As)) (hd : DatW ws As) (hnv : vs.length ≤ 1000000) :
    cal P f_ref23_Hold_Vote [.pointer (some ⟨g, 0, none⟩), hvv v] w fun r w' => r = .int .i64 (votE rv vs v) ∧
      ((votE rv vs v ≠ 0 ∧ Sep w0 w' (rhH g bv vv rb rv ws vs ++ As)) ∨ (votE rv vs v = 0 ∧ ∃ vv', Sep w0 w' (rhH g bv vv' rb rv ws (vs ++ [v]) ++ As))) := by
  have hr := rhH_rd hs hd
  refine s_ref23_Hold_Vote fun R hR => ?_
  unfold c_ref23_Hold_Vote
  refine bxQ (Sep.start w) fun g3 w1 hs1 => ?_
  refine ⟨fun y z => ∃ i : Nat, y = .int .i64 i ∧ i ≤ vs.length ∧ ((vs.take i).any fun x => decide (x.1 = v.1) && decide (x.2.1 = v.2.1)) = false ∧ Sep w z [blk g3 (Rdr.cells Q_api_HeldVote v).toArray T_api_HeldVote], fun y _ => (vs.length - RowKit.intOf y).toNat, ⟨0, rfl, by omega, rfl, hs1⟩, ?_⟩
  clear hs1
  rintro _ w2 ⟨i, rfl, hi, hno, hs2⟩ -
  have hr2 := hs2.rh hr
  obtain ⟨T, fr, hc⟩ := hr2.cell
  simp only [nilc_some, fad_mk, pik_true, pik_false, cnd_true, cnd_false, gif_same, gif_tf, gif_ft, gif_undef, bi_add, bi_sub, bi_mul, bi_eql, bi_neq, bi_lss, bi_leq, bi_gtr, bi_geq, notB_bool, cvi_int, lenS_mk, lenT_mk, ext0, ext1, ext2, nilP_mk, nilS_mk, fldv_agg, jn0_k, jn1_k, jn2_k, jn1_and, jn1_or, ex_some, Option.isNone_some, Option.isNone_none, Bool.false_bne, Bool.bne_true, Bool.bne_false, Bool.true_bne, Bool.not_true, Bool.not_false, Bool.and_true, Bool.true_and, Bool.and_false, Bool.false_and, Bool.or_true, Bool.true_or, Bool.or_false, Bool.false_or, cond_true, cond_false, List.getElem?_toArray, List.getElem?_cons_zero, List.getElem?_cons_succ, Nat.zero_add, Nat.add_zero, Nat.reduceAdd, forall_const, L_flurryref23_Hold hc, L_flurryref23_Hold__MaxB hc, L_flurryref23_Hold__MaxV hc, L_flurryref23_Hold__B hc, L_flurryref23_Hold__V hc, hr2.vw.len]
  rw [cnd_bool]
  refine ⟨fun h => ?_, fun h => ?_⟩
  · have hlt : i < vs.length := by simp at h; omega
    obtain ⟨x, hx⟩ : ∃ x, vs[i]? = some x := ⟨_, List.getElem?_eq_getElem hlt⟩
    refine drw_s hs2 fun w3 hs3 _ => ?_
    have hr3 := hs3.rh hr
    obtain ⟨T, fr, hc⟩ := hr3.cell
    obtain ⟨g2, o, ha, hix⟩ := hr3.ixV hx
    simp only [nilc_some, fad_mk, pik_true, pik_false, cnd_true, cnd_false, gif_same, gif_tf, gif_ft, gif_undef, bi_add, bi_sub, bi_mul, bi_eql, bi_neq, bi_lss, bi_leq, bi_gtr, bi_geq, notB_bool, cvi_int, lenS_mk, lenT_mk, ext0, ext1, ext2, nilP_mk, nilS_mk, fldv_agg, jn0_k, jn1_k, jn2_k, jn1_and, jn1_or, ex_some, Option.isNone_some, Option.isNone_none, Bool.false_bne, Bool.bne_true, Bool.bne_false, Bool.true_bne, Bool.not_true, Bool.not_false, Bool.and_true, Bool.true_and, Bool.and_false, Bool.false_and, Bool.or_true, Bool.true_or, Bool.or_false, Bool.false_or, cond_true, cond_false, List.getElem?_toArray, List.getElem?_cons_zero, List.getElem?_cons_succ, Nat.zero_add, Nat.add_zero, Nat.reduceAdd, forall_const, L_flurryref23_Hold hc, L_flurryref23_Hold__MaxB hc, L_flurryref23_Hold__MaxV hc, L_flurryref23_Hold__B hc, L_flurryref23_Hold__V hc, hix, LA_api_HeldVote__Poll ha, LA_api_HeldVote__Node ha, L_api_HeldVote hs3.blk, L_api_HeldVote__Poll hs3.blk, L_api_HeldVote__Node hs3.blk, L_api_HeldVote__Want hs3.blk, L_api_HeldVote__Else hs3.blk]
    rw [cnd_bool]
    refine ⟨fun h => ?_, fun h => ?_⟩
    · have e : votE rv vs v = 110 := by
        unfold votE
        rw [if_pos (List.any_eq_true.2 ⟨x, List.mem_of_getElem? hx, by simpa using h⟩)]
      exact hR _ _ ⟨by rw [e], .inl ⟨by rw [e]; decide, hs.old hs3.fr0⟩⟩
    · rw [wi64 (by omega) (by omega)]
      refine ⟨⟨i + 1, by simp, by omega, by rw [any_take hno hx]; simpa using h, hs3⟩, by simp [RowKit.intOf]; omega⟩
  have hge : i = vs.length := by simp at h; omega
  rw [hge, List.take_of_length_le (Nat.le_refl _)] at hno
  have h1 : ¬ vs.any (fun x => decide (x.1 = v.1) && decide (x.2.1 = v.2.1)) = true := by rw [hno]; simp
  have hs2' := hs.join hs2
  refine drw_s hs2' fun w3 hs3 _ => ?_
  have hr3 := rhH_rd hs3.tail hd
  simp only [nilc_some, fad_mk, pik_true, pik_false, cnd_true, cnd_false, gif_same, gif_tf, gif_ft, gif_undef, bi_add, bi_sub, bi_mul, bi_eql, bi_neq, bi_lss, bi_leq, bi_gtr, bi_geq, notB_bool, cvi_int, lenS_mk, lenT_mk, ext0, ext1, ext2, nilP_mk, nilS_mk, fldv_agg, jn0_k, jn1_k, jn2_k, jn1_and, jn1_or, ex_some, Option.isNone_some, Option.isNone_none, Bool.false_bne, Bool.bne_true, Bool.bne_false, Bool.true_bne, Bool.not_true, Bool.not_false, Bool.and_true, Bool.true_and, Bool.and_false, Bool.false_and, Bool.or_true, Bool.true_or, Bool.or_false, Bool.false_or, cond_true, cond_false, List.getElem?_toArray, List.getElem?_cons_zero, List.getElem?_cons_succ, Nat.zero_add, Nat.add_zero, Nat.reduceAdd, forall_const, L_flurryref23_Hold (Sep.blk hs3.p1), L_flurryref23_Hold__MaxB (Sep.blk hs3.p1), L_flurryref23_Hold__MaxV (Sep.blk hs3.p1), L_flurryref23_Hold__B (Sep.blk hs3.p1), L_flurryref23_Hold__V (Sep.blk hs3.p1), hr3.vw.len]
  rw [cnd_bool]
  refine ⟨fun h => ?_, fun h => ?_⟩
  · have h : rv ≤ vs.length := by simpa using h
    have e : votE rv vs v = 6 := by unfold votE; rw [if_neg h1, if_pos h]
    exact hR _ _ ⟨by rw [e], .inl ⟨by rw [e]; decide, hs3.tail⟩⟩
  have h2 : ¬ rv ≤ vs.length := by simpa using h
  have e : votE rv vs v = 0 := by unfold votE; rw [if_neg h1, if_neg h2]
  refine drH_PH (S := fun u => Sep w0 u (blk g3 (Rdr.cells Q_api_HeldVote v).toArray T_api_HeldVote :: blk g (Rdr.cells Q_flurryref23_Hold (rb, rv, bv, vv)).toArray T_flurryref23_Hold :: rows Q_flurryref23_Node bv (ws.map Wt.c) :: As)) hs3 (fun u hu => Sep.pick hu [0, 1, 2] 4) fun w4 hs4 _ => ?_
  refine rdS_ld (v := vv) (fun u hu K hk => (L_flurryref23_Hold__V (Sep.blk hu.p1) K).mpr hk) ?_
  refine ⟨hvv v, fun u hu => (L_api_HeldVote (Sep.blk hu) _).mpr rfl, ?_⟩
  refine efS_i (rows_lit (q := Q_api_HeldVote) hs4 S_sl_api_HeldVote (l := [v]) (V := fun a => .agg (Rdr.cells Q_api_HeldVote a).toArray) (fun a => rfl) rfl rfl (by decide) (by decide) fun g8 w5 hs5 => ⟨Sep.pick hs5 [1, 2, 3] 5, ?_⟩)
  refine efC_efP (rows_app (q := Q_api_HeldVote) S_sl_api_HeldVote U_sl_api_HeldVote (by simp) (Sep.pick hs5 [4, 0, 1, 2, 3] 5) (Sep.rows hs5) ?_ (by simp; omega) (by simp; omega) fun v8 w8 hs8 => ?_)
  · simp only [List.flatMap_cons, List.flatMap_nil, List.append_nil]
    exact one_api_HeldVote
  refine efC_st1 (St_flurryref23_Hold__V (Sep.pick hs8 [3, 0, 1, 2, 4] 5) (Sep.oneR hs8) fun w9 hs9 => ?_)
  exact hR _ _ ⟨by rw [e], .inr ⟨e, v8, Sep.pick hs9 [0, 4, 1] 5⟩⟩
theorem nodeOne {x : Wt} (h : x.2.2.oneCell' = true) : ∀ u ∈ [x.c].flatMap (Rdr.cells Q_flurryref23_Node), u.oneCell' = true := by
  simp only [List.flatMap_cons, List.flatMap_nil, List.append_nil]
  exact one_flurryref23_Node h
theorem voteOne {x : Int × Int × Vec 32 × Vec 32} : ∀ u ∈ [x].flatMap (Rdr.cells Q_api_HeldVote), u.oneCell' = true := by
  simp only [List.flatMap_cons, List.flatMap_nil, List.append_nil]
  exact one_api_HeldVote
theorem take_filter {α : Type} (p : α → Bool) {l : List α} {i : Nat} {e : α} (he : l[i]? = some e) : (l.take (i + 1)).filter p = (l.take i).filter p ++ (if p e = true then [e] else []) := by
  rw [List.take_add_one, he, List.filter_append, filter_optH]
theorem appN {x : Wt} {v a : Value} {l : List Wt} {K : Value → World → Prop} {Bs : List Asn} (hs : Sep w0 w (rows Q_flurryref23_Node v (l.map Wt.c) :: Bs)) (ha : Rows' Q_flurryref23_Node w.heap a [x.c]) (h1 : x.2.2.oneCell' = true) (hl : l.length ≤ 1000000)
    (hk : ∀ v' z, Sep w0 z (rows Q_flurryref23_Node v' ((l ++ [x]).map Wt.c) :: Bs) → K v' z) : efP P (Builtin.append_ #[T_sl_flurryref23_Node, T_sl_flurryref23_Node] T_sl_flurryref23_Node #[v, a]) w K :=
  rows_app (q := Q_flurryref23_Node) S_sl_flurryref23_Node U_sl_flurryref23_Node (by simp) hs ha (nodeOne h1) (by simp; omega) (by simp; omega) fun v8 w8 hs8 => hk _ _ (by
    have e : (l ++ [x]).map Wt.c = l.map Wt.c ++ [x.c] := by simp
    rw [e]; exact hs8)
theorem appV {x : Int × Int × Vec 32 × Vec 32} {v a : Value} {l : List (Int × Int × Vec 32 × Vec 32)} {K : Value → World → Prop} {Bs : List Asn} (hs : Sep w0 w (rows Q_api_HeldVote v l :: Bs)) (ha : Rows' Q_api_HeldVote w.heap a [x]) (hl : l.length ≤ 1000000)
    (hk : ∀ v' z, Sep w0 z (rows Q_api_HeldVote v' (l ++ [x]) :: Bs) → K v' z) : efP P (Builtin.append_ #[T_sl_api_HeldVote, T_sl_api_HeldVote] T_sl_api_HeldVote #[v, a]) w K :=
  rows_app (q := Q_api_HeldVote) S_sl_api_HeldVote U_sl_api_HeldVote (by simp) hs ha voteOne (by simp; omega) (by simp; omega) fun v8 w8 hs8 => hk _ _ hs8
theorem litN {x : Wt} {K : Value → World → Prop} {Bs : List Asn} (hs : Sep w0 w Bs) (hk : ∀ a z, Sep w0 z (rows Q_flurryref23_Node a [x.c] :: Bs) → K a z) : efP P (Instr.buildSlice T_sl_flurryref23_Node 1 #[(0, .agg (Rdr.cells Q_flurryref23_Node x.c).toArray)]) w K :=
  rows_lit (q := Q_flurryref23_Node) hs S_sl_flurryref23_Node (l := [x.c]) (V := fun a => .agg (Rdr.cells Q_flurryref23_Node a).toArray) (fun a => rfl) rfl rfl (by decide) (by decide) fun g7 w7 hs7 => hk _ _ hs7
theorem litV {x : Int × Int × Vec 32 × Vec 32} {K : Value → World → Prop} {Bs : List Asn} (hs : Sep w0 w Bs) (hk : ∀ a z, Sep w0 z (rows Q_api_HeldVote a [x] :: Bs) → K a z) : efP P (Instr.buildSlice T_sl_api_HeldVote 1 #[(0, .agg (Rdr.cells Q_api_HeldVote x).toArray)]) w K :=
  rows_lit (q := Q_api_HeldVote) hs S_sl_api_HeldVote (l := [x]) (V := fun a => .agg (Rdr.cells Q_api_HeldVote a).toArray) (fun a => rfl) rfl rfl (by decide) (by decide) fun g7 w7 hs7 => hk _ _ hs7
theorem rhOut_spec {iv : Value} {L : List (Vec 32)} (hs : Sep w0 w (rhH g bv vv rb rv ws vs ++ As)) (hd : DatW ws As) (hn : ws.length ≤ 1000000) (hnv : vs.length ≤ 1000000) (hi : Rows' (rVec 32) w.heap iv L) (hL : L.length ≤ 1000000) :
    cal P f_ref23_Hold_out [.pointer (some ⟨g, 0, none⟩), iv] w fun r w' => ∃ ob ov bv' vv', r = .tuple #[ob, ov] ∧
      Sep w0 w' (rhH g bv' vv' rb rv (ws.filter fun x => !decide (x.2.1.p ∈ L)) (vs.filter fun x => !decide (x.2.2.1 ∈ L)) ++ (rows Q_flurryref23_Node ob ((ws.filter fun x => decide (x.2.1.p ∈ L)).map Wt.c) :: rows Q_api_HeldVote ov (vs.filter fun x => decide (x.2.2.1 ∈ L)) :: As)) := by
  have hr := rhH_rd hs hd
  refine s_ref23_Hold_out fun R hR => ?_
  unfold c_ref23_Hold_out
  refine ⟨fun x y z w' => ∃ i : Nat, z = .int .i64 i ∧ i ≤ ws.length ∧ Sep w w' [rows Q_flurryref23_Node x (((ws.take i).filter fun x => decide (x.2.1.p ∈ L)).map Wt.c), rows Q_flurryref23_Node y (((ws.take i).filter fun x => !decide (x.2.1.p ∈ L)).map Wt.c)], fun _ _ z _ => (ws.length - RowKit.intOf z).toNat, ⟨0, rfl, by omega, ((Sep.start w).nilR (q := Q_flurryref23_Node)).nilR (q := Q_flurryref23_Node)⟩, ?_⟩
  rintro x y _ w1 ⟨i, rfl, hi', hs1⟩ -
  have hr1 := hs1.rh hr
  obtain ⟨T, fr, hc⟩ := hr1.cell
  simp only [nilc_some, fad_mk, pik_true, pik_false, cnd_true, cnd_false, gif_same, gif_tf, gif_ft, gif_undef, bi_add, bi_sub, bi_mul, bi_eql, bi_neq, bi_lss, bi_leq, bi_gtr, bi_geq, notB_bool, cvi_int, lenS_mk, lenT_mk, ext0, ext1, ext2, nilP_mk, nilS_mk, fldv_agg, jn0_k, jn1_k, jn2_k, jn1_and, jn1_or, ex_some, Option.isNone_some, Option.isNone_none, Bool.false_bne, Bool.bne_true, Bool.bne_false, Bool.true_bne, Bool.not_true, Bool.not_false, Bool.and_true, Bool.true_and, Bool.and_false, Bool.false_and, Bool.or_true, Bool.true_or, Bool.or_false, Bool.false_or, cond_true, cond_false, List.getElem?_toArray, List.getElem?_cons_zero, List.getElem?_cons_succ, Nat.zero_add, Nat.add_zero, Nat.reduceAdd, forall_const, L_flurryref23_Hold hc, L_flurryref23_Hold__MaxB hc, L_flurryref23_Hold__MaxV hc, L_flurryref23_Hold__B hc, L_flurryref23_Hold__V hc, hr1.lenB]
  rw [cnd_bool]
  refine ⟨fun h => ?_, fun h => ?_⟩
  · have hlt : i < ws.length := by simp at h; omega
    obtain ⟨e, he⟩ : ∃ e, ws[i]? = some e := ⟨_, List.getElem?_eq_getElem hlt⟩
    have hem := List.mem_of_getElem? he
    have t1 := take_filter (fun x : Wt => decide (x.2.1.p ∈ L)) he
    have t2 := take_filter (fun x : Wt => !decide (x.2.1.p ∈ L)) he
    have l1 : ((ws.take i).filter fun x => decide (x.2.1.p ∈ L)).length ≤ i := Nat.le_trans (List.length_filter_le _ _) (List.length_take_le _ _)
    have l2 : ((ws.take i).filter fun x => !decide (x.2.1.p ∈ L)).length ≤ i := Nat.le_trans (List.length_filter_le _ _) (List.length_take_le _ _)
    obtain ⟨g2, o, ha, hix⟩ := hr1.ix he
    refine ⟨fun a b z => Sep w z [rows Q_flurryref23_Node a (((ws.take (i + 1)).filter fun x => decide (x.2.1.p ∈ L)).map Wt.c), rows Q_flurryref23_Node b (((ws.take (i + 1)).filter fun x => !decide (x.2.1.p ∈ L)).map Wt.c)], ?_, ?_⟩
    · simp only [nilc_some, fad_mk, pik_true, pik_false, cnd_true, cnd_false, gif_same, gif_tf, gif_ft, gif_undef, bi_add, bi_sub, bi_mul, bi_eql, bi_neq, bi_lss, bi_leq, bi_gtr, bi_geq, notB_bool, cvi_int, lenS_mk, lenT_mk, ext0, ext1, ext2, nilP_mk, nilS_mk, fldv_agg, jn0_k, jn1_k, jn2_k, jn1_and, jn1_or, ex_some, Option.isNone_some, Option.isNone_none, Bool.false_bne, Bool.bne_true, Bool.bne_false, Bool.true_bne, Bool.not_true, Bool.not_false, Bool.and_true, Bool.true_and, Bool.and_false, Bool.false_and, Bool.or_true, Bool.true_or, Bool.or_false, Bool.false_or, cond_true, cond_false, List.getElem?_toArray, List.getElem?_cons_zero, List.getElem?_cons_succ, Nat.zero_add, Nat.add_zero, Nat.reduceAdd, forall_const, L_flurryref23_Hold hc, L_flurryref23_Hold__MaxB hc, L_flurryref23_Hold__MaxV hc, L_flurryref23_Hold__B hc, L_flurryref23_Hold__V hc, hix, LA_flurryref23_Node__B_Parent ha]
      refine cal_i (rhas_spec (hi.fr hs1.fr0) hL e.2.1.p) ?_
      rintro _ w2 ⟨rfl, hf2⟩
      have hs2 := hs1.old hf2
      have hr2 := hs2.rh hr
      obtain ⟨T, fr, hc⟩ := hr2.cell
      obtain ⟨g2', o', ha2, hix2⟩ := hr2.ix he
      have h1 := (hr2.dat e hem).one
      rw [cnd_bool]
      refine ⟨fun hk => ?_, fun hk => ?_⟩
      · have hk : e.2.1.p ∈ L := of_decide_eq_true hk
        simp only [L_flurryref23_Hold hc, L_flurryref23_Hold__MaxB hc, L_flurryref23_Hold__MaxV hc, L_flurryref23_Hold__B hc, L_flurryref23_Hold__V hc, hix2, LA_flurryref23_Node ha2]
        refine litN hs2 fun a w3 hs3 => ?_
        refine appN hs3.p1 (Sep.rows hs3) h1 (by omega) fun a' w4 hs4 => ?_
        rw [t1, t2, if_pos (decide_eq_true hk), if_neg (by simp [hk]), List.append_nil]
        exact Sep.pick hs4 [0, 2] 3
      · have hk : ¬ e.2.1.p ∈ L := of_decide_eq_false hk
        simp only [L_flurryref23_Hold hc, L_flurryref23_Hold__MaxB hc, L_flurryref23_Hold__MaxV hc, L_flurryref23_Hold__B hc, L_flurryref23_Hold__V hc, hix2, LA_flurryref23_Node ha2]
        refine litN hs2 fun a w3 hs3 => ?_
        refine appN hs3.p2 (Sep.rows hs3) h1 (by omega) fun a' w4 hs4 => ?_
        rw [t1, t2, if_neg (by simp [hk]), if_pos (by simp [hk]), List.append_nil]
        exact Sep.pick hs4 [2, 0] 3
    · rintro a b w2 hs2 _
      rw [wi64 (by omega) (by omega)]
      exact ⟨⟨i + 1, by simp, by omega, hs2⟩, by simp [RowKit.intOf]; omega⟩
  have hge : i = ws.length := by simp at h; omega
  rw [hge, List.take_of_length_le (Nat.le_refl _)] at hs1
  obtain ⟨Y, hY⟩ : ∃ Y, Y = [rows Q_flurryref23_Node x ((ws.filter fun x => decide (x.2.1.p ∈ L)).map Wt.c), rows Q_flurryref23_Node y ((ws.filter fun x => !decide (x.2.1.p ∈ L)).map Wt.c)] := ⟨_, rfl⟩
  rw [← hY] at hs1
  refine ⟨fun x y z w' => ∃ i : Nat, z = .int .i64 i ∧ i ≤ vs.length ∧ Sep w w' (rows Q_api_HeldVote x ((vs.take i).filter fun x => decide (x.2.2.1 ∈ L)) :: rows Q_api_HeldVote y ((vs.take i).filter fun x => !decide (x.2.2.1 ∈ L)) :: Y), fun _ _ z _ => (vs.length - RowKit.intOf z).toNat, ⟨0, rfl, by omega, (hs1.nilR (q := Q_api_HeldVote)).nilR (q := Q_api_HeldVote)⟩, ?_⟩
  clear hs1 hr1 hc h hge hi'
  rintro x2 y2 _ w1 ⟨i, rfl, hi', hs1⟩ -
  have hr1 := hs1.rh hr
  obtain ⟨T, fr, hc⟩ := hr1.cell
  simp only [nilc_some, fad_mk, pik_true, pik_false, cnd_true, cnd_false, gif_same, gif_tf, gif_ft, gif_undef, bi_add, bi_sub, bi_mul, bi_eql, bi_neq, bi_lss, bi_leq, bi_gtr, bi_geq, notB_bool, cvi_int, lenS_mk, lenT_mk, ext0, ext1, ext2, nilP_mk, nilS_mk, fldv_agg, jn0_k, jn1_k, jn2_k, jn1_and, jn1_or, ex_some, Option.isNone_some, Option.isNone_none, Bool.false_bne, Bool.bne_true, Bool.bne_false, Bool.true_bne, Bool.not_true, Bool.not_false, Bool.and_true, Bool.true_and, Bool.and_false, Bool.false_and, Bool.or_true, Bool.true_or, Bool.or_false, Bool.false_or, cond_true, cond_false, List.getElem?_toArray, List.getElem?_cons_zero, List.getElem?_cons_succ, Nat.zero_add, Nat.add_zero, Nat.reduceAdd, forall_const, L_flurryref23_Hold hc, L_flurryref23_Hold__MaxB hc, L_flurryref23_Hold__MaxV hc, L_flurryref23_Hold__B hc, L_flurryref23_Hold__V hc, hr1.vw.len]
  rw [cnd_bool]
  refine ⟨fun h => ?_, fun h => ?_⟩
  · have hlt : i < vs.length := by simp at h; omega
    obtain ⟨e, he⟩ : ∃ e, vs[i]? = some e := ⟨_, List.getElem?_eq_getElem hlt⟩
    have t1 := take_filter (fun x : Int × Int × Vec 32 × Vec 32 => decide (x.2.2.1 ∈ L)) he
    have t2 := take_filter (fun x : Int × Int × Vec 32 × Vec 32 => !decide (x.2.2.1 ∈ L)) he
    have l1 : ((vs.take i).filter fun x => decide (x.2.2.1 ∈ L)).length ≤ i := Nat.le_trans (List.length_filter_le _ _) (List.length_take_le _ _)
    have l2 : ((vs.take i).filter fun x => !decide (x.2.2.1 ∈ L)).length ≤ i := Nat.le_trans (List.length_filter_le _ _) (List.length_take_le _ _)
    obtain ⟨g2, o, ha, hix⟩ := hr1.ixV he
    refine ⟨fun a b z => Sep w z (rows Q_api_HeldVote a ((vs.take (i + 1)).filter fun x => decide (x.2.2.1 ∈ L)) :: rows Q_api_HeldVote b ((vs.take (i + 1)).filter fun x => !decide (x.2.2.1 ∈ L)) :: Y), ?_, ?_⟩
    · simp only [nilc_some, fad_mk, pik_true, pik_false, cnd_true, cnd_false, gif_same, gif_tf, gif_ft, gif_undef, bi_add, bi_sub, bi_mul, bi_eql, bi_neq, bi_lss, bi_leq, bi_gtr, bi_geq, notB_bool, cvi_int, lenS_mk, lenT_mk, ext0, ext1, ext2, nilP_mk, nilS_mk, fldv_agg, jn0_k, jn1_k, jn2_k, jn1_and, jn1_or, ex_some, Option.isNone_some, Option.isNone_none, Bool.false_bne, Bool.bne_true, Bool.bne_false, Bool.true_bne, Bool.not_true, Bool.not_false, Bool.and_true, Bool.true_and, Bool.and_false, Bool.false_and, Bool.or_true, Bool.true_or, Bool.or_false, Bool.false_or, cond_true, cond_false, List.getElem?_toArray, List.getElem?_cons_zero, List.getElem?_cons_succ, Nat.zero_add, Nat.add_zero, Nat.reduceAdd, forall_const, L_flurryref23_Hold hc, L_flurryref23_Hold__MaxB hc, L_flurryref23_Hold__MaxV hc, L_flurryref23_Hold__B hc, L_flurryref23_Hold__V hc, hix, LA_api_HeldVote__Want ha]
      refine cal_i (rhas_spec (hi.fr hs1.fr0) hL e.2.2.1) ?_
      rintro _ w2 ⟨rfl, hf2⟩
      have hs2 := hs1.old hf2
      have hr2 := hs2.rh hr
      obtain ⟨T, fr, hc⟩ := hr2.cell
      obtain ⟨g2', o', ha2, hix2⟩ := hr2.ixV he
      rw [cnd_bool]
      refine ⟨fun hk => ?_, fun hk => ?_⟩
      · have hk : e.2.2.1 ∈ L := of_decide_eq_true hk
        simp only [L_flurryref23_Hold hc, L_flurryref23_Hold__MaxB hc, L_flurryref23_Hold__MaxV hc, L_flurryref23_Hold__B hc, L_flurryref23_Hold__V hc, hix2, LA_api_HeldVote ha2]
        refine litV hs2 fun a w3 hs3 => ?_
        refine appV hs3.p1 (Sep.rows hs3) (by omega) fun a' w4 hs4 => ?_
        rw [t1, t2, if_pos (decide_eq_true hk), if_neg (by simp [hk]), List.append_nil]
        exact Sep.pick hs4 [0, 2] 3
      · have hk : ¬ e.2.2.1 ∈ L := of_decide_eq_false hk
        simp only [L_flurryref23_Hold hc, L_flurryref23_Hold__MaxB hc, L_flurryref23_Hold__MaxV hc, L_flurryref23_Hold__B hc, L_flurryref23_Hold__V hc, hix2, LA_api_HeldVote ha2]
        refine litV hs2 fun a w3 hs3 => ?_
        refine appV hs3.p2 (Sep.rows hs3) (by omega) fun a' w4 hs4 => ?_
        rw [t1, t2, if_neg (by simp [hk]), if_pos (by simp [hk]), List.append_nil]
        exact Sep.pick hs4 [2, 0] 3
    · rintro a b w2 hs2 _
      rw [wi64 (by omega) (by omega)]
      exact ⟨⟨i + 1, by simp, by omega, hs2⟩, by simp [RowKit.intOf]; omega⟩
  have hge : i = vs.length := by simp at h; omega
  rw [hge, List.take_of_length_le (Nat.le_refl _), hY] at hs1
  have hs2 := hs.join hs1
  refine St_flurryref23_Hold__B (Sep.pick hs2 [4, 0, 1, 2, 3, 5, 6] 7) (Sep.oneR (Sep.p3 hs2)) fun w3 hs3 => ?_
  refine St_flurryref23_Hold__V hs3 (Sep.oneR (Sep.p2 hs3)) fun w4 hs4 => ?_
  exact hR _ _ ⟨x, x2, y, y2, rfl, Sep.pick hs4 [0, 4, 2, 3, 1] 7⟩
end
end Go.Fx
set_option linter.unusedVariables false
set_option linter.unusedSimpArgs false
namespace Go.Fx
def lenV : Value → Nat
  | .slice _ n _ => n
  | _ => 0
section
variable {w0 w w' : World} {As : List Asn} {g : Nat} {bv vv : Value} {rb rv : Int} {ws : List Wt} {vs : List (Int × Int × Vec 32 × Vec 32)}
theorem lenV_rows {α : Type} {q : Rdr α} {h : Heap} {v : Value} {l : List α} (hr : Rows' q h v l) : lenV v = l.length := by
  obtain ⟨a, c, rfl, _⟩ := hr
  rfl
theorem nodeIx {h : Heap} {v : Value} {l : List Wt} (hr : Rows' Q_flurryref23_Node h v (l.map Wt.c)) {i : Nat} {x : Wt} (hi : l[i]? = some x) : ∃ g2 o, At h g2 o (Rdr.cells Q_flurryref23_Node x.c) ∧ ∀ (k : IntKind) (K : Value → Prop), ixs 66 v (.int k (i : Int)) K = K (.pointer (some ⟨g2, o, none⟩)) := by
  have h1 : (l.map Wt.c)[i]? = some x.c := by rw [List.getElem?_map, hi]; rfl
  exact Rows'.ix (q := Q_flurryref23_Node) (by decide) hr h1
theorem rhCame_spec (hs : Sep w0 w (rhH g bv vv rb rv ws vs ++ As)) (hd : DatW ws As) (hn : ws.length ≤ 1000000) (hnv : vs.length ≤ 1000000) (k : Vec 32) :
    cal P f_ref23_Hold_Came [.pointer (some ⟨g, 0, none⟩), kv k] w fun r w' => ∃ ob ov bv' vv', r = .tuple #[ob, ov] ∧
      Sep w0 w' (rhH g bv' vv' rb rv (ws.filter fun x => !decide (x.2.1.p = k)) (vs.filter fun x => !decide (x.2.2.1 = k)) ++ (rows Q_api_Block ob ((ws.filter fun x => decide (x.2.1.p = k)).map fun x => Wb x.2) :: rows Q_api_HeldVote ov (vs.filter fun x => decide (x.2.2.1 = k)) :: As)) := by
  refine s_ref23_Hold_Came fun R hR => ?_
  unfold c_ref23_Hold_Came
  refine bxQ hs fun g3 w1 hs1 => ?_
  simp only [L_api_ID hs1.blk]
  refine bldIH hs1 fun iv w2 hs2 => ?_
  replace hs2 : Sep w0 w2 (rhH g bv vv rb rv ws vs ++ (rows (rVec 32) iv [k] :: As)) := Sep.pick hs2 [2, 3, 4, 0] 5
  refine cal_i (rhOut_spec hs2 (hd.sub fun A hA => List.mem_cons_of_mem _ hA) hn hnv (Sep.rows (Sep.p3 hs2)) (by simp)) ?_
  rintro _ w3 ⟨ob, ov, bv', vv', rfl, hs3⟩
  simp only [List.mem_singleton] at hs3
  obtain ⟨ws1, hws1⟩ : ∃ ws1, ws1 = ws.filter fun x => decide (x.2.1.p = k) := ⟨_, rfl⟩
  rw [← hws1] at hs3
  have hsub : ∀ x ∈ ws1, x ∈ ws := fun x hx => by rw [hws1] at hx; exact (List.mem_filter.1 hx).1
  have hn1 : ws1.length ≤ 1000000 := by rw [hws1]; exact Nat.le_trans (List.length_filter_le _ _) hn
  obtain ⟨Y, hY⟩ : ∃ Y, Y = rows Q_flurryref23_Node ob (ws1.map Wt.c) :: (rhH g bv' vv' rb rv (ws.filter fun x => !decide (x.2.1.p = k)) (vs.filter fun x => !decide (x.2.2.1 = k)) ++ (rows Q_api_HeldVote ov (vs.filter fun x => decide (x.2.2.1 = k)) :: As)) := ⟨_, rfl⟩
  replace hs3 : Sep w0 w3 Y := by rw [hY]; exact Sep.pick hs3 [3, 0, 1, 2, 4] 6
  have fo : ∀ {z : World} {Bs : List Asn}, Sep w0 z (Bs ++ Y) → Rows' Q_flurryref23_Node z.heap ob (ws1.map Wt.c) := fun {z Bs} hz => by
    have hz := hz.dropL
    rw [hY] at hz
    exact Sep.rows hz
  have fd : ∀ {z : World} {Bs : List Asn}, Sep w0 z (Bs ++ Y) → ∀ x ∈ ws1, RdB z.heap x.2.2 x.2.1.d := fun {z Bs} hz x hx => by
    obtain ⟨F, hF⟩ := hz.onL (A := ownB x.2.2 x.2.1.d) (List.mem_append_right _ (by rw [hY]; simp [hd x (hsub x hx)]))
    exact OwnB.rd hF
  have hlo : ∀ K, lenS ob K = K (.int .i64 ws1.length) := fun K => by
    have := (fo (Bs := []) hs3).len K
    rwa [List.length_map] at this
  simp only [nilc_some, fad_mk, pik_true, pik_false, cnd_true, cnd_false, gif_same, gif_tf, gif_ft, gif_undef, bi_add, bi_sub, bi_mul, bi_eql, bi_neq, bi_lss, bi_leq, bi_gtr, bi_geq, notB_bool, cvi_int, lenS_mk, lenT_mk, ext0, ext1, ext2, nilP_mk, nilS_mk, fldv_agg, jn0_k, jn1_k, jn2_k, jn1_and, jn1_or, ex_some, Option.isNone_some, Option.isNone_none, Bool.false_bne, Bool.bne_true, Bool.bne_false, Bool.true_bne, Bool.not_true, Bool.not_false, Bool.and_true, Bool.true_and, Bool.and_false, Bool.false_and, Bool.or_true, Bool.true_or, Bool.or_false, Bool.false_or, cond_true, cond_false, List.getElem?_toArray, List.getElem?_cons_zero, List.getElem?_cons_succ, Nat.zero_add, Nat.add_zero, Nat.reduceAdd, forall_const, hlo]
  refine ⟨fun x y z => ∃ i : Nat, y = .int .i64 i ∧ i ≤ ws1.length ∧ Sep w0 z (rows Q_api_Block x ((ws1.take i).map fun x => Wb x.2) :: Y), fun _ y _ => (ws1.length - RowKit.intOf y).toNat, ⟨0, rfl, by omega, hs3.nilR⟩, ?_⟩
  clear hs3 hs2 hs1
  rintro x _ w4 ⟨i, rfl, hi, hs4⟩ -
  simp only [nilc_some, fad_mk, pik_true, pik_false, cnd_true, cnd_false, gif_same, gif_tf, gif_ft, gif_undef, bi_add, bi_sub, bi_mul, bi_eql, bi_neq, bi_lss, bi_leq, bi_gtr, bi_geq, notB_bool, cvi_int, lenS_mk, lenT_mk, ext0, ext1, ext2, nilP_mk, nilS_mk, fldv_agg, jn0_k, jn1_k, jn2_k, jn1_and, jn1_or, ex_some, Option.isNone_some, Option.isNone_none, Bool.false_bne, Bool.bne_true, Bool.bne_false, Bool.true_bne, Bool.not_true, Bool.not_false, Bool.and_true, Bool.true_and, Bool.and_false, Bool.false_and, Bool.or_true, Bool.true_or, Bool.or_false, Bool.false_or, cond_true, cond_false, List.getElem?_toArray, List.getElem?_cons_zero, List.getElem?_cons_succ, Nat.zero_add, Nat.add_zero, Nat.reduceAdd, forall_const]
  rw [cnd_bool]
  refine ⟨fun h => ?_, fun h => ?_⟩
  · have hlt : i < ws1.length := by simp at h; omega
    obtain ⟨e, he⟩ : ∃ e, ws1[i]? = some e := ⟨_, List.getElem?_eq_getElem hlt⟩
    obtain ⟨g2, o, ha, hix⟩ := nodeIx (fo (Bs := [_]) hs4) he
    simp only [nilc_some, fad_mk, pik_true, pik_false, cnd_true, cnd_false, gif_same, gif_tf, gif_ft, gif_undef, bi_add, bi_sub, bi_mul, bi_eql, bi_neq, bi_lss, bi_leq, bi_gtr, bi_geq, notB_bool, cvi_int, lenS_mk, lenT_mk, ext0, ext1, ext2, nilP_mk, nilS_mk, fldv_agg, jn0_k, jn1_k, jn2_k, jn1_and, jn1_or, ex_some, Option.isNone_some, Option.isNone_none, Bool.false_bne, Bool.bne_true, Bool.bne_false, Bool.true_bne, Bool.not_true, Bool.not_false, Bool.and_true, Bool.true_and, Bool.and_false, Bool.false_and, Bool.or_true, Bool.true_or, Bool.or_false, Bool.false_or, cond_true, cond_false, List.getElem?_toArray, List.getElem?_cons_zero, List.getElem?_cons_succ, Nat.zero_add, Nat.add_zero, Nat.reduceAdd, forall_const, hix, LA_flurryref23_Node__B ha]
    have h1d := (fd (Bs := [_]) hs4 e (List.mem_of_getElem? he)).one
    refine rows_lit (q := Q_api_Block) hs4 S_sl_api_Block (l := [Wb e.2]) (V := fun a => .agg (Rdr.cells Q_api_Block a).toArray) (fun a => rfl) rfl rfl (by decide) (by decide) fun g8 w7 hs7 => ?_
    refine rows_app (q := Q_api_Block) S_sl_api_Block U_sl_api_Block (by simp) hs7.p1 (Sep.rows hs7) ?_ (by simp; omega) (by simp; omega) fun v8 w8 hs8 => ?_
    · simp only [List.flatMap_cons, List.flatMap_nil, List.append_nil]
      exact one_api_Block h1d
    rw [wi64 (by omega) (by omega)]
    refine ⟨⟨i + 1, by simp, by omega, ?_⟩, by simp [RowKit.intOf]; omega⟩
    have e5 : ((ws1.take (i + 1)).map fun x => Wb x.2) = ((ws1.take i).map fun x => Wb x.2) ++ [Wb e.2] := by
      rw [List.take_add_one, he, List.map_append]
      rfl
    rw [e5]
    exact Sep.pick hs8 [0] 2
  · have hge : i = ws1.length := by simp at h; omega
    rw [hge, List.take_of_length_le (Nat.le_refl _), hY, hws1] at hs4
    exact hR _ _ ⟨x, ov, bv', vv', rfl, Sep.pick hs4 [2, 3, 4, 0, 5] 6⟩
theorem rhLost_spec (hs : Sep w0 w (rhH g bv vv rb rv ws vs ++ As)) (hd : DatW ws As) (hn : ws.length ≤ 900000) (hnv : vs.length ≤ 1000000) (k : Vec 32) :
    cal P f_ref23_Hold_Lost [.pointer (some ⟨g, 0, none⟩), kv k] w fun r w' => ∃ ob ov bv' vv' L, r = .tuple #[ob, ov] ∧ LostIs ws k L ∧
      Sep w0 w' (rhH g bv' vv' rb rv (ws.filter fun x => !decide (x.2.1.p ∈ L)) (vs.filter fun x => !decide (x.2.2.1 ∈ L)) ++ (rows (rVec 32) ob ((ws.filter fun x => decide (x.2.1.p ∈ L)).map (·.1)) :: rows Q_api_HeldVote ov (vs.filter fun x => decide (x.2.2.1 ∈ L)) :: As)) := by
  refine s_ref23_Hold_Lost fun R hR => ?_
  unfold c_ref23_Hold_Lost
  refine bxQ hs fun g3 w1 hs1 => ?_
  simp only [L_api_ID hs1.blk]
  refine bldIH hs1 fun iv w2 hs2 => ?_
  replace hs2 : Sep w0 w2 (rows (rVec 32) iv [k] :: (rhH g bv vv rb rv ws vs ++ As)) := Sep.pick hs2 [0, 2, 3, 4] 5
  refine ⟨fun x y z => ∃ b n, y = .bool b ∧ LG ws (lostI ws k n) ∧ (b = false → lostP ws (lostI ws k n) = lostI ws k n) ∧ Sep w0 z (rows (rVec 32) x (lostI ws k n) :: (rhH g bv vv rb rv ws vs ++ As)), fun x y _ => match y with | .bool true => ws.length + 2 - lenV x | _ => 0, ⟨true, 0, rfl, LG.one ws k, (fun h => by cases h), hs2⟩, ?_⟩
  clear hs2 hs1
  rintro x _ w6 ⟨b, n, rfl, hLG, hfix, hs6⟩ -
  generalize hLL : lostI ws k n = L at *
  rw [cnd_bool]
  refine ⟨fun h => ?_, fun h => ?_⟩
  · subst h
    refine ⟨fun x y z w' => ∃ (i : Nat) (b : Bool), z = .int .i64 i ∧ y = .bool b ∧ i ≤ ws.length ∧ LG ws ((ws.take i).foldl lostS L) ∧ (b = true → L.length < ((ws.take i).foldl lostS L).length) ∧ (b = false → (ws.take i).foldl lostS L = L) ∧ Sep w0 w' (rows (rVec 32) x ((ws.take i).foldl lostS L) :: (rhH g bv vv rb rv ws vs ++ As)), fun _ _ z _ => (ws.length - RowKit.intOf z).toNat, ⟨0, false, rfl, rfl, by omega, hLG, (fun h => by cases h), (fun _ => rfl), hs6⟩, ?_⟩
    rintro x7 _ _ w7 ⟨i, b, rfl, rfl, hi, hLi, hbt, hbf, hs7⟩ -
    have hr7 := rhH_rd hs7.tail hd
    obtain ⟨T, fr, hc⟩ := hr7.cell
    simp only [nilc_some, fad_mk, pik_true, pik_false, cnd_true, cnd_false, gif_same, gif_tf, gif_ft, gif_undef, bi_add, bi_sub, bi_mul, bi_eql, bi_neq, bi_lss, bi_leq, bi_gtr, bi_geq, notB_bool, cvi_int, lenS_mk, lenT_mk, ext0, ext1, ext2, nilP_mk, nilS_mk, fldv_agg, jn0_k, jn1_k, jn2_k, jn1_and, jn1_or, ex_some, Option.isNone_some, Option.isNone_none, Bool.false_bne, Bool.bne_true, Bool.bne_false, Bool.true_bne, Bool.not_true, Bool.not_false, Bool.and_true, Bool.true_and, Bool.and_false, Bool.false_and, Bool.or_true, Bool.true_or, Bool.or_false, Bool.false_or, cond_true, cond_false, List.getElem?_toArray, List.getElem?_cons_zero, List.getElem?_cons_succ, Nat.zero_add, Nat.add_zero, Nat.reduceAdd, forall_const, L_flurryref23_Hold hc, L_flurryref23_Hold__MaxB hc, L_flurryref23_Hold__MaxV hc, L_flurryref23_Hold__B hc, L_flurryref23_Hold__V hc, hr7.lenB]
    rw [cnd_bool]
    refine ⟨fun h => ?_, fun h => ?_⟩
    · have hlt : i < ws.length := by simp at h; omega
      obtain ⟨e, he⟩ : ∃ e, ws[i]? = some e := ⟨_, List.getElem?_eq_getElem hlt⟩
      have hem := List.mem_of_getElem? he
      have e1 : (ws.take (i + 1)).foldl lostS L = lostS ((ws.take i).foldl lostS L) e := by
        rw [List.take_add_one, he, List.foldl_append]
        rfl
      generalize hLi0 : (ws.take i).foldl lostS L = Li at *
      have hlil : Li.length ≤ 1000000 := by unfold LG at hLi; omega
      refine ⟨fun x y w' => ∃ b, y = .bool b ∧ LG ws (lostS Li e) ∧ (b = true → L.length < (lostS Li e).length) ∧ (b = false → lostS Li e = L) ∧ Sep w0 w' (rows (rVec 32) x (lostS Li e) :: (rhH g bv vv rb rv ws vs ++ As)), ?_, ?_⟩
      · obtain ⟨g2, o, ha, hix⟩ := hr7.ix he
        simp only [nilc_some, fad_mk, pik_true, pik_false, cnd_true, cnd_false, gif_same, gif_tf, gif_ft, gif_undef, bi_add, bi_sub, bi_mul, bi_eql, bi_neq, bi_lss, bi_leq, bi_gtr, bi_geq, notB_bool, cvi_int, lenS_mk, lenT_mk, ext0, ext1, ext2, nilP_mk, nilS_mk, fldv_agg, jn0_k, jn1_k, jn2_k, jn1_and, jn1_or, ex_some, Option.isNone_some, Option.isNone_none, Bool.false_bne, Bool.bne_true, Bool.bne_false, Bool.true_bne, Bool.not_true, Bool.not_false, Bool.and_true, Bool.true_and, Bool.and_false, Bool.false_and, Bool.or_true, Bool.true_or, Bool.or_false, Bool.false_or, cond_true, cond_false, List.getElem?_toArray, List.getElem?_cons_zero, List.getElem?_cons_succ, Nat.zero_add, Nat.add_zero, Nat.reduceAdd, forall_const, L_flurryref23_Hold hc, L_flurryref23_Hold__MaxB hc, L_flurryref23_Hold__MaxV hc, L_flurryref23_Hold__B hc, L_flurryref23_Hold__V hc, hix, LA_flurryref23_Node__B_Parent ha]
        refine cal_i (rhas_spec (Sep.rows hs7) hlil e.2.1.p) ?_
        rintro _ w8 ⟨rfl, hf8⟩
        have hs8 := hs7.old hf8
        have hr8 := rhH_rd hs8.tail hd
        obtain ⟨T, fr, hc⟩ := hr8.cell
        obtain ⟨g2', o', ha2, hix2⟩ := hr8.ix he
        have same : ∀ (z : World), ¬ (e.2.1.p ∈ Li ∧ e.1 ∉ Li) → Sep w0 z (rows (rVec 32) x7 Li :: (rhH g bv vv rb rv ws vs ++ As)) → ∃ b', Value.bool b = .bool b' ∧ LG ws (lostS Li e) ∧ (b' = true → L.length < (lostS Li e).length) ∧ (b' = false → lostS Li e = L) ∧ Sep w0 z (rows (rVec 32) x7 (lostS Li e) :: (rhH g bv vv rb rv ws vs ++ As)) := fun z hno hz => by
          have e2 : lostS Li e = Li := if_neg hno
          rw [e2]
          exact ⟨b, rfl, hLi, hbt, hbf, hz⟩
        by_cases hp : e.2.1.p ∈ Li
        · simp only [decide_eq_true hp, nilc_some, fad_mk, pik_true, pik_false, cnd_true, cnd_false, gif_same, gif_tf, gif_ft, gif_undef, bi_add, bi_sub, bi_mul, bi_eql, bi_neq, bi_lss, bi_leq, bi_gtr, bi_geq, notB_bool, cvi_int, lenS_mk, lenT_mk, ext0, ext1, ext2, nilP_mk, nilS_mk, fldv_agg, jn0_k, jn1_k, jn2_k, jn1_and, jn1_or, ex_some, Option.isNone_some, Option.isNone_none, Bool.false_bne, Bool.bne_true, Bool.bne_false, Bool.true_bne, Bool.not_true, Bool.not_false, Bool.and_true, Bool.true_and, Bool.and_false, Bool.false_and, Bool.or_true, Bool.true_or, Bool.or_false, Bool.false_or, cond_true, cond_false, List.getElem?_toArray, List.getElem?_cons_zero, List.getElem?_cons_succ, Nat.zero_add, Nat.add_zero, Nat.reduceAdd, forall_const, L_flurryref23_Hold hc, L_flurryref23_Hold__MaxB hc, L_flurryref23_Hold__MaxV hc, L_flurryref23_Hold__B hc, L_flurryref23_Hold__V hc, hix2, LA_flurryref23_Node__ID ha2]
          refine jn1_dup ?_
          refine cal_i (rhas_spec (Sep.rows hs8) hlil e.1) ?_
          rintro _ w9 ⟨rfl, hf9⟩
          have hs9 := hs8.old hf9
          by_cases hq : e.1 ∈ Li
          · simp only [decide_eq_true hq, nilc_some, fad_mk, pik_true, pik_false, cnd_true, cnd_false, gif_same, gif_tf, gif_ft, gif_undef, bi_add, bi_sub, bi_mul, bi_eql, bi_neq, bi_lss, bi_leq, bi_gtr, bi_geq, notB_bool, cvi_int, lenS_mk, lenT_mk, ext0, ext1, ext2, nilP_mk, nilS_mk, fldv_agg, jn0_k, jn1_k, jn2_k, jn1_and, jn1_or, ex_some, Option.isNone_some, Option.isNone_none, Bool.false_bne, Bool.bne_true, Bool.bne_false, Bool.true_bne, Bool.not_true, Bool.not_false, Bool.and_true, Bool.true_and, Bool.and_false, Bool.false_and, Bool.or_true, Bool.true_or, Bool.or_false, Bool.false_or, cond_true, cond_false, List.getElem?_toArray, List.getElem?_cons_zero, List.getElem?_cons_succ, Nat.zero_add, Nat.add_zero, Nat.reduceAdd, forall_const]
            exact same w9 (fun h => h.2 hq) hs9
          · have hr9 := rhH_rd hs9.tail hd
            obtain ⟨T, fr, hc⟩ := hr9.cell
            obtain ⟨g3', o3', ha3, hix3⟩ := hr9.ix he
            simp only [decide_eq_false hq, nilc_some, fad_mk, pik_true, pik_false, cnd_true, cnd_false, gif_same, gif_tf, gif_ft, gif_undef, bi_add, bi_sub, bi_mul, bi_eql, bi_neq, bi_lss, bi_leq, bi_gtr, bi_geq, notB_bool, cvi_int, lenS_mk, lenT_mk, ext0, ext1, ext2, nilP_mk, nilS_mk, fldv_agg, jn0_k, jn1_k, jn2_k, jn1_and, jn1_or, ex_some, Option.isNone_some, Option.isNone_none, Bool.false_bne, Bool.bne_true, Bool.bne_false, Bool.true_bne, Bool.not_true, Bool.not_false, Bool.and_true, Bool.true_and, Bool.and_false, Bool.false_and, Bool.or_true, Bool.true_or, Bool.or_false, Bool.false_or, cond_true, cond_false, List.getElem?_toArray, List.getElem?_cons_zero, List.getElem?_cons_succ, Nat.zero_add, Nat.add_zero, Nat.reduceAdd, forall_const, L_flurryref23_Hold hc, L_flurryref23_Hold__MaxB hc, L_flurryref23_Hold__MaxV hc, L_flurryref23_Hold__B hc, L_flurryref23_Hold__V hc, hix3, LA_flurryref23_Node__ID ha3]
            refine bldIH hs9 fun a w10 hs10 => ?_
            refine appIH hs10.p1 (Sep.rows hs10) hlil fun a' w11 hs11 => ?_
            have e2 : lostS Li e = Li ++ [e.1] := if_pos ⟨hp, hq⟩
            have hll : L.length ≤ Li.length := by
              cases b with
              | true => exact Nat.le_of_lt (hbt rfl)
              | false => rw [hbf rfl]; exact Nat.le_refl _
            rw [e2]
            exact ⟨true, rfl, hLi.add hem hq, (fun _ => by simp; omega), (fun h => by cases h), Sep.pick hs11 [0] 2⟩
        · simp only [decide_eq_false hp, nilc_some, fad_mk, pik_true, pik_false, cnd_true, cnd_false, gif_same, gif_tf, gif_ft, gif_undef, bi_add, bi_sub, bi_mul, bi_eql, bi_neq, bi_lss, bi_leq, bi_gtr, bi_geq, notB_bool, cvi_int, lenS_mk, lenT_mk, ext0, ext1, ext2, nilP_mk, nilS_mk, fldv_agg, jn0_k, jn1_k, jn2_k, jn1_and, jn1_or, ex_some, Option.isNone_some, Option.isNone_none, Bool.false_bne, Bool.bne_true, Bool.bne_false, Bool.true_bne, Bool.not_true, Bool.not_false, Bool.and_true, Bool.true_and, Bool.and_false, Bool.false_and, Bool.or_true, Bool.true_or, Bool.or_false, Bool.false_or, cond_true, cond_false, List.getElem?_toArray, List.getElem?_cons_zero, List.getElem?_cons_succ, Nat.zero_add, Nat.add_zero, Nat.reduceAdd, forall_const]
          exact same w8 (fun h => hp h.1) hs8
      · rintro x8 _ w8 ⟨b', rfl, h1, h2, h3, h4⟩ _
        rw [wi64 (by omega) (by omega)]
        rw [← e1] at h1 h2 h3 h4
        exact ⟨⟨i + 1, b', by simp, rfl, by omega, h1, h2, h3, h4⟩, by simp [RowKit.intOf]; omega⟩
    · have hge : i = ws.length := by simp at h; omega
      have e1 : (ws.take i).foldl lostS L = lostI ws k (n + 1) := by
        rw [hge, List.take_of_length_le (Nat.le_refl _), ← hLL]
        rfl
      have hsz := lenV_rows (Sep.rows hs6)
      have hsz7 := lenV_rows (Sep.rows hs7)
      have e3 : lostP ws L = lostI ws k (n + 1) := by rw [← hLL]; rfl
      refine ⟨⟨b, n + 1, rfl, by rw [← e1]; exact hLi, fun hb => ?_, by rw [← e1]; exact hs7⟩, ?_⟩
      · rw [← e1, hbf hb]
        rw [e3, ← e1, hbf hb]
      · unfold LG at hLG hLi
        rw [hsz, hsz7]
        cases b with
        | false => show 0 < _; omega
        | true =>
          have := hbt rfl
          show ws.length + 2 - _ < _
          omega
  · subst h
    have hfix := hfix rfl
    have hLl : L.length ≤ 1000000 := by unfold LG at hLG; omega
    have hs6' : Sep w0 w6 (rhH g bv vv rb rv ws vs ++ (rows (rVec 32) x L :: As)) := Sep.pick hs6 [1, 2, 3, 0] 4
    refine cal_i (rhOut_spec hs6' (hd.sub fun A hA => List.mem_cons_of_mem _ hA) (by omega) hnv (Sep.rows hs6) hLl) ?_
    rintro _ w7 ⟨wb, ov, bv', vv', rfl, hs7⟩
    obtain ⟨ws1, hws1⟩ : ∃ ws1, ws1 = ws.filter fun x => decide (x.2.1.p ∈ L) := ⟨_, rfl⟩
    rw [← hws1] at hs7
    have hn1 : ws1.length ≤ 1000000 := by rw [hws1]; exact Nat.le_trans (List.length_filter_le _ _) (by omega)
    obtain ⟨Y, hY⟩ : ∃ Y, Y = rows Q_flurryref23_Node wb (ws1.map Wt.c) :: (rhH g bv' vv' rb rv (ws.filter fun x => !decide (x.2.1.p ∈ L)) (vs.filter fun x => !decide (x.2.2.1 ∈ L)) ++ (rows Q_api_HeldVote ov (vs.filter fun x => decide (x.2.2.1 ∈ L)) :: As)) := ⟨_, rfl⟩
    replace hs7 : Sep w0 w7 Y := by rw [hY]; exact Sep.pick hs7 [3, 0, 1, 2, 4] 6
    have fo : ∀ {z : World} {Bs : List Asn}, Sep w0 z (Bs ++ Y) → Rows' Q_flurryref23_Node z.heap wb (ws1.map Wt.c) := fun {z Bs} hz => by
      have hz := hz.dropL
      rw [hY] at hz
      exact Sep.rows hz
    have hlo : ∀ K, lenS wb K = K (.int .i64 ws1.length) := fun K => by
      have := (fo (Bs := []) hs7).len K
      rwa [List.length_map] at this
    simp only [nilc_some, fad_mk, pik_true, pik_false, cnd_true, cnd_false, gif_same, gif_tf, gif_ft, gif_undef, bi_add, bi_sub, bi_mul, bi_eql, bi_neq, bi_lss, bi_leq, bi_gtr, bi_geq, notB_bool, cvi_int, lenS_mk, lenT_mk, ext0, ext1, ext2, nilP_mk, nilS_mk, fldv_agg, jn0_k, jn1_k, jn2_k, jn1_and, jn1_or, ex_some, Option.isNone_some, Option.isNone_none, Bool.false_bne, Bool.bne_true, Bool.bne_false, Bool.true_bne, Bool.not_true, Bool.not_false, Bool.and_true, Bool.true_and, Bool.and_false, Bool.false_and, Bool.or_true, Bool.true_or, Bool.or_false, Bool.false_or, cond_true, cond_false, List.getElem?_toArray, List.getElem?_cons_zero, List.getElem?_cons_succ, Nat.zero_add, Nat.add_zero, Nat.reduceAdd, forall_const, hlo]
    refine ⟨fun x y z => ∃ i : Nat, y = .int .i64 i ∧ i ≤ ws1.length ∧ Sep w0 z (rows (rVec 32) x ((ws1.take i).map (·.1)) :: Y), fun _ y _ => (ws1.length - RowKit.intOf y).toNat, ⟨0, rfl, by omega, hs7.nilR⟩, ?_⟩
    rintro x _ w8 ⟨i, rfl, hi, hs8⟩ -
    simp only [nilc_some, fad_mk, pik_true, pik_false, cnd_true, cnd_false, gif_same, gif_tf, gif_ft, gif_undef, bi_add, bi_sub, bi_mul, bi_eql, bi_neq, bi_lss, bi_leq, bi_gtr, bi_geq, notB_bool, cvi_int, lenS_mk, lenT_mk, ext0, ext1, ext2, nilP_mk, nilS_mk, fldv_agg, jn0_k, jn1_k, jn2_k, jn1_and, jn1_or, ex_some, Option.isNone_some, Option.isNone_none, Bool.false_bne, Bool.bne_true, Bool.bne_false, Bool.true_bne, Bool.not_true, Bool.not_false, Bool.and_true, Bool.true_and, Bool.and_false, Bool.false_and, Bool.or_true, Bool.true_or, Bool.or_false, Bool.false_or, cond_true, cond_false, List.getElem?_toArray, List.getElem?_cons_zero, List.getElem?_cons_succ, Nat.zero_add, Nat.add_zero, Nat.reduceAdd, forall_const]
    rw [cnd_bool]
    refine ⟨fun h => ?_, fun h => ?_⟩
    · have hlt : i < ws1.length := by simp at h; omega
      obtain ⟨e, he⟩ : ∃ e, ws1[i]? = some e := ⟨_, List.getElem?_eq_getElem hlt⟩
      obtain ⟨g2, o, ha, hix⟩ := nodeIx (fo (Bs := [_]) hs8) he
      simp only [nilc_some, fad_mk, pik_true, pik_false, cnd_true, cnd_false, gif_same, gif_tf, gif_ft, gif_undef, bi_add, bi_sub, bi_mul, bi_eql, bi_neq, bi_lss, bi_leq, bi_gtr, bi_geq, notB_bool, cvi_int, lenS_mk, lenT_mk, ext0, ext1, ext2, nilP_mk, nilS_mk, fldv_agg, jn0_k, jn1_k, jn2_k, jn1_and, jn1_or, ex_some, Option.isNone_some, Option.isNone_none, Bool.false_bne, Bool.bne_true, Bool.bne_false, Bool.true_bne, Bool.not_true, Bool.not_false, Bool.and_true, Bool.true_and, Bool.and_false, Bool.false_and, Bool.or_true, Bool.true_or, Bool.or_false, Bool.false_or, cond_true, cond_false, List.getElem?_toArray, List.getElem?_cons_zero, List.getElem?_cons_succ, Nat.zero_add, Nat.add_zero, Nat.reduceAdd, forall_const, hix, LA_flurryref23_Node__ID ha]
      refine bldIH hs8 fun a w10 hs10 => ?_
      refine appIH hs10.p1 (Sep.rows hs10) (by simp; omega) fun a' w11 hs11 => ?_
      rw [wi64 (by omega) (by omega)]
      refine ⟨⟨i + 1, by simp, by omega, ?_⟩, by simp [RowKit.intOf]; omega⟩
      have e5 : (ws1.take (i + 1)).map (·.1) = (ws1.take i).map (·.1) ++ [e.1] := by
        rw [List.take_add_one, he, List.map_append]
        rfl
      rw [e5]
      exact Sep.pick hs11 [0] 2
    · have hge : i = ws1.length := by simp at h; omega
      rw [hge, List.take_of_length_le (Nat.le_refl _), hY, hws1] at hs8
      exact hR _ _ ⟨x, ov, bv', vv', L, rfl, ⟨hfix, n, hLL.symm⟩, Sep.pick hs8 [2, 3, 4, 0, 5] 6⟩
end
end Go.Fx
set_option linter.unusedVariables false
set_option linter.unusedSimpArgs false
namespace Go.Fx
section
variable {w0 w w' : World} {As : List Asn} {g : Nat} {bv vv : Value} {rb rv : Int} {ws : List Wt} {vs : List (Int × Int × Vec 32 × Vec 32)}
theorem rhDrop_spec {p : Int} (hs : Sep w0 w (rhH g bv vv rb rv ws vs ++ As)) (hd : DatW ws As) (hnv : vs.length ≤ 1000000) :
    cal P f_ref23_Hold_Drop [.pointer (some ⟨g, 0, none⟩), .int .i64 p] w fun r w' => r = .int .i64 (vs.filter fun x => decide (x.1 = p)).length ∧ ∃ vv', Sep w0 w' (rhH g bv vv' rb rv ws (vs.filter fun x => !decide (x.1 = p)) ++ As) := by
  refine s_ref23_Hold_Drop fun R hR => ?_
  unfold c_ref23_Hold_Drop
  refine cal_i (rhVotes_spec (rhH_rd hs hd) hnv) ?_
  rintro _ w1 ⟨rfl, hf1⟩
  have hs1 := hs.old hf1
  refine ⟨fun x y z => ∃ i : Nat, y = .int .i64 i ∧ i ≤ vs.length ∧ Sep w0 z (rows Q_api_HeldVote x ((vs.take i).filter fun x => !decide (x.1 = p)) :: (rhH g bv vv rb rv ws vs ++ As)), fun _ y _ => (vs.length - RowKit.intOf y).toNat, ⟨0, rfl, by omega, hs1.nilR⟩, ?_⟩
  clear hs1 hs
  rintro x _ w2 ⟨i, rfl, hi, hs2⟩ -
  have hr2 := rhH_rd hs2.tail hd
  obtain ⟨T, fr, hc⟩ := hr2.cell
  simp only [nilc_some, fad_mk, pik_true, pik_false, cnd_true, cnd_false, gif_same, gif_tf, gif_ft, gif_undef, bi_add, bi_sub, bi_mul, bi_eql, bi_neq, bi_lss, bi_leq, bi_gtr, bi_geq, notB_bool, cvi_int, lenS_mk, lenT_mk, ext0, ext1, ext2, nilP_mk, nilS_mk, fldv_agg, jn0_k, jn1_k, jn2_k, jn1_and, jn1_or, ex_some, Option.isNone_some, Option.isNone_none, Bool.false_bne, Bool.bne_true, Bool.bne_false, Bool.true_bne, Bool.not_true, Bool.not_false, Bool.and_true, Bool.true_and, Bool.and_false, Bool.false_and, Bool.or_true, Bool.true_or, Bool.or_false, Bool.false_or, cond_true, cond_false, List.getElem?_toArray, List.getElem?_cons_zero, List.getElem?_cons_succ, Nat.zero_add, Nat.add_zero, Nat.reduceAdd, forall_const, L_flurryref23_Hold hc, L_flurryref23_Hold__MaxB hc, L_flurryref23_Hold__MaxV hc, L_flurryref23_Hold__B hc, L_flurryref23_Hold__V hc, hr2.vw.len]
  rw [cnd_bool]
  refine ⟨fun h => ?_, fun h => ?_⟩
  · have hlt : i < vs.length := by simp at h; omega
    obtain ⟨e, he⟩ : ∃ e, vs[i]? = some e := ⟨_, List.getElem?_eq_getElem hlt⟩
    have t2 := take_filter (fun x : Int × Int × Vec 32 × Vec 32 => !decide (x.1 = p)) he
    have l2 : ((vs.take i).filter fun x => !decide (x.1 = p)).length ≤ i := Nat.le_trans (List.length_filter_le _ _) (List.length_take_le _ _)
    obtain ⟨g2, o, ha, hix⟩ := hr2.ixV he
    refine ⟨fun a z => Sep w0 z (rows Q_api_HeldVote a ((vs.take (i + 1)).filter fun x => !decide (x.1 = p)) :: (rhH g bv vv rb rv ws vs ++ As)), ?_, ?_⟩
    · simp only [nilc_some, fad_mk, pik_true, pik_false, cnd_true, cnd_false, gif_same, gif_tf, gif_ft, gif_undef, bi_add, bi_sub, bi_mul, bi_eql, bi_neq, bi_lss, bi_leq, bi_gtr, bi_geq, notB_bool, cvi_int, lenS_mk, lenT_mk, ext0, ext1, ext2, nilP_mk, nilS_mk, fldv_agg, jn0_k, jn1_k, jn2_k, jn1_and, jn1_or, ex_some, Option.isNone_some, Option.isNone_none, Bool.false_bne, Bool.bne_true, Bool.bne_false, Bool.true_bne, Bool.not_true, Bool.not_false, Bool.and_true, Bool.true_and, Bool.and_false, Bool.false_and, Bool.or_true, Bool.true_or, Bool.or_false, Bool.false_or, cond_true, cond_false, List.getElem?_toArray, List.getElem?_cons_zero, List.getElem?_cons_succ, Nat.zero_add, Nat.add_zero, Nat.reduceAdd, forall_const, L_flurryref23_Hold hc, L_flurryref23_Hold__MaxB hc, L_flurryref23_Hold__MaxV hc, L_flurryref23_Hold__B hc, L_flurryref23_Hold__V hc, hix]
      rw [LA_api_HeldVote__Poll ha]
      simp only [nilc_some, fad_mk, pik_true, pik_false, cnd_true, cnd_false, gif_same, gif_tf, gif_ft, gif_undef, bi_add, bi_sub, bi_mul, bi_eql, bi_neq, bi_lss, bi_leq, bi_gtr, bi_geq, notB_bool, cvi_int, lenS_mk, lenT_mk, ext0, ext1, ext2, nilP_mk, nilS_mk, fldv_agg, jn0_k, jn1_k, jn2_k, jn1_and, jn1_or, ex_some, Option.isNone_some, Option.isNone_none, Bool.false_bne, Bool.bne_true, Bool.bne_false, Bool.true_bne, Bool.not_true, Bool.not_false, Bool.and_true, Bool.true_and, Bool.and_false, Bool.false_and, Bool.or_true, Bool.true_or, Bool.or_false, Bool.false_or, cond_true, cond_false, List.getElem?_toArray, List.getElem?_cons_zero, List.getElem?_cons_succ, Nat.zero_add, Nat.add_zero, Nat.reduceAdd, forall_const, LA_api_HeldVote ha]
      rw [cnd_bool]
      refine ⟨fun hk => ?_, fun hk => ?_⟩
      · have hk : ¬ e.1 = p := by simpa using hk
        refine litV hs2 fun a w3 hs3 => ?_
        refine appV hs3.p1 (Sep.rows hs3) (by omega) fun a' w4 hs4 => ?_
        rw [t2, if_pos (by simp [hk])]
        exact Sep.pick hs4 [0] 2
      · have hk : e.1 = p := by simpa using hk
        rw [t2, if_neg (by simp [hk]), List.append_nil]
        exact hs2
    · rintro a w3 hs3 _
      rw [wi64 (by omega) (by omega)]
      exact ⟨⟨i + 1, by simp, by omega, hs3⟩, by simp [RowKit.intOf]; omega⟩
  have hge : i = vs.length := by simp at h; omega
  rw [hge, List.take_of_length_le (Nat.le_refl _)] at hs2
  refine St_flurryref23_Hold__V hs2.p1 (Sep.oneR hs2) fun w3 hs3 => ?_
  exact hR _ _ ⟨rfl, x, Sep.pick hs3 [0, 2, 1] 4⟩
theorem rhClone_spec (hr : RhR w.heap g bv vv rb rv ws vs) (hn : ws.length ≤ 1000000) (hnv : vs.length ≤ 1000000) : cal P f_ref23_Hold_Clone [.pointer (some ⟨g, 0, none⟩)] w fun r w' => ∃ g' bv' vv', r = .pointer (some ⟨g', 0, none⟩) ∧ Sep w w' (rhH g' bv' vv' rb rv ws vs) := by
  refine s_ref23_Hold_Clone fun R hR => ?_
  unfold c_ref23_Hold_Clone
  refine drH_S (Sep.start w) fun w1 hs1 _ => ?_
  simp only [nilc_some, fad_mk, pik_true, pik_false, cnd_true, cnd_false, gif_same, gif_tf, gif_ft, gif_undef, bi_add, bi_sub, bi_mul, bi_eql, bi_neq, bi_lss, bi_leq, bi_gtr, bi_geq, notB_bool, cvi_int, lenS_mk, lenT_mk, ext0, ext1, ext2, nilP_mk, nilS_mk, fldv_agg, jn0_k, jn1_k, jn2_k, jn1_and, jn1_or, ex_some, Option.isNone_some, Option.isNone_none, Bool.false_bne, Bool.bne_true, Bool.bne_false, Bool.true_bne, Bool.not_true, Bool.not_false, Bool.and_true, Bool.true_and, Bool.and_false, Bool.false_and, Bool.or_true, Bool.true_or, Bool.or_false, Bool.false_or, cond_true, cond_false, List.getElem?_toArray, List.getElem?_cons_zero, List.getElem?_cons_succ, Nat.zero_add, Nat.add_zero, Nat.reduceAdd, forall_const]
  refine rdS_ld (v := .int .i64 rb) (fun u hu K hk => by obtain ⟨T, fr, hc⟩ := (hu.rh hr).cell; exact (L_flurryref23_Hold__MaxB hc K).mpr hk) ?_
  refine rdS_ld (v := .int .i64 rv) (fun u hu K hk => by obtain ⟨T, fr, hc⟩ := (hu.rh hr).cell; exact (L_flurryref23_Hold__MaxV hc K).mpr hk) ?_
  refine ⟨.agg (Rdr.cells Q_flurryref23_Hold (rb, rv, .slice none 0 0, .slice none 0 0)).toArray, fun u hu => by rw [B_flurryref23_Hold_0_1], ?_⟩
  refine efC_bx (bxQ hs1 fun g2 w2 hs2 => ?_)
  have h1b : ∀ x ∈ ws, x.2.2.oneCell' = true := fun x hx => (hr.dat x hx).one
  refine drH_S ((hs2.nilR (q := Q_flurryref23_Node))) fun w3 hs3 _ => ?_
  simp only [nilc_some, fad_mk, pik_true, pik_false, cnd_true, cnd_false, gif_same, gif_tf, gif_ft, gif_undef, bi_add, bi_sub, bi_mul, bi_eql, bi_neq, bi_lss, bi_leq, bi_gtr, bi_geq, notB_bool, cvi_int, lenS_mk, lenT_mk, ext0, ext1, ext2, nilP_mk, nilS_mk, fldv_agg, jn0_k, jn1_k, jn2_k, jn1_and, jn1_or, ex_some, Option.isNone_some, Option.isNone_none, Bool.false_bne, Bool.bne_true, Bool.bne_false, Bool.true_bne, Bool.not_true, Bool.not_false, Bool.and_true, Bool.true_and, Bool.and_false, Bool.false_and, Bool.or_true, Bool.true_or, Bool.or_false, Bool.false_or, cond_true, cond_false, List.getElem?_toArray, List.getElem?_cons_zero, List.getElem?_cons_succ, Nat.zero_add, Nat.add_zero, Nat.reduceAdd, forall_const]
  refine rdS_ld (v := .slice none 0 0) (fun u hu K hk => (L_flurryref23_Hold__B (Sep.blk hu.p1) K).mpr hk) ?_
  refine rdS_ld (v := bv) (fun u hu K hk => by obtain ⟨T, fr, hc⟩ := (hu.rh hr).cell; exact (L_flurryref23_Hold__B hc K).mpr hk) ?_
  refine efC_efP (rows_app (q := Q_flurryref23_Node) S_sl_flurryref23_Node U_sl_flurryref23_Node (by simp) hs3 (hs3.rh hr).bw ?_ (by simp; omega) (by simp; omega) fun v8 w8 hs8 => ?_)
  · intro u hu
    obtain ⟨x, hx, hu⟩ := List.mem_flatMap.1 hu
    obtain ⟨y, hy, rfl⟩ := List.mem_map.1 hx
    exact one_flurryref23_Node (h1b y hy) u hu
  rw [List.nil_append] at hs8
  refine efC_st1 (St_flurryref23_Hold__B (Sep.p1 hs8) (Sep.oneR hs8) fun w9 hs9 => ?_)
  refine drH_S ((hs9.nilR (q := Q_api_HeldVote))) fun w10 hs10 _ => ?_
  refine rdS_ld (v := .slice none 0 0) (fun u hu K hk => (L_flurryref23_Hold__V (Sep.blk hu.p1) K).mpr hk) ?_
  refine rdS_ld (v := vv) (fun u hu K hk => by obtain ⟨T, fr, hc⟩ := (hu.rh hr).cell; exact (L_flurryref23_Hold__V hc K).mpr hk) ?_
  refine efC_efP (rows_app (q := Q_api_HeldVote) S_sl_api_HeldVote U_sl_api_HeldVote (by simp) hs10 (hs10.rh hr).vw ?_ (by simp; omega) (by simp; omega) fun v11 w11 hs11 => ?_)
  · intro u hu
    obtain ⟨x, hx, hu⟩ := List.mem_flatMap.1 hu
    exact one_api_HeldVote u hu
  rw [List.nil_append] at hs11
  refine efC_st1 (St_flurryref23_Hold__V (Sep.p1 hs11) (Sep.oneR hs11) fun w12 hs12 => ?_)
  exact hR _ _ ⟨g2, v8, v11, rfl, Sep.pick hs12 [0, 2, 1] 3⟩
/-- Which blocks are the same. -/
theorem sameB_spec {u v : Value} {a b : List (Blk × Value)} (ha : Rows' Q_api_Block w.heap u (a.map Wb)) (hb : Rows' Q_api_Block w.heap v (b.map Wb)) (hda : ∀ y ∈ a, RdB w.heap y.2 y.1.d) (hdb : ∀ y ∈ b, RdB w.heap y.2 y.1.d) (hl : a.length ≤ 1000000) :
    cal P f_ref23_SameBlocks [u, v] w fun r w' => r = .bool (decide (a.map (·.1) = b.map (·.1))) ∧ Fr [] w w' := by
  refine s_ref23_SameBlocks fun R hR => ?_
  unfold c_ref23_SameBlocks
  have hla : ∀ K, lenS u K = K (.int .i64 a.length) := fun K => by
    have := ha.len K
    rwa [List.length_map] at this
  have hlb : ∀ K, lenS v K = K (.int .i64 b.length) := fun K => by
    have := hb.len K
    rwa [List.length_map] at this
  simp only [hla, hlb, nilc_some, fad_mk, pik_true, pik_false, cnd_true, cnd_false, gif_same, gif_tf, gif_ft, gif_undef, bi_add, bi_sub, bi_mul, bi_eql, bi_neq, bi_lss, bi_leq, bi_gtr, bi_geq, notB_bool, cvi_int, lenS_mk, lenT_mk, ext0, ext1, ext2, nilP_mk, nilS_mk, fldv_agg, jn0_k, jn1_k, jn2_k, jn1_and, jn1_or, ex_some, Option.isNone_some, Option.isNone_none, Bool.false_bne, Bool.bne_true, Bool.bne_false, Bool.true_bne, Bool.not_true, Bool.not_false, Bool.and_true, Bool.true_and, Bool.and_false, Bool.false_and, Bool.or_true, Bool.true_or, Bool.or_false, Bool.false_or, cond_true, cond_false, List.getElem?_toArray, List.getElem?_cons_zero, List.getElem?_cons_succ, Nat.zero_add, Nat.add_zero, Nat.reduceAdd, forall_const]
  rw [cnd_bool]
  refine ⟨fun h => ?_, fun h => ?_⟩
  · have h : a.length ≠ b.length := by simp at h; omega
    refine hR _ _ ⟨?_, Fr.refl _ _⟩
    rw [decide_eq_false fun he => h (by have := congrArg List.length he; simpa using this)]
  have hab : a.length = b.length := by simp at h; omega
  refine ⟨fun y z => ∃ i : Nat, y = .int .i64 i ∧ i ≤ a.length ∧ (a.take i).map (·.1) = (b.take i).map (·.1) ∧ Fr [] w z, fun y _ => (a.length - RowKit.intOf y).toNat, ⟨0, rfl, by omega, by simp, Fr.refl _ _⟩, ?_⟩
  rintro _ w1 ⟨i, rfl, hi, ht, hf⟩ -
  simp only [nilc_some, fad_mk, pik_true, pik_false, cnd_true, cnd_false, gif_same, gif_tf, gif_ft, gif_undef, bi_add, bi_sub, bi_mul, bi_eql, bi_neq, bi_lss, bi_leq, bi_gtr, bi_geq, notB_bool, cvi_int, lenS_mk, lenT_mk, ext0, ext1, ext2, nilP_mk, nilS_mk, fldv_agg, jn0_k, jn1_k, jn2_k, jn1_and, jn1_or, ex_some, Option.isNone_some, Option.isNone_none, Bool.false_bne, Bool.bne_true, Bool.bne_false, Bool.true_bne, Bool.not_true, Bool.not_false, Bool.and_true, Bool.true_and, Bool.and_false, Bool.false_and, Bool.or_true, Bool.true_or, Bool.or_false, Bool.false_or, cond_true, cond_false, List.getElem?_toArray, List.getElem?_cons_zero, List.getElem?_cons_succ, Nat.zero_add, Nat.add_zero, Nat.reduceAdd, forall_const]
  rw [cnd_bool]
  refine ⟨fun h => ?_, fun h => ?_⟩
  · have hlt : i < a.length := by simp at h; omega
    obtain ⟨x, hx⟩ : ∃ x, a[i]? = some x := ⟨_, List.getElem?_eq_getElem hlt⟩
    obtain ⟨y, hy⟩ : ∃ y, b[i]? = some y := ⟨_, List.getElem?_eq_getElem (by omega)⟩
    have hx' : (a.map Wb)[i]? = some (Wb x) := by rw [List.getElem?_map, hx]; rfl
    have hy' : (b.map Wb)[i]? = some (Wb y) := by rw [List.getElem?_map, hy]; rfl
    refine drH_S ((Sep.start w).old hf) fun w2 hs2 _ => ?_
    change ixs 34 _ _ _
    refine rdS_rowH (q := Q_api_Block) (by decide) hs2 (fun u hu => ha.fr (Sep.fr0 hu)) hx' .i64 ?_
    change ixs 34 _ _ _
    refine rdS_rowH (q := Q_api_Block) (by decide) hs2 (fun u hu => hb.fr (Sep.fr0 hu)) hy' .i64 ?_
    refine efC_cal (cal_i (rSame_spec (a := x.1) (b := y.1) ((hda x (List.mem_of_getElem? hx)).fr hs2.fr0 (off_nil _)) ((hdb y (List.mem_of_getElem? hy)).fr hs2.fr0 (off_nil _))) ?_)
    rintro _ w3 ⟨rfl, hf3⟩
    have hs3 := hs2.old hf3
    simp only [nilc_some, fad_mk, pik_true, pik_false, cnd_true, cnd_false, gif_same, gif_tf, gif_ft, gif_undef, bi_add, bi_sub, bi_mul, bi_eql, bi_neq, bi_lss, bi_leq, bi_gtr, bi_geq, notB_bool, cvi_int, lenS_mk, lenT_mk, ext0, ext1, ext2, nilP_mk, nilS_mk, fldv_agg, jn0_k, jn1_k, jn2_k, jn1_and, jn1_or, ex_some, Option.isNone_some, Option.isNone_none, Bool.false_bne, Bool.bne_true, Bool.bne_false, Bool.true_bne, Bool.not_true, Bool.not_false, Bool.and_true, Bool.true_and, Bool.and_false, Bool.false_and, Bool.or_true, Bool.true_or, Bool.or_false, Bool.false_or, cond_true, cond_false, List.getElem?_toArray, List.getElem?_cons_zero, List.getElem?_cons_succ, Nat.zero_add, Nat.add_zero, Nat.reduceAdd, forall_const]
    rw [cnd_bool]
    refine ⟨fun h => ?_, fun h => ?_⟩
    · have h : ¬ x.1 = y.1 := by simpa using h
      refine hR _ _ ⟨?_, hs3.fr0⟩
      rw [decide_eq_false fun he => h ?_]
      have h1 : (a.map (·.1))[i]? = some x.1 := by rw [List.getElem?_map, hx]; rfl
      rw [he, List.getElem?_map, hy] at h1
      simpa using h1.symm
    · have h : x.1 = y.1 := by simpa using h
      rw [wi64 (by omega) (by omega)]
      exact ⟨⟨i + 1, by simp, by omega, by rw [List.take_add_one, List.take_add_one, List.map_append, List.map_append, ht, hx, hy]; simp [h], hs3.fr0⟩, by simp [RowKit.intOf]; omega⟩
  · have hge : i = a.length := by simp at h; omega
    rw [hge, List.take_of_length_le (Nat.le_refl _), List.take_of_length_le (by omega)] at ht
    exact hR _ _ ⟨by rw [decide_eq_true ht], hf⟩
theorem cloneI {v : Value} {l : List (Vec 32)} (hv : Rows' (rVec 32) w.heap v l) (hl : l.length ≤ 1000000) : cal P f_slices_Clone_api_ID_api_ID [v] w fun r w' => Sep w w' [rows (rVec 32) r l] := by
  refine s_slices_Clone_api_ID_api_ID fun R hR => ?_
  unfold c_slices_Clone_api_ID_api_ID
  obtain ⟨a, c, rfl, hl', hh⟩ := id hv
  cases a with
  | none =>
    have h0 : l = [] := by
      rcases hh with h0 | ⟨_, _, _, _, _, h, _⟩
      · refine List.eq_nil_of_length_eq_zero ?_
        have : (rVec 32).size = 32 := rfl
        rw [this] at h0
        omega
      · cases h
    subst h0
    simp only [nilc_some, fad_mk, pik_true, pik_false, cnd_true, cnd_false, gif_same, gif_tf, gif_ft, gif_undef, bi_add, bi_sub, bi_mul, bi_eql, bi_neq, bi_lss, bi_leq, bi_gtr, bi_geq, notB_bool, cvi_int, lenS_mk, lenT_mk, ext0, ext1, ext2, nilP_mk, nilS_mk, fldv_agg, jn0_k, jn1_k, jn2_k, jn1_and, jn1_or, ex_some, Option.isNone_some, Option.isNone_none, Bool.false_bne, Bool.bne_true, Bool.bne_false, Bool.true_bne, Bool.not_true, Bool.not_false, Bool.and_true, Bool.true_and, Bool.and_false, Bool.false_and, Bool.or_true, Bool.true_or, Bool.or_false, Bool.false_or, cond_true, cond_false, List.getElem?_toArray, List.getElem?_cons_zero, List.getElem?_cons_succ, Nat.zero_add, Nat.add_zero, Nat.reduceAdd, forall_const]
    exact hR _ _ (Sep.start w).nilR
  | some a =>
    simp only [nilc_some, fad_mk, pik_true, pik_false, cnd_true, cnd_false, gif_same, gif_tf, gif_ft, gif_undef, bi_add, bi_sub, bi_mul, bi_eql, bi_neq, bi_lss, bi_leq, bi_gtr, bi_geq, notB_bool, cvi_int, lenS_mk, lenT_mk, ext0, ext1, ext2, nilP_mk, nilS_mk, fldv_agg, jn0_k, jn1_k, jn2_k, jn1_and, jn1_or, ex_some, Option.isNone_some, Option.isNone_none, Bool.false_bne, Bool.bne_true, Bool.bne_false, Bool.true_bne, Bool.not_true, Bool.not_false, Bool.and_true, Bool.true_and, Bool.and_false, Bool.false_and, Bool.or_true, Bool.true_or, Bool.or_false, Bool.false_or, cond_true, cond_false, List.getElem?_toArray, List.getElem?_cons_zero, List.getElem?_cons_succ, Nat.zero_add, Nat.add_zero, Nat.reduceAdd, forall_const]
    have hb1 : ∀ w : World, (Instr.buildSlice T_sl_api_ID 0 #[]).run P w = .ok (.slice (some ⟨w.heap.size, 0, none⟩) 0 0) (w.alloc (.cells ([] : List Value).toArray T_api_ID)) := fun w => by kernel_rfl
    refine build_s (size := 32) (Sep.start w) (cs := []) rfl (hb1 w) fun g w1 hs1 => ?_
    replace hs1 : Sep w w1 [rows (rVec 32) (.slice (some ⟨g, 0, none⟩) 0 0) []] := hs1
    refine rows_app S_sl_api_ID U_sl_api_ID (by simp) hs1 (hv.fr hs1.fr0) ?_ (by simp; omega) (by simp; omega) fun v8 w8 hs8 => ?_
    · intro u hu
      obtain ⟨x, hx, hu⟩ := List.mem_flatMap.1 hu
      exact oneVec u hu
    · exact hR _ _ (by simpa using hs8)
theorem cloneH {v : Value} {l : List Int} (hv : Rows' (rInt .i64) w.heap v l) (hl : l.length ≤ 1000000) : cal P f_slices_Clone_int64_int64 [v] w fun r w' => Sep w w' [rows (rInt .i64) r l] := by
  refine s_slices_Clone_int64_int64 fun R hR => ?_
  unfold c_slices_Clone_int64_int64
  obtain ⟨a, c, rfl, hl', hh⟩ := id hv
  cases a with
  | none =>
    have h0 : l = [] := by
      rcases hh with h0 | ⟨_, _, _, _, _, h, _⟩
      · refine List.eq_nil_of_length_eq_zero ?_
        have : (rInt .i64).size = 1 := rfl
        rw [this] at h0
        omega
      · cases h
    subst h0
    simp only [nilc_some, fad_mk, pik_true, pik_false, cnd_true, cnd_false, gif_same, gif_tf, gif_ft, gif_undef, bi_add, bi_sub, bi_mul, bi_eql, bi_neq, bi_lss, bi_leq, bi_gtr, bi_geq, notB_bool, cvi_int, lenS_mk, lenT_mk, ext0, ext1, ext2, nilP_mk, nilS_mk, fldv_agg, jn0_k, jn1_k, jn2_k, jn1_and, jn1_or, ex_some, Option.isNone_some, Option.isNone_none, Bool.false_bne, Bool.bne_true, Bool.bne_false, Bool.true_bne, Bool.not_true, Bool.not_false, Bool.and_true, Bool.true_and, Bool.and_false, Bool.false_and, Bool.or_true, Bool.true_or, Bool.or_false, Bool.false_or, cond_true, cond_false, List.getElem?_toArray, List.getElem?_cons_zero, List.getElem?_cons_succ, Nat.zero_add, Nat.add_zero, Nat.reduceAdd, forall_const]
    exact hR _ _ (Sep.start w).nilR
  | some a =>
    simp only [nilc_some, fad_mk, pik_true, pik_false, cnd_true, cnd_false, gif_same, gif_tf, gif_ft, gif_undef, bi_add, bi_sub, bi_mul, bi_eql, bi_neq, bi_lss, bi_leq, bi_gtr, bi_geq, notB_bool, cvi_int, lenS_mk, lenT_mk, ext0, ext1, ext2, nilP_mk, nilS_mk, fldv_agg, jn0_k, jn1_k, jn2_k, jn1_and, jn1_or, ex_some, Option.isNone_some, Option.isNone_none, Bool.false_bne, Bool.bne_true, Bool.bne_false, Bool.true_bne, Bool.not_true, Bool.not_false, Bool.and_true, Bool.true_and, Bool.and_false, Bool.false_and, Bool.or_true, Bool.true_or, Bool.or_false, Bool.false_or, cond_true, cond_false, List.getElem?_toArray, List.getElem?_cons_zero, List.getElem?_cons_succ, Nat.zero_add, Nat.add_zero, Nat.reduceAdd, forall_const]
    have hb1 : ∀ w : World, (Instr.buildSlice T_sl_int64 0 #[]).run P w = .ok (.slice (some ⟨w.heap.size, 0, none⟩) 0 0) (w.alloc (.cells ([] : List Value).toArray T_int64)) := fun w => by kernel_rfl
    refine build_s (size := 1) (Sep.start w) (cs := []) rfl (hb1 w) fun g w1 hs1 => ?_
    replace hs1 : Sep w w1 [rows (rInt .i64) (.slice (some ⟨g, 0, none⟩) 0 0) []] := hs1
    refine rows_app (q := rInt .i64) S_sl_int64 U_sl_int64 (by simp) hs1 (hv.fr hs1.fr0) ?_ (by simp; omega) (by simp; omega) fun v8 w8 hs8 => ?_
    · intro u hu
      obtain ⟨x, hx, hu⟩ := List.mem_flatMap.1 hu
      exact oneI u hu
    · exact hR _ _ (by simpa using hs8)
end
end Go.Fx
set_option linter.unusedVariables false
set_option linter.unusedSimpArgs false
namespace Go.Fx
theorem kb_noW {ws ms : List Wt} (h : ws.map Wt.kb = ms.map Wt.kb) (k : Vec 32) : (noW k ws).map Wt.kb = (noW k ms).map Wt.kb := by
  have e : ∀ l : List Wt, (noW k l).map Wt.kb = (l.map Wt.kb).find? fun y => decide (y.1 = k) := fun l => by
    rw [List.find?_map]
    rfl
  rw [e, e, h]
theorem kb_some {ws ms : List Wt} (h : ws.map Wt.kb = ms.map Wt.kb) (k : Vec 32) : (noW k ws).isSome = (noW k ms).isSome := by
  have := congrArg Option.isSome (kb_noW h k)
  rwa [Option.isSome_map, Option.isSome_map] at this
theorem kb_got {ws ms : List Wt} (h : ws.map Wt.kb = ms.map Wt.kb) (k : Vec 32) : (gotW k ws).1 = (gotW k ms).1 := by
  have e : ∀ l : List Wt, (gotW k l).1 = (((noW k l).map Wt.kb).map (·.2)).getD Blk.none := fun l => by
    unfold gotW
    cases noW k l <;> rfl
  rw [e, e, kb_noW h]
theorem kb_len {ws ms : List Wt} (h : ws.map Wt.kb = ms.map Wt.kb) : ws.length = ms.length := by
  have := congrArg List.length h
  rwa [List.length_map, List.length_map] at this
theorem kb_map {α : Type} {ws ms : List Wt} (h : ws.map Wt.kb = ms.map Wt.kb) (f : Vec 32 × Blk → α) : (ws.map fun x => f x.kb) = ms.map fun x => f x.kb := by
  have e : ∀ l : List Wt, (l.map fun x => f x.kb) = (l.map Wt.kb).map f := fun l => by rw [List.map_map]; rfl
  rw [e, e, h]
theorem kb_filter {ws ms : List Wt} (h : ws.map Wt.kb = ms.map Wt.kb) (q : Vec 32 × Blk → Bool) : (ws.filter fun x => q x.kb).map Wt.kb = (ms.filter fun x => q x.kb).map Wt.kb := by
  have e : ∀ l : List Wt, (l.filter fun x => q x.kb).map Wt.kb = (l.map Wt.kb).filter q := fun l => by rw [List.filter_map]; rfl
  rw [e, e, h]
theorem kb_any {ws ms : List Wt} (h : ws.map Wt.kb = ms.map Wt.kb) (q : Vec 32 × Blk → Bool) : (ws.any fun x => q x.kb) = ms.any fun x => q x.kb := by
  have e : ∀ l : List Wt, (l.any fun x => q x.kb) = (l.map Wt.kb).any q := fun l => by rw [List.any_map]; rfl
  rw [e, e, h]
theorem kb_wanted {ws ms : List Wt} (h : ws.map Wt.kb = ms.map Wt.kb) (vs : List (Int × Int × Vec 32 × Vec 32)) : wantedOf ws vs = wantedOf ms vs := by
  have e : wantS ws = wantS ms := by
    funext out k
    unfold wantS
    rw [kb_some h]
  have e2 : (ws.map fun x => x.2.1.p) = ms.map fun x => x.2.1.p := kb_map h fun y => y.2.p
  unfold wantedOf
  rw [e, e2]
theorem kb_lost {ws ms : List Wt} (h : ws.map Wt.kb = ms.map Wt.kb) (L : List (Vec 32)) : lostP ws L = lostP ms L := by
  have e : ∀ l : List Wt, lostP l L = (l.map Wt.kb).foldl (fun L y => if y.2.p ∈ L ∧ y.1 ∉ L then L ++ [y.1] else L) L := fun l => by
    rw [List.foldl_map]
    rfl
  rw [e, e, h]
theorem lost_add {ws : List Wt} {k : Vec 32} {n : Nat} (h : lostP ws (lostI ws k n) = lostI ws k n) (j : Nat) : lostI ws k (n + j) = lostI ws k n := by
  induction j with
  | zero => rfl
  | succ j ih =>
    show lostP ws (lostI ws k (n + j)) = _
    rw [ih, h]
theorem lost_same {ws ms : List Wt} (h : ws.map Wt.kb = ms.map Wt.kb) {k : Vec 32} {L L' : List (Vec 32)} (h1 : LostIs ws k L) (h2 : LostIs ms k L') : L = L' := by
  obtain ⟨f1, n, rfl⟩ := h1
  obtain ⟨f2, m, rfl⟩ := h2
  have e : ∀ m, lostI ms k m = lostI ws k m := fun m => by
    induction m with
    | zero => rfl
    | succ m ih => show lostP ms _ = lostP ws _; rw [ih, kb_lost h]
  rw [← kb_lost h, e] at f2
  rw [e]
  rcases Nat.le_total n m with hnm | hnm
  · have := lost_add f1 (m - n)
    rw [show n + (m - n) = m by omega] at this
    exact this.symm
  · have := lost_add f2 (n - m)
    rw [show m + (n - m) = n by omega] at this
    exact this
theorem kb_blkE {ws ms : List Wt} (h : ws.map Wt.kb = ms.map Wt.kb) (rb : Int) (b : Blk) : blkE rb ws b = blkE rb ms b := by
  unfold blkE
  rw [kb_some h, kb_len h]
theorem kb_blkId {ws ms : List Wt} (h : ws.map Wt.kb = ms.map Wt.kb) (rb : Int) (b : Blk) : blkId rb ws b = blkId rb ms b := by
  unfold blkId
  rw [kb_blkE h]
section
variable {w0 w : World} {As : List Asn}
/-- The loop that turns all bytes of what a field holds (as in TrO, for other seats). -/
theorem flip_loopH {p d : Value} {l : List UInt8} {Kend : World → Prop} (hs : Sep w0 w (ownB d l :: As)) (hp : ∀ z l', Sep w0 z (ownB d l' :: As) → ∀ K : Value → Prop, K d → ld1 p z.heap K) (hl : l.length ≤ 9223372036854775806) (h : ∀ w', Sep w0 w' (ownB d (flip l l.length) :: As) → Kend w') :
    lp1 (Value.int IntKind.i64 0) w fun _ t89 w again7 => bi BinOp.lss t89 (.int .i64 l.length) fun t90 =>
      cnd t90 (ld1 p w.heap fun t92 => ixs 1 t92 t89 fun t94 => ld1 t94 w.heap fun t95 => bi BinOp.xor t95 (Value.int IntKind.u8 255) fun t96 => ixs 1 t92 t89 fun t97 => st1 t97 t96 w fun w => bi BinOp.add t89 (Value.int IntKind.i64 1) fun t98 => again7 t98 w) (Kend w) := by
  refine ⟨fun x w' => ∃ i : Nat, x = .int .i64 i ∧ i ≤ l.length ∧ Sep w0 w' (ownB d (flip l i) :: As), fun x _ => (l.length - RowKit.intOf x).toNat, ⟨0, rfl, by omega, by rw [flip_zero]; exact hs⟩, ?_⟩
  rintro _ w1 ⟨i, rfl, hi, hs1⟩ -
  simp only [nilc_some, fad_mk, pik_true, pik_false, cnd_true, cnd_false, gif_same, gif_tf, gif_ft, gif_undef, bi_add, bi_sub, bi_mul, bi_eql, bi_neq, bi_lss, bi_leq, bi_gtr, bi_geq, notB_bool, cvi_int, lenS_mk, lenT_mk, ext0, ext1, ext2, nilP_mk, nilS_mk, fldv_agg, jn0_k, jn1_k, jn2_k, jn1_and, jn1_or, ex_some, Option.isNone_some, Option.isNone_none, Bool.false_bne, Bool.bne_true, Bool.bne_false, Bool.true_bne, Bool.not_true, Bool.not_false, Bool.and_true, Bool.true_and, Bool.and_false, Bool.false_and, Bool.or_true, Bool.true_or, Bool.or_false, Bool.false_or, cond_true, cond_false, List.getElem?_toArray, List.getElem?_cons_zero, List.getElem?_cons_succ, Nat.zero_add, Nat.add_zero, Nat.reduceAdd, forall_const]
  rw [cnd_bool]
  refine ⟨fun hlt => ?_, fun hlt => ?_⟩
  · have hlt : i < l.length := by simp at hlt; omega
    refine hp _ _ hs1 _ ?_
    refine ldxB_s hs1 (by rw [flip_len]; exact hlt) ?_
    rw [xor255, flip_get hlt]
    refine stxB_s hs1 (by rw [flip_len]; exact hlt) _ fun w2 hs2 => ?_
    rw [flip_set hlt] at hs2
    rw [wi64 (by omega) (by omega)]
    exact ⟨⟨i + 1, by simp, by omega, hs2⟩, by simp [RowKit.intOf]; omega⟩
  · have hge : i = l.length := by simp at hlt; omega
    subst hge
    exact h _ hs1
end
/-- Both holds, behind n acts; Xs: what stands beside them. -/
def BSt (w0 z : World) (gx g gr : Nat) (rb rv : Int) (n : Nat) (Xs : List Asn) : Prop :=
  ∃ bv vv rbv rvv xv yv ws ms vs ids hts E, HI ws ids hts ∧ ws.map Wt.kb = ms.map Wt.kb ∧ DatW ws (E ++ Xs) ∧ DatW ms (E ++ Xs) ∧ ws.length ≤ n ∧ vs.length ≤ n ∧ ids.length ≤ n + 1 ∧
    Sep w0 z (hdH g bv vv rb rv ws vs ++ (rhH gr rbv rvv rb rv ms vs ++ (nmB gx (.pointer (some ⟨g, 0, none⟩)) (.pointer (some ⟨gr, 0, none⟩)) xv yv :: rows (rVec 32) xv ids :: rows (rInt .i64) yv hts :: (E ++ Xs))))
section
variable {w0 w : World} {gx g gr : Nat} {rb rv : Int} {n : Nat} {Xs : List Asn}
/-- What is read of both. -/
structure BR (h : Heap) (gx g gr : Nat) (rb rv : Int) (ws ms : List Wt) (vs : List (Int × Int × Vec 32 × Vec 32)) (ids : List (Vec 32)) (bv vv rbv rvv xv yv : Value) : Prop where
  hd : HdR h g bv vv rb rv ws vs
  rd : RhR h gr rbv rvv rb rv ms vs
  fh : ∀ K : Value → Prop, K (.pointer (some ⟨g, 0, none⟩)) → Go.Fx.ld1 (.pointer (some ⟨gx, 0, none⟩)) h K
  fr : ∀ K : Value → Prop, K (.pointer (some ⟨gr, 0, none⟩)) → Go.Fx.ld1 (.pointer (some ⟨gx, 1, none⟩)) h K
  fi : ∀ K : Value → Prop, K xv → Go.Fx.ld1 (.pointer (some ⟨gx, 2, none⟩)) h K
  id : Rows' (rVec 32) h xv ids
theorem BR.of {ws ms : List Wt} {vs : List (Int × Int × Vec 32 × Vec 32)} {ids : List (Vec 32)} {hts : List Int} {bv vv rbv rvv xv yv : Value} {E : List Asn} (hd : DatW ws E) (hm : DatW ms E) (hs : Sep w0 w (hdH g bv vv rb rv ws vs ++ (rhH gr rbv rvv rb rv ms vs ++ (nmB gx (.pointer (some ⟨g, 0, none⟩)) (.pointer (some ⟨gr, 0, none⟩)) xv yv :: rows (rVec 32) xv ids :: rows (rInt .i64) yv hts :: E)))) :
    BR w.heap gx g gr rb rv ws ms vs ids bv vv rbv rvv xv yv := by
  have hb := Sep.blk (Sep.pick hs [6] 7)
  have hs2 : Sep w0 w (rhH gr rbv rvv rb rv ms vs ++ (nmB gx (.pointer (some ⟨g, 0, none⟩)) (.pointer (some ⟨gr, 0, none⟩)) xv yv :: rows (rVec 32) xv ids :: rows (rInt .i64) yv hts :: E)) := Sep.pick hs [3, 4, 5, 6, 7, 8] 9
  exact ⟨hdH_rd hs (hd.sub fun A hA => by simp [hA]), rhH_rd hs2 (hm.sub fun A hA => by simp [hA]), fun K hK => (L_flurrylaw23_both__h hb K).mpr hK, fun K hK => (L_flurrylaw23_both__r hb K).mpr hK, fun K hK => (L_flurrylaw23_both__n_ids hb K).mpr hK, Sep.rows (Sep.pick hs [7] 8)⟩
end
end Go.Fx
set_option linter.unusedVariables false
set_option linter.unusedSimpArgs false
namespace Go.Fx
section
variable {w0 w : World} {gx g gr : Nat} {rb rv : Int} {ws ms : List Wt} {vs : List (Int × Int × Vec 32 × Vec 32)} {ids : List (Vec 32)} {bv vv rbv rvv xv yv : Value}
theorem BR.fr' {w w' : World} (h : BR w.heap gx g gr rb rv ws ms vs ids bv vv rbv rvv xv yv) (hbx : ∃ T fr, w.heap[gx]? = some (.cells (Rdr.cells Q_flurrylaw23_both (.pointer (some ⟨g, 0, none⟩), .pointer (some ⟨gr, 0, none⟩), xv, yv)).toArray T fr)) (hf : Fr [] w w') : BR w'.heap gx g gr rb rv ws ms vs ids bv vv rbv rvv xv yv := by
  obtain ⟨T, fr, hb⟩ := hbx
  have hb := hf.blk hb (by simp)
  exact ⟨h.hd.fr hf, h.rd.fr hf, fun K hK => (L_flurrylaw23_both__h hb K).mpr hK, fun K hK => (L_flurrylaw23_both__r hb K).mpr hK, fun K hK => (L_flurrylaw23_both__n_ids hb K).mpr hK, h.id.fr hf⟩
theorem alike23_spec (h0 : BR w.heap gx g gr rb rv ws ms vs ids bv vv rbv rvv xv yv) (hbx : ∃ T fr, w.heap[gx]? = some (.cells (Rdr.cells Q_flurrylaw23_both (.pointer (some ⟨g, 0, none⟩), .pointer (some ⟨gr, 0, none⟩), xv, yv)).toArray T fr)) (hkb : ws.map Wt.kb = ms.map Wt.kb) (hn : ws.length ≤ 300000) (hnv : vs.length ≤ 300000) (hil : ids.length ≤ 1000000) (hl : ∀ x ∈ ws, x.2.1.d.length ≤ 200) :
    cal P f_law23_both_alike [.pointer (some ⟨gx, 0, none⟩)] w fun r w' => r = .bool true ∧ Fr [] w w' := by
  have hml := kb_len hkb
  have F : ∀ {z : World} {As : List Asn}, Sep w z As → BR z.heap gx g gr rb rv ws ms vs ids bv vv rbv rvv xv yv := fun hz => h0.fr' hbx hz.fr0
  refine s_law23_both_alike fun R hR => ?_
  unfold c_law23_both_alike
  simp only [nilc_some, fad_mk, pik_true, pik_false, cnd_true, cnd_false, gif_same, gif_tf, gif_ft, gif_undef, bi_add, bi_sub, bi_mul, bi_eql, bi_neq, bi_lss, bi_leq, bi_gtr, bi_geq, notB_bool, cvi_int, lenS_mk, lenT_mk, ext0, ext1, ext2, nilP_mk, nilS_mk, fldv_agg, jn0_k, jn1_k, jn2_k, jn1_and, jn1_or, ex_some, Option.isNone_some, Option.isNone_none, Bool.false_bne, Bool.bne_true, Bool.bne_false, Bool.true_bne, Bool.not_true, Bool.not_false, Bool.and_true, Bool.true_and, Bool.and_false, Bool.false_and, Bool.or_true, Bool.true_or, Bool.or_false, Bool.false_or, cond_true, cond_false, List.getElem?_toArray, List.getElem?_cons_zero, List.getElem?_cons_succ, Nat.zero_add, Nat.add_zero, Nat.reduceAdd, forall_const]
  refine h0.fh _ ?_
  refine cal_i (hLen_spec h0.hd) ?_
  rintro _ w1 ⟨rfl, hf1⟩
  have hs1 := (Sep.start w).old hf1
  simp only [nilc_some, fad_mk, pik_true, pik_false, cnd_true, cnd_false, gif_same, gif_tf, gif_ft, gif_undef, bi_add, bi_sub, bi_mul, bi_eql, bi_neq, bi_lss, bi_leq, bi_gtr, bi_geq, notB_bool, cvi_int, lenS_mk, lenT_mk, ext0, ext1, ext2, nilP_mk, nilS_mk, fldv_agg, jn0_k, jn1_k, jn2_k, jn1_and, jn1_or, ex_some, Option.isNone_some, Option.isNone_none, Bool.false_bne, Bool.bne_true, Bool.bne_false, Bool.true_bne, Bool.not_true, Bool.not_false, Bool.and_true, Bool.true_and, Bool.and_false, Bool.false_and, Bool.or_true, Bool.true_or, Bool.or_false, Bool.false_or, cond_true, cond_false, List.getElem?_toArray, List.getElem?_cons_zero, List.getElem?_cons_succ, Nat.zero_add, Nat.add_zero, Nat.reduceAdd, forall_const]
  refine drH_S hs1 fun w2 hs2 _ => ?_
  refine rdS_ld (v := .pointer (some ⟨gr, 0, none⟩)) (fun u hu K hk => (F hu).fr K hk) ?_
  simp only [nilc_some, fad_mk, pik_true, pik_false, cnd_true, cnd_false, gif_same, gif_tf, gif_ft, gif_undef, bi_add, bi_sub, bi_mul, bi_eql, bi_neq, bi_lss, bi_leq, bi_gtr, bi_geq, notB_bool, cvi_int, lenS_mk, lenT_mk, ext0, ext1, ext2, nilP_mk, nilS_mk, fldv_agg, jn0_k, jn1_k, jn2_k, jn1_and, jn1_or, ex_some, Option.isNone_some, Option.isNone_none, Bool.false_bne, Bool.bne_true, Bool.bne_false, Bool.true_bne, Bool.not_true, Bool.not_false, Bool.and_true, Bool.true_and, Bool.and_false, Bool.false_and, Bool.or_true, Bool.true_or, Bool.or_false, Bool.false_or, cond_true, cond_false, List.getElem?_toArray, List.getElem?_cons_zero, List.getElem?_cons_succ, Nat.zero_add, Nat.add_zero, Nat.reduceAdd, forall_const]
  refine rdS_ld (v := rbv) (fun u hu K hk => by obtain ⟨T, fr, hc⟩ := (F hu).rd.cell; exact (L_flurryref23_Hold__B hc K).mpr hk) ?_
  rw [h0.rd.lenB, hml]
  simp only [nilc_some, fad_mk, pik_true, pik_false, cnd_true, cnd_false, gif_same, gif_tf, gif_ft, gif_undef, bi_add, bi_sub, bi_mul, bi_eql, bi_neq, bi_lss, bi_leq, bi_gtr, bi_geq, notB_bool, cvi_int, lenS_mk, lenT_mk, ext0, ext1, ext2, nilP_mk, nilS_mk, fldv_agg, jn0_k, jn1_k, jn2_k, jn1_and, jn1_or, ex_some, Option.isNone_some, Option.isNone_none, Bool.false_bne, Bool.bne_true, Bool.bne_false, Bool.true_bne, Bool.not_true, Bool.not_false, Bool.and_true, Bool.true_and, Bool.and_false, Bool.false_and, Bool.or_true, Bool.true_or, Bool.or_false, Bool.false_or, cond_true, cond_false, List.getElem?_toArray, List.getElem?_cons_zero, List.getElem?_cons_succ, Nat.zero_add, Nat.add_zero, Nat.reduceAdd, forall_const, bne_self_eq_false]
  refine jn1_dup ?_
  refine rdS_ld (v := .pointer (some ⟨gr, 0, none⟩)) (fun u hu K hk => (F hu).fr K hk) ?_
  simp only [nilc_some, fad_mk, pik_true, pik_false, cnd_true, cnd_false, gif_same, gif_tf, gif_ft, gif_undef, bi_add, bi_sub, bi_mul, bi_eql, bi_neq, bi_lss, bi_leq, bi_gtr, bi_geq, notB_bool, cvi_int, lenS_mk, lenT_mk, ext0, ext1, ext2, nilP_mk, nilS_mk, fldv_agg, jn0_k, jn1_k, jn2_k, jn1_and, jn1_or, ex_some, Option.isNone_some, Option.isNone_none, Bool.false_bne, Bool.bne_true, Bool.bne_false, Bool.true_bne, Bool.not_true, Bool.not_false, Bool.and_true, Bool.true_and, Bool.and_false, Bool.false_and, Bool.or_true, Bool.true_or, Bool.or_false, Bool.false_or, cond_true, cond_false, List.getElem?_toArray, List.getElem?_cons_zero, List.getElem?_cons_succ, Nat.zero_add, Nat.add_zero, Nat.reduceAdd, forall_const]
  refine rdS_ld (v := rvv) (fun u hu K hk => by obtain ⟨T, fr, hc⟩ := (F hu).rd.cell; exact (L_flurryref23_Hold__V hc K).mpr hk) ?_
  rw [h0.rd.vw.len]
  simp only [nilc_some, fad_mk, pik_true, pik_false, cnd_true, cnd_false, gif_same, gif_tf, gif_ft, gif_undef, bi_add, bi_sub, bi_mul, bi_eql, bi_neq, bi_lss, bi_leq, bi_gtr, bi_geq, notB_bool, cvi_int, lenS_mk, lenT_mk, ext0, ext1, ext2, nilP_mk, nilS_mk, fldv_agg, jn0_k, jn1_k, jn2_k, jn1_and, jn1_or, ex_some, Option.isNone_some, Option.isNone_none, Bool.false_bne, Bool.bne_true, Bool.bne_false, Bool.true_bne, Bool.not_true, Bool.not_false, Bool.and_true, Bool.true_and, Bool.and_false, Bool.false_and, Bool.or_true, Bool.true_or, Bool.or_false, Bool.false_or, cond_true, cond_false, List.getElem?_toArray, List.getElem?_cons_zero, List.getElem?_cons_succ, Nat.zero_add, Nat.add_zero, Nat.reduceAdd, forall_const, bne_self_eq_false]
  refine jn1_dup ?_
  refine rdS_ld (v := .pointer (some ⟨g, 0, none⟩)) (fun u hu K hk => (F hu).fh K hk) ?_
  refine rdS_ld (v := .pointer (some ⟨gr, 0, none⟩)) (fun u hu K hk => (F hu).fr K hk) ?_
  refine efS_i (cal_i (hWanted_spec (F hs2).hd (by omega) (by omega) hl) ?_)
  rintro r1 w3 hs3
  replace hs3 := hs2.join hs3
  refine ⟨hs3.tail, ?_⟩
  refine efS_i (cal_i (rhWanted_spec (F hs3).rd (by omega) (by omega)) ?_)
  rintro r2 w4 hs4
  replace hs4 := hs3.join hs4
  refine ⟨hs4.tail.tail, ?_⟩
  have hwl : (wantedOf ws vs).length ≤ 1000000 := by
    have := want_len ws (ws.map (·.2.1.p) ++ vs.map (·.2.2.1)) []
    rw [← wanted_app] at this
    simp at this
    omega
  refine efS_i (cal_i (idsEqual_spec (Sep.rows hs4.p1) (Sep.rows hs4) hwl) ?_)
  rintro _ w5 ⟨rfl, hf5⟩
  have hs5 := (hs4.old hf5).tail.tail
  refine ⟨hs5, ?_⟩
  rw [decide_eq_true (kb_wanted hkb vs)]
  simp only [nilc_some, fad_mk, pik_true, pik_false, cnd_true, cnd_false, gif_same, gif_tf, gif_ft, gif_undef, bi_add, bi_sub, bi_mul, bi_eql, bi_neq, bi_lss, bi_leq, bi_gtr, bi_geq, notB_bool, cvi_int, lenS_mk, lenT_mk, ext0, ext1, ext2, nilP_mk, nilS_mk, fldv_agg, jn0_k, jn1_k, jn2_k, jn1_and, jn1_or, ex_some, Option.isNone_some, Option.isNone_none, Bool.false_bne, Bool.bne_true, Bool.bne_false, Bool.true_bne, Bool.not_true, Bool.not_false, Bool.and_true, Bool.true_and, Bool.and_false, Bool.false_and, Bool.or_true, Bool.true_or, Bool.or_false, Bool.false_or, cond_true, cond_false, List.getElem?_toArray, List.getElem?_cons_zero, List.getElem?_cons_succ, Nat.zero_add, Nat.add_zero, Nat.reduceAdd, forall_const]
  refine (F hs5).fi _ ?_
  rw [h0.id.len]
  refine ⟨fun y z => ∃ i : Nat, y = .int .i64 i ∧ i ≤ ids.length ∧ Sep w z [], fun y _ => (ids.length - RowKit.intOf y).toNat, ⟨0, rfl, by omega, hs5⟩, ?_⟩
  clear hs5 hs4 hs3 hs2 hs1
  rintro _ w6 ⟨i, rfl, hi, hs6⟩ -
  simp only [nilc_some, fad_mk, pik_true, pik_false, cnd_true, cnd_false, gif_same, gif_tf, gif_ft, gif_undef, bi_add, bi_sub, bi_mul, bi_eql, bi_neq, bi_lss, bi_leq, bi_gtr, bi_geq, notB_bool, cvi_int, lenS_mk, lenT_mk, ext0, ext1, ext2, nilP_mk, nilS_mk, fldv_agg, jn0_k, jn1_k, jn2_k, jn1_and, jn1_or, ex_some, Option.isNone_some, Option.isNone_none, Bool.false_bne, Bool.bne_true, Bool.bne_false, Bool.true_bne, Bool.not_true, Bool.not_false, Bool.and_true, Bool.true_and, Bool.and_false, Bool.false_and, Bool.or_true, Bool.true_or, Bool.or_false, Bool.false_or, cond_true, cond_false, List.getElem?_toArray, List.getElem?_cons_zero, List.getElem?_cons_succ, Nat.zero_add, Nat.add_zero, Nat.reduceAdd, forall_const]
  rw [cnd_bool]
  refine ⟨fun h => ?_, fun h => ?_⟩
  · have hlt : i < ids.length := by simp at h; omega
    obtain ⟨k, hk⟩ : ∃ k, ids[i]? = some k := ⟨_, List.getElem?_eq_getElem hlt⟩
    change ixs 32 _ _ _
    refine Rows'.ldN (q := rVec 32) (by decide) (F hs6).id hk .i64 ?_
    refine alloc_s hs6 (A_api_ID w6) fun g6 w7 hs7 => ?_
    refine St_api_ID (b := k) hs7 fun w8 hs8 => ?_
    have hgd : (gotW k ws).1.d.length ≤ 200 := by
      unfold gotW
      cases hno : noW k ws with
      | none => exact Nat.zero_le _
      | some x => exact hl x (noW_some hno).1
    refine drH_S hs8 fun w9 hs9 _ => ?_
    refine ⟨fun y e z => ∃ g7 v, y = .pointer (some ⟨g7, 0, none⟩) ∧ e = .int .i64 (if (noW k ws).isSome then 0 else 4) ∧ Sep w z [ownB v (gotW k ws).1.d, blk g7 (Rdr.cells Q_api_Block ((gotW k ws).1.p, (gotW k ws).1.h, v)).toArray T_api_Block, blk g6 (Rdr.cells (rVec 32) k).toArray T_api_ID], ?_, ?_⟩
    · refine rdS_ld (v := .pointer (some ⟨g, 0, none⟩)) (fun u hu K hk => (F hu).fh K hk) ?_
      refine ⟨kv k, fun u hu => (L_api_ID hu.blk _).mpr rfl, ?_⟩
      refine ⟨?_, ?_, trivial⟩
      · refine efC_cut (cal_i (hGet_spec (F hs9).hd (by omega) hl k) ?_)
        rintro _ w10 ⟨v, rfl, hs10⟩
        replace hs10 := hs9.join hs10
        refine ⟨fun u => Sep w u [ownB v (gotW k ws).1.d, blk g6 (Rdr.cells (rVec 32) k).toArray T_api_ID], hs10, ?_⟩
        simp only [nilc_some, fad_mk, pik_true, pik_false, cnd_true, cnd_false, gif_same, gif_tf, gif_ft, gif_undef, bi_add, bi_sub, bi_mul, bi_eql, bi_neq, bi_lss, bi_leq, bi_gtr, bi_geq, notB_bool, cvi_int, lenS_mk, lenT_mk, ext0, ext1, ext2, nilP_mk, nilS_mk, fldv_agg, jn0_k, jn1_k, jn2_k, jn1_and, jn1_or, ex_some, Option.isNone_some, Option.isNone_none, Bool.false_bne, Bool.bne_true, Bool.bne_false, Bool.true_bne, Bool.not_true, Bool.not_false, Bool.and_true, Bool.true_and, Bool.and_false, Bool.false_and, Bool.or_true, Bool.true_or, Bool.or_false, Bool.false_or, cond_true, cond_false, List.getElem?_toArray, List.getElem?_cons_zero, List.getElem?_cons_succ, Nat.zero_add, Nat.add_zero, Nat.reduceAdd, forall_const]
        refine efS_i (alloc_s hs10 (A_api_Block w10) fun g7 w11 hs11 => ⟨hs11.tail, ?_⟩)
        refine efC_stN (St_api_Block hs11 (one_api_Block (Sep.one hs11.p1)) fun w12 hs12 => ?_)
        exact ⟨g7, v, rfl, trivial, Sep.pick hs12 [1, 0, 2] 3⟩
      · refine efS_i (alloc_s hs9 (A_api_Block w9) fun g7 w10 hs10 => ⟨hs10.tail, ?_⟩)
        refine efC_cal (cal_i (hGet_spec (F hs10).hd (by omega) hl k) ?_)
        rintro _ w11 ⟨v, rfl, hs11⟩
        replace hs11 := hs10.join hs11
        simp only [nilc_some, fad_mk, pik_true, pik_false, cnd_true, cnd_false, gif_same, gif_tf, gif_ft, gif_undef, bi_add, bi_sub, bi_mul, bi_eql, bi_neq, bi_lss, bi_leq, bi_gtr, bi_geq, notB_bool, cvi_int, lenS_mk, lenT_mk, ext0, ext1, ext2, nilP_mk, nilS_mk, fldv_agg, jn0_k, jn1_k, jn2_k, jn1_and, jn1_or, ex_some, Option.isNone_some, Option.isNone_none, Bool.false_bne, Bool.bne_true, Bool.bne_false, Bool.true_bne, Bool.not_true, Bool.not_false, Bool.and_true, Bool.true_and, Bool.and_false, Bool.false_and, Bool.or_true, Bool.true_or, Bool.or_false, Bool.false_or, cond_true, cond_false, List.getElem?_toArray, List.getElem?_cons_zero, List.getElem?_cons_succ, Nat.zero_add, Nat.add_zero, Nat.reduceAdd, forall_const]
        refine efC_stN (St_api_Block hs11.p1 (one_api_Block (Sep.one hs11)) fun w12 hs12 => ?_)
        exact ⟨g7, v, rfl, trivial, Sep.pick hs12 [1, 0, 2] 3⟩
    clear hs9 hs8 hs7 hs6
    rintro _ _ w10 ⟨g7, v, rfl, rfl, hs10⟩ _
    refine drH_S hs10 fun w11 hs11 _ => ?_
    refine ⟨fun y e z => ∃ g9, y = .pointer (some ⟨g9, 0, none⟩) ∧ e = .int .i64 (if (noW k ms).isSome then 0 else 4) ∧ Sep w z [blk g9 (Rdr.cells Q_api_Block ((gotW k ms).1.p, (gotW k ms).1.h, (gotW k ms).2)).toArray T_api_Block, ownB v (gotW k ws).1.d, blk g7 (Rdr.cells Q_api_Block ((gotW k ws).1.p, (gotW k ws).1.h, v)).toArray T_api_Block, blk g6 (Rdr.cells (rVec 32) k).toArray T_api_ID], ?_, ?_⟩
    · simp only [nilc_some, fad_mk, pik_true, pik_false, cnd_true, cnd_false, gif_same, gif_tf, gif_ft, gif_undef, bi_add, bi_sub, bi_mul, bi_eql, bi_neq, bi_lss, bi_leq, bi_gtr, bi_geq, notB_bool, cvi_int, lenS_mk, lenT_mk, ext0, ext1, ext2, nilP_mk, nilS_mk, fldv_agg, jn0_k, jn1_k, jn2_k, jn1_and, jn1_or, ex_some, Option.isNone_some, Option.isNone_none, Bool.false_bne, Bool.bne_true, Bool.bne_false, Bool.true_bne, Bool.not_true, Bool.not_false, Bool.and_true, Bool.true_and, Bool.and_false, Bool.false_and, Bool.or_true, Bool.true_or, Bool.or_false, Bool.false_or, cond_true, cond_false, List.getElem?_toArray, List.getElem?_cons_zero, List.getElem?_cons_succ, Nat.zero_add, Nat.add_zero, Nat.reduceAdd, forall_const]
      refine rdS_ld (v := .pointer (some ⟨gr, 0, none⟩)) (fun u hu K hk => (F hu).fr K hk) ?_
      refine ⟨kv k, fun u hu => (L_api_ID (Sep.blk hu.p2) _).mpr rfl, ?_⟩
      refine ⟨?_, ?_, trivial⟩
      · refine efC_cut (cal_i (rhGet_spec (F hs11).rd (by omega) k) ?_)
        rintro _ w12 ⟨rfl, hf12⟩
        have hs12 := hs11.old hf12
        refine ⟨fun u => Sep w u [ownB v (gotW k ws).1.d, blk g7 (Rdr.cells Q_api_Block ((gotW k ws).1.p, (gotW k ws).1.h, v)).toArray T_api_Block, blk g6 (Rdr.cells (rVec 32) k).toArray T_api_ID], hs12, ?_⟩
        simp only [nilc_some, fad_mk, pik_true, pik_false, cnd_true, cnd_false, gif_same, gif_tf, gif_ft, gif_undef, bi_add, bi_sub, bi_mul, bi_eql, bi_neq, bi_lss, bi_leq, bi_gtr, bi_geq, notB_bool, cvi_int, lenS_mk, lenT_mk, ext0, ext1, ext2, nilP_mk, nilS_mk, fldv_agg, jn0_k, jn1_k, jn2_k, jn1_and, jn1_or, ex_some, Option.isNone_some, Option.isNone_none, Bool.false_bne, Bool.bne_true, Bool.bne_false, Bool.true_bne, Bool.not_true, Bool.not_false, Bool.and_true, Bool.true_and, Bool.and_false, Bool.false_and, Bool.or_true, Bool.true_or, Bool.or_false, Bool.false_or, cond_true, cond_false, List.getElem?_toArray, List.getElem?_cons_zero, List.getElem?_cons_succ, Nat.zero_add, Nat.add_zero, Nat.reduceAdd, forall_const]
        refine efS_i (alloc_s hs12 (A_api_Block w12) fun g9 w13 hs13 => ⟨hs13.tail, ?_⟩)
        refine efC_stN (St_api_Block hs13 (one_api_Block (gotW_one (F hs13).rd k)) fun w14 hs14 => ?_)
        exact ⟨g9, rfl, trivial, hs14⟩
      · refine efS_i (alloc_s hs11 (A_api_Block w11) fun g9 w12 hs12 => ⟨hs12.tail, ?_⟩)
        refine efC_cal (cal_i (rhGet_spec (F hs12).rd (by omega) k) ?_)
        rintro _ w13 ⟨rfl, hf13⟩
        have hs13 := hs12.old hf13
        simp only [nilc_some, fad_mk, pik_true, pik_false, cnd_true, cnd_false, gif_same, gif_tf, gif_ft, gif_undef, bi_add, bi_sub, bi_mul, bi_eql, bi_neq, bi_lss, bi_leq, bi_gtr, bi_geq, notB_bool, cvi_int, lenS_mk, lenT_mk, ext0, ext1, ext2, nilP_mk, nilS_mk, fldv_agg, jn0_k, jn1_k, jn2_k, jn1_and, jn1_or, ex_some, Option.isNone_some, Option.isNone_none, Bool.false_bne, Bool.bne_true, Bool.bne_false, Bool.true_bne, Bool.not_true, Bool.not_false, Bool.and_true, Bool.true_and, Bool.and_false, Bool.false_and, Bool.or_true, Bool.true_or, Bool.or_false, Bool.false_or, cond_true, cond_false, List.getElem?_toArray, List.getElem?_cons_zero, List.getElem?_cons_succ, Nat.zero_add, Nat.add_zero, Nat.reduceAdd, forall_const]
        refine efC_stN (St_api_Block hs13 (one_api_Block (gotW_one (F hs13).rd k)) fun w14 hs14 => ?_)
        exact ⟨g9, rfl, trivial, hs14⟩
    clear hs11 hs10
    rintro _ _ w12 ⟨g9, rfl, rfl, hs12⟩ _
    refine drH_S hs12 fun w13 hs13 _ => ?_
    have hgb : RdB w13.heap (gotW k ms).2 (gotW k ms).1.d := by
      unfold gotW
      cases hno : noW k ms with
      | none => exact rdNil w13
      | some x => exact (F hs13).rd.dat x (noW_some hno).1
    refine ⟨bq (gotW k ws).1 v, fun u hu => (L_api_Block (Sep.blk hu.p2) _).mpr rfl, ?_⟩
    refine ⟨bq (gotW k ms).1 (gotW k ms).2, fun u hu => (L_api_Block (Sep.blk hu) _).mpr rfl, ?_⟩
    refine efC_calA (w0 := w) (As := [blk g9 (Rdr.cells Q_api_Block ((gotW k ms).1.p, (gotW k ms).1.h, (gotW k ms).2)).toArray T_api_Block, ownB v (gotW k ws).1.d, blk g7 (Rdr.cells Q_api_Block ((gotW k ws).1.p, (gotW k ws).1.h, v)).toArray T_api_Block, blk g6 (Rdr.cells (rVec 32) k).toArray T_api_ID]) (cal_i (rSame_spec (a := (gotW k ws).1) (b := (gotW k ms).1) (Sep.rd hs13.p1) hgb) ?_)
    rintro _ w14 ⟨rfl, hf14⟩
    have hs14 := hs13.old hf14
    refine ⟨hs14, ?_⟩
    rw [decide_eq_true (kb_got hkb k)]
    have e1 : ((if (noW k ws).isSome = true then (0 : Int) else 4) != (if (noW k ms).isSome = true then (0 : Int) else 4)) = false := by rw [kb_some hkb, bne_self_eq_false]
    simp only [nilc_some, fad_mk, pik_true, pik_false, cnd_true, cnd_false, gif_same, gif_tf, gif_ft, gif_undef, bi_add, bi_sub, bi_mul, bi_eql, bi_neq, bi_lss, bi_leq, bi_gtr, bi_geq, notB_bool, cvi_int, lenS_mk, lenT_mk, ext0, ext1, ext2, nilP_mk, nilS_mk, fldv_agg, jn0_k, jn1_k, jn2_k, jn1_and, jn1_or, ex_some, Option.isNone_some, Option.isNone_none, Bool.false_bne, Bool.bne_true, Bool.bne_false, Bool.true_bne, Bool.not_true, Bool.not_false, Bool.and_true, Bool.true_and, Bool.and_false, Bool.false_and, Bool.or_true, Bool.true_or, Bool.or_false, Bool.false_or, cond_true, cond_false, List.getElem?_toArray, List.getElem?_cons_zero, List.getElem?_cons_succ, Nat.zero_add, Nat.add_zero, Nat.reduceAdd, forall_const, e1]
    refine jn1_dup ?_
    refine rdS_ld (v := .pointer (some ⟨g, 0, none⟩)) (fun u hu K hk => (F hu).fh K hk) ?_
    refine ⟨kv k, fun u hu => (L_api_ID (Sep.blk hu.p3) _).mpr rfl, ?_⟩
    refine rdS_ld (v := .pointer (some ⟨gr, 0, none⟩)) (fun u hu K hk => (F hu).fr K hk) ?_
    refine ⟨kv k, fun u hu => (L_api_ID (Sep.blk hu.p3) _).mpr rfl, ?_⟩
    refine efS_i (cal_i (hHas_spec (F hs14).hd (by omega) hl k) ?_)
    rintro _ w15 ⟨rfl, hf15⟩
    have hs15 := hs14.old hf15
    refine ⟨hs15, ?_⟩
    refine efS_i (cal_i (rhHas_spec (F hs15).rd (by omega) k) ?_)
    rintro _ w16 ⟨rfl, hf16⟩
    have hs16 := hs15.old hf16
    refine ⟨hs16, ?_⟩
    refine ⟨.bool false, fun u hu => by rw [neS_bool _ _ UT_bool, kb_some hkb, bne_self_eq_false], ?_⟩
    simp only [nilc_some, fad_mk, pik_true, pik_false, cnd_true, cnd_false, gif_same, gif_tf, gif_ft, gif_undef, bi_add, bi_sub, bi_mul, bi_eql, bi_neq, bi_lss, bi_leq, bi_gtr, bi_geq, notB_bool, cvi_int, lenS_mk, lenT_mk, ext0, ext1, ext2, nilP_mk, nilS_mk, fldv_agg, jn0_k, jn1_k, jn2_k, jn1_and, jn1_or, ex_some, Option.isNone_some, Option.isNone_none, Bool.false_bne, Bool.bne_true, Bool.bne_false, Bool.true_bne, Bool.not_true, Bool.not_false, Bool.and_true, Bool.true_and, Bool.and_false, Bool.false_and, Bool.or_true, Bool.true_or, Bool.or_false, Bool.false_or, cond_true, cond_false, List.getElem?_toArray, List.getElem?_cons_zero, List.getElem?_cons_succ, Nat.zero_add, Nat.add_zero, Nat.reduceAdd, forall_const]
    refine jn1_dup ?_
    refine rdS_ld (v := .pointer (some ⟨g, 0, none⟩)) (fun u hu K hk => (F hu).fh K hk) ?_
    refine ⟨kv k, fun u hu => (L_api_ID (Sep.blk hu.p3) _).mpr rfl, ?_⟩
    refine rdS_ld (v := .pointer (some ⟨gr, 0, none⟩)) (fun u hu K hk => (F hu).fr K hk) ?_
    refine ⟨kv k, fun u hu => (L_api_ID (Sep.blk hu.p3) _).mpr rfl, ?_⟩
    refine efS_i (cal_i (hWants_spec (F hs16).hd (by omega) (by omega) k) ?_)
    rintro _ w17 ⟨rfl, hf17⟩
    have hs17 := hs16.old hf17
    refine ⟨hs17, ?_⟩
    refine efS_i (cal_i (rhWants_spec (F hs17).rd (by omega) (by omega) k) ?_)
    rintro _ w18 ⟨rfl, hf18⟩
    have hs18 := hs17.old hf18
    refine ⟨hs18, ?_⟩
    have e2 : (ws.any fun x => decide (x.2.1.p = k)) = ms.any fun x => decide (x.2.1.p = k) := kb_any hkb fun y => decide (y.2.p = k)
    refine ⟨.bool false, fun u hu => by rw [neS_bool _ _ UT_bool, e2, bne_self_eq_false], ?_⟩
    have e3 : ∀ K, lenS v K = K (.int .i64 (gotW k ws).1.d.length) := (Sep.rd hs18.p1).len
    simp only [nilc_some, fad_mk, pik_true, pik_false, cnd_true, cnd_false, gif_same, gif_tf, gif_ft, gif_undef, bi_add, bi_sub, bi_mul, bi_eql, bi_neq, bi_lss, bi_leq, bi_gtr, bi_geq, notB_bool, cvi_int, lenS_mk, lenT_mk, ext0, ext1, ext2, nilP_mk, nilS_mk, fldv_agg, jn0_k, jn1_k, jn2_k, jn1_and, jn1_or, ex_some, Option.isNone_some, Option.isNone_none, Bool.false_bne, Bool.bne_true, Bool.bne_false, Bool.true_bne, Bool.not_true, Bool.not_false, Bool.and_true, Bool.true_and, Bool.and_false, Bool.false_and, Bool.or_true, Bool.true_or, Bool.or_false, Bool.false_or, cond_true, cond_false, List.getElem?_toArray, List.getElem?_cons_zero, List.getElem?_cons_succ, Nat.zero_add, Nat.add_zero, Nat.reduceAdd, forall_const, L_api_Block (Sep.blk hs18.p2), L_api_Block__Parent (Sep.blk hs18.p2), L_api_Block__Height (Sep.blk hs18.p2), L_api_Block__Data (Sep.blk hs18.p2), e3]
    refine flip_loopH hs18.p1 (fun z l' hz K hk => (L_api_Block__Data (Sep.blk (Sep.p2 hz)) K).mpr hk) (by omega) fun w19 hs19 => ?_
    rw [wi64 (by omega) (by omega)]
    exact ⟨⟨i + 1, by simp, by omega, Sep.pick hs19 [] 4⟩, by simp [RowKit.intOf]; omega⟩
  refine ⟨fun y z => ∃ i : Nat, y = .int .i64 ((i : Int) - 1) ∧ i ≤ 5 ∧ Sep w z [], fun y _ => (4 - RowKit.intOf y).toNat, ⟨0, rfl, by omega, hs6⟩, ?_⟩
  clear hs6 h
  rintro _ w7 ⟨i, rfl, hi, hs7⟩ -
  simp only [nilc_some, fad_mk, pik_true, pik_false, cnd_true, cnd_false, gif_same, gif_tf, gif_ft, gif_undef, bi_add, bi_sub, bi_mul, bi_eql, bi_neq, bi_lss, bi_leq, bi_gtr, bi_geq, notB_bool, cvi_int, lenS_mk, lenT_mk, ext0, ext1, ext2, nilP_mk, nilS_mk, fldv_agg, jn0_k, jn1_k, jn2_k, jn1_and, jn1_or, ex_some, Option.isNone_some, Option.isNone_none, Bool.false_bne, Bool.bne_true, Bool.bne_false, Bool.true_bne, Bool.not_true, Bool.not_false, Bool.and_true, Bool.true_and, Bool.and_false, Bool.false_and, Bool.or_true, Bool.true_or, Bool.or_false, Bool.false_or, cond_true, cond_false, List.getElem?_toArray, List.getElem?_cons_zero, List.getElem?_cons_succ, Nat.zero_add, Nat.add_zero, Nat.reduceAdd, forall_const]
  rw [cnd_bool]
  refine ⟨fun h => ?_, fun h => hR _ _ ⟨rfl, hs7.fr0⟩⟩
  have hlt : i < 5 := by simp at h; omega
  refine drH_S hs7 fun w8 hs8 _ => ?_
  refine rdS_ld (v := .pointer (some ⟨g, 0, none⟩)) (fun u hu K hk => (F hu).fh K hk) ?_
  refine rdS_ld (v := .pointer (some ⟨gr, 0, none⟩)) (fun u hu K hk => (F hu).fr K hk) ?_
  refine efS_i (cal_i (hVotes_spec (p := (i : Int) - 1) (F hs8).hd (by omega)) ?_)
  rintro _ w9 ⟨rfl, hf9⟩
  have hs9 := hs8.old hf9
  refine ⟨hs9, ?_⟩
  refine efC_cal (cal_i (rhVotes_spec (p := (i : Int) - 1) (F hs9).rd (by omega)) ?_)
  rintro _ w10 ⟨rfl, hf10⟩
  have hs10 := hs9.old hf10
  simp only [nilc_some, fad_mk, pik_true, pik_false, cnd_true, cnd_false, gif_same, gif_tf, gif_ft, gif_undef, bi_add, bi_sub, bi_mul, bi_eql, bi_neq, bi_lss, bi_leq, bi_gtr, bi_geq, notB_bool, cvi_int, lenS_mk, lenT_mk, ext0, ext1, ext2, nilP_mk, nilS_mk, fldv_agg, jn0_k, jn1_k, jn2_k, jn1_and, jn1_or, ex_some, Option.isNone_some, Option.isNone_none, Bool.false_bne, Bool.bne_true, Bool.bne_false, Bool.true_bne, Bool.not_true, Bool.not_false, Bool.and_true, Bool.true_and, Bool.and_false, Bool.false_and, Bool.or_true, Bool.true_or, Bool.or_false, Bool.false_or, cond_true, cond_false, List.getElem?_toArray, List.getElem?_cons_zero, List.getElem?_cons_succ, Nat.zero_add, Nat.add_zero, Nat.reduceAdd, forall_const, bne_self_eq_false]
  rw [wi64 (by omega) (by omega)]
  exact ⟨⟨i + 1, by simp, by omega, hs10⟩, by simp [RowKit.intOf]; omega⟩
end
end Go.Fx
set_option linter.unusedVariables false
set_option linter.unusedSimpArgs false
namespace Go.Fx
/-- What waits behind a block that came in, and what came with it. -/
def BlkR (rb : Int) (ws : List Wt) (b : Blk) (ws' : List Wt) (Z : List Asn) : Prop :=
  (blkE rb ws b ≠ 0 ∧ ws' = ws ∧ Z = []) ∨ (blkE rb ws b = 0 ∧ ∃ vd, ws' = ws ++ [(b.id, b, vd)] ∧ Z = [ownB vd b.d])
def addK (rb : Int) (ws : List Wt) (b : Blk) : List (Vec 32 × Blk) := if blkE rb ws b = 0 then [(b.id, b)] else []
theorem BlkR.kb {rb : Int} {ws ws' : List Wt} {b : Blk} {Z : List Asn} (h : BlkR rb ws b ws' Z) : ws'.map Wt.kb = ws.map Wt.kb ++ addK rb ws b := by
  unfold addK
  rcases h with ⟨h1, rfl, _⟩ | ⟨h1, vd, rfl, _⟩
  · rw [if_neg h1, List.append_nil]
  · rw [if_pos h1, List.map_append]
    rfl
theorem BlkR.dat {rb : Int} {ws ws' : List Wt} {b : Blk} {Z As : List Asn} (h : BlkR rb ws b ws' Z) (hd : DatW ws As) : DatW ws' (Z ++ As) := by
  rcases h with ⟨_, rfl, rfl⟩ | ⟨_, vd, rfl, rfl⟩
  · exact hd
  · exact hd.app
theorem BlkR.len {rb : Int} {ws ws' : List Wt} {b : Blk} {Z : List Asn} (h : BlkR rb ws b ws' Z) : ws'.length ≤ ws.length + 1 := by
  rcases h with ⟨_, rfl, _⟩ | ⟨_, vd, rfl, _⟩ <;> simp
theorem BlkR.hi {rb : Int} {ws ws' : List Wt} {b : Blk} {Z : List Asn} {ids : List (Vec 32)} {hts : List Int} (h : BlkR rb ws b ws' Z) (hI : HI ws ids hts) (hh : b.h ≤ maxI) : HI ws' (addI ids b) (addH hts b) := by
  rcases h with ⟨_, rfl, _⟩ | ⟨h1, vd, rfl, _⟩
  · exact hI.name b
  · exact (hI.name b).block h1 hh
theorem addK_kb {ws ms : List Wt} (h : ws.map Wt.kb = ms.map Wt.kb) (rb : Int) (b : Blk) : addK rb ws b = addK rb ms b := by
  unfold addK
  rw [kb_blkE h]
section
variable {w0 w : World} {As : List Asn} {gx g gr : Nat} {rb rv : Int} {n : Nat} {Xs : List Asn} {bv vv : Value} {ws : List Wt} {vs : List (Int × Int × Vec 32 × Vec 32)}
theorem hBlockU {b : Blk} {v : Value} (hs : Sep w0 w (hdH g bv vv rb rv ws vs ++ As)) (hd : DatW ws As) (hC : Cub w) (hb : RdB w.heap v b.d) (hh : b.h ≤ maxI) (hn : ws.length ≤ 1000000) (hl : ∀ x ∈ ws, x.2.1.d.length ≤ 200) :
    cal P f_hold_Hold_Block [.pointer (some ⟨g, 0, none⟩), bq b v] w fun r w' => r = .tuple #[kv (blkId rb ws b), .int .i64 (blkE rb ws b)] ∧ ∃ bv' ws' Z, BlkR rb ws b ws' Z ∧ Sep w0 w' (hdH g bv' vv rb rv ws' vs ++ (Z ++ As)) := by
  refine cal_i (hBlock_spec hs hd hC hb hh hn hl) ?_
  rintro r w' ⟨h1, ⟨hE, hs'⟩ | ⟨hE, bv', vd, hs'⟩⟩
  · exact ⟨h1, bv, ws, [], .inl ⟨hE, rfl, rfl⟩, hs'⟩
  · exact ⟨h1, bv', _, _, .inr ⟨hE, vd, rfl, rfl⟩, hs'⟩
theorem rhBlockU {b : Blk} {v : Value} (hs : Sep w0 w (rhH g bv vv rb rv ws vs ++ As)) (hd : DatW ws As) (hb : RdB w.heap v b.d) (hh : b.h ≤ maxI) (hn : ws.length ≤ 1000000) :
    cal P f_ref23_Hold_Block [.pointer (some ⟨g, 0, none⟩), bq b v] w fun r w' => r = .tuple #[kv (blkId rb ws b), .int .i64 (blkE rb ws b)] ∧ ∃ bv' ws' Z, BlkR rb ws b ws' Z ∧ Sep w0 w' (rhH g bv' vv rb rv ws' vs ++ (Z ++ As)) := by
  refine cal_i (rhBlock_spec hs hd hb hh hn) ?_
  rintro r w' ⟨h1, ⟨hE, hs'⟩ | ⟨hE, bv', vd, hs'⟩⟩
  · exact ⟨h1, bv, ws, [], .inl ⟨hE, rfl, rfl⟩, hs'⟩
  · exact ⟨h1, bv', _, _, .inr ⟨hE, vd, rfl, rfl⟩, hs'⟩
theorem Sep.past {Z L T : List Asn} (h : Sep w0 w (Z ++ (L ++ T))) : Sep w0 w (L ++ (Z ++ T)) := h.perm (List.perm_append_comm_assoc Z L T)
theorem Sep.pastH {H Z L E Xs : List Asn} (h : Sep w0 w (H ++ (Z ++ (L ++ (E ++ Xs))))) : Sep w0 w (H ++ (L ++ ((Z ++ E) ++ Xs))) := by
  rw [List.append_assoc]
  exact h.perm (List.Perm.append_left _ (List.perm_append_comm_assoc Z L (E ++ Xs)))
/-- All that stands of both. -/
abbrev bothL (gx g gr : Nat) (rb rv : Int) (bv vv : Value) (ws : List Wt) (vs : List (Int × Int × Vec 32 × Vec 32)) (rbv rvv : Value) (ms : List Wt) (xv yv : Value) (ids : List (Vec 32)) (hts : List Int) (T : List Asn) : List Asn :=
  hdH g bv vv rb rv ws vs ++ (rhH gr rbv rvv rb rv ms vs ++ (nmB gx (.pointer (some ⟨g, 0, none⟩)) (.pointer (some ⟨gr, 0, none⟩)) xv yv :: rows (rVec 32) xv ids :: rows (rInt .i64) yv hts :: T))
theorem does_block {a : AA} {R : Value → World → Prop} {g3 : Nat} {z : World} {rbv rvv xv yv : Value} {ms : List Wt} {ids : List (Vec 32)} {hts : List Int} {E : List Asn} (hC : Cub w0) (hda : RdB w0.heap a.dv a.d ∧ RdB w0.heap a.bv a.b.d) (hak : a.k < 256 ∧ a.b.h ≤ maxI) (hsm : a.d.length ≤ 1000 ∧ a.b.d.length ≤ 1000) (hn : n ≤ 1000)
    (hI : HI ws ids hts) (hkb : ws.map Wt.kb = ms.map Wt.kb) (hD : DatW ws (E ++ Xs)) (hM : DatW ms (E ++ Xs)) (hwl : ws.length ≤ n) (hvl : vs.length ≤ n) (hil : ids.length ≤ n + 1)
    (hs : Sep w0 z (blk g3 (Rdr.cells Q_flurrylaw23_Act a.t).toArray T_flurrylaw23_Act :: bothL gx g gr rb rv bv vv ws vs rbv rvv ms xv yv ids hts (E ++ Xs)))
    (hR : ∀ w', BSt w0 w' gx g gr rb rv (n + 1) Xs → R (.bool true) w') :
  drH z fun S w =>
  jn1 (fun k0 =>
  nilc (.pointer (some ⟨gx, 0, none⟩)) fun t30 =>
  fad 2 t30 fun t31 =>
  rdS S (fun w => ldN 40 (.pointer (some ⟨g3, 0, none⟩)) w.heap) fun t32 =>
  (efC (cal P f_law23_names_block [t31, t32]) w fun S t33_1 w =>
  efS S (efP P (Instr.alloc T_api_Block true (.tuple #[]))) w fun t5_1 w =>
  efC (fun w K => stN 34 t5_1 t33_1 w (K undef)) w fun S _ w =>
  k0 t5_1 w) ∧
  ((efS S (efP P (Instr.alloc T_api_Block true (.tuple #[]))) w fun t5 w =>
  efC (cal P f_law23_names_block [t31, t32]) w fun S t33 w =>
  efC (fun w K => stN 34 t5 t33 w (K undef)) w fun S _ w =>
  k0 t5 w) ∧
  (True))) fun _ t5_2 w =>
  ldN 34 t5_2 w.heap fun t34 =>
  cal P f_ref03_Clone [t34] w fun t35 w =>
  efP P (Instr.alloc T_api_Block true (.tuple #[])) w fun t6 w =>
  stN 34 t6 t35 w fun w =>
  drH w fun S w =>
  jn2 (fun k1 =>
  nilc (.pointer (some ⟨gx, 0, none⟩)) fun t38 =>
  fad 0 t38 fun t39 =>
  rdS S (fun w => ld1 t39 w.heap) fun t40 =>
  rdS S (fun w => ldN 34 t6 w.heap) fun t41 =>
  (efC (cal P f_hold_Hold_Block [t40, t41]) w fun S t42_1 w =>
  ext 0 t42_1 fun t43_1 =>
  ext 1 t42_1 fun t44_1 =>
  efS S (efP P (Instr.alloc T_api_ID true (.tuple #[]))) w fun t7_1 w =>
  efC (fun w K => stN 32 t7_1 t43_1 w (K undef)) w fun S _ w =>
  k1 t7_1 t44_1 w) ∧
  ((efS S (efP P (Instr.alloc T_api_ID true (.tuple #[]))) w fun t7 w =>
  efC (cal P f_hold_Hold_Block [t40, t41]) w fun S t42 w =>
  ext 0 t42 fun t43 =>
  ext 1 t42 fun t44 =>
  efC (fun w K => stN 32 t7 t43 w (K undef)) w fun S _ w =>
  k1 t7 t44 w) ∧
  (True))) fun _ t7_2 t8 w =>
  fad 33 t6 fun t45 =>
  ld1 t45 w.heap fun t46 =>
  lenS t46 fun t47 =>
  lp1 (Value.int IntKind.i64 0) w fun _ t48 w again2 =>
  bi BinOp.lss t48 t47 fun t49 =>
  cnd t49
  (fad 33 t6 fun t51 =>
  ld1 t51 w.heap fun t52 =>
  ixs 1 t52 t48 fun t54 =>
  ld1 t54 w.heap fun t55 =>
  bi BinOp.xor t55 (Value.int IntKind.u8 255) fun t56 =>
  ixs 1 t52 t48 fun t57 =>
  st1 t57 t56 w fun w =>
  bi BinOp.add t48 (Value.int IntKind.i64 1) fun t58 =>
  again2 t58 w)
  (drH w fun S w =>
  jn2 (fun k3 =>
  nilc (.pointer (some ⟨gx, 0, none⟩)) fun t61 =>
  fad 1 t61 fun t62 =>
  rdS S (fun w => ld1 t62 w.heap) fun t63 =>
  rdS S (fun w => ldN 34 t5_2 w.heap) fun t64 =>
  (efC (cal P f_ref23_Hold_Block [t63, t64]) w fun S t65_1 w =>
  ext 0 t65_1 fun t66_1 =>
  ext 1 t65_1 fun t67_1 =>
  efS S (efP P (Instr.alloc T_api_ID true (.tuple #[]))) w fun t10_1 w =>
  efC (fun w K => stN 32 t10_1 t66_1 w (K undef)) w fun S _ w =>
  k3 t10_1 t67_1 w) ∧
  ((efS S (efP P (Instr.alloc T_api_ID true (.tuple #[]))) w fun t10 w =>
  efC (cal P f_ref23_Hold_Block [t63, t64]) w fun S t65 w =>
  ext 0 t65 fun t66 =>
  ext 1 t65 fun t67 =>
  efC (fun w K => stN 32 t10 t66 w (K undef)) w fun S _ w =>
  k3 t10 t67 w) ∧
  (True))) fun _ t10_2 t11 w =>
  ldN 32 t7_2 w.heap fun t68 =>
  ldN 32 t10_2 w.heap fun t69 =>
  rdP P (eqS BinOp.eql T_api_ID (Operand.tmp 68) (Operand.tmp 69) t68 t69) w fun t70 =>
  jn1 (fun k4 =>
  gif t70 true
  (bi BinOp.eql t8 t11 fun t74 =>
  k4 t74 w)
  (k4 undef w)) fun _ t74_1 w =>
  pik t70 t74_1 (Value.bool false) fun t75 =>
  R t75 w) := by
  obtain ⟨b, hb⟩ : ∃ b, b = bA ids hts a := ⟨_, rfl⟩
  have hbh : b.h ≤ maxI := by rw [hb]; exact bA_h hak.2
  have hbd : ∀ {z : World}, Fr [] w0 z → RdB z.heap a.v b.d := fun {z} hz => by
    rw [hb]
    exact bA_rd ⟨hda.1.fr hz (off_nil _), hda.2.fr hz (off_nil _)⟩
  have hbl : b.d.length ≤ 1000 := by
    rw [hb]
    unfold bA
    cases a.raw
    · exact hsm.1
    · exact hsm.2
  have hal := addI_len ids b
  refine drH_S hs fun w2 hs2 _ => ?_
  refine ⟨fun y z => ∃ g5 xv' yv', y = .pointer (some ⟨g5, 0, none⟩) ∧ Sep w0 z (blk g5 (Rdr.cells Q_api_Block (b.p, b.h, a.v)).toArray T_api_Block :: bothL gx g gr rb rv bv vv ws vs rbv rvv ms xv' yv' (addI ids b) (addH hts b) (E ++ Xs)), ?_, ?_⟩
  · simp only [nilc_some, fad_mk, pik_true, pik_false, cnd_true, cnd_false, gif_same, gif_tf, gif_ft, gif_undef, bi_add, bi_sub, bi_mul, bi_eql, bi_neq, bi_lss, bi_leq, bi_gtr, bi_geq, notB_bool, cvi_int, lenS_mk, lenT_mk, ext0, ext1, ext2, nilP_mk, nilS_mk, fldv_agg, jn0_k, jn1_k, jn2_k, jn1_and, jn1_or, ex_some, Option.isNone_some, Option.isNone_none, Bool.false_bne, Bool.bne_true, Bool.bne_false, Bool.true_bne, Bool.not_true, Bool.not_false, Bool.and_true, Bool.true_and, Bool.and_false, Bool.false_and, Bool.or_true, Bool.true_or, Bool.or_false, Bool.false_or, cond_true, cond_false, List.getElem?_toArray, List.getElem?_cons_zero, List.getElem?_cons_succ, Nat.zero_add, Nat.add_zero, Nat.reduceAdd, forall_const]
    refine ⟨.agg (Rdr.cells Q_flurrylaw23_Act a.t).toArray, fun u hu => (L_flurrylaw23_Act (Sep.blk hu) _).mpr rfl, ?_⟩
    refine ⟨?_, ?_, trivial⟩
    · refine efC_cut (cal_i (names_block_spec (x := a) (nmP_B gx (.pointer (some ⟨g, 0, none⟩)) (.pointer (some ⟨gr, 0, none⟩))) (Sep.pick hs2 [7, 8, 9, 0, 1, 2, 3, 4, 5, 6] 10) hI.hl hI.h0 (by omega) hda hI.hp hak.1 hak.2) ?_)
      rw [← hb]
      rintro _ w3 ⟨rfl, xv', yv', hs3⟩
      have hs3' : Sep w0 w3 (bothL gx g gr rb rv bv vv ws vs rbv rvv ms xv' yv' (addI ids b) (addH hts b) (E ++ Xs)) := Sep.pick hs3 [4, 5, 6, 7, 8, 9, 0, 1, 2] 10
      refine ⟨fun u => Sep w0 u (bothL gx g gr rb rv bv vv ws vs rbv rvv ms xv' yv' (addI ids b) (addH hts b) (E ++ Xs)), hs3', ?_⟩
      refine efS_i (alloc_s hs3' (A_api_Block w3) fun g5 w4 hs4 => ⟨hs4.tail, ?_⟩)
      refine efC_stN (St_api_Block (b := (b.p, b.h, a.v)) hs4 (one_api_Block (hbd hs4.fr0).one) fun w5 hs5 => ?_)
      exact ⟨g5, xv', yv', rfl, hs5⟩
    · refine efS_i (alloc_s hs2 (A_api_Block w2) fun g5 w3 hs3 => ⟨hs3.tail, ?_⟩)
      refine efC_cal (cal_i (names_block_spec (x := a) (nmP_B gx (.pointer (some ⟨g, 0, none⟩)) (.pointer (some ⟨gr, 0, none⟩))) (Sep.pick hs3 [8, 9, 10, 0, 1, 2, 3, 4, 5, 6, 7] 11) hI.hl hI.h0 (by omega) hda hI.hp hak.1 hak.2) ?_)
      rw [← hb]
      rintro _ w4 ⟨rfl, xv', yv', hs4⟩
      refine efC_stN (St_api_Block (b := (b.p, b.h, a.v)) (Sep.pick hs4 [3, 5, 6, 7, 8, 9, 10, 0, 1, 2] 11) (one_api_Block (hbd hs4.fr0).one) fun w5 hs5 => ?_)
      exact ⟨g5, xv', yv', rfl, hs5⟩
  clear hs2 hs
  rintro _ w6 ⟨g5, xv', yv', rfl, hs6⟩ _
  generalize hids : addI ids b = ids' at *
  generalize hhts : addH hts b = hts' at *
  simp only [L_api_Block hs6.blk, L_api_Block__Parent hs6.blk, L_api_Block__Height hs6.blk, L_api_Block__Data hs6.blk]
  refine cal_i (rbClone_spec (b := b) (v := a.v) (hbd hs6.fr0) (by omega)) ?_
  rintro _ w7 ⟨vo, rfl, hs7⟩
  replace hs7 := hs6.join hs7
  refine alloc_s hs7 (A_api_Block w7) fun g6 w8 hs8 => ?_
  refine St_api_Block hs8 (one_api_Block (Sep.one hs8.p1)) fun w9 hs9 => ?_
  replace hs9 : Sep w0 w9 (blk g6 (Rdr.cells Q_api_Block (b.p, b.h, vo)).toArray T_api_Block :: ownB vo b.d :: blk g5 (Rdr.cells Q_api_Block (b.p, b.h, a.v)).toArray T_api_Block :: bothL gx g gr rb rv bv vv ws vs rbv rvv ms xv' yv' ids' hts' (E ++ Xs)) := hs9
  clear hs8 hs7 hs6
  refine drH_S hs9 fun w10 hs10 _ => ?_
  refine ⟨fun y e z => ∃ g7 bv' ws' Z, y = .pointer (some ⟨g7, 0, none⟩) ∧ e = .int .i64 (blkE rb ws b) ∧ BlkR rb ws b ws' Z ∧ Sep w0 z (ownB vo b.d :: blk g7 (Rdr.cells (rVec 32) (blkId rb ws b)).toArray T_api_ID :: blk g6 (Rdr.cells Q_api_Block (b.p, b.h, vo)).toArray T_api_Block :: blk g5 (Rdr.cells Q_api_Block (b.p, b.h, a.v)).toArray T_api_Block :: bothL gx g gr rb rv bv' vv ws' vs rbv rvv ms xv' yv' ids' hts' ((Z ++ E) ++ Xs)), ?_, ?_⟩
  · simp only [nilc_some, fad_mk, pik_true, pik_false, cnd_true, cnd_false, gif_same, gif_tf, gif_ft, gif_undef, bi_add, bi_sub, bi_mul, bi_eql, bi_neq, bi_lss, bi_leq, bi_gtr, bi_geq, notB_bool, cvi_int, lenS_mk, lenT_mk, ext0, ext1, ext2, nilP_mk, nilS_mk, fldv_agg, jn0_k, jn1_k, jn2_k, jn1_and, jn1_or, ex_some, Option.isNone_some, Option.isNone_none, Bool.false_bne, Bool.bne_true, Bool.bne_false, Bool.true_bne, Bool.not_true, Bool.not_false, Bool.and_true, Bool.true_and, Bool.and_false, Bool.false_and, Bool.or_true, Bool.true_or, Bool.or_false, Bool.false_or, cond_true, cond_false, List.getElem?_toArray, List.getElem?_cons_zero, List.getElem?_cons_succ, Nat.zero_add, Nat.add_zero, Nat.reduceAdd, forall_const]
    refine rdS_ld (v := .pointer (some ⟨g, 0, none⟩)) (fun u hu K hk => (L_flurrylaw23_both__h (Sep.blk (Sep.pick hu [9] 10)) K).mpr hk) ?_
    refine ⟨bq b vo, fun u hu => (L_api_Block hu.blk _).mpr rfl, ?_⟩
    refine ⟨?_, ?_, trivial⟩
    · refine efC_cut (cal_i (hBlockU (b := b) (v := vo) (As := blk g6 (Rdr.cells Q_api_Block (b.p, b.h, vo)).toArray T_api_Block :: ownB vo b.d :: blk g5 (Rdr.cells Q_api_Block (b.p, b.h, a.v)).toArray T_api_Block :: (rhH gr rbv rvv rb rv ms vs ++ (nmB gx (.pointer (some ⟨g, 0, none⟩)) (.pointer (some ⟨gr, 0, none⟩)) xv' yv' :: rows (rVec 32) xv' ids' :: rows (rInt .i64) yv' hts' :: (E ++ Xs)))) (Sep.pick hs10 [3, 4, 5, 0, 1, 2, 6, 7, 8, 9, 10, 11] 12) (hD.sub fun A hA => by simp only [List.mem_cons, List.mem_append] at hA ⊢; simp [hA]) (hC.fr hs10.fr0) (Sep.rd hs10.p1) hbh (by omega) hI.sm) ?_)
      rintro _ w11 ⟨rfl, bv', ws', Z, hB, hs11⟩
      have hs12 := Sep.pastH (H := hdH g bv' vv rb rv ws' vs) (L := [blk g6 (Rdr.cells Q_api_Block (b.p, b.h, vo)).toArray T_api_Block, ownB vo b.d, blk g5 (Rdr.cells Q_api_Block (b.p, b.h, a.v)).toArray T_api_Block] ++ (rhH gr rbv rvv rb rv ms vs ++ [nmB gx (.pointer (some ⟨g, 0, none⟩)) (.pointer (some ⟨gr, 0, none⟩)) xv' yv', rows (rVec 32) xv' ids', rows (rInt .i64) yv' hts'])) hs11
      replace hs12 : Sep w0 w11 (ownB vo b.d :: blk g6 (Rdr.cells Q_api_Block (b.p, b.h, vo)).toArray T_api_Block :: blk g5 (Rdr.cells Q_api_Block (b.p, b.h, a.v)).toArray T_api_Block :: bothL gx g gr rb rv bv' vv ws' vs rbv rvv ms xv' yv' ids' hts' ((Z ++ E) ++ Xs)) := Sep.pick hs12 [4, 3, 5, 0, 1, 2, 6, 7, 8, 9, 10, 11] 12
      refine ⟨fun u => Sep w0 u (ownB vo b.d :: blk g6 (Rdr.cells Q_api_Block (b.p, b.h, vo)).toArray T_api_Block :: blk g5 (Rdr.cells Q_api_Block (b.p, b.h, a.v)).toArray T_api_Block :: bothL gx g gr rb rv bv' vv ws' vs rbv rvv ms xv' yv' ids' hts' ((Z ++ E) ++ Xs)), hs12, ?_⟩
      simp only [nilc_some, fad_mk, pik_true, pik_false, cnd_true, cnd_false, gif_same, gif_tf, gif_ft, gif_undef, bi_add, bi_sub, bi_mul, bi_eql, bi_neq, bi_lss, bi_leq, bi_gtr, bi_geq, notB_bool, cvi_int, lenS_mk, lenT_mk, ext0, ext1, ext2, nilP_mk, nilS_mk, fldv_agg, jn0_k, jn1_k, jn2_k, jn1_and, jn1_or, ex_some, Option.isNone_some, Option.isNone_none, Bool.false_bne, Bool.bne_true, Bool.bne_false, Bool.true_bne, Bool.not_true, Bool.not_false, Bool.and_true, Bool.true_and, Bool.and_false, Bool.false_and, Bool.or_true, Bool.true_or, Bool.or_false, Bool.false_or, cond_true, cond_false, List.getElem?_toArray, List.getElem?_cons_zero, List.getElem?_cons_succ, Nat.zero_add, Nat.add_zero, Nat.reduceAdd, forall_const]
      refine efS_i (alloc_s hs12 (A_api_ID w11) fun g7 w12 hs13 => ⟨hs13.tail, ?_⟩)
      refine efC_stN (St_api_ID hs13 fun w13 hs14 => ?_)
      exact ⟨g7, bv', ws', Z, rfl, trivial, hB, hs14.p1⟩
    · refine efS_i (alloc_s hs10 (A_api_ID w10) fun g7 w11 hs11 => ⟨hs11.tail, ?_⟩)
      refine efC_cal (cal_i (hBlockU (b := b) (v := vo) (As := blk g7 (Rdr.cells (rVec 32) (vz 32)).toArray T_api_ID :: blk g6 (Rdr.cells Q_api_Block (b.p, b.h, vo)).toArray T_api_Block :: ownB vo b.d :: blk g5 (Rdr.cells Q_api_Block (b.p, b.h, a.v)).toArray T_api_Block :: (rhH gr rbv rvv rb rv ms vs ++ (nmB gx (.pointer (some ⟨g, 0, none⟩)) (.pointer (some ⟨gr, 0, none⟩)) xv' yv' :: rows (rVec 32) xv' ids' :: rows (rInt .i64) yv' hts' :: (E ++ Xs)))) (Sep.pick hs11 [4, 5, 6, 0, 1, 2, 3, 7, 8, 9, 10, 11, 12] 13) (hD.sub fun A hA => by simp only [List.mem_cons, List.mem_append] at hA ⊢; simp [hA]) (hC.fr hs11.fr0) (Sep.rd hs11.p2) hbh (by omega) hI.sm) ?_)
      rintro _ w12 ⟨rfl, bv', ws', Z, hB, hs12⟩
      have hs13 := Sep.pastH (H := hdH g bv' vv rb rv ws' vs) (L := [blk g7 (Rdr.cells (rVec 32) (vz 32)).toArray T_api_ID, blk g6 (Rdr.cells Q_api_Block (b.p, b.h, vo)).toArray T_api_Block, ownB vo b.d, blk g5 (Rdr.cells Q_api_Block (b.p, b.h, a.v)).toArray T_api_Block] ++ (rhH gr rbv rvv rb rv ms vs ++ [nmB gx (.pointer (some ⟨g, 0, none⟩)) (.pointer (some ⟨gr, 0, none⟩)) xv' yv', rows (rVec 32) xv' ids', rows (rInt .i64) yv' hts'])) hs12
      replace hs13 : Sep w0 w12 (blk g7 (Rdr.cells (rVec 32) (vz 32)).toArray T_api_ID :: ownB vo b.d :: blk g6 (Rdr.cells Q_api_Block (b.p, b.h, vo)).toArray T_api_Block :: blk g5 (Rdr.cells Q_api_Block (b.p, b.h, a.v)).toArray T_api_Block :: bothL gx g gr rb rv bv' vv ws' vs rbv rvv ms xv' yv' ids' hts' ((Z ++ E) ++ Xs)) := Sep.pick hs13 [3, 5, 4, 6, 0, 1, 2, 7, 8, 9, 10, 11, 12] 13
      simp only [nilc_some, fad_mk, pik_true, pik_false, cnd_true, cnd_false, gif_same, gif_tf, gif_ft, gif_undef, bi_add, bi_sub, bi_mul, bi_eql, bi_neq, bi_lss, bi_leq, bi_gtr, bi_geq, notB_bool, cvi_int, lenS_mk, lenT_mk, ext0, ext1, ext2, nilP_mk, nilS_mk, fldv_agg, jn0_k, jn1_k, jn2_k, jn1_and, jn1_or, ex_some, Option.isNone_some, Option.isNone_none, Bool.false_bne, Bool.bne_true, Bool.bne_false, Bool.true_bne, Bool.not_true, Bool.not_false, Bool.and_true, Bool.true_and, Bool.and_false, Bool.false_and, Bool.or_true, Bool.true_or, Bool.or_false, Bool.false_or, cond_true, cond_false, List.getElem?_toArray, List.getElem?_cons_zero, List.getElem?_cons_succ, Nat.zero_add, Nat.add_zero, Nat.reduceAdd, forall_const]
      refine efC_stN (St_api_ID hs13 fun w13 hs14 => ?_)
      exact ⟨g7, bv', ws', Z, rfl, trivial, hB, hs14.p1⟩
  clear hs10 hs9
  rintro _ _ w11 ⟨g7, bv', ws', Z, rfl, rfl, hB, hs11⟩ _
  have e3 : ∀ K, lenS vo K = K (.int .i64 b.d.length) := (Sep.rd hs11).len
  simp only [nilc_some, fad_mk, pik_true, pik_false, cnd_true, cnd_false, gif_same, gif_tf, gif_ft, gif_undef, bi_add, bi_sub, bi_mul, bi_eql, bi_neq, bi_lss, bi_leq, bi_gtr, bi_geq, notB_bool, cvi_int, lenS_mk, lenT_mk, ext0, ext1, ext2, nilP_mk, nilS_mk, fldv_agg, jn0_k, jn1_k, jn2_k, jn1_and, jn1_or, ex_some, Option.isNone_some, Option.isNone_none, Bool.false_bne, Bool.bne_true, Bool.bne_false, Bool.true_bne, Bool.not_true, Bool.not_false, Bool.and_true, Bool.true_and, Bool.and_false, Bool.false_and, Bool.or_true, Bool.true_or, Bool.or_false, Bool.false_or, cond_true, cond_false, List.getElem?_toArray, List.getElem?_cons_zero, List.getElem?_cons_succ, Nat.zero_add, Nat.add_zero, Nat.reduceAdd, forall_const, L_api_Block (Sep.blk hs11.p2), L_api_Block__Parent (Sep.blk hs11.p2), L_api_Block__Height (Sep.blk hs11.p2), L_api_Block__Data (Sep.blk hs11.p2), e3]
  refine flip_loopH hs11 (fun z l' hz K hk => (L_api_Block__Data (Sep.blk (Sep.p2 hz)) K).mpr hk) (by omega) fun w12 hs12 => ?_
  have hs13 : Sep w0 w12 (blk g7 (Rdr.cells (rVec 32) (blkId rb ws b)).toArray T_api_ID :: blk g5 (Rdr.cells Q_api_Block (b.p, b.h, a.v)).toArray T_api_Block :: bothL gx g gr rb rv bv' vv ws' vs rbv rvv ms xv' yv' ids' hts' ((Z ++ E) ++ Xs)) := Sep.pick hs12 [1, 3] 4
  clear hs12 hs11
  refine drH_S hs13 fun w14 hs14 _ => ?_
  refine ⟨fun y e z => ∃ g10 rbv' ms' Z2, y = .pointer (some ⟨g10, 0, none⟩) ∧ e = .int .i64 (blkE rb ms b) ∧ BlkR rb ms b ms' Z2 ∧ Sep w0 z (blk g10 (Rdr.cells (rVec 32) (blkId rb ms b)).toArray T_api_ID :: blk g7 (Rdr.cells (rVec 32) (blkId rb ws b)).toArray T_api_ID :: bothL gx g gr rb rv bv' vv ws' vs rbv' rvv ms' xv' yv' ids' hts' ((Z2 ++ (Z ++ E)) ++ Xs)), ?_, ?_⟩
  · refine rdS_ld (v := .pointer (some ⟨gr, 0, none⟩)) (fun u hu K hk => (L_flurrylaw23_both__r (Sep.blk (Sep.pick hu [8] 9)) K).mpr hk) ?_
    refine ⟨bq b a.v, fun u hu => (L_api_Block (Sep.blk hu.p1) _).mpr rfl, ?_⟩
    refine ⟨?_, ?_, trivial⟩
    · refine efC_cut (cal_i (rhBlockU (b := b) (v := a.v) (As := blk g7 (Rdr.cells (rVec 32) (blkId rb ws b)).toArray T_api_ID :: blk g5 (Rdr.cells Q_api_Block (b.p, b.h, a.v)).toArray T_api_Block :: (hdH g bv' vv rb rv ws' vs ++ (nmB gx (.pointer (some ⟨g, 0, none⟩)) (.pointer (some ⟨gr, 0, none⟩)) xv' yv' :: rows (rVec 32) xv' ids' :: rows (rInt .i64) yv' hts' :: ((Z ++ E) ++ Xs)))) (Sep.pick hs14 [5, 6, 7, 0, 1, 2, 3, 4, 8, 9, 10] 11) (hM.sub fun A hA => by simp only [List.mem_cons, List.mem_append] at hA ⊢; rcases hA with hA | hA <;> simp [hA]) (hbd hs14.fr0) hbh (by have := kb_len hkb; omega)) ?_)
      rintro _ w15 ⟨rfl, rbv', ms', Z2, hB2, hs15⟩
      have hs16 := Sep.pastH (H := rhH gr rbv' rvv rb rv ms' vs) (L := [blk g7 (Rdr.cells (rVec 32) (blkId rb ws b)).toArray T_api_ID, blk g5 (Rdr.cells Q_api_Block (b.p, b.h, a.v)).toArray T_api_Block] ++ (hdH g bv' vv rb rv ws' vs ++ [nmB gx (.pointer (some ⟨g, 0, none⟩)) (.pointer (some ⟨gr, 0, none⟩)) xv' yv', rows (rVec 32) xv' ids', rows (rInt .i64) yv' hts'])) hs15
      replace hs16 : Sep w0 w15 (blk g7 (Rdr.cells (rVec 32) (blkId rb ws b)).toArray T_api_ID :: bothL gx g gr rb rv bv' vv ws' vs rbv' rvv ms' xv' yv' ids' hts' ((Z2 ++ (Z ++ E)) ++ Xs)) := Sep.pick hs16 [3, 5, 6, 7, 0, 1, 2, 8, 9, 10] 11
      refine ⟨fun u => Sep w0 u (blk g7 (Rdr.cells (rVec 32) (blkId rb ws b)).toArray T_api_ID :: bothL gx g gr rb rv bv' vv ws' vs rbv' rvv ms' xv' yv' ids' hts' ((Z2 ++ (Z ++ E)) ++ Xs)), hs16, ?_⟩
      simp only [nilc_some, fad_mk, pik_true, pik_false, cnd_true, cnd_false, gif_same, gif_tf, gif_ft, gif_undef, bi_add, bi_sub, bi_mul, bi_eql, bi_neq, bi_lss, bi_leq, bi_gtr, bi_geq, notB_bool, cvi_int, lenS_mk, lenT_mk, ext0, ext1, ext2, nilP_mk, nilS_mk, fldv_agg, jn0_k, jn1_k, jn2_k, jn1_and, jn1_or, ex_some, Option.isNone_some, Option.isNone_none, Bool.false_bne, Bool.bne_true, Bool.bne_false, Bool.true_bne, Bool.not_true, Bool.not_false, Bool.and_true, Bool.true_and, Bool.and_false, Bool.false_and, Bool.or_true, Bool.true_or, Bool.or_false, Bool.false_or, cond_true, cond_false, List.getElem?_toArray, List.getElem?_cons_zero, List.getElem?_cons_succ, Nat.zero_add, Nat.add_zero, Nat.reduceAdd, forall_const]
      refine efS_i (alloc_s hs16 (A_api_ID w15) fun g10 w16 hs17 => ⟨hs17.tail, ?_⟩)
      refine efC_stN (St_api_ID hs17 fun w17 hs18 => ?_)
      exact ⟨g10, rbv', ms', Z2, rfl, trivial, hB2, hs18⟩
    · refine efS_i (alloc_s hs14 (A_api_ID w14) fun g10 w15 hs15 => ⟨hs15.tail, ?_⟩)
      refine efC_cal (cal_i (rhBlockU (b := b) (v := a.v) (As := blk g10 (Rdr.cells (rVec 32) (vz 32)).toArray T_api_ID :: blk g7 (Rdr.cells (rVec 32) (blkId rb ws b)).toArray T_api_ID :: blk g5 (Rdr.cells Q_api_Block (b.p, b.h, a.v)).toArray T_api_Block :: (hdH g bv' vv rb rv ws' vs ++ (nmB gx (.pointer (some ⟨g, 0, none⟩)) (.pointer (some ⟨gr, 0, none⟩)) xv' yv' :: rows (rVec 32) xv' ids' :: rows (rInt .i64) yv' hts' :: ((Z ++ E) ++ Xs)))) (Sep.pick hs15 [6, 7, 8, 0, 1, 2, 3, 4, 5, 9, 10, 11] 12) (hM.sub fun A hA => by simp only [List.mem_cons, List.mem_append] at hA ⊢; rcases hA with hA | hA <;> simp [hA]) (hbd hs15.fr0) hbh (by have := kb_len hkb; omega)) ?_)
      rintro _ w16 ⟨rfl, rbv', ms', Z2, hB2, hs16⟩
      have hs17 := Sep.pastH (H := rhH gr rbv' rvv rb rv ms' vs) (L := [blk g10 (Rdr.cells (rVec 32) (vz 32)).toArray T_api_ID, blk g7 (Rdr.cells (rVec 32) (blkId rb ws b)).toArray T_api_ID, blk g5 (Rdr.cells Q_api_Block (b.p, b.h, a.v)).toArray T_api_Block] ++ (hdH g bv' vv rb rv ws' vs ++ [nmB gx (.pointer (some ⟨g, 0, none⟩)) (.pointer (some ⟨gr, 0, none⟩)) xv' yv', rows (rVec 32) xv' ids', rows (rInt .i64) yv' hts'])) hs16
      replace hs17 : Sep w0 w16 (blk g10 (Rdr.cells (rVec 32) (vz 32)).toArray T_api_ID :: blk g7 (Rdr.cells (rVec 32) (blkId rb ws b)).toArray T_api_ID :: bothL gx g gr rb rv bv' vv ws' vs rbv' rvv ms' xv' yv' ids' hts' ((Z2 ++ (Z ++ E)) ++ Xs)) := Sep.pick hs17 [3, 4, 6, 7, 8, 0, 1, 2, 9, 10, 11] 12
      simp only [nilc_some, fad_mk, pik_true, pik_false, cnd_true, cnd_false, gif_same, gif_tf, gif_ft, gif_undef, bi_add, bi_sub, bi_mul, bi_eql, bi_neq, bi_lss, bi_leq, bi_gtr, bi_geq, notB_bool, cvi_int, lenS_mk, lenT_mk, ext0, ext1, ext2, nilP_mk, nilS_mk, fldv_agg, jn0_k, jn1_k, jn2_k, jn1_and, jn1_or, ex_some, Option.isNone_some, Option.isNone_none, Bool.false_bne, Bool.bne_true, Bool.bne_false, Bool.true_bne, Bool.not_true, Bool.not_false, Bool.and_true, Bool.true_and, Bool.and_false, Bool.false_and, Bool.or_true, Bool.true_or, Bool.or_false, Bool.false_or, cond_true, cond_false, List.getElem?_toArray, List.getElem?_cons_zero, List.getElem?_cons_succ, Nat.zero_add, Nat.add_zero, Nat.reduceAdd, forall_const]
      refine efC_stN (St_api_ID hs17 fun w17 hs18 => ?_)
      exact ⟨g10, rbv', ms', Z2, rfl, trivial, hB2, hs18⟩
  clear hs14 hs13
  rintro _ _ w15 ⟨g10, rbv', ms', Z2, rfl, rfl, hB2, hs15⟩ _
  simp only [L_api_ID hs15.blk, L_api_ID (Sep.blk hs15.p1)]
  rw [eq_api_ID, decide_eq_true (kb_blkId hkb rb b), kb_blkE hkb rb b]
  simp only [nilc_some, fad_mk, pik_true, pik_false, cnd_true, cnd_false, gif_same, gif_tf, gif_ft, gif_undef, bi_add, bi_sub, bi_mul, bi_eql, bi_neq, bi_lss, bi_leq, bi_gtr, bi_geq, notB_bool, cvi_int, lenS_mk, lenT_mk, ext0, ext1, ext2, nilP_mk, nilS_mk, fldv_agg, jn0_k, jn1_k, jn2_k, jn1_and, jn1_or, ex_some, Option.isNone_some, Option.isNone_none, Bool.false_bne, Bool.bne_true, Bool.bne_false, Bool.true_bne, Bool.not_true, Bool.not_false, Bool.and_true, Bool.true_and, Bool.and_false, Bool.false_and, Bool.or_true, Bool.true_or, Bool.or_false, Bool.false_or, cond_true, cond_false, List.getElem?_toArray, List.getElem?_cons_zero, List.getElem?_cons_succ, Nat.zero_add, Nat.add_zero, Nat.reduceAdd, forall_const, beq_self_eq_true]
  refine hR _ ⟨bv', vv, rbv', rvv, xv', yv', ws', ms', vs, ids', hts', Z2 ++ (Z ++ E), ?_, ?_, ?_, ?_, ?_, by omega, by omega, hs15.tail.tail⟩
  · rw [← hids, ← hhts]
    exact hB.hi hI hbh
  · rw [hB.kb, hB2.kb, hkb, addK_kb hkb]
  · exact (hB.dat hD).sub fun A hA => by simp only [List.mem_append] at hA ⊢; rcases hA with hA | hA | hA <;> simp [hA]
  · exact (hB2.dat hM).sub fun A hA => by simp only [List.mem_append] at hA ⊢; rcases hA with hA | hA | hA <;> simp [hA]
  · have := hB.len
    omega
end
end Go.Fx
set_option linter.unusedVariables false
set_option linter.unusedSimpArgs false
namespace Go.Fx
theorem B_IDb {w : World} (b : UInt8) (K : Value → Prop) : rdP P (Instr.build T_api_ID #[(0, bv b)]) w K = K (kv (⟨b :: List.replicate 31 0, by simp⟩ : Vec 32)) := rd_build (r := rVec 32) (a := ⟨b :: List.replicate 31 0, by simp⟩) (by kernel_rfl) K
def idK (k : Nat) : Vec 32 := ⟨UInt8.ofNat k :: List.replicate 31 0, by simp⟩
theorem B_IDk {w : World} {k : Nat} (hk : k < 256) (K : Value → Prop) : rdP P (Instr.build T_api_ID #[(0, .int .u8 (k : Int))]) w K = K (kv (idK k)) := by
  have e : Value.int .u8 (k : Int) = bv (UInt8.ofNat k) := by
    unfold bv
    rw [UInt8.toNat_ofNat_of_lt' (by simpa using hk)]
  rw [e, B_IDb]
  rfl
section
variable {w0 w : World} {As : List Asn} {gx g gr : Nat} {rb rv : Int} {n : Nat} {Xs : List Asn} {bv vv : Value} {ws : List Wt} {vs : List (Int × Int × Vec 32 × Vec 32)}
theorem voteU {v : Int × Int × Vec 32 × Vec 32} (hs : Sep w0 w (hdH g bv vv rb rv ws vs ++ As)) (hd : DatW ws As) (hnv : vs.length ≤ 1000000) :
    cal P f_hold_Hold_Vote [.pointer (some ⟨g, 0, none⟩), hvv v] w fun r w' => r = .int .i64 (votE rv vs v) ∧ ∃ vv', Sep w0 w' (hdH g bv vv' rb rv ws (if votE rv vs v = 0 then vs ++ [v] else vs) ++ As) := by
  refine cal_i (hVote_spec hs hd hnv) ?_
  rintro r w' ⟨h1, ⟨hE, hs'⟩ | ⟨hE, vv', hs'⟩⟩
  · exact ⟨h1, vv, by rw [if_neg hE]; exact hs'⟩
  · exact ⟨h1, vv', by rw [if_pos hE]; exact hs'⟩
theorem rvoteU {v : Int × Int × Vec 32 × Vec 32} (hs : Sep w0 w (rhH g bv vv rb rv ws vs ++ As)) (hd : DatW ws As) (hnv : vs.length ≤ 1000000) :
    cal P f_ref23_Hold_Vote [.pointer (some ⟨g, 0, none⟩), hvv v] w fun r w' => r = .int .i64 (votE rv vs v) ∧ ∃ vv', Sep w0 w' (rhH g bv vv' rb rv ws (if votE rv vs v = 0 then vs ++ [v] else vs) ++ As) := by
  refine cal_i (rhVote_spec hs hd hnv) ?_
  rintro r w' ⟨h1, ⟨hE, hs'⟩ | ⟨hE, vv', hs'⟩⟩
  · exact ⟨h1, vv, by rw [if_neg hE]; exact hs'⟩
  · exact ⟨h1, vv', by rw [if_pos hE]; exact hs'⟩
theorem HI.filter {ws : List Wt} {ids : List (Vec 32)} {hts : List Int} (h : HI ws ids hts) (p : Wt → Bool) : HI (ws.filter p) ids hts :=
  ⟨h.nd.sublist (List.filter_sublist.map _), fun x hx => h.ok x (List.mem_filter.1 hx).1, fun x hx => h.mem x (List.mem_filter.1 hx).1, h.hl, h.h0, h.hp⟩
theorem does_spec {a : AA} {z : World} (hC : Cub w0) (hda : RdB w0.heap a.dv a.d ∧ RdB w0.heap a.bv a.b.d) (hak : a.k < 256 ∧ a.b.h ≤ maxI) (hsm : a.d.length ≤ 1000 ∧ a.b.d.length ≤ 1000) (hn : n ≤ 1000) (hB : BSt w0 z gx g gr rb rv n Xs) :
    cal P f_law23_both_does [.pointer (some ⟨gx, 0, none⟩), .agg (Rdr.cells Q_flurrylaw23_Act a.t).toArray] z fun r w' => r = .bool true ∧ BSt w0 w' gx g gr rb rv (n + 1) Xs := by
  refine s_law23_both_does fun R hR => ?_
  unfold c_law23_both_does
  obtain ⟨bv, vv, rbv, rvv, xv, yv, ws, ms, vs, ids, hts, E, hI, hkb, hD, hM, hwl, hvl, hil, hs⟩ := hB
  have hml := kb_len hkb
  refine bxQ hs fun g3 w1 hs1 => ?_
  have e0 : (AA.t a).1 = a.act := rfl
  replace hs1 : Sep w0 w1 (blk g3 (Rdr.cells Q_flurrylaw23_Act a.t).toArray T_flurrylaw23_Act :: bothL gx g gr rb rv bv vv ws vs rbv rvv ms xv yv ids hts (E ++ Xs)) := hs1
  clear hs
  rw [fad_mk, L_flurrylaw23_Act__Do hs1.blk, e0]
  rw [bi_eql, cnd_bool]
  refine ⟨fun h => ?_, fun h => ?_⟩
  · exact does_block hC hda hak hsm hn hI hkb hD hM hwl hvl hil hs1 fun w' h => hR _ _ ⟨rfl, h⟩
  rw [bi_eql, cnd_bool]
  refine ⟨fun h => ?_, fun h => ?_⟩
  · refine drH_S hs1 fun w2 hs2 _ => ?_
    obtain ⟨v, hv⟩ : ∃ v, v = (a.poll, a.node, ids.getD (a.k % ids.length) (vz 32), idK a.k) := ⟨_, rfl⟩
    refine ⟨fun y z => ∃ g12, y = .pointer (some ⟨g12, 0, none⟩) ∧ Sep w0 z (blk g12 (Rdr.cells Q_api_HeldVote v).toArray T_api_HeldVote :: bothL gx g gr rb rv bv vv ws vs rbv rvv ms xv yv ids hts (E ++ Xs)), ?_, ?_⟩
    · simp only [nilc_some, fad_mk, pik_true, pik_false, cnd_true, cnd_false, gif_same, gif_tf, gif_ft, gif_undef, bi_add, bi_sub, bi_mul, bi_eql, bi_neq, bi_lss, bi_leq, bi_gtr, bi_geq, notB_bool, cvi_int, lenS_mk, lenT_mk, ext0, ext1, ext2, nilP_mk, nilS_mk, fldv_agg, jn0_k, jn1_k, jn2_k, jn1_and, jn1_or, ex_some, Option.isNone_some, Option.isNone_none, Bool.false_bne, Bool.bne_true, Bool.bne_false, Bool.true_bne, Bool.not_true, Bool.not_false, Bool.and_true, Bool.true_and, Bool.and_false, Bool.false_and, Bool.or_true, Bool.true_or, Bool.or_false, Bool.false_or, cond_true, cond_false, List.getElem?_toArray, List.getElem?_cons_zero, List.getElem?_cons_succ, Nat.zero_add, Nat.add_zero, Nat.reduceAdd, forall_const]
      refine rdS_ld (v := .int .i64 a.poll) (fun u hu K hk => (L_flurrylaw23_Act__Poll (Sep.blk hu) K).mpr hk) ?_
      refine rdS_ld (v := .int .i64 a.node) (fun u hu K hk => (L_flurrylaw23_Act__Node (Sep.blk hu) K).mpr hk) ?_
      refine rdS_ld (v := .int .u8 a.k) (fun u hu K hk => (L_flurrylaw23_Act__K (Sep.blk hu) K).mpr hk) ?_
      refine rdS_ld (v := .int .u8 a.k) (fun u hu K hk => (L_flurrylaw23_Act__K (Sep.blk hu) K).mpr hk) ?_
      refine ⟨kv (idK a.k), fun u hu => by rw [B_IDk hak.1], ?_⟩
      refine ⟨?_, ?_, trivial⟩
      · refine efS_i (cal_i (names_id_spec (nmP_B gx (.pointer (some ⟨g, 0, none⟩)) (.pointer (some ⟨gr, 0, none⟩))) (Sep.pick hs2 [7, 8] 10) hI.h0 (by omega) hak.1) ?_)
        rintro _ w3 ⟨rfl, hf3⟩
        have hs3 := hs2.old hf3
        refine ⟨hs3, ?_⟩
        refine ⟨hvv v, fun u hu => by rw [B_api_HeldVote_0_1_2_3, hv], ?_⟩
        refine efS_i (alloc_s hs3 (A_api_HeldVote w3) fun g12 w4 hs4 => ⟨hs4.tail, ?_⟩)
        refine efC_stN (St_api_HeldVote (b := v) hs4 one_api_HeldVote fun w5 hs5 => ?_)
        exact ⟨g12, rfl, Sep.pick hs5 [0] 2⟩
      · refine efS_i (alloc_s hs2 (A_api_HeldVote w2) fun g12 w3 hs3 => ⟨hs3.tail, ?_⟩)
        refine efS_i (cal_i (names_id_spec (nmP_B gx (.pointer (some ⟨g, 0, none⟩)) (.pointer (some ⟨gr, 0, none⟩))) (Sep.pick hs3 [8, 9] 11) hI.h0 (by omega) hak.1) ?_)
        rintro _ w4 ⟨rfl, hf4⟩
        have hs4 := hs3.old hf4
        refine ⟨hs4.tail, ?_⟩
        refine ⟨hvv v, fun u hu => by rw [B_api_HeldVote_0_1_2_3, hv], ?_⟩
        refine efC_stN (St_api_HeldVote (b := v) hs4 one_api_HeldVote fun w5 hs5 => ?_)
        exact ⟨g12, rfl, Sep.pick hs5 [0] 2⟩
    clear hs2 hs1
    rintro _ w3 ⟨g12, rfl, hs3⟩ _
    refine drH_PH (S := fun u => Sep w0 u (blk g12 (Rdr.cells Q_api_HeldVote v).toArray T_api_HeldVote :: (rhH gr rbv rvv rb rv ms vs ++ (nmB gx (.pointer (some ⟨g, 0, none⟩)) (.pointer (some ⟨gr, 0, none⟩)) xv yv :: rows (rVec 32) xv ids :: rows (rInt .i64) yv hts :: (E ++ Xs))))) hs3 (fun u hu => Sep.pick hu [0, 4, 5, 6, 7, 8, 9] 10) fun w4 hs4 _ => ?_
    simp only [nilc_some, fad_mk, pik_true, pik_false, cnd_true, cnd_false, gif_same, gif_tf, gif_ft, gif_undef, bi_add, bi_sub, bi_mul, bi_eql, bi_neq, bi_lss, bi_leq, bi_gtr, bi_geq, notB_bool, cvi_int, lenS_mk, lenT_mk, ext0, ext1, ext2, nilP_mk, nilS_mk, fldv_agg, jn0_k, jn1_k, jn2_k, jn1_and, jn1_or, ex_some, Option.isNone_some, Option.isNone_none, Bool.false_bne, Bool.bne_true, Bool.bne_false, Bool.true_bne, Bool.not_true, Bool.not_false, Bool.and_true, Bool.true_and, Bool.and_false, Bool.false_and, Bool.or_true, Bool.true_or, Bool.or_false, Bool.false_or, cond_true, cond_false, List.getElem?_toArray, List.getElem?_cons_zero, List.getElem?_cons_succ, Nat.zero_add, Nat.add_zero, Nat.reduceAdd, forall_const]
    refine rdS_ld (v := .pointer (some ⟨g, 0, none⟩)) (fun u hu K hk => (L_flurrylaw23_both__h (Sep.blk (Sep.pick hu [4] 5)) K).mpr hk) ?_
    refine ⟨hvv v, fun u hu => (L_api_HeldVote (Sep.blk hu) _).mpr rfl, ?_⟩
    refine rdS_ld (v := .pointer (some ⟨gr, 0, none⟩)) (fun u hu K hk => (L_flurrylaw23_both__r (Sep.blk (Sep.pick hu [4] 5)) K).mpr hk) ?_
    refine ⟨hvv v, fun u hu => (L_api_HeldVote (Sep.blk hu) _).mpr rfl, ?_⟩
    refine efS_i (cal_i (voteU (v := v) (As := blk g12 (Rdr.cells Q_api_HeldVote v).toArray T_api_HeldVote :: (rhH gr rbv rvv rb rv ms vs ++ (nmB gx (.pointer (some ⟨g, 0, none⟩)) (.pointer (some ⟨gr, 0, none⟩)) xv yv :: rows (rVec 32) xv ids :: rows (rInt .i64) yv hts :: (E ++ Xs)))) (Sep.pick hs4 [1, 2, 3, 0, 4, 5, 6, 7, 8, 9] 10) (hD.sub fun A hA => by simp only [List.mem_cons, List.mem_append] at hA ⊢; simp [hA]) (by omega)) ?_)
    rintro _ w5 ⟨rfl, vv', hs5⟩
    refine ⟨hs5.tail.tail.tail, ?_⟩
    refine efC_cal (cal_i (rvoteU (v := v) (As := blk g12 (Rdr.cells Q_api_HeldVote v).toArray T_api_HeldVote :: (hdH g bv vv' rb rv ws (if votE rv vs v = 0 then vs ++ [v] else vs) ++ (nmB gx (.pointer (some ⟨g, 0, none⟩)) (.pointer (some ⟨gr, 0, none⟩)) xv yv :: rows (rVec 32) xv ids :: rows (rInt .i64) yv hts :: (E ++ Xs)))) (Sep.pick hs5 [4, 5, 6, 3, 0, 1, 2, 7, 8, 9] 10) (hM.sub fun A hA => by simp only [List.mem_cons, List.mem_append] at hA ⊢; simp [hA]) (by omega)) ?_)
    rintro _ w6 ⟨rfl, rvv', hs6⟩
    simp only [nilc_some, fad_mk, pik_true, pik_false, cnd_true, cnd_false, gif_same, gif_tf, gif_ft, gif_undef, bi_add, bi_sub, bi_mul, bi_eql, bi_neq, bi_lss, bi_leq, bi_gtr, bi_geq, notB_bool, cvi_int, lenS_mk, lenT_mk, ext0, ext1, ext2, nilP_mk, nilS_mk, fldv_agg, jn0_k, jn1_k, jn2_k, jn1_and, jn1_or, ex_some, Option.isNone_some, Option.isNone_none, Bool.false_bne, Bool.bne_true, Bool.bne_false, Bool.true_bne, Bool.not_true, Bool.not_false, Bool.and_true, Bool.true_and, Bool.and_false, Bool.false_and, Bool.or_true, Bool.true_or, Bool.or_false, Bool.false_or, cond_true, cond_false, List.getElem?_toArray, List.getElem?_cons_zero, List.getElem?_cons_succ, Nat.zero_add, Nat.add_zero, Nat.reduceAdd, forall_const, beq_self_eq_true]
    refine hR _ _ ⟨rfl, bv, vv', rbv, rvv', xv, yv, ws, ms, _, ids, hts, E, hI, hkb, hD, hM, by omega, ?_, by omega, Sep.pick hs6 [4, 5, 6, 0, 1, 2, 7, 8, 9] 10⟩
    split
    · simp; omega
    · omega
  rw [bi_eql, cnd_bool]
  refine ⟨fun h => ?_, fun h => ?_⟩
  · refine drH_S hs1 fun w2 hs2 _ => ?_
    simp only [nilc_some, fad_mk, pik_true, pik_false, cnd_true, cnd_false, gif_same, gif_tf, gif_ft, gif_undef, bi_add, bi_sub, bi_mul, bi_eql, bi_neq, bi_lss, bi_leq, bi_gtr, bi_geq, notB_bool, cvi_int, lenS_mk, lenT_mk, ext0, ext1, ext2, nilP_mk, nilS_mk, fldv_agg, jn0_k, jn1_k, jn2_k, jn1_and, jn1_or, ex_some, Option.isNone_some, Option.isNone_none, Bool.false_bne, Bool.bne_true, Bool.bne_false, Bool.true_bne, Bool.not_true, Bool.not_false, Bool.and_true, Bool.true_and, Bool.and_false, Bool.false_and, Bool.or_true, Bool.true_or, Bool.or_false, Bool.false_or, cond_true, cond_false, List.getElem?_toArray, List.getElem?_cons_zero, List.getElem?_cons_succ, Nat.zero_add, Nat.add_zero, Nat.reduceAdd, forall_const]
    refine rdS_ld (v := .pointer (some ⟨g, 0, none⟩)) (fun u hu K hk => (L_flurrylaw23_both__h (Sep.blk (Sep.pick hu [7] 8)) K).mpr hk) ?_
    refine rdS_ld (v := .int .u8 a.k) (fun u hu K hk => (L_flurrylaw23_Act__K (Sep.blk hu) K).mpr hk) ?_
    refine efS_i (cal_i (names_id_spec (nmP_B gx (.pointer (some ⟨g, 0, none⟩)) (.pointer (some ⟨gr, 0, none⟩))) (Sep.pick hs2 [7, 8] 10) hI.h0 (by omega) hak.1) ?_)
    rintro _ w3 ⟨rfl, hf3⟩
    have hs3 := hs2.old hf3
    refine ⟨hs3, ?_⟩
    obtain ⟨kk, hkk⟩ : ∃ kk, kk = ids.getD (a.k % ids.length) (vz 32) := ⟨_, rfl⟩
    rw [← hkk]
    refine efC_cal (cal_i (hCame2_spec (As := blk g3 (Rdr.cells Q_flurrylaw23_Act a.t).toArray T_flurrylaw23_Act :: (rhH gr rbv rvv rb rv ms vs ++ (nmB gx (.pointer (some ⟨g, 0, none⟩)) (.pointer (some ⟨gr, 0, none⟩)) xv yv :: rows (rVec 32) xv ids :: rows (rInt .i64) yv hts :: (E ++ Xs)))) (Sep.pick hs3 [1, 2, 3, 0, 4, 5, 6, 7, 8, 9] 10) (hD.sub fun A hA => by simp only [List.mem_cons, List.mem_append] at hA ⊢; simp [hA]) (by omega) (by omega) hI.sm kk) ?_)
    rintro _ w4 ⟨ob, ov, bv', vv', os, E1, rfl, hos, hDO, hE1, hs4⟩
    clear hs3 hs2 hs1
    have hs4' := Sep.pastH (H := hdH g bv' vv' rb rv (ws.filter fun x => !decide (x.2.1.p = kk)) (vs.filter fun x => !decide (x.2.2.1 = kk)) ++ [rows Q_api_Block ob (os.map Wb), rows Q_api_HeldVote ov (vs.filter fun x => decide (x.2.2.1 = kk))]) (L := [blk g3 (Rdr.cells Q_flurrylaw23_Act a.t).toArray T_flurrylaw23_Act] ++ (rhH gr rbv rvv rb rv ms vs ++ [nmB gx (.pointer (some ⟨g, 0, none⟩)) (.pointer (some ⟨gr, 0, none⟩)) xv yv, rows (rVec 32) xv ids, rows (rInt .i64) yv hts])) hs4
    clear hs4
    simp only [nilc_some, fad_mk, pik_true, pik_false, cnd_true, cnd_false, gif_same, gif_tf, gif_ft, gif_undef, bi_add, bi_sub, bi_mul, bi_eql, bi_neq, bi_lss, bi_leq, bi_gtr, bi_geq, notB_bool, cvi_int, lenS_mk, lenT_mk, ext0, ext1, ext2, nilP_mk, nilS_mk, fldv_agg, jn0_k, jn1_k, jn2_k, jn1_and, jn1_or, ex_some, Option.isNone_some, Option.isNone_none, Bool.false_bne, Bool.bne_true, Bool.bne_false, Bool.true_bne, Bool.not_true, Bool.not_false, Bool.and_true, Bool.true_and, Bool.and_false, Bool.false_and, Bool.or_true, Bool.true_or, Bool.or_false, Bool.false_or, cond_true, cond_false, List.getElem?_toArray, List.getElem?_cons_zero, List.getElem?_cons_succ, Nat.zero_add, Nat.add_zero, Nat.reduceAdd, forall_const]
    -- hd 0 1 2 · ob 3 · ov 4 · act 5 · rh 6 7 8 · nm 9 · ids 10 · hts 11
    refine drH_S hs4' fun w5 hs5 _ => ?_
    refine rdS_ld (v := .pointer (some ⟨gr, 0, none⟩)) (fun u hu K hk => (L_flurrylaw23_both__r (Sep.blk (Sep.pick hu [9] 10)) K).mpr hk) ?_
    refine rdS_ld (v := .int .u8 a.k) (fun u hu K hk => (L_flurrylaw23_Act__K (Sep.blk (Sep.pick hu [5] 6)) K).mpr hk) ?_
    refine efS_i (cal_i (names_id_spec (nmP_B gx (.pointer (some ⟨g, 0, none⟩)) (.pointer (some ⟨gr, 0, none⟩))) (Sep.pick hs5 [9, 10] 12) hI.h0 (by omega) hak.1) ?_)
    rintro _ w6 ⟨rfl, hf6⟩
    have hs6 := hs5.old hf6
    refine ⟨hs6, ?_⟩
    rw [← hkk]
    refine efC_cal (cal_i (rhCame_spec (As := hdH g bv' vv' rb rv (ws.filter fun x => !decide (x.2.1.p = kk)) (vs.filter fun x => !decide (x.2.2.1 = kk)) ++ (rows Q_api_Block ob (os.map Wb) :: rows Q_api_HeldVote ov (vs.filter fun x => decide (x.2.2.1 = kk)) :: nmB gx (.pointer (some ⟨g, 0, none⟩)) (.pointer (some ⟨gr, 0, none⟩)) xv yv :: rows (rVec 32) xv ids :: rows (rInt .i64) yv hts :: ((E1 ++ E) ++ Xs))) (Sep.pick hs6 [6, 7, 8, 0, 1, 2, 3, 4, 9, 10, 11] 12) (hM.sub fun A hA => by simp only [List.mem_cons, List.mem_append] at hA ⊢; rcases hA with hA | hA <;> simp [hA]) (by omega) (by omega) kk) ?_)
    rintro _ w7 ⟨ob2, ov2, rbv', rvv', rfl, hs7⟩
    clear hs6 hs5 hs4'
    simp only [nilc_some, fad_mk, pik_true, pik_false, cnd_true, cnd_false, gif_same, gif_tf, gif_ft, gif_undef, bi_add, bi_sub, bi_mul, bi_eql, bi_neq, bi_lss, bi_leq, bi_gtr, bi_geq, notB_bool, cvi_int, lenS_mk, lenT_mk, ext0, ext1, ext2, nilP_mk, nilS_mk, fldv_agg, jn0_k, jn1_k, jn2_k, jn1_and, jn1_or, ex_some, Option.isNone_some, Option.isNone_none, Bool.false_bne, Bool.bne_true, Bool.bne_false, Bool.true_bne, Bool.not_true, Bool.not_false, Bool.and_true, Bool.true_and, Bool.and_false, Bool.false_and, Bool.or_true, Bool.true_or, Bool.or_false, Bool.false_or, cond_true, cond_false, List.getElem?_toArray, List.getElem?_cons_zero, List.getElem?_cons_succ, Nat.zero_add, Nat.add_zero, Nat.reduceAdd, forall_const]
    -- rh 0 1 2 · ob2 3 · ov2 4 · hd 5 6 7 · ob 8 · ov 9 · nm 10 · ids 11 · hts 12
    have e1 : os.map (·.1) = ((ms.filter fun x => decide (x.2.1.p = kk)).map (·.2)).map (·.1) := by
      have h1 := congrArg (List.map (·.2)) (kb_filter hkb fun y => decide (y.2.p = kk))
      rw [List.map_map, List.map_map] at h1
      rw [hos, List.map_map]
      exact h1
    have hosl : os.length ≤ ws.length := by
      have := congrArg List.length hos
      rw [List.length_map, List.length_map] at this
      rw [this]
      exact List.length_filter_le _ _
    have hsmo : ∀ y ∈ os, y.1.d.length ≤ 200 := fun y hy => by
      have h1 : y.1 ∈ os.map (·.1) := List.mem_map_of_mem hy
      rw [hos] at h1
      obtain ⟨e, he, hee⟩ := List.mem_map.1 h1
      rw [← hee]
      exact hI.sm e (List.mem_filter.1 he).1
    have hb2 : Rows' Q_api_Block w7.heap ob2 (((ms.filter fun x => decide (x.2.1.p = kk)).map (·.2)).map Wb) := by
      rw [List.map_map]
      exact Sep.rows (Sep.pick hs7 [3] 4)
    refine cal_i (sameB_spec (a := os) (b := (ms.filter fun x => decide (x.2.1.p = kk)).map (·.2)) (Sep.rows (Sep.pick hs7 [8] 9)) hb2 (fun y hy => ?_) (fun y hy => ?_) (by omega)) ?_
    · obtain ⟨F, hF⟩ := hs7.onL (A := ownB y.2 y.1.d) (by simp only [List.mem_append, List.mem_cons]; simp [hDO y hy])
      exact OwnB.rd hF
    · obtain ⟨x, hx, rfl⟩ := List.mem_map.1 hy
      have hm := hM x (List.mem_filter.1 hx).1
      obtain ⟨F, hF⟩ := hs7.onL (A := ownB x.2.2 x.2.1.d) (by
        simp only [List.mem_append, List.mem_cons] at hm ⊢
        rcases hm with hm | hm <;> simp [hm])
      exact OwnB.rd hF
    rintro _ w8 ⟨rfl, hf8⟩
    have hs8 := hs7.old hf8
    rw [decide_eq_true e1]
    simp only [nilc_some, fad_mk, pik_true, pik_false, cnd_true, cnd_false, gif_same, gif_tf, gif_ft, gif_undef, bi_add, bi_sub, bi_mul, bi_eql, bi_neq, bi_lss, bi_leq, bi_gtr, bi_geq, notB_bool, cvi_int, lenS_mk, lenT_mk, ext0, ext1, ext2, nilP_mk, nilS_mk, fldv_agg, jn0_k, jn1_k, jn2_k, jn1_and, jn1_or, ex_some, Option.isNone_some, Option.isNone_none, Bool.false_bne, Bool.bne_true, Bool.bne_false, Bool.true_bne, Bool.not_true, Bool.not_false, Bool.and_true, Bool.true_and, Bool.and_false, Bool.false_and, Bool.or_true, Bool.true_or, Bool.or_false, Bool.false_or, cond_true, cond_false, List.getElem?_toArray, List.getElem?_cons_zero, List.getElem?_cons_succ, Nat.zero_add, Nat.add_zero, Nat.reduceAdd, forall_const]
    refine jn1_dup ?_
    refine cal_i (votesEqual_spec (Sep.rows (Sep.pick hs8 [9] 10)) (Sep.rows (Sep.pick hs8 [4] 5)) ?_) ?_
    · exact Nat.le_trans (List.length_filter_le _ _) (by omega)
    rintro _ w9 ⟨rfl, hf9⟩
    have hs9 := hs8.old hf9
    obtain ⟨Y, hY⟩ : ∃ Y, Y = rows Q_api_Block ob (os.map Wb) :: bothL gx g gr rb rv bv' vv' (ws.filter fun x => !decide (x.2.1.p = kk)) (vs.filter fun x => !decide (x.2.2.1 = kk)) rbv' rvv' (ms.filter fun x => !decide (x.2.1.p = kk)) xv yv ids hts (E ++ Xs) := ⟨_, rfl⟩
    have hs10 : Sep w0 w9 ((rows Q_api_Block ob (os.map Wb) :: (hdH g bv' vv' rb rv (ws.filter fun x => !decide (x.2.1.p = kk)) (vs.filter fun x => !decide (x.2.2.1 = kk)) ++ (rhH gr rbv' rvv' rb rv (ms.filter fun x => !decide (x.2.1.p = kk)) (vs.filter fun x => !decide (x.2.2.1 = kk)) ++ [nmB gx (.pointer (some ⟨g, 0, none⟩)) (.pointer (some ⟨gr, 0, none⟩)) xv yv, rows (rVec 32) xv ids, rows (rInt .i64) yv hts]))) ++ ((E1 ++ E) ++ Xs)) := Sep.pick hs9 [8, 5, 6, 7, 0, 1, 2, 10, 11, 12] 13
    rw [List.append_assoc E1 E Xs] at hs10
    have hs11 : Sep w0 w9 (E1 ++ Y) := by
      rw [hY]
      exact hs10.past
    replace hs11 : Sep w0 w9 (os.map oBk ++ Y) := hs11.perm (by rw [hE1]; exact (List.reverse_perm _).append_right _)
    clear hs10 hs9 hs8 hs7 hb2
    have hlo : ∀ K, lenS ob K = K (.int .i64 os.length) := fun K => by
      have h1 := hs11.dropL
      rw [hY] at h1
      have := (Sep.rows h1).len K
      rwa [List.length_map] at this
    simp only [nilc_some, fad_mk, pik_true, pik_false, cnd_true, cnd_false, gif_same, gif_tf, gif_ft, gif_undef, bi_add, bi_sub, bi_mul, bi_eql, bi_neq, bi_lss, bi_leq, bi_gtr, bi_geq, notB_bool, cvi_int, lenS_mk, lenT_mk, ext0, ext1, ext2, nilP_mk, nilS_mk, fldv_agg, jn0_k, jn1_k, jn2_k, jn1_and, jn1_or, ex_some, Option.isNone_some, Option.isNone_none, Bool.false_bne, Bool.bne_true, Bool.bne_false, Bool.true_bne, Bool.not_true, Bool.not_false, Bool.and_true, Bool.true_and, Bool.and_false, Bool.false_and, Bool.or_true, Bool.true_or, Bool.or_false, Bool.false_or, cond_true, cond_false, List.getElem?_toArray, List.getElem?_cons_zero, List.getElem?_cons_succ, Nat.zero_add, Nat.add_zero, Nat.reduceAdd, forall_const, decide_true, hlo]
    refine ⟨fun y z => ∃ (j : Nat) (F : List Asn), y = .int .i64 j ∧ j ≤ os.length ∧ Sep w0 z (F ++ ((os.drop j).map oBk ++ Y)), fun y _ => (os.length - RowKit.intOf y).toNat, ⟨0, [], rfl, by omega, hs11⟩, ?_⟩
    clear hs11
    rintro _ w10 ⟨j, F, rfl, hj, hs10⟩ -
    simp only [nilc_some, fad_mk, pik_true, pik_false, cnd_true, cnd_false, gif_same, gif_tf, gif_ft, gif_undef, bi_add, bi_sub, bi_mul, bi_eql, bi_neq, bi_lss, bi_leq, bi_gtr, bi_geq, notB_bool, cvi_int, lenS_mk, lenT_mk, ext0, ext1, ext2, nilP_mk, nilS_mk, fldv_agg, jn0_k, jn1_k, jn2_k, jn1_and, jn1_or, ex_some, Option.isNone_some, Option.isNone_none, Bool.false_bne, Bool.bne_true, Bool.bne_false, Bool.true_bne, Bool.not_true, Bool.not_false, Bool.and_true, Bool.true_and, Bool.and_false, Bool.false_and, Bool.or_true, Bool.true_or, Bool.or_false, Bool.false_or, cond_true, cond_false, List.getElem?_toArray, List.getElem?_cons_zero, List.getElem?_cons_succ, Nat.zero_add, Nat.add_zero, Nat.reduceAdd, forall_const]
    rw [cnd_bool]
    refine ⟨fun h => ?_, fun h => ?_⟩
    · have hjlt : j < os.length := by simp at h; omega
      obtain ⟨e, he⟩ : ∃ e, os[j]? = some e := ⟨_, List.getElem?_eq_getElem hjlt⟩
      have hem := List.mem_of_getElem? he
      have he' : (os.map Wb)[j]? = some (Wb e) := by rw [List.getElem?_map, he]; rfl
      have hdr : os.drop j = e :: os.drop (j + 1) := by
        rw [List.drop_eq_getElem_cons hjlt]
        rw [List.getElem?_eq_getElem hjlt] at he
        rw [Option.some.inj he]
      have hrow : Rows' Q_api_Block w10.heap ob (os.map Wb) := by
        have h1 := hs10.dropL.dropL
        rw [hY] at h1
        exact Sep.rows h1
      rw [hdr, List.map_cons] at hs10
      have hs11 : Sep w0 w10 (oBk e :: (F ++ ((os.drop (j + 1)).map oBk ++ Y))) := Sep.mid hs10
      change ixs 34 _ _ _
      refine Rows'.ldN (q := Q_api_Block) (by decide) hrow he' .i64 ?_
      refine alloc_s hs11 (A_api_Block w10) fun g19 w11 hs12 => ?_
      refine St_api_Block (b := Wb e) hs12 (one_api_Block (Sep.one hs11)) fun w12 hs13 => ?_
      have e3 : ∀ K, lenS (Wb e).2.2 K = K (.int .i64 e.1.d.length) := (Sep.rd hs13.p1).len
      simp only [nilc_some, fad_mk, pik_true, pik_false, cnd_true, cnd_false, gif_same, gif_tf, gif_ft, gif_undef, bi_add, bi_sub, bi_mul, bi_eql, bi_neq, bi_lss, bi_leq, bi_gtr, bi_geq, notB_bool, cvi_int, lenS_mk, lenT_mk, ext0, ext1, ext2, nilP_mk, nilS_mk, fldv_agg, jn0_k, jn1_k, jn2_k, jn1_and, jn1_or, ex_some, Option.isNone_some, Option.isNone_none, Bool.false_bne, Bool.bne_true, Bool.bne_false, Bool.true_bne, Bool.not_true, Bool.not_false, Bool.and_true, Bool.true_and, Bool.and_false, Bool.false_and, Bool.or_true, Bool.true_or, Bool.or_false, Bool.false_or, cond_true, cond_false, List.getElem?_toArray, List.getElem?_cons_zero, List.getElem?_cons_succ, Nat.zero_add, Nat.add_zero, Nat.reduceAdd, forall_const, L_api_Block hs13.blk, L_api_Block__Parent hs13.blk, L_api_Block__Height hs13.blk, L_api_Block__Data hs13.blk, e3]
      refine flip_loopH hs13.p1 (fun z l' hz K hk => (L_api_Block__Data (Sep.blk (Sep.p1 hz)) K).mpr hk) (by have := hsmo e hem; omega) fun w14 hs14 => ?_
      rw [wi64 (by omega) (by omega)]
      exact ⟨⟨j + 1, _ :: _ :: F, by simp, by omega, hs14⟩, by simp [RowKit.intOf]; omega⟩
    · have h1 := hs10.dropL.dropL
      rw [hY] at h1
      refine hR _ _ ⟨rfl, bv', vv', rbv', rvv', xv, yv, _, _, _, ids, hts, E, hI.filter _, kb_filter hkb fun y => !decide (y.2.p = kk), hD.filter _, hM.filter _, ?_, ?_, by omega, h1.tail⟩
      · exact Nat.le_trans (List.length_filter_le _ _) (by omega)
      · exact Nat.le_trans (List.length_filter_le _ _) (by omega)
  rw [bi_eql, cnd_bool]
  refine ⟨fun h => ?_, fun h => ?_⟩
  · refine drH_S hs1 fun w2 hs2 _ => ?_
    simp only [nilc_some, fad_mk, pik_true, pik_false, cnd_true, cnd_false, gif_same, gif_tf, gif_ft, gif_undef, bi_add, bi_sub, bi_mul, bi_eql, bi_neq, bi_lss, bi_leq, bi_gtr, bi_geq, notB_bool, cvi_int, lenS_mk, lenT_mk, ext0, ext1, ext2, nilP_mk, nilS_mk, fldv_agg, jn0_k, jn1_k, jn2_k, jn1_and, jn1_or, ex_some, Option.isNone_some, Option.isNone_none, Bool.false_bne, Bool.bne_true, Bool.bne_false, Bool.true_bne, Bool.not_true, Bool.not_false, Bool.and_true, Bool.true_and, Bool.and_false, Bool.false_and, Bool.or_true, Bool.true_or, Bool.or_false, Bool.false_or, cond_true, cond_false, List.getElem?_toArray, List.getElem?_cons_zero, List.getElem?_cons_succ, Nat.zero_add, Nat.add_zero, Nat.reduceAdd, forall_const]
    refine rdS_ld (v := .pointer (some ⟨g, 0, none⟩)) (fun u hu K hk => (L_flurrylaw23_both__h (Sep.blk (Sep.pick hu [7] 8)) K).mpr hk) ?_
    refine rdS_ld (v := .int .u8 a.k) (fun u hu K hk => (L_flurrylaw23_Act__K (Sep.blk hu) K).mpr hk) ?_
    refine efS_i (cal_i (names_id_spec (nmP_B gx (.pointer (some ⟨g, 0, none⟩)) (.pointer (some ⟨gr, 0, none⟩))) (Sep.pick hs2 [7, 8] 10) hI.h0 (by omega) hak.1) ?_)
    rintro _ w3 ⟨rfl, hf3⟩
    have hs3 := hs2.old hf3
    refine ⟨hs3, ?_⟩
    obtain ⟨kk, hkk⟩ : ∃ kk, kk = ids.getD (a.k % ids.length) (vz 32) := ⟨_, rfl⟩
    rw [← hkk]
    refine efC_cal (cal_i (hLost_spec (As := blk g3 (Rdr.cells Q_flurrylaw23_Act a.t).toArray T_flurrylaw23_Act :: (rhH gr rbv rvv rb rv ms vs ++ (nmB gx (.pointer (some ⟨g, 0, none⟩)) (.pointer (some ⟨gr, 0, none⟩)) xv yv :: rows (rVec 32) xv ids :: rows (rInt .i64) yv hts :: (E ++ Xs)))) (Sep.pick hs3 [1, 2, 3, 0, 4, 5, 6, 7, 8, 9] 10) (hD.sub fun A hA => by simp only [List.mem_cons, List.mem_append] at hA ⊢; simp [hA]) (by omega) (by omega) kk) ?_)
    rintro _ w4 ⟨ob, ov, bv', vv', L, rfl, hL, hs4⟩
    clear hs3 hs2 hs1
    simp only [nilc_some, fad_mk, pik_true, pik_false, cnd_true, cnd_false, gif_same, gif_tf, gif_ft, gif_undef, bi_add, bi_sub, bi_mul, bi_eql, bi_neq, bi_lss, bi_leq, bi_gtr, bi_geq, notB_bool, cvi_int, lenS_mk, lenT_mk, ext0, ext1, ext2, nilP_mk, nilS_mk, fldv_agg, jn0_k, jn1_k, jn2_k, jn1_and, jn1_or, ex_some, Option.isNone_some, Option.isNone_none, Bool.false_bne, Bool.bne_true, Bool.bne_false, Bool.true_bne, Bool.not_true, Bool.not_false, Bool.and_true, Bool.true_and, Bool.and_false, Bool.false_and, Bool.or_true, Bool.true_or, Bool.or_false, Bool.false_or, cond_true, cond_false, List.getElem?_toArray, List.getElem?_cons_zero, List.getElem?_cons_succ, Nat.zero_add, Nat.add_zero, Nat.reduceAdd, forall_const]
    -- hd 0 1 2 · ob 3 · ov 4 · act 5 · rh 6 7 8 · nm 9 · ids 10 · hts 11
    refine drH_S hs4 fun w5 hs5 _ => ?_
    refine rdS_ld (v := .pointer (some ⟨gr, 0, none⟩)) (fun u hu K hk => (L_flurrylaw23_both__r (Sep.blk (Sep.pick hu [9] 10)) K).mpr hk) ?_
    refine rdS_ld (v := .int .u8 a.k) (fun u hu K hk => (L_flurrylaw23_Act__K (Sep.blk (Sep.pick hu [5] 6)) K).mpr hk) ?_
    refine efS_i (cal_i (names_id_spec (nmP_B gx (.pointer (some ⟨g, 0, none⟩)) (.pointer (some ⟨gr, 0, none⟩))) (Sep.pick hs5 [9, 10] 12) hI.h0 (by omega) hak.1) ?_)
    rintro _ w6 ⟨rfl, hf6⟩
    have hs6 := hs5.old hf6
    refine ⟨hs6, ?_⟩
    rw [← hkk]
    refine efC_cal (cal_i (rhLost_spec (As := hdH g bv' vv' rb rv (ws.filter fun x => !decide (x.2.1.p ∈ L)) (vs.filter fun x => !decide (x.2.2.1 ∈ L)) ++ (rows (rVec 32) ob ((ws.filter fun x => decide (x.2.1.p ∈ L)).map (·.1)) :: rows Q_api_HeldVote ov (vs.filter fun x => decide (x.2.2.1 ∈ L)) :: nmB gx (.pointer (some ⟨g, 0, none⟩)) (.pointer (some ⟨gr, 0, none⟩)) xv yv :: rows (rVec 32) xv ids :: rows (rInt .i64) yv hts :: (E ++ Xs))) (Sep.pick hs6 [6, 7, 8, 0, 1, 2, 3, 4, 9, 10, 11] 12) (hM.sub fun A hA => by simp only [List.mem_cons, List.mem_append] at hA ⊢; simp [hA]) (by omega) (by omega) kk) ?_)
    rintro _ w7 ⟨ob2, ov2, rbv', rvv', L', rfl, hL', hs7⟩
    obtain rfl := lost_same hkb hL hL'
    simp only [nilc_some, fad_mk, pik_true, pik_false, cnd_true, cnd_false, gif_same, gif_tf, gif_ft, gif_undef, bi_add, bi_sub, bi_mul, bi_eql, bi_neq, bi_lss, bi_leq, bi_gtr, bi_geq, notB_bool, cvi_int, lenS_mk, lenT_mk, ext0, ext1, ext2, nilP_mk, nilS_mk, fldv_agg, jn0_k, jn1_k, jn2_k, jn1_and, jn1_or, ex_some, Option.isNone_some, Option.isNone_none, Bool.false_bne, Bool.bne_true, Bool.bne_false, Bool.true_bne, Bool.not_true, Bool.not_false, Bool.and_true, Bool.true_and, Bool.and_false, Bool.false_and, Bool.or_true, Bool.true_or, Bool.or_false, Bool.false_or, cond_true, cond_false, List.getElem?_toArray, List.getElem?_cons_zero, List.getElem?_cons_succ, Nat.zero_add, Nat.add_zero, Nat.reduceAdd, forall_const]
    have e1 : (ws.filter fun x => decide (x.2.1.p ∈ L)).map (·.1) = (ms.filter fun x => decide (x.2.1.p ∈ L)).map (·.1) := by
      have h1 := congrArg (List.map (·.1)) (kb_filter hkb fun y => decide (y.2.p ∈ L))
      rw [List.map_map, List.map_map] at h1
      exact h1
    refine cal_i (idsEqual_spec (Sep.rows (Sep.pick hs7 [8] 9)) (Sep.rows (Sep.pick hs7 [3] 4)) ?_) ?_
    · rw [List.length_map]
      exact Nat.le_trans (List.length_filter_le _ _) (by omega)
    rintro _ w8 ⟨rfl, hf8⟩
    have hs8 := hs7.old hf8
    rw [decide_eq_true e1]
    simp only [nilc_some, fad_mk, pik_true, pik_false, cnd_true, cnd_false, gif_same, gif_tf, gif_ft, gif_undef, bi_add, bi_sub, bi_mul, bi_eql, bi_neq, bi_lss, bi_leq, bi_gtr, bi_geq, notB_bool, cvi_int, lenS_mk, lenT_mk, ext0, ext1, ext2, nilP_mk, nilS_mk, fldv_agg, jn0_k, jn1_k, jn2_k, jn1_and, jn1_or, ex_some, Option.isNone_some, Option.isNone_none, Bool.false_bne, Bool.bne_true, Bool.bne_false, Bool.true_bne, Bool.not_true, Bool.not_false, Bool.and_true, Bool.true_and, Bool.and_false, Bool.false_and, Bool.or_true, Bool.true_or, Bool.or_false, Bool.false_or, cond_true, cond_false, List.getElem?_toArray, List.getElem?_cons_zero, List.getElem?_cons_succ, Nat.zero_add, Nat.add_zero, Nat.reduceAdd, forall_const]
    refine jn1_dup ?_
    refine cal_i (votesEqual_spec (Sep.rows (Sep.pick hs8 [9] 10)) (Sep.rows (Sep.pick hs8 [4] 5)) ?_) ?_
    · exact Nat.le_trans (List.length_filter_le _ _) (by omega)
    rintro _ w9 ⟨rfl, hf9⟩
    have hs9 := hs8.old hf9
    simp only [nilc_some, fad_mk, pik_true, pik_false, cnd_true, cnd_false, gif_same, gif_tf, gif_ft, gif_undef, bi_add, bi_sub, bi_mul, bi_eql, bi_neq, bi_lss, bi_leq, bi_gtr, bi_geq, notB_bool, cvi_int, lenS_mk, lenT_mk, ext0, ext1, ext2, nilP_mk, nilS_mk, fldv_agg, jn0_k, jn1_k, jn2_k, jn1_and, jn1_or, ex_some, Option.isNone_some, Option.isNone_none, Bool.false_bne, Bool.bne_true, Bool.bne_false, Bool.true_bne, Bool.not_true, Bool.not_false, Bool.and_true, Bool.true_and, Bool.and_false, Bool.false_and, Bool.or_true, Bool.true_or, Bool.or_false, Bool.false_or, cond_true, cond_false, List.getElem?_toArray, List.getElem?_cons_zero, List.getElem?_cons_succ, Nat.zero_add, Nat.add_zero, Nat.reduceAdd, forall_const, decide_true]
    refine hR _ _ ⟨rfl, bv', vv', rbv', rvv', xv, yv, _, _, _, ids, hts, E, hI.filter _, kb_filter hkb fun y => !decide (y.2.p ∈ L), hD.filter _, hM.filter _, ?_, ?_, by omega, Sep.pick hs9 [5, 6, 7, 0, 1, 2, 10, 11, 12] 13⟩
    · exact Nat.le_trans (List.length_filter_le _ _) (by omega)
    · exact Nat.le_trans (List.length_filter_le _ _) (by omega)
  rw [bi_eql, cnd_bool]
  refine ⟨fun h => ?_, fun h => ?_⟩
  · refine drH_PH (S := fun u => Sep w0 u (blk g3 (Rdr.cells Q_flurrylaw23_Act a.t).toArray T_flurrylaw23_Act :: (rhH gr rbv rvv rb rv ms vs ++ (nmB gx (.pointer (some ⟨g, 0, none⟩)) (.pointer (some ⟨gr, 0, none⟩)) xv yv :: rows (rVec 32) xv ids :: rows (rInt .i64) yv hts :: (E ++ Xs))))) hs1 (fun u hu => Sep.pick hu [0, 4, 5, 6, 7, 8, 9] 10) fun w2 hs2 _ => ?_
    simp only [nilc_some, fad_mk, pik_true, pik_false, cnd_true, cnd_false, gif_same, gif_tf, gif_ft, gif_undef, bi_add, bi_sub, bi_mul, bi_eql, bi_neq, bi_lss, bi_leq, bi_gtr, bi_geq, notB_bool, cvi_int, lenS_mk, lenT_mk, ext0, ext1, ext2, nilP_mk, nilS_mk, fldv_agg, jn0_k, jn1_k, jn2_k, jn1_and, jn1_or, ex_some, Option.isNone_some, Option.isNone_none, Bool.false_bne, Bool.bne_true, Bool.bne_false, Bool.true_bne, Bool.not_true, Bool.not_false, Bool.and_true, Bool.true_and, Bool.and_false, Bool.false_and, Bool.or_true, Bool.true_or, Bool.or_false, Bool.false_or, cond_true, cond_false, List.getElem?_toArray, List.getElem?_cons_zero, List.getElem?_cons_succ, Nat.zero_add, Nat.add_zero, Nat.reduceAdd, forall_const]
    refine rdS_ld (v := .pointer (some ⟨g, 0, none⟩)) (fun u hu K hk => (L_flurrylaw23_both__h (Sep.blk (Sep.pick hu [4] 5)) K).mpr hk) ?_
    refine rdS_ld (v := .int .i64 a.poll) (fun u hu K hk => (L_flurrylaw23_Act__Poll (Sep.blk hu) K).mpr hk) ?_
    refine rdS_ld (v := .pointer (some ⟨gr, 0, none⟩)) (fun u hu K hk => (L_flurrylaw23_both__r (Sep.blk (Sep.pick hu [4] 5)) K).mpr hk) ?_
    refine rdS_ld (v := .int .i64 a.poll) (fun u hu K hk => (L_flurrylaw23_Act__Poll (Sep.blk hu) K).mpr hk) ?_
    refine efS_i (cal_i (hDrop_spec (p := a.poll) (As := blk g3 (Rdr.cells Q_flurrylaw23_Act a.t).toArray T_flurrylaw23_Act :: (rhH gr rbv rvv rb rv ms vs ++ (nmB gx (.pointer (some ⟨g, 0, none⟩)) (.pointer (some ⟨gr, 0, none⟩)) xv yv :: rows (rVec 32) xv ids :: rows (rInt .i64) yv hts :: (E ++ Xs)))) (Sep.pick hs2 [1, 2, 3, 0, 4, 5, 6, 7, 8, 9] 10) (hD.sub fun A hA => by simp only [List.mem_cons, List.mem_append] at hA ⊢; simp [hA]) (by omega)) ?_)
    rintro _ w3 ⟨rfl, vv', hs3⟩
    refine ⟨hs3.tail.tail.tail, ?_⟩
    refine efC_cal (cal_i (rhDrop_spec (p := a.poll) (As := blk g3 (Rdr.cells Q_flurrylaw23_Act a.t).toArray T_flurrylaw23_Act :: (hdH g bv vv' rb rv ws (vs.filter fun x => !decide (x.1 = a.poll)) ++ (nmB gx (.pointer (some ⟨g, 0, none⟩)) (.pointer (some ⟨gr, 0, none⟩)) xv yv :: rows (rVec 32) xv ids :: rows (rInt .i64) yv hts :: (E ++ Xs)))) (Sep.pick hs3 [4, 5, 6, 3, 0, 1, 2, 7, 8, 9] 10) (hM.sub fun A hA => by simp only [List.mem_cons, List.mem_append] at hA ⊢; simp [hA]) (by omega)) ?_)
    rintro _ w4 ⟨rfl, rvv', hs4⟩
    simp only [nilc_some, fad_mk, pik_true, pik_false, cnd_true, cnd_false, gif_same, gif_tf, gif_ft, gif_undef, bi_add, bi_sub, bi_mul, bi_eql, bi_neq, bi_lss, bi_leq, bi_gtr, bi_geq, notB_bool, cvi_int, lenS_mk, lenT_mk, ext0, ext1, ext2, nilP_mk, nilS_mk, fldv_agg, jn0_k, jn1_k, jn2_k, jn1_and, jn1_or, ex_some, Option.isNone_some, Option.isNone_none, Bool.false_bne, Bool.bne_true, Bool.bne_false, Bool.true_bne, Bool.not_true, Bool.not_false, Bool.and_true, Bool.true_and, Bool.and_false, Bool.false_and, Bool.or_true, Bool.true_or, Bool.or_false, Bool.false_or, cond_true, cond_false, List.getElem?_toArray, List.getElem?_cons_zero, List.getElem?_cons_succ, Nat.zero_add, Nat.add_zero, Nat.reduceAdd, forall_const, beq_self_eq_true]
    refine hR _ _ ⟨rfl, bv, vv', rbv, rvv', xv, yv, ws, ms, _, ids, hts, E, hI, hkb, hD, hM, by omega, ?_, by omega, Sep.pick hs4 [4, 5, 6, 0, 1, 2, 7, 8, 9] 10⟩
    exact Nat.le_trans (List.length_filter_le _ _) (by omega)
  · exact hR _ _ ⟨rfl, bv, vv, rbv, rvv, xv, yv, ws, ms, vs, ids, hts, E, hI, hkb, hD, hM, by omega, by omega, by omega, hs1.tail⟩
end
end Go.Fx
