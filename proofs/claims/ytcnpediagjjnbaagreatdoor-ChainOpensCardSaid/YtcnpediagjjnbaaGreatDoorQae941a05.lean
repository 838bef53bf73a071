/-
  What is proved: for all arguments the law ChainOpens returns true, and its arguments read as they did. Conditions: none.
-/
import Derived.LaidEqlPtr
import Derived.Test.YtcnpediagjjnbaaGreatDoorRows
import Derived.WalkKit
import Derived.ProofKit
import Derived.OpenShut
import Derived.ChangeOld
import Derived.Below
import Derived.Carry
import Derived.Test.YtcnpediagjjnbaaGreatDoorCards
import Derived.Test.YtcnpediagjjnbaaGreatDoorTie
import Derived.LaidMore
import Derived.Stop.Joined
import Derived.Test.YtcnpediagjjnbaaGreatDoorQbad71970
import Derived.Test.YtcnpediagjjnbaaGreatDoorQeb7d6745
import Derived.Test.YtcnpediagjjnbaaGreatDoorQb4f67b90
import Derived.Test.YtcnpediagjjnbaaGreatDoorQb1b07220
import Derived.Test.YtcnpediagjjnbaaGreatDoorQ33c81f17
set_option linter.unusedVariables false
set_option linter.unusedSimpArgs false
namespace Go.Fx
section
variable {w0 w w' : World} {As : List Asn} {pt : Value} {x : Tp}
theorem Tp.app_room {x : Tp} {a : List UInt8} (hm : x.made = true) (ho : x.off = false) (hr : x.b.length + a.length ≤ 262144) (h : x.armed = -1 ∨ (a.length : Int) ≤ x.armed) :
    ∃ k, x.append a = (⟨x.b ++ a, k, false, true⟩, 0) ∧ (-1 ≤ x.armed → -1 ≤ k ∧ k ≤ x.armed) := by
  obtain ⟨b, armed, off, made⟩ := x
  obtain rfl : made = true := hm
  obtain rfl : off = false := ho
  unfold Tp.append
  rw [if_neg (by simp [Tp.may]), if_neg (by have hr' : b.length + a.length ≤ 262144 := hr; show ¬ 262144 < b.length + a.length; omega)]
  by_cases h1 : armed = -1
  · rw [if_pos h1]
    exact ⟨-1, by rw [h1], fun _ => by simp only; omega⟩
  · have h2 : (a.length : Int) ≤ armed := h.resolve_left h1
    rw [if_neg h1, if_pos h2]
    exact ⟨_, rfl, fun h => by simp only at h ⊢; omega⟩
theorem cOpenG {v : Value} {W : List Blk} {As : List Asn} (hs : Sep w0 w (tp pt x :: rdA v [103] :: As)) (hx : x.Ok) (hm : x.made = true) (hC : Cub w0) (hoff : x.off = false) (hW : IsScan x.b W) (hl : linked genB W) :
    cal P f_chain_Open [pt, bq genB v] w fun r w' => ∃ g gi gm lv iv B E, r = .tuple #[.pointer (some ⟨g, 0, none⟩), .int .i64 0] ∧ blks B = genB :: W ∧ DatB B E ∧
      Sep w0 w' (chH g gi gm lv iv pt false B ++ (tp pt { x with b := layL W } :: (E ++ (rdA v [103] :: As)))) := by
  refine cal_i (cOpen_spec (b := genB) (v := v) hs hx hm hC (fun z hz => Sep.rda hz) (by decide)) ?_
  rintro r w1 (⟨h, _⟩ | ⟨_, h, _⟩ | ⟨_, _, _, g, gi, gm, lv, iv, B, E, S, rfl, hS, hB, hD, hs1⟩)
  · rw [hoff] at h; cases h
  · rcases h with h | h
    · exact absurd genB_chk h
    · exact absurd genB_h h
  obtain rfl := hS.uniq hW
  rw [linkT_self hl] at hB hs1
  exact ⟨g, gi, gm, lv, iv, B, E, rfl, hB, hD, hs1⟩
theorem datRd {N : List BV} {E As Bs : List Asn} (h : DatB N E) (hs : Sep w0 w (As ++ (E ++ Bs))) : ∀ x ∈ N, RdB w.heap x.2 x.1.d := fun x hx => by
  obtain ⟨F, hF⟩ := hs.onL (A := ownB x.2 x.1.d) (List.mem_append_right _ (List.mem_append_left _ (h x hx)))
  exact OwnB.rd hF
theorem Blk.kid_of {b : Blk} {d : List UInt8} (hc : b.chk = 0) (hh : b.h ≤ 1000000) (hd : d.length ≤ 200) : b.child d = b.kid d ∧ (b.child d).link b = 0 ∧ (b.child d).h = b.h + 1 ∧ (b.child d).chk = 0 ∧ (b.child d).d = d := by
  have hk : b.kidOk d := ⟨hc, by unfold maxI; omega, hd⟩
  have e : b.child d = b.kid d := by unfold Blk.child; rw [if_pos hk]
  rw [e]
  have h1 := (Blk.link_kid hk).1
  exact ⟨rfl, h1, rfl, (link_chk h1).1, rfl⟩
theorem begun10_spec (hC : Cub w) : cal P f_law10_begun [] w fun v w' => v = .bool true ∧ Fr [] w w' := by
  refine s_law10_begun fun R hR => ?_
  unfold c_law10_begun
  refine cal_i tpNew_spec ?_
  rintro pt w1 hs1
  have hp1 := tp_one hs1
  refine cal_i cFirst_spec ?_
  rintro _ w2 ⟨v1, rfl, hs2⟩
  replace hs2 := hs1.join hs2
  have hg0 : goodB [] := fun b hb => by cases hb
  refine cal_i (cOpenG (W := []) hs2.p1 ⟨by simp, by simp, by simp⟩ rfl hC rfl (scan_all hg0) trivial) ?_
  rintro _ w3 ⟨g, gi, gm, lv, iv, B, E, rfl, hB, hD, hs3⟩
  obtain ⟨A3, hA3⟩ : ∃ A3, A3 = E ++ [rdA v1 [103]] := ⟨_, rfl⟩
  replace hD : DatB B A3 := by rw [hA3]; exact hD.sub fun A hA => List.mem_append_left _ hA
  rw [← hA3] at hs3
  clear hs1 hs2
  obtain ⟨y0, hy0, hy1⟩ := lastOf hB
  have hy1 : y0.1 = genB := hy1
  have hBl : B.length = 1 := by
    have := congrArg List.length hB
    simpa using this
  simp only [nilc_some, fad_mk, pik_true, pik_false, cnd_true, cnd_false, gif_same, gif_tf, gif_ft, gif_undef, bi_add, bi_sub, bi_mul, bi_eql, bi_neq, bi_lss, bi_leq, bi_gtr, bi_geq, notB_bool, cvi_int, lenS_mk, lenT_mk, ext0, ext1, ext2, nilP_mk, nilS_mk, fldv_agg, jn0_k, jn1_k, jn2_k, jn1_and, jn1_or, ex_some, Option.isNone_some, Option.isNone_none, Bool.false_bne, Bool.bne_true, Bool.bne_false, Bool.true_bne, Bool.not_true, Bool.not_false, Bool.and_true, Bool.true_and, Bool.and_false, Bool.false_and, Bool.or_true, Bool.true_or, Bool.or_false, Bool.false_or, cond_true, cond_false, List.getElem?_toArray, List.getElem?_cons_zero, List.getElem?_cons_succ, Nat.zero_add, Nat.add_zero, Nat.reduceAdd, forall_const, show ((0 : Int) != 0) = false from rfl]
  refine jn1_dup ?_
  simp only [nilc_some, fad_mk, pik_true, pik_false, cnd_true, cnd_false, gif_same, gif_tf, gif_ft, gif_undef, bi_add, bi_sub, bi_mul, bi_eql, bi_neq, bi_lss, bi_leq, bi_gtr, bi_geq, notB_bool, cvi_int, lenS_mk, lenT_mk, ext0, ext1, ext2, nilP_mk, nilS_mk, fldv_agg, jn0_k, jn1_k, jn2_k, jn1_and, jn1_or, ex_some, Option.isNone_some, Option.isNone_none, Bool.false_bne, Bool.bne_true, Bool.bne_false, Bool.true_bne, Bool.not_true, Bool.not_false, Bool.and_true, Bool.true_and, Bool.and_false, Bool.false_and, Bool.or_true, Bool.true_or, Bool.or_false, Bool.false_or, cond_true, cond_false, List.getElem?_toArray, List.getElem?_cons_zero, List.getElem?_cons_succ, Nat.zero_add, Nat.add_zero, Nat.reduceAdd, forall_const]
  rw [tp_nilP (Sep.pick hs3 [5] 6)]
  simp only [nilc_some, fad_mk, pik_true, pik_false, cnd_true, cnd_false, gif_same, gif_tf, gif_ft, gif_undef, bi_add, bi_sub, bi_mul, bi_eql, bi_neq, bi_lss, bi_leq, bi_gtr, bi_geq, notB_bool, cvi_int, lenS_mk, lenT_mk, ext0, ext1, ext2, nilP_mk, nilS_mk, fldv_agg, jn0_k, jn1_k, jn2_k, jn1_and, jn1_or, ex_some, Option.isNone_some, Option.isNone_none, Bool.false_bne, Bool.bne_true, Bool.bne_false, Bool.true_bne, Bool.not_true, Bool.not_false, Bool.and_true, Bool.true_and, Bool.and_false, Bool.false_and, Bool.or_true, Bool.true_or, Bool.or_false, Bool.false_or, cond_true, cond_false, List.getElem?_toArray, List.getElem?_cons_zero, List.getElem?_cons_succ, Nat.zero_add, Nat.add_zero, Nat.reduceAdd, forall_const]
  refine cal_i cFirst_spec ?_
  rintro _ w4 ⟨v2, rfl, hs4⟩
  replace hs4 := hs3.join hs4
  refine lit_s (l := [97]) hs4 U_sl_uint8 U_uint8 rfl (lit1 97 w4) fun g5 w5 hs5 => ?_
  refine cal_i (cChild_spec (b := genB) (v := v2) (d := [97]) (Sep.rda hs5.p1) (Sep.rda hs5) (Sep.rdaCap hs5) (by decide) (by simp)) ?_
  rintro _ w6 ⟨v', rfl, hs6⟩
  replace hs6 := hs5.join hs6
  obtain ⟨k1, k2, k3, k4, k5⟩ := Blk.kid_of (b := genB) (d := ([97] : List UInt8).take 200) genB_chk (by decide) (by simp)
  obtain ⟨b1, hb1⟩ : ∃ b1, b1 = genB.child (([97] : List UInt8).take 200) := ⟨_, rfl⟩
  rw [← hb1] at hs6 k2 k3 k4 k5 ⊢
  have hb1h : b1.h = 1 := k3
  have hb1d : b1.d.length = 1 := by rw [k5]; rfl
  refine alloc_s hs6 (A_api_Block w6) fun g4 w7 hs7 => ?_
  refine St_api_Block (b := (b1.p, b1.h, v')) hs7 (one_api_Block (Sep.one hs7.p1)) fun w8 hs8 => ?_
  simp only [L_api_Block hs8.blk, L_api_Block__Parent hs8.blk, L_api_Block__Height hs8.blk, L_api_Block__Data hs8.blk]
  have hr1 : b1.rcd.length = 67 := by rw [Blk.rec_len, hb1d]
  refine cal_i (cAccept_spec (b := b1) (v := v') (y := y0) (x := ⟨[], -1, false, true⟩) (As := blk g4 (Rdr.cells Q_api_Block (b1.p, b1.h, v')).toArray T_api_Block :: ownB v' b1.d :: A3) (Sep.pick hs8 [4, 5, 6, 7, 8, 9, 0, 1] 10) ⟨by simp, by simp, by simp⟩ rfl hC (fun z hz => Sep.rd hz.tail)
    (hD.sub fun A hA => List.mem_cons_of_mem _ (List.mem_cons_of_mem _ hA)) (by rw [hb1h]; decide) hy0 (by rw [hy1]; decide) (by omega)) ?_
  obtain ⟨k, hk, hk2⟩ := Tp.app_room (x := ⟨[], -1, false, true⟩) (a := b1.rcd) rfl rfl (by simp; omega) (.inl rfl)
  have hk3 := hk2 (by simp)
  obtain rfl : k = -1 := by simp only at hk3; omega
  rw [hk, hy1]
  rintro _ w9 (⟨h, _⟩ | ⟨_, _, h, _⟩ | ⟨_, _, _, _, rfl, lv', iv', vd, hs9⟩ | ⟨_, _, _, h, _⟩)
  · rcases h with h | h <;> cases h
  · exact absurd k2 h
  case inr.inr.inr => exact absurd rfl h
  clear hs3 hs4 hs5 hs6 hs7 hs8
  rw [List.nil_append] at hs9
  -- chain 0-4 · tp 5 · vd 6 · t4 7 · v' 8 · A3
  simp only [nilc_some, fad_mk, pik_true, pik_false, cnd_true, cnd_false, gif_same, gif_tf, gif_ft, gif_undef, bi_add, bi_sub, bi_mul, bi_eql, bi_neq, bi_lss, bi_leq, bi_gtr, bi_geq, notB_bool, cvi_int, lenS_mk, lenT_mk, ext0, ext1, ext2, nilP_mk, nilS_mk, fldv_agg, jn0_k, jn1_k, jn2_k, jn1_and, jn1_or, ex_some, Option.isNone_some, Option.isNone_none, Bool.false_bne, Bool.bne_true, Bool.bne_false, Bool.true_bne, Bool.not_true, Bool.not_false, Bool.and_true, Bool.true_and, Bool.and_false, Bool.false_and, Bool.or_true, Bool.true_or, Bool.or_false, Bool.false_or, cond_true, cond_false, List.getElem?_toArray, List.getElem?_cons_zero, List.getElem?_cons_succ, Nat.zero_add, Nat.add_zero, Nat.reduceAdd, forall_const, show ((0 : Int) != 0) = false from rfl]
  refine jn1_dup ?_
  refine cal_i (tpArm_spec (n := 10) (Sep.pick hs9 [5, 0, 1, 2, 3, 4, 6, 7, 8] 9)) ?_
  rintro _ w10 ⟨rfl, hs10⟩
  have e3 : (⟨b1.rcd, -1, false, true⟩ : Tp).arm 10 = (⟨b1.rcd, 10, false, true⟩, 0) := rfl
  rw [e3] at hs10 ⊢
  simp only [nilc_some, fad_mk, pik_true, pik_false, cnd_true, cnd_false, gif_same, gif_tf, gif_ft, gif_undef, bi_add, bi_sub, bi_mul, bi_eql, bi_neq, bi_lss, bi_leq, bi_gtr, bi_geq, notB_bool, cvi_int, lenS_mk, lenT_mk, ext0, ext1, ext2, nilP_mk, nilS_mk, fldv_agg, jn0_k, jn1_k, jn2_k, jn1_and, jn1_or, ex_some, Option.isNone_some, Option.isNone_none, Bool.false_bne, Bool.bne_true, Bool.bne_false, Bool.true_bne, Bool.not_true, Bool.not_false, Bool.and_true, Bool.true_and, Bool.and_false, Bool.false_and, Bool.or_true, Bool.true_or, Bool.or_false, Bool.false_or, cond_true, cond_false, List.getElem?_toArray, List.getElem?_cons_zero, List.getElem?_cons_succ, Nat.zero_add, Nat.add_zero, Nat.reduceAdd, forall_const, show ((0 : Int) != 0) = false from rfl]
  try intro _
  refine jn1_dup ?_
  simp only [nilc_some, fad_mk, pik_true, pik_false, cnd_true, cnd_false, gif_same, gif_tf, gif_ft, gif_undef, bi_add, bi_sub, bi_mul, bi_eql, bi_neq, bi_lss, bi_leq, bi_gtr, bi_geq, notB_bool, cvi_int, lenS_mk, lenT_mk, ext0, ext1, ext2, nilP_mk, nilS_mk, fldv_agg, jn0_k, jn1_k, jn2_k, jn1_and, jn1_or, ex_some, Option.isNone_some, Option.isNone_none, Bool.false_bne, Bool.bne_true, Bool.bne_false, Bool.true_bne, Bool.not_true, Bool.not_false, Bool.and_true, Bool.true_and, Bool.and_false, Bool.false_and, Bool.or_true, Bool.true_or, Bool.or_false, Bool.false_or, cond_true, cond_false, List.getElem?_toArray, List.getElem?_cons_zero, List.getElem?_cons_succ, Nat.zero_add, Nat.add_zero, Nat.reduceAdd, forall_const, L_api_Block (Sep.blk (Sep.pick hs10 [7] 8)), L_api_Block__Parent (Sep.blk (Sep.pick hs10 [7] 8)), L_api_Block__Height (Sep.blk (Sep.pick hs10 [7] 8)), L_api_Block__Data (Sep.blk (Sep.pick hs10 [7] 8))]
  refine cal_i (cChild_spec (b := b1) (v := v') (u := .slice none 0 0) (d := []) (Sep.rd (Sep.pick hs10 [8] 9)) (RdB.nil _ 0) (fun a n c h => by cases h; omega) (by rw [hb1h]; decide) (by simp)) ?_
  rintro _ w11 ⟨v3, rfl, hs11⟩
  replace hs11 := hs10.join hs11
  obtain ⟨m1, m2, m3, m4, m5⟩ := Blk.kid_of (b := b1) (d := ([] : List UInt8).take 200) k4 (by rw [hb1h]; decide) (by simp)
  obtain ⟨b2, hb2⟩ : ∃ b2, b2 = b1.child (([] : List UInt8).take 200) := ⟨_, rfl⟩
  rw [← hb2] at hs11 m2 m3 m4 m5 ⊢
  have hb2h : b2.h = 2 := by rw [m3, hb1h]; rfl
  have hr2 : b2.rcd.length = 66 := by rw [Blk.rec_len, m5]; rfl
  -- v3 0 · tp 1 · chain 2-6 · vd 7 · t4 8 · v' 9 · A3
  refine cal_i (cAccept_spec (b := b2) (v := v3) (y := (b1, vd)) (x := ⟨b1.rcd, 10, false, true⟩) (B := B ++ [(b1, vd)]) (As := ownB v3 b2.d :: ownB vd b1.d :: blk g4 (Rdr.cells Q_api_Block (b1.p, b1.h, v')).toArray T_api_Block :: ownB v' b1.d :: A3) (Sep.pick hs11 [2, 3, 4, 5, 6, 1, 0, 7, 8, 9] 10) ⟨by simp only; omega, by simp, by simp⟩ rfl hC (fun z hz => Sep.rd hz)
    (fun q hq => by
      rcases List.mem_append.1 hq with hq | hq
      · exact List.mem_cons_of_mem _ (List.mem_cons_of_mem _ (List.mem_cons_of_mem _ (List.mem_cons_of_mem _ (hD q hq))))
      · rw [List.mem_singleton.1 hq]; exact List.mem_cons_of_mem _ (List.mem_cons_self ..)) (by rw [hb2h]; decide) (by simp) (by show b1.h ≤ _; rw [hb1h]; decide) (by simp; omega)) ?_
  have e4 : (⟨b1.rcd, 10, false, true⟩ : Tp).append b2.rcd = (⟨b1.rcd ++ b2.rcd.take 10, -1, true, true⟩, 5) := by
    unfold Tp.append
    rw [if_neg (by simp [Tp.may]), if_neg (by simp only; omega), if_neg (by simp), if_neg (by simp only; omega)]
    rfl
  rw [e4]
  rintro _ w12 (⟨h, _⟩ | ⟨_, _, h, _⟩ | ⟨_, _, _, h, _⟩ | ⟨_, _, _, _, rfl, hs12⟩)
  · rcases h with h | h <;> cases h
  · exact absurd m2 h
  · cases h
  -- chain 0-4 · tp 5 · v3 6 · vd 7 · t4 8 · v' 9
  simp only [nilc_some, fad_mk, pik_true, pik_false, cnd_true, cnd_false, gif_same, gif_tf, gif_ft, gif_undef, bi_add, bi_sub, bi_mul, bi_eql, bi_neq, bi_lss, bi_leq, bi_gtr, bi_geq, notB_bool, cvi_int, lenS_mk, lenT_mk, ext0, ext1, ext2, nilP_mk, nilS_mk, fldv_agg, jn0_k, jn1_k, jn2_k, jn1_and, jn1_or, ex_some, Option.isNone_some, Option.isNone_none, Bool.false_bne, Bool.bne_true, Bool.bne_false, Bool.true_bne, Bool.not_true, Bool.not_false, Bool.and_true, Bool.true_and, Bool.and_false, Bool.false_and, Bool.or_true, Bool.true_or, Bool.or_false, Bool.false_or, cond_true, cond_false, List.getElem?_toArray, List.getElem?_cons_zero, List.getElem?_cons_succ, Nat.zero_add, Nat.add_zero, Nat.reduceAdd, forall_const, show ((5 : Int) != 5) = false from rfl]
  try intro _
  refine jn1_dup ?_
  refine cal_i (tpRestart_spec (Sep.pick hs12 [5, 8, 9] 10)) ?_
  rintro _ w13 ⟨rfl, hs13⟩
  have e5 : (⟨b1.rcd ++ b2.rcd.take 10, -1, true, true⟩ : Tp).restart = (⟨b1.rcd ++ b2.rcd.take 10, -1, false, true⟩, 0) := rfl
  simp only [e5] at hs13 ⊢
  simp only [nilc_some, fad_mk, pik_true, pik_false, cnd_true, cnd_false, gif_same, gif_tf, gif_ft, gif_undef, bi_add, bi_sub, bi_mul, bi_eql, bi_neq, bi_lss, bi_leq, bi_gtr, bi_geq, notB_bool, cvi_int, lenS_mk, lenT_mk, ext0, ext1, ext2, nilP_mk, nilS_mk, fldv_agg, jn0_k, jn1_k, jn2_k, jn1_and, jn1_or, ex_some, Option.isNone_some, Option.isNone_none, Bool.false_bne, Bool.bne_true, Bool.bne_false, Bool.true_bne, Bool.not_true, Bool.not_false, Bool.and_true, Bool.true_and, Bool.and_false, Bool.false_and, Bool.or_true, Bool.true_or, Bool.or_false, Bool.false_or, cond_true, cond_false, List.getElem?_toArray, List.getElem?_cons_zero, List.getElem?_cons_succ, Nat.zero_add, Nat.add_zero, Nat.reduceAdd, forall_const, show ((0 : Int) != 0) = false from rfl]
  refine cal_i cFirst_spec ?_
  rintro _ w14 ⟨v4, rfl, hs14⟩
  replace hs14 := hs13.join hs14
  have hg1 : goodB [b1] := fun b hb => by
    rw [List.mem_singleton.1 hb]
    exact ⟨k4, by rw [hb1h]; decide⟩
  have hl1 : layL [b1] = b1.rcd := by rw [layL_cons]; simp [layL]
  have hsc : IsScan (b1.rcd ++ b2.rcd.take 10) [b1] := by
    have := scan_part hg1 (b := b2) m4 (j := 10) (by omega)
    rwa [hl1] at this
  have hx13 : (⟨b1.rcd ++ b2.rcd.take 10, -1, false, true⟩ : Tp).Ok := ⟨by simp only [List.length_append, List.length_take]; omega, by simp, by simp⟩
  refine cal_i (cOpenG (W := [b1]) (Sep.pick hs14 [1, 0, 2, 3] 4) hx13 rfl hC rfl hsc ⟨k2, trivial⟩) ?_
  rintro _ w15 ⟨g2, gi2, gm2, lv2, iv2, B2, E2, rfl, hB2, hD2, hs15⟩
  obtain ⟨y2, hy2, hy3⟩ := lastOf hB2
  have hy3 : y2.1 = b1 := hy3
  have hBl2 : B2.length = 2 := by
    have := congrArg List.length hB2
    simpa using this
  simp only [nilc_some, fad_mk, pik_true, pik_false, cnd_true, cnd_false, gif_same, gif_tf, gif_ft, gif_undef, bi_add, bi_sub, bi_mul, bi_eql, bi_neq, bi_lss, bi_leq, bi_gtr, bi_geq, notB_bool, cvi_int, lenS_mk, lenT_mk, ext0, ext1, ext2, nilP_mk, nilS_mk, fldv_agg, jn0_k, jn1_k, jn2_k, jn1_and, jn1_or, ex_some, Option.isNone_some, Option.isNone_none, Bool.false_bne, Bool.bne_true, Bool.bne_false, Bool.true_bne, Bool.not_true, Bool.not_false, Bool.and_true, Bool.true_and, Bool.and_false, Bool.false_and, Bool.or_true, Bool.true_or, Bool.or_false, Bool.false_or, cond_true, cond_false, List.getElem?_toArray, List.getElem?_cons_zero, List.getElem?_cons_succ, Nat.zero_add, Nat.add_zero, Nat.reduceAdd, forall_const, show ((0 : Int) != 0) = false from rfl]
  refine cal_i (cLastId_spec (chH_rd hs15 (hD2.sub fun A hA => List.mem_cons_of_mem _ (List.mem_append_left _ hA))) hy2 (by omega)) ?_
  rintro _ w16 ⟨rfl, hf16⟩
  have hs16 := hs15.old hf16
  rw [hy3, hb1h]
  have hs17 : Sep w w16 (tp pt ⟨layL [b1], -1, false, true⟩ :: blk g4 (Rdr.cells Q_api_Block (b1.p, b1.h, v')).toArray T_api_Block :: ownB v' b1.d :: (A3 ++ E2)) := by
    have h1 := hs16.dropL
    have h2 := Sep.rot (As := _ :: E2) h1
    have h3 := Sep.pick h2 [1, 2] 3
    exact Sep.mid (As := _ :: _ :: A3) h3
  simp only [nilc_some, fad_mk, pik_true, pik_false, cnd_true, cnd_false, gif_same, gif_tf, gif_ft, gif_undef, bi_add, bi_sub, bi_mul, bi_eql, bi_neq, bi_lss, bi_leq, bi_gtr, bi_geq, notB_bool, cvi_int, lenS_mk, lenT_mk, ext0, ext1, ext2, nilP_mk, nilS_mk, fldv_agg, jn0_k, jn1_k, jn2_k, jn1_and, jn1_or, ex_some, Option.isNone_some, Option.isNone_none, Bool.false_bne, Bool.bne_true, Bool.bne_false, Bool.true_bne, Bool.not_true, Bool.not_false, Bool.and_true, Bool.true_and, Bool.and_false, Bool.false_and, Bool.or_true, Bool.true_or, Bool.or_false, Bool.false_or, cond_true, cond_false, List.getElem?_toArray, List.getElem?_cons_zero, List.getElem?_cons_succ, Nat.zero_add, Nat.add_zero, Nat.reduceAdd, forall_const]
  refine alloc_s hs17 (A_api_ID w16) fun g6 w17 hs18 => ?_
  refine St_api_ID (b := b1.id) hs18 fun w18 hs19 => ?_
  refine drH_S hs19 fun w19 hs20 _ => ?_
  -- id 0 · tp 1 · t4 2 · v' 3
  simp only [nilc_some, fad_mk, pik_true, pik_false, cnd_true, cnd_false, gif_same, gif_tf, gif_ft, gif_undef, bi_add, bi_sub, bi_mul, bi_eql, bi_neq, bi_lss, bi_leq, bi_gtr, bi_geq, notB_bool, cvi_int, lenS_mk, lenT_mk, ext0, ext1, ext2, nilP_mk, nilS_mk, fldv_agg, jn0_k, jn1_k, jn2_k, jn1_and, jn1_or, ex_some, Option.isNone_some, Option.isNone_none, Bool.false_bne, Bool.bne_true, Bool.bne_false, Bool.true_bne, Bool.not_true, Bool.not_false, Bool.and_true, Bool.true_and, Bool.and_false, Bool.false_and, Bool.or_true, Bool.true_or, Bool.or_false, Bool.false_or, cond_true, cond_false, List.getElem?_toArray, List.getElem?_cons_zero, List.getElem?_cons_succ, Nat.zero_add, Nat.add_zero, Nat.reduceAdd, forall_const, show ((1 : Int) == 1) = true from rfl]
  refine jn1_dup ?_
  simp only [nilc_some, fad_mk, pik_true, pik_false, cnd_true, cnd_false, gif_same, gif_tf, gif_ft, gif_undef, bi_add, bi_sub, bi_mul, bi_eql, bi_neq, bi_lss, bi_leq, bi_gtr, bi_geq, notB_bool, cvi_int, lenS_mk, lenT_mk, ext0, ext1, ext2, nilP_mk, nilS_mk, fldv_agg, jn0_k, jn1_k, jn2_k, jn1_and, jn1_or, ex_some, Option.isNone_some, Option.isNone_none, Bool.false_bne, Bool.bne_true, Bool.bne_false, Bool.true_bne, Bool.not_true, Bool.not_false, Bool.and_true, Bool.true_and, Bool.and_false, Bool.false_and, Bool.or_true, Bool.true_or, Bool.or_false, Bool.false_or, cond_true, cond_false, List.getElem?_toArray, List.getElem?_cons_zero, List.getElem?_cons_succ, Nat.zero_add, Nat.add_zero, Nat.reduceAdd, forall_const]
  refine ⟨bq b1 v', fun u hu => (L_api_Block (Sep.blk hu.p2) _).mpr rfl, ?_⟩
  refine efS_i (cal_i (tpLen_spec hs20.p1 rfl) ?_)
  rintro _ _ ⟨rfl, rfl⟩
  refine ⟨hs20, ?_⟩
  refine efS_i (cal_i (rRecSize_spec (b := b1) (v := v') (Sep.rd hs20.p3) (by rw [hb1h]; decide)) ?_)
  rintro _ w20 ⟨rfl, hf20⟩
  have hs21 := hs20.old hf20
  refine ⟨hs21, ?_⟩
  have hro : b1.recO = b1.rcd := if_pos k4
  have he : ((layL [b1]).length : Int) = (b1.recO.length : Int) := by rw [hl1, hro]
  simp only [nilc_some, fad_mk, pik_true, pik_false, cnd_true, cnd_false, gif_same, gif_tf, gif_ft, gif_undef, bi_add, bi_sub, bi_mul, bi_eql, bi_neq, bi_lss, bi_leq, bi_gtr, bi_geq, notB_bool, cvi_int, lenS_mk, lenT_mk, ext0, ext1, ext2, nilP_mk, nilS_mk, fldv_agg, jn0_k, jn1_k, jn2_k, jn1_and, jn1_or, ex_some, Option.isNone_some, Option.isNone_none, Bool.false_bne, Bool.bne_true, Bool.bne_false, Bool.true_bne, Bool.not_true, Bool.not_false, Bool.and_true, Bool.true_and, Bool.and_false, Bool.false_and, Bool.or_true, Bool.true_or, Bool.or_false, Bool.false_or, cond_true, cond_false, List.getElem?_toArray, List.getElem?_cons_zero, List.getElem?_cons_succ, Nat.zero_add, Nat.add_zero, Nat.reduceAdd, forall_const, he]
  try intro _
  refine hR _ _ ⟨by simp, hs21.fr0⟩
end
end Go.Fx
set_option linter.unusedVariables false
set_option linter.unusedSimpArgs false
namespace Go.Fx
section
variable {w0 w w' : World} {As : List Asn} {g gi gm : Nat} {lv iv m pt : Value} {over : Bool} {B : List BV} {x : Tp}
/-- A row's block, read in a region that draws. -/
theorem rdS_nmB {S : World → Prop} {w : World} {v : Value} {N : List BV} {j : Nat} {a : BV} {K : Value → Prop} (hw : S w) (hS : ∀ u, S u → Rows' Q_flurrylaw10_named u.heap v (N.map nmd)) (hj : N[j]? = some a) (k : IntKind) (h : K (bq a.1 a.2)) :
    ixs 66 v (.int k (j : Int)) fun t => fad 32 t fun t' => rdS S (fun w => ldN 34 t' w.heap) K := by
  have hj' : (N.map nmd)[j]? = some (nmd a) := by rw [List.getElem?_map, hj]; rfl
  obtain ⟨g, o, c, rfl⟩ := (hS w hw).form (by decide) hj'
  have hlt := (List.getElem?_eq_some_iff.1 hj').1
  rw [show (66 : Nat) = (Q_flurrylaw10_named).size from rfl, ixs_mk _ _ _ _ _ _ _ _ (by omega) (by omega), Int.toNat_natCast]
  simp only [nilc_some, fad_mk, pik_true, pik_false, cnd_true, cnd_false, gif_same, gif_tf, gif_ft, gif_undef, bi_add, bi_sub, bi_mul, bi_eql, bi_neq, bi_lss, bi_leq, bi_gtr, bi_geq, notB_bool, cvi_int, lenS_mk, lenT_mk, ext0, ext1, ext2, nilP_mk, nilS_mk, fldv_agg, jn0_k, jn1_k, jn2_k, jn1_and, jn1_or, ex_some, Option.isNone_some, Option.isNone_none, Bool.false_bne, Bool.bne_true, Bool.bne_false, Bool.true_bne, Bool.not_true, Bool.not_false, Bool.and_true, Bool.true_and, Bool.and_false, Bool.false_and, Bool.or_true, Bool.true_or, Bool.or_false, Bool.false_or, cond_true, cond_false, List.getElem?_toArray, List.getElem?_cons_zero, List.getElem?_cons_succ, Nat.zero_add, Nat.add_zero, Nat.reduceAdd, forall_const]
  refine ⟨bq a.1 a.2, fun z hz => ?_, h⟩
  exact (LA_flurrylaw10_named__b (At.of (by decide) (hS z hz) hj') _).mpr rfl
theorem rdS_nmI {S : World → Prop} {w : World} {v : Value} {N : List BV} {j : Nat} {a : BV} {K : Value → Prop} (hw : S w) (hS : ∀ u, S u → Rows' Q_flurrylaw10_named u.heap v (N.map nmd)) (hj : N[j]? = some a) (k : IntKind) (h : K (kv a.1.id)) :
    ixs 66 v (.int k (j : Int)) fun t => fad 0 t fun t' => rdS S (fun w => ldN 32 t' w.heap) K := by
  have hj' : (N.map nmd)[j]? = some (nmd a) := by rw [List.getElem?_map, hj]; rfl
  obtain ⟨g, o, c, rfl⟩ := (hS w hw).form (by decide) hj'
  have hlt := (List.getElem?_eq_some_iff.1 hj').1
  rw [show (66 : Nat) = (Q_flurrylaw10_named).size from rfl, ixs_mk _ _ _ _ _ _ _ _ (by omega) (by omega), Int.toNat_natCast]
  simp only [nilc_some, fad_mk, pik_true, pik_false, cnd_true, cnd_false, gif_same, gif_tf, gif_ft, gif_undef, bi_add, bi_sub, bi_mul, bi_eql, bi_neq, bi_lss, bi_leq, bi_gtr, bi_geq, notB_bool, cvi_int, lenS_mk, lenT_mk, ext0, ext1, ext2, nilP_mk, nilS_mk, fldv_agg, jn0_k, jn1_k, jn2_k, jn1_and, jn1_or, ex_some, Option.isNone_some, Option.isNone_none, Bool.false_bne, Bool.bne_true, Bool.bne_false, Bool.true_bne, Bool.not_true, Bool.not_false, Bool.and_true, Bool.true_and, Bool.and_false, Bool.false_and, Bool.or_true, Bool.true_or, Bool.or_false, Bool.false_or, cond_true, cond_false, List.getElem?_toArray, List.getElem?_cons_zero, List.getElem?_cons_succ, Nat.zero_add, Nat.add_zero, Nat.reduceAdd, forall_const]
  refine ⟨kv a.1.id, fun z hz => ?_, h⟩
  exact (LA_flurrylaw10_named__id (At.of (by decide) (hS z hz) hj') _).mpr rfl
end
end Go.Fx
set_option linter.unusedVariables false
set_option linter.unusedSimpArgs false
namespace Go.Fx
/-- The last place of a name. -/
def fnd (L : List Blk) (k : Vec 32) : Option Nat := L.zipIdx.foldl (fun a x => if k = x.1.id then some x.2 else a) none
theorem fnd_snoc (L : List Blk) (b : Blk) (k : Vec 32) : fnd (L ++ [b]) k = if k = b.id then some L.length else fnd L k := by
  unfold fnd
  rw [List.zipIdx_append, List.foldl_append]
  simp
theorem fnd_take (L : List Blk) (k : Vec 32) : ∀ n, n ≤ L.length → atF (L.take n) k = (fnd (L.take n) k).map (fun i => Value.int .i64 (i : Nat)) ∧ (∀ i, fnd (L.take n) k = some i → i < n ∧ ∃ b, L[i]? = some b ∧ b.id = k)
  | 0, _ => ⟨rfl, fun i h => by cases h⟩
  | n + 1, hn => by
    obtain ⟨h1, h2⟩ := fnd_take L k n (by omega)
    obtain ⟨b, hb⟩ : ∃ b, L[n]? = some b := ⟨_, List.getElem?_eq_getElem (by omega)⟩
    have e : L.take (n + 1) = L.take n ++ [b] := by rw [List.take_add_one, hb]; rfl
    have hl : (L.take n).length = n := by rw [List.length_take]; omega
    rw [e, atF_snoc, fnd_snoc, hl]
    unfold updF
    by_cases hk : k = b.id
    · rw [if_pos hk, if_pos hk]
      refine ⟨rfl, fun i hi => ?_⟩
      cases hi
      exact ⟨by omega, b, hb, hk.symm⟩
    · rw [if_neg hk, if_neg hk]
      refine ⟨h1, fun i hi => ?_⟩
      obtain ⟨h3, h4⟩ := h2 i hi
      exact ⟨by omega, h4⟩
theorem atF_fnd (L : List Blk) (k : Vec 32) : atF L k = (fnd L k).map fun i => Value.int .i64 (i : Nat) := by
  have := (fnd_take L k L.length (Nat.le_refl _)).1
  rwa [List.take_length] at this
section
variable {w0 w w' : World} {As : List Asn} {g gi gm : Nat} {lv iv m pt : Value} {over : Bool} {B : List BV} {x : Tp}
theorem lookF2 {E n M V g : Nat} {T : Nat} {f : Vec n → Option Value} {z : Value} (hM : P.underlying M = some (.map T V)) (hT : KeyT P T E n) (hz : ∀ w : World, (zeroValue V).run P w = .ok z w) (hg : MpR w.heap g f) (k : Vec n) (K : Value → Prop) :
    rdP P (Instr.lookup M (.map (some g)) (kv k) true) w K = K (.tuple #[(f k).getD z, .bool (f k).isSome]) := by
  obtain ⟨l, c, _, hf, hm⟩ := hg
  rw [lookup_map hM hT (hz w) hm k, hf]
theorem MpR.fr {g : Nat} {f : Vec 32 → Option Value} (h : MpR w.heap g f) (hf : Fr [] w w') : MpR w'.heap g f := by
  obtain ⟨l, c, h1, h2, h3⟩ := h
  exact ⟨l, c, h1, h2, hf.blk h3 (by simp)⟩
theorem chH_mp (h : Sep w0 w (chH g gi gm lv iv pt over B ++ As)) : MpR w.heap gm (atF (blks B)) := mpF_rd (Sep.pick h [4] 5)
theorem zInt (w : World) : (zeroValue T_int).run P w = .ok (.int .i64 0) w := by kernel_rfl
theorem cHas_spec {k : Vec 32} (hr : ChR w.heap g gi lv iv (.map (some gm)) pt over B) (hm : MpR w.heap gm (atF (blks B))) : cal P f_chain_Chain_Has [.pointer (some ⟨g, 0, none⟩), kv k] w fun r w' => r = .bool (fnd (blks B) k).isSome ∧ Fr [] w w' := by
  refine s_chain_Chain_Has fun R hR => ?_
  unfold c_chain_Chain_Has
  refine bxQ (Sep.start w) fun g3 w1 hs1 => ?_
  refine cal_i (cNone_spec (hs1.ch hr)) ?_
  rintro _ _ ⟨rfl, rfl⟩
  simp only [nilc_some, fad_mk, pik_true, pik_false, cnd_true, cnd_false, gif_same, gif_tf, gif_ft, gif_undef, bi_add, bi_sub, bi_mul, bi_eql, bi_neq, bi_lss, bi_leq, bi_gtr, bi_geq, notB_bool, cvi_int, lenS_mk, lenT_mk, ext0, ext1, ext2, nilP_mk, nilS_mk, fldv_agg, jn0_k, jn1_k, jn2_k, jn1_and, jn1_or, ex_some, Option.isNone_some, Option.isNone_none, Bool.false_bne, Bool.bne_true, Bool.bne_false, Bool.true_bne, Bool.not_true, Bool.not_false, Bool.and_true, Bool.true_and, Bool.and_false, Bool.false_and, Bool.or_true, Bool.true_or, Bool.or_false, Bool.false_or, cond_true, cond_false, List.getElem?_toArray, List.getElem?_cons_zero, List.getElem?_cons_succ, Nat.zero_add, Nat.add_zero, Nat.reduceAdd, forall_const]
  refine drw_s hs1 fun w2 hs2 _ => ?_
  obtain ⟨T, fr, hc⟩ := (hs2.ch hr).cell
  have hl : ∀ K, rdP P (Instr.lookup T_map_api_ID_int (.map (some gm)) (kv k) true) w2 K = K (.tuple #[(atF (blks B) k).getD (.int .i64 0), .bool (atF (blks B) k).isSome]) := lookF2 U_map_api_ID_int KTc zInt (hm.fr hs2.fr0) k
  simp only [L_chain_Chain hc, L_chain_Chain__in hc, L_chain_Chain__l hc, L_chain_Chain__ids hc, L_chain_Chain__at hc, L_chain_Chain__over hc, L_api_ID hs2.blk, hl, nilc_some, fad_mk, pik_true, pik_false, cnd_true, cnd_false, gif_same, gif_tf, gif_ft, gif_undef, bi_add, bi_sub, bi_mul, bi_eql, bi_neq, bi_lss, bi_leq, bi_gtr, bi_geq, notB_bool, cvi_int, lenS_mk, lenT_mk, ext0, ext1, ext2, nilP_mk, nilS_mk, fldv_agg, jn0_k, jn1_k, jn2_k, jn1_and, jn1_or, ex_some, Option.isNone_some, Option.isNone_none, Bool.false_bne, Bool.bne_true, Bool.bne_false, Bool.true_bne, Bool.not_true, Bool.not_false, Bool.and_true, Bool.true_and, Bool.and_false, Bool.false_and, Bool.or_true, Bool.true_or, Bool.or_false, Bool.false_or, cond_true, cond_false, List.getElem?_toArray, List.getElem?_cons_zero, List.getElem?_cons_succ, Nat.zero_add, Nat.add_zero, Nat.reduceAdd, forall_const]
  refine hR _ _ ⟨?_, hs2.fr0⟩
  rw [atF_fnd]
  simp
theorem cTape_spec (hr : ChR w.heap g gi lv iv m pt over B) : cal P f_chain_Chain_Tape [.pointer (some ⟨g, 0, none⟩)] w fun r w' => r = pt ∧ w = w' := by
  refine s_chain_Chain_Tape fun R hR => ?_
  unfold c_chain_Chain_Tape
  refine cal_i (cNone_spec hr) ?_
  rintro _ _ ⟨rfl, rfl⟩
  obtain ⟨T, fr, hc⟩ := hr.cell
  obtain ⟨T2, fr2, hc2⟩ := hr.inn
  have hl : ∀ K : Value → Prop, Go.Fx.ld1 (.pointer (some ⟨gi, 0, none⟩)) w.heap K = K pt := L_chain_held__Tape (a := pt) hc2
  simp only [nilc_some, fad_mk, pik_true, pik_false, cnd_true, cnd_false, gif_same, gif_tf, gif_ft, gif_undef, bi_add, bi_sub, bi_mul, bi_eql, bi_neq, bi_lss, bi_leq, bi_gtr, bi_geq, notB_bool, cvi_int, lenS_mk, lenT_mk, ext0, ext1, ext2, nilP_mk, nilS_mk, fldv_agg, jn0_k, jn1_k, jn2_k, jn1_and, jn1_or, ex_some, Option.isNone_some, Option.isNone_none, Bool.false_bne, Bool.bne_true, Bool.bne_false, Bool.true_bne, Bool.not_true, Bool.not_false, Bool.and_true, Bool.true_and, Bool.and_false, Bool.false_and, Bool.or_true, Bool.true_or, Bool.or_false, Bool.false_or, cond_true, cond_false, List.getElem?_toArray, List.getElem?_cons_zero, List.getElem?_cons_succ, Nat.zero_add, Nat.add_zero, Nat.reduceAdd, forall_const, L_chain_Chain hc, L_chain_Chain__in hc, L_chain_Chain__l hc, L_chain_Chain__ids hc, L_chain_Chain__at hc, L_chain_Chain__over hc, hl]
  exact hR _ _ ⟨rfl, rfl⟩
theorem cBlock_spec {y : BV} (hr : ChR w.heap g gi lv iv m pt over B) (hy : B[B.length - 1]? = some y) (hn : B.length ≤ 1000000) (hdl : ∀ x ∈ B, x.1.d.length ≤ 100000) :
    cal P f_chain_Chain_Block [.pointer (some ⟨g, 0, none⟩)] w fun r w' => ∃ vd, r = bq y.1 vd ∧ Sep w w' [ownB vd y.1.d] := by
  refine s_chain_Chain_Block fun R hR => ?_
  unfold c_chain_Chain_Block
  refine alloc_s (Sep.start w) (A_api_Block w) fun g2 w1 hs1 => ?_
  refine cal_i (cNone_spec (hs1.ch hr)) ?_
  rintro _ _ ⟨rfl, rfl⟩
  simp only [nilc_some, fad_mk, pik_true, pik_false, cnd_true, cnd_false, gif_same, gif_tf, gif_ft, gif_undef, bi_add, bi_sub, bi_mul, bi_eql, bi_neq, bi_lss, bi_leq, bi_gtr, bi_geq, notB_bool, cvi_int, lenS_mk, lenT_mk, ext0, ext1, ext2, nilP_mk, nilS_mk, fldv_agg, jn0_k, jn1_k, jn2_k, jn1_and, jn1_or, ex_some, Option.isNone_some, Option.isNone_none, Bool.false_bne, Bool.bne_true, Bool.bne_false, Bool.true_bne, Bool.not_true, Bool.not_false, Bool.and_true, Bool.true_and, Bool.and_false, Bool.false_and, Bool.or_true, Bool.true_or, Bool.or_false, Bool.false_or, cond_true, cond_false, List.getElem?_toArray, List.getElem?_cons_zero, List.getElem?_cons_succ, Nat.zero_add, Nat.add_zero, Nat.reduceAdd, forall_const]
  refine cal_i (cLast_spec (hs1.ch hr) hy hn) ?_
  rintro _ w2 ⟨rfl, hf2⟩
  have hs2 := hs1.old hf2
  refine cal_i (bkClone_spec (b := y.1) (v := y.2) ((hs2.ch hr).bw.2 y (List.mem_of_getElem? hy)) (by have := hdl y (List.mem_of_getElem? hy); omega)) ?_
  rintro _ w3 ⟨vd, rfl, hs3⟩
  replace hs3 := hs2.join hs3
  refine St_api_Block (b := (y.1.p, y.1.h, vd)) hs3.p1 (one_api_Block (Sep.one hs3)) fun w4 hs4 => ?_
  simp only [L_api_Block hs4.blk, L_api_Block__Parent hs4.blk, L_api_Block__Height hs4.blk, L_api_Block__Data hs4.blk]
  exact hR _ _ ⟨vd, rfl, Sep.pick hs4 [1] 2⟩
end
end Go.Fx
set_option linter.unusedVariables false
set_option linter.unusedSimpArgs false
namespace Go.Fx
def rt (p : Value) (x : Tp) : Asn :=
  .ex fun g => .ex fun s => .star (.pr (p = .pointer (some ⟨g, 0, none⟩) ∧ x.made = true)) (.star (blk g #[s, .bool x.off, .int .i64 x.armed] T_flurryref08_Tape) (ownB s x.b))
section
variable {w0 w : World} {As : List Asn} {p : Value} {x : Tp}
theorem rt_open : Sep w0 w (rt p x :: As) = ∃ g s, (p = .pointer (some ⟨g, 0, none⟩) ∧ x.made = true) ∧ Sep w0 w (blk g #[s, .bool x.off, .int .i64 x.armed] T_flurryref08_Tape :: ownB s x.b :: As) := by
  simp only [rt, Sep_ex, Sep_star, Sep_pr]
theorem rt_i {g : Nat} {s : Value} (hm : x.made = true) (hs : Sep w0 w (blk g #[s, .bool x.off, .int .i64 x.armed] T_flurryref08_Tape :: ownB s x.b :: As)) : Sep w0 w (rt (.pointer (some ⟨g, 0, none⟩)) x :: As) := by
  rw [rt_open]; exact ⟨g, s, ⟨rfl, hm⟩, hs⟩
theorem rOf_spec {v : Value} {l : List UInt8} (hb : RdB w.heap v l) : cal P f_ref08_Of [v] w fun r w' =>
    (262144 < l.length ∧ r = .tuple #[.pointer none, .int .i64 3] ∧ w = w') ∨ (l.length ≤ 262144 ∧ ∃ p, r = .tuple #[p, .int .i64 0] ∧ Sep w w' [rt p ⟨l, -1, false, true⟩]) := by
  refine s_ref08_Of fun R hR => ?_
  unfold c_ref08_Of
  simp only [nilc_some, fad_mk, pik_true, pik_false, cnd_true, cnd_false, gif_same, gif_tf, gif_ft, gif_undef, bi_add, bi_sub, bi_mul, bi_eql, bi_neq, bi_lss, bi_leq, bi_gtr, bi_geq, notB_bool, cvi_int, lenS_mk, lenT_mk, ext0, ext1, ext2, nilP_mk, nilS_mk, fldv_agg, jn0_k, jn1_k, jn2_k, jn1_and, jn1_or, ex_some, Option.isNone_some, Option.isNone_none, Bool.false_bne, Bool.bne_true, Bool.bne_false, Bool.true_bne, Bool.not_true, Bool.not_false, Bool.and_true, Bool.true_and, Bool.and_false, Bool.false_and, Bool.or_true, Bool.true_or, Bool.or_false, Bool.false_or, cond_true, cond_false, List.getElem?_toArray, List.getElem?_cons_zero, List.getElem?_cons_succ, Nat.zero_add, Nat.add_zero, Nat.reduceAdd, forall_const, hb.len]
  rw [cnd_bool]
  refine ⟨fun h => ?_, fun h => ?_⟩
  · exact hR _ _ (.inl ⟨by simp at h; omega, rfl, rfl⟩)
  · have h : l.length ≤ 262144 := by simp at h; omega
    refine appB_s ST_bytes UT_bytes (by simp) (Sep.start w).nil hb (by simp; omega) fun v' w1 hs => ?_
    have hb2 : (Instr.build T_flurryref08_Tape #[(0, v'), (2, .int .i64 (-1))]).run P w1 = .ok (.agg #[v', .bool false, .int .i64 (-1)]) w1 := by
      obtain ⟨a, c, rfl⟩ := hs.sl
      kernel_rfl
    rw [rdP_eq hb2]
    refine bx_s hs fun g w2 hs => ?_
    exact hR _ _ (.inr ⟨h, _, rfl, rt_i (x := ⟨l, -1, false, true⟩) rfl hs⟩)
theorem rTruncate_spec {n : Int} (hs : Sep w0 w (rt p x :: As)) (hx : x.Ok) : cal P f_ref08_Tape_Truncate [p, .int .i64 n] w fun v w' => v = .int .i64 (x.truncate n).2 ∧ Sep w0 w' (rt p (x.truncate n).1 :: As) := by
  refine s_ref08_Tape_Truncate fun R hR => ?_
  unfold c_ref08_Tape_Truncate
  have hs' := hs
  rw [rt_open] at hs
  obtain ⟨g, sv, ⟨rfl, hm⟩, hs⟩ := hs
  simp only [nilc_some, fad_mk, pik_true, pik_false, cnd_true, cnd_false, gif_same, gif_tf, gif_ft, gif_undef, bi_add, bi_sub, bi_mul, bi_eql, bi_neq, bi_lss, bi_leq, bi_gtr, bi_geq, notB_bool, cvi_int, lenS_mk, lenT_mk, ext0, ext1, ext2, nilP_mk, nilS_mk, fldv_agg, jn0_k, jn1_k, jn2_k, jn1_and, jn1_or, ex_some, Option.isNone_some, Option.isNone_none, Bool.false_bne, Bool.bne_true, Bool.bne_false, Bool.true_bne, Bool.not_true, Bool.not_false, Bool.and_true, Bool.true_and, Bool.and_false, Bool.false_and, Bool.or_true, Bool.true_or, Bool.or_false, Bool.false_or, cond_true, cond_false, List.getElem?_toArray, List.getElem?_cons_zero, List.getElem?_cons_succ, Nat.zero_add, Nat.add_zero, Nat.reduceAdd, forall_const, ld1_eq hs.blk, hs.p1.rd.len]
  rw [cnd_bool]
  refine ⟨fun h => ?_, fun h => ?_⟩
  · have h5 : x.may = 5 := Tp.may_five.2 ⟨hm, h⟩
    exact hR _ _ ⟨by simp [Tp.truncate, h5], by simpa [Tp.truncate, h5] using hs'⟩
  have hmay : x.may = 0 := Tp.may_zero.2 ⟨hm, h⟩
  obtain ⟨hx1, hx2, hx3⟩ := hx
  rw [cnd_bool]
  refine ⟨fun h => ?_, fun h => ?_⟩
  · have h : n < 0 ∨ (x.b.length : Int) < n := by simpa using h
    exact hR _ _ ⟨by simp [Tp.truncate, hmay, h], by simpa [Tp.truncate, hmay, h] using hs'⟩
  · have h : ¬ (n < 0 ∨ (x.b.length : Int) < n) := by simpa using h
    obtain ⟨m, rfl⟩ := Int.eq_ofNat_of_zero_le (show 0 ≤ n by omega)
    obtain ⟨a, c, rfl, hc⟩ := hs.p1.form
    have hm' : m ≤ x.b.length := by omega
    rw [slc_to (by omega)]
    refine appB_s ST_bytes UT_bytes (by simp) hs.nil (hs.p1.rd.take hm' c) (by simp; omega) fun v' w1 hs1 => ?_
    have ht : x.truncate m = ({ x with b := x.b.take m }, 0) := by rw [Tp.truncate, if_neg (by simp [hmay]), if_neg (by omega)]; simp
    refine st1_s hs1.p1 (by simp) hs1.one fun w2 hs2 => ?_
    exact hR _ _ ⟨by rw [ht], by rw [ht]; exact rt_i (x := { x with b := x.b.take m }) hm hs2.d2⟩
theorem rCrash_spec (hs : Sep w0 w (rt p x :: As)) : cal P f_ref08_Tape_Crash [p] w fun v w' => v = .int .i64 x.crash.2 ∧ Sep w0 w' (rt p x.crash.1 :: As) := by
  refine s_ref08_Tape_Crash fun R hR => ?_
  unfold c_ref08_Tape_Crash
  have hs' := hs
  rw [rt_open] at hs
  obtain ⟨g, sv, ⟨rfl, hm⟩, hs⟩ := hs
  simp only [nilc_some, fad_mk, pik_true, pik_false, cnd_true, cnd_false, gif_same, gif_tf, gif_ft, gif_undef, bi_add, bi_sub, bi_mul, bi_eql, bi_neq, bi_lss, bi_leq, bi_gtr, bi_geq, notB_bool, cvi_int, lenS_mk, lenT_mk, ext0, ext1, ext2, nilP_mk, nilS_mk, fldv_agg, jn0_k, jn1_k, jn2_k, jn1_and, jn1_or, ex_some, Option.isNone_some, Option.isNone_none, Bool.false_bne, Bool.bne_true, Bool.bne_false, Bool.true_bne, Bool.not_true, Bool.not_false, Bool.and_true, Bool.true_and, Bool.and_false, Bool.false_and, Bool.or_true, Bool.true_or, Bool.or_false, Bool.false_or, cond_true, cond_false, List.getElem?_toArray, List.getElem?_cons_zero, List.getElem?_cons_succ, Nat.zero_add, Nat.add_zero, Nat.reduceAdd, forall_const, ld1_eq hs.blk]
  rw [cnd_bool]
  refine ⟨fun h => ?_, fun h => ?_⟩
  · have h5 : x.may = 5 := Tp.may_five.2 ⟨hm, h⟩
    exact hR _ _ ⟨by simp [Tp.crash, h5], by simpa [Tp.crash, h5] using hs'⟩
  have hmay : x.may = 0 := Tp.may_zero.2 ⟨hm, h⟩
  refine st1_s hs (by simp) rfl fun w2 hs2 => ?_
  refine st1_s hs2 (by simp) rfl fun w3 hs3 => ?_
  exact hR _ _ ⟨by simp [Tp.crash, hmay], by simpa [Tp.crash, hmay] using rt_i (x := x.goes) hm hs3⟩
end
end Go.Fx
set_option linter.unusedVariables false
set_option linter.unusedSimpArgs false
namespace Go.Fx
/-- A value that reads as these bytes, as long as the blocks stand. -/
def Kp (B : List BV) (vd : Value) (d : List UInt8) : Prop := ∀ h : Heap, (∀ y ∈ B, RdB h y.2 y.1.d) → RdB h vd d
theorem Kp.none (B : List BV) : Kp B (.slice none 0 0) [] := fun h _ => RdB.nil h 0
section
variable {w0 w w' : World} {As : List Asn} {g gi gm : Nat} {lv iv m pt ut : Value} {over off : Bool} {B : List BV} {x : Tp}
/-- The document's chain in memory. -/
abbrev rcA (g : Nat) (lv ut : Value) (off : Bool) : Asn := blk g (Rdr.cells Q_flurryref10_Chain (ut, lv, off)).toArray T_flurryref10_Chain
structure RcR (h : Heap) (g : Nat) (lv ut : Value) (off : Bool) (B : List BV) : Prop where
  cell : ∃ T fr, h[g]? = some (.cells (Rdr.cells Q_flurryref10_Chain (ut, lv, off)).toArray T fr)
  bw : BRows h lv B
theorem RcR.fr (h : RcR w.heap g lv ut off B) (hf : Fr [] w w') : RcR w'.heap g lv ut off B := by
  obtain ⟨⟨T, fr, hc⟩, h3⟩ := h
  exact ⟨⟨T, fr, hf.blk hc (by simp)⟩, h3.fr hf⟩
theorem Sep.rc (h : Sep w0 w As) (hr : RcR w0.heap g lv ut off B) : RcR w.heap g lv ut off B := hr.fr h.1
theorem rcA_rd (h : Sep w0 w (rcA g lv ut off :: rows Q_api_Block lv (B.map BV.t) :: As)) (hd : DatB B As) : RcR w.heap g lv ut off B :=
  ⟨⟨_, _, Sep.blk h⟩, ⟨Sep.rows h.tail, fun x hx => by
    obtain ⟨F, hF⟩ := h.onL (A := ownB x.2 x.1.d) (List.mem_cons_of_mem _ (List.mem_cons_of_mem _ (hd x hx)))
    exact OwnB.rd hF⟩⟩
theorem rcLast_spec {y : BV} (hr : RcR w.heap g lv ut off B) (hy : B[B.length - 1]? = some y) (hn : B.length ≤ 1000000) (hck : y.1.chk = 0) (hh : y.1.h ≤ maxI) :
    cal P f_ref10_Chain_Last [.pointer (some ⟨g, 0, none⟩)] w fun r w' => r = .tuple #[kv y.1.id, .int .i64 y.1.h] ∧ Fr [] w w' := by
  refine s_ref10_Chain_Last fun R hR => ?_
  unfold c_ref10_Chain_Last
  have hpos : 0 < B.length := by
    have := (List.getElem?_eq_some_iff.1 hy).1
    omega
  have hy' : (B.map BV.t)[B.length - 1]? = some y.t := by rw [List.getElem?_map, hy]; rfl
  refine alloc_s (Sep.start w) (A_api_ID w) fun g2 w1 hs1 => ?_
  refine drH_S hs1 fun w2 hs2 _ => ?_
  simp only [nilc_some, fad_mk, pik_true, pik_false, cnd_true, cnd_false, gif_same, gif_tf, gif_ft, gif_undef, bi_add, bi_sub, bi_mul, bi_eql, bi_neq, bi_lss, bi_leq, bi_gtr, bi_geq, notB_bool, cvi_int, lenS_mk, lenT_mk, ext0, ext1, ext2, nilP_mk, nilS_mk, fldv_agg, jn0_k, jn1_k, jn2_k, jn1_and, jn1_or, ex_some, Option.isNone_some, Option.isNone_none, Bool.false_bne, Bool.bne_true, Bool.bne_false, Bool.true_bne, Bool.not_true, Bool.not_false, Bool.and_true, Bool.true_and, Bool.and_false, Bool.false_and, Bool.or_true, Bool.true_or, Bool.or_false, Bool.false_or, cond_true, cond_false, List.getElem?_toArray, List.getElem?_cons_zero, List.getElem?_cons_succ, Nat.zero_add, Nat.add_zero, Nat.reduceAdd, forall_const]
  refine rdS_ld (v := lv) (fun u hu K hk => by obtain ⟨T, fr, hc⟩ := (hu.rc hr).cell; exact (L_flurryref10_Chain__L hc K).mpr hk) ?_
  refine rdS_ld (v := lv) (fun u hu K hk => by obtain ⟨T, fr, hc⟩ := (hu.rc hr).cell; exact (L_flurryref10_Chain__L hc K).mpr hk) ?_
  rw [hr.bw.len]
  simp only [nilc_some, fad_mk, pik_true, pik_false, cnd_true, cnd_false, gif_same, gif_tf, gif_ft, gif_undef, bi_add, bi_sub, bi_mul, bi_eql, bi_neq, bi_lss, bi_leq, bi_gtr, bi_geq, notB_bool, cvi_int, lenS_mk, lenT_mk, ext0, ext1, ext2, nilP_mk, nilS_mk, fldv_agg, jn0_k, jn1_k, jn2_k, jn1_and, jn1_or, ex_some, Option.isNone_some, Option.isNone_none, Bool.false_bne, Bool.bne_true, Bool.bne_false, Bool.true_bne, Bool.not_true, Bool.not_false, Bool.and_true, Bool.true_and, Bool.and_false, Bool.false_and, Bool.or_true, Bool.true_or, Bool.or_false, Bool.false_or, cond_true, cond_false, List.getElem?_toArray, List.getElem?_cons_zero, List.getElem?_cons_succ, Nat.zero_add, Nat.add_zero, Nat.reduceAdd, forall_const]
  rw [wi64 (by omega) (by omega)]
  have e1 : (B.length : Int) - 1 = ((B.length - 1 : Nat) : Int) := by omega
  rw [e1]
  change ixs 34 _ _ _
  refine rdS_rowC (q := Q_api_Block) (by decide) hs2 (fun u hu => (hu.rc hr).bw.1) hy' .i64 ?_
  refine efS_i (alloc_s hs2 (A_api_Block w2) fun g4 w3 hs3 => ⟨hs3.tail, ?_⟩)
  have hyr : ∀ {z : World} {Cs : List Asn}, Sep w z Cs → RdB z.heap y.2 y.1.d := fun hz => (hz.rc hr).bw.2 y (List.mem_of_getElem? hy)
  refine efC_stN (St_api_Block (b := y.t) hs3 (one_api_Block (hyr hs3).one) fun w4 hs4 => ?_)
  simp only [L_api_Block hs4.blk, L_api_Block__Parent hs4.blk, L_api_Block__Height hs4.blk, L_api_Block__Data hs4.blk]
  refine cal_i (rbID_spec (b := y.1) (v := y.2) (hyr hs4) hh) ?_
  rintro _ w5 ⟨rfl, hf5⟩
  have hs5 := hs4.old hf5
  have hnm : y.1.name = y.1.id := if_pos hck
  rw [hnm]
  simp only [nilc_some, fad_mk, pik_true, pik_false, cnd_true, cnd_false, gif_same, gif_tf, gif_ft, gif_undef, bi_add, bi_sub, bi_mul, bi_eql, bi_neq, bi_lss, bi_leq, bi_gtr, bi_geq, notB_bool, cvi_int, lenS_mk, lenT_mk, ext0, ext1, ext2, nilP_mk, nilS_mk, fldv_agg, jn0_k, jn1_k, jn2_k, jn1_and, jn1_or, ex_some, Option.isNone_some, Option.isNone_none, Bool.false_bne, Bool.bne_true, Bool.bne_false, Bool.true_bne, Bool.not_true, Bool.not_false, Bool.and_true, Bool.true_and, Bool.and_false, Bool.false_and, Bool.or_true, Bool.true_or, Bool.or_false, Bool.false_or, cond_true, cond_false, List.getElem?_toArray, List.getElem?_cons_zero, List.getElem?_cons_succ, Nat.zero_add, Nat.add_zero, Nat.reduceAdd, forall_const]
  refine alloc_s hs5 (A_api_ID w5) fun g5 w6 hs6 => ?_
  refine St_api_ID (b := y.1.id) hs6 fun w7 hs7 => ?_
  -- g5 0 · g4 1 · g2 2
  refine drH_PH' (S := fun u => Sep w u [blk g5 (Rdr.cells (rVec 32) y.1.id).toArray T_api_ID, blk g4 (Rdr.cells Q_api_Block y.t).toArray T_api_Block]) hs7 (fun u hu => Sep.pick hu [0, 1] 3) fun w8 hs8 _ => ?_
  refine ⟨kv y.1.id, fun u hu => (L_api_ID (Sep.blk hu) _).mpr rfl, ?_⟩
  refine ⟨.int .i64 y.1.h, fun u hu => (L_api_Block__Height (Sep.blk hu.tail) _).mpr rfl, ?_⟩
  refine efS_i (St_api_ID (b := y.1.id) (Sep.pick hs8 [2, 0, 1] 3) fun w9 hs9 => ⟨hs9.tail, ?_⟩)
  simp only [L_api_ID hs9.blk]
  exact hR _ _ ⟨rfl, hs9.fr0⟩
theorem fnd_step {L : List Blk} {k : Vec 32} {i : Nat} {b : Blk} (h : L[i]? = some b) : fnd (L.take (i + 1)) k = if k = b.id then some i else fnd (L.take i) k := by
  have hl : (L.take i).length = i := by
    have := (List.getElem?_eq_some_iff.1 h).1
    rw [List.length_take]; omega
  rw [List.take_add_one, h, show (some b).toList = [b] from rfl, fnd_snoc, hl]
end
end Go.Fx
set_option linter.unusedVariables false
set_option linter.unusedSimpArgs false
namespace Go.Fx
section
variable {w0 w w' : World} {As : List Asn} {g gi gm : Nat} {lv iv m pt ut : Value} {over off : Bool} {B : List BV} {x : Tp}
theorem rt_one (hs : Sep w0 w (rt ut x :: As)) : ut.oneCell' = true := by
  rw [rt_open] at hs
  obtain ⟨g, s, ⟨rfl, _⟩, _⟩ := hs
  rfl
/-- What is in the document's tape: its bytes, and whether its power is off. -/
theorem rt_ld (hs : Sep w0 w (rt ut x :: As)) : ∃ (gt : Nat) (s : Value), ut = .pointer (some ⟨gt, 0, none⟩) ∧ (∀ K : Value → Prop, Go.Fx.ld1 (.pointer (some ⟨gt, 1, none⟩)) w.heap K = K (.bool x.off)) ∧
    (∀ K : Value → Prop, Go.Fx.ld1 (.pointer (some ⟨gt, 0, none⟩)) w.heap K = K s) ∧ RdB w.heap s x.b ∧ capOk s := by
  rw [rt_open] at hs
  obtain ⟨gt, s, ⟨rfl, hm⟩, hs⟩ := hs
  obtain ⟨a, c, rfl, hc⟩ := hs.p1.form
  refine ⟨gt, _, rfl, fun K => ?_, fun K => ?_, hs.p1.rd, fun a' n' c' he => ?_⟩
  · rw [ld1_eq hs.blk]; simp
  · rw [ld1_eq hs.blk]; simp
  · simp only [Value.slice.injEq] at he
    obtain ⟨_, rfl, rfl⟩ := he
    exact hc
theorem rt_made (hs : Sep w0 w (rt ut x :: As)) : x.made = true := by
  rw [rt_open] at hs
  obtain ⟨g, s, ⟨rfl, h⟩, _⟩ := hs
  exact h
theorem rcOpen_spec {b : Blk} {v : Value} (hs : Sep w0 w (rt ut x :: As)) (hx : x.Ok) (hb : ∀ z, Sep w0 z As → RdB z.heap v b.d) (hh : b.h ≤ maxI) :
    cal P f_ref10_Open [ut, bq b v] w fun r w' =>
      (x.off = true ∧ r = .tuple #[.pointer none, .int .i64 5] ∧ Sep w0 w' (rt ut x :: As)) ∨
      (x.off = false ∧ (b.chk ≠ 0 ∨ b.h ≠ 0) ∧ r = .tuple #[.pointer none, .int .i64 30] ∧ Sep w0 w' (rt ut x :: As)) ∨
      (x.off = false ∧ b.chk = 0 ∧ b.h = 0 ∧ ∃ g lv B E S, r = .tuple #[.pointer (some ⟨g, 0, none⟩), .int .i64 0] ∧ IsScan x.b S ∧ blks B = b :: linkT b S ∧ DatB B E ∧
        Sep w0 w' (rcA g lv ut false :: rows Q_api_Block lv (B.map BV.t) :: rt ut { x with b := layL (linkT b S) } :: (E ++ As))) := by
  refine s_ref10_Open fun R hR => ?_
  unfold c_ref10_Open
  have hp1 := rt_one hs
  have hm := rt_made hs
  obtain ⟨gt, sv, rfl, ld_off, ld_b, hsb, hcap⟩ := rt_ld hs
  refine bxQ hs fun g3 w1 hs1 => ?_
  obtain ⟨gt1, sv1, he1, ld_off1, _⟩ := rt_ld hs1.p1
  cases he1
  simp only [nilc_some, fad_mk, pik_true, pik_false, cnd_true, cnd_false, gif_same, gif_tf, gif_ft, gif_undef, bi_add, bi_sub, bi_mul, bi_eql, bi_neq, bi_lss, bi_leq, bi_gtr, bi_geq, notB_bool, cvi_int, lenS_mk, lenT_mk, ext0, ext1, ext2, nilP_mk, nilS_mk, fldv_agg, jn0_k, jn1_k, jn2_k, jn1_and, jn1_or, ex_some, Option.isNone_some, Option.isNone_none, Bool.false_bne, Bool.bne_true, Bool.bne_false, Bool.true_bne, Bool.not_true, Bool.not_false, Bool.and_true, Bool.true_and, Bool.and_false, Bool.false_and, Bool.or_true, Bool.true_or, Bool.or_false, Bool.false_or, cond_true, cond_false, List.getElem?_toArray, List.getElem?_cons_zero, List.getElem?_cons_succ, Nat.zero_add, Nat.add_zero, Nat.reduceAdd, forall_const, ld_off1]
  cases hoff : x.off with
  | true =>
    simp only [nilc_some, fad_mk, pik_true, pik_false, cnd_true, cnd_false, gif_same, gif_tf, gif_ft, gif_undef, bi_add, bi_sub, bi_mul, bi_eql, bi_neq, bi_lss, bi_leq, bi_gtr, bi_geq, notB_bool, cvi_int, lenS_mk, lenT_mk, ext0, ext1, ext2, nilP_mk, nilS_mk, fldv_agg, jn0_k, jn1_k, jn2_k, jn1_and, jn1_or, ex_some, Option.isNone_some, Option.isNone_none, Bool.false_bne, Bool.bne_true, Bool.bne_false, Bool.true_bne, Bool.not_true, Bool.not_false, Bool.and_true, Bool.true_and, Bool.and_false, Bool.false_and, Bool.or_true, Bool.true_or, Bool.or_false, Bool.false_or, cond_true, cond_false, List.getElem?_toArray, List.getElem?_cons_zero, List.getElem?_cons_succ, Nat.zero_add, Nat.add_zero, Nat.reduceAdd, forall_const]
    exact hR _ _ (.inl ⟨hoff, rfl, hs1.tail⟩)
  | false =>
  simp only [nilc_some, fad_mk, pik_true, pik_false, cnd_true, cnd_false, gif_same, gif_tf, gif_ft, gif_undef, bi_add, bi_sub, bi_mul, bi_eql, bi_neq, bi_lss, bi_leq, bi_gtr, bi_geq, notB_bool, cvi_int, lenS_mk, lenT_mk, ext0, ext1, ext2, nilP_mk, nilS_mk, fldv_agg, jn0_k, jn1_k, jn2_k, jn1_and, jn1_or, ex_some, Option.isNone_some, Option.isNone_none, Bool.false_bne, Bool.bne_true, Bool.bne_false, Bool.true_bne, Bool.not_true, Bool.not_false, Bool.and_true, Bool.true_and, Bool.and_false, Bool.false_and, Bool.or_true, Bool.true_or, Bool.or_false, Bool.false_or, cond_true, cond_false, List.getElem?_toArray, List.getElem?_cons_zero, List.getElem?_cons_succ, Nat.zero_add, Nat.add_zero, Nat.reduceAdd, forall_const, L_api_Block hs1.blk, L_api_Block__Parent hs1.blk, L_api_Block__Height hs1.blk, L_api_Block__Data hs1.blk]
  refine cal_i (rCheck_spec (b := b) (v := v) (hb _ hs1.tail.tail)) ?_
  rintro _ w3 ⟨rfl, hf3⟩
  have hs3 := hs1.old hf3
  simp only [nilc_some, fad_mk, pik_true, pik_false, cnd_true, cnd_false, gif_same, gif_tf, gif_ft, gif_undef, bi_add, bi_sub, bi_mul, bi_eql, bi_neq, bi_lss, bi_leq, bi_gtr, bi_geq, notB_bool, cvi_int, lenS_mk, lenT_mk, ext0, ext1, ext2, nilP_mk, nilS_mk, fldv_agg, jn0_k, jn1_k, jn2_k, jn1_and, jn1_or, ex_some, Option.isNone_some, Option.isNone_none, Bool.false_bne, Bool.bne_true, Bool.bne_false, Bool.true_bne, Bool.not_true, Bool.not_false, Bool.and_true, Bool.true_and, Bool.and_false, Bool.false_and, Bool.or_true, Bool.true_or, Bool.or_false, Bool.false_or, cond_true, cond_false, List.getElem?_toArray, List.getElem?_cons_zero, List.getElem?_cons_succ, Nat.zero_add, Nat.add_zero, Nat.reduceAdd, forall_const, L_api_Block hs3.blk, L_api_Block__Parent hs3.blk, L_api_Block__Height hs3.blk, L_api_Block__Data hs3.blk]
  rw [cnd_bool]
  refine ⟨fun h => ?_, fun h => ?_⟩
  · have h : b.chk ≠ 0 ∨ b.h ≠ 0 := by simpa using h
    exact hR _ _ (.inr (.inl ⟨hoff, h, rfl, hs3.tail⟩))
  have h : b.chk = 0 ∧ b.h = 0 := by simpa using h
  obtain ⟨hck, hh0⟩ := h
  have hdl := chk0_lenC hck
  refine cal_i (rbClone_spec (b := b) (v := v) (hb _ hs3.tail.tail) (by omega)) ?_
  rintro _ w4 ⟨vd, rfl, hs4⟩
  replace hs4 := hs3.join hs4
  refine cBldB (x := (b, vd)) hs4 fun lv0 w5 hs5 => ?_
  rw [B_flurryref10_Chain_0_1 hp1 (Sep.oneR hs5)]
  refine bxQ hs5 fun g w6 hs6 => ?_
  -- g 0 · lv0 1 · own 2 · b 3 · tape 4
  obtain ⟨gt6, sv6, he6, _, ld_b6, hsb6, hcap6⟩ := rt_ld (Sep.pick hs6 [4] 5)
  cases he6
  simp only [nilc_some, fad_mk, pik_true, pik_false, cnd_true, cnd_false, gif_same, gif_tf, gif_ft, gif_undef, bi_add, bi_sub, bi_mul, bi_eql, bi_neq, bi_lss, bi_leq, bi_gtr, bi_geq, notB_bool, cvi_int, lenS_mk, lenT_mk, ext0, ext1, ext2, nilP_mk, nilS_mk, fldv_agg, jn0_k, jn1_k, jn2_k, jn1_and, jn1_or, ex_some, Option.isNone_some, Option.isNone_none, Bool.false_bne, Bool.bne_true, Bool.bne_false, Bool.true_bne, Bool.not_true, Bool.not_false, Bool.and_true, Bool.true_and, Bool.and_false, Bool.false_and, Bool.or_true, Bool.true_or, Bool.or_false, Bool.false_or, cond_true, cond_false, List.getElem?_toArray, List.getElem?_cons_zero, List.getElem?_cons_succ, Nat.zero_add, Nat.add_zero, Nat.reduceAdd, forall_const, ld_b6]
  have hxl := hx.1
  refine cal_i (rScan_spec hsb6 hcap6 (by omega)) ?_
  rintro _ w9 ⟨sx, SB, rfl, hsc, hs10⟩
  have hs11 : Sep w0 w9 (brow sx SB ++ (rcA g lv0 (.pointer (some ⟨gt, 0, none⟩)) false :: rows Q_api_Block lv0 [BV.t (b, vd)] :: ownB vd b.d :: blk g3 (Rdr.cells Q_api_Block (b.p, b.h, v)).toArray T_api_Block :: rt (.pointer (some ⟨gt, 0, none⟩)) x :: As)) := hs6.join hs10
  obtain ⟨S, hS⟩ : ∃ S, S = blks SB := ⟨_, rfl⟩
  replace hsc : IsScan x.b S := by rw [hS]; exact hsc
  obtain ⟨E0, hE0⟩ : ∃ E0, E0 = ownB vd b.d :: brow sx SB := ⟨_, rfl⟩
  obtain ⟨Z, hZ⟩ : ∃ Z, Z = rt (.pointer (some ⟨gt, 0, none⟩)) x :: (E0 ++ As) := ⟨_, rfl⟩
  have hs12 : Sep w0 w9 (rcA g lv0 (.pointer (some ⟨gt, 0, none⟩)) false :: rows Q_api_Block lv0 ([(b, vd)].map BV.t) :: Z) := by
    rw [hZ, hE0]
    have h1 : Sep w0 w9 ([rcA g lv0 (.pointer (some ⟨gt, 0, none⟩)) false, rows Q_api_Block lv0 [BV.t (b, vd)], ownB vd b.d, blk g3 (Rdr.cells Q_api_Block (b.p, b.h, v)).toArray T_api_Block, rt (.pointer (some ⟨gt, 0, none⟩)) x] ++ (brow sx SB ++ As)) := hs11.perm (List.perm_append_comm_assoc (brow sx SB) [rcA g lv0 (.pointer (some ⟨gt, 0, none⟩)) false, rows Q_api_Block lv0 [BV.t (b, vd)], ownB vd b.d, blk g3 (Rdr.cells Q_api_Block (b.p, b.h, v)).toArray T_api_Block, rt (.pointer (some ⟨gt, 0, none⟩)) x] As)
    exact Sep.pick h1 [0, 1, 4, 2] 5
  clear hs11 hs10 hs6 hs5 hs4
  have fB : ∀ {z : World} {Bs : List Asn}, Sep w0 z (Bs ++ Z) → BRows z.heap sx SB := fun {z Bs} hz => by
    have hz := hz.dropL
    rw [hZ, hE0] at hz
    exact brow_rd hz.tail.tail
  have hEm : ∀ A ∈ E0, A ∈ Z := fun A hA => by rw [hZ]; exact List.mem_cons_of_mem _ (List.mem_append_left _ hA)
  have hSBE : ∀ q ∈ SB, ownB q.2 q.1.d ∈ E0 := fun q hq => by
    rw [hE0]
    exact List.mem_cons_of_mem _ (List.mem_cons_of_mem _ (List.mem_map_of_mem (f := oV) hq))
  have hlS : S.length = SB.length := by rw [hS]; simp
  have hlay : ∀ i, (layL (S.take i)).length ≤ x.b.length := fun i => by
    obtain ⟨hg, t, ht, _⟩ := hsc
    have h1 : S = S.take i ++ S.drop i := (List.take_append_drop i S).symm
    have h2 : layL S = layL (S.take i) ++ layL (S.drop i) := by rw [← layL_append, List.take_append_drop]
    rw [ht, h2]
    simp only [List.length_append]
    omega
  have hSl : S.length ≤ 1000000 := by
    have h1 := layL_ge S
    have h2 := hsc.len
    omega
  simp only [nilc_some, fad_mk, pik_true, pik_false, cnd_true, cnd_false, gif_same, gif_tf, gif_ft, gif_undef, bi_add, bi_sub, bi_mul, bi_eql, bi_neq, bi_lss, bi_leq, bi_gtr, bi_geq, notB_bool, cvi_int, lenS_mk, lenT_mk, ext0, ext1, ext2, nilP_mk, nilS_mk, fldv_agg, jn0_k, jn1_k, jn2_k, jn1_and, jn1_or, ex_some, Option.isNone_some, Option.isNone_none, Bool.false_bne, Bool.bne_true, Bool.bne_false, Bool.true_bne, Bool.not_true, Bool.not_false, Bool.and_true, Bool.true_and, Bool.and_false, Bool.false_and, Bool.or_true, Bool.true_or, Bool.or_false, Bool.false_or, cond_true, cond_false, List.getElem?_toArray, List.getElem?_cons_zero, List.getElem?_cons_succ, Nat.zero_add, Nat.add_zero, Nat.reduceAdd, forall_const]
  refine ⟨fun y z => ∃ (i : Nat) (lv : Value) (B : List BV), y = .int .i64 ((layL (S.take i)).length : Nat) ∧ linkT b S = S.take i ∧ blks B = b :: S.take i ∧ DatB B E0 ∧ Sep w0 z (rcA g lv (.pointer (some ⟨gt, 0, none⟩)) false :: rows Q_api_Block lv (B.map BV.t) :: Z), ?_, ?_⟩
  · refine ⟨fun y z' z => ∃ (i : Nat) (lv : Value) (B : List BV), y = .int .i64 ((layL (S.take i)).length : Nat) ∧ z' = .int .i64 i ∧ i ≤ SB.length ∧ linked b (S.take i) ∧ blks B = b :: S.take i ∧ DatB B E0 ∧ Sep w0 z (rcA g lv (.pointer (some ⟨gt, 0, none⟩)) false :: rows Q_api_Block lv (B.map BV.t) :: Z), fun _ y _ => (SB.length - RowKit.intOf y).toNat, ⟨0, lv0, [(b, vd)], rfl, rfl, by omega, trivial, rfl, (fun y hy => by rw [List.mem_singleton.1 hy, hE0]; exact List.mem_cons_self ..), hs12⟩, ?_⟩
    clear hs12
    rintro _ _ w10 ⟨i, lv, B, rfl, rfl, hi, hlk, hB, hD, hs10⟩ -
    have hl10 := (fB (Bs := [_, _]) hs10).len
    simp only [nilc_some, fad_mk, pik_true, pik_false, cnd_true, cnd_false, gif_same, gif_tf, gif_ft, gif_undef, bi_add, bi_sub, bi_mul, bi_eql, bi_neq, bi_lss, bi_leq, bi_gtr, bi_geq, notB_bool, cvi_int, lenS_mk, lenT_mk, ext0, ext1, ext2, nilP_mk, nilS_mk, fldv_agg, jn0_k, jn1_k, jn2_k, jn1_and, jn1_or, ex_some, Option.isNone_some, Option.isNone_none, Bool.false_bne, Bool.bne_true, Bool.bne_false, Bool.true_bne, Bool.not_true, Bool.not_false, Bool.and_true, Bool.true_and, Bool.and_false, Bool.false_and, Bool.or_true, Bool.true_or, Bool.or_false, Bool.false_or, cond_true, cond_false, List.getElem?_toArray, List.getElem?_cons_zero, List.getElem?_cons_succ, Nat.zero_add, Nat.add_zero, Nat.reduceAdd, forall_const, hl10]
    rw [cnd_bool]
    refine ⟨fun h => ?_, fun h => ?_⟩
    case refine_2 =>
      have hge : i = S.length := by simp at h; omega
      refine ⟨i, lv, B, rfl, ?_, hB, hD, hs10⟩
      rw [hge, List.take_of_length_le (Nat.le_refl _)] at hlk ⊢
      exact linkT_self hlk
    have hlt : i < SB.length := by simp at h; omega
    obtain ⟨e, he⟩ : ∃ e, SB[i]? = some e := ⟨_, List.getElem?_eq_getElem hlt⟩
    have he' : (SB.map BV.t)[i]? = some e.t := by rw [List.getElem?_map, he]; rfl
    have heS : S[i]? = some e.1 := by rw [hS, List.getElem?_map, he]; rfl
    have hge := hsc.1 e.1 (List.mem_of_getElem? heS)
    obtain ⟨y0, hy0, hy1⟩ := lastOf hB
    have hy0' : (B.map BV.t)[B.length - 1]? = some y0.t := by rw [List.getElem?_map, hy0]; rfl
    have hBl : B.length = i + 1 := by
      have := congrArg List.length hB
      simp only [List.length_map, List.length_cons, List.length_take] at this
      omega
    have hrB : ∀ {z : World}, Sep w0 z (rcA g lv (.pointer (some ⟨gt, 0, none⟩)) false :: rows Q_api_Block lv (B.map BV.t) :: Z) → RcR z.heap g lv (.pointer (some ⟨gt, 0, none⟩)) false B := fun {z} hz => rcA_rd hz (hD.sub hEm)
    refine drH_S hs10 fun w13 hs13 _ => ?_
    change ixs 34 _ _ _
    refine rdS_rowC (q := Q_api_Block) (by decide) hs13 (fun u hu => (fB (Bs := [_, _]) hu).1) he' .i64 ?_
    refine rdS_ld (v := lv) (fun u hu K hk => (L_flurryref10_Chain__L (Sep.blk hu) K).mpr hk) ?_
    refine rdS_ld (v := lv) (fun u hu K hk => (L_flurryref10_Chain__L (Sep.blk hu) K).mpr hk) ?_
    rw [(hrB hs13).bw.len]
    simp only [nilc_some, fad_mk, pik_true, pik_false, cnd_true, cnd_false, gif_same, gif_tf, gif_ft, gif_undef, bi_add, bi_sub, bi_mul, bi_eql, bi_neq, bi_lss, bi_leq, bi_gtr, bi_geq, notB_bool, cvi_int, lenS_mk, lenT_mk, ext0, ext1, ext2, nilP_mk, nilS_mk, fldv_agg, jn0_k, jn1_k, jn2_k, jn1_and, jn1_or, ex_some, Option.isNone_some, Option.isNone_none, Bool.false_bne, Bool.bne_true, Bool.bne_false, Bool.true_bne, Bool.not_true, Bool.not_false, Bool.and_true, Bool.true_and, Bool.and_false, Bool.false_and, Bool.or_true, Bool.true_or, Bool.or_false, Bool.false_or, cond_true, cond_false, List.getElem?_toArray, List.getElem?_cons_zero, List.getElem?_cons_succ, Nat.zero_add, Nat.add_zero, Nat.reduceAdd, forall_const]
    rw [wi64 (by omega) (by omega)]
    have e1 : (B.length : Int) - 1 = ((B.length - 1 : Nat) : Int) := by omega
    rw [e1]
    change ixs 34 _ _ _
    refine rdS_rowC (q := Q_api_Block) (by decide) hs13 (fun u hu => (hrB hu).bw.1) hy0' .i64 ?_
    have hyh : y0.1.h ≤ maxI := by
      have hm : y0.1 ∈ blks B := List.mem_map_of_mem (List.mem_of_getElem? hy0)
      rw [hB] at hm
      rcases List.mem_cons.1 hm with h | h
      · rw [h]; exact hh
      · exact (hsc.1 _ (List.mem_of_mem_take h)).2
    refine efC_cal (cal_i (rbLinked_spec (a := e.1) (b := y0.1) (u := e.2) (v := y0.2) ((fB (Bs := [_, _]) hs13).2 e (List.mem_of_getElem? he)) ((hrB hs13).bw.2 y0 (List.mem_of_getElem? hy0)) hyh hge.2) ?_)
    rintro _ w15 ⟨rfl, hf15⟩
    have hs15 := hs13.old hf15
    simp only [nilc_some, fad_mk, pik_true, pik_false, cnd_true, cnd_false, gif_same, gif_tf, gif_ft, gif_undef, bi_add, bi_sub, bi_mul, bi_eql, bi_neq, bi_lss, bi_leq, bi_gtr, bi_geq, notB_bool, cvi_int, lenS_mk, lenT_mk, ext0, ext1, ext2, nilP_mk, nilS_mk, fldv_agg, jn0_k, jn1_k, jn2_k, jn1_and, jn1_or, ex_some, Option.isNone_some, Option.isNone_none, Bool.false_bne, Bool.bne_true, Bool.bne_false, Bool.true_bne, Bool.not_true, Bool.not_false, Bool.and_true, Bool.true_and, Bool.and_false, Bool.false_and, Bool.or_true, Bool.true_or, Bool.or_false, Bool.false_or, cond_true, cond_false, List.getElem?_toArray, List.getElem?_cons_zero, List.getElem?_cons_succ, Nat.zero_add, Nat.add_zero, Nat.reduceAdd, forall_const]
    rw [cnd_bool, hy1]
    refine ⟨fun h => ?_, fun h => ?_⟩
    · have h : e.1.link (lastB b (S.take i)) ≠ 0 := by simpa using h
      exact ⟨i, lv, B, rfl, linkT_take hlk heS h, hB, hD, hs15⟩
    have h : e.1.link (lastB b (S.take i)) = 0 := by simpa using h
    have hE1 : (e.2).oneCell' = true := ((fB (Bs := [_, _]) hs15).2 e (List.mem_of_getElem? he)).one
    refine drH_PH' (S := fun u => Sep w0 u (rcA g lv (.pointer (some ⟨gt, 0, none⟩)) false :: Z)) hs15 (fun u hu => Sep.pick hu [0] 2) fun w16 hs16 _ => ?_
    refine rdS_ld (v := lv) (fun u hu K hk => (L_flurryref10_Chain__L (Sep.blk hu) K).mpr hk) ?_
    change ixs 34 _ _ _
    refine rdS_rowC (q := Q_api_Block) (by decide) (S := fun u => Sep w0 u (rcA g lv (.pointer (some ⟨gt, 0, none⟩)) false :: Z)) (Sep.pick hs16 [0] 2) (fun u hu => (fB (Bs := [_]) hu).1) he' .i64 ?_
    refine efS_i (cBldB (x := e) hs16 fun a w17 hs17 => ⟨Sep.pick hs17 [1] 3, ?_⟩)
    refine efC_efP (cAppB (x := e) (B := B) (Sep.pick hs17 [2, 0, 1] 3) (Sep.rows hs17) hE1 (by omega) fun u' w18 hs18 => ?_)
    refine efC_st1 (St_flurryref10_Chain__L (Sep.pick hs18 [2, 0] 3) (Sep.oneR hs18) fun w19 hs19 => ?_)
    have hsx19 := fB (Bs := [_, _]) hs19
    change ixs 34 _ _ _
    refine BRows.ld hsx19 he .i64 ?_
    refine cal_i (rRecSize_spec (b := e.1) (v := e.2) (hsx19.2 e (List.mem_of_getElem? he)) hge.2) ?_
    rintro _ w20 ⟨rfl, hf20⟩
    have hs20 := hs19.old hf20
    have hro : e.1.recO = e.1.rcd := if_pos hge.1
    have hll := hlay (i + 1)
    rw [layL_tk heS, List.length_append] at hll
    simp only [nilc_some, fad_mk, pik_true, pik_false, cnd_true, cnd_false, gif_same, gif_tf, gif_ft, gif_undef, bi_add, bi_sub, bi_mul, bi_eql, bi_neq, bi_lss, bi_leq, bi_gtr, bi_geq, notB_bool, cvi_int, lenS_mk, lenT_mk, ext0, ext1, ext2, nilP_mk, nilS_mk, fldv_agg, jn0_k, jn1_k, jn2_k, jn1_and, jn1_or, ex_some, Option.isNone_some, Option.isNone_none, Bool.false_bne, Bool.bne_true, Bool.bne_false, Bool.true_bne, Bool.not_true, Bool.not_false, Bool.and_true, Bool.true_and, Bool.and_false, Bool.false_and, Bool.or_true, Bool.true_or, Bool.or_false, Bool.false_or, cond_true, cond_false, List.getElem?_toArray, List.getElem?_cons_zero, List.getElem?_cons_succ, Nat.zero_add, Nat.add_zero, Nat.reduceAdd, forall_const, hro]
    rw [wi64 (by omega) (by omega), wi64 (by omega) (by omega)]
    refine ⟨⟨i + 1, u', B ++ [e], ?_, by simp, by omega, ?_, ?_, ?_, hs20⟩, by simp [RowKit.intOf] <;> omega⟩
    · rw [layL_tk heS, List.length_append, Int.natCast_add]
    · rw [List.take_add_one, heS]
      exact linked_snoc hlk h
    · unfold blks at hB ⊢
      rw [List.take_add_one, heS, List.map_append, hB]
      rfl
    · intro q hq
      rcases List.mem_append.1 hq with hq | hq
      · exact hD q hq
      · rw [List.mem_singleton.1 hq]; exact hSBE e (List.mem_of_getElem? he)
  clear hs12
  rintro _ w10 ⟨i, lv, B, rfl, hlT, hB, hD, hs10⟩ _
  have hend := hlay i
  rw [hZ] at hs10
  have hfin : x.b.take (layL (S.take i)).length = layL (linkT b S) := by
    obtain ⟨hg, t, ht, _⟩ := hsc
    have h1 : S = S.take i ++ S.drop i := (List.take_append_drop i S).symm
    have h2 : layL S = layL (S.take i) ++ layL (S.drop i) := by rw [← layL_append, List.take_append_drop]
    rw [ht, h2, List.append_assoc, List.take_left, hlT]
  obtain ⟨gt7, sv7, he7, _, ld_b7, hsb7, _⟩ := rt_ld (Sep.pick hs10 [2] 3)
  cases he7
  have out : ∀ z, Sep w0 z (rt (.pointer (some ⟨gt, 0, none⟩)) { x with b := layL (linkT b S) } :: rcA g lv (.pointer (some ⟨gt, 0, none⟩)) false :: rows Q_api_Block lv (B.map BV.t) :: (E0 ++ As)) → R (.tuple #[.pointer (some ⟨g, 0, none⟩), .int .i64 0]) z := fun z hz => by
    refine hR _ _ (.inr (.inr ⟨hoff, hck, hh0, g, lv, B, E0, S, rfl, hsc, by rw [hlT]; exact hB, hD, ?_⟩))
    exact Sep.pick hz [1, 2, 0] 3
  simp only [nilc_some, fad_mk, pik_true, pik_false, cnd_true, cnd_false, gif_same, gif_tf, gif_ft, gif_undef, bi_add, bi_sub, bi_mul, bi_eql, bi_neq, bi_lss, bi_leq, bi_gtr, bi_geq, notB_bool, cvi_int, lenS_mk, lenT_mk, ext0, ext1, ext2, nilP_mk, nilS_mk, fldv_agg, jn0_k, jn1_k, jn2_k, jn1_and, jn1_or, ex_some, Option.isNone_some, Option.isNone_none, Bool.false_bne, Bool.bne_true, Bool.bne_false, Bool.true_bne, Bool.not_true, Bool.not_false, Bool.and_true, Bool.true_and, Bool.and_false, Bool.false_and, Bool.or_true, Bool.true_or, Bool.or_false, Bool.false_or, cond_true, cond_false, List.getElem?_toArray, List.getElem?_cons_zero, List.getElem?_cons_succ, Nat.zero_add, Nat.add_zero, Nat.reduceAdd, forall_const, ld_b7, hsb7.len]
  rw [cnd_bool]
  refine ⟨fun h => ?_, fun h => ?_⟩
  · refine cal_i (rTruncate_spec (n := ((layL (S.take i)).length : Nat)) (Sep.pick hs10 [2, 0, 1] 3) hx) ?_
    have hmay : x.may = 0 := by unfold Tp.may; rw [hm, hoff]; rfl
    have ht : x.truncate ((layL (S.take i)).length : Nat) = ({ x with b := layL (linkT b S) }, 0) := by
      unfold Tp.truncate
      rw [if_neg (by simp [hmay]), if_neg (by omega), Int.toNat_natCast, hfin]
    rw [ht]
    rintro _ w11 ⟨rfl, hs12⟩
    exact out w11 hs12
  · refine out _ ?_
    have hge : x.b.length ≤ (layL (S.take i)).length := by simp at h; omega
    rw [List.take_of_length_le hge] at hfin
    rw [← hfin]
    exact Sep.pick hs10 [2, 0, 1] 3
end
end Go.Fx
set_option linter.unusedVariables false
set_option linter.unusedSimpArgs false
namespace Go.Fx
section
variable {w0 w w' : World} {As : List Asn}
end
end Go.Fx
set_option linter.unusedVariables false
set_option linter.unusedSimpArgs false
namespace Go.Fx
theorem fnd_has (L : List Blk) (k : Vec 32) : ∀ n, n ≤ L.length → (∃ i b, i < n ∧ L[i]? = some b ∧ b.id = k) → (fnd (L.take n) k).isSome = true
  | 0, _, ⟨i, b, h, _⟩ => by omega
  | n + 1, hn, ⟨i, b, hi, hb, hk⟩ => by
    obtain ⟨c, hc⟩ : ∃ c, L[n]? = some c := ⟨_, List.getElem?_eq_getElem (by omega)⟩
    rw [fnd_step hc]
    by_cases h : k = c.id
    · rw [if_pos h]; rfl
    · rw [if_neg h]
      refine fnd_has L k n (by omega) ⟨i, b, ?_, hb, hk⟩
      by_cases hin : i = n
      · subst hin
        rw [hb] at hc
        cases hc
        exact absurd hk.symm h
      · omega
theorem fnd_mem {L : List Blk} {i : Nat} {b : Blk} (h : L[i]? = some b) : (fnd L b.id).isSome = true := by
  have := fnd_has L b.id L.length (Nat.le_refl _) ⟨i, b, (List.getElem?_eq_some_iff.1 h).1, h, rfl⟩
  rwa [List.take_length] at this
section
variable {w0 w w' : World} {As : List Asn} {g gi gm : Nat} {lv iv m pt ut : Value} {over off : Bool} {B : List BV} {x : Tp}
theorem alike10_spec {g2 : Nat} {lv2 : Value} {B2 : List BV} (hr : ChR w.heap g gi lv iv (.map (some gm)) pt over B) (hm : MpR w.heap gm (atF (blks B))) (hq : RcR w.heap g2 lv2 ut off B2) (hBB : blks B2 = blks B) (hg : goodB (blks B)) (h0 : 0 < B.length) (hn : B.length ≤ 1000000) :
    cal P f_law10_alike [.pointer (some ⟨g, 0, none⟩), .pointer (some ⟨g2, 0, none⟩)] w fun r w' => r = .bool true ∧ Fr [] w w' := by
  refine s_law10_alike fun R hR => ?_
  unfold c_law10_alike
  have hln : B2.length = B.length := by have := congrArg List.length hBB; simpa using this
  have hdl : ∀ x ∈ B, x.1.d.length ≤ 100000 := fun x hx => by
    have := chk0_lenC (hg x.1 (List.mem_map_of_mem hx)).1
    omega
  obtain ⟨⟨yb, yv⟩, hy⟩ : ∃ y, B[B.length - 1]? = some y := ⟨_, List.getElem?_eq_getElem (by omega)⟩
  obtain ⟨⟨yb2, yv2⟩, hy2⟩ : ∃ y2, B2[B2.length - 1]? = some y2 := ⟨_, List.getElem?_eq_getElem (by omega)⟩
  obtain rfl : yb2 = yb := by
    have h1 : (blks B2)[B2.length - 1]? = some yb2 := by rw [List.getElem?_map, hy2]; rfl
    have h2 : (blks B)[B.length - 1]? = some yb := by rw [List.getElem?_map, hy]; rfl
    rw [hBB, hln, h2] at h1
    exact (Option.some.inj h1).symm
  have hgy := hg yb2 (by
    have h2 : (blks B)[B.length - 1]? = some yb2 := by rw [List.getElem?_map, hy]; rfl
    exact List.mem_of_getElem? h2)
  have hy2' : (B2.map BV.t)[B2.length - 1]? = some (BV.t (yb2, yv2)) := by rw [List.getElem?_map, hy2]; rfl
  refine cal_i (cLastId_spec hr hy hn) ?_
  rintro _ w1 ⟨rfl, hf1⟩
  have hs1 := (Sep.start w).old hf1
  simp only [nilc_some, fad_mk, pik_true, pik_false, cnd_true, cnd_false, gif_same, gif_tf, gif_ft, gif_undef, bi_add, bi_sub, bi_mul, bi_eql, bi_neq, bi_lss, bi_leq, bi_gtr, bi_geq, notB_bool, cvi_int, lenS_mk, lenT_mk, ext0, ext1, ext2, nilP_mk, nilS_mk, fldv_agg, jn0_k, jn1_k, jn2_k, jn1_and, jn1_or, ex_some, Option.isNone_some, Option.isNone_none, Bool.false_bne, Bool.bne_true, Bool.bne_false, Bool.true_bne, Bool.not_true, Bool.not_false, Bool.and_true, Bool.true_and, Bool.and_false, Bool.false_and, Bool.or_true, Bool.true_or, Bool.or_false, Bool.false_or, cond_true, cond_false, List.getElem?_toArray, List.getElem?_cons_zero, List.getElem?_cons_succ, Nat.zero_add, Nat.add_zero, Nat.reduceAdd, forall_const]
  refine alloc_s hs1 (A_api_ID w1) fun g5 w2 hs2 => ?_
  refine St_api_ID (b := yb2.id) hs2 fun w3 hs3 => ?_
  refine cal_i (rcLast_spec (hs3.rc hq) hy2 (by omega) hgy.1 hgy.2) ?_
  rintro _ w4 ⟨rfl, hf4⟩
  have hs4 := hs3.old hf4
  simp only [nilc_some, fad_mk, pik_true, pik_false, cnd_true, cnd_false, gif_same, gif_tf, gif_ft, gif_undef, bi_add, bi_sub, bi_mul, bi_eql, bi_neq, bi_lss, bi_leq, bi_gtr, bi_geq, notB_bool, cvi_int, lenS_mk, lenT_mk, ext0, ext1, ext2, nilP_mk, nilS_mk, fldv_agg, jn0_k, jn1_k, jn2_k, jn1_and, jn1_or, ex_some, Option.isNone_some, Option.isNone_none, Bool.false_bne, Bool.bne_true, Bool.bne_false, Bool.true_bne, Bool.not_true, Bool.not_false, Bool.and_true, Bool.true_and, Bool.and_false, Bool.false_and, Bool.or_true, Bool.true_or, Bool.or_false, Bool.false_or, cond_true, cond_false, List.getElem?_toArray, List.getElem?_cons_zero, List.getElem?_cons_succ, Nat.zero_add, Nat.add_zero, Nat.reduceAdd, forall_const]
  refine alloc_s hs4 (A_api_ID w4) fun g7 w5 hs5 => ?_
  refine St_api_ID (b := yb2.id) hs5 fun w6 hs6 => ?_
  refine cal_i (told10_spec (most := 1048576) (hs6.ch hr) hn hdl (by omega)) ?_
  rintro r w7 ⟨N, EN, hN, hDN, hs7⟩
  replace hs7 := hs6.join hs7
  rw [List.take_of_length_le (by simp; omega)] at hN
  have hNl : N.length = B.length := by have := congrArg List.length hN; simpa using this
  obtain ⟨L7, hL7⟩ : ∃ L7, L7 = (rows Q_flurrylaw10_named r (N.map nmd) :: EN) ++ [blk g7 (Rdr.cells (rVec 32) yb2.id).toArray T_api_ID, blk g5 (Rdr.cells (rVec 32) yb2.id).toArray T_api_ID] := ⟨_, rfl⟩
  replace hs7 : Sep w w7 L7 := by rw [hL7]; exact hs7
  have rdL : ∀ {u : World} {Bs : List Asn}, Sep w u (Bs ++ L7) → Rows' Q_flurrylaw10_named u.heap r (N.map nmd) ∧ (∀ p ∈ N, RdB u.heap p.2 p.1.d) ∧ u.heap[g7]? = some (.cells (Rdr.cells (rVec 32) yb2.id).toArray T_api_ID (0, 0)) ∧ u.heap[g5]? = some (.cells (Rdr.cells (rVec 32) yb2.id).toArray T_api_ID (0, 0)) := fun {u Bs} hu => by
    have h1 := hu.dropL
    rw [hL7] at h1
    exact ⟨Sep.rows h1, datRd (As := [_]) hDN h1, Sep.blk h1.dropL, Sep.blk h1.dropL.tail⟩
  have hl1 : ∀ K, lenS r K = K (.int .i64 N.length) := fun K => by
    have := (rdL (Bs := []) hs7).1.len K
    rwa [List.length_map] at this
  have ldL : ∀ {u : World} {Bs : List Asn}, Sep w u Bs → ∀ K : Value → Prop, K lv2 → ld1 (.pointer (some ⟨g2, 1, none⟩)) u.heap K := fun {u Bs} hu K hk => by
    obtain ⟨T, fr, hc⟩ := (hu.rc hq).cell
    exact (L_flurryref10_Chain__L hc K).mpr hk
  have hl2 : ∀ K, lenS lv2 K = K (.int .i64 B2.length) := fun K => hq.bw.len K
  refine drH_S (As := L7) hs7 fun w8 hs8 _ => ?_
  refine ⟨kv yb2.id, fun u hu => (L_api_ID (rdL (Bs := []) hu).2.2.2 _).mpr rfl, ?_⟩
  refine ⟨kv yb2.id, fun u hu => (L_api_ID (rdL (Bs := []) hu).2.2.1 _).mpr rfl, ?_⟩
  refine ⟨.bool false, fun u hu => by rw [ne_api_ID, decide_eq_true rfl]; rfl, ?_⟩
  simp only [nilc_some, fad_mk, pik_true, pik_false, cnd_true, cnd_false, gif_same, gif_tf, gif_ft, gif_undef, bi_add, bi_sub, bi_mul, bi_eql, bi_neq, bi_lss, bi_leq, bi_gtr, bi_geq, notB_bool, cvi_int, lenS_mk, lenT_mk, ext0, ext1, ext2, nilP_mk, nilS_mk, fldv_agg, jn0_k, jn1_k, jn2_k, jn1_and, jn1_or, ex_some, Option.isNone_some, Option.isNone_none, Bool.false_bne, Bool.bne_true, Bool.bne_false, Bool.true_bne, Bool.not_true, Bool.not_false, Bool.and_true, Bool.true_and, Bool.and_false, Bool.false_and, Bool.or_true, Bool.true_or, Bool.or_false, Bool.false_or, cond_true, cond_false, List.getElem?_toArray, List.getElem?_cons_zero, List.getElem?_cons_succ, Nat.zero_add, Nat.add_zero, Nat.reduceAdd, forall_const, show (yb2.h != yb2.h) = false by simp]
  refine jn1_dup ?_
  rw [hl1]
  simp only [nilc_some, fad_mk, pik_true, pik_false, cnd_true, cnd_false, gif_same, gif_tf, gif_ft, gif_undef, bi_add, bi_sub, bi_mul, bi_eql, bi_neq, bi_lss, bi_leq, bi_gtr, bi_geq, notB_bool, cvi_int, lenS_mk, lenT_mk, ext0, ext1, ext2, nilP_mk, nilS_mk, fldv_agg, jn0_k, jn1_k, jn2_k, jn1_and, jn1_or, ex_some, Option.isNone_some, Option.isNone_none, Bool.false_bne, Bool.bne_true, Bool.bne_false, Bool.true_bne, Bool.not_true, Bool.not_false, Bool.and_true, Bool.true_and, Bool.and_false, Bool.false_and, Bool.or_true, Bool.true_or, Bool.or_false, Bool.false_or, cond_true, cond_false, List.getElem?_toArray, List.getElem?_cons_zero, List.getElem?_cons_succ, Nat.zero_add, Nat.add_zero, Nat.reduceAdd, forall_const]
  refine rdS_ld (v := lv2) (fun u hu K hk => ldL hu K hk) ?_
  rw [hl2]
  simp only [nilc_some, fad_mk, pik_true, pik_false, cnd_true, cnd_false, gif_same, gif_tf, gif_ft, gif_undef, bi_add, bi_sub, bi_mul, bi_eql, bi_neq, bi_lss, bi_leq, bi_gtr, bi_geq, notB_bool, cvi_int, lenS_mk, lenT_mk, ext0, ext1, ext2, nilP_mk, nilS_mk, fldv_agg, jn0_k, jn1_k, jn2_k, jn1_and, jn1_or, ex_some, Option.isNone_some, Option.isNone_none, Bool.false_bne, Bool.bne_true, Bool.bne_false, Bool.true_bne, Bool.not_true, Bool.not_false, Bool.and_true, Bool.true_and, Bool.and_false, Bool.false_and, Bool.or_true, Bool.true_or, Bool.or_false, Bool.false_or, cond_true, cond_false, List.getElem?_toArray, List.getElem?_cons_zero, List.getElem?_cons_succ, Nat.zero_add, Nat.add_zero, Nat.reduceAdd, forall_const, show ((N.length : Int) != (B2.length : Int)) = false by rw [hNl, hln]; simp]
  refine jn1_dup ?_
  refine rdS_ld (v := lv2) (fun u hu K hk => ldL hu K hk) ?_
  rw [hl2]
  refine ⟨.int .i64 1, fun u _ => by rw [min_i64, if_neg (by omega)], ?_⟩
  refine efS_i (cal_i (told10_spec (most := 1) (hs8.ch hr) hn hdl (by omega)) ?_)
  rintro r2 w9 ⟨N2, EN2, hN2, hDN2, hs9⟩
  have hN2l : N2.length = 1 := by
    have := congrArg List.length hN2
    simp only [List.length_map, List.length_take] at this
    omega
  have hl3 : ∀ K, lenS r2 K = K (.int .i64 N2.length) := fun K => by
    have := (Sep.rows hs9).len K
    rwa [List.length_map] at this
  replace hs9 := (hs8.join hs9).dropL
  refine ⟨hs9, ?_⟩
  rw [hl3]
  simp only [nilc_some, fad_mk, pik_true, pik_false, cnd_true, cnd_false, gif_same, gif_tf, gif_ft, gif_undef, bi_add, bi_sub, bi_mul, bi_eql, bi_neq, bi_lss, bi_leq, bi_gtr, bi_geq, notB_bool, cvi_int, lenS_mk, lenT_mk, ext0, ext1, ext2, nilP_mk, nilS_mk, fldv_agg, jn0_k, jn1_k, jn2_k, jn1_and, jn1_or, ex_some, Option.isNone_some, Option.isNone_none, Bool.false_bne, Bool.bne_true, Bool.bne_false, Bool.true_bne, Bool.not_true, Bool.not_false, Bool.and_true, Bool.true_and, Bool.and_false, Bool.false_and, Bool.or_true, Bool.true_or, Bool.or_false, Bool.false_or, cond_true, cond_false, List.getElem?_toArray, List.getElem?_cons_zero, List.getElem?_cons_succ, Nat.zero_add, Nat.add_zero, Nat.reduceAdd, forall_const, hN2l, show (((1 : Nat) : Int) != 1) = false from rfl]
  refine jn1_dup ?_
  refine rdS_ld (v := lv2) (fun u hu K hk => ldL hu K hk) ?_
  refine rdS_ld (v := lv2) (fun u hu K hk => ldL hu K hk) ?_
  rw [hl2]
  simp only [nilc_some, fad_mk, pik_true, pik_false, cnd_true, cnd_false, gif_same, gif_tf, gif_ft, gif_undef, bi_add, bi_sub, bi_mul, bi_eql, bi_neq, bi_lss, bi_leq, bi_gtr, bi_geq, notB_bool, cvi_int, lenS_mk, lenT_mk, ext0, ext1, ext2, nilP_mk, nilS_mk, fldv_agg, jn0_k, jn1_k, jn2_k, jn1_and, jn1_or, ex_some, Option.isNone_some, Option.isNone_none, Bool.false_bne, Bool.bne_true, Bool.bne_false, Bool.true_bne, Bool.not_true, Bool.not_false, Bool.and_true, Bool.true_and, Bool.and_false, Bool.false_and, Bool.or_true, Bool.true_or, Bool.or_false, Bool.false_or, cond_true, cond_false, List.getElem?_toArray, List.getElem?_cons_zero, List.getElem?_cons_succ, Nat.zero_add, Nat.add_zero, Nat.reduceAdd, forall_const]
  rw [wi64 (by omega) (by omega)]
  have e1 : (B2.length : Int) - 1 = ((B2.length - 1 : Nat) : Int) := by omega
  rw [e1]
  change ixs 34 _ _ _
  refine rdS_rowC (q := Q_api_Block) (by decide) hs9 (fun u hu => (hu.rc hq).bw.1) hy2' .i64 ?_
  refine efS_i (cal_i (cBlock_spec (hs9.ch hr) hy hn hdl) ?_)
  rintro _ w10 ⟨vd, rfl, hs10⟩
  replace hs10 := hs9.join hs10
  refine ⟨hs10.tail, ?_⟩
  refine efS_i (cal_i (rSame_spec (a := yb2) (b := yb2) (v := yv2) (Sep.rd hs10) ((hs10.rc hq).bw.2 (yb2, yv2) (List.mem_of_getElem? hy2))) ?_)
  rintro _ w11 ⟨rfl, hf11⟩
  have hs11 := (hs10.old hf11).tail
  refine ⟨hs11, ?_⟩
  rw [decide_eq_true rfl]
  simp only [nilc_some, fad_mk, pik_true, pik_false, cnd_true, cnd_false, gif_same, gif_tf, gif_ft, gif_undef, bi_add, bi_sub, bi_mul, bi_eql, bi_neq, bi_lss, bi_leq, bi_gtr, bi_geq, notB_bool, cvi_int, lenS_mk, lenT_mk, ext0, ext1, ext2, nilP_mk, nilS_mk, fldv_agg, jn0_k, jn1_k, jn2_k, jn1_and, jn1_or, ex_some, Option.isNone_some, Option.isNone_none, Bool.false_bne, Bool.bne_true, Bool.bne_false, Bool.true_bne, Bool.not_true, Bool.not_false, Bool.and_true, Bool.true_and, Bool.and_false, Bool.false_and, Bool.or_true, Bool.true_or, Bool.or_false, Bool.false_or, cond_true, cond_false, List.getElem?_toArray, List.getElem?_cons_zero, List.getElem?_cons_succ, Nat.zero_add, Nat.add_zero, Nat.reduceAdd, forall_const]
  obtain ⟨T, fr, hc⟩ := (hs11.rc hq).cell
  simp only [nilc_some, fad_mk, pik_true, pik_false, cnd_true, cnd_false, gif_same, gif_tf, gif_ft, gif_undef, bi_add, bi_sub, bi_mul, bi_eql, bi_neq, bi_lss, bi_leq, bi_gtr, bi_geq, notB_bool, cvi_int, lenS_mk, lenT_mk, ext0, ext1, ext2, nilP_mk, nilS_mk, fldv_agg, jn0_k, jn1_k, jn2_k, jn1_and, jn1_or, ex_some, Option.isNone_some, Option.isNone_none, Bool.false_bne, Bool.bne_true, Bool.bne_false, Bool.true_bne, Bool.not_true, Bool.not_false, Bool.and_true, Bool.true_and, Bool.and_false, Bool.false_and, Bool.or_true, Bool.true_or, Bool.or_false, Bool.false_or, cond_true, cond_false, List.getElem?_toArray, List.getElem?_cons_zero, List.getElem?_cons_succ, Nat.zero_add, Nat.add_zero, Nat.reduceAdd, forall_const, L_flurryref10_Chain hc, L_flurryref10_Chain__T hc, L_flurryref10_Chain__L hc, L_flurryref10_Chain__Off hc, hl2]
  refine ⟨fun t z => ∃ i : Nat, t = .int .i64 i ∧ i ≤ B2.length ∧ Sep w z L7, fun t _ => (B2.length - RowKit.intOf t).toNat, ⟨0, rfl, by omega, hs11⟩, ?_⟩
  clear hs11 hs10 hs9 hs8 hs7
  rintro _ z ⟨i, rfl, hi, hz⟩ -
  simp only [nilc_some, fad_mk, pik_true, pik_false, cnd_true, cnd_false, gif_same, gif_tf, gif_ft, gif_undef, bi_add, bi_sub, bi_mul, bi_eql, bi_neq, bi_lss, bi_leq, bi_gtr, bi_geq, notB_bool, cvi_int, lenS_mk, lenT_mk, ext0, ext1, ext2, nilP_mk, nilS_mk, fldv_agg, jn0_k, jn1_k, jn2_k, jn1_and, jn1_or, ex_some, Option.isNone_some, Option.isNone_none, Bool.false_bne, Bool.bne_true, Bool.bne_false, Bool.true_bne, Bool.not_true, Bool.not_false, Bool.and_true, Bool.true_and, Bool.and_false, Bool.false_and, Bool.or_true, Bool.true_or, Bool.or_false, Bool.false_or, cond_true, cond_false, List.getElem?_toArray, List.getElem?_cons_zero, List.getElem?_cons_succ, Nat.zero_add, Nat.add_zero, Nat.reduceAdd, forall_const]
  rw [cnd_bool]
  refine ⟨fun h => ?_, fun h => hR _ _ ⟨rfl, hz.fr0⟩⟩
  have hlt : i < B2.length := by simp at h; omega
  obtain ⟨⟨eb, ev⟩, he⟩ : ∃ e, B2[i]? = some e := ⟨_, List.getElem?_eq_getElem hlt⟩
  have he2 : (blks B)[i]? = some eb := by rw [← hBB, List.getElem?_map, he]; rfl
  obtain ⟨⟨nb, nv⟩, hp⟩ : ∃ p, N[i]? = some p := ⟨_, List.getElem?_eq_getElem (by omega)⟩
  obtain rfl : nb = eb := by
    have h1 : (blks N)[i]? = some nb := by rw [List.getElem?_map, hp]; rfl
    rw [hN, he2] at h1
    exact (Option.some.inj h1).symm
  have hge := hg nb (List.mem_of_getElem? he2)
  have heR : ∀ {u : World} {Bs : List Asn}, Sep w u Bs → RdB u.heap ev nb.d := fun hu => (hu.rc hq).bw.2 (nb, ev) (List.mem_of_getElem? he)
  refine BRows.ld (hz.rc hq).bw he .i64 ?_
  refine alloc_s hz (A_api_Block z) fun g11 z1 hz1 => ?_
  refine St_api_Block (b := (nb.p, nb.h, ev)) hz1 (one_api_Block (heR hz1).one) fun z2 hz2 => ?_
  simp only [L_api_Block hz2.blk, L_api_Block__Parent hz2.blk, L_api_Block__Height hz2.blk, L_api_Block__Data hz2.blk]
  refine cal_i (rbID_spec (b := nb) (v := ev) (heR hz2) hge.2) ?_
  rintro _ z3 ⟨rfl, hf3⟩
  have hz3 := hz2.old hf3
  have hnm : nb.name = nb.id := if_pos hge.1
  rw [hnm]
  simp only [nilc_some, fad_mk, pik_true, pik_false, cnd_true, cnd_false, gif_same, gif_tf, gif_ft, gif_undef, bi_add, bi_sub, bi_mul, bi_eql, bi_neq, bi_lss, bi_leq, bi_gtr, bi_geq, notB_bool, cvi_int, lenS_mk, lenT_mk, ext0, ext1, ext2, nilP_mk, nilS_mk, fldv_agg, jn0_k, jn1_k, jn2_k, jn1_and, jn1_or, ex_some, Option.isNone_some, Option.isNone_none, Bool.false_bne, Bool.bne_true, Bool.bne_false, Bool.true_bne, Bool.not_true, Bool.not_false, Bool.and_true, Bool.true_and, Bool.and_false, Bool.false_and, Bool.or_true, Bool.true_or, Bool.or_false, Bool.false_or, cond_true, cond_false, List.getElem?_toArray, List.getElem?_cons_zero, List.getElem?_cons_succ, Nat.zero_add, Nat.add_zero, Nat.reduceAdd, forall_const]
  refine alloc_s hz3 (A_api_ID z3) fun g12 z4 hz4 => ?_
  refine St_api_ID (b := nb.id) hz4 fun z5 hz5 => ?_
  refine drH_S hz5 fun z6 hz6 _ => ?_
  change ixs 66 _ _ _
  refine rdS_nmI hz6 (fun u hu => (rdL (Bs := [_, _]) hu).1) hp .i64 ?_
  refine ⟨kv nb.id, fun u hu => (L_api_ID (Sep.blk hu) _).mpr rfl, ?_⟩
  refine ⟨.bool false, fun u hu => by rw [ne_api_ID, decide_eq_true rfl]; rfl, ?_⟩
  simp only [nilc_some, fad_mk, pik_true, pik_false, cnd_true, cnd_false, gif_same, gif_tf, gif_ft, gif_undef, bi_add, bi_sub, bi_mul, bi_eql, bi_neq, bi_lss, bi_leq, bi_gtr, bi_geq, notB_bool, cvi_int, lenS_mk, lenT_mk, ext0, ext1, ext2, nilP_mk, nilS_mk, fldv_agg, jn0_k, jn1_k, jn2_k, jn1_and, jn1_or, ex_some, Option.isNone_some, Option.isNone_none, Bool.false_bne, Bool.bne_true, Bool.bne_false, Bool.true_bne, Bool.not_true, Bool.not_false, Bool.and_true, Bool.true_and, Bool.and_false, Bool.false_and, Bool.or_true, Bool.true_or, Bool.or_false, Bool.false_or, cond_true, cond_false, List.getElem?_toArray, List.getElem?_cons_zero, List.getElem?_cons_succ, Nat.zero_add, Nat.add_zero, Nat.reduceAdd, forall_const]
  refine jn1_dup ?_
  change ixs 66 _ _ _
  refine rdS_nmB hz6 (fun u hu => (rdL (Bs := [_, _]) hu).1) hp .i64 ?_
  refine ⟨bq nb ev, fun u hu => (L_api_Block (Sep.blk hu.tail) _).mpr rfl, ?_⟩
  refine efS_i (cal_i (rSame_spec (a := nb) (b := nb) (u := nv) (v := ev) ((rdL (Bs := [_, _]) hz6).2.1 (nb, nv) (List.mem_of_getElem? hp)) (heR hz6)) ?_)
  rintro _ z7 ⟨rfl, hf7⟩
  have hz7 := hz6.old hf7
  refine ⟨hz7, ?_⟩
  rw [decide_eq_true rfl]
  simp only [nilc_some, fad_mk, pik_true, pik_false, cnd_true, cnd_false, gif_same, gif_tf, gif_ft, gif_undef, bi_add, bi_sub, bi_mul, bi_eql, bi_neq, bi_lss, bi_leq, bi_gtr, bi_geq, notB_bool, cvi_int, lenS_mk, lenT_mk, ext0, ext1, ext2, nilP_mk, nilS_mk, fldv_agg, jn0_k, jn1_k, jn2_k, jn1_and, jn1_or, ex_some, Option.isNone_some, Option.isNone_none, Bool.false_bne, Bool.bne_true, Bool.bne_false, Bool.true_bne, Bool.not_true, Bool.not_false, Bool.and_true, Bool.true_and, Bool.and_false, Bool.false_and, Bool.or_true, Bool.true_or, Bool.or_false, Bool.false_or, cond_true, cond_false, List.getElem?_toArray, List.getElem?_cons_zero, List.getElem?_cons_succ, Nat.zero_add, Nat.add_zero, Nat.reduceAdd, forall_const]
  refine jn1_dup ?_
  refine ⟨kv nb.id, fun u hu => (L_api_ID (Sep.blk hu) _).mpr rfl, ?_⟩
  refine efS_i (cal_i (cHas_spec (k := nb.id) (hz7.ch hr) (hm.fr hz7.fr0)) ?_)
  rintro _ z8 ⟨rfl, hf8⟩
  have hz8 := hz7.old hf8
  refine ⟨hz8, ?_⟩
  rw [fnd_mem he2]
  simp only [nilc_some, fad_mk, pik_true, pik_false, cnd_true, cnd_false, gif_same, gif_tf, gif_ft, gif_undef, bi_add, bi_sub, bi_mul, bi_eql, bi_neq, bi_lss, bi_leq, bi_gtr, bi_geq, notB_bool, cvi_int, lenS_mk, lenT_mk, ext0, ext1, ext2, nilP_mk, nilS_mk, fldv_agg, jn0_k, jn1_k, jn2_k, jn1_and, jn1_or, ex_some, Option.isNone_some, Option.isNone_none, Bool.false_bne, Bool.bne_true, Bool.bne_false, Bool.true_bne, Bool.not_true, Bool.not_false, Bool.and_true, Bool.true_and, Bool.and_false, Bool.false_and, Bool.or_true, Bool.true_or, Bool.or_false, Bool.false_or, cond_true, cond_false, List.getElem?_toArray, List.getElem?_cons_zero, List.getElem?_cons_succ, Nat.zero_add, Nat.add_zero, Nat.reduceAdd, forall_const]
  rw [wi64 (by omega) (by omega)]
  exact ⟨⟨i + 1, by simp, by omega, hz8.tail.tail⟩, by simp [RowKit.intOf] <;> omega⟩
end
end Go.Fx
set_option linter.unusedVariables false
set_option linter.unusedSimpArgs false
namespace Go.Fx
section
variable {w0 w w' : World} {As : List Asn} {g gi gm : Nat} {lv iv m pt ut : Value} {over off : Bool} {B : List BV} {x : Tp}
theorem neB {o1 o2 : Operand} {a b : Bool} {w : World} (K : Value → Prop) : rdP P (eqS .neq T_bool o1 o2 (.bool a) (.bool b)) w K = K (.bool (a != b)) := rdP_eq (by cases a <;> cases b <;> kernel_rfl) K
end
end Go.Fx
set_option linter.unusedVariables false
set_option linter.unusedSimpArgs false
namespace Go.Fx
abbrev wA (gw : Nat) (pt cp ut rp : Value) : Asn := blk gw (Rdr.cells Q_flurrylaw10_world (pt, cp, ut, rp)).toArray T_flurrylaw10_world
theorem eqTape {a : Addr} {o1 o2 : Operand} {w : World} (K : Value → Prop) : rdP P (eqS .eql T_p_tape_Tape o1 o2 (.pointer (some a)) (.pointer (some a))) w K = K (.bool true) := by
  obtain ⟨j, hj⟩ := Option.isSome_iff_exists.1 (show (P.info? T_tape_Tape).isSome = true by kernel_rfl)
  refine rdP_eq ?_ K
  have h2 := run_eql_ptr_same (P := P) w a (show P.underlying T_p_tape_Tape = some (.pointer T_tape_Tape) by kernel_rfl) hj
  simp only [eqS, eqGuard]
  simp [h2]
def Bad (x : Tp) (b : Blk) : Prop := x.off = true ∨ b.chk ≠ 0 ∨ b.h ≠ 0
def opE (x : Tp) : Int := if x.off = true then 5 else 30
theorem opE_ne (x : Tp) : opE x ≠ 0 := by unfold opE; split <;> decide
/-- What a chain answers a block, and what becomes of it. -/
def acc (over : Bool) (x : Tp) (L : List Blk) (y b : Blk) : Int × Tp × Bool × List Blk :=
  if over = true ∨ x.off = true then (5, x, over, L) else if b.link y ≠ 0 then (b.link y, x, over, L) else
  if (x.append b.rcd).2 = 0 then (0, (x.append b.rcd).1, false, L ++ [b]) else ((x.append b.rcd).2, (x.append b.rcd).1, ((x.append b.rcd).2 == 5), L)
section
variable {w0 w w' : World} {As : List Asn} {g gi gm gw : Nat} {lv iv m pt ut cp rp : Value} {over off : Bool} {B : List BV} {x : Tp}
theorem tp_form (hs : Sep w0 w (tp pt x :: As)) : ∃ gt : Nat, pt = .pointer (some ⟨gt, 0, none⟩) := by
  rw [tp_open] at hs
  obtain ⟨g, s, rfl, _⟩ := hs
  exact ⟨g, rfl⟩
theorem rt_form (hs : Sep w0 w (rt ut x :: As)) : ∃ gt : Nat, ut = .pointer (some ⟨gt, 0, none⟩) := by
  rw [rt_open] at hs
  obtain ⟨g, s, ⟨rfl, _⟩, _⟩ := hs
  exact ⟨g, rfl⟩
theorem cOpen2 {b : Blk} {v : Value} (hs : Sep w0 w (tp pt x :: As)) (hx : x.Ok) (hm : x.made = true) (hC : Cub w0) (hb : ∀ z, Sep w0 z As → RdB z.heap v b.d) (hh : b.h ≤ maxI) :
    cal P f_chain_Open [pt, bq b v] w fun r w' =>
      (Bad x b ∧ r = .tuple #[.pointer none, .int .i64 (opE x)] ∧ Sep w0 w' (tp pt x :: As)) ∨
      (¬ Bad x b ∧ ∃ g gi gm lv iv B E S, r = .tuple #[.pointer (some ⟨g, 0, none⟩), .int .i64 0] ∧ IsScan x.b S ∧ blks B = b :: linkT b S ∧ DatB B E ∧
        Sep w0 w' (chH g gi gm lv iv pt false B ++ (tp pt { x with b := layL (linkT b S) } :: (E ++ As)))) := by
  refine cal_i (cOpen_spec hs hx hm hC hb hh) ?_
  rintro r w1 (⟨h, rfl, hs1⟩ | ⟨h, h2, rfl, hs1⟩ | ⟨h, h2, h3, hr⟩)
  · exact .inl ⟨.inl h, by unfold opE; rw [if_pos h], hs1⟩
  · exact .inl ⟨.inr h2, by unfold opE; rw [if_neg (by rw [h]; decide)], hs1⟩
  · refine .inr ⟨?_, hr⟩
    rintro (h4 | h4 | h4)
    · rw [h] at h4; cases h4
    · exact h4 h2
    · exact h4 h3
theorem rcOpen2 {b : Blk} {v : Value} (hs : Sep w0 w (rt ut x :: As)) (hx : x.Ok) (hb : ∀ z, Sep w0 z As → RdB z.heap v b.d) (hh : b.h ≤ maxI) :
    cal P f_ref10_Open [ut, bq b v] w fun r w' =>
      (Bad x b ∧ r = .tuple #[.pointer none, .int .i64 (opE x)] ∧ Sep w0 w' (rt ut x :: As)) ∨
      (¬ Bad x b ∧ ∃ g lv B E S, r = .tuple #[.pointer (some ⟨g, 0, none⟩), .int .i64 0] ∧ IsScan x.b S ∧ blks B = b :: linkT b S ∧ DatB B E ∧
        Sep w0 w' (rcA g lv ut false :: rows Q_api_Block lv (B.map BV.t) :: rt ut { x with b := layL (linkT b S) } :: (E ++ As))) := by
  refine cal_i (rcOpen_spec hs hx hb hh) ?_
  rintro r w1 (⟨h, rfl, hs1⟩ | ⟨h, h2, rfl, hs1⟩ | ⟨h, h2, h3, hr⟩)
  · exact .inl ⟨.inl h, by unfold opE; rw [if_pos h], hs1⟩
  · exact .inl ⟨.inr h2, by unfold opE; rw [if_neg (by rw [h]; decide)], hs1⟩
  · refine .inr ⟨?_, hr⟩
    rintro (h4 | h4 | h4)
    · rw [h] at h4; cases h4
    · exact h4 h2
    · exact h4 h3
theorem opens_spec {b : Blk} {v : Value} (hs : Sep w0 w (tp pt x :: rt ut x :: wA gw pt cp ut rp :: As)) (hx : x.Ok) (hC : Cub w0) (hb : ∀ z, Sep w0 z As → RdB z.heap v b.d) (hh : b.h ≤ maxI) :
    cal P f_law10_world_opens [.pointer (some ⟨gw, 0, none⟩), bq b v] w fun r w' => r = .bool true ∧
      ((Bad x b ∧ Sep w0 w' (tp pt x :: rt ut x :: wA gw pt cp ut rp :: As)) ∨
       (¬ Bad x b ∧ ∃ g gi gm lv iv B g2 lv2 B2 S E, IsScan x.b S ∧ blks B = b :: linkT b S ∧ blks B2 = b :: linkT b S ∧ DatB B E ∧ DatB B2 E ∧
        Sep w0 w' (chH g gi gm lv iv pt false B ++ (tp pt { x with b := layL (linkT b S) } :: rcA g2 lv2 ut false :: rows Q_api_Block lv2 (B2.map BV.t) :: rt ut { x with b := layL (linkT b S) } :: wA gw pt (.pointer (some ⟨g, 0, none⟩)) ut (.pointer (some ⟨g2, 0, none⟩)) :: (As ++ E))))) := by
  refine s_law10_world_opens fun R hR => ?_
  unfold c_law10_world_opens
  have hm : x.made = true := rt_made hs.p1
  obtain ⟨gt, rfl⟩ := tp_form hs
  obtain ⟨gu, rfl⟩ := rt_form hs.p1
  refine bxQ hs fun g3 w1 hs1 => ?_
  -- b 0 · tp 1 · rt 2 · wA 3
  refine drH_S hs1 fun w2 hs2 _ => ?_
  simp only [nilc_some, fad_mk, pik_true, pik_false, cnd_true, cnd_false, gif_same, gif_tf, gif_ft, gif_undef, bi_add, bi_sub, bi_mul, bi_eql, bi_neq, bi_lss, bi_leq, bi_gtr, bi_geq, notB_bool, cvi_int, lenS_mk, lenT_mk, ext0, ext1, ext2, nilP_mk, nilS_mk, fldv_agg, jn0_k, jn1_k, jn2_k, jn1_and, jn1_or, ex_some, Option.isNone_some, Option.isNone_none, Bool.false_bne, Bool.bne_true, Bool.bne_false, Bool.true_bne, Bool.not_true, Bool.not_false, Bool.and_true, Bool.true_and, Bool.and_false, Bool.false_and, Bool.or_true, Bool.true_or, Bool.or_false, Bool.false_or, cond_true, cond_false, List.getElem?_toArray, List.getElem?_cons_zero, List.getElem?_cons_succ, Nat.zero_add, Nat.add_zero, Nat.reduceAdd, forall_const]
  refine rdS_ld (v := .pointer (some ⟨gt, 0, none⟩)) (fun u hu K hk => (L_flurrylaw10_world__t (Sep.blk (Sep.pick hu [3] 4)) K).mpr hk) ?_
  refine ⟨bq b v, fun u hu => (L_api_Block (Sep.blk hu) _).mpr rfl, ?_⟩
  refine efC_cal (cal_i (cOpen2 (b := b) (v := v) (Sep.pick hs2 [1, 2, 3, 0] 4) hx hm hC (fun z hz => hb z hz.tail.tail.tail) hh) ?_)
  rintro _ w3 (⟨hbad, rfl, hs3⟩ | ⟨hbad, g, gi, gm, lv, iv, B, E, S, rfl, hS, hB, hD, hs3⟩)
  · -- tp 0 · rt 1 · wA 2 · b 3
    simp only [nilc_some, fad_mk, pik_true, pik_false, cnd_true, cnd_false, gif_same, gif_tf, gif_ft, gif_undef, bi_add, bi_sub, bi_mul, bi_eql, bi_neq, bi_lss, bi_leq, bi_gtr, bi_geq, notB_bool, cvi_int, lenS_mk, lenT_mk, ext0, ext1, ext2, nilP_mk, nilS_mk, fldv_agg, jn0_k, jn1_k, jn2_k, jn1_and, jn1_or, ex_some, Option.isNone_some, Option.isNone_none, Bool.false_bne, Bool.bne_true, Bool.bne_false, Bool.true_bne, Bool.not_true, Bool.not_false, Bool.and_true, Bool.true_and, Bool.and_false, Bool.false_and, Bool.or_true, Bool.true_or, Bool.or_false, Bool.false_or, cond_true, cond_false, List.getElem?_toArray, List.getElem?_cons_zero, List.getElem?_cons_succ, Nat.zero_add, Nat.add_zero, Nat.reduceAdd, forall_const]
    refine drH_S hs3 fun w4 hs4 _ => ?_
    refine rdS_ld (v := .pointer (some ⟨gu, 0, none⟩)) (fun u hu K hk => (L_flurrylaw10_world__u (Sep.blk (Sep.pick hu [2] 3)) K).mpr hk) ?_
    refine ⟨bq b v, fun u hu => (L_api_Block (Sep.blk (Sep.pick hu [3] 4)) _).mpr rfl, ?_⟩
    refine efC_cal (cal_i (rcOpen2 (b := b) (v := v) (Sep.pick hs4 [1, 0, 2, 3] 4) hx (fun z hz => hb z hz.tail.tail.tail) hh) ?_)
    rintro _ w5 (⟨_, rfl, hs5⟩ | ⟨h, _⟩)
    case inr => exact absurd hbad h
    have h1 : (opE x != opE x) = false := by simp
    have h2 : (opE x != 0) = true := by simpa using opE_ne x
    simp only [nilc_some, fad_mk, pik_true, pik_false, cnd_true, cnd_false, gif_same, gif_tf, gif_ft, gif_undef, bi_add, bi_sub, bi_mul, bi_eql, bi_neq, bi_lss, bi_leq, bi_gtr, bi_geq, notB_bool, cvi_int, lenS_mk, lenT_mk, ext0, ext1, ext2, nilP_mk, nilS_mk, fldv_agg, jn0_k, jn1_k, jn2_k, jn1_and, jn1_or, ex_some, Option.isNone_some, Option.isNone_none, Bool.false_bne, Bool.bne_true, Bool.bne_false, Bool.true_bne, Bool.not_true, Bool.not_false, Bool.and_true, Bool.true_and, Bool.and_false, Bool.false_and, Bool.or_true, Bool.true_or, Bool.or_false, Bool.false_or, cond_true, cond_false, List.getElem?_toArray, List.getElem?_cons_zero, List.getElem?_cons_succ, Nat.zero_add, Nat.add_zero, Nat.reduceAdd, forall_const, h1, h2, neB, Option.isNone_none, bne_self_eq_false]
    refine drH_S hs5 fun w6 hs6 _ => ?_
    exact hR _ _ ⟨rfl, .inl ⟨hbad, Sep.pick hs6 [1, 0, 2] 4⟩⟩
  · simp only [nilc_some, fad_mk, pik_true, pik_false, cnd_true, cnd_false, gif_same, gif_tf, gif_ft, gif_undef, bi_add, bi_sub, bi_mul, bi_eql, bi_neq, bi_lss, bi_leq, bi_gtr, bi_geq, notB_bool, cvi_int, lenS_mk, lenT_mk, ext0, ext1, ext2, nilP_mk, nilS_mk, fldv_agg, jn0_k, jn1_k, jn2_k, jn1_and, jn1_or, ex_some, Option.isNone_some, Option.isNone_none, Bool.false_bne, Bool.bne_true, Bool.bne_false, Bool.true_bne, Bool.not_true, Bool.not_false, Bool.and_true, Bool.true_and, Bool.and_false, Bool.false_and, Bool.or_true, Bool.true_or, Bool.or_false, Bool.false_or, cond_true, cond_false, List.getElem?_toArray, List.getElem?_cons_zero, List.getElem?_cons_succ, Nat.zero_add, Nat.add_zero, Nat.reduceAdd, forall_const]
    obtain ⟨M, hM⟩ : ∃ M, M = chH g gi gm lv iv (.pointer (some ⟨gt, 0, none⟩)) false B ++ (tp (.pointer (some ⟨gt, 0, none⟩)) { x with b := layL (linkT b S) } :: E) := ⟨_, rfl⟩
    have hs4 : Sep w0 w3 (rt (.pointer (some ⟨gu, 0, none⟩)) x :: (M ++ (wA gw (.pointer (some ⟨gt, 0, none⟩)) cp (.pointer (some ⟨gu, 0, none⟩)) rp :: blk g3 (Rdr.cells Q_api_Block (b.p, b.h, v)).toArray T_api_Block :: As))) := by
      refine Sep.mid ?_
      rw [hM, List.append_assoc]
      exact hs3
    refine drH_S hs4 fun w5 hs5 _ => ?_
    refine rdS_ld (v := .pointer (some ⟨gu, 0, none⟩)) (fun u hu K hk => (L_flurrylaw10_world__u (Sep.blk hu.tail.dropL) K).mpr hk) ?_
    refine ⟨bq b v, fun u hu => (L_api_Block (Sep.blk hu.tail.dropL.tail) _).mpr rfl, ?_⟩
    refine efC_cal (cal_i (rcOpen2 (b := b) (v := v) hs5 hx (fun z hz => hb z hz.dropL.tail.tail) hh) ?_)
    rintro _ w6 (⟨h, _⟩ | ⟨_, g2, lv2, B2, E2, S2, rfl, hS2, hB2, hD2, hs6⟩)
    case inl => exact absurd h hbad
    obtain rfl := hS2.uniq hS
    have hs7 := Sep.mid (As := rcA g2 lv2 (.pointer (some ⟨gu, 0, none⟩)) false :: rows Q_api_Block lv2 (B2.map BV.t) :: rt (.pointer (some ⟨gu, 0, none⟩)) { x with b := layL (linkT b S2) } :: (E2 ++ M)) (A := wA gw (.pointer (some ⟨gt, 0, none⟩)) cp (.pointer (some ⟨gu, 0, none⟩)) rp) (Bs := blk g3 (Rdr.cells Q_api_Block (b.p, b.h, v)).toArray T_api_Block :: As) (by
      show Sep w0 w6 (rcA g2 lv2 (.pointer (some ⟨gu, 0, none⟩)) false :: rows Q_api_Block lv2 (B2.map BV.t) :: rt (.pointer (some ⟨gu, 0, none⟩)) { x with b := layL (linkT b S2) } :: ((E2 ++ M) ++ _))
      rw [List.append_assoc]
      exact hs6)
    simp only [nilc_some, fad_mk, pik_true, pik_false, cnd_true, cnd_false, gif_same, gif_tf, gif_ft, gif_undef, bi_add, bi_sub, bi_mul, bi_eql, bi_neq, bi_lss, bi_leq, bi_gtr, bi_geq, notB_bool, cvi_int, lenS_mk, lenT_mk, ext0, ext1, ext2, nilP_mk, nilS_mk, fldv_agg, jn0_k, jn1_k, jn2_k, jn1_and, jn1_or, ex_some, Option.isNone_some, Option.isNone_none, Bool.false_bne, Bool.bne_true, Bool.bne_false, Bool.true_bne, Bool.not_true, Bool.not_false, Bool.and_true, Bool.true_and, Bool.and_false, Bool.false_and, Bool.or_true, Bool.true_or, Bool.or_false, Bool.false_or, cond_true, cond_false, List.getElem?_toArray, List.getElem?_cons_zero, List.getElem?_cons_succ, Nat.zero_add, Nat.add_zero, Nat.reduceAdd, forall_const, show ((0 : Int) != 0) = false from rfl, neB, Option.isNone_some, bne_self_eq_false]
    refine ⟨fun z => Sep w0 z (wA gw (.pointer (some ⟨gt, 0, none⟩)) (.pointer (some ⟨g, 0, none⟩)) (.pointer (some ⟨gu, 0, none⟩)) (.pointer (some ⟨g2, 0, none⟩)) :: (rcA g2 lv2 (.pointer (some ⟨gu, 0, none⟩)) false :: rows Q_api_Block lv2 (B2.map BV.t) :: rt (.pointer (some ⟨gu, 0, none⟩)) { x with b := layL (linkT b S2) } :: (E2 ++ M) ++ (blk g3 (Rdr.cells Q_api_Block (b.p, b.h, v)).toArray T_api_Block :: As))), ?_, ?_⟩
    · try simp only [nilc_some, fad_mk, pik_true, pik_false, cnd_true, cnd_false, gif_same, gif_tf, gif_ft, gif_undef, bi_add, bi_sub, bi_mul, bi_eql, bi_neq, bi_lss, bi_leq, bi_gtr, bi_geq, notB_bool, cvi_int, lenS_mk, lenT_mk, ext0, ext1, ext2, nilP_mk, nilS_mk, fldv_agg, jn0_k, jn1_k, jn2_k, jn1_and, jn1_or, ex_some, Option.isNone_some, Option.isNone_none, Bool.false_bne, Bool.bne_true, Bool.bne_false, Bool.true_bne, Bool.not_true, Bool.not_false, Bool.and_true, Bool.true_and, Bool.and_false, Bool.false_and, Bool.or_true, Bool.true_or, Bool.or_false, Bool.false_or, cond_true, cond_false, List.getElem?_toArray, List.getElem?_cons_zero, List.getElem?_cons_succ, Nat.zero_add, Nat.add_zero, Nat.reduceAdd, forall_const]
      refine St_flurrylaw10_world__c hs7 rfl fun z1 hz1 => ?_
      refine St_flurrylaw10_world__w hz1 rfl fun z2 hz2 => ?_
      exact hz2
    · intro z hz _
      have hz1 : Sep w0 z (wA gw (.pointer (some ⟨gt, 0, none⟩)) (.pointer (some ⟨g, 0, none⟩)) (.pointer (some ⟨gu, 0, none⟩)) (.pointer (some ⟨g2, 0, none⟩)) :: rcA g2 lv2 (.pointer (some ⟨gu, 0, none⟩)) false :: rows Q_api_Block lv2 (B2.map BV.t) :: rt (.pointer (some ⟨gu, 0, none⟩)) { x with b := layL (linkT b S2) } :: (M ++ (As ++ E2))) := by
        have h1 : Sep w0 z ([wA gw (.pointer (some ⟨gt, 0, none⟩)) (.pointer (some ⟨g, 0, none⟩)) (.pointer (some ⟨gu, 0, none⟩)) (.pointer (some ⟨g2, 0, none⟩)), rcA g2 lv2 (.pointer (some ⟨gu, 0, none⟩)) false, rows Q_api_Block lv2 (B2.map BV.t), rt (.pointer (some ⟨gu, 0, none⟩)) { x with b := layL (linkT b S2) }] ++ (E2 ++ (M ++ (blk g3 (Rdr.cells Q_api_Block (b.p, b.h, v)).toArray T_api_Block :: As)))) := by
          have h0 := hz
          simp only [List.cons_append, List.append_assoc] at h0 ⊢
          exact h0
        have h2 := h1.perm (List.Perm.append_left _ (List.perm_append_comm (l₁ := E2) (l₂ := M ++ (blk g3 (Rdr.cells Q_api_Block (b.p, b.h, v)).toArray T_api_Block :: As))))
        have h3 : Sep w0 z (([wA gw (.pointer (some ⟨gt, 0, none⟩)) (.pointer (some ⟨g, 0, none⟩)) (.pointer (some ⟨gu, 0, none⟩)) (.pointer (some ⟨g2, 0, none⟩)), rcA g2 lv2 (.pointer (some ⟨gu, 0, none⟩)) false, rows Q_api_Block lv2 (B2.map BV.t), rt (.pointer (some ⟨gu, 0, none⟩)) { x with b := layL (linkT b S2) }] ++ M) ++ blk g3 (Rdr.cells Q_api_Block (b.p, b.h, v)).toArray T_api_Block :: (As ++ E2)) := by
          simp only [List.cons_append, List.append_assoc, List.nil_append] at h2 ⊢
          exact h2
        have h4 := (Sep.mid h3).tail
        simp only [List.cons_append, List.append_assoc, List.nil_append] at h4
        exact h4
      rw [hM] at hz1
      have hz2 : Sep w0 z (wA gw (.pointer (some ⟨gt, 0, none⟩)) (.pointer (some ⟨g, 0, none⟩)) (.pointer (some ⟨gu, 0, none⟩)) (.pointer (some ⟨g2, 0, none⟩)) :: rcA g2 lv2 (.pointer (some ⟨gu, 0, none⟩)) false :: rows Q_api_Block lv2 (B2.map BV.t) :: rt (.pointer (some ⟨gu, 0, none⟩)) { x with b := layL (linkT b S2) } :: (chH g gi gm lv iv (.pointer (some ⟨gt, 0, none⟩)) false B ++ (tp (.pointer (some ⟨gt, 0, none⟩)) { x with b := layL (linkT b S2) } :: (As ++ (E2 ++ E))))) := by
        have h1 : Sep w0 z ((wA gw (.pointer (some ⟨gt, 0, none⟩)) (.pointer (some ⟨g, 0, none⟩)) (.pointer (some ⟨gu, 0, none⟩)) (.pointer (some ⟨g2, 0, none⟩)) :: rcA g2 lv2 (.pointer (some ⟨gu, 0, none⟩)) false :: rows Q_api_Block lv2 (B2.map BV.t) :: rt (.pointer (some ⟨gu, 0, none⟩)) { x with b := layL (linkT b S2) } :: (chH g gi gm lv iv (.pointer (some ⟨gt, 0, none⟩)) false B ++ [tp (.pointer (some ⟨gt, 0, none⟩)) { x with b := layL (linkT b S2) }])) ++ (E ++ (As ++ E2))) := by
          simp only [List.cons_append, List.append_assoc, List.nil_append] at hz1 ⊢
          exact hz1
        have h2 := h1.perm (List.Perm.append_left _ (List.perm_append_comm (l₁ := E) (l₂ := As ++ E2)))
        simp only [List.cons_append, List.append_assoc, List.nil_append] at h2 ⊢
        exact h2
      obtain ⟨L, hL⟩ : ∃ L, L = (wA gw (.pointer (some ⟨gt, 0, none⟩)) (.pointer (some ⟨g, 0, none⟩)) (.pointer (some ⟨gu, 0, none⟩)) (.pointer (some ⟨g2, 0, none⟩)) :: rcA g2 lv2 (.pointer (some ⟨gu, 0, none⟩)) false :: rows Q_api_Block lv2 (B2.map BV.t) :: rt (.pointer (some ⟨gu, 0, none⟩)) { x with b := layL (linkT b S2) } :: (chH g gi gm lv iv (.pointer (some ⟨gt, 0, none⟩)) false B ++ (tp (.pointer (some ⟨gt, 0, none⟩)) { x with b := layL (linkT b S2) } :: (As ++ (E2 ++ E))))) := ⟨_, rfl⟩
      rw [← hL] at hz2
      refine drH_S hz2 fun z3 hz3 _ => ?_
      refine jn1_dup ?_
      refine rdS_ld (v := .pointer (some ⟨gt, 0, none⟩)) (fun u hu K hk => by rw [hL] at hu; exact (L_flurrylaw10_world__t (Sep.blk hu) K).mpr hk) ?_
      have hr3 : ChR z3.heap g gi lv iv (.map (some gm)) (.pointer (some ⟨gt, 0, none⟩)) false B := by
        have h1 := hz3
        rw [hL] at h1
        exact chH_rd h1.tail.tail.tail.tail (hD.sub fun A hA => List.mem_cons_of_mem _ (List.mem_append_right _ (List.mem_append_right _ hA)))
      refine efS_i (cal_i (cTape_spec hr3) ?_)
      rintro _ _ ⟨rfl, rfl⟩
      refine ⟨hz3, ?_⟩
      refine ⟨.bool true, fun u _ => by rw [eqTape], ?_⟩
      simp only [nilc_some, fad_mk, pik_true, pik_false, cnd_true, cnd_false, gif_same, gif_tf, gif_ft, gif_undef, bi_add, bi_sub, bi_mul, bi_eql, bi_neq, bi_lss, bi_leq, bi_gtr, bi_geq, notB_bool, cvi_int, lenS_mk, lenT_mk, ext0, ext1, ext2, nilP_mk, nilS_mk, fldv_agg, jn0_k, jn1_k, jn2_k, jn1_and, jn1_or, ex_some, Option.isNone_some, Option.isNone_none, Bool.false_bne, Bool.bne_true, Bool.bne_false, Bool.true_bne, Bool.not_true, Bool.not_false, Bool.and_true, Bool.true_and, Bool.and_false, Bool.false_and, Bool.or_true, Bool.true_or, Bool.or_false, Bool.false_or, cond_true, cond_false, List.getElem?_toArray, List.getElem?_cons_zero, List.getElem?_cons_succ, Nat.zero_add, Nat.add_zero, Nat.reduceAdd, forall_const]
      rw [hL] at hz3
      refine hR _ _ ⟨rfl, .inr ⟨hbad, g, gi, gm, lv, iv, B, g2, lv2, B2, S2, E2 ++ E, hS2, hB, hB2, hD.sub fun A hA => List.mem_append_right _ hA, hD2.sub fun A hA => List.mem_append_left _ hA, ?_⟩⟩
      exact Sep.pick hz3 [4, 5, 6, 7, 8, 9, 1, 2, 3, 0] 10
end
end Go.Fx
set_option linter.unusedVariables false
set_option linter.unusedSimpArgs false
namespace Go.Fx
abbrev WL (gu : Nat) (s : Value) (x : Tp) (g gi gm : Nat) (lv iv pt : Value) (over : Bool) (B : List BV) (g2 : Nat) (lv2 ut : Value) (B2 : List BV) (gw : Nat) (Q : List Asn) : List Asn :=
  blk gu #[s, .bool x.off, .int .i64 x.armed] T_flurryref08_Tape :: ownB s x.b :: (chH g gi gm lv iv pt over B ++ (tp pt x :: rcA g2 lv2 ut over :: rows Q_api_Block lv2 (B2.map BV.t) :: wA gw pt (.pointer (some ⟨g, 0, none⟩)) ut (.pointer (some ⟨g2, 0, none⟩)) :: Q))
section
variable {w0 w : World} {Q : List Asn} {g gi gm gw g2 gu : Nat} {lv iv pt lv2 s : Value} {over : Bool} {B B2 : List BV} {x : Tp}
theorem wl_open (hs : Sep w0 w (chH g gi gm lv iv pt over B ++ (tp pt x :: rcA g2 lv2 (.pointer (some ⟨gu, 0, none⟩)) over :: rows Q_api_Block lv2 (B2.map BV.t) :: rt (.pointer (some ⟨gu, 0, none⟩)) x :: wA gw pt (.pointer (some ⟨g, 0, none⟩)) (.pointer (some ⟨gu, 0, none⟩)) (.pointer (some ⟨g2, 0, none⟩)) :: Q))) :
    ∃ s, x.made = true ∧ Sep w0 w (WL gu s x g gi gm lv iv pt over B g2 lv2 (.pointer (some ⟨gu, 0, none⟩)) B2 gw Q) := by
  have h1 := Sep.pick hs [8, 0, 1, 2, 3, 4, 5, 6, 7, 9] 10
  have h2 := rt_open.mp h1
  obtain ⟨gu', s, ⟨he, hm⟩, h2⟩ := h2
  cases he
  exact ⟨s, hm, h2⟩
structure WlR (h : Heap) (gu : Nat) (s : Value) (x : Tp) (g gi gm : Nat) (lv iv pt : Value) (over : Bool) (B : List BV) (g2 : Nat) (lv2 ut : Value) (B2 : List BV) (gw : Nat) : Prop where
  tape : h[gu]? = some (.cells #[s, .bool x.off, .int .i64 x.armed] T_flurryref08_Tape (0, 0))
  rs : RdB h s x.b
  ch : ChR h g gi lv iv (.map (some gm)) pt over B
  mp : MpR h gm (atF (blks B))
  rc : RcR h g2 lv2 ut over B2
  wd : h[gw]? = some (.cells (Rdr.cells Q_flurrylaw10_world (pt, .pointer (some ⟨g, 0, none⟩), ut, .pointer (some ⟨g2, 0, none⟩))).toArray T_flurrylaw10_world (0, 0))
theorem wl_rd {ut : Value} (hs : Sep w0 w (WL gu s x g gi gm lv iv pt over B g2 lv2 ut B2 gw Q)) (hD : DatB B Q) (hD2 : DatB B2 Q) : WlR w.heap gu s x g gi gm lv iv pt over B g2 lv2 ut B2 gw :=
  ⟨Sep.blk hs, Sep.rd hs.tail, chH_rd hs.tail.tail (hD.sub fun A hA => List.mem_cons_of_mem _ (List.mem_cons_of_mem _ (List.mem_cons_of_mem _ (List.mem_cons_of_mem _ hA)))), chH_mp hs.tail.tail,
    rcA_rd (Sep.pick hs [8, 9] 10) (hD2.sub fun A hA => List.mem_cons_of_mem _ hA), Sep.blk (Sep.pick hs [10] 11)⟩
end
end Go.Fx
set_option linter.unusedVariables false
set_option linter.unusedSimpArgs false
namespace Go.Fx
section
variable {w : World}
theorem cOpenNil {b : Blk} {v : Value} : cal P f_chain_Open [.pointer none, bq b v] w fun r w' => r = .tuple #[.pointer none, .int .i64 2] ∧ Fr [] w w' := by
  refine s_chain_Open fun R hR => ?_
  unfold c_chain_Open
  refine bxQ (Sep.start w) fun g3 w1 hs1 => ?_
  refine cal_i (Clone_none (fun w' _ => may_nil)) ?_
  rintro _ _ ⟨rfl, rfl⟩
  simp only [nilc_some, fad_mk, pik_true, pik_false, cnd_true, cnd_false, gif_same, gif_tf, gif_ft, gif_undef, bi_add, bi_sub, bi_mul, bi_eql, bi_neq, bi_lss, bi_leq, bi_gtr, bi_geq, notB_bool, cvi_int, lenS_mk, lenT_mk, ext0, ext1, ext2, nilP_mk, nilS_mk, fldv_agg, jn0_k, jn1_k, jn2_k, jn1_and, jn1_or, ex_some, Option.isNone_some, Option.isNone_none, Bool.false_bne, Bool.bne_true, Bool.bne_false, Bool.true_bne, Bool.not_true, Bool.not_false, Bool.and_true, Bool.true_and, Bool.and_false, Bool.false_and, Bool.or_true, Bool.true_or, Bool.or_false, Bool.false_or, cond_true, cond_false, List.getElem?_toArray, List.getElem?_cons_zero, List.getElem?_cons_succ, Nat.zero_add, Nat.add_zero, Nat.reduceAdd, forall_const, Option.isNone_none]
  exact hR _ _ ⟨rfl, hs1.fr0⟩
theorem wChainOpens {v y : Value} {l : List UInt8} {b : Blk} {off : Bool} (hb : RdB w.heap v l) (hb2 : RdB w.heap y b.d) (hbh : b.h ≤ maxI) (hC : Cub w) :
    cal P f_law10_ChainOpens [v, bq b y, .bool off] w fun r w' => r = .bool true ∧ Fr [] w w' := by
  refine s_law10_ChainOpens fun R hR => ?_
  unfold c_law10_ChainOpens
  refine bxQ (Sep.start w) fun g4 w1 hs1 => ?_
  refine cal_i (begun10_spec (hC.fr hs1.fr0)) ?_
  rintro _ w2 ⟨rfl, hf2⟩
  have hs2 := hs1.old hf2
  have l1 : ∀ K, lenS (b.p, b.h, y).2.2 K = K (.int .i64 b.d.length) := hb2.len
  simp only [nilc_some, fad_mk, pik_true, pik_false, cnd_true, cnd_false, gif_same, gif_tf, gif_ft, gif_undef, bi_add, bi_sub, bi_mul, bi_eql, bi_neq, bi_lss, bi_leq, bi_gtr, bi_geq, notB_bool, cvi_int, lenS_mk, lenT_mk, ext0, ext1, ext2, nilP_mk, nilS_mk, fldv_agg, jn0_k, jn1_k, jn2_k, jn1_and, jn1_or, ex_some, Option.isNone_some, Option.isNone_none, Bool.false_bne, Bool.bne_true, Bool.bne_false, Bool.true_bne, Bool.not_true, Bool.not_false, Bool.and_true, Bool.true_and, Bool.and_false, Bool.false_and, Bool.or_true, Bool.true_or, Bool.or_false, Bool.false_or, cond_true, cond_false, List.getElem?_toArray, List.getElem?_cons_zero, List.getElem?_cons_succ, Nat.zero_add, Nat.add_zero, Nat.reduceAdd, forall_const, hb.len, L_api_Block hs2.blk, L_api_Block__Parent hs2.blk, L_api_Block__Height hs2.blk, L_api_Block__Data hs2.blk, l1]
  rw [cnd_bool]
  refine ⟨fun h => ?_, fun h => ?_⟩
  · refine cal_i (begun10_spec (hC.fr hs2.fr0)) ?_
    rintro _ w3 ⟨rfl, hf3⟩
    exact hR _ _ ⟨rfl, (hs2.old hf3).fr0⟩
  have hl5 : l.length ≤ 5000 := by
    simp only [Bool.or_eq_false_iff, decide_eq_false_iff_not] at h
    omega
  clear h l1
  have hx0 : (⟨l, -1, false, true⟩ : Tp).Ok := ⟨by simp only; omega, by simp, by simp⟩
  have hx1 : (⟨l, -1, true, true⟩ : Tp).Ok := ⟨by simp only; omega, by simp, by simp⟩
  refine cal_i (tpOf_spec (hs2.rdB hb)) ?_
  rintro _ w3 (⟨h6, _⟩ | ⟨_, pt, rfl, hs3⟩)
  · omega
  replace hs3 := hs2.join hs3
  simp only [nilc_some, fad_mk, pik_true, pik_false, cnd_true, cnd_false, gif_same, gif_tf, gif_ft, gif_undef, bi_add, bi_sub, bi_mul, bi_eql, bi_neq, bi_lss, bi_leq, bi_gtr, bi_geq, notB_bool, cvi_int, lenS_mk, lenT_mk, ext0, ext1, ext2, nilP_mk, nilS_mk, fldv_agg, jn0_k, jn1_k, jn2_k, jn1_and, jn1_or, ex_some, Option.isNone_some, Option.isNone_none, Bool.false_bne, Bool.bne_true, Bool.bne_false, Bool.true_bne, Bool.not_true, Bool.not_false, Bool.and_true, Bool.true_and, Bool.and_false, Bool.false_and, Bool.or_true, Bool.true_or, Bool.or_false, Bool.false_or, cond_true, cond_false, List.getElem?_toArray, List.getElem?_cons_zero, List.getElem?_cons_succ, Nat.zero_add, Nat.add_zero, Nat.reduceAdd, forall_const]
  refine cal_i (rOf_spec (hs3.rdB hb)) ?_
  rintro _ w4 (⟨h6, _⟩ | ⟨_, ut, rfl, hs4⟩)
  · omega
  replace hs4 := hs3.join hs4
  obtain ⟨gt, rfl⟩ := tp_form hs4.p1
  obtain ⟨gu, rfl⟩ := rt_form hs4
  simp only [nilc_some, fad_mk, pik_true, pik_false, cnd_true, cnd_false, gif_same, gif_tf, gif_ft, gif_undef, bi_add, bi_sub, bi_mul, bi_eql, bi_neq, bi_lss, bi_leq, bi_gtr, bi_geq, notB_bool, cvi_int, lenS_mk, lenT_mk, ext0, ext1, ext2, nilP_mk, nilS_mk, fldv_agg, jn0_k, jn1_k, jn2_k, jn1_and, jn1_or, ex_some, Option.isNone_some, Option.isNone_none, Bool.false_bne, Bool.bne_true, Bool.bne_false, Bool.true_bne, Bool.not_true, Bool.not_false, Bool.and_true, Bool.true_and, Bool.and_false, Bool.false_and, Bool.or_true, Bool.true_or, Bool.or_false, Bool.false_or, cond_true, cond_false, List.getElem?_toArray, List.getElem?_cons_zero, List.getElem?_cons_succ, Nat.zero_add, Nat.add_zero, Nat.reduceAdd, forall_const]
  rw [B_flurrylaw10_world_0_2 rfl rfl]
  refine bxQ hs4 fun gw w5 hs5 => ?_
  -- gw 0 · rt 1 · tp 2 · g4 3
  simp only [nilc_some, fad_mk, pik_true, pik_false, cnd_true, cnd_false, gif_same, gif_tf, gif_ft, gif_undef, bi_add, bi_sub, bi_mul, bi_eql, bi_neq, bi_lss, bi_leq, bi_gtr, bi_geq, notB_bool, cvi_int, lenS_mk, lenT_mk, ext0, ext1, ext2, nilP_mk, nilS_mk, fldv_agg, jn0_k, jn1_k, jn2_k, jn1_and, jn1_or, ex_some, Option.isNone_some, Option.isNone_none, Bool.false_bne, Bool.bne_true, Bool.bne_false, Bool.true_bne, Bool.not_true, Bool.not_false, Bool.and_true, Bool.true_and, Bool.and_false, Bool.false_and, Bool.or_true, Bool.true_or, Bool.or_false, Bool.false_or, cond_true, cond_false, List.getElem?_toArray, List.getElem?_cons_zero, List.getElem?_cons_succ, Nat.zero_add, Nat.add_zero, Nat.reduceAdd, forall_const, show ((0 : Int) != 0) = false from rfl, Option.isNone_some]
  cases off with
  | false =>
    simp only [nilc_some, fad_mk, pik_true, pik_false, cnd_true, cnd_false, gif_same, gif_tf, gif_ft, gif_undef, bi_add, bi_sub, bi_mul, bi_eql, bi_neq, bi_lss, bi_leq, bi_gtr, bi_geq, notB_bool, cvi_int, lenS_mk, lenT_mk, ext0, ext1, ext2, nilP_mk, nilS_mk, fldv_agg, jn0_k, jn1_k, jn2_k, jn1_and, jn1_or, ex_some, Option.isNone_some, Option.isNone_none, Bool.false_bne, Bool.bne_true, Bool.bne_false, Bool.true_bne, Bool.not_true, Bool.not_false, Bool.and_true, Bool.true_and, Bool.and_false, Bool.false_and, Bool.or_true, Bool.true_or, Bool.or_false, Bool.false_or, cond_true, cond_false, List.getElem?_toArray, List.getElem?_cons_zero, List.getElem?_cons_succ, Nat.zero_add, Nat.add_zero, Nat.reduceAdd, forall_const]
    have hxA := hx0
    have hsA := Sep.pick hs5 [2, 1, 0] 3
    -- tp 0 · rt 1 · gw 2 · g4 3
    refine drH_S hsA fun w9 hs9 _ => ?_
    refine ⟨bq b y, fun u hu => (L_api_Block (Sep.blk (Sep.pick hu [3] 4)) _).mpr rfl, ?_⟩
    refine efC_cut (cal_i (opens_spec (b := b) (v := y) hs9 hxA hC (fun z hz => hz.rdB hb2) hbh) ?_)
    rintro _ w10 ⟨rfl, ⟨hbad, hs10⟩ | ⟨hbad, g, gi, gm, lv, iv, B, g2, lv2, B2, S, E, hS, hB, hB2, hD, hD2, hs10⟩⟩
    · have hs11 := Sep.pick hs10 [1, 0, 2] 3
      have h2 := rt_open.mp hs11
      obtain ⟨gu', s, ⟨he, _⟩, hs12⟩ := h2
      cases he
      -- gu 0 · s 1 · tp 2 · gw 3 · g4 4
      refine ⟨fun u => Sep w u [blk gu #[s, .bool (⟨l, -1, false, true⟩ : Tp).off, .int .i64 (⟨l, -1, false, true⟩ : Tp).armed] T_flurryref08_Tape, ownB s (⟨l, -1, false, true⟩ : Tp).b, tp (.pointer (some ⟨gt, 0, none⟩)) (⟨l, -1, false, true⟩ : Tp), wA gw (.pointer (some ⟨gt, 0, none⟩)) (.pointer none) (.pointer (some ⟨gu, 0, none⟩)) (.pointer none), blk g4 (Rdr.cells Q_api_Block (b.p, b.h, y)).toArray T_api_Block], hs12, ?_⟩
      simp only [nilc_some, fad_mk, pik_true, pik_false, cnd_true, cnd_false, gif_same, gif_tf, gif_ft, gif_undef, bi_add, bi_sub, bi_mul, bi_eql, bi_neq, bi_lss, bi_leq, bi_gtr, bi_geq, notB_bool, cvi_int, lenS_mk, lenT_mk, ext0, ext1, ext2, nilP_mk, nilS_mk, fldv_agg, jn0_k, jn1_k, jn2_k, jn1_and, jn1_or, ex_some, Option.isNone_some, Option.isNone_none, Bool.false_bne, Bool.bne_true, Bool.bne_false, Bool.true_bne, Bool.not_true, Bool.not_false, Bool.and_true, Bool.true_and, Bool.and_false, Bool.false_and, Bool.or_true, Bool.true_or, Bool.or_false, Bool.false_or, cond_true, cond_false, List.getElem?_toArray, List.getElem?_cons_zero, List.getElem?_cons_succ, Nat.zero_add, Nat.add_zero, Nat.reduceAdd, forall_const]
      refine jn1_dup ?_
      refine rdS_ld (v := s) (fun u hu K hk => by rw [ld1_eq (Sep.blk hu)]; simpa using hk) ?_
      refine efS_i (cal_i (tpBytes_spec (Sep.pick hs12 [2] 3) hxA rfl) ?_)
      rintro bs w13 hs13
      replace hs13 := hs12.join hs13
      refine ⟨hs13.tail, ?_⟩
      refine efS_i (cal_i (tpEqual_spec (Sep.rd hs13) (Sep.rd hs13.p2)) ?_)
      rintro _ _ ⟨rfl, rfl⟩
      refine ⟨hs13.tail, ?_⟩
      simp only [nilc_some, fad_mk, pik_true, pik_false, cnd_true, cnd_false, gif_same, gif_tf, gif_ft, gif_undef, bi_add, bi_sub, bi_mul, bi_eql, bi_neq, bi_lss, bi_leq, bi_gtr, bi_geq, notB_bool, cvi_int, lenS_mk, lenT_mk, ext0, ext1, ext2, nilP_mk, nilS_mk, fldv_agg, jn0_k, jn1_k, jn2_k, jn1_and, jn1_or, ex_some, Option.isNone_some, Option.isNone_none, Bool.false_bne, Bool.bne_true, Bool.bne_false, Bool.true_bne, Bool.not_true, Bool.not_false, Bool.and_true, Bool.true_and, Bool.and_false, Bool.false_and, Bool.or_true, Bool.true_or, Bool.or_false, Bool.false_or, cond_true, cond_false, List.getElem?_toArray, List.getElem?_cons_zero, List.getElem?_cons_succ, Nat.zero_add, Nat.add_zero, Nat.reduceAdd, forall_const, beq_self_eq_true, L_api_Block (Sep.blk (Sep.pick hs13 [5] 6)), L_api_Block__Parent (Sep.blk (Sep.pick hs13 [5] 6)), L_api_Block__Height (Sep.blk (Sep.pick hs13 [5] 6)), L_api_Block__Data (Sep.blk (Sep.pick hs13 [5] 6))]
      refine cal_i (cOpenNil (b := b) (v := y)) ?_
      rintro _ w14 ⟨rfl, hf14⟩
      have hs14 := hs13.old hf14
      simp only [nilc_some, fad_mk, pik_true, pik_false, cnd_true, cnd_false, gif_same, gif_tf, gif_ft, gif_undef, bi_add, bi_sub, bi_mul, bi_eql, bi_neq, bi_lss, bi_leq, bi_gtr, bi_geq, notB_bool, cvi_int, lenS_mk, lenT_mk, ext0, ext1, ext2, nilP_mk, nilS_mk, fldv_agg, jn0_k, jn1_k, jn2_k, jn1_and, jn1_or, ex_some, Option.isNone_some, Option.isNone_none, Bool.false_bne, Bool.bne_true, Bool.bne_false, Bool.true_bne, Bool.not_true, Bool.not_false, Bool.and_true, Bool.true_and, Bool.and_false, Bool.false_and, Bool.or_true, Bool.true_or, Bool.or_false, Bool.false_or, cond_true, cond_false, List.getElem?_toArray, List.getElem?_cons_zero, List.getElem?_cons_succ, Nat.zero_add, Nat.add_zero, Nat.reduceAdd, forall_const]
      refine drH_S hs14 fun w15 hs15 _ => ?_
      simp only [nilc_some, fad_mk, pik_true, pik_false, cnd_true, cnd_false, gif_same, gif_tf, gif_ft, gif_undef, bi_add, bi_sub, bi_mul, bi_eql, bi_neq, bi_lss, bi_leq, bi_gtr, bi_geq, notB_bool, cvi_int, lenS_mk, lenT_mk, ext0, ext1, ext2, nilP_mk, nilS_mk, fldv_agg, jn0_k, jn1_k, jn2_k, jn1_and, jn1_or, ex_some, Option.isNone_some, Option.isNone_none, Bool.false_bne, Bool.bne_true, Bool.bne_false, Bool.true_bne, Bool.not_true, Bool.not_false, Bool.and_true, Bool.true_and, Bool.and_false, Bool.false_and, Bool.or_true, Bool.true_or, Bool.or_false, Bool.false_or, cond_true, cond_false, List.getElem?_toArray, List.getElem?_cons_zero, List.getElem?_cons_succ, Nat.zero_add, Nat.add_zero, Nat.reduceAdd, forall_const, Option.isNone_none, show ((2 : Int) == 2) = true from rfl]
      refine jn1_dup ?_
      refine rdS_ld (v := .pointer none) (fun u hu K hk => (L_flurrylaw10_world__c (Sep.blk (Sep.pick hu [4] 5)) K).mpr hk) ?_
      simp only [nilc_some, fad_mk, pik_true, pik_false, cnd_true, cnd_false, gif_same, gif_tf, gif_ft, gif_undef, bi_add, bi_sub, bi_mul, bi_eql, bi_neq, bi_lss, bi_leq, bi_gtr, bi_geq, notB_bool, cvi_int, lenS_mk, lenT_mk, ext0, ext1, ext2, nilP_mk, nilS_mk, fldv_agg, jn0_k, jn1_k, jn2_k, jn1_and, jn1_or, ex_some, Option.isNone_some, Option.isNone_none, Bool.false_bne, Bool.bne_true, Bool.bne_false, Bool.true_bne, Bool.not_true, Bool.not_false, Bool.and_true, Bool.true_and, Bool.and_false, Bool.false_and, Bool.or_true, Bool.true_or, Bool.or_false, Bool.false_or, cond_true, cond_false, List.getElem?_toArray, List.getElem?_cons_zero, List.getElem?_cons_succ, Nat.zero_add, Nat.add_zero, Nat.reduceAdd, forall_const, Option.isNone_none]
      exact hR _ _ ⟨rfl, hs15.fr0⟩
    · obtain ⟨s, hm, hs12⟩ := wl_open (Q := [blk g4 (Rdr.cells Q_api_Block (b.p, b.h, y)).toArray T_api_Block] ++ E) hs10
      obtain ⟨LL, hLL⟩ : ∃ LL, LL = WL gu s { (⟨l, -1, false, true⟩ : Tp) with b := layL (linkT b S) } g gi gm lv iv (.pointer (some ⟨gt, 0, none⟩)) false B g2 lv2 (.pointer (some ⟨gu, 0, none⟩)) B2 gw ([blk g4 (Rdr.cells Q_api_Block (b.p, b.h, y)).toArray T_api_Block] ++ E) := ⟨_, rfl⟩
      replace hs12 : Sep w w10 LL := by rw [hLL]; exact hs12
      have rd : ∀ {u : World} {Bs : List Asn}, Sep w u (Bs ++ LL) → WlR u.heap gu s { (⟨l, -1, false, true⟩ : Tp) with b := layL (linkT b S) } g gi gm lv iv (.pointer (some ⟨gt, 0, none⟩)) false B g2 lv2 (.pointer (some ⟨gu, 0, none⟩)) B2 gw := fun {u Bs} hu => by
        have h1 := hu.dropL
        rw [hLL] at h1
        exact wl_rd h1 (hD.sub fun A hA => List.mem_append_right _ hA) (hD2.sub fun A hA => List.mem_append_right _ hA)
      have rd4 : ∀ {u : World} {Bs : List Asn}, Sep w u (Bs ++ LL) → u.heap[g4]? = some (.cells (Rdr.cells Q_api_Block (b.p, b.h, y)).toArray T_api_Block (0, 0)) := fun {u Bs} hu => by
        have h1 := hu.dropL
        rw [hLL] at h1
        exact Sep.blk (Sep.pick h1 [11] 12)
      have hbO : ({ (⟨l, -1, false, true⟩ : Tp) with b := layL (linkT b S) } : Tp).Ok := by
        obtain ⟨t, ht⟩ := linkT_pre b S
        have h1 := hS.len
        have h2 : layL S = layL (linkT b S) ++ layL t := by rw [← layL_append, ← ht]
        have h3 := congrArg List.length h2
        rw [List.length_append] at h3
        have h4 : (layL S).length ≤ l.length := h1
        exact ⟨by simp only; omega, by simp, by simp⟩
      have hnb : b.chk = 0 ∧ b.h = 0 := by
        refine ⟨?_, ?_⟩
        · by_cases h : b.chk = 0
          · exact h
          · exact absurd (.inr (.inl h)) hbad
        · by_cases h : b.h = 0
          · exact h
          · exact absurd (.inr (.inr h)) hbad
      have hgB : goodB (blks B) := by
        rw [hB]
        intro c hc
        rcases List.mem_cons.1 hc with rfl | hc
        · exact ⟨hnb.1, by rw [hnb.2]; decide⟩
        · obtain ⟨t, ht⟩ := linkT_pre b S
          exact hS.1 c (by rw [ht]; exact List.mem_append_left _ hc)
      have hBl : B.length = (linkT b S).length + 1 := by
        have := congrArg List.length hB
        simpa using this
      have hSl : (linkT b S).length ≤ 5000 := by
        obtain ⟨t, ht⟩ := linkT_pre b S
        have h1 := hS.len
        have h2 := layL_ge S
        have h3 := congrArg List.length ht
        rw [List.length_append] at h3
        have h4 : (layL S).length ≤ l.length := h1
        omega
      refine ⟨fun u => Sep w u LL, hs12, ?_⟩
      simp only [nilc_some, fad_mk, pik_true, pik_false, cnd_true, cnd_false, gif_same, gif_tf, gif_ft, gif_undef, bi_add, bi_sub, bi_mul, bi_eql, bi_neq, bi_lss, bi_leq, bi_gtr, bi_geq, notB_bool, cvi_int, lenS_mk, lenT_mk, ext0, ext1, ext2, nilP_mk, nilS_mk, fldv_agg, jn0_k, jn1_k, jn2_k, jn1_and, jn1_or, ex_some, Option.isNone_some, Option.isNone_none, Bool.false_bne, Bool.bne_true, Bool.bne_false, Bool.true_bne, Bool.not_true, Bool.not_false, Bool.and_true, Bool.true_and, Bool.and_false, Bool.false_and, Bool.or_true, Bool.true_or, Bool.or_false, Bool.false_or, cond_true, cond_false, List.getElem?_toArray, List.getElem?_cons_zero, List.getElem?_cons_succ, Nat.zero_add, Nat.add_zero, Nat.reduceAdd, forall_const]
      refine jn1_dup ?_
      refine rdS_ld (v := s) (fun u hu K hk => by rw [ld1_eq (rd (Bs := []) hu).tape]; simpa using hk) ?_
      have htp : ∃ Cs, Sep w w10 (tp (.pointer (some ⟨gt, 0, none⟩)) { (⟨l, -1, false, true⟩ : Tp) with b := layL (linkT b S) } :: Cs) := by
        have h1 := hs12
        rw [hLL] at h1
        exact ⟨_, Sep.pick h1 [7] 8⟩
      obtain ⟨C6, hC6⟩ := htp
      refine efS_i (cal_i (tpBytes_spec hC6 hbO rfl) ?_)
      rintro bs w13 hs13
      replace hs13 := hs12.join hs13
      refine ⟨hs13.tail, ?_⟩
      refine efS_i (cal_i (tpEqual_spec (Sep.rd hs13) (rd (Bs := [_]) hs13).rs) ?_)
      rintro _ _ ⟨rfl, rfl⟩
      refine ⟨hs13.tail, ?_⟩
      simp only [nilc_some, fad_mk, pik_true, pik_false, cnd_true, cnd_false, gif_same, gif_tf, gif_ft, gif_undef, bi_add, bi_sub, bi_mul, bi_eql, bi_neq, bi_lss, bi_leq, bi_gtr, bi_geq, notB_bool, cvi_int, lenS_mk, lenT_mk, ext0, ext1, ext2, nilP_mk, nilS_mk, fldv_agg, jn0_k, jn1_k, jn2_k, jn1_and, jn1_or, ex_some, Option.isNone_some, Option.isNone_none, Bool.false_bne, Bool.bne_true, Bool.bne_false, Bool.true_bne, Bool.not_true, Bool.not_false, Bool.and_true, Bool.true_and, Bool.and_false, Bool.false_and, Bool.or_true, Bool.true_or, Bool.or_false, Bool.false_or, cond_true, cond_false, List.getElem?_toArray, List.getElem?_cons_zero, List.getElem?_cons_succ, Nat.zero_add, Nat.add_zero, Nat.reduceAdd, forall_const, beq_self_eq_true, L_api_Block (rd4 (Bs := [_]) hs13), L_api_Block__Parent (rd4 (Bs := [_]) hs13), L_api_Block__Height (rd4 (Bs := [_]) hs13), L_api_Block__Data (rd4 (Bs := [_]) hs13)]
      refine cal_i (cOpenNil (b := b) (v := y)) ?_
      rintro _ w14 ⟨rfl, hf14⟩
      have hs14 := hs13.tail.old hf14
      simp only [nilc_some, fad_mk, pik_true, pik_false, cnd_true, cnd_false, gif_same, gif_tf, gif_ft, gif_undef, bi_add, bi_sub, bi_mul, bi_eql, bi_neq, bi_lss, bi_leq, bi_gtr, bi_geq, notB_bool, cvi_int, lenS_mk, lenT_mk, ext0, ext1, ext2, nilP_mk, nilS_mk, fldv_agg, jn0_k, jn1_k, jn2_k, jn1_and, jn1_or, ex_some, Option.isNone_some, Option.isNone_none, Bool.false_bne, Bool.bne_true, Bool.bne_false, Bool.true_bne, Bool.not_true, Bool.not_false, Bool.and_true, Bool.true_and, Bool.and_false, Bool.false_and, Bool.or_true, Bool.true_or, Bool.or_false, Bool.false_or, cond_true, cond_false, List.getElem?_toArray, List.getElem?_cons_zero, List.getElem?_cons_succ, Nat.zero_add, Nat.add_zero, Nat.reduceAdd, forall_const]
      refine drH_S hs14 fun w15 hs15 _ => ?_
      simp only [nilc_some, fad_mk, pik_true, pik_false, cnd_true, cnd_false, gif_same, gif_tf, gif_ft, gif_undef, bi_add, bi_sub, bi_mul, bi_eql, bi_neq, bi_lss, bi_leq, bi_gtr, bi_geq, notB_bool, cvi_int, lenS_mk, lenT_mk, ext0, ext1, ext2, nilP_mk, nilS_mk, fldv_agg, jn0_k, jn1_k, jn2_k, jn1_and, jn1_or, ex_some, Option.isNone_some, Option.isNone_none, Bool.false_bne, Bool.bne_true, Bool.bne_false, Bool.true_bne, Bool.not_true, Bool.not_false, Bool.and_true, Bool.true_and, Bool.and_false, Bool.false_and, Bool.or_true, Bool.true_or, Bool.or_false, Bool.false_or, cond_true, cond_false, List.getElem?_toArray, List.getElem?_cons_zero, List.getElem?_cons_succ, Nat.zero_add, Nat.add_zero, Nat.reduceAdd, forall_const, Option.isNone_none, show ((2 : Int) == 2) = true from rfl]
      refine jn1_dup ?_
      refine rdS_ld (v := .pointer (some ⟨g, 0, none⟩)) (fun u hu K hk => (L_flurrylaw10_world__c (rd (Bs := []) hu).wd K).mpr hk) ?_
      simp only [nilc_some, fad_mk, pik_true, pik_false, cnd_true, cnd_false, gif_same, gif_tf, gif_ft, gif_undef, bi_add, bi_sub, bi_mul, bi_eql, bi_neq, bi_lss, bi_leq, bi_gtr, bi_geq, notB_bool, cvi_int, lenS_mk, lenT_mk, ext0, ext1, ext2, nilP_mk, nilS_mk, fldv_agg, jn0_k, jn1_k, jn2_k, jn1_and, jn1_or, ex_some, Option.isNone_some, Option.isNone_none, Bool.false_bne, Bool.bne_true, Bool.bne_false, Bool.true_bne, Bool.not_true, Bool.not_false, Bool.and_true, Bool.true_and, Bool.and_false, Bool.false_and, Bool.or_true, Bool.true_or, Bool.or_false, Bool.false_or, cond_true, cond_false, List.getElem?_toArray, List.getElem?_cons_zero, List.getElem?_cons_succ, Nat.zero_add, Nat.add_zero, Nat.reduceAdd, forall_const, Option.isNone_some]
      refine jn1_dup ?_
      refine rdS_ld (v := .pointer (some ⟨g, 0, none⟩)) (fun u hu K hk => (L_flurrylaw10_world__c (rd (Bs := []) hu).wd K).mpr hk) ?_
      simp only [nilc_some, fad_mk, pik_true, pik_false, cnd_true, cnd_false, gif_same, gif_tf, gif_ft, gif_undef, bi_add, bi_sub, bi_mul, bi_eql, bi_neq, bi_lss, bi_leq, bi_gtr, bi_geq, notB_bool, cvi_int, lenS_mk, lenT_mk, ext0, ext1, ext2, nilP_mk, nilS_mk, fldv_agg, jn0_k, jn1_k, jn2_k, jn1_and, jn1_or, ex_some, Option.isNone_some, Option.isNone_none, Bool.false_bne, Bool.bne_true, Bool.bne_false, Bool.true_bne, Bool.not_true, Bool.not_false, Bool.and_true, Bool.true_and, Bool.and_false, Bool.false_and, Bool.or_true, Bool.true_or, Bool.or_false, Bool.false_or, cond_true, cond_false, List.getElem?_toArray, List.getElem?_cons_zero, List.getElem?_cons_succ, Nat.zero_add, Nat.add_zero, Nat.reduceAdd, forall_const]
      refine rdS_ld (v := .pointer (some ⟨g2, 0, none⟩)) (fun u hu K hk => (L_flurrylaw10_world__w (rd (Bs := []) hu).wd K).mpr hk) ?_
      have r15 := rd (Bs := []) hs15
      refine efS_i (cal_i (alike10_spec r15.ch r15.mp r15.rc (by rw [hB, hB2]) hgB (by omega) (by omega)) ?_)
      rintro _ w16 ⟨rfl, hf16⟩
      have hs16 := hs15.old hf16
      refine ⟨hs16, ?_⟩
      exact hR _ _ ⟨rfl, hs16.fr0⟩
  | true =>
    simp only [nilc_some, fad_mk, pik_true, pik_false, cnd_true, cnd_false, gif_same, gif_tf, gif_ft, gif_undef, bi_add, bi_sub, bi_mul, bi_eql, bi_neq, bi_lss, bi_leq, bi_gtr, bi_geq, notB_bool, cvi_int, lenS_mk, lenT_mk, ext0, ext1, ext2, nilP_mk, nilS_mk, fldv_agg, jn0_k, jn1_k, jn2_k, jn1_and, jn1_or, ex_some, Option.isNone_some, Option.isNone_none, Bool.false_bne, Bool.bne_true, Bool.bne_false, Bool.true_bne, Bool.not_true, Bool.not_false, Bool.and_true, Bool.true_and, Bool.and_false, Bool.false_and, Bool.or_true, Bool.true_or, Bool.or_false, Bool.false_or, cond_true, cond_false, List.getElem?_toArray, List.getElem?_cons_zero, List.getElem?_cons_succ, Nat.zero_add, Nat.add_zero, Nat.reduceAdd, forall_const]
    refine jn1_dup ?_
    refine cal_i (tpCrash_spec (Sep.pick hs5 [2, 1, 0] 3)) ?_
    rintro _ w6 ⟨rfl, hs6⟩
    have e1 : (⟨l, -1, false, true⟩ : Tp).crash = (⟨l, -1, true, true⟩, 0) := rfl
    rw [e1] at hs6 ⊢
    simp only [nilc_some, fad_mk, pik_true, pik_false, cnd_true, cnd_false, gif_same, gif_tf, gif_ft, gif_undef, bi_add, bi_sub, bi_mul, bi_eql, bi_neq, bi_lss, bi_leq, bi_gtr, bi_geq, notB_bool, cvi_int, lenS_mk, lenT_mk, ext0, ext1, ext2, nilP_mk, nilS_mk, fldv_agg, jn0_k, jn1_k, jn2_k, jn1_and, jn1_or, ex_some, Option.isNone_some, Option.isNone_none, Bool.false_bne, Bool.bne_true, Bool.bne_false, Bool.true_bne, Bool.not_true, Bool.not_false, Bool.and_true, Bool.true_and, Bool.and_false, Bool.false_and, Bool.or_true, Bool.true_or, Bool.or_false, Bool.false_or, cond_true, cond_false, List.getElem?_toArray, List.getElem?_cons_zero, List.getElem?_cons_succ, Nat.zero_add, Nat.add_zero, Nat.reduceAdd, forall_const, show ((0 : Int) != 0) = false from rfl]
    refine jn1_dup ?_
    refine cal_i (rCrash_spec (Sep.pick hs6 [1, 0, 2] 3)) ?_
    rintro _ w7 ⟨rfl, hs7⟩
    rw [e1] at hs7 ⊢
    simp only [nilc_some, fad_mk, pik_true, pik_false, cnd_true, cnd_false, gif_same, gif_tf, gif_ft, gif_undef, bi_add, bi_sub, bi_mul, bi_eql, bi_neq, bi_lss, bi_leq, bi_gtr, bi_geq, notB_bool, cvi_int, lenS_mk, lenT_mk, ext0, ext1, ext2, nilP_mk, nilS_mk, fldv_agg, jn0_k, jn1_k, jn2_k, jn1_and, jn1_or, ex_some, Option.isNone_some, Option.isNone_none, Bool.false_bne, Bool.bne_true, Bool.bne_false, Bool.true_bne, Bool.not_true, Bool.not_false, Bool.and_true, Bool.true_and, Bool.and_false, Bool.false_and, Bool.or_true, Bool.true_or, Bool.or_false, Bool.false_or, cond_true, cond_false, List.getElem?_toArray, List.getElem?_cons_zero, List.getElem?_cons_succ, Nat.zero_add, Nat.add_zero, Nat.reduceAdd, forall_const, show ((0 : Int) != 0) = false from rfl]
    have hxA := hx1
    have hsA := Sep.pick hs7 [1, 0, 2] 3
    -- tp 0 · rt 1 · gw 2 · g4 3
    refine drH_S hsA fun w9 hs9 _ => ?_
    refine ⟨bq b y, fun u hu => (L_api_Block (Sep.blk (Sep.pick hu [3] 4)) _).mpr rfl, ?_⟩
    refine efC_cut (cal_i (opens_spec (b := b) (v := y) hs9 hxA hC (fun z hz => hz.rdB hb2) hbh) ?_)
    rintro _ w10 ⟨rfl, ⟨hbad, hs10⟩ | ⟨hbad, g, gi, gm, lv, iv, B, g2, lv2, B2, S, E, hS, hB, hB2, hD, hD2, hs10⟩⟩
    · have hs11 := Sep.pick hs10 [1, 0, 2] 3
      have h2 := rt_open.mp hs11
      obtain ⟨gu', s, ⟨he, _⟩, hs12⟩ := h2
      cases he
      -- gu 0 · s 1 · tp 2 · gw 3 · g4 4
      refine ⟨fun u => Sep w u [blk gu #[s, .bool (⟨l, -1, true, true⟩ : Tp).off, .int .i64 (⟨l, -1, true, true⟩ : Tp).armed] T_flurryref08_Tape, ownB s (⟨l, -1, true, true⟩ : Tp).b, tp (.pointer (some ⟨gt, 0, none⟩)) (⟨l, -1, true, true⟩ : Tp), wA gw (.pointer (some ⟨gt, 0, none⟩)) (.pointer none) (.pointer (some ⟨gu, 0, none⟩)) (.pointer none), blk g4 (Rdr.cells Q_api_Block (b.p, b.h, y)).toArray T_api_Block], hs12, ?_⟩
      simp only [nilc_some, fad_mk, pik_true, pik_false, cnd_true, cnd_false, gif_same, gif_tf, gif_ft, gif_undef, bi_add, bi_sub, bi_mul, bi_eql, bi_neq, bi_lss, bi_leq, bi_gtr, bi_geq, notB_bool, cvi_int, lenS_mk, lenT_mk, ext0, ext1, ext2, nilP_mk, nilS_mk, fldv_agg, jn0_k, jn1_k, jn2_k, jn1_and, jn1_or, ex_some, Option.isNone_some, Option.isNone_none, Bool.false_bne, Bool.bne_true, Bool.bne_false, Bool.true_bne, Bool.not_true, Bool.not_false, Bool.and_true, Bool.true_and, Bool.and_false, Bool.false_and, Bool.or_true, Bool.true_or, Bool.or_false, Bool.false_or, cond_true, cond_false, List.getElem?_toArray, List.getElem?_cons_zero, List.getElem?_cons_succ, Nat.zero_add, Nat.add_zero, Nat.reduceAdd, forall_const]
      refine jn1_dup ?_
      refine rdS_ld (v := s) (fun u hu K hk => by rw [ld1_eq (Sep.blk hu)]; simpa using hk) ?_
      refine efS_i (cal_i (tpBytes_spec (Sep.pick hs12 [2] 3) hxA rfl) ?_)
      rintro bs w13 hs13
      replace hs13 := hs12.join hs13
      refine ⟨hs13.tail, ?_⟩
      refine efS_i (cal_i (tpEqual_spec (Sep.rd hs13) (Sep.rd hs13.p2)) ?_)
      rintro _ _ ⟨rfl, rfl⟩
      refine ⟨hs13.tail, ?_⟩
      simp only [nilc_some, fad_mk, pik_true, pik_false, cnd_true, cnd_false, gif_same, gif_tf, gif_ft, gif_undef, bi_add, bi_sub, bi_mul, bi_eql, bi_neq, bi_lss, bi_leq, bi_gtr, bi_geq, notB_bool, cvi_int, lenS_mk, lenT_mk, ext0, ext1, ext2, nilP_mk, nilS_mk, fldv_agg, jn0_k, jn1_k, jn2_k, jn1_and, jn1_or, ex_some, Option.isNone_some, Option.isNone_none, Bool.false_bne, Bool.bne_true, Bool.bne_false, Bool.true_bne, Bool.not_true, Bool.not_false, Bool.and_true, Bool.true_and, Bool.and_false, Bool.false_and, Bool.or_true, Bool.true_or, Bool.or_false, Bool.false_or, cond_true, cond_false, List.getElem?_toArray, List.getElem?_cons_zero, List.getElem?_cons_succ, Nat.zero_add, Nat.add_zero, Nat.reduceAdd, forall_const, beq_self_eq_true, L_api_Block (Sep.blk (Sep.pick hs13 [5] 6)), L_api_Block__Parent (Sep.blk (Sep.pick hs13 [5] 6)), L_api_Block__Height (Sep.blk (Sep.pick hs13 [5] 6)), L_api_Block__Data (Sep.blk (Sep.pick hs13 [5] 6))]
      refine cal_i (cOpenNil (b := b) (v := y)) ?_
      rintro _ w14 ⟨rfl, hf14⟩
      have hs14 := hs13.old hf14
      simp only [nilc_some, fad_mk, pik_true, pik_false, cnd_true, cnd_false, gif_same, gif_tf, gif_ft, gif_undef, bi_add, bi_sub, bi_mul, bi_eql, bi_neq, bi_lss, bi_leq, bi_gtr, bi_geq, notB_bool, cvi_int, lenS_mk, lenT_mk, ext0, ext1, ext2, nilP_mk, nilS_mk, fldv_agg, jn0_k, jn1_k, jn2_k, jn1_and, jn1_or, ex_some, Option.isNone_some, Option.isNone_none, Bool.false_bne, Bool.bne_true, Bool.bne_false, Bool.true_bne, Bool.not_true, Bool.not_false, Bool.and_true, Bool.true_and, Bool.and_false, Bool.false_and, Bool.or_true, Bool.true_or, Bool.or_false, Bool.false_or, cond_true, cond_false, List.getElem?_toArray, List.getElem?_cons_zero, List.getElem?_cons_succ, Nat.zero_add, Nat.add_zero, Nat.reduceAdd, forall_const]
      refine drH_S hs14 fun w15 hs15 _ => ?_
      simp only [nilc_some, fad_mk, pik_true, pik_false, cnd_true, cnd_false, gif_same, gif_tf, gif_ft, gif_undef, bi_add, bi_sub, bi_mul, bi_eql, bi_neq, bi_lss, bi_leq, bi_gtr, bi_geq, notB_bool, cvi_int, lenS_mk, lenT_mk, ext0, ext1, ext2, nilP_mk, nilS_mk, fldv_agg, jn0_k, jn1_k, jn2_k, jn1_and, jn1_or, ex_some, Option.isNone_some, Option.isNone_none, Bool.false_bne, Bool.bne_true, Bool.bne_false, Bool.true_bne, Bool.not_true, Bool.not_false, Bool.and_true, Bool.true_and, Bool.and_false, Bool.false_and, Bool.or_true, Bool.true_or, Bool.or_false, Bool.false_or, cond_true, cond_false, List.getElem?_toArray, List.getElem?_cons_zero, List.getElem?_cons_succ, Nat.zero_add, Nat.add_zero, Nat.reduceAdd, forall_const, Option.isNone_none, show ((2 : Int) == 2) = true from rfl]
      refine jn1_dup ?_
      refine rdS_ld (v := .pointer none) (fun u hu K hk => (L_flurrylaw10_world__c (Sep.blk (Sep.pick hu [4] 5)) K).mpr hk) ?_
      simp only [nilc_some, fad_mk, pik_true, pik_false, cnd_true, cnd_false, gif_same, gif_tf, gif_ft, gif_undef, bi_add, bi_sub, bi_mul, bi_eql, bi_neq, bi_lss, bi_leq, bi_gtr, bi_geq, notB_bool, cvi_int, lenS_mk, lenT_mk, ext0, ext1, ext2, nilP_mk, nilS_mk, fldv_agg, jn0_k, jn1_k, jn2_k, jn1_and, jn1_or, ex_some, Option.isNone_some, Option.isNone_none, Bool.false_bne, Bool.bne_true, Bool.bne_false, Bool.true_bne, Bool.not_true, Bool.not_false, Bool.and_true, Bool.true_and, Bool.and_false, Bool.false_and, Bool.or_true, Bool.true_or, Bool.or_false, Bool.false_or, cond_true, cond_false, List.getElem?_toArray, List.getElem?_cons_zero, List.getElem?_cons_succ, Nat.zero_add, Nat.add_zero, Nat.reduceAdd, forall_const, Option.isNone_none]
      exact hR _ _ ⟨rfl, hs15.fr0⟩
    · obtain ⟨s, hm, hs12⟩ := wl_open (Q := [blk g4 (Rdr.cells Q_api_Block (b.p, b.h, y)).toArray T_api_Block] ++ E) hs10
      obtain ⟨LL, hLL⟩ : ∃ LL, LL = WL gu s { (⟨l, -1, true, true⟩ : Tp) with b := layL (linkT b S) } g gi gm lv iv (.pointer (some ⟨gt, 0, none⟩)) false B g2 lv2 (.pointer (some ⟨gu, 0, none⟩)) B2 gw ([blk g4 (Rdr.cells Q_api_Block (b.p, b.h, y)).toArray T_api_Block] ++ E) := ⟨_, rfl⟩
      replace hs12 : Sep w w10 LL := by rw [hLL]; exact hs12
      have rd : ∀ {u : World} {Bs : List Asn}, Sep w u (Bs ++ LL) → WlR u.heap gu s { (⟨l, -1, true, true⟩ : Tp) with b := layL (linkT b S) } g gi gm lv iv (.pointer (some ⟨gt, 0, none⟩)) false B g2 lv2 (.pointer (some ⟨gu, 0, none⟩)) B2 gw := fun {u Bs} hu => by
        have h1 := hu.dropL
        rw [hLL] at h1
        exact wl_rd h1 (hD.sub fun A hA => List.mem_append_right _ hA) (hD2.sub fun A hA => List.mem_append_right _ hA)
      have rd4 : ∀ {u : World} {Bs : List Asn}, Sep w u (Bs ++ LL) → u.heap[g4]? = some (.cells (Rdr.cells Q_api_Block (b.p, b.h, y)).toArray T_api_Block (0, 0)) := fun {u Bs} hu => by
        have h1 := hu.dropL
        rw [hLL] at h1
        exact Sep.blk (Sep.pick h1 [11] 12)
      have hbO : ({ (⟨l, -1, true, true⟩ : Tp) with b := layL (linkT b S) } : Tp).Ok := by
        obtain ⟨t, ht⟩ := linkT_pre b S
        have h1 := hS.len
        have h2 : layL S = layL (linkT b S) ++ layL t := by rw [← layL_append, ← ht]
        have h3 := congrArg List.length h2
        rw [List.length_append] at h3
        have h4 : (layL S).length ≤ l.length := h1
        exact ⟨by simp only; omega, by simp, by simp⟩
      have hnb : b.chk = 0 ∧ b.h = 0 := by
        refine ⟨?_, ?_⟩
        · by_cases h : b.chk = 0
          · exact h
          · exact absurd (.inr (.inl h)) hbad
        · by_cases h : b.h = 0
          · exact h
          · exact absurd (.inr (.inr h)) hbad
      have hgB : goodB (blks B) := by
        rw [hB]
        intro c hc
        rcases List.mem_cons.1 hc with rfl | hc
        · exact ⟨hnb.1, by rw [hnb.2]; decide⟩
        · obtain ⟨t, ht⟩ := linkT_pre b S
          exact hS.1 c (by rw [ht]; exact List.mem_append_left _ hc)
      have hBl : B.length = (linkT b S).length + 1 := by
        have := congrArg List.length hB
        simpa using this
      have hSl : (linkT b S).length ≤ 5000 := by
        obtain ⟨t, ht⟩ := linkT_pre b S
        have h1 := hS.len
        have h2 := layL_ge S
        have h3 := congrArg List.length ht
        rw [List.length_append] at h3
        have h4 : (layL S).length ≤ l.length := h1
        omega
      refine ⟨fun u => Sep w u LL, hs12, ?_⟩
      simp only [nilc_some, fad_mk, pik_true, pik_false, cnd_true, cnd_false, gif_same, gif_tf, gif_ft, gif_undef, bi_add, bi_sub, bi_mul, bi_eql, bi_neq, bi_lss, bi_leq, bi_gtr, bi_geq, notB_bool, cvi_int, lenS_mk, lenT_mk, ext0, ext1, ext2, nilP_mk, nilS_mk, fldv_agg, jn0_k, jn1_k, jn2_k, jn1_and, jn1_or, ex_some, Option.isNone_some, Option.isNone_none, Bool.false_bne, Bool.bne_true, Bool.bne_false, Bool.true_bne, Bool.not_true, Bool.not_false, Bool.and_true, Bool.true_and, Bool.and_false, Bool.false_and, Bool.or_true, Bool.true_or, Bool.or_false, Bool.false_or, cond_true, cond_false, List.getElem?_toArray, List.getElem?_cons_zero, List.getElem?_cons_succ, Nat.zero_add, Nat.add_zero, Nat.reduceAdd, forall_const]
      refine jn1_dup ?_
      refine rdS_ld (v := s) (fun u hu K hk => by rw [ld1_eq (rd (Bs := []) hu).tape]; simpa using hk) ?_
      have htp : ∃ Cs, Sep w w10 (tp (.pointer (some ⟨gt, 0, none⟩)) { (⟨l, -1, true, true⟩ : Tp) with b := layL (linkT b S) } :: Cs) := by
        have h1 := hs12
        rw [hLL] at h1
        exact ⟨_, Sep.pick h1 [7] 8⟩
      obtain ⟨C6, hC6⟩ := htp
      refine efS_i (cal_i (tpBytes_spec hC6 hbO rfl) ?_)
      rintro bs w13 hs13
      replace hs13 := hs12.join hs13
      refine ⟨hs13.tail, ?_⟩
      refine efS_i (cal_i (tpEqual_spec (Sep.rd hs13) (rd (Bs := [_]) hs13).rs) ?_)
      rintro _ _ ⟨rfl, rfl⟩
      refine ⟨hs13.tail, ?_⟩
      simp only [nilc_some, fad_mk, pik_true, pik_false, cnd_true, cnd_false, gif_same, gif_tf, gif_ft, gif_undef, bi_add, bi_sub, bi_mul, bi_eql, bi_neq, bi_lss, bi_leq, bi_gtr, bi_geq, notB_bool, cvi_int, lenS_mk, lenT_mk, ext0, ext1, ext2, nilP_mk, nilS_mk, fldv_agg, jn0_k, jn1_k, jn2_k, jn1_and, jn1_or, ex_some, Option.isNone_some, Option.isNone_none, Bool.false_bne, Bool.bne_true, Bool.bne_false, Bool.true_bne, Bool.not_true, Bool.not_false, Bool.and_true, Bool.true_and, Bool.and_false, Bool.false_and, Bool.or_true, Bool.true_or, Bool.or_false, Bool.false_or, cond_true, cond_false, List.getElem?_toArray, List.getElem?_cons_zero, List.getElem?_cons_succ, Nat.zero_add, Nat.add_zero, Nat.reduceAdd, forall_const, beq_self_eq_true, L_api_Block (rd4 (Bs := [_]) hs13), L_api_Block__Parent (rd4 (Bs := [_]) hs13), L_api_Block__Height (rd4 (Bs := [_]) hs13), L_api_Block__Data (rd4 (Bs := [_]) hs13)]
      refine cal_i (cOpenNil (b := b) (v := y)) ?_
      rintro _ w14 ⟨rfl, hf14⟩
      have hs14 := hs13.tail.old hf14
      simp only [nilc_some, fad_mk, pik_true, pik_false, cnd_true, cnd_false, gif_same, gif_tf, gif_ft, gif_undef, bi_add, bi_sub, bi_mul, bi_eql, bi_neq, bi_lss, bi_leq, bi_gtr, bi_geq, notB_bool, cvi_int, lenS_mk, lenT_mk, ext0, ext1, ext2, nilP_mk, nilS_mk, fldv_agg, jn0_k, jn1_k, jn2_k, jn1_and, jn1_or, ex_some, Option.isNone_some, Option.isNone_none, Bool.false_bne, Bool.bne_true, Bool.bne_false, Bool.true_bne, Bool.not_true, Bool.not_false, Bool.and_true, Bool.true_and, Bool.and_false, Bool.false_and, Bool.or_true, Bool.true_or, Bool.or_false, Bool.false_or, cond_true, cond_false, List.getElem?_toArray, List.getElem?_cons_zero, List.getElem?_cons_succ, Nat.zero_add, Nat.add_zero, Nat.reduceAdd, forall_const]
      refine drH_S hs14 fun w15 hs15 _ => ?_
      simp only [nilc_some, fad_mk, pik_true, pik_false, cnd_true, cnd_false, gif_same, gif_tf, gif_ft, gif_undef, bi_add, bi_sub, bi_mul, bi_eql, bi_neq, bi_lss, bi_leq, bi_gtr, bi_geq, notB_bool, cvi_int, lenS_mk, lenT_mk, ext0, ext1, ext2, nilP_mk, nilS_mk, fldv_agg, jn0_k, jn1_k, jn2_k, jn1_and, jn1_or, ex_some, Option.isNone_some, Option.isNone_none, Bool.false_bne, Bool.bne_true, Bool.bne_false, Bool.true_bne, Bool.not_true, Bool.not_false, Bool.and_true, Bool.true_and, Bool.and_false, Bool.false_and, Bool.or_true, Bool.true_or, Bool.or_false, Bool.false_or, cond_true, cond_false, List.getElem?_toArray, List.getElem?_cons_zero, List.getElem?_cons_succ, Nat.zero_add, Nat.add_zero, Nat.reduceAdd, forall_const, Option.isNone_none, show ((2 : Int) == 2) = true from rfl]
      refine jn1_dup ?_
      refine rdS_ld (v := .pointer (some ⟨g, 0, none⟩)) (fun u hu K hk => (L_flurrylaw10_world__c (rd (Bs := []) hu).wd K).mpr hk) ?_
      simp only [nilc_some, fad_mk, pik_true, pik_false, cnd_true, cnd_false, gif_same, gif_tf, gif_ft, gif_undef, bi_add, bi_sub, bi_mul, bi_eql, bi_neq, bi_lss, bi_leq, bi_gtr, bi_geq, notB_bool, cvi_int, lenS_mk, lenT_mk, ext0, ext1, ext2, nilP_mk, nilS_mk, fldv_agg, jn0_k, jn1_k, jn2_k, jn1_and, jn1_or, ex_some, Option.isNone_some, Option.isNone_none, Bool.false_bne, Bool.bne_true, Bool.bne_false, Bool.true_bne, Bool.not_true, Bool.not_false, Bool.and_true, Bool.true_and, Bool.and_false, Bool.false_and, Bool.or_true, Bool.true_or, Bool.or_false, Bool.false_or, cond_true, cond_false, List.getElem?_toArray, List.getElem?_cons_zero, List.getElem?_cons_succ, Nat.zero_add, Nat.add_zero, Nat.reduceAdd, forall_const, Option.isNone_some]
      refine jn1_dup ?_
      refine rdS_ld (v := .pointer (some ⟨g, 0, none⟩)) (fun u hu K hk => (L_flurrylaw10_world__c (rd (Bs := []) hu).wd K).mpr hk) ?_
      simp only [nilc_some, fad_mk, pik_true, pik_false, cnd_true, cnd_false, gif_same, gif_tf, gif_ft, gif_undef, bi_add, bi_sub, bi_mul, bi_eql, bi_neq, bi_lss, bi_leq, bi_gtr, bi_geq, notB_bool, cvi_int, lenS_mk, lenT_mk, ext0, ext1, ext2, nilP_mk, nilS_mk, fldv_agg, jn0_k, jn1_k, jn2_k, jn1_and, jn1_or, ex_some, Option.isNone_some, Option.isNone_none, Bool.false_bne, Bool.bne_true, Bool.bne_false, Bool.true_bne, Bool.not_true, Bool.not_false, Bool.and_true, Bool.true_and, Bool.and_false, Bool.false_and, Bool.or_true, Bool.true_or, Bool.or_false, Bool.false_or, cond_true, cond_false, List.getElem?_toArray, List.getElem?_cons_zero, List.getElem?_cons_succ, Nat.zero_add, Nat.add_zero, Nat.reduceAdd, forall_const]
      refine rdS_ld (v := .pointer (some ⟨g2, 0, none⟩)) (fun u hu K hk => (L_flurrylaw10_world__w (rd (Bs := []) hu).wd K).mpr hk) ?_
      have r15 := rd (Bs := []) hs15
      refine efS_i (cal_i (alike10_spec r15.ch r15.mp r15.rc (by rw [hB, hB2]) hgB (by omega) (by omega)) ?_)
      rintro _ w16 ⟨rfl, hf16⟩
      have hs16 := hs15.old hf16
      refine ⟨hs16, ?_⟩
      exact hR _ _ ⟨rfl, hs16.fr0⟩
theorem lChainOpens {s1 : Sl UInt8} {x : Vec 32 × Int × Sl UInt8} {off : Bool} (hc : Cub w) (hs1 : rBytes.ok w.heap s1) (hx : Rdr.ok R_api_Block w.heap x) : cal P f_law10_ChainOpens [s1.v, .agg (Rdr.cells R_api_Block x).toArray, .bool off] w fun r w' => r = .bool true ∧ Fr [] w w' :=
  wChainOpens (b := ab x) hs1.1 (ab_rd hx) (ab_h hx) hc
end
end Go.Fx
namespace Go.Fx
end Go.Fx
namespace Go.Proofs.YtcnpediagjjnbaaGreatDoor
open Go.ChangeShapes Go.WideShapes Go.ChangeAt Go.RowKit
theorem own : ownKnob Tryz.prog.godebug = none := by kernel_rfl
theorem laidOut : laidOutB Tryz.prog = true := by kernel_rfl
end Go.Proofs.YtcnpediagjjnbaaGreatDoor
namespace Go.Proofs.YtcnpediagjjnbaaGreatDoor
open Go.ChangeShapes Go.WideShapes Go.ChangeAt Go.RowKit
abbrev laidL : List (String × DataW Unit) := [("flurry/sha.cubes", Rows.laid_flurry_sha_cubes)]
theorem gCubes : Tryz.prog.globalNamed "flurry/sha.cubes" = some 0 := by kernel_rfl
theorem tCubes : (Tryz.prog.globals[0]?).map (·.type) = some Go.Fx.T_a64_uint32 := by kernel_rfl
theorem door_met (os : Os) (args : Array Value) : laidMetH Tryz.prog laidL ((World.doorLaid Tryz.prog 400 os).forCall (fun _ _ => 0) ⟨#[], args, []⟩).memory :=
  laidMetH_of_parts3 (fuel := 8) (laidMet_of_run' 8 (by kernel_rfl) (by kernel_rfl)) (by kernel_rfl) (by kernel_rfl)
theorem cub_of_laid {W : World} (h : laidMetH Tryz.prog laidL W) : Go.Fx.Cub W := by
  rw [MakeChecks.laidMetH_plain _ _ _ (by kernel_rfl)] at h
  obtain ⟨ps, ⟨g0, t0, cs0, f0, p0, q0, hg0, ht0, hv0, hd0, _, _⟩, _, _⟩ := h
  obtain rfl := Option.some.inj (gCubes.symm.trans hg0)
  obtain rfl := Option.some.inj (tCubes.symm.trans ht0)
  have hcs : cs0.toList = Go.Fx.wvs Go.Fx.cubesL := by
    obtain ⟨xs, m1, _, hx1, hlen, hn3, hel⟩ := DataW.trod_array Go.Fx.U_a64_uint32 hd0
    have c1 : Tryz.prog.cellsOf Go.Fx.T_uint32 = 1 := by kernel_rfl
    have c64 : Tryz.prog.cellsOf Go.Fx.T_a64_uint32 = 64 := by kernel_rfl
    rw [c64] at hlen
    rw [c1] at hel
    have hd : (Rows.laid_flurry_sha_cubes : DataW Unit) = .agg (Go.Fx.cubesL.map fun x => .lit (.int .u32 x.toNat)) := by kernel_rfl
    rw [hd] at hx1
    simp only [Prod.mk.injEq, DataW.agg.injEq] at hx1
    apply List.ext_getElem?
    intro i
    by_cases hi : i < 64
    · have h1 := hel i hi
      have hx : xs[i]? = some (xs[i]'(by omega)) := List.getElem?_eq_getElem _
      rw [hx] at h1
      generalize xs[i]'(by omega) = y at *
      obtain ⟨k, e1, e2, _⟩ := DataW.trod_int Go.Fx.U_uint32 h1
      have h2 := congrArg (·[i]?) hx1.1
      simp only [List.getElem?_map, hx, e2, Option.map_some] at h2
      have h3 : cs0.toList[i]? = some (.int .u32 k) := by
        have : ((cs0.toList.drop (i * 1)).take 1)[0]? = some (.int .u32 k) := by rw [e1]; rfl
        rw [List.getElem?_take_of_lt (by omega), List.getElem?_drop, Nat.mul_one, Nat.add_zero] at this
        exact this
      rw [h3, Go.Fx.wvs, List.getElem?_map]
      cases hc : Go.Fx.cubesL[i]? with
      | none => rw [hc] at h2; cases h2
      | some z =>
        rw [hc] at h2
        simp only [Option.map_some, Option.some.injEq, DataW.lit.injEq, Lit.int.injEq, true_and] at h2
        rw [Option.map_some, ← h2]
        rfl
    · rw [List.getElem?_eq_none (by omega), List.getElem?_eq_none (by rw [Go.Fx.wvs, List.length_map]; show 64 ≤ i; omega)]
  have hv1 := hv0
  unfold World.var? at hv1
  rw [hg0] at hv1
  simp only [Option.bind_some] at hv1
  cases hh : W.heap[0]? with
  | none => rw [hh] at hv1; cases hv1
  | some o =>
    rw [hh] at hv1
    cases o with
    | cells cs t fr =>
      simp only [Option.some.injEq] at hv1
      subst hv1
      refine ⟨t, fr, ?_⟩
      rw [hh]
      have : cs = (Go.Fx.wvs Go.Fx.cubesL).toArray := by apply Array.ext'; simpa using hcs
      rw [this]
    | _ => cases hv1
end Go.Proofs.YtcnpediagjjnbaaGreatDoor
set_option linter.unusedVariables false
set_option linter.unusedSimpArgs false
namespace Go.Proofs.YtcnpediagjjnbaaGreatDoor
open Go.ChangeShapes Go.WideShapes Go.ChangeAt Go.RowKit
set_option maxRecDepth 100000 in
theorem liftedChainOpens (os : Os) (started : os.Started) (H : Type) (enc : TypeId × Value → H) :
    ReturnsInHanded {} Tryz.checked os 4 .any (fun w args => (Rows.chainOpensSpec.pre enc Tryz.prog Tryz.f4 [] false w args ∧ laidMetH Tryz.prog laidL w) ∧ sizedMet enc Tryz.prog Tryz.f4 (OpenSpec.ofChange Rows.chainOpensSpec) false w args) (Rows.chainOpensSpec.post enc Tryz.prog Tryz.f4 false true false false) := by
  refine returnsInHanded_of_change_and (C := Tryz.checked) (X := fun w _ => laidMetH Tryz.prog laidL w) (fun _ _ _ hh h => h.of_heap hh) own started (by kernel_rfl) Tryz.func4
    (ChangeSpec.witness_shaped (enc := enc) (C := Tryz.checked) (os := os) (X := fun w _ => laidMetH Tryz.prog laidL w) false (World.doorLaid Tryz.prog 400 os) #[.slice none 0 0, ((Value.agg ((List.replicate 32 (Value.int IntKind.u8 0) ++ [(Value.int IntKind.i64 0)] ++ [(Value.slice none 0 0)] : List Value).toArray))), .bool false] 8 rfl (World.shaped_of_RefB (by kernel_rfl) (by kernel_rfl)) (by kernel_rfl) (by kernel_rfl) (by kernel_rfl) (door_met os _)) ?_
  intro W base args ds gs before hval0 hW _ _ hL _
  have hcub : Go.Fx.Cub W := cub_of_laid hL
  have hval : ∀ (j : Nat) t v, Tryz.f4.params[j]? = some t → args[j]? = some v → Value.okWide Tryz.prog W .any base t v := hval0
  have hW' := hW
  obtain ⟨p, q, hA0, hV, rfl, hfz, hnd⟩ := hW
  have hA : DataW.TrodAll enc Tryz.prog W 0 (fun _ => true) true Tryz.f4.params.toList args.toList ds p := hA0
  rw [Tryz.params4] at hA hval
  obtain ⟨v0, vs0, d0, ds0, p0, q0, hargs, rfl, rfl, h0, r0⟩ := trodAll_cons hA
  obtain ⟨v1, vs1, d1, ds1, p1, q1, rfl, rfl, rfl, h1, r1⟩ := trodAll_cons r0
  obtain ⟨v2, vs2, d2, ds2, p2, q2, rfl, rfl, rfl, h2, r2⟩ := trodAll_cons r1
  obtain ⟨rfl, rfl, rfl⟩ := trodAll_nil r2
  obtain rfl : args = #[v0, v1, v2] := by cases args; simp_all
  obtain ⟨rfl, rfl⟩ := trodVars_none hV
  obtain ⟨a0, len0, cap0, rfl⟩ := okWide_slice Tryz.underlying22 (hval 0 22 v0 rfl rfl)
  have k0 := h0
  have lt0 : ∀ x ∈ p0, x.block < W.heap.size := by obtain ⟨m, hm⟩ := k0; exact DataW.trod_lt m _ _ _ hm
  obtain ⟨f0, hf0⟩ := h0
  have hx0 := Go.Fx.O_sl_uint8 hf0
  obtain ⟨l0, rd0⟩ := hx0
  obtain ⟨cs1, rfl, sz1⟩ := okWide_struct Tryz.underlying34 (hval 1 34 v1 rfl rfl)
  have k1 := h1
  have lt1 : ∀ x ∈ p1, x.block < W.heap.size := by obtain ⟨m, hm⟩ := k1; exact DataW.trod_lt m _ _ _ hm
  obtain ⟨f1, hf1⟩ := h1
  have hx1 := Go.Fx.O_api_Block hf1
  obtain ⟨x1, rfl, rd1⟩ := hx1
  obtain ⟨a2, rfl, rfl, rfl⟩ := open_bool Tryz.underlying4 (hval 2 4 v2 rfl rfl) h2
  clear hA0 hval0
  have hcal := Go.Fx.lChainOpens (off := a2) hcub rd0 rd1
  refine Calls.mono hcal fun e W' ⟨v, he, hv, hf⟩ => ?_
  subst hv
  subst he
  have bel : Below W.heap.size W W' := hf.below (by simp)
  exact ⟨_, rfl, _, _, _, [], _, [], hW', trodAll_mk1 (shut_bool Tryz.underlying4 _), (trodAll_cons_mk (Below.trod laidOut (by kernel_rfl) (of_decide_eq_true (by kernel_rfl)) k0 bel lt0) (trodAll_cons_mk (Below.trod laidOut (by kernel_rfl) (of_decide_eq_true (by kernel_rfl)) k1 bel lt1) (trodAll_cons_mk (shut_bool Tryz.underlying4 _) trodAll_mk0))), rfl, bel.frame _, fun h => by cases h⟩
theorem chainOpens : Rows.ChainOpensSaid :=
  OpenClaim.holds_of_wide 4 Tryz.f4 rfl rfl rfl rfl rfl rfl rfl ⟨rfl, rfl, rfl, rfl, rfl⟩ rfl rfl rfl rfl rfl (by kernel_rfl) Tryz.func4 (by kernel_rfl)
    (of_decide_eq_true (by kernel_rfl)) (by unfold Func.isWrapper; first | (rw [if_pos (by decide +kernel)]; kernel_rfl) | (rw [if_neg (by decide +kernel)]; exact ⟨rfl, rfl⟩))
    (fun os started H enc _ => liftedChainOpens os started H enc)
theorem chainOpensCard : Rows.ChainOpensCardSaid :=
  Claim7.holds_tied_plain_at .later [] [.data] true (true, "968bb6806a38c5bec8b2e1b5c5b5ba17cc1d9afb0edfa42e79377c2591f7979e") false
    chainOpens (fun _ h => by cases h) (by kernel_rfl) (fun _ h => by cases h) chainOpens_row_tie rfl ⟨rfl, rfl⟩ (by kernel_rfl) rfl
    (fun f fn hf hfn => by
      obtain rfl : f = 4 := Option.some.inj ((show Tryz.prog.funcNamed "flurry/flurrylaw10.ChainOpens" = some 4 by kernel_rfl).symm.trans hf) |>.symm
      obtain rfl : fn = Tryz.f4 := (Option.some.inj (Tryz.func4.symm.trans hfn)).symm
      exact ⟨by kernel_rfl, fun j t ht => by
        rw [Tryz.params4] at ht
        have hm : t ∈ [22, 34, 4] := by simpa using Array.mem_of_getElem? ht
        have hall : ([22, 34, 4].all fun u => !Tryz.prog.wantsStandIn u) = true := by kernel_rfl
        exact (show Tryz.prog.wantsStandIn t = false by simpa using List.all_eq_true.1 hall t hm)⟩)
    (by kernel_rfl)
#print axioms chainOpensCard
end Go.Proofs.YtcnpediagjjnbaaGreatDoor
