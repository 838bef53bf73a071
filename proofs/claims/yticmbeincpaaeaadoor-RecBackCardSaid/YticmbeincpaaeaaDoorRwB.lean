/-
  slices.Concat of any slices of bytes; RecBack, walked.
-/
import Derived.Test.YticmbeincpaaeaaDoorRwO
set_option linter.unusedVariables false
set_option linter.unusedSimpArgs false
namespace Go.Fx
def catL (S : List (Sl UInt8)) : List UInt8 := S.flatMap (·.l)
theorem catL_take {S : List (Sl UInt8)} {i : Nat} {s : Sl UInt8} (h : S[i]? = some s) : catL (S.take (i + 1)) = catL (S.take i) ++ s.l := by unfold catL; rw [List.take_add_one, h]; simp
theorem catL_le (S : List (Sl UInt8)) (i : Nat) : (catL (S.take i)).length ≤ (catL S).length := by
  have e : catL S = catL (S.take i) ++ catL (S.drop i) := by unfold catL; rw [← List.flatMap_append, List.take_append_drop]
  rw [e, List.length_append]
  omega
theorem ConcatN_spec {w : World} {v : Value} {S : List (Sl UInt8)} (hr : Rows' qv w.heap v (S.map (·.v))) (hb : ∀ s ∈ S, RdB w.heap s.v s.l) (hl : (catL S).length ≤ 1000000) (hS : S.length ≤ 1000000) : cal P f_slices_Concat_byte_byte [v] w fun r w' => Sep w w' [ownB r (catL S)] := by
  refine s_slices_Concat_byte_byte fun R hR => ?_
  unfold c_slices_Concat_byte_byte
  have hrl : ∀ K, lenS v K = K (.int .i64 S.length) := fun K => by have := hr.len K; rwa [List.length_map] at this
  have hg : ∀ {i : Nat} {s : Sl UInt8}, S[i]? = some s → (S.map (·.v))[i]? = some s.v := fun {i s} h => by rw [List.getElem?_map, h]; rfl
  simp only [hrl]
  refine ⟨fun x y w' => ∃ i : Nat, x = .int .i64 (catL (S.take i)).length ∧ y = .int .i64 i ∧ i ≤ S.length ∧ w' = w, fun _ y _ => (S.length - RowKit.intOf y).toNat, ⟨0, rfl, rfl, by omega, rfl⟩, ?_⟩
  rintro _ _ w1 ⟨i, rfl, rfl, hi, rfl⟩ -
  have hci := catL_le S i
  simp only [nilc_some, fad_mk, pik_true, pik_false, cnd_true, cnd_false, gif_same, gif_tf, gif_ft, gif_undef, bi_add, bi_sub, bi_mul, bi_eql, bi_neq, bi_lss, bi_leq, bi_gtr, bi_geq, notB_bool, cvi_int, lenS_mk, lenT_mk, ext0, ext1, ext2, nilP_mk, nilS_mk, fldv_agg, jn0_k, jn1_k, jn2_k, jn1_and, jn1_or, ex_some, Option.isNone_some, Option.isNone_none, Bool.false_bne, Bool.bne_true, Bool.bne_false, Bool.true_bne, Bool.not_true, Bool.not_false, Bool.and_true, Bool.true_and, Bool.and_false, Bool.false_and, Bool.or_true, Bool.true_or, Bool.or_false, Bool.false_or, cond_true, cond_false, List.getElem?_toArray, List.getElem?_cons_zero, List.getElem?_cons_succ, Nat.zero_add, Nat.add_zero, Nat.reduceAdd, forall_const]
  rw [cnd_bool]
  refine ⟨fun h => ?_, fun h => ?_⟩
  · have hlt : i < S.length := by simp at h; omega
    have hx := List.getElem?_eq_getElem hlt
    generalize S[i] = s at hx
    have ht := catL_take hx
    have htl := congrArg List.length ht
    rw [List.length_append] at htl
    have hci1 := catL_le S (i + 1)
    refine ⟨fun t w' => t = .int .i64 (catL (S.take (i + 1))).length ∧ w' = w1, ?_, ?_⟩
    · change ixs _ _ _ _
      refine Rows'.ld1 (q := qv) hr (hg hx) .i64 ?_
      rw [(hb s (List.mem_of_getElem? hx)).len]
      simp only [nilc_some, fad_mk, pik_true, pik_false, cnd_true, cnd_false, gif_same, gif_tf, gif_ft, gif_undef, bi_add, bi_sub, bi_mul, bi_eql, bi_neq, bi_lss, bi_leq, bi_gtr, bi_geq, notB_bool, cvi_int, lenS_mk, lenT_mk, ext0, ext1, ext2, nilP_mk, nilS_mk, fldv_agg, jn0_k, jn1_k, jn2_k, jn1_and, jn1_or, ex_some, Option.isNone_some, Option.isNone_none, Bool.false_bne, Bool.bne_true, Bool.bne_false, Bool.true_bne, Bool.not_true, Bool.not_false, Bool.and_true, Bool.true_and, Bool.and_false, Bool.false_and, Bool.or_true, Bool.true_or, Bool.or_false, Bool.false_or, cond_true, cond_false, List.getElem?_toArray, List.getElem?_cons_zero, List.getElem?_cons_succ, Nat.zero_add, Nat.add_zero, Nat.reduceAdd, forall_const]
      rw [wi64 (by omega) (by omega), decide_eq_false (by omega), cnd_false]
      exact ⟨by congr 1; omega, trivial⟩
    · rintro _ _ ⟨rfl, rfl⟩ -
      rw [wi64 (by omega) (by omega)]
      exact ⟨⟨i + 1, rfl, by simp, by omega, rfl⟩, by simp [RowKit.intOf]; omega⟩
  · have hge : i = S.length := by simp at h; omega
    subst hge
    rw [List.take_length]
    refine cal_i (Grow_spec (catL S).length hl) ?_
    rintro v2 w2 hs2
    refine ⟨fun x y w' => ∃ i : Nat, y = .int .i64 i ∧ i ≤ S.length ∧ Sep w1 w' [ownB x (catL (S.take i))], fun _ y _ => (S.length - RowKit.intOf y).toNat, ⟨0, rfl, by omega, hs2⟩, ?_⟩
    rintro v3 _ w3 ⟨i, rfl, hi, hs3⟩ -
    have hci := catL_le S i
    simp only [nilc_some, fad_mk, pik_true, pik_false, cnd_true, cnd_false, gif_same, gif_tf, gif_ft, gif_undef, bi_add, bi_sub, bi_mul, bi_eql, bi_neq, bi_lss, bi_leq, bi_gtr, bi_geq, notB_bool, cvi_int, lenS_mk, lenT_mk, ext0, ext1, ext2, nilP_mk, nilS_mk, fldv_agg, jn0_k, jn1_k, jn2_k, jn1_and, jn1_or, ex_some, Option.isNone_some, Option.isNone_none, Bool.false_bne, Bool.bne_true, Bool.bne_false, Bool.true_bne, Bool.not_true, Bool.not_false, Bool.and_true, Bool.true_and, Bool.and_false, Bool.false_and, Bool.or_true, Bool.true_or, Bool.or_false, Bool.false_or, cond_true, cond_false, List.getElem?_toArray, List.getElem?_cons_zero, List.getElem?_cons_succ, Nat.zero_add, Nat.add_zero, Nat.reduceAdd, forall_const]
    rw [cnd_bool]
    refine ⟨fun h => ?_, fun h => ?_⟩
    · have hlt : i < S.length := by simp at h; omega
      have hx := List.getElem?_eq_getElem hlt
      generalize S[i] = s at hx
      have ht := catL_take hx
      have htl := congrArg List.length ht
      rw [List.length_append] at htl
      have hci1 := catL_le S (i + 1)
      refine Rows'.ld1 (q := qv) (hr.fr hs3.fr0) (hg hx) .i64 ?_
      refine appB_s S_sl_uint8 U_sl_uint8 (by simp) hs3 (hs3.rdB (hb s (List.mem_of_getElem? hx))) (by omega) fun v4 w4 hs4 => ?_
      rw [wi64 (by omega) (by omega)]
      refine ⟨⟨i + 1, by simp, by omega, ?_⟩, by simp [RowKit.intOf]; omega⟩
      rw [ht]
      exact Sep.dropR (As := [ownB v4 _]) hs4
    · have hge : i = S.length := by simp at h; omega
      subst hge
      rw [List.take_length] at hs3
      exact hR _ _ hs3
theorem three_build (w : World) {x y z : Option Addr} {a b c a' b' c' : Nat} : (Instr.buildSlice T_sl_sl_uint8 3 #[(0, .slice x a a'), (1, .slice y b b'), (2, .slice z c c')]).run P w = .ok (.slice (some ⟨w.heap.size, 0, none⟩) 3 3) (w.alloc (.cells ([.slice x a a', .slice y b b', .slice z c c'] : List Value).toArray T_sl_uint8)) := by kernel_rfl
theorem wBack9 {w : World} {x : Vec 32 × Int × Sl UInt8} {u v : Value} {p q : List UInt8} (hc : Cub w) (hx : Rdr.ok R_api_Block w.heap x) (hp0 : rBytes.ok w.heap ⟨u, p⟩) (hq0 : rBytes.ok w.heap ⟨v, q⟩) :
    cal P f_law09_RecBack [.agg (Rdr.cells R_api_Block x).toArray, u, v] w fun r w' => r = .bool true ∧ Fr [] w w' := by
  obtain ⟨a, haa⟩ : ∃ a, a = ab x := ⟨_, rfl⟩
  have ha := ab_rd hx
  have hah := ab_h hx
  rw [← haa] at ha hah
  have ea : Value.agg (Rdr.cells R_api_Block x).toArray = bq a x.2.2.v := by rw [haa]; rfl
  rw [ea]
  generalize x.2.2.v = va at *
  have hrp : RdB w.heap u p := hp0.1
  have hrq : RdB w.heap v q := hq0.1
  have hcq : capOk v := hq0.2.2
  have hlp : p.length ≤ 9223372036854775807 := hp0.2.1
  have hlq : q.length ≤ 9223372036854775807 := hq0.2.1
  clear hx haa ea hp0 hq0
  refine s_law09_RecBack fun R hR => ?_
  unfold c_law09_RecBack
  refine bxQ (Sep.start w) fun g w1 hs1 => ?_
  have lv : ∀ {z : World}, Fr [] w z → cal P f_law09_live [] z R := fun {z} hf => cal_i (live9_spec (hc.fr hf)) fun r w' hr => hR _ _ ⟨hr.1, hf.trans hr.2 (by simp) (by simp)⟩
  refine cal_i (live9_spec (hc.fr hs1.fr0)) ?_
  rintro _ w2 ⟨rfl, hf2⟩
  have hs2 := hs1.old hf2
  simp only [nilc_some, fad_mk, pik_true, pik_false, cnd_true, cnd_false, gif_same, gif_tf, gif_ft, gif_undef, bi_add, bi_sub, bi_mul, bi_eql, bi_neq, bi_lss, bi_leq, bi_gtr, bi_geq, notB_bool, cvi_int, lenS_mk, lenT_mk, ext0, ext1, ext2, nilP_mk, nilS_mk, fldv_agg, jn0_k, jn1_k, jn2_k, jn1_and, jn1_or, ex_some, Option.isNone_some, Option.isNone_none, Bool.false_bne, Bool.bne_true, Bool.bne_false, Bool.true_bne, Bool.not_true, Bool.not_false, Bool.and_true, Bool.true_and, Bool.and_false, Bool.false_and, Bool.or_true, Bool.true_or, Bool.or_false, Bool.false_or, cond_true, cond_false, List.getElem?_toArray, List.getElem?_cons_zero, List.getElem?_cons_succ, Nat.zero_add, Nat.add_zero, Nat.reduceAdd, forall_const, L_api_Block hs2.blk, L_api_Block__Parent hs2.blk, L_api_Block__Height hs2.blk, L_api_Block__Data hs2.blk]
  refine jn1_dup ?_
  refine rows_lit hs2 S_sl_api_Block (l := [(a.p, a.h, va)]) (V := fun a => .agg (Rdr.cells Q_api_Block a).toArray) qV rfl rfl (by decide) (by decide) fun g4 w4 hs4 => ?_
  have hbr : BRows w4.heap (.slice (some ⟨g4, 0, none⟩) 1 1) [(a, va)] := ⟨Sep.rows hs4, fun z hz => by
    rcases List.mem_cons.1 hz with rfl | hz
    · exact hs4.rdB ha
    · cases hz⟩
  refine cal_i (few9_spec hbr (cap_of (by omega)) (by simp)) ?_
  rintro _ w5 ⟨hf5, t, rfl, ht⟩
  have hs5 := hs4.tail.old hf5
  cases t with
  | false =>
    simp only [nilc_some, fad_mk, pik_true, pik_false, cnd_true, cnd_false, gif_same, gif_tf, gif_ft, gif_undef, bi_add, bi_sub, bi_mul, bi_eql, bi_neq, bi_lss, bi_leq, bi_gtr, bi_geq, notB_bool, cvi_int, lenS_mk, lenT_mk, ext0, ext1, ext2, nilP_mk, nilS_mk, fldv_agg, jn0_k, jn1_k, jn2_k, jn1_and, jn1_or, ex_some, Option.isNone_some, Option.isNone_none, Bool.false_bne, Bool.bne_true, Bool.bne_false, Bool.true_bne, Bool.not_true, Bool.not_false, Bool.and_true, Bool.true_and, Bool.and_false, Bool.false_and, Bool.or_true, Bool.true_or, Bool.or_false, Bool.false_or, cond_true, cond_false, List.getElem?_toArray, List.getElem?_cons_zero, List.getElem?_cons_succ, Nat.zero_add, Nat.add_zero, Nat.reduceAdd, forall_const]
    exact lv hs5.fr0
  | true =>
    simp only [nilc_some, fad_mk, pik_true, pik_false, cnd_true, cnd_false, gif_same, gif_tf, gif_ft, gif_undef, bi_add, bi_sub, bi_mul, bi_eql, bi_neq, bi_lss, bi_leq, bi_gtr, bi_geq, notB_bool, cvi_int, lenS_mk, lenT_mk, ext0, ext1, ext2, nilP_mk, nilS_mk, fldv_agg, jn0_k, jn1_k, jn2_k, jn1_and, jn1_or, ex_some, Option.isNone_some, Option.isNone_none, Bool.false_bne, Bool.bne_true, Bool.bne_false, Bool.true_bne, Bool.not_true, Bool.not_false, Bool.and_true, Bool.true_and, Bool.and_false, Bool.false_and, Bool.or_true, Bool.true_or, Bool.or_false, Bool.false_or, cond_true, cond_false, List.getElem?_toArray, List.getElem?_cons_zero, List.getElem?_cons_succ, Nat.zero_add, Nat.add_zero, Nat.reduceAdd, forall_const, hrp.len, hrq.len]
    rw [cnd_bool]
    refine ⟨fun h => lv hs5.fr0, fun h => ?_⟩
    simp only [Bool.or_eq_false_iff, decide_eq_false_iff_not] at h
    have hp3 : p.length ≤ 3000 := by omega
    have hq3 : q.length ≤ 3000 := by omega
    refine ⟨fun w' => Fr [] w w', ?_, ?_⟩
    · change ldN _ _ _ _
      simp only [L_api_Block hs5.blk, L_api_Block__Parent hs5.blk, L_api_Block__Height hs5.blk, L_api_Block__Data hs5.blk]
      refine cal_i (recBytes_spec (hc.fr hs5.fr0) (hs5.rdB ha) hah) ?_
      rintro _ w6 ⟨s6, rfl, hs6⟩
      replace hs6 := hs5.join hs6
      simp only [nilc_some, fad_mk, pik_true, pik_false, cnd_true, cnd_false, gif_same, gif_tf, gif_ft, gif_undef, bi_add, bi_sub, bi_mul, bi_eql, bi_neq, bi_lss, bi_leq, bi_gtr, bi_geq, notB_bool, cvi_int, lenS_mk, lenT_mk, ext0, ext1, ext2, nilP_mk, nilS_mk, fldv_agg, jn0_k, jn1_k, jn2_k, jn1_and, jn1_or, ex_some, Option.isNone_some, Option.isNone_none, Bool.false_bne, Bool.bne_true, Bool.bne_false, Bool.true_bne, Bool.not_true, Bool.not_false, Bool.and_true, Bool.true_and, Bool.and_false, Bool.false_and, Bool.or_true, Bool.true_or, Bool.or_false, Bool.false_or, cond_true, cond_false, List.getElem?_toArray, List.getElem?_cons_zero, List.getElem?_cons_succ, Nat.zero_add, Nat.add_zero, Nat.reduceAdd, forall_const]
      rcases Blk.chk_or a with h0 | h0
      case inr =>
        simp only [h0, nilc_some, fad_mk, pik_true, pik_false, cnd_true, cnd_false, gif_same, gif_tf, gif_ft, gif_undef, bi_add, bi_sub, bi_mul, bi_eql, bi_neq, bi_lss, bi_leq, bi_gtr, bi_geq, notB_bool, cvi_int, lenS_mk, lenT_mk, ext0, ext1, ext2, nilP_mk, nilS_mk, fldv_agg, jn0_k, jn1_k, jn2_k, jn1_and, jn1_or, ex_some, Option.isNone_some, Option.isNone_none, Bool.false_bne, Bool.bne_true, Bool.bne_false, Bool.true_bne, Bool.not_true, Bool.not_false, Bool.and_true, Bool.true_and, Bool.and_false, Bool.false_and, Bool.or_true, Bool.true_or, Bool.or_false, Bool.false_or, cond_true, cond_false, List.getElem?_toArray, List.getElem?_cons_zero, List.getElem?_cons_succ, Nat.zero_add, Nat.add_zero, Nat.reduceAdd, forall_const, show ((30 : Int) == 0) = false from rfl]
        exact hs6.fr0
      have hro : a.recO = a.rcd := if_pos h0
      have hle := a.recO_le
      rw [hro] at hs6 hle
      simp only [h0, nilc_some, fad_mk, pik_true, pik_false, cnd_true, cnd_false, gif_same, gif_tf, gif_ft, gif_undef, bi_add, bi_sub, bi_mul, bi_eql, bi_neq, bi_lss, bi_leq, bi_gtr, bi_geq, notB_bool, cvi_int, lenS_mk, lenT_mk, ext0, ext1, ext2, nilP_mk, nilS_mk, fldv_agg, jn0_k, jn1_k, jn2_k, jn1_and, jn1_or, ex_some, Option.isNone_some, Option.isNone_none, Bool.false_bne, Bool.bne_true, Bool.bne_false, Bool.true_bne, Bool.not_true, Bool.not_false, Bool.and_true, Bool.true_and, Bool.and_false, Bool.false_and, Bool.or_true, Bool.true_or, Bool.or_false, Bool.false_or, cond_true, cond_false, List.getElem?_toArray, List.getElem?_cons_zero, List.getElem?_cons_succ, Nat.zero_add, Nat.add_zero, Nat.reduceAdd, forall_const, show ((0 : Int) == 0) = true from rfl]
      obtain ⟨au, cu, rfl⟩ := hrp.form
      obtain ⟨av, cv, rfl⟩ := hrq.form
      obtain ⟨a6, cs, rfl, _⟩ := Sep.form hs6
      refine rows_build (q := qv) (l := [.slice au p.length cu, .slice a6 a.rcd.length cs, .slice av q.length cv]) hs6 rfl (three_build w6) fun g7 w7 hs7 => ?_
      have hcat : catL [⟨.slice au p.length cu, p⟩, ⟨.slice a6 a.rcd.length cs, a.rcd⟩, ⟨.slice av q.length cv, q⟩] = p ++ (a.rcd ++ q) := by simp [catL]
      refine cal_i (ConcatN_spec (S := [⟨.slice au p.length cu, p⟩, ⟨.slice a6 a.rcd.length cs, a.rcd⟩, ⟨.slice av q.length cv, q⟩]) (Sep.rows hs7) (fun s hs => ?_) (by rw [hcat]; simp; omega) (by simp)) ?_
      · simp only [List.mem_cons, List.not_mem_nil, or_false] at hs
        rcases hs with rfl | rfl | rfl
        · exact hs7.rdB hrp
        · exact Sep.rd hs7.p1
        · exact hs7.rdB hrq
      rintro v8 w8 hs8
      rw [hcat] at hs8
      replace hs8 := hs7.join hs8
      obtain ⟨a8, c8, rfl, hac8⟩ := Sep.form hs8
      refine cal_i (recTake_spec (a := (p.length : Nat)) (hc.fr hs8.fr0) (Sep.rd hs8) (cap_of hac8) (by simp; omega) (by omega)) ?_
      rintro _ w9 ⟨v9, rfl, hs9⟩
      replace hs9 := hs8.join hs9
      rw [takeX_at (by simp), List.drop_left' rfl, take_rcd h0 hah] at hs9
      rw [takeX_at (by simp), List.drop_left' rfl, take_rcd h0 hah]
      simp only [nilc_some, fad_mk, pik_true, pik_false, cnd_true, cnd_false, gif_same, gif_tf, gif_ft, gif_undef, bi_add, bi_sub, bi_mul, bi_eql, bi_neq, bi_lss, bi_leq, bi_gtr, bi_geq, notB_bool, cvi_int, lenS_mk, lenT_mk, ext0, ext1, ext2, nilP_mk, nilS_mk, fldv_agg, jn0_k, jn1_k, jn2_k, jn1_and, jn1_or, ex_some, Option.isNone_some, Option.isNone_none, Bool.false_bne, Bool.bne_true, Bool.bne_false, Bool.true_bne, Bool.not_true, Bool.not_false, Bool.and_true, Bool.true_and, Bool.and_false, Bool.false_and, Bool.or_true, Bool.true_or, Bool.or_false, Bool.false_or, cond_true, cond_false, List.getElem?_toArray, List.getElem?_cons_zero, List.getElem?_cons_succ, Nat.zero_add, Nat.add_zero, Nat.reduceAdd, forall_const, ↓reduceIte]
      refine alloc_s hs9 (A_api_Block w9) fun g10 w10 hs10 => ?_
      refine St_api_Block hs10 (one_api_Block (Sep.one hs10.p1)) fun w11 hs11 => ?_
      replace hs11 : Sep w w11 [bb g10 a v9, ownB v9 a.d, ownB (.slice a8 (p ++ (a.rcd ++ q)).length c8) (p ++ (a.rcd ++ q)), rows qv (.slice (some ⟨g7, 0, none⟩) 3 3) [.slice au p.length cu, .slice a6 a.rcd.length cs, .slice av q.length cv], ownB (.slice a6 a.rcd.length cs) a.rcd, bb g a va] := hs11
      have e1 : IntKind.i64.wrap ((p.length : Int) + (a.rcd.length : Int)) = (p.length : Int) + (a.rcd.length : Int) := wi64 (by omega) (by omega)
      simp only [nilc_some, fad_mk, pik_true, pik_false, cnd_true, cnd_false, gif_same, gif_tf, gif_ft, gif_undef, bi_add, bi_sub, bi_mul, bi_eql, bi_neq, bi_lss, bi_leq, bi_gtr, bi_geq, notB_bool, cvi_int, lenS_mk, lenT_mk, ext0, ext1, ext2, nilP_mk, nilS_mk, fldv_agg, jn0_k, jn1_k, jn2_k, jn1_and, jn1_or, ex_some, Option.isNone_some, Option.isNone_none, Bool.false_bne, Bool.bne_true, Bool.bne_false, Bool.true_bne, Bool.not_true, Bool.not_false, Bool.and_true, Bool.true_and, Bool.and_false, Bool.false_and, Bool.or_true, Bool.true_or, Bool.or_false, Bool.false_or, cond_true, cond_false, List.getElem?_toArray, List.getElem?_cons_zero, List.getElem?_cons_succ, Nat.zero_add, Nat.add_zero, Nat.reduceAdd, forall_const, show ((0 : Int) != 0) = false from rfl, (Sep.rd (hs11.pick [4] 6)).len, e1, bne_self_eq_false, L_api_Block hs11.blk, L_api_Block__Parent hs11.blk, L_api_Block__Height hs11.blk, L_api_Block__Data hs11.blk, L_api_Block (Sep.blk (hs11.pick [5] 6)), L_api_Block__Parent (Sep.blk (hs11.pick [5] 6)), L_api_Block__Height (Sep.blk (hs11.pick [5] 6)), L_api_Block__Data (Sep.blk (hs11.pick [5] 6))]
      refine jn1_dup ?_
      refine cal_i (rSame_spec (a := a) (b := a) (Sep.rd hs11.p1) (hs11.rdB ha)) ?_
      rintro _ w12 ⟨rfl, hf12⟩
      have hs12 := hs11.old hf12
      simp only [decide_true, nilc_some, fad_mk, pik_true, pik_false, cnd_true, cnd_false, gif_same, gif_tf, gif_ft, gif_undef, bi_add, bi_sub, bi_mul, bi_eql, bi_neq, bi_lss, bi_leq, bi_gtr, bi_geq, notB_bool, cvi_int, lenS_mk, lenT_mk, ext0, ext1, ext2, nilP_mk, nilS_mk, fldv_agg, jn0_k, jn1_k, jn2_k, jn1_and, jn1_or, ex_some, Option.isNone_some, Option.isNone_none, Bool.false_bne, Bool.bne_true, Bool.bne_false, Bool.true_bne, Bool.not_true, Bool.not_false, Bool.and_true, Bool.true_and, Bool.and_false, Bool.false_and, Bool.or_true, Bool.true_or, Bool.or_false, Bool.false_or, cond_true, cond_false, List.getElem?_toArray, List.getElem?_cons_zero, List.getElem?_cons_succ, Nat.zero_add, Nat.add_zero, Nat.reduceAdd, forall_const, L_api_Block (Sep.blk (hs12.pick [5] 6)), L_api_Block__Parent (Sep.blk (hs12.pick [5] 6)), L_api_Block__Height (Sep.blk (hs12.pick [5] 6)), L_api_Block__Data (Sep.blk (hs12.pick [5] 6))]
      refine jn1_dup ?_
      refine cal_i (recSize_spec (hs12.rdB ha)) ?_
      rintro _ w13 ⟨rfl, hf13⟩
      have hs13 := hs12.old hf13
      rw [hro]
      simp only [nilc_some, fad_mk, pik_true, pik_false, cnd_true, cnd_false, gif_same, gif_tf, gif_ft, gif_undef, bi_add, bi_sub, bi_mul, bi_eql, bi_neq, bi_lss, bi_leq, bi_gtr, bi_geq, notB_bool, cvi_int, lenS_mk, lenT_mk, ext0, ext1, ext2, nilP_mk, nilS_mk, fldv_agg, jn0_k, jn1_k, jn2_k, jn1_and, jn1_or, ex_some, Option.isNone_some, Option.isNone_none, Bool.false_bne, Bool.bne_true, Bool.bne_false, Bool.true_bne, Bool.not_true, Bool.not_false, Bool.and_true, Bool.true_and, Bool.and_false, Bool.false_and, Bool.or_true, Bool.true_or, Bool.or_false, Bool.false_or, cond_true, cond_false, List.getElem?_toArray, List.getElem?_cons_zero, List.getElem?_cons_succ, Nat.zero_add, Nat.add_zero, Nat.reduceAdd, forall_const, bne_self_eq_false]
      exact hs13.fr0
    · rintro w6 hf6 _
      have hs6 := (Sep.start w).old hf6
      obtain ⟨av, cv, rfl⟩ := hrq.form
      have hcv : q.length ≤ cv := hcq _ _ _ rfl
      refine cal_i (recTake_spec (a := ((0 : Nat) : Int)) (hc.fr hf6) (hs6.rdB hrq) hcq (by omega) (by omega)) ?_
      rintro _ w7 ⟨v7, rfl, hs7⟩
      replace hs7 := hs6.join hs7
      rw [takeX_at (by omega), List.drop_zero] at hs7
      rw [takeX_at (by omega), List.drop_zero]
      simp only [nilc_some, fad_mk, pik_true, pik_false, cnd_true, cnd_false, gif_same, gif_tf, gif_ft, gif_undef, bi_add, bi_sub, bi_mul, bi_eql, bi_neq, bi_lss, bi_leq, bi_gtr, bi_geq, notB_bool, cvi_int, lenS_mk, lenT_mk, ext0, ext1, ext2, nilP_mk, nilS_mk, fldv_agg, jn0_k, jn1_k, jn2_k, jn1_and, jn1_or, ex_some, Option.isNone_some, Option.isNone_none, Bool.false_bne, Bool.bne_true, Bool.bne_false, Bool.true_bne, Bool.not_true, Bool.not_false, Bool.and_true, Bool.true_and, Bool.and_false, Bool.false_and, Bool.or_true, Bool.true_or, Bool.or_false, Bool.false_or, cond_true, cond_false, List.getElem?_toArray, List.getElem?_cons_zero, List.getElem?_cons_succ, Nat.zero_add, Nat.add_zero, Nat.reduceAdd, forall_const]
      refine alloc_s hs7 (A_api_Block w7) fun g8 w8 hs8 => ?_
      refine St_api_Block hs8 (one_api_Block (Sep.one hs8.p1)) fun w9 hs9 => ?_
      rcases takeR_err q with h0 | ⟨hn, hn0, hne⟩
      · obtain ⟨b, n, hx⟩ : ∃ b n, takeR q = (b, n, 0) := ⟨_, _, by rw [← h0]⟩
        have hinv := take_inv hx
        have hqn := congrArg List.length hinv.2.2.2
        simp only [List.length_append, List.length_drop] at hqn
        rw [hx] at hs9 ⊢
        replace hs9 : Sep w w9 [bb g8 b v7, ownB v7 b.d] := hs9
        simp only [nilc_some, fad_mk, pik_true, pik_false, cnd_true, cnd_false, gif_same, gif_tf, gif_ft, gif_undef, bi_add, bi_sub, bi_mul, bi_eql, bi_neq, bi_lss, bi_leq, bi_gtr, bi_geq, notB_bool, cvi_int, lenS_mk, lenT_mk, ext0, ext1, ext2, nilP_mk, nilS_mk, fldv_agg, jn0_k, jn1_k, jn2_k, jn1_and, jn1_or, ex_some, Option.isNone_some, Option.isNone_none, Bool.false_bne, Bool.bne_true, Bool.bne_false, Bool.true_bne, Bool.not_true, Bool.not_false, Bool.and_true, Bool.true_and, Bool.and_false, Bool.false_and, Bool.or_true, Bool.true_or, Bool.or_false, Bool.false_or, cond_true, cond_false, List.getElem?_toArray, List.getElem?_cons_zero, List.getElem?_cons_succ, Nat.zero_add, Nat.add_zero, Nat.reduceAdd, forall_const, show ((0 : Int) != 0) = false from rfl, ↓reduceIte, L_api_Block hs9.blk, L_api_Block__Parent hs9.blk, L_api_Block__Height hs9.blk, L_api_Block__Data hs9.blk]
        refine cal_i (recBytes_spec (hc.fr hs9.fr0) (Sep.rd hs9.p1) hinv.2.1) ?_
        rintro _ w10 ⟨s10, rfl, hs10⟩
        have hro : b.recO = b.rcd := if_pos hinv.1
        rw [hro] at hs10
        replace hs10 := hs9.join hs10
        have e1 : ((((0 : Nat) : Int) + (n : Int)) == (b.rcd.length : Int)) = true := by rw [hinv.2.2.1]; simp
        have e2 : decide (((0 : Nat) : Int) + (n : Int) ≤ (q.length : Int)) = true := by simp; omega
        have e3 : (((0 : Nat) : Int) + (n : Int)) = (n : Int) := by simp
        simp only [hinv.1, nilc_some, fad_mk, pik_true, pik_false, cnd_true, cnd_false, gif_same, gif_tf, gif_ft, gif_undef, bi_add, bi_sub, bi_mul, bi_eql, bi_neq, bi_lss, bi_leq, bi_gtr, bi_geq, notB_bool, cvi_int, lenS_mk, lenT_mk, ext0, ext1, ext2, nilP_mk, nilS_mk, fldv_agg, jn0_k, jn1_k, jn2_k, jn1_and, jn1_or, ex_some, Option.isNone_some, Option.isNone_none, Bool.false_bne, Bool.bne_true, Bool.bne_false, Bool.true_bne, Bool.not_true, Bool.not_false, Bool.and_true, Bool.true_and, Bool.and_false, Bool.false_and, Bool.or_true, Bool.true_or, Bool.or_false, Bool.false_or, cond_true, cond_false, List.getElem?_toArray, List.getElem?_cons_zero, List.getElem?_cons_succ, Nat.zero_add, Nat.add_zero, Nat.reduceAdd, forall_const, show ((0 : Int) == 0) = true from rfl, (Sep.rd hs10).len, e1, hrq.len, e2]
        refine jn1_dup ?_
        rw [e3, slc_to (by omega)]
        have hqt : q.take n = b.rcd := by rw [hinv.2.2.2, hinv.2.2.1]; exact List.take_left' rfl
        have hrt := (hs10.rdB hrq).take (k := n) (by omega) cv
        rw [hqt] at hrt
        refine cal_i (bEqual_spec (Sep.rd hs10) hrt) ?_
        rintro _ _ ⟨rfl, rfl⟩
        simp only [nilc_some, fad_mk, pik_true, pik_false, cnd_true, cnd_false, gif_same, gif_tf, gif_ft, gif_undef, bi_add, bi_sub, bi_mul, bi_eql, bi_neq, bi_lss, bi_leq, bi_gtr, bi_geq, notB_bool, cvi_int, lenS_mk, lenT_mk, ext0, ext1, ext2, nilP_mk, nilS_mk, fldv_agg, jn0_k, jn1_k, jn2_k, jn1_and, jn1_or, ex_some, Option.isNone_some, Option.isNone_none, Bool.false_bne, Bool.bne_true, Bool.bne_false, Bool.true_bne, Bool.not_true, Bool.not_false, Bool.and_true, Bool.true_and, Bool.and_false, Bool.false_and, Bool.or_true, Bool.true_or, Bool.or_false, Bool.false_or, cond_true, cond_false, List.getElem?_toArray, List.getElem?_cons_zero, List.getElem?_cons_succ, Nat.zero_add, Nat.add_zero, Nat.reduceAdd, forall_const, beq_self_eq_true]
        exact hR _ _ ⟨rfl, hs10.fr0⟩
      · have e : ((takeR q).2.2 != 0) = true := by rcases hne with h | h <;> rw [h] <;> rfl
        have e0 : ¬ (takeR q).2.2 = 0 := by rcases hne with h | h <;> rw [h] <;> decide
        simp only [nilc_some, fad_mk, pik_true, pik_false, cnd_true, cnd_false, gif_same, gif_tf, gif_ft, gif_undef, bi_add, bi_sub, bi_mul, bi_eql, bi_neq, bi_lss, bi_leq, bi_gtr, bi_geq, notB_bool, cvi_int, lenS_mk, lenT_mk, ext0, ext1, ext2, nilP_mk, nilS_mk, fldv_agg, jn0_k, jn1_k, jn2_k, jn1_and, jn1_or, ex_some, Option.isNone_some, Option.isNone_none, Bool.false_bne, Bool.bne_true, Bool.bne_false, Bool.true_bne, Bool.not_true, Bool.not_false, Bool.and_true, Bool.true_and, Bool.and_false, Bool.false_and, Bool.or_true, Bool.true_or, Bool.or_false, Bool.false_or, cond_true, cond_false, List.getElem?_toArray, List.getElem?_cons_zero, List.getElem?_cons_succ, Nat.zero_add, Nat.add_zero, Nat.reduceAdd, forall_const, e, if_neg e0]
        exact hR _ _ ⟨rfl, hs9.fr0⟩
end Go.Fx
