/-
  The example of the chapter; whether blocks are few and short.
-/
import Derived.Test.YticmbeincpaaeaaDoorRcC
set_option linter.unusedVariables false
set_option linter.unusedSimpArgs false
namespace Go.Fx
theorem min_i64 {w : World} (a b : Int) (K : Value → Prop) : rdP P (Builtin.min_ #[T_int, T_int] T_int #[.int .i64 a, .int .i64 b]) w K = K (.int .i64 (if b < a then b else a)) := by
  refine rdP_eq ?_ K
  simp [Builtin.min_, Builtin.min2]
/-- A record is read where it stands. -/
theorem take_rcd {b : Blk} {t : List UInt8} (hc : b.chk = 0) (hh : b.h ≤ maxI) : takeR (b.rcd ++ t) = (b, b.rcd.length, 0) := by
  have hck := Blk.chk_ok hc
  have hbl := b.bytes_len
  have hrl := b.rec_len
  obtain ⟨n, hn⟩ : ∃ n, n = b.bytes.length := ⟨_, rfl⟩
  have er : b.rcd ++ t = be 4 n ++ (be 8 b.h.toNat ++ (b.bytes ++ (tail8 b.hd ++ t))) := by
    rw [hn]; unfold Blk.rcd; conv => lhs; unfold Blk.hd
    simp only [List.append_assoc]
    rfl
  have e4 : (b.rcd ++ t).take 4 = be 4 n := by rw [er]; exact List.take_left' (be_length _ _)
  have en : ofBe ((b.rcd ++ t).take 4) = n := by rw [e4, ofBe_b4 (by omega)]
  have e12 : (b.rcd ++ t).drop 12 = b.bytes ++ (tail8 b.hd ++ t) := by
    rw [er, show 12 = 4 + 8 from rfl, ← List.drop_drop, List.drop_left' (be_length _ _)]
    exact List.drop_left' (be_length _ _)
  have ep : gpay (b.rcd ++ t) n = b.bytes := by unfold gpay; rw [e12]; exact List.take_left' hn.symm
  have hok := parse_bytes hc hh
  have hg : goodR (b.rcd ++ t) n := by
    unfold goodR
    rw [ep, hok.2]
    exact ⟨hok.1, (List.take_left' (by omega)).symm⟩
  unfold takeR
  rw [en, if_neg (by simp; omega), if_neg (by omega), if_neg (by simp; omega), if_pos hg, ep, hok.2]
  congr 2
  omega
/-- What is read is a record. -/
theorem take_inv {r : List UInt8} {x : Blk} {n : Nat} (h : takeR r = (x, n, 0)) : x.chk = 0 ∧ x.h ≤ maxI ∧ n = x.rcd.length ∧ r = x.rcd ++ r.drop n := by
  unfold takeR at h
  split at h
  · simp at h
  rename_i h12
  split at h
  · simp at h
  rename_i h246
  split at h
  · simp at h
  rename_i h20
  split at h
  · rename_i hg
    simp only [Prod.mk.injEq, and_true] at h
    obtain ⟨rfl, rfl⟩ := h
    refine ⟨hg.1.2.2.1, hg.1.2.1, ?_, ?_⟩
    · rw [hg.2, List.length_take]; omega
    · rw [hg.2, List.take_append_drop]
  · simp at h
theorem takeR_err (r : List UInt8) : (takeR r).2.2 = 0 ∨ ((takeR r).1 = Blk.none ∧ (takeR r).2.1 = 0 ∧ ((takeR r).2.2 = 11 ∨ (takeR r).2.2 = 90)) := by
  unfold takeR
  repeat' split
  all_goals simp
section
variable {w0 w : World} {As : List Asn} {v : Value} {l : List BV}
def FewB (l : List BV) : Prop := l.length ≤ 30 ∧ ∀ x ∈ l, x.1.d.length ≤ 3000
theorem BRows.cut {h : Heap} {a : Option Addr} {m c k : Nat} (hr : BRows h (.slice a m c) l) (hk : k ≤ m) (c' : Nat) : BRows h (.slice a k c') (l.take k) := by
  refine ⟨?_, fun x hx => hr.2 x (List.mem_of_mem_take hx)⟩
  have hm : m = l.length := by obtain ⟨_, _, hv, _⟩ := hr.1; simp only [Value.slice.injEq, List.length_map] at hv; exact hv.2.1
  have := hr.1.take (k := k) (by simp; omega) c'
  rwa [← List.map_take] at this
theorem few9_spec (hr : BRows w.heap v l) (hcap : capOk v) (hl63 : l.length ≤ 9223372036854775807) : cal P f_law09_few [v] w fun r w' => Fr [] w w' ∧ ∃ t, r = .bool t ∧ (t = true → FewB l) := by
  refine s_law09_few fun R hR => ?_
  unfold c_law09_few
  simp only [hr.len, min_i64]
  obtain ⟨a, c, rfl⟩ : ∃ a c, v = .slice a l.length c := by
    obtain ⟨a, c, hv, _⟩ := hr.1
    rw [List.length_map] at hv
    exact ⟨a, c, hv⟩
  have hcv : l.length ≤ c := hcap _ _ _ rfl
  obtain ⟨k, hk, hkl⟩ : ∃ k : Nat, (if (60 : Int) < (l.length : Int) then (60 : Int) else (l.length : Int)) = (k : Int) ∧ k = min l.length 60 := by
    by_cases h : (60 : Int) < (l.length : Int)
    · exact ⟨60, by rw [if_pos h]; rfl, by omega⟩
    · exact ⟨l.length, by rw [if_neg h], by omega⟩
  rw [hk, slc_to (by omega)]
  have hrk := hr.cut (k := k) (by omega) c
  have hkl2 : (l.take k).length = k := by simp; omega
  simp only [nilc_some, fad_mk, pik_true, pik_false, cnd_true, cnd_false, gif_same, gif_tf, gif_ft, gif_undef, bi_add, bi_sub, bi_mul, bi_eql, bi_neq, bi_lss, bi_leq, bi_gtr, bi_geq, notB_bool, cvi_int, lenS_mk, lenT_mk, ext0, ext1, ext2, nilP_mk, nilS_mk, fldv_agg, jn0_k, jn1_k, jn2_k, jn1_and, jn1_or, ex_some, Option.isNone_some, Option.isNone_none, Bool.false_bne, Bool.bne_true, Bool.bne_false, Bool.true_bne, Bool.not_true, Bool.not_false, Bool.and_true, Bool.true_and, Bool.and_false, Bool.false_and, Bool.or_true, Bool.true_or, Bool.or_false, Bool.false_or, cond_true, cond_false, List.getElem?_toArray, List.getElem?_cons_zero, List.getElem?_cons_succ, Nat.zero_add, Nat.add_zero, Nat.reduceAdd, forall_const]
  refine ⟨fun y w' => ∃ i : Nat, y = .int .i64 i ∧ i ≤ k ∧ (∀ x ∈ (l.take k).take i, x.1.d.length ≤ 3000) ∧ Fr [] w w', fun y _ => (k - RowKit.intOf y).toNat, ⟨0, rfl, by omega, by simp, Fr.refl _ _⟩, ?_⟩
  rintro _ w1 ⟨i, rfl, hi, hall, hf⟩ -
  simp only [nilc_some, fad_mk, pik_true, pik_false, cnd_true, cnd_false, gif_same, gif_tf, gif_ft, gif_undef, bi_add, bi_sub, bi_mul, bi_eql, bi_neq, bi_lss, bi_leq, bi_gtr, bi_geq, notB_bool, cvi_int, lenS_mk, lenT_mk, ext0, ext1, ext2, nilP_mk, nilS_mk, fldv_agg, jn0_k, jn1_k, jn2_k, jn1_and, jn1_or, ex_some, Option.isNone_some, Option.isNone_none, Bool.false_bne, Bool.bne_true, Bool.bne_false, Bool.true_bne, Bool.not_true, Bool.not_false, Bool.and_true, Bool.true_and, Bool.and_false, Bool.false_and, Bool.or_true, Bool.true_or, Bool.or_false, Bool.false_or, cond_true, cond_false, List.getElem?_toArray, List.getElem?_cons_zero, List.getElem?_cons_succ, Nat.zero_add, Nat.add_zero, Nat.reduceAdd, forall_const]
  rw [cnd_bool]
  refine ⟨fun h => ?_, fun h => ?_⟩
  · have hlt : i < k := by simp at h; omega
    have hx := List.getElem?_eq_getElem (l := l.take k) (i := i) (by omega)
    generalize (l.take k)[i] = x at hx
    refine (hrk.fr hf).ld hx .i64 ?_
    have hs := (Sep.start w).old hf
    refine alloc_s hs (A_api_Block w1) fun g w2 hs2 => ?_
    have hd := hrk.get hx
    refine St_api_Block hs2 (one_api_Block hd.one) fun w3 hs3 => ?_
    have hl := (hs3.rdB hd).len
    simp only [L_api_Block hs3.blk, L_api_Block__Parent hs3.blk, L_api_Block__Height hs3.blk, L_api_Block__Data hs3.blk, hl, nilc_some, fad_mk, pik_true, pik_false, cnd_true, cnd_false, gif_same, gif_tf, gif_ft, gif_undef, bi_add, bi_sub, bi_mul, bi_eql, bi_neq, bi_lss, bi_leq, bi_gtr, bi_geq, notB_bool, cvi_int, lenS_mk, lenT_mk, ext0, ext1, ext2, nilP_mk, nilS_mk, fldv_agg, jn0_k, jn1_k, jn2_k, jn1_and, jn1_or, ex_some, Option.isNone_some, Option.isNone_none, Bool.false_bne, Bool.bne_true, Bool.bne_false, Bool.true_bne, Bool.not_true, Bool.not_false, Bool.and_true, Bool.true_and, Bool.and_false, Bool.false_and, Bool.or_true, Bool.true_or, Bool.or_false, Bool.false_or, cond_true, cond_false, List.getElem?_toArray, List.getElem?_cons_zero, List.getElem?_cons_succ, Nat.zero_add, Nat.add_zero, Nat.reduceAdd, forall_const]
    rw [cnd_bool]
    refine ⟨fun h3 => hR _ _ ⟨hs3.fr0, false, rfl, fun hc => by cases hc⟩, fun h3 => ?_⟩
    have h3 : x.1.d.length ≤ 3000 := by simp at h3; omega
    rw [wi64 (by omega) (by omega)]
    refine ⟨⟨i + 1, by simp, by omega, ?_, hs3.fr0⟩, by simp [RowKit.intOf]; omega⟩
    intro y hy
    rw [List.take_add_one, hx] at hy
    rcases List.mem_append.1 hy with hy | hy
    · exact hall y hy
    · simp at hy; subst hy; exact h3
  · have hge : i = k := by simp at h; omega
    subst hge
    rw [List.take_take, Nat.min_self] at hall
    refine hR _ _ ⟨hf, _, rfl, fun ht => ?_⟩
    have h30 : l.length ≤ 30 := by simp at ht; omega
    refine ⟨h30, ?_⟩
    rwa [List.take_of_length_le (by omega)] at hall
theorem b0_chk : Blk.none.chk = 0 := by decide +kernel
theorem b0_bytes : Blk.none.bytes.length = 46 := by rw [Blk.bytes_len]; rfl
theorem live9_spec (hc : Cub w) : cal P f_law09_live [] w fun r w' => r = .bool true ∧ Fr [] w w' := by
  refine s_law09_live fun R hR => ?_
  unfold c_law09_live
  rw [B_api_Block, bq_none]
  refine cal_i (recBytes_spec (b := Blk.none) hc (rdNil w) (by decide)) ?_
  rintro _ w1 ⟨s1, rfl, hs1⟩
  have ho : Blk.none.recO = Blk.none.rcd := if_pos b0_chk
  have hl1 : Blk.none.rcd.length = 66 := by rw [Blk.rec_len]; rfl
  rw [ho] at hs1
  simp only [nilc_some, fad_mk, pik_true, pik_false, cnd_true, cnd_false, gif_same, gif_tf, gif_ft, gif_undef, bi_add, bi_sub, bi_mul, bi_eql, bi_neq, bi_lss, bi_leq, bi_gtr, bi_geq, notB_bool, cvi_int, lenS_mk, lenT_mk, ext0, ext1, ext2, nilP_mk, nilS_mk, fldv_agg, jn0_k, jn1_k, jn2_k, jn1_and, jn1_or, ex_some, Option.isNone_some, Option.isNone_none, Bool.false_bne, Bool.bne_true, Bool.bne_false, Bool.true_bne, Bool.not_true, Bool.not_false, Bool.and_true, Bool.true_and, Bool.and_false, Bool.false_and, Bool.or_true, Bool.true_or, Bool.or_false, Bool.false_or, cond_true, cond_false, List.getElem?_toArray, List.getElem?_cons_zero, List.getElem?_cons_succ, Nat.zero_add, Nat.add_zero, Nat.reduceAdd, forall_const]
  obtain ⟨a1, c1, rfl, hac⟩ := Sep.form hs1
  refine cal_i (recTake_spec (a := 0) (hc.fr hs1.fr0) (Sep.rd hs1) (fun a n c he => by
    simp only [Value.slice.injEq] at he
    obtain ⟨_, rfl, rfl⟩ := he
    omega) (by omega) (by omega)) ?_
  rintro _ w2 ⟨v2, rfl, hs2⟩
  replace hs2 := hs1.join hs2
  have ht : takeX Blk.none.rcd 0 = (Blk.none, 66, 0) := by
    have h1 := take_rcd (b := Blk.none) (t := []) b0_chk (by decide)
    rw [List.append_nil, hl1] at h1
    unfold takeX
    rw [if_neg (by omega), show (0 : Int).toNat = 0 from rfl, List.drop_zero, h1]
    rfl
  rw [ht] at hs2
  rw [ht, b0_chk]
  simp only [nilc_some, fad_mk, pik_true, pik_false, cnd_true, cnd_false, gif_same, gif_tf, gif_ft, gif_undef, bi_add, bi_sub, bi_mul, bi_eql, bi_neq, bi_lss, bi_leq, bi_gtr, bi_geq, notB_bool, cvi_int, lenS_mk, lenT_mk, ext0, ext1, ext2, nilP_mk, nilS_mk, fldv_agg, jn0_k, jn1_k, jn2_k, jn1_and, jn1_or, ex_some, Option.isNone_some, Option.isNone_none, Bool.false_bne, Bool.bne_true, Bool.bne_false, Bool.true_bne, Bool.not_true, Bool.not_false, Bool.and_true, Bool.true_and, Bool.and_false, Bool.false_and, Bool.or_true, Bool.true_or, Bool.or_false, Bool.false_or, cond_true, cond_false, List.getElem?_toArray, List.getElem?_cons_zero, List.getElem?_cons_succ, Nat.zero_add, Nat.add_zero, Nat.reduceAdd, forall_const]
  refine alloc_s hs2 (A_api_Block w2) fun g3 w3 hs3 => ?_
  refine St_api_Block hs3 (one_api_Block (Sep.one hs3.p1)) fun w4 hs4 => ?_
  simp only [nilc_some, fad_mk, pik_true, pik_false, cnd_true, cnd_false, gif_same, gif_tf, gif_ft, gif_undef, bi_add, bi_sub, bi_mul, bi_eql, bi_neq, bi_lss, bi_leq, bi_gtr, bi_geq, notB_bool, cvi_int, lenS_mk, lenT_mk, ext0, ext1, ext2, nilP_mk, nilS_mk, fldv_agg, jn0_k, jn1_k, jn2_k, jn1_and, jn1_or, ex_some, Option.isNone_some, Option.isNone_none, Bool.false_bne, Bool.bne_true, Bool.bne_false, Bool.true_bne, Bool.not_true, Bool.not_false, Bool.and_true, Bool.true_and, Bool.and_false, Bool.false_and, Bool.or_true, Bool.true_or, Bool.or_false, Bool.false_or, cond_true, cond_false, List.getElem?_toArray, List.getElem?_cons_zero, List.getElem?_cons_succ, Nat.zero_add, Nat.add_zero, Nat.reduceAdd, forall_const, show ((0 : Int) == 0) = true from rfl]
  have e66 : ((Blk.none.rcd.length : Int) == 66) = true := by rw [hl1]; rfl
  simp only [e66, nilc_some, fad_mk, pik_true, pik_false, cnd_true, cnd_false, gif_same, gif_tf, gif_ft, gif_undef, bi_add, bi_sub, bi_mul, bi_eql, bi_neq, bi_lss, bi_leq, bi_gtr, bi_geq, notB_bool, cvi_int, lenS_mk, lenT_mk, ext0, ext1, ext2, nilP_mk, nilS_mk, fldv_agg, jn0_k, jn1_k, jn2_k, jn1_and, jn1_or, ex_some, Option.isNone_some, Option.isNone_none, Bool.false_bne, Bool.bne_true, Bool.bne_false, Bool.true_bne, Bool.not_true, Bool.not_false, Bool.and_true, Bool.true_and, Bool.and_false, Bool.false_and, Bool.or_true, Bool.true_or, Bool.or_false, Bool.false_or, cond_true, cond_false, List.getElem?_toArray, List.getElem?_cons_zero, List.getElem?_cons_succ, Nat.zero_add, Nat.add_zero, Nat.reduceAdd, forall_const, show ((66 : Int) == 66) = true from rfl]
  refine jn1_dup ?_
  rw [show (Value.int .i64 4) = .int .i64 ((4 : Nat) : Int) from rfl, slc_to (by omega)]
  have h1 : ∀ w : World, (Instr.buildSlice T_sl_uint8 4 #[(0, .int .u8 0), (1, .int .u8 0), (2, .int .u8 0), (3, .int .u8 46)]).run P w = .ok (.slice (some ⟨w.heap.size, 0, none⟩) 4 4) (w.alloc (.cells (bvs [0, 0, 0, 46]).toArray T_uint8)) := fun w => by kernel_rfl
  refine buildB_s (l := [0, 0, 0, 46]) hs4 rfl (h1 _) fun g5 w5 hs5 => ?_
  have h4 := (Sep.rd (hs5.pick [3] 4)).take (k := 4) (by omega) c1
  have e4 : Blk.none.rcd.take 4 = [0, 0, 0, 46] := by
    unfold Blk.rcd Blk.hd
    rw [List.append_assoc, List.append_assoc, List.take_left' (be_length _ _), b0_bytes]
    decide
  rw [e4] at h4
  refine cal_i (bEqual_spec h4 (Sep.rd hs5)) ?_
  rintro _ _ ⟨rfl, rfl⟩
  simp only [nilc_some, fad_mk, pik_true, pik_false, cnd_true, cnd_false, gif_same, gif_tf, gif_ft, gif_undef, bi_add, bi_sub, bi_mul, bi_eql, bi_neq, bi_lss, bi_leq, bi_gtr, bi_geq, notB_bool, cvi_int, lenS_mk, lenT_mk, ext0, ext1, ext2, nilP_mk, nilS_mk, fldv_agg, jn0_k, jn1_k, jn2_k, jn1_and, jn1_or, ex_some, Option.isNone_some, Option.isNone_none, Bool.false_bne, Bool.bne_true, Bool.bne_false, Bool.true_bne, Bool.not_true, Bool.not_false, Bool.and_true, Bool.true_and, Bool.and_false, Bool.false_and, Bool.or_true, Bool.true_or, Bool.or_false, Bool.false_or, cond_true, cond_false, List.getElem?_toArray, List.getElem?_cons_zero, List.getElem?_cons_succ, Nat.zero_add, Nat.add_zero, Nat.reduceAdd, forall_const, beq_self_eq_true]
  refine jn1_dup ?_
  simp only [L_api_Block (Sep.p1 hs5).blk, L_api_Block__Parent (Sep.p1 hs5).blk, L_api_Block__Height (Sep.p1 hs5).blk, L_api_Block__Data (Sep.p1 hs5).blk, B_api_Block]
  refine cal_i (rSame_spec (a := Blk.none) (b := Blk.none) (Sep.rd (hs5.pick [2] 4)) (rdNil w5)) ?_
  rintro _ w6 ⟨rfl, hf6⟩
  simp only [decide_true, nilc_some, fad_mk, pik_true, pik_false, cnd_true, cnd_false, gif_same, gif_tf, gif_ft, gif_undef, bi_add, bi_sub, bi_mul, bi_eql, bi_neq, bi_lss, bi_leq, bi_gtr, bi_geq, notB_bool, cvi_int, lenS_mk, lenT_mk, ext0, ext1, ext2, nilP_mk, nilS_mk, fldv_agg, jn0_k, jn1_k, jn2_k, jn1_and, jn1_or, ex_some, Option.isNone_some, Option.isNone_none, Bool.false_bne, Bool.bne_true, Bool.bne_false, Bool.true_bne, Bool.not_true, Bool.not_false, Bool.and_true, Bool.true_and, Bool.and_false, Bool.false_and, Bool.or_true, Bool.true_or, Bool.or_false, Bool.false_or, cond_true, cond_false, List.getElem?_toArray, List.getElem?_cons_zero, List.getElem?_cons_succ, Nat.zero_add, Nat.add_zero, Nat.reduceAdd, forall_const]
  exact hR _ _ ⟨rfl, (hs5.old hf6).fr0⟩
end
end Go.Fx
