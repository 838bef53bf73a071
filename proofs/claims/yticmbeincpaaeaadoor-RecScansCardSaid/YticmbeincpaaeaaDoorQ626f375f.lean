/-
  What is proved: for all arguments the law RecScans returns true, and its arguments read as they did. Conditions: none.
-/
import Derived.Test.YticmbeincpaaeaaDoorRows
import Derived.WalkKit
import Derived.ProofKit
import Derived.OpenShut
import Derived.ChangeOld
import Derived.Below
import Derived.Carry
import Derived.Test.YticmbeincpaaeaaDoorCards
import Derived.Test.YticmbeincpaaeaaDoorTie
import Derived.LaidMore
import Derived.Stop.Joined
import Derived.Test.YticmbeincpaaeaaDoorQfc5e6a7d
import Derived.Test.YticmbeincpaaeaaDoorQ00613b93
import Derived.Test.YticmbeincpaaeaaDoorQ29331318
set_option linter.unusedVariables false
set_option linter.unusedSimpArgs false
namespace Go.Fx
theorem notOk {l : List UInt8} (h : ¬ okP l) : parse l = Blk.none ∧ parseE l = 30 := by rw [parse, parseE, if_neg h, if_neg h]; exact ⟨rfl, rfl⟩
def R1 (l : List UInt8) := tk 2 l 0
def R2 (l : List UInt8) := tk 32 (R1 l).2.1 (R1 l).2.2
def R3 (l : List UInt8) := tk 8 (R2 l).2.1 (R2 l).2.2
def R4 (l : List UInt8) := ct 200 (R3 l).2.1 (R3 l).2.2
theorem run_good {l : List UInt8} (h : uend (R4 l).2.1 (R4 l).2.2 = 0) : ∃ (a p x n d : List UInt8), l = a ++ (p ++ (x ++ (n ++ d))) ∧ a.length = 2 ∧ p.length = 32 ∧ x.length = 8 ∧ n.length = 4 ∧ ofBe n = d.length ∧ d.length ≤ 200 ∧
    (R1 l).1 = a ∧ (R2 l).1 = p ∧ (R3 l).1 = x ∧ (R4 l).1 = d := by
  obtain ⟨h4, hnil⟩ := uend_ok h
  obtain ⟨h3, hl4, hm, hk, e4⟩ := ct_ok (show (ct 200 (R3 l).2.1 (R3 l).2.2).2.2 = 0 from h4)
  obtain ⟨h2, hl3, e3⟩ := tk_ok (show (tk 8 (R2 l).2.1 (R2 l).2.2).2.2 = 0 from h3)
  obtain ⟨h1, hl2, e2⟩ := tk_ok (show (tk 32 (R1 l).2.1 (R1 l).2.2).2.2 = 0 from h2)
  obtain ⟨_, hl1, e1⟩ := tk_ok (show (tk 2 l 0).2.2 = 0 from h1)
  have E1 : R1 l = (l.take 2, l.drop 2, 0) := e1
  have E2 : R2 l = _ := e2
  rw [E1] at E2 hl2
  have E3 : R3 l = _ := e3
  rw [E2] at E3 hl3
  have E4 : R4 l = _ := e4
  rw [E3] at E4 hl4 hk hm
  rw [E4] at hnil
  simp only [List.length_drop, List.drop_drop] at *
  have h46 : 46 ≤ l.length := by omega
  obtain ⟨a, p, x, n, d, hl, ha, hp, hx, hn⟩ := cut46 h46
  subst hl
  have d1 : (a ++ (p ++ (x ++ (n ++ d)))).drop 2 = p ++ (x ++ (n ++ d)) := List.drop_left' ha
  have d2 : (a ++ (p ++ (x ++ (n ++ d)))).drop (2 + 32) = x ++ (n ++ d) := by rw [← List.drop_drop, d1, List.drop_left' hp]
  have d3 : (a ++ (p ++ (x ++ (n ++ d)))).drop (2 + 32 + 8) = n ++ d := by rw [← List.drop_drop, d2, List.drop_left' hx]
  have d4 : (a ++ (p ++ (x ++ (n ++ d)))).drop (2 + 32 + 8 + 4) = d := by rw [← List.drop_drop, d3, List.drop_left' hn]
  rw [d3, List.take_left' hn] at hm hk hnil
  have hdl : d.length ≤ ofBe n := by
    have := congrArg List.length hnil
    simp only [List.length_drop, List.length_append, List.length_nil] at this
    omega
  simp only [List.length_append] at hk
  have hnd : ofBe n = d.length := by omega
  refine ⟨a, p, x, n, d, rfl, ha, hp, hx, hn, hnd, by omega, ?_, ?_, ?_, ?_⟩
  · rw [E1]; exact List.take_left' ha
  · rw [E2, d1]; exact List.take_left' hp
  · rw [E3, d2]; exact List.take_left' hx
  · rw [E4, d4, d3, List.take_left' hn]
    exact List.take_of_length_le (by omega)
theorem run_bad {l : List UInt8} (h : uend (R4 l).2.1 (R4 l).2.2 ≠ 0) : ¬ okP l := fun hok => by
  have hlen := hok.len
  obtain ⟨a, p, x, n, d, hl, ha, hp, hx, hn⟩ := cut46 hok.1
  subst hl
  obtain ⟨h1, h2, h3, h4⟩ := (okP_cut ha hp hx hn).1 hok
  apply h
  simp only [List.length_append] at hlen
  have E1 : R1 (a ++ (p ++ (x ++ (n ++ d)))) = (a, p ++ (x ++ (n ++ d)), 0) := tk_app ha
  have E2 : R2 (a ++ (p ++ (x ++ (n ++ d)))) = (p, x ++ (n ++ d), 0) := by rw [R2, E1]; exact tk_app hp
  have E3 : R3 (a ++ (p ++ (x ++ (n ++ d)))) = (x, n ++ d, 0) := by rw [R3, E2]; exact tk_app hx
  have E4 : R4 (a ++ (p ++ (x ++ (n ++ d)))) = (d, [], 0) := by rw [R4, E3]; exact ct_app hn h2 (by omega)
  rw [E4]
  rfl
theorem tk_rest (n : Nat) (b : List UInt8) (e : Int) : (tk n b e).2.1.length ≤ b.length := by unfold tk; split <;> (try split) <;> simp
section
variable {w0 w : World} {As : List Asn} {v : Value} {l : List UInt8}
theorem Parse_spec (hb : RdB w.heap v l) : cal P f_block_Parse [v] w fun r w' => ∃ v', r = .tuple #[bq (parse l) v', .int .i64 (parseE l)] ∧ Sep w w' [ownB v' (parse l).d] := by
  refine s_block_Parse fun R hR => ?_
  unfold c_block_Parse
  refine alloc_s (Sep.start w) (A_api_Block w) fun g2 w1 hs => ?_
  have bad : ¬ okP l → ∀ {w2 : World} {As}, Sep w w2 (blk g2 (Rdr.cells Q_api_Block (vz 32, (0 : Int), Value.slice none 0 0)).toArray T_api_Block :: As) → stN 34 (.pointer (some ⟨g2, 0, none⟩)) (bq Blk.none (.slice none 0 0)) w2 fun w => ldN 34 (.pointer (some ⟨g2, 0, none⟩)) w.heap fun r1 => R (.tuple #[r1, .int .i64 30]) w := fun hn w2 As hs => by
    rw [(notOk hn).1, (notOk hn).2] at hR
    refine St_api_Block hs (one_api_Block rfl) fun w6 hs6 => ?_
    simp only [L_api_Block hs6.blk, L_api_Block__Parent hs6.blk, L_api_Block__Height hs6.blk, L_api_Block__Data hs6.blk]
    refine hR _ _ ⟨_, rfl, ?_⟩
    exact (Sep.start w).old hs6.fr0 |>.nil
  have hlv := hb.len
  simp only [nilc_some, fad_mk, pik_true, pik_false, cnd_true, cnd_false, gif_same, gif_tf, gif_ft, gif_undef, bi_add, bi_sub, bi_mul, bi_eql, bi_neq, bi_lss, bi_leq, bi_gtr, bi_geq, notB_bool, cvi_int, lenS_mk, lenT_mk, ext0, ext1, ext2, nilP_mk, nilS_mk, fldv_agg, jn0_k, jn1_k, jn2_k, jn1_and, jn1_or, ex_some, Option.isNone_some, Option.isNone_none, Bool.false_bne, Bool.bne_true, Bool.bne_false, Bool.true_bne, Bool.not_true, Bool.not_false, Bool.and_true, Bool.true_and, Bool.and_false, Bool.false_and, Bool.or_true, Bool.true_or, Bool.or_false, Bool.false_or, cond_true, cond_false, List.getElem?_toArray, List.getElem?_cons_zero, List.getElem?_cons_succ, Nat.zero_add, Nat.add_zero, Nat.reduceAdd, forall_const, hlv, B_api_Block]
  rw [cnd_bool]
  refine ⟨fun h => ?_, fun h => ?_⟩
  · have h : 246 < l.length := by simp at h; omega
    exact bad (fun hk => by have := hk.len; omega) hs
  · have h : l.length ≤ 246 := by simp at h; omega
    refine cal_i (ReadS (hs.rdB hb) (by omega)) ?_
    rintro _ w2 ⟨g, s1, rfl, hs2⟩
    replace hs2 := hs.join hs2
    refine cal_i (uShortS hs2) ?_
    rintro v3 w3 ⟨hv3, s3, hs3⟩
    obtain rfl : v3 = .int .u16 ((ofBe (R1 l).1 : Nat) : Int) := hv3
    refine cal_i (uFixedS (n := 32) hs3 (by omega)) ?_
    rintro v4 w4 ⟨s4, hs4⟩
    replace hs4 := hs4.q2
    refine cal_i (uLongS hs4) ?_
    rintro v5 w5 ⟨hv5, s5, hs5⟩
    obtain rfl : v5 = .int .u64 ((ofBe (R3 l).1 : Nat) : Int) := hv5
    have hl3 : (R3 l).2.1.length ≤ 246 := Nat.le_trans (tk_rest _ _ _) (Nat.le_trans (tk_rest _ _ _) (Nat.le_trans (tk_rest _ _ _) h))
    refine cal_i (uBytesS (n := 200) hs5 (by omega) (Nat.le_trans hl3 (by omega))) ?_
    rintro v6 w6 ⟨s6, hs6⟩
    replace hs6 : Sep w w6 (ownB v6 (R4 l).1 :: uk g s6 (R4 l).2.2 :: ownB s6 (R4 l).2.1 :: ownB v4 (R2 l).1 :: blk g2 (Rdr.cells Q_api_Block (vz 32, (0 : Int), Value.slice none 0 0)).toArray T_api_Block :: []) := hs6
    refine cal_i (EndS hs6.q2) ?_
    rintro _ _ ⟨rfl, rfl⟩
    by_cases hu : uend (R4 l).2.1 (R4 l).2.2 = 0
    · obtain ⟨a, p, x, n, d, rfl, ha, hp, hx, hn, hnd, hd, e1, e2, e3, e4⟩ := run_good hu
      have hiff := okP_cut (d := d) ha hp hx hn
      have hpb := parB_cut (d := d) ha hp hx hn
      rw [e2, e4] at hs6
      generalize a ++ (p ++ (x ++ (n ++ d))) = l at *
      have hxl := ofBe_lt x
      rw [hx] at hxl
      simp only [hu, e1, e3, nilc_some, fad_mk, pik_true, pik_false, cnd_true, cnd_false, gif_same, gif_tf, gif_ft, gif_undef, bi_add, bi_sub, bi_mul, bi_eql, bi_neq, bi_lss, bi_leq, bi_gtr, bi_geq, notB_bool, cvi_int, lenS_mk, lenT_mk, ext0, ext1, ext2, nilP_mk, nilS_mk, fldv_agg, jn0_k, jn1_k, jn2_k, jn1_and, jn1_or, ex_some, Option.isNone_some, Option.isNone_none, Bool.false_bne, Bool.bne_true, Bool.bne_false, Bool.true_bne, Bool.not_true, Bool.not_false, Bool.and_true, Bool.true_and, Bool.and_false, Bool.false_and, Bool.or_true, Bool.true_or, Bool.or_false, Bool.false_or, cond_true, cond_false, List.getElem?_toArray, List.getElem?_cons_zero, List.getElem?_cons_succ, Nat.zero_add, Nat.add_zero, Nat.reduceAdd, forall_const, show ((0 : Int) != 0) = false from rfl]
      by_cases hv : ofBe a = 0
      · simp only [hv, nilc_some, fad_mk, pik_true, pik_false, cnd_true, cnd_false, gif_same, gif_tf, gif_ft, gif_undef, bi_add, bi_sub, bi_mul, bi_eql, bi_neq, bi_lss, bi_leq, bi_gtr, bi_geq, notB_bool, cvi_int, lenS_mk, lenT_mk, ext0, ext1, ext2, nilP_mk, nilS_mk, fldv_agg, jn0_k, jn1_k, jn2_k, jn1_and, jn1_or, ex_some, Option.isNone_some, Option.isNone_none, Bool.false_bne, Bool.bne_true, Bool.bne_false, Bool.true_bne, Bool.not_true, Bool.not_false, Bool.and_true, Bool.true_and, Bool.and_false, Bool.false_and, Bool.or_true, Bool.true_or, Bool.or_false, Bool.false_or, cond_true, cond_false, List.getElem?_toArray, List.getElem?_cons_zero, List.getElem?_cons_succ, Nat.zero_add, Nat.add_zero, Nat.reduceAdd, forall_const, Int.natCast_zero, show ((0 : Int) != 0) = false from rfl]
        rw [cnd_bool]
        refine ⟨fun hh => ?_, fun hh => ?_⟩
        · have hh : 9223372036854775807 < (ofBe x : Int) := by simpa using hh
          exact bad (fun hk => by have := (hiff.1 hk).2.2.1; unfold maxI at this; omega) hs6.p4
        · have hh : (ofBe x : Int) ≤ maxI := by unfold maxI; simpa using hh
          rw [wi64 (by omega) (by unfold maxI at hh; omega), B_api_Block_1_2 (Sep.one hs6)]
          refine alloc_s hs6 (A_api_Block _) fun g7 w7 hs7 => ?_
          refine St_api_Block hs7 (one_api_Block (Sep.one hs7.p1)) fun w8 hs8 => ?_
          simp only [nilc_some, fad_mk, pik_true, pik_false, cnd_true, cnd_false, gif_same, gif_tf, gif_ft, gif_undef, bi_add, bi_sub, bi_mul, bi_eql, bi_neq, bi_lss, bi_leq, bi_gtr, bi_geq, notB_bool, cvi_int, lenS_mk, lenT_mk, ext0, ext1, ext2, nilP_mk, nilS_mk, fldv_agg, jn0_k, jn1_k, jn2_k, jn1_and, jn1_or, ex_some, Option.isNone_some, Option.isNone_none, Bool.false_bne, Bool.bne_true, Bool.bne_false, Bool.true_bne, Bool.not_true, Bool.not_false, Bool.and_true, Bool.true_and, Bool.and_false, Bool.false_and, Bool.or_true, Bool.true_or, Bool.or_false, Bool.false_or, cond_true, cond_false, List.getElem?_toArray, List.getElem?_cons_zero, List.getElem?_cons_succ, Nat.zero_add, Nat.add_zero, Nat.reduceAdd, forall_const, sla_all]
          refine Fld.cpy (r := Q_api_Block) (Fld.fst Fld.self) S_sl_uint8 hs8 (Sep.rd hs8.p4) hp fun w9 hs9 => ?_
          obtain ⟨b, hbb⟩ : ∃ b, b = parB l := ⟨_, rfl⟩
          have hb1 : b = ⟨⟨p, hp⟩, ofBe x, d⟩ := by rw [hbb, hpb]
          have e5 : Rdr.cells Q_api_Block ((⟨p, hp⟩ : Vec 32), ((ofBe x : Nat) : Int), v6) = Rdr.cells Q_api_Block (b.p, b.h, v6) := by rw [hb1]
          have hs9' : Sep w w9 (blk g7 (Rdr.cells Q_api_Block (b.p, b.h, v6)).toArray T_api_Block :: ownB v6 d :: uk g s6 (R4 l).2.2 :: ownB s6 (R4 l).2.1 :: ownB v4 p :: blk g2 (Rdr.cells Q_api_Block (vz 32, (0 : Int), Value.slice none 0 0)).toArray T_api_Block :: []) := by rw [← e5]; exact hs9
          have hbd : b.d = d := by rw [hb1]
          simp only [L_api_Block hs9'.blk, L_api_Block__Parent hs9'.blk, L_api_Block__Height hs9'.blk, L_api_Block__Data hs9'.blk]
          refine cal_i (made_spec (b := b) (by rw [hbd]; exact Sep.rd hs9'.p1)) ?_
          rintro _ w10 ⟨v', rfl, hs10⟩
          replace hs10 := (hs9'.join hs10).pick [6, 0] 7
          simp only [nilc_some, fad_mk, pik_true, pik_false, cnd_true, cnd_false, gif_same, gif_tf, gif_ft, gif_undef, bi_add, bi_sub, bi_mul, bi_eql, bi_neq, bi_lss, bi_leq, bi_gtr, bi_geq, notB_bool, cvi_int, lenS_mk, lenT_mk, ext0, ext1, ext2, nilP_mk, nilS_mk, fldv_agg, jn0_k, jn1_k, jn2_k, jn1_and, jn1_or, ex_some, Option.isNone_some, Option.isNone_none, Bool.false_bne, Bool.bne_true, Bool.bne_false, Bool.true_bne, Bool.not_true, Bool.not_false, Bool.and_true, Bool.true_and, Bool.and_false, Bool.false_and, Bool.or_true, Bool.true_or, Bool.or_false, Bool.false_or, cond_true, cond_false, List.getElem?_toArray, List.getElem?_cons_zero, List.getElem?_cons_succ, Nat.zero_add, Nat.add_zero, Nat.reduceAdd, forall_const]
          refine St_api_Block hs10 (one_api_Block (Sep.one hs10.p1)) fun w11 hs11 => ?_
          simp only [L_api_Block hs11.blk, L_api_Block__Parent hs11.blk, L_api_Block__Height hs11.blk, L_api_Block__Data hs11.blk]
          have hp1 : parse l = b.mk' := by
            rw [hbb]
            by_cases hk : okP l
            · rw [parse, if_pos hk, Blk.mk', if_pos hk.2.2.1]
            · have : ¬ (parB l).chk = 0 := fun hc => hk (hiff.2 ⟨hv, hnd, hh, by rw [← hpb]; exact hc⟩)
              rw [parse, if_neg hk, Blk.mk', if_neg this]
          have hp2 : parseE l = b.chk := by
            rw [hbb]
            by_cases hk : okP l
            · rw [parseE, if_pos hk, hk.2.2.1]
            · have : ¬ (parB l).chk = 0 := fun hc => hk (hiff.2 ⟨hv, hnd, hh, by rw [← hpb]; exact hc⟩)
              rw [parseE, if_neg hk]
              rcases Blk.chk_or (parB l) with h0 | h0
              · exact absurd h0 this
              · exact h0.symm
          rw [hp1, hp2] at hR
          exact hR _ _ ⟨v', rfl, hs11.tail⟩
      · have e5 : (((ofBe a : Nat) : Int) != 0) = true := by simpa using hv
        simp only [e5, nilc_some, fad_mk, pik_true, pik_false, cnd_true, cnd_false, gif_same, gif_tf, gif_ft, gif_undef, bi_add, bi_sub, bi_mul, bi_eql, bi_neq, bi_lss, bi_leq, bi_gtr, bi_geq, notB_bool, cvi_int, lenS_mk, lenT_mk, ext0, ext1, ext2, nilP_mk, nilS_mk, fldv_agg, jn0_k, jn1_k, jn2_k, jn1_and, jn1_or, ex_some, Option.isNone_some, Option.isNone_none, Bool.false_bne, Bool.bne_true, Bool.bne_false, Bool.true_bne, Bool.not_true, Bool.not_false, Bool.and_true, Bool.true_and, Bool.and_false, Bool.false_and, Bool.or_true, Bool.true_or, Bool.or_false, Bool.false_or, cond_true, cond_false, List.getElem?_toArray, List.getElem?_cons_zero, List.getElem?_cons_succ, Nat.zero_add, Nat.add_zero, Nat.reduceAdd, forall_const]
        exact bad (fun hk => hv (hiff.1 hk).1) hs6.p4
    · have e5 : (uend (R4 l).2.1 (R4 l).2.2 != 0) = true := by simpa using hu
      simp only [e5, nilc_some, fad_mk, pik_true, pik_false, cnd_true, cnd_false, gif_same, gif_tf, gif_ft, gif_undef, bi_add, bi_sub, bi_mul, bi_eql, bi_neq, bi_lss, bi_leq, bi_gtr, bi_geq, notB_bool, cvi_int, lenS_mk, lenT_mk, ext0, ext1, ext2, nilP_mk, nilS_mk, fldv_agg, jn0_k, jn1_k, jn2_k, jn1_and, jn1_or, ex_some, Option.isNone_some, Option.isNone_none, Bool.false_bne, Bool.bne_true, Bool.bne_false, Bool.true_bne, Bool.not_true, Bool.not_false, Bool.and_true, Bool.true_and, Bool.and_false, Bool.false_and, Bool.or_true, Bool.true_or, Bool.or_false, Bool.false_or, cond_true, cond_false, List.getElem?_toArray, List.getElem?_cons_zero, List.getElem?_cons_succ, Nat.zero_add, Nat.add_zero, Nat.reduceAdd, forall_const]
      exact bad (run_bad hu) hs6.p4
end
end Go.Fx
set_option linter.unusedVariables false
set_option linter.unusedSimpArgs false
namespace Go.Fx
section
variable {w0 w : World} {As : List Asn} {v : Value} {l : List UInt8}
/-- The cells of a name, so far. -/
theorem part_par {p : Vec 32} {i : Nat} : (part p.1 i).length = 32 ∨ 32 < i := by
  rcases Nat.lt_or_ge 32 i with h | h
  · exact .inr h
  · left; rw [part_len _ (by rw [p.2]; exact h), p.2]
theorem rParse_spec (hb : RdB w.heap v l) (hcap : capOk v) (hln : l.length ≤ 9223372036854775807) : cal P f_ref03_Parse [v] w fun r w' => ∃ v', r = .tuple #[bq (parse l) v', .int .i64 (parseE l)] ∧ Sep w w' [ownB v' (parse l).d] := by
  refine s_ref03_Parse fun R hR => ?_
  unfold c_ref03_Parse
  refine alloc_s (Sep.start w) (A_api_Block w) fun g2 w1 hs => ?_
  have bad : ¬ okP l → ∀ {w2 : World} {As}, Sep w w2 (blk g2 (Rdr.cells Q_api_Block (vz 32, (0 : Int), Value.slice none 0 0)).toArray T_api_Block :: As) → stN 34 (.pointer (some ⟨g2, 0, none⟩)) (bq Blk.none (.slice none 0 0)) w2 fun w => ldN 34 (.pointer (some ⟨g2, 0, none⟩)) w.heap fun r1 => R (.tuple #[r1, .int .i64 30]) w := fun hn w2 As hs => by
    rw [(notOk hn).1, (notOk hn).2] at hR
    refine St_api_Block hs (one_api_Block rfl) fun w6 hs6 => ?_
    simp only [L_api_Block hs6.blk, L_api_Block__Parent hs6.blk, L_api_Block__Height hs6.blk, L_api_Block__Data hs6.blk]
    refine hR _ _ ⟨_, rfl, ?_⟩
    exact (Sep.start w).old hs6.fr0 |>.nil
  have hlv := hb.len
  simp only [nilc_some, fad_mk, pik_true, pik_false, cnd_true, cnd_false, gif_same, gif_tf, gif_ft, gif_undef, bi_add, bi_sub, bi_mul, bi_eql, bi_neq, bi_lss, bi_leq, bi_gtr, bi_geq, notB_bool, cvi_int, lenS_mk, lenT_mk, ext0, ext1, ext2, nilP_mk, nilS_mk, fldv_agg, jn0_k, jn1_k, jn2_k, jn1_and, jn1_or, ex_some, Option.isNone_some, Option.isNone_none, Bool.false_bne, Bool.bne_true, Bool.bne_false, Bool.true_bne, Bool.not_true, Bool.not_false, Bool.and_true, Bool.true_and, Bool.and_false, Bool.false_and, Bool.or_true, Bool.true_or, Bool.or_false, Bool.false_or, cond_true, cond_false, List.getElem?_toArray, List.getElem?_cons_zero, List.getElem?_cons_succ, Nat.zero_add, Nat.add_zero, Nat.reduceAdd, forall_const, hlv, B_api_Block]
  rw [cnd_bool]
  refine ⟨fun h => ?_, fun h => ?_⟩
  · have h : l.length < 46 := by simp at h; omega
    exact bad (fun hk => by have := hk.1; omega) hs
  have h : 46 ≤ l.length := by simp at h; omega
  obtain ⟨av, cv, rfl⟩ := hb.form
  have hcv : l.length ≤ cv := hcap _ _ _ rfl
  obtain ⟨x, hxx⟩ : ∃ x, x = (l.drop 34).take 8 := ⟨_, rfl⟩
  obtain ⟨hw, hhw⟩ : ∃ hw, hw = IntKind.i64.wrap ((ofBe x : Nat) : Int) := ⟨_, rfl⟩
  obtain ⟨u, huu⟩ : ∃ u, u = Value.slice (if cv = 46 then av else av.map (·.add (46 * 1))) (l.length - 46) (cv - 46) := ⟨_, rfl⟩
  have hu : ∀ z : World, RdB z.heap (.slice av l.length cv) l → RdB z.heap u (l.drop 46) := fun z hz => by rw [huu]; exact hz.drop h hcv (cv - 46)
  have hu1 : u.oneCell' = true := by rw [huu]; split <;> rfl
  refine drH_T hs fun w2 hs2 _ => ?_
  refine ⟨fun t w' => ∃ g4, t = .pointer (some ⟨g4, 0, none⟩) ∧ Sep w w' (blk g4 (Rdr.cells Q_api_Block (vz 32, hw, u)).toArray T_api_Block :: blk g2 (Rdr.cells Q_api_Block (vz 32, (0 : Int), Value.slice none 0 0)).toArray T_api_Block :: []), ?_, ?_⟩
  · change slc 1 _ _ _ _
    rw [show (Value.int .i64 34) = .int .i64 ((34 : Nat) : Int) from rfl, show (Value.int .i64 42) = .int .i64 ((42 : Nat) : Int) from rfl, slc_mid (by omega) (by omega), show (Value.int .i64 46) = .int .i64 ((46 : Nat) : Int) from rfl, slc_from h, ← huu]
    have hv : ∀ {z : World} {As}, Sep w z As → RdB z.heap (Value.slice (if cv = 34 then av else av.map (·.add (34 * 1))) (42 - 34) (cv - 34)) x := fun {z As} hz => by
      rw [hxx]
      exact ((hz.rdB hb).drop (k := 34) (by omega) hcv (cv - 34)).take (k := 8) (by omega) (cv - 34)
    have hx8 : x.length = 8 := by rw [hxx]; simp; omega
    refine ⟨efC_calT (cal_i (rVal_spec (hv hs2) (by omega)) ?_), efS_i (alloc_s hs2 (A_api_Block w2) fun g4 w3 hs3 => ⟨trivial, efC_calT (cal_i (rVal_spec (hv hs3) (by omega)) ?_)⟩), trivial⟩
    · rintro _ _ ⟨rfl, rfl⟩
      rw [cvi_int, ← hhw]
      refine ⟨_, fun z _ => (B_api_Block_1_2 hu1 _).mpr rfl, ?_⟩
      refine efS_i (alloc_s hs2 (A_api_Block w2) fun g4 w3 hs3 => ⟨trivial, ?_⟩)
      refine efC_stN (St_api_Block hs3 (one_api_Block hu1) fun w4 hs4 => ⟨g4, rfl, hs4⟩)
    · rintro _ _ ⟨rfl, rfl⟩
      rw [cvi_int, ← hhw]
      refine ⟨_, fun z _ => (B_api_Block_1_2 hu1 _).mpr rfl, ?_⟩
      refine efC_stN (St_api_Block hs3 (one_api_Block hu1) fun w4 hs4 => ⟨g4, rfl, hs4⟩)
  · rintro _ w3 ⟨g4, rfl, hs3⟩ _
    obtain ⟨p, hpp⟩ : ∃ p, p = vec32 (l.drop 2) := ⟨_, rfl⟩
    have hpv : p.1 = (l.drop 2).take 32 := by rw [hpp]; exact vec32_of (by simp; omega)
    have hpl := p.2
    have pv : ∀ i, i ≤ 32 → ∃ q : Vec 32, q.1 = part p.1 i := fun i hi => ⟨⟨part p.1 i, by rw [part_len _ (by omega), hpl]⟩, rfl⟩
    refine ⟨fun y w' => ∃ (i : Nat) (q : Vec 32), y = .int .i64 i ∧ i ≤ 32 ∧ q.1 = part p.1 i ∧ Sep w w' (blk g4 (Rdr.cells Q_api_Block (q, hw, u)).toArray T_api_Block :: blk g2 (Rdr.cells Q_api_Block (vz 32, (0 : Int), Value.slice none 0 0)).toArray T_api_Block :: []),
      fun y _ => (32 - RowKit.intOf y).toNat, ⟨0, vz 32, rfl, by omega, by rw [part_zero, hpl]; rfl, hs3⟩, ?_⟩
    rintro _ w4 ⟨i, q, rfl, hi, hq, hs4⟩ -
    simp only [nilc_some, fad_mk, pik_true, pik_false, cnd_true, cnd_false, gif_same, gif_tf, gif_ft, gif_undef, bi_add, bi_sub, bi_mul, bi_eql, bi_neq, bi_lss, bi_leq, bi_gtr, bi_geq, notB_bool, cvi_int, lenS_mk, lenT_mk, ext0, ext1, ext2, nilP_mk, nilS_mk, fldv_agg, jn0_k, jn1_k, jn2_k, jn1_and, jn1_or, ex_some, Option.isNone_some, Option.isNone_none, Bool.false_bne, Bool.bne_true, Bool.bne_false, Bool.true_bne, Bool.not_true, Bool.not_false, Bool.and_true, Bool.true_and, Bool.and_false, Bool.false_and, Bool.or_true, Bool.true_or, Bool.or_false, Bool.false_or, cond_true, cond_false, List.getElem?_toArray, List.getElem?_cons_zero, List.getElem?_cons_succ, Nat.zero_add, Nat.add_zero, Nat.reduceAdd, forall_const]
    rw [cnd_bool]
    refine ⟨fun hlt => ?_, fun hlt => ?_⟩
    · have h32 : i < 32 := by simp at hlt; omega
      have e : IntKind.i64.wrap (2 + (i : Int)) = ((2 + i : Nat) : Int) := by rw [wi64 (by omega) (by omega)]; omega
      rw [e]
      refine ldxB (hs4.rdB hb) (by omega) ?_
      rw [ixa_w .i64 h32]
      have hby : p.1[i]? = some (l[2 + i]'(by omega)) := by
        rw [hpv, List.getElem?_take_of_lt h32, List.getElem?_drop, List.getElem?_eq_getElem (by omega)]
      obtain ⟨q', hq'⟩ := pv (i + 1) (by omega)
      have e1 : Rdr.cells Q_api_Block (q, hw, u) = bvs (part p.1 i) ++ [.int .i64 hw, u] := by rw [← hq]; rfl
      have e2 : Rdr.cells Q_api_Block (q', hw, u) = bvs (part p.1 (i + 1)) ++ [.int .i64 hw, u] := by rw [← hq']; rfl
      rw [e1] at hs4
      have hpi := part_len p.1 (i := i) (by omega)
      refine st1_s hs4 (by simp [bvs]; omega) rfl fun w5 hs5 => ?_
      have e3 : (bvs (part p.1 i) ++ [.int .i64 hw, u]).toArray.setIfInBounds i (bv (l[2 + i]'(by omega))) = (Rdr.cells Q_api_Block (q', hw, u)).toArray := by
        rw [e2, ← part_set hby]
        apply Array.ext'
        simp only [Array.toList_setIfInBounds]
        rw [List.set_append_left _ _ (by simp [bvs]; omega)]
        simp [bvs, List.map_set]
      rw [e3] at hs5
      rw [wi64 (by omega) (by omega)]
      exact ⟨⟨i + 1, q', by simp, by omega, hq', hs5⟩, by simp [RowKit.intOf]; omega⟩
    · have h32 : i = 32 := by simp at hlt; omega
      subst h32
      have hqp : q = p := by
        apply Subtype.ext
        rw [hq]
        have := part_all (o := p.1)
        rwa [hpl] at this
      subst hqp
      obtain ⟨b, hbb⟩ : ∃ b : Blk, b = ⟨q, hw, l.drop 46⟩ := ⟨_, rfl⟩
      have e1 : Rdr.cells Q_api_Block (q, hw, u) = Rdr.cells Q_api_Block (b.p, b.h, u) := by rw [hbb]
      have hbd : b.d = l.drop 46 := by rw [hbb]
      have hbh : b.h = hw := by rw [hbb]
      rw [e1] at hs4
      have hhm : hw ≤ maxI := by
        have hxl := ofBe_lt x
        have hx8 : x.length = 8 := by rw [hxx]; simp; omega
        rw [hx8] at hxl
        rw [hhw, IntKind.wrap_i64]
        unfold maxI
        omega
      have hrd : ∀ {z : World} {As}, Sep w z As → RdB z.heap u b.d := fun {z As} hz => by rw [hbd]; exact hu _ (hz.rdB hb)
      simp only [L_api_Block hs4.blk, L_api_Block__Parent hs4.blk, L_api_Block__Height hs4.blk, L_api_Block__Data hs4.blk]
      refine cal_i (rbBytes_spec (b := b) (hrd hs4) (by rw [hbh]; exact hhm)) ?_
      rintro _ w5 ⟨s5, rfl, hs5⟩
      replace hs5 := hs4.join hs5
      simp only [nilc_some, fad_mk, pik_true, pik_false, cnd_true, cnd_false, gif_same, gif_tf, gif_ft, gif_undef, bi_add, bi_sub, bi_mul, bi_eql, bi_neq, bi_lss, bi_leq, bi_gtr, bi_geq, notB_bool, cvi_int, lenS_mk, lenT_mk, ext0, ext1, ext2, nilP_mk, nilS_mk, fldv_agg, jn0_k, jn1_k, jn2_k, jn1_and, jn1_or, ex_some, Option.isNone_some, Option.isNone_none, Bool.false_bne, Bool.bne_true, Bool.bne_false, Bool.true_bne, Bool.not_true, Bool.not_false, Bool.and_true, Bool.true_and, Bool.and_false, Bool.false_and, Bool.or_true, Bool.true_or, Bool.or_false, Bool.false_or, cond_true, cond_false, List.getElem?_toArray, List.getElem?_cons_zero, List.getElem?_cons_succ, Nat.zero_add, Nat.add_zero, Nat.reduceAdd, forall_const]
      -- whether it may be
      have hokh : okP l → b = parB l := fun hk => by
        have h2 := hk.2.1
        rw [hbb, parB, hhw, hxx, hpp]
        congr 1
        exact wi64 (by omega) h2
      have hbok : b.chk = 0 → b.bytes = l → okP l := fun hc he => by
        have hck := Blk.chk_ok hc
        have := (parse_bytes hc (by rw [hbh]; exact hhm)).1
        rwa [he] at this
      rcases Blk.chk_or b with h0 | h0
      · have hck := Blk.chk_ok h0
        have ho : b.out = b.bytes := by rw [Blk.out, if_pos h0]
        rw [ho] at hs5
        simp only [h0, nilc_some, fad_mk, pik_true, pik_false, cnd_true, cnd_false, gif_same, gif_tf, gif_ft, gif_undef, bi_add, bi_sub, bi_mul, bi_eql, bi_neq, bi_lss, bi_leq, bi_gtr, bi_geq, notB_bool, cvi_int, lenS_mk, lenT_mk, ext0, ext1, ext2, nilP_mk, nilS_mk, fldv_agg, jn0_k, jn1_k, jn2_k, jn1_and, jn1_or, ex_some, Option.isNone_some, Option.isNone_none, Bool.false_bne, Bool.bne_true, Bool.bne_false, Bool.true_bne, Bool.not_true, Bool.not_false, Bool.and_true, Bool.true_and, Bool.and_false, Bool.false_and, Bool.or_true, Bool.true_or, Bool.or_false, Bool.false_or, cond_true, cond_false, List.getElem?_toArray, List.getElem?_cons_zero, List.getElem?_cons_succ, Nat.zero_add, Nat.add_zero, Nat.reduceAdd, forall_const, show ((0 : Int) != 0) = false from rfl]
        refine jn1_dup ?_
        rw [rdP_eq (conv_str UT_bytes UT_uint8 UT_string (Sep.rd hs5)), rdP_eq (conv_str UT_bytes UT_uint8 UT_string (hs5.rdB hb)), neS_str]
        intro _
        rw [cnd_bool]
        refine ⟨fun he => ?_, fun he => ?_⟩
        · have he : b.bytes ≠ l := by simpa using he
          exact bad (fun hk => he (by rw [hokh hk]; exact hk.2.2.2)) (hs5.pick [2] 3)
        · have he : b.bytes = l := by simpa using he
          have hk := hbok h0 he
          have hp : parse l = b := by rw [parse, if_pos hk, hokh hk]
          have hpe : parseE l = 0 := by rw [parseE, if_pos hk]
          rw [hp, hpe] at hR
          simp only [L_api_Block (Sep.p1 hs5).blk, L_api_Block__Parent (Sep.p1 hs5).blk, L_api_Block__Height (Sep.p1 hs5).blk, L_api_Block__Data (Sep.p1 hs5).blk]
          refine cal_i (rbClone_spec (b := b) (hrd hs5) (by omega)) ?_
          rintro _ w6 ⟨v', rfl, hs6⟩
          replace hs6 := (hs5.join hs6).pick [3, 0] 4
          refine St_api_Block hs6 (one_api_Block (Sep.one hs6.p1)) fun w7 hs7 => ?_
          simp only [L_api_Block hs7.blk, L_api_Block__Parent hs7.blk, L_api_Block__Height hs7.blk, L_api_Block__Data hs7.blk]
          exact hR _ _ ⟨v', rfl, hs7.tail⟩
      · simp only [h0, nilc_some, fad_mk, pik_true, pik_false, cnd_true, cnd_false, gif_same, gif_tf, gif_ft, gif_undef, bi_add, bi_sub, bi_mul, bi_eql, bi_neq, bi_lss, bi_leq, bi_gtr, bi_geq, notB_bool, cvi_int, lenS_mk, lenT_mk, ext0, ext1, ext2, nilP_mk, nilS_mk, fldv_agg, jn0_k, jn1_k, jn2_k, jn1_and, jn1_or, ex_some, Option.isNone_some, Option.isNone_none, Bool.false_bne, Bool.bne_true, Bool.bne_false, Bool.true_bne, Bool.not_true, Bool.not_false, Bool.and_true, Bool.true_and, Bool.and_false, Bool.false_and, Bool.or_true, Bool.true_or, Bool.or_false, Bool.false_or, cond_true, cond_false, List.getElem?_toArray, List.getElem?_cons_zero, List.getElem?_cons_succ, Nat.zero_add, Nat.add_zero, Nat.reduceAdd, forall_const, show ((30 : Int) != 0) = true from rfl]
        exact bad (fun hk => by rw [hokh hk, hk.2.2.1] at h0; cases h0) (hs5.pick [2] 3)
end
end Go.Fx
set_option linter.unusedVariables false
set_option linter.unusedSimpArgs false
namespace Go.Fx
abbrev BV := Blk × Value
def BV.t (x : BV) : Vec 32 × Int × Value := (x.1.p, x.1.h, x.2)
/-- A slice of blocks, each with what its data read as. -/
def BRows (h : Heap) (v : Value) (l : List BV) : Prop := Rows' Q_api_Block h v (l.map BV.t) ∧ ∀ x ∈ l, RdB h x.2 x.1.d
theorem BRows.fr {w w' : World} {v : Value} {l : List BV} (h : BRows w.heap v l) (hf : Fr [] w w') : BRows w'.heap v l := ⟨h.1.fr hf, fun x hx => (h.2 x hx).fr hf (off_nil _)⟩
theorem BRows.len {h : Heap} {v : Value} {l : List BV} (hr : BRows h v l) (K : Value → Prop) : lenS v K = K (.int .i64 l.length) := by
  have := hr.1.len K
  rwa [List.length_map] at this
/-- 'l[j]'. -/
theorem BRows.ld {w : World} {v : Value} {l : List BV} {j : Nat} {x : BV} (hr : BRows w.heap v l) (hj : l[j]? = some x) (k : IntKind) {K : Value → Prop} (h : K (bq x.1 x.2)) : ixs 34 v (.int k (j : Int)) fun t => ldN 34 t w.heap K := by
  have : (l.map BV.t)[j]? = some x.t := by rw [List.getElem?_map, hj]; rfl
  exact Rows'.ldN (q := Q_api_Block) (by decide) hr.1 this k h
theorem qV (a : Vec 32 × Int × Value) : (Value.agg (Rdr.cells Q_api_Block a).toArray).cells = (Rdr.cells Q_api_Block a).toArray := rfl
section
variable {w0 w : World} {As : List Asn} {v : Value}
def ga : Blk := Blk.first [103]
theorem ga_chk : ga.chk = 0 := by decide +kernel
theorem ga_bytes : ga.bytes = List.replicate 42 0 ++ [0, 0, 0, 1, 103] := by decide +kernel
/-- A block's variable, read in a region that draws. -/
theorem rdS_bb {S : World → Prop} {g : Nat} {b : Blk} {v : Value} {K : Value → Prop} (hS : ∀ u, S u → ∃ t fr, u.heap[g]? = some (.cells (Rdr.cells Q_api_Block (b.p, b.h, v)).toArray t fr)) (hk : K (bq b v)) :
    rdS S (fun w => ldN 34 (.pointer (some ⟨g, 0, none⟩)) w.heap) K := ⟨_, fun u hu => by obtain ⟨t, fr, hg⟩ := hS u hu; exact (L_api_Block hg _).mpr rfl, hk⟩
/-- A block that is an argument. -/
abbrev ab (x : Vec 32 × Int × Sl UInt8) : Blk := ⟨x.1, x.2.1, x.2.2.l⟩
theorem ab_rd {h : Heap} {x : Vec 32 × Int × Sl UInt8} (hx : Rdr.ok R_api_Block h x) : RdB h x.2.2.v (ab x).d := hx.2.2.1
theorem ab_h {h : Heap} {x : Vec 32 × Int × Sl UInt8} (hx : Rdr.ok R_api_Block h x) : (ab x).h ≤ maxI := by
  have := Go.bounds_i64 hx.2.1
  unfold maxI
  show x.2.1 ≤ _
  omega
theorem ab_len {h : Heap} {x : Vec 32 × Int × Sl UInt8} (hx : Rdr.ok R_api_Block h x) : (ab x).d.length ≤ 9223372036854775807 := hx.2.2.2.1
end
end Go.Fx
set_option linter.unusedVariables false
set_option linter.unusedSimpArgs false
namespace Go.Fx
/-- What stands ahead of a record's tail. -/
def Blk.hd (b : Blk) : List UInt8 := be 4 b.bytes.length ++ be 8 b.h.toNat ++ b.bytes
def tail8 (l : List UInt8) : List UInt8 := (shaM l).1.take 8
def Blk.rcd (b : Blk) : List UInt8 := b.hd ++ tail8 b.hd
def Blk.recO (b : Blk) : List UInt8 := if b.chk = 0 then b.rcd else []
theorem tail8_len (l : List UInt8) : (tail8 l).length = 8 := by unfold tail8; rw [List.length_take, (shaM l).2]; rfl
theorem Blk.hd_len (b : Blk) : b.hd.length = 58 + b.d.length := by
  unfold Blk.hd
  simp only [List.length_append, be_length, Blk.bytes_len]
  omega
theorem Blk.rec_len (b : Blk) : b.rcd.length = 66 + b.d.length := by
  unfold Blk.rcd
  rw [List.length_append, Blk.hd_len, tail8_len]
  omega
theorem Blk.recO_len (b : Blk) : b.recO.length = if b.chk = 0 then 66 + b.d.length else 0 := by
  unfold Blk.recO
  split
  · exact Blk.rec_len b
  · rfl
theorem Blk.recO_le (b : Blk) : b.recO.length ≤ 266 := by
  rw [Blk.recO_len]
  split
  · rename_i h
    have := Blk.chk_ok h
    omega
  · omega
/-- 'x[:j]', x an array. -/
theorem sla_to {size g len j : Nat} (hj : j ≤ len) (K : Value → Prop) : sla len size (.pointer (some ⟨g, 0, none⟩)) none (some (.int .i64 (j : Int))) K = K (.slice (some ⟨g, 0, none⟩) j len) := by
  have e : (if len = 0 then (⟨g, 0, none⟩ : Addr) else Addr.add ⟨g, 0, none⟩ (0 * size)) = ⟨g, 0, none⟩ := by
    split
    · rfl
    · rw [Nat.zero_mul, Addr_add_mk, Nat.add_zero]
  refine propext ⟨?_, fun hk => ⟨_, rfl, ?_⟩⟩
  · rintro ⟨a, ha, hk⟩
    cases ha
    obtain ⟨k, j', hj', h0, h1, hk⟩ := hk
    cases hj'
    simp only [bndO, e, Nat.sub_zero, Int.toNat_natCast] at hk
    exact hk
  · refine ⟨.i64, (j : Int), rfl, by omega, by omega, ?_⟩
    simp only [bndO, e, Nat.sub_zero, Int.toNat_natCast]
    exact hk
section
variable {w0 w z : World} {As : List Asn} {v : Value} {b : Blk}
/-- An array's first bytes. -/
theorem rd_arr {g n c k : Nat} {a : Vec n} {T : TypeId} (h : Sep w0 z (blk g (Rdr.cells (rVec n) a).toArray T :: As)) (hk : k ≤ n) : RdB z.heap (.slice (some ⟨g, 0, none⟩) k c) (a.1.take k) := by
  have hat : At z.heap g 0 (bvs a.1) := At.blk (cs := Rdr.cells (rVec n) a) h.blk
  have := At.rd (c := c) hat
  rw [a.2] at this
  exact this.take hk c
theorem recBytes_spec (hc : Cub w) (hb : RdB w.heap v b.d) (hh : b.h ≤ maxI) : cal P f_rec_Bytes [bq b v] w fun r w' => ∃ s, r = .tuple #[s, .int .i64 b.chk] ∧ Sep w w' [ownB s b.recO] := by
  refine s_rec_Bytes fun R hR => ?_
  unfold c_rec_Bytes
  refine bxQ (Sep.start w) fun g w1 hs => ?_
  simp only [L_api_Block hs.blk, L_api_Block__Parent hs.blk, L_api_Block__Height hs.blk, L_api_Block__Data hs.blk]
  refine cal_i (bkBytes_spec (hs.rdB hb) hh) ?_
  rintro _ w2 ⟨s2, rfl, hs2⟩
  replace hs2 := hs.join hs2
  simp only [nilc_some, fad_mk, pik_true, pik_false, cnd_true, cnd_false, gif_same, gif_tf, gif_ft, gif_undef, bi_add, bi_sub, bi_mul, bi_eql, bi_neq, bi_lss, bi_leq, bi_gtr, bi_geq, notB_bool, cvi_int, lenS_mk, lenT_mk, ext0, ext1, ext2, nilP_mk, nilS_mk, fldv_agg, jn0_k, jn1_k, jn2_k, jn1_and, jn1_or, ex_some, Option.isNone_some, Option.isNone_none, Bool.false_bne, Bool.bne_true, Bool.bne_false, Bool.true_bne, Bool.not_true, Bool.not_false, Bool.and_true, Bool.true_and, Bool.and_false, Bool.false_and, Bool.or_true, Bool.true_or, Bool.or_false, Bool.false_or, cond_true, cond_false, List.getElem?_toArray, List.getElem?_cons_zero, List.getElem?_cons_succ, Nat.zero_add, Nat.add_zero, Nat.reduceAdd, forall_const]
  rcases Blk.chk_or b with h0 | h0
  · have hck := Blk.chk_ok h0
    have ho : b.out = b.bytes := if_pos h0
    have hro : b.recO = b.rcd := if_pos h0
    have hbl := b.bytes_len
    rw [ho] at hs2
    rw [hro, h0] at hR
    simp only [h0, nilc_some, fad_mk, pik_true, pik_false, cnd_true, cnd_false, gif_same, gif_tf, gif_ft, gif_undef, bi_add, bi_sub, bi_mul, bi_eql, bi_neq, bi_lss, bi_leq, bi_gtr, bi_geq, notB_bool, cvi_int, lenS_mk, lenT_mk, ext0, ext1, ext2, nilP_mk, nilS_mk, fldv_agg, jn0_k, jn1_k, jn2_k, jn1_and, jn1_or, ex_some, Option.isNone_some, Option.isNone_none, Bool.false_bne, Bool.bne_true, Bool.bne_false, Bool.true_bne, Bool.not_true, Bool.not_false, Bool.and_true, Bool.true_and, Bool.and_false, Bool.false_and, Bool.or_true, Bool.true_or, Bool.or_false, Bool.false_or, cond_true, cond_false, List.getElem?_toArray, List.getElem?_cons_zero, List.getElem?_cons_succ, Nat.zero_add, Nat.add_zero, Nat.reduceAdd, forall_const, show ((0 : Int) != 0) = false from rfl]
    refine cal_i (NewS 258 (by omega)) ?_
    rintro _ w3 ⟨gp, rfl, hs3⟩
    replace hs3 := hs2.join hs3
    simp only [nilc_some, fad_mk, pik_true, pik_false, cnd_true, cnd_false, gif_same, gif_tf, gif_ft, gif_undef, bi_add, bi_sub, bi_mul, bi_eql, bi_neq, bi_lss, bi_leq, bi_gtr, bi_geq, notB_bool, cvi_int, lenS_mk, lenT_mk, ext0, ext1, ext2, nilP_mk, nilS_mk, fldv_agg, jn0_k, jn1_k, jn2_k, jn1_and, jn1_or, ex_some, Option.isNone_some, Option.isNone_none, Bool.false_bne, Bool.bne_true, Bool.bne_false, Bool.true_bne, Bool.not_true, Bool.not_false, Bool.and_true, Bool.true_and, Bool.and_false, Bool.false_and, Bool.or_true, Bool.true_or, Bool.or_false, Bool.false_or, cond_true, cond_false, List.getElem?_toArray, List.getElem?_cons_zero, List.getElem?_cons_succ, Nat.zero_add, Nat.add_zero, Nat.reduceAdd, forall_const, (Sep.rd hs2).len]
    rw [wu32i (by omega) (by omega)]
    refine cal_i (IntS hs3 (by omega) (by omega) (by simp)) ?_
    rintro _ w4 ⟨rfl, s4, hs4⟩
    simp only [nilc_some, fad_mk, pik_true, pik_false, cnd_true, cnd_false, gif_same, gif_tf, gif_ft, gif_undef, bi_add, bi_sub, bi_mul, bi_eql, bi_neq, bi_lss, bi_leq, bi_gtr, bi_geq, notB_bool, cvi_int, lenS_mk, lenT_mk, ext0, ext1, ext2, nilP_mk, nilS_mk, fldv_agg, jn0_k, jn1_k, jn2_k, jn1_and, jn1_or, ex_some, Option.isNone_some, Option.isNone_none, Bool.false_bne, Bool.bne_true, Bool.bne_false, Bool.true_bne, Bool.not_true, Bool.not_false, Bool.and_true, Bool.true_and, Bool.and_false, Bool.false_and, Bool.or_true, Bool.true_or, Bool.or_false, Bool.false_or, cond_true, cond_false, List.getElem?_toArray, List.getElem?_cons_zero, List.getElem?_cons_succ, Nat.zero_add, Nat.add_zero, Nat.reduceAdd, forall_const, L_api_Block (Sep.p3 hs4).blk, L_api_Block__Parent (Sep.p3 hs4).blk, L_api_Block__Height (Sep.p3 hs4).blk, L_api_Block__Data (Sep.p3 hs4).blk, u64_h hck.1 hh]
    refine cal_i (LongS hs4 (by omega) (by unfold maxI at hh; omega) (by simp [be_length])) ?_
    rintro _ w5 ⟨rfl, s5, hs5⟩
    refine cal_i (FixedS hs5 (c := b.bytes) (by omega) (fun z hz => hz.rd) (by simp [be_length]; omega)) ?_
    rintro _ w6 ⟨rfl, s6, hs6⟩
    refine cal_i (OutS hs6 (by simp [be_length]; omega)) ?_
    rintro _ w8 ⟨r, rfl, hs8⟩
    have e : [] ++ be 4 b.bytes.length ++ be 8 b.h.toNat ++ b.bytes = b.hd := by simp [Blk.hd]
    rw [e] at hs8
    simp only [nilc_some, fad_mk, pik_true, pik_false, cnd_true, cnd_false, gif_same, gif_tf, gif_ft, gif_undef, bi_add, bi_sub, bi_mul, bi_eql, bi_neq, bi_lss, bi_leq, bi_gtr, bi_geq, notB_bool, cvi_int, lenS_mk, lenT_mk, ext0, ext1, ext2, nilP_mk, nilS_mk, fldv_agg, jn0_k, jn1_k, jn2_k, jn1_and, jn1_or, ex_some, Option.isNone_some, Option.isNone_none, Bool.false_bne, Bool.bne_true, Bool.bne_false, Bool.true_bne, Bool.not_true, Bool.not_false, Bool.and_true, Bool.true_and, Bool.and_false, Bool.false_and, Bool.or_true, Bool.true_or, Bool.or_false, Bool.false_or, cond_true, cond_false, List.getElem?_toArray, List.getElem?_cons_zero, List.getElem?_cons_succ, Nat.zero_add, Nat.add_zero, Nat.reduceAdd, forall_const, show ((0 : Int) != 0) = false from rfl]
    refine cal_i (shaSum_spec (hc.fr hs8.fr0) (Sep.rd hs8) (by rw [Blk.hd_len]; omega)) ?_
    rintro _ w9 ⟨rfl, hf9⟩
    have hs9 := hs8.old hf9
    refine alloc_s hs9 (A_api_ID w9) fun g10 w10 hs10 => ?_
    refine St_api_ID hs10 fun w11 hs11 => ?_
    rw [show (Value.int .i64 8) = .int .i64 ((8 : Nat) : Int) from rfl, sla_to (by omega)]
    refine appB_s S_sl_uint8 U_sl_uint8 (by simp) hs11.p1 (rd_arr (k := 8) hs11 (by omega)) (by rw [Blk.hd_len, List.length_take]; omega) fun s12 w12 hs12 => ?_
    exact hR _ _ ⟨s12, rfl, Sep.dropR (As := [ownB s12 b.rcd]) hs12⟩
  · have hro : b.recO = [] := by rw [Blk.recO, if_neg (by omega)]
    rw [hro, h0] at hR
    simp only [h0, nilc_some, fad_mk, pik_true, pik_false, cnd_true, cnd_false, gif_same, gif_tf, gif_ft, gif_undef, bi_add, bi_sub, bi_mul, bi_eql, bi_neq, bi_lss, bi_leq, bi_gtr, bi_geq, notB_bool, cvi_int, lenS_mk, lenT_mk, ext0, ext1, ext2, nilP_mk, nilS_mk, fldv_agg, jn0_k, jn1_k, jn2_k, jn1_and, jn1_or, ex_some, Option.isNone_some, Option.isNone_none, Bool.false_bne, Bool.bne_true, Bool.bne_false, Bool.true_bne, Bool.not_true, Bool.not_false, Bool.and_true, Bool.true_and, Bool.and_false, Bool.false_and, Bool.or_true, Bool.true_or, Bool.or_false, Bool.false_or, cond_true, cond_false, List.getElem?_toArray, List.getElem?_cons_zero, List.getElem?_cons_succ, Nat.zero_add, Nat.add_zero, Nat.reduceAdd, forall_const, show ((30 : Int) != 0) = true from rfl]
    exact hR _ _ ⟨_, rfl, (Sep.start w).old hs2.fr0 |>.nil⟩
theorem rRecBytes_spec (hb : RdB w.heap v b.d) (hh : b.h ≤ maxI) : cal P f_ref09_Bytes [bq b v] w fun r w' => ∃ s, r = .tuple #[s, .int .i64 b.chk] ∧ Sep w w' [ownB s b.recO] := by
  refine s_ref09_Bytes fun R hR => ?_
  unfold c_ref09_Bytes
  refine bxQ (Sep.start w) fun g w1 hs => ?_
  simp only [L_api_Block hs.blk, L_api_Block__Parent hs.blk, L_api_Block__Height hs.blk, L_api_Block__Data hs.blk]
  refine cal_i (rbBytes_spec (hs.rdB hb) hh) ?_
  rintro _ w2 ⟨s2, rfl, hs2⟩
  replace hs2 := hs.join hs2
  simp only [nilc_some, fad_mk, pik_true, pik_false, cnd_true, cnd_false, gif_same, gif_tf, gif_ft, gif_undef, bi_add, bi_sub, bi_mul, bi_eql, bi_neq, bi_lss, bi_leq, bi_gtr, bi_geq, notB_bool, cvi_int, lenS_mk, lenT_mk, ext0, ext1, ext2, nilP_mk, nilS_mk, fldv_agg, jn0_k, jn1_k, jn2_k, jn1_and, jn1_or, ex_some, Option.isNone_some, Option.isNone_none, Bool.false_bne, Bool.bne_true, Bool.bne_false, Bool.true_bne, Bool.not_true, Bool.not_false, Bool.and_true, Bool.true_and, Bool.and_false, Bool.false_and, Bool.or_true, Bool.true_or, Bool.or_false, Bool.false_or, cond_true, cond_false, List.getElem?_toArray, List.getElem?_cons_zero, List.getElem?_cons_succ, Nat.zero_add, Nat.add_zero, Nat.reduceAdd, forall_const]
  rcases Blk.chk_or b with h0 | h0
  · have hck := Blk.chk_ok h0
    have ho : b.out = b.bytes := if_pos h0
    have hro : b.recO = b.rcd := if_pos h0
    have hbl := b.bytes_len
    rw [ho] at hs2
    rw [hro, h0] at hR
    simp only [h0, nilc_some, fad_mk, pik_true, pik_false, cnd_true, cnd_false, gif_same, gif_tf, gif_ft, gif_undef, bi_add, bi_sub, bi_mul, bi_eql, bi_neq, bi_lss, bi_leq, bi_gtr, bi_geq, notB_bool, cvi_int, lenS_mk, lenT_mk, ext0, ext1, ext2, nilP_mk, nilS_mk, fldv_agg, jn0_k, jn1_k, jn2_k, jn1_and, jn1_or, ex_some, Option.isNone_some, Option.isNone_none, Bool.false_bne, Bool.bne_true, Bool.bne_false, Bool.true_bne, Bool.not_true, Bool.not_false, Bool.and_true, Bool.true_and, Bool.and_false, Bool.false_and, Bool.or_true, Bool.true_or, Bool.or_false, Bool.false_or, cond_true, cond_false, List.getElem?_toArray, List.getElem?_cons_zero, List.getElem?_cons_succ, Nat.zero_add, Nat.add_zero, Nat.reduceAdd, forall_const, show ((0 : Int) != 0) = false from rfl, (Sep.rd hs2).len]
    rw [wu64i (by omega) (by omega)]
    refine drH_S hs2 fun w3 hs3 _ => ?_
    refine rdS_ld (v := .int .i64 b.h) (fun u hu K hk => (L_api_Block__Height (Sep.p1 hu).blk K).mpr hk) ?_
    simp only [nilc_some, fad_mk, pik_true, pik_false, cnd_true, cnd_false, gif_same, gif_tf, gif_ft, gif_undef, bi_add, bi_sub, bi_mul, bi_eql, bi_neq, bi_lss, bi_leq, bi_gtr, bi_geq, notB_bool, cvi_int, lenS_mk, lenT_mk, ext0, ext1, ext2, nilP_mk, nilS_mk, fldv_agg, jn0_k, jn1_k, jn2_k, jn1_and, jn1_or, ex_some, Option.isNone_some, Option.isNone_none, Bool.false_bne, Bool.bne_true, Bool.bne_false, Bool.true_bne, Bool.not_true, Bool.not_false, Bool.and_true, Bool.true_and, Bool.and_false, Bool.false_and, Bool.or_true, Bool.true_or, Bool.or_false, Bool.false_or, cond_true, cond_false, List.getElem?_toArray, List.getElem?_cons_zero, List.getElem?_cons_succ, Nat.zero_add, Nat.add_zero, Nat.reduceAdd, forall_const, u64_h hck.1 hh]
    refine efS_i (cal_i (rNumS (n := 4) (by omega) (by omega)) ?_)
    rintro t4 w4 hs4
    replace hs4 := hs3.join hs4
    refine ⟨hs4.tail, ?_⟩
    refine efC_calA (w0 := w) (As := ownB t4 (be 4 b.bytes.length) :: [ownB s2 b.bytes, bb g b v]) (cal_i (rNumS (n := 8) (by omega) (by unfold maxI at hh; omega)) ?_)
    rintro t5 w5 hs5
    replace hs5 := hs4.join hs5
    refine ⟨hs5.tail, ?_⟩
    refine efC_efP (appB_s S_sl_uint8 U_sl_uint8 (by simp) hs5.p1 (Sep.rd hs5) (by simp [be_length]) fun s6 w6 hs6 => ?_)
    refine appB_s S_sl_uint8 U_sl_uint8 (by simp) hs6 (Sep.rd hs6.p2) (by simp [be_length]; omega) fun s7 w7 hs7 => ?_
    have e : be 4 b.bytes.length ++ be 8 b.h.toNat ++ b.bytes = b.hd := rfl
    rw [e] at hs7
    refine cal_i (rSum_spec (Sep.rd hs7) (by rw [Blk.hd_len]; omega)) ?_
    rintro _ w8 ⟨rfl, hf8⟩
    have hs8 := hs7.old hf8
    refine alloc_s hs8 (A_api_ID w8) fun g9 w9 hs9 => ?_
    refine St_api_ID hs9 fun w10 hs10 => ?_
    have hs11 : Sep w w10 [ownB s7 b.hd, blk g9 (Rdr.cells (rVec 32) (shaM b.hd)).toArray T_api_ID] := (Sep.dropR (As := [blk g9 (Rdr.cells (rVec 32) (shaM b.hd)).toArray T_api_ID, ownB s7 b.hd]) hs10).p1
    have h32 := (shaM b.hd).2
    have hhl := b.hd_len
    refine ⟨fun x y w' => ∃ i : Nat, y = .int .i64 i ∧ i ≤ 8 ∧ Sep w w' [ownB x (b.hd ++ (shaM b.hd).1.take i), blk g9 (Rdr.cells (rVec 32) (shaM b.hd)).toArray T_api_ID], fun _ y _ => (8 - RowKit.intOf y).toNat, ⟨0, rfl, by omega, by simpa using hs11⟩, ?_⟩
    rintro s12 _ w12 ⟨i, rfl, hi, hs12⟩ -
    simp only [nilc_some, fad_mk, pik_true, pik_false, cnd_true, cnd_false, gif_same, gif_tf, gif_ft, gif_undef, bi_add, bi_sub, bi_mul, bi_eql, bi_neq, bi_lss, bi_leq, bi_gtr, bi_geq, notB_bool, cvi_int, lenS_mk, lenT_mk, ext0, ext1, ext2, nilP_mk, nilS_mk, fldv_agg, jn0_k, jn1_k, jn2_k, jn1_and, jn1_or, ex_some, Option.isNone_some, Option.isNone_none, Bool.false_bne, Bool.bne_true, Bool.bne_false, Bool.true_bne, Bool.not_true, Bool.not_false, Bool.and_true, Bool.true_and, Bool.and_false, Bool.false_and, Bool.or_true, Bool.true_or, Bool.or_false, Bool.false_or, cond_true, cond_false, List.getElem?_toArray, List.getElem?_cons_zero, List.getElem?_cons_succ, Nat.zero_add, Nat.add_zero, Nat.reduceAdd, forall_const]
    rw [cnd_bool]
    refine ⟨fun h => ?_, fun h => ?_⟩
    · have hlt : i < 8 := by simp at h; omega
      rw [ixa_w .i64 (by omega)]
      have hat : At w12.heap g9 0 (bvs (shaM b.hd).1) := At.blk (cs := Rdr.cells (rVec 32) (shaM b.hd)) (Sep.p1 hs12).blk
      have hld := At.byte hat (i := i) (by omega) 
      rw [Nat.zero_add] at hld
      rw [hld]
      refine app1 hs12 (by simp; omega) fun s13 w13 hs13 => ?_
      rw [wi64 (by omega) (by omega)]
      refine ⟨⟨i + 1, by simp, by omega, ?_⟩, by simp [RowKit.intOf]; omega⟩
      rw [List.take_succ_eq_append_getElem (by omega), ← List.append_assoc]
      exact hs13
    · have h8 : i = 8 := by simp at h; omega
      subst h8
      exact hR _ _ ⟨s12, rfl, Sep.dropR (As := [ownB s12 b.rcd]) hs12⟩
  · have hro : b.recO = [] := by rw [Blk.recO, if_neg (by omega)]
    rw [hro, h0] at hR
    simp only [h0, nilc_some, fad_mk, pik_true, pik_false, cnd_true, cnd_false, gif_same, gif_tf, gif_ft, gif_undef, bi_add, bi_sub, bi_mul, bi_eql, bi_neq, bi_lss, bi_leq, bi_gtr, bi_geq, notB_bool, cvi_int, lenS_mk, lenT_mk, ext0, ext1, ext2, nilP_mk, nilS_mk, fldv_agg, jn0_k, jn1_k, jn2_k, jn1_and, jn1_or, ex_some, Option.isNone_some, Option.isNone_none, Bool.false_bne, Bool.bne_true, Bool.bne_false, Bool.true_bne, Bool.not_true, Bool.not_false, Bool.and_true, Bool.true_and, Bool.and_false, Bool.false_and, Bool.or_true, Bool.true_or, Bool.or_false, Bool.false_or, cond_true, cond_false, List.getElem?_toArray, List.getElem?_cons_zero, List.getElem?_cons_succ, Nat.zero_add, Nat.add_zero, Nat.reduceAdd, forall_const, show ((30 : Int) != 0) = true from rfl]
    exact hR _ _ ⟨_, rfl, (Sep.start w).old hs2.fr0 |>.nil⟩
theorem recSize_spec (hb : RdB w.heap v b.d) : cal P f_rec_Size [bq b v] w fun r w' => r = .int .i64 b.recO.length ∧ Fr [] w w' := by
  refine s_rec_Size fun R hR => ?_
  unfold c_rec_Size
  refine bxQ (Sep.start w) fun g w1 hs => ?_
  simp only [L_api_Block hs.blk, L_api_Block__Parent hs.blk, L_api_Block__Height hs.blk, L_api_Block__Data hs.blk]
  refine cal_i (Check_spec (hs.rdB hb)) ?_
  rintro _ w2 ⟨rfl, hf2⟩
  have hs2 := hs.old hf2
  simp only [nilc_some, fad_mk, pik_true, pik_false, cnd_true, cnd_false, gif_same, gif_tf, gif_ft, gif_undef, bi_add, bi_sub, bi_mul, bi_eql, bi_neq, bi_lss, bi_leq, bi_gtr, bi_geq, notB_bool, cvi_int, lenS_mk, lenT_mk, ext0, ext1, ext2, nilP_mk, nilS_mk, fldv_agg, jn0_k, jn1_k, jn2_k, jn1_and, jn1_or, ex_some, Option.isNone_some, Option.isNone_none, Bool.false_bne, Bool.bne_true, Bool.bne_false, Bool.true_bne, Bool.not_true, Bool.not_false, Bool.and_true, Bool.true_and, Bool.and_false, Bool.false_and, Bool.or_true, Bool.true_or, Bool.or_false, Bool.false_or, cond_true, cond_false, List.getElem?_toArray, List.getElem?_cons_zero, List.getElem?_cons_succ, Nat.zero_add, Nat.add_zero, Nat.reduceAdd, forall_const]
  rw [Blk.recO_len] at hR
  rcases Blk.chk_or b with h0 | h0
  · have hck := Blk.chk_ok h0
    rw [if_pos h0] at hR
    simp only [h0, nilc_some, fad_mk, pik_true, pik_false, cnd_true, cnd_false, gif_same, gif_tf, gif_ft, gif_undef, bi_add, bi_sub, bi_mul, bi_eql, bi_neq, bi_lss, bi_leq, bi_gtr, bi_geq, notB_bool, cvi_int, lenS_mk, lenT_mk, ext0, ext1, ext2, nilP_mk, nilS_mk, fldv_agg, jn0_k, jn1_k, jn2_k, jn1_and, jn1_or, ex_some, Option.isNone_some, Option.isNone_none, Bool.false_bne, Bool.bne_true, Bool.bne_false, Bool.true_bne, Bool.not_true, Bool.not_false, Bool.and_true, Bool.true_and, Bool.and_false, Bool.false_and, Bool.or_true, Bool.true_or, Bool.or_false, Bool.false_or, cond_true, cond_false, List.getElem?_toArray, List.getElem?_cons_zero, List.getElem?_cons_succ, Nat.zero_add, Nat.add_zero, Nat.reduceAdd, forall_const, show ((0 : Int) != 0) = false from rfl, L_api_Block hs2.blk, L_api_Block__Parent hs2.blk, L_api_Block__Height hs2.blk, L_api_Block__Data hs2.blk, (hs2.rdB hb).len]
    refine hR _ _ ⟨?_, hs2.fr0⟩
    rw [wi64 (x := 58 + (b.d.length : Int)) (by omega) (by omega), wi64 (by omega) (by omega)]
    congr 1
    omega
  · rw [if_neg (by omega)] at hR
    simp only [h0, nilc_some, fad_mk, pik_true, pik_false, cnd_true, cnd_false, gif_same, gif_tf, gif_ft, gif_undef, bi_add, bi_sub, bi_mul, bi_eql, bi_neq, bi_lss, bi_leq, bi_gtr, bi_geq, notB_bool, cvi_int, lenS_mk, lenT_mk, ext0, ext1, ext2, nilP_mk, nilS_mk, fldv_agg, jn0_k, jn1_k, jn2_k, jn1_and, jn1_or, ex_some, Option.isNone_some, Option.isNone_none, Bool.false_bne, Bool.bne_true, Bool.bne_false, Bool.true_bne, Bool.not_true, Bool.not_false, Bool.and_true, Bool.true_and, Bool.and_false, Bool.false_and, Bool.or_true, Bool.true_or, Bool.or_false, Bool.false_or, cond_true, cond_false, List.getElem?_toArray, List.getElem?_cons_zero, List.getElem?_cons_succ, Nat.zero_add, Nat.add_zero, Nat.reduceAdd, forall_const, show ((30 : Int) != 0) = true from rfl]
    exact hR _ _ ⟨rfl, hs2.fr0⟩
theorem rRecSize_spec (hb : RdB w.heap v b.d) (hh : b.h ≤ maxI) : cal P f_ref09_Size [bq b v] w fun r w' => r = .int .i64 b.recO.length ∧ Fr [] w w' := by
  refine s_ref09_Size fun R hR => ?_
  unfold c_ref09_Size
  refine bxQ (Sep.start w) fun g w1 hs => ?_
  simp only [L_api_Block hs.blk, L_api_Block__Parent hs.blk, L_api_Block__Height hs.blk, L_api_Block__Data hs.blk]
  refine cal_i (rRecBytes_spec (hs.rdB hb) hh) ?_
  rintro _ w2 ⟨s2, rfl, hs2⟩
  replace hs2 := hs.join hs2
  simp only [nilc_some, fad_mk, pik_true, pik_false, cnd_true, cnd_false, gif_same, gif_tf, gif_ft, gif_undef, bi_add, bi_sub, bi_mul, bi_eql, bi_neq, bi_lss, bi_leq, bi_gtr, bi_geq, notB_bool, cvi_int, lenS_mk, lenT_mk, ext0, ext1, ext2, nilP_mk, nilS_mk, fldv_agg, jn0_k, jn1_k, jn2_k, jn1_and, jn1_or, ex_some, Option.isNone_some, Option.isNone_none, Bool.false_bne, Bool.bne_true, Bool.bne_false, Bool.true_bne, Bool.not_true, Bool.not_false, Bool.and_true, Bool.true_and, Bool.and_false, Bool.false_and, Bool.or_true, Bool.true_or, Bool.or_false, Bool.false_or, cond_true, cond_false, List.getElem?_toArray, List.getElem?_cons_zero, List.getElem?_cons_succ, Nat.zero_add, Nat.add_zero, Nat.reduceAdd, forall_const, (Sep.rd hs2).len]
  exact hR _ _ ⟨rfl, hs2.fr0⟩
end
end Go.Fx
set_option linter.unusedVariables false
set_option linter.unusedSimpArgs false
namespace Go.Fx
def gpay (r : List UInt8) (n : Nat) : List UInt8 := (r.drop 12).take n
def goodR (r : List UInt8) (n : Nat) : Prop := okP (gpay r n) ∧ (parB (gpay r n)).rcd = r.take (20 + n)
instance (r : List UInt8) (n : Nat) : Decidable (goodR r n) := by unfold goodR; infer_instance
/-- What stands at the beginning of r, and how many bytes it has; its error. -/
def takeR (r : List UInt8) : Blk × Nat × Int :=
  if r.length < 12 then (Blk.none, 0, 11)
  else if 246 < ofBe (r.take 4) then (Blk.none, 0, 90)
  else if r.length < 20 + ofBe (r.take 4) then (Blk.none, 0, 11)
  else if goodR r (ofBe (r.take 4)) then (parB (gpay r (ofBe (r.take 4))), 20 + ofBe (r.take 4), 0) else (Blk.none, 0, 90)
def takeX (l : List UInt8) (a : Int) : Blk × Int × Int :=
  if a < 0 ∨ (l.length : Int) < a then (Blk.none, 0, 1)
  else ((takeR (l.drop a.toNat)).1, (if (takeR (l.drop a.toNat)).2.2 = 0 then a + (takeR (l.drop a.toNat)).2.1 else 0), (takeR (l.drop a.toNat)).2.2)
theorem cut_rec {r : List UInt8} {n : Nat} : r.take (20 + n) = r.take 4 ++ (r.drop 4).take 8 ++ gpay r n ++ (r.drop (12 + n)).take 8 := by
  have h1 : r.take (20 + n) = r.take 4 ++ (r.drop 4).take (8 + (n + 8)) := by rw [← List.take_add]; congr 1; omega
  have h2 : (r.drop 4).take (8 + (n + 8)) = (r.drop 4).take 8 ++ (r.drop 12).take (n + 8) := by rw [List.take_add, List.drop_drop]
  have h3 : (r.drop 12).take (n + 8) = gpay r n ++ (r.drop (12 + n)).take 8 := by rw [List.take_add, List.drop_drop]; rfl
  rw [h1, h2, h3]
  simp only [List.append_assoc]
theorem cut_hd {r : List UInt8} {n : Nat} : r.take (12 + n) = r.take 4 ++ (r.drop 4).take 8 ++ gpay r n := by
  have h1 : r.take (12 + n) = r.take 4 ++ (r.drop 4).take (8 + n) := by rw [← List.take_add]; congr 1; omega
  have h2 : (r.drop 4).take (8 + n) = (r.drop 4).take 8 ++ (r.drop 12).take n := by rw [List.take_add, List.drop_drop]
  rw [h1, h2]
  simp only [gpay, List.append_assoc]
theorem good_iff {r : List UInt8} (hl : 20 + ofBe (r.take 4) ≤ r.length) (hok : okP (gpay r (ofBe (r.take 4)))) :
    (parB (gpay r (ofBe (r.take 4)))).rcd = r.take (20 + ofBe (r.take 4)) ↔ (parB (gpay r (ofBe (r.take 4)))).h.toNat = ofBe ((r.drop 4).take 8) ∧ tail8 (r.take (12 + ofBe (r.take 4))) = (r.drop (12 + ofBe (r.take 4))).take 8 := by
  have h4 : (r.take 4).length = 4 := by simp; omega
  have h8 : ((r.drop 4).take 8).length = 8 := by simp; omega
  have hb4 := be_ofBe (r.take 4)
  have hb8 := be_ofBe ((r.drop 4).take 8)
  rw [h4] at hb4
  rw [h8] at hb8
  generalize hn : ofBe (r.take 4) = n at *
  have hp : (gpay r n).length = n := by simp [gpay]; omega
  have hx : (parB (gpay r n)).bytes = gpay r n := hok.2.2.2
  have hh : (parB (gpay r n)).h ≤ maxI := hok.2.1
  generalize parB (gpay r n) = x at *
  have hhd : x.hd = r.take 4 ++ be 8 x.h.toNat ++ gpay r n := by unfold Blk.hd; rw [hx, hp, hb4]
  unfold Blk.rcd
  rw [hhd, cut_rec, cut_hd]
  constructor
  · intro h
    have h1 := List.append_inj h (by simp only [List.length_append, be_length, h8])
    have h2 := List.append_inj h1.1 (by simp only [List.length_append, be_length, h8])
    have h3 := (List.append_inj h2.1 rfl).2
    refine ⟨?_, ?_⟩
    · have := congrArg ofBe h3
      rw [ofBe_b8 (by unfold maxI at hh; omega)] at this
      exact this
    · rw [← h3]; exact h1.2
  · rintro ⟨h1, h2⟩
    have h3 : be 8 x.h.toNat = (r.drop 4).take 8 := by rw [h1, hb8]
    rw [h3, h2]
theorem goodR_iff {r : List UInt8} (hl : 20 + ofBe (r.take 4) ≤ r.length) : goodR r (ofBe (r.take 4)) ↔ okP (gpay r (ofBe (r.take 4))) ∧ (parB (gpay r (ofBe (r.take 4)))).h.toNat = ofBe ((r.drop 4).take 8) ∧ tail8 (r.take (12 + ofBe (r.take 4))) = (r.drop (12 + ofBe (r.take 4))).take 8 := by
  constructor
  · rintro ⟨h1, h2⟩
    exact ⟨h1, (good_iff hl h1).1 h2⟩
  · rintro ⟨h1, h2⟩
    exact ⟨h1, (good_iff hl h1).2 h2⟩
section
variable {w0 w : World} {As : List Asn} {v : Value} {l : List UInt8} {a : Int}
abbrev nb (g : Nat) : Asn := blk g (Rdr.cells Q_api_Block (vz 32, (0 : Int), Value.slice Option.none 0 0)).toArray T_api_Block
theorem recTake_spec (hc : Cub w) (hb : RdB w.heap v l) (hcap : capOk v) (hl : l.length ≤ 9223372036854775807) (ha : -9223372036854775808 ≤ a ∧ a ≤ 9223372036854775807) : cal P f_rec_Take [v, .int .i64 a] w fun r w' =>
    ∃ v', r = .tuple #[bq (takeX l a).1 v', .int .i64 (takeX l a).2.1, .int .i64 (takeX l a).2.2] ∧ Sep w w' [ownB v' (takeX l a).1.d] := by
  refine s_rec_Take fun R hR => ?_
  unfold c_rec_Take
  refine alloc_s (Sep.start w) (A_api_Block w) fun g2 w1 hs1 => ?_
  have bad : ∀ {z : World} {Bs : List Asn} {c : Int}, Sep w z (nb g2 :: Bs) → takeX l a = (Blk.none, 0, c) → rdP P (Instr.build T_api_Block #[]) z fun t52 => stN 34 (.pointer (some ⟨g2, 0, none⟩)) t52 z fun w => ldN 34 (.pointer (some ⟨g2, 0, none⟩)) w.heap fun r1 => R (.tuple #[r1, .int .i64 0, .int .i64 c]) w := fun {z Bs c} h hp => by
    rw [B_api_Block]
    refine St_api_Block h (one_api_Block rfl) fun w10 hs10 => ?_
    simp only [L_api_Block hs10.blk, L_api_Block__Parent hs10.blk, L_api_Block__Height hs10.blk, L_api_Block__Data hs10.blk]
    rw [hp] at hR
    exact hR _ _ ⟨.slice none 0 0, rfl, ((Sep.start w).old hs10.fr0).nil⟩
  simp only [nilc_some, fad_mk, pik_true, pik_false, cnd_true, cnd_false, gif_same, gif_tf, gif_ft, gif_undef, bi_add, bi_sub, bi_mul, bi_eql, bi_neq, bi_lss, bi_leq, bi_gtr, bi_geq, notB_bool, cvi_int, lenS_mk, lenT_mk, ext0, ext1, ext2, nilP_mk, nilS_mk, fldv_agg, jn0_k, jn1_k, jn2_k, jn1_and, jn1_or, ex_some, Option.isNone_some, Option.isNone_none, Bool.false_bne, Bool.bne_true, Bool.bne_false, Bool.true_bne, Bool.not_true, Bool.not_false, Bool.and_true, Bool.true_and, Bool.and_false, Bool.false_and, Bool.or_true, Bool.true_or, Bool.or_false, Bool.false_or, cond_true, cond_false, List.getElem?_toArray, List.getElem?_cons_zero, List.getElem?_cons_succ, Nat.zero_add, Nat.add_zero, Nat.reduceAdd, forall_const, hb.len]
  rw [cnd_bool]
  refine ⟨fun h => ?_, fun h => ?_⟩
  · simp only [Bool.or_eq_true, decide_eq_true_eq] at h
    refine bad hs1 ?_
    unfold takeX
    rw [if_pos (by omega)]
  simp only [Bool.or_eq_false_iff, decide_eq_false_iff_not] at h
  obtain ⟨i, rfl⟩ := Int.eq_ofNat_of_zero_le (show 0 ≤ a by omega)
  have hx : takeX l (i : Int) = ((takeR (l.drop i)).1, (if (takeR (l.drop i)).2.2 = 0 then (i : Int) + (takeR (l.drop i)).2.1 else 0), (takeR (l.drop i)).2.2) := by unfold takeX; rw [if_neg (by omega)]; rfl
  have hil : i ≤ l.length := by omega
  obtain ⟨av, cv, rfl⟩ := hb.form
  have hcv : l.length ≤ cv := hcap _ _ _ rfl
  rw [slc_from hil]
  have hr0 : ∀ {z : World} {Bs : List Asn}, Sep w z Bs → RdB z.heap (.slice (if cv = i then av else av.map (·.add (i * 1))) (l.length - i) (cv - i)) (l.drop i) := fun {z Bs} hz => (hz.rdB hb).drop (k := i) hil hcv (cv - i)
  generalize (if cv = i then av else av.map (·.add (i * 1))) = ar at *
  have hrl : l.length - i = (l.drop i).length := by simp
  rw [hrl] at hr0 ⊢
  obtain ⟨rc, hrc⟩ : ∃ rc, rc = cv - i := ⟨_, rfl⟩
  rw [← hrc] at hr0 ⊢
  have hrcl : (l.drop i).length ≤ rc := by simp; omega
  have hrm : i + (l.drop i).length ≤ 9223372036854775807 := by simp; omega
  generalize l.drop i = r at *
  clear hrl hrc
  simp only [nilc_some, fad_mk, pik_true, pik_false, cnd_true, cnd_false, gif_same, gif_tf, gif_ft, gif_undef, bi_add, bi_sub, bi_mul, bi_eql, bi_neq, bi_lss, bi_leq, bi_gtr, bi_geq, notB_bool, cvi_int, lenS_mk, lenT_mk, ext0, ext1, ext2, nilP_mk, nilS_mk, fldv_agg, jn0_k, jn1_k, jn2_k, jn1_and, jn1_or, ex_some, Option.isNone_some, Option.isNone_none, Bool.false_bne, Bool.bne_true, Bool.bne_false, Bool.true_bne, Bool.not_true, Bool.not_false, Bool.and_true, Bool.true_and, Bool.and_false, Bool.false_and, Bool.or_true, Bool.true_or, Bool.or_false, Bool.false_or, cond_true, cond_false, List.getElem?_toArray, List.getElem?_cons_zero, List.getElem?_cons_succ, Nat.zero_add, Nat.add_zero, Nat.reduceAdd, forall_const]
  rw [cnd_bool]
  refine ⟨fun h => ?_, fun h12 => ?_⟩
  · refine bad hs1 ?_
    have : r.length < 12 := by simp at h; omega
    rw [hx]; unfold takeR; rw [if_pos this]; rfl
  have h12 : ¬ r.length < 12 := by simp at h12; omega
  rw [show (Value.int .i64 4) = .int .i64 ((4 : Nat) : Int) from rfl, slc_to (by omega)]
  have h4 : (r.take 4).length = 4 := by simp; omega
  refine cal_i (ReadS ((hr0 hs1).take (k := 4) (by omega) rc) (by omega)) ?_
  rintro _ w2 ⟨gu, s2, rfl, hs2⟩
  replace hs2 := hs1.join hs2
  refine cal_i (uIntS hs2) ?_
  rintro _ w3 ⟨rfl, s3, hs3⟩
  have hs3 : Sep w w3 [nb g2] := hs3.tail.tail
  have et : (tk 4 (r.take 4) 0).1 = r.take 4 := by unfold tk; rw [if_pos rfl, if_neg (by omega)]; exact List.take_of_length_le (Nat.le_of_eq h4)
  rw [et]
  have hn4 := ofBe_lt (r.take 4)
  rw [h4] at hn4
  obtain ⟨n, hn⟩ : ∃ n, n = ofBe (r.take 4) := ⟨_, rfl⟩
  rw [← hn] at hn4 ⊢
  have hR4 : takeR r = if 246 < n then (Blk.none, 0, 90) else if r.length < 20 + n then (Blk.none, 0, 11) else if goodR r n then (parB (gpay r n), 20 + n, 0) else (Blk.none, 0, 90) := by unfold takeR; rw [if_neg h12, ← hn]
  simp only [nilc_some, fad_mk, pik_true, pik_false, cnd_true, cnd_false, gif_same, gif_tf, gif_ft, gif_undef, bi_add, bi_sub, bi_mul, bi_eql, bi_neq, bi_lss, bi_leq, bi_gtr, bi_geq, notB_bool, cvi_int, lenS_mk, lenT_mk, ext0, ext1, ext2, nilP_mk, nilS_mk, fldv_agg, jn0_k, jn1_k, jn2_k, jn1_and, jn1_or, ex_some, Option.isNone_some, Option.isNone_none, Bool.false_bne, Bool.bne_true, Bool.bne_false, Bool.true_bne, Bool.not_true, Bool.not_false, Bool.and_true, Bool.true_and, Bool.and_false, Bool.false_and, Bool.or_true, Bool.true_or, Bool.or_false, Bool.false_or, cond_true, cond_false, List.getElem?_toArray, List.getElem?_cons_zero, List.getElem?_cons_succ, Nat.zero_add, Nat.add_zero, Nat.reduceAdd, forall_const]
  rw [cnd_bool]
  refine ⟨fun h => ?_, fun h246 => ?_⟩
  · refine bad hs3 ?_
    have : 246 < n := by simp at h; omega
    rw [hx, hR4, if_pos this]; rfl
  have h246 : ¬ 246 < n := by simp at h246; omega
  rw [if_neg h246] at hR4
  have e1 : IntKind.i64.wrap (12 + IntKind.i64.wrap (n : Int)) = ((12 + n : Nat) : Int) := by rw [wi64 (x := (n : Int)) (by omega) (by omega), wi64 (by omega) (by omega)]; omega
  have e2 : IntKind.i64.wrap (((12 + n : Nat) : Int) + 8) = ((20 + n : Nat) : Int) := by rw [wi64 (by omega) (by omega)]; omega
  simp only [e1, e2, nilc_some, fad_mk, pik_true, pik_false, cnd_true, cnd_false, gif_same, gif_tf, gif_ft, gif_undef, bi_add, bi_sub, bi_mul, bi_eql, bi_neq, bi_lss, bi_leq, bi_gtr, bi_geq, notB_bool, cvi_int, lenS_mk, lenT_mk, ext0, ext1, ext2, nilP_mk, nilS_mk, fldv_agg, jn0_k, jn1_k, jn2_k, jn1_and, jn1_or, ex_some, Option.isNone_some, Option.isNone_none, Bool.false_bne, Bool.bne_true, Bool.bne_false, Bool.true_bne, Bool.not_true, Bool.not_false, Bool.and_true, Bool.true_and, Bool.and_false, Bool.false_and, Bool.or_true, Bool.true_or, Bool.or_false, Bool.false_or, cond_true, cond_false, List.getElem?_toArray, List.getElem?_cons_zero, List.getElem?_cons_succ, Nat.zero_add, Nat.add_zero, Nat.reduceAdd, forall_const]
  rw [cnd_bool]
  refine ⟨fun h => ?_, fun h20 => ?_⟩
  · refine bad hs3 ?_
    have : r.length < 20 + n := by simp at h; omega
    rw [hx, hR4, if_pos this]; rfl
  have h20 : ¬ r.length < 20 + n := by simp at h20; omega
  rw [if_neg h20] at hR4
  rw [show (Value.int .i64 12) = .int .i64 ((12 : Nat) : Int) from rfl, slc_mid (by omega) (by omega)]
  have hpay : ∀ {z : World} {Bs : List Asn}, Sep w z Bs → RdB z.heap (.slice (if rc = 12 then ar else ar.map (·.add (12 * 1))) (12 + n - 12) (rc - 12)) (gpay r n) := fun {z Bs} hz => by
    have := RdB.mid (i := 12) (j := 12 + n) (hr0 hz) hrcl (by omega) (by omega)
    rw [Nat.add_sub_cancel_left] at this
    rw [Nat.add_sub_cancel_left]
    exact this
  refine cal_i (Parse_spec (hpay hs3)) ?_
  rintro _ w4 ⟨v4, rfl, hs4⟩
  replace hs4 := hs3.join hs4
  simp only [nilc_some, fad_mk, pik_true, pik_false, cnd_true, cnd_false, gif_same, gif_tf, gif_ft, gif_undef, bi_add, bi_sub, bi_mul, bi_eql, bi_neq, bi_lss, bi_leq, bi_gtr, bi_geq, notB_bool, cvi_int, lenS_mk, lenT_mk, ext0, ext1, ext2, nilP_mk, nilS_mk, fldv_agg, jn0_k, jn1_k, jn2_k, jn1_and, jn1_or, ex_some, Option.isNone_some, Option.isNone_none, Bool.false_bne, Bool.bne_true, Bool.bne_false, Bool.true_bne, Bool.not_true, Bool.not_false, Bool.and_true, Bool.true_and, Bool.and_false, Bool.false_and, Bool.or_true, Bool.true_or, Bool.or_false, Bool.false_or, cond_true, cond_false, List.getElem?_toArray, List.getElem?_cons_zero, List.getElem?_cons_succ, Nat.zero_add, Nat.add_zero, Nat.reduceAdd, forall_const]
  refine alloc_s hs4 (A_api_Block w4) fun g5 w5 hs5 => ?_
  refine St_api_Block hs5 (one_api_Block (Sep.one hs5.p1)) fun w6 hs6 => ?_
  rw [slc_to (by omega)]
  refine cal_i (shaSum_spec (hc.fr hs6.fr0) ((hr0 hs6).take (k := 12 + n) (by omega) rc) (by simp; omega)) ?_
  rintro _ w7 ⟨rfl, hf7⟩
  have hs7 := hs6.old hf7
  refine alloc_s hs7 (A_api_ID w7) fun g8 w8 hs8 => ?_
  refine St_api_ID hs8 fun w9 hs9 => ?_
  have gI := goodR_iff (r := r) (by rw [← hn]; omega)
  rw [← hn] at gI
  have e3 : IntKind.i64.wrap (IntKind.i64.wrap ((i : Int) + ((12 + n : Nat) : Int)) + 8) = (i : Int) + ((20 + n : Nat) : Int) := by
    rw [wi64 (x := (i : Int) + ((12 + n : Nat) : Int)) (by omega) (by omega), wi64 (by omega) (by omega)]; omega
  have hng : ¬ goodR r n → takeX l (i : Int) = (Blk.none, 0, 90) := fun hg => by rw [hx, hR4, if_neg hg]; rfl
  replace hs9 : Sep w w9 [blk g8 (Rdr.cells (rVec 32) (shaM (r.take (12 + n)))).toArray T_api_ID, bb g5 (parse (gpay r n)) v4, ownB v4 (parse (gpay r n)).d, nb g2] := hs9
  refine drH_S hs9 fun w10 hs10 _ => ?_
  by_cases hok : okP (gpay r n)
  case neg =>
    have he : parseE (gpay r n) = 30 := if_neg hok
    simp only [he, nilc_some, fad_mk, pik_true, pik_false, cnd_true, cnd_false, gif_same, gif_tf, gif_ft, gif_undef, bi_add, bi_sub, bi_mul, bi_eql, bi_neq, bi_lss, bi_leq, bi_gtr, bi_geq, notB_bool, cvi_int, lenS_mk, lenT_mk, ext0, ext1, ext2, nilP_mk, nilS_mk, fldv_agg, jn0_k, jn1_k, jn2_k, jn1_and, jn1_or, ex_some, Option.isNone_some, Option.isNone_none, Bool.false_bne, Bool.bne_true, Bool.bne_false, Bool.true_bne, Bool.not_true, Bool.not_false, Bool.and_true, Bool.true_and, Bool.and_false, Bool.false_and, Bool.or_true, Bool.true_or, Bool.or_false, Bool.false_or, cond_true, cond_false, List.getElem?_toArray, List.getElem?_cons_zero, List.getElem?_cons_succ, Nat.zero_add, Nat.add_zero, Nat.reduceAdd, forall_const, show ((30 : Int) != 0) = true from rfl]
    exact bad hs10.p3 (hng fun hg => hok hg.1)
  have hp : parse (gpay r n) = parB (gpay r n) := if_pos hok
  have he : parseE (gpay r n) = 0 := if_pos hok
  have hck := Blk.chk_ok hok.2.2.1
  have hh := hok.2.1
  rw [hp] at hs10
  simp only [hp, he, nilc_some, fad_mk, pik_true, pik_false, cnd_true, cnd_false, gif_same, gif_tf, gif_ft, gif_undef, bi_add, bi_sub, bi_mul, bi_eql, bi_neq, bi_lss, bi_leq, bi_gtr, bi_geq, notB_bool, cvi_int, lenS_mk, lenT_mk, ext0, ext1, ext2, nilP_mk, nilS_mk, fldv_agg, jn0_k, jn1_k, jn2_k, jn1_and, jn1_or, ex_some, Option.isNone_some, Option.isNone_none, Bool.false_bne, Bool.bne_true, Bool.bne_false, Bool.true_bne, Bool.not_true, Bool.not_false, Bool.and_true, Bool.true_and, Bool.and_false, Bool.false_and, Bool.or_true, Bool.true_or, Bool.or_false, Bool.false_or, cond_true, cond_false, List.getElem?_toArray, List.getElem?_cons_zero, List.getElem?_cons_succ, Nat.zero_add, Nat.add_zero, Nat.reduceAdd, forall_const, show ((0 : Int) != 0) = false from rfl]
  obtain ⟨x, hxx⟩ : ∃ x, x = parB (gpay r n) := ⟨_, rfl⟩
  rw [← hxx] at hs10 gI hck hh hR4
  rw [← hxx]
  obtain ⟨As, hAs⟩ : ∃ As, As = [blk g8 (Rdr.cells (rVec 32) (shaM (r.take (12 + n)))).toArray T_api_ID, bb g5 x v4, ownB v4 x.d, nb g2] := ⟨_, rfl⟩
  replace hs10 : Sep w w10 As := by rw [hAs]; exact hs10
  rw [← hAs]
  have h48 : RdB w.heap (.slice ar r.length rc) r := hr0 (Sep.start w)
  refine jn1_dup ?_
  refine rdS_ld (v := .int .i64 x.h) (fun u hu K hk => by rw [hAs] at hu; exact (L_api_Block__Height (Sep.p1 hu).blk K).mpr hk) ?_
  simp only [nilc_some, fad_mk, pik_true, pik_false, cnd_true, cnd_false, gif_same, gif_tf, gif_ft, gif_undef, bi_add, bi_sub, bi_mul, bi_eql, bi_neq, bi_lss, bi_leq, bi_gtr, bi_geq, notB_bool, cvi_int, lenS_mk, lenT_mk, ext0, ext1, ext2, nilP_mk, nilS_mk, fldv_agg, jn0_k, jn1_k, jn2_k, jn1_and, jn1_or, ex_some, Option.isNone_some, Option.isNone_none, Bool.false_bne, Bool.bne_true, Bool.bne_false, Bool.true_bne, Bool.not_true, Bool.not_false, Bool.and_true, Bool.true_and, Bool.and_false, Bool.false_and, Bool.or_true, Bool.true_or, Bool.or_false, Bool.false_or, cond_true, cond_false, List.getElem?_toArray, List.getElem?_cons_zero, List.getElem?_cons_succ, Nat.zero_add, Nat.add_zero, Nat.reduceAdd, forall_const, u64_h hck.1 hh]
  rw [slc_mid (by omega) (by omega)]
  have h8 : ((r.drop 4).take 8).length = 8 := by simp; omega
  refine efS_i (cal_i (ReadS (l := (r.drop 4).take 8) (RdB.mid (i := 4) (j := 12) (hr0 hs10) hrcl (by omega) (by omega)) (by omega)) ?_)
  rintro _ w11 ⟨gu2, s11, rfl, hs11⟩
  replace hs11 := hs10.join hs11
  refine ⟨hs11.tail.tail, ?_⟩
  refine efS_i (cal_i (uLongS hs11) ?_)
  rintro _ w12 ⟨rfl, s12, hs12⟩
  have hs12 : Sep w w12 As := hs12.tail.tail
  refine ⟨hs12, ?_⟩
  have et8 : (tk 8 ((r.drop 4).take 8) 0).1 = (r.drop 4).take 8 := by unfold tk; rw [if_pos rfl, if_neg (by omega)]; exact List.take_of_length_le (Nat.le_of_eq h8)
  rw [et8]
  by_cases hcmp : x.h.toNat = ofBe ((r.drop 4).take 8)
  case neg =>
    have e : (((x.h.toNat : Nat) : Int) != ((ofBe ((r.drop 4).take 8) : Nat) : Int)) = true := by simp only [bne_iff_ne, ne_eq]; omega
    simp only [nilc_some, fad_mk, pik_true, pik_false, cnd_true, cnd_false, gif_same, gif_tf, gif_ft, gif_undef, bi_add, bi_sub, bi_mul, bi_eql, bi_neq, bi_lss, bi_leq, bi_gtr, bi_geq, notB_bool, cvi_int, lenS_mk, lenT_mk, ext0, ext1, ext2, nilP_mk, nilS_mk, fldv_agg, jn0_k, jn1_k, jn2_k, jn1_and, jn1_or, ex_some, Option.isNone_some, Option.isNone_none, Bool.false_bne, Bool.bne_true, Bool.bne_false, Bool.true_bne, Bool.not_true, Bool.not_false, Bool.and_true, Bool.true_and, Bool.and_false, Bool.false_and, Bool.or_true, Bool.true_or, Bool.or_false, Bool.false_or, cond_true, cond_false, List.getElem?_toArray, List.getElem?_cons_zero, List.getElem?_cons_succ, Nat.zero_add, Nat.add_zero, Nat.reduceAdd, forall_const, e]
    rw [hAs] at hs12
    exact bad hs12.p3 (hng fun hg => hcmp (gI.1 hg).2.1)
  have e : (((x.h.toNat : Nat) : Int) != ((ofBe ((r.drop 4).take 8) : Nat) : Int)) = false := by rw [hcmp]; simp
  simp only [nilc_some, fad_mk, pik_true, pik_false, cnd_true, cnd_false, gif_same, gif_tf, gif_ft, gif_undef, bi_add, bi_sub, bi_mul, bi_eql, bi_neq, bi_lss, bi_leq, bi_gtr, bi_geq, notB_bool, cvi_int, lenS_mk, lenT_mk, ext0, ext1, ext2, nilP_mk, nilS_mk, fldv_agg, jn0_k, jn1_k, jn2_k, jn1_and, jn1_or, ex_some, Option.isNone_some, Option.isNone_none, Bool.false_bne, Bool.bne_true, Bool.bne_false, Bool.true_bne, Bool.not_true, Bool.not_false, Bool.and_true, Bool.true_and, Bool.and_false, Bool.false_and, Bool.or_true, Bool.true_or, Bool.or_false, Bool.false_or, cond_true, cond_false, List.getElem?_toArray, List.getElem?_cons_zero, List.getElem?_cons_succ, Nat.zero_add, Nat.add_zero, Nat.reduceAdd, forall_const, e]
  refine jn1_dup ?_
  rw [show (Value.int .i64 8) = .int .i64 ((8 : Nat) : Int) from rfl, sla_to (by omega), slc_mid (by omega) (by omega)]
  have hrs : RdB w12.heap (.slice (some ⟨g8, 0, none⟩) 8 32) (tail8 (r.take (12 + n))) := by
    rw [hAs] at hs12
    exact rd_arr (k := 8) hs12 (by omega)
  have hrt := RdB.mid (i := 12 + n) (j := 20 + n) (hr0 hs12) hrcl (by omega) (by omega)
  have e20 : 20 + n - (12 + n) = 8 := by omega
  rw [e20] at hrt
  rw [e20]
  refine efS_i (cal_i (bEqual_spec hrs hrt) ?_)
  rintro _ _ ⟨rfl, rfl⟩
  refine ⟨hs12, ?_⟩
  simp only [nilc_some, fad_mk, pik_true, pik_false, cnd_true, cnd_false, gif_same, gif_tf, gif_ft, gif_undef, bi_add, bi_sub, bi_mul, bi_eql, bi_neq, bi_lss, bi_leq, bi_gtr, bi_geq, notB_bool, cvi_int, lenS_mk, lenT_mk, ext0, ext1, ext2, nilP_mk, nilS_mk, fldv_agg, jn0_k, jn1_k, jn2_k, jn1_and, jn1_or, ex_some, Option.isNone_some, Option.isNone_none, Bool.false_bne, Bool.bne_true, Bool.bne_false, Bool.true_bne, Bool.not_true, Bool.not_false, Bool.and_true, Bool.true_and, Bool.and_false, Bool.false_and, Bool.or_true, Bool.true_or, Bool.or_false, Bool.false_or, cond_true, cond_false, List.getElem?_toArray, List.getElem?_cons_zero, List.getElem?_cons_succ, Nat.zero_add, Nat.add_zero, Nat.reduceAdd, forall_const]
  rw [cnd_bool]
  rw [hAs] at hs12
  refine ⟨fun h => ?_, fun h => ?_⟩
  · have h : ¬ tail8 (r.take (12 + n)) = (r.drop (12 + n)).take 8 := by simpa using h
    exact bad hs12.p3 (hng fun hg => h (gI.1 hg).2.2)
  · have h : tail8 (r.take (12 + n)) = (r.drop (12 + n)).take 8 := by simpa using h
    have hg : goodR r n := gI.2 ⟨hok, hcmp, h⟩
    rw [if_pos hg] at hR4
    simp only [L_api_Block (Sep.p1 hs12).blk, L_api_Block__Parent (Sep.p1 hs12).blk, L_api_Block__Height (Sep.p1 hs12).blk, L_api_Block__Data (Sep.p1 hs12).blk]
    refine St_api_Block hs12.p3 (one_api_Block (Sep.one (hs12.pick [2] 4))) fun w13 hs13 => ?_
    simp only [L_api_Block hs13.blk, L_api_Block__Parent hs13.blk, L_api_Block__Height hs13.blk, L_api_Block__Data hs13.blk, e3]
    rw [hx, hR4] at hR
    exact hR _ _ ⟨v4, by simp, Sep.dropR (As := [ownB v4 x.d]) hs13.p3⟩
theorem rRecTake_spec (hb : RdB w.heap v l) (hcap : capOk v) (hl : l.length ≤ 9223372036854775807) (ha : -9223372036854775808 ≤ a ∧ a ≤ 9223372036854775807) : cal P f_ref09_Take [v, .int .i64 a] w fun r w' =>
    ∃ v', r = .tuple #[bq (takeX l a).1 v', .int .i64 (takeX l a).2.1, .int .i64 (takeX l a).2.2] ∧ Sep w w' [ownB v' (takeX l a).1.d] := by
  refine s_ref09_Take fun R hR => ?_
  unfold c_ref09_Take
  refine alloc_s (Sep.start w) (A_api_Block w) fun g2 w1 hs1 => ?_
  have bad : ∀ {z : World} {Bs : List Asn} {c : Int}, Sep w z (nb g2 :: Bs) → takeX l a = (Blk.none, 0, c) → rdP P (Instr.build T_api_Block #[]) z fun t52 => stN 34 (.pointer (some ⟨g2, 0, none⟩)) t52 z fun w => ldN 34 (.pointer (some ⟨g2, 0, none⟩)) w.heap fun r1 => R (.tuple #[r1, .int .i64 0, .int .i64 c]) w := fun {z Bs c} h hp => by
    rw [B_api_Block]
    refine St_api_Block h (one_api_Block rfl) fun w10 hs10 => ?_
    simp only [L_api_Block hs10.blk, L_api_Block__Parent hs10.blk, L_api_Block__Height hs10.blk, L_api_Block__Data hs10.blk]
    rw [hp] at hR
    exact hR _ _ ⟨.slice none 0 0, rfl, ((Sep.start w).old hs10.fr0).nil⟩
  simp only [nilc_some, fad_mk, pik_true, pik_false, cnd_true, cnd_false, gif_same, gif_tf, gif_ft, gif_undef, bi_add, bi_sub, bi_mul, bi_eql, bi_neq, bi_lss, bi_leq, bi_gtr, bi_geq, notB_bool, cvi_int, lenS_mk, lenT_mk, ext0, ext1, ext2, nilP_mk, nilS_mk, fldv_agg, jn0_k, jn1_k, jn2_k, jn1_and, jn1_or, ex_some, Option.isNone_some, Option.isNone_none, Bool.false_bne, Bool.bne_true, Bool.bne_false, Bool.true_bne, Bool.not_true, Bool.not_false, Bool.and_true, Bool.true_and, Bool.and_false, Bool.false_and, Bool.or_true, Bool.true_or, Bool.or_false, Bool.false_or, cond_true, cond_false, List.getElem?_toArray, List.getElem?_cons_zero, List.getElem?_cons_succ, Nat.zero_add, Nat.add_zero, Nat.reduceAdd, forall_const, hb.len]
  rw [cnd_bool]
  refine ⟨fun h => ?_, fun h => ?_⟩
  · simp only [Bool.or_eq_true, decide_eq_true_eq] at h
    refine bad hs1 ?_
    unfold takeX
    rw [if_pos (by omega)]
  simp only [Bool.or_eq_false_iff, decide_eq_false_iff_not] at h
  obtain ⟨i, rfl⟩ := Int.eq_ofNat_of_zero_le (show 0 ≤ a by omega)
  have hx : takeX l (i : Int) = ((takeR (l.drop i)).1, (if (takeR (l.drop i)).2.2 = 0 then (i : Int) + (takeR (l.drop i)).2.1 else 0), (takeR (l.drop i)).2.2) := by unfold takeX; rw [if_neg (by omega)]; rfl
  have hil : i ≤ l.length := by omega
  obtain ⟨av, cv, rfl⟩ := hb.form
  have hcv : l.length ≤ cv := hcap _ _ _ rfl
  rw [slc_from hil]
  have hr0 : ∀ {z : World} {Bs : List Asn}, Sep w z Bs → RdB z.heap (.slice (if cv = i then av else av.map (·.add (i * 1))) (l.length - i) (cv - i)) (l.drop i) := fun {z Bs} hz => (hz.rdB hb).drop (k := i) hil hcv (cv - i)
  generalize (if cv = i then av else av.map (·.add (i * 1))) = ar at *
  have hrl : l.length - i = (l.drop i).length := by simp
  rw [hrl] at hr0 ⊢
  obtain ⟨rc, hrc⟩ : ∃ rc, rc = cv - i := ⟨_, rfl⟩
  rw [← hrc] at hr0 ⊢
  have hrcl : (l.drop i).length ≤ rc := by simp; omega
  have hrm : i + (l.drop i).length ≤ 9223372036854775807 := by simp; omega
  generalize l.drop i = r at *
  clear hrl hrc
  simp only [nilc_some, fad_mk, pik_true, pik_false, cnd_true, cnd_false, gif_same, gif_tf, gif_ft, gif_undef, bi_add, bi_sub, bi_mul, bi_eql, bi_neq, bi_lss, bi_leq, bi_gtr, bi_geq, notB_bool, cvi_int, lenS_mk, lenT_mk, ext0, ext1, ext2, nilP_mk, nilS_mk, fldv_agg, jn0_k, jn1_k, jn2_k, jn1_and, jn1_or, ex_some, Option.isNone_some, Option.isNone_none, Bool.false_bne, Bool.bne_true, Bool.bne_false, Bool.true_bne, Bool.not_true, Bool.not_false, Bool.and_true, Bool.true_and, Bool.and_false, Bool.false_and, Bool.or_true, Bool.true_or, Bool.or_false, Bool.false_or, cond_true, cond_false, List.getElem?_toArray, List.getElem?_cons_zero, List.getElem?_cons_succ, Nat.zero_add, Nat.add_zero, Nat.reduceAdd, forall_const]
  rw [cnd_bool]
  refine ⟨fun h => ?_, fun h12 => ?_⟩
  · refine bad hs1 ?_
    have : r.length < 12 := by simp at h; omega
    rw [hx]; unfold takeR; rw [if_pos this]; rfl
  have h12 : ¬ r.length < 12 := by simp at h12; omega
  rw [show (Value.int .i64 4) = .int .i64 ((4 : Nat) : Int) from rfl, slc_to (by omega)]
  have h4 : (r.take 4).length = 4 := by simp; omega
  refine cal_i (rVal_spec ((hr0 hs1).take (k := 4) (by omega) rc) (by omega)) ?_
  rintro _ _ ⟨rfl, rfl⟩
  have hn4 := ofBe_lt (r.take 4)
  rw [h4] at hn4
  obtain ⟨n, hn⟩ : ∃ n, n = ofBe (r.take 4) := ⟨_, rfl⟩
  rw [← hn] at hn4 ⊢
  have hR4 : takeR r = if 246 < n then (Blk.none, 0, 90) else if r.length < 20 + n then (Blk.none, 0, 11) else if goodR r n then (parB (gpay r n), 20 + n, 0) else (Blk.none, 0, 90) := by unfold takeR; rw [if_neg h12, ← hn]
  simp only [nilc_some, fad_mk, pik_true, pik_false, cnd_true, cnd_false, gif_same, gif_tf, gif_ft, gif_undef, bi_add, bi_sub, bi_mul, bi_eql, bi_neq, bi_lss, bi_leq, bi_gtr, bi_geq, notB_bool, cvi_int, lenS_mk, lenT_mk, ext0, ext1, ext2, nilP_mk, nilS_mk, fldv_agg, jn0_k, jn1_k, jn2_k, jn1_and, jn1_or, ex_some, Option.isNone_some, Option.isNone_none, Bool.false_bne, Bool.bne_true, Bool.bne_false, Bool.true_bne, Bool.not_true, Bool.not_false, Bool.and_true, Bool.true_and, Bool.and_false, Bool.false_and, Bool.or_true, Bool.true_or, Bool.or_false, Bool.false_or, cond_true, cond_false, List.getElem?_toArray, List.getElem?_cons_zero, List.getElem?_cons_succ, Nat.zero_add, Nat.add_zero, Nat.reduceAdd, forall_const]
  rw [cnd_bool]
  refine ⟨fun h => ?_, fun h246 => ?_⟩
  · refine bad hs1 ?_
    have : 246 < n := by simp at h; omega
    rw [hx, hR4, if_pos this]; rfl
  have h246 : ¬ 246 < n := by simp at h246; omega
  rw [if_neg h246] at hR4
  have e1 : IntKind.i64.wrap (12 + IntKind.i64.wrap (n : Int)) = ((12 + n : Nat) : Int) := by rw [wi64 (x := (n : Int)) (by omega) (by omega), wi64 (by omega) (by omega)]; omega
  have e2 : IntKind.i64.wrap (((12 + n : Nat) : Int) + 8) = ((20 + n : Nat) : Int) := by rw [wi64 (by omega) (by omega)]; omega
  simp only [e1, e2, nilc_some, fad_mk, pik_true, pik_false, cnd_true, cnd_false, gif_same, gif_tf, gif_ft, gif_undef, bi_add, bi_sub, bi_mul, bi_eql, bi_neq, bi_lss, bi_leq, bi_gtr, bi_geq, notB_bool, cvi_int, lenS_mk, lenT_mk, ext0, ext1, ext2, nilP_mk, nilS_mk, fldv_agg, jn0_k, jn1_k, jn2_k, jn1_and, jn1_or, ex_some, Option.isNone_some, Option.isNone_none, Bool.false_bne, Bool.bne_true, Bool.bne_false, Bool.true_bne, Bool.not_true, Bool.not_false, Bool.and_true, Bool.true_and, Bool.and_false, Bool.false_and, Bool.or_true, Bool.true_or, Bool.or_false, Bool.false_or, cond_true, cond_false, List.getElem?_toArray, List.getElem?_cons_zero, List.getElem?_cons_succ, Nat.zero_add, Nat.add_zero, Nat.reduceAdd, forall_const]
  rw [cnd_bool]
  refine ⟨fun h => ?_, fun h20 => ?_⟩
  · refine bad hs1 ?_
    have : r.length < 20 + n := by simp at h; omega
    rw [hx, hR4, if_pos this]; rfl
  have h20 : ¬ r.length < 20 + n := by simp at h20; omega
  rw [if_neg h20] at hR4
  have hng : ¬ goodR r n → takeX l (i : Int) = (Blk.none, 0, 90) := fun hg => by rw [hx, hR4, if_neg hg]; rfl
  rw [show (Value.int .i64 12) = .int .i64 ((12 : Nat) : Int) from rfl, slc_mid (by omega) (by omega)]
  have hpay : ∀ {z : World} {Bs : List Asn}, Sep w z Bs → RdB z.heap (.slice (if rc = 12 then ar else ar.map (·.add (12 * 1))) (12 + n - 12) (rc - 12)) (gpay r n) := fun {z Bs} hz => by
    have := RdB.mid (i := 12) (j := 12 + n) (hr0 hz) hrcl (by omega) (by omega)
    rw [Nat.add_sub_cancel_left] at this
    rw [Nat.add_sub_cancel_left]
    exact this
  have hpl : (gpay r n).length = n := by simp [gpay]; omega
  refine cal_i (rParse_spec (hpay hs1) (fun a' n' c' he => by
    simp only [Value.slice.injEq] at he
    obtain ⟨_, rfl, rfl⟩ := he
    omega) (by omega)) ?_
  rintro _ w4 ⟨v4, rfl, hs4⟩
  replace hs4 := hs1.join hs4
  simp only [nilc_some, fad_mk, pik_true, pik_false, cnd_true, cnd_false, gif_same, gif_tf, gif_ft, gif_undef, bi_add, bi_sub, bi_mul, bi_eql, bi_neq, bi_lss, bi_leq, bi_gtr, bi_geq, notB_bool, cvi_int, lenS_mk, lenT_mk, ext0, ext1, ext2, nilP_mk, nilS_mk, fldv_agg, jn0_k, jn1_k, jn2_k, jn1_and, jn1_or, ex_some, Option.isNone_some, Option.isNone_none, Bool.false_bne, Bool.bne_true, Bool.bne_false, Bool.true_bne, Bool.not_true, Bool.not_false, Bool.and_true, Bool.true_and, Bool.and_false, Bool.false_and, Bool.or_true, Bool.true_or, Bool.or_false, Bool.false_or, cond_true, cond_false, List.getElem?_toArray, List.getElem?_cons_zero, List.getElem?_cons_succ, Nat.zero_add, Nat.add_zero, Nat.reduceAdd, forall_const]
  refine alloc_s hs4 (A_api_Block w4) fun g5 w5 hs5 => ?_
  refine St_api_Block hs5 (one_api_Block (Sep.one hs5.p1)) fun w6 hs6 => ?_
  by_cases hok : okP (gpay r n)
  case neg =>
    have he : parseE (gpay r n) = 30 := if_neg hok
    simp only [he, nilc_some, fad_mk, pik_true, pik_false, cnd_true, cnd_false, gif_same, gif_tf, gif_ft, gif_undef, bi_add, bi_sub, bi_mul, bi_eql, bi_neq, bi_lss, bi_leq, bi_gtr, bi_geq, notB_bool, cvi_int, lenS_mk, lenT_mk, ext0, ext1, ext2, nilP_mk, nilS_mk, fldv_agg, jn0_k, jn1_k, jn2_k, jn1_and, jn1_or, ex_some, Option.isNone_some, Option.isNone_none, Bool.false_bne, Bool.bne_true, Bool.bne_false, Bool.true_bne, Bool.not_true, Bool.not_false, Bool.and_true, Bool.true_and, Bool.and_false, Bool.false_and, Bool.or_true, Bool.true_or, Bool.or_false, Bool.false_or, cond_true, cond_false, List.getElem?_toArray, List.getElem?_cons_zero, List.getElem?_cons_succ, Nat.zero_add, Nat.add_zero, Nat.reduceAdd, forall_const, show ((30 : Int) != 0) = true from rfl]
    exact bad hs6.p2 (hng fun hg => hok hg.1)
  have hp : parse (gpay r n) = parB (gpay r n) := if_pos hok
  have he : parseE (gpay r n) = 0 := if_pos hok
  have hgd : goodR r n ↔ (parB (gpay r n)).rcd = r.take (20 + n) := ⟨fun h => h.2, fun h => ⟨hok, h⟩⟩
  have hck0 := hok.2.2.1
  have hh := hok.2.1
  rw [hp] at hs6
  simp only [hp, he, nilc_some, fad_mk, pik_true, pik_false, cnd_true, cnd_false, gif_same, gif_tf, gif_ft, gif_undef, bi_add, bi_sub, bi_mul, bi_eql, bi_neq, bi_lss, bi_leq, bi_gtr, bi_geq, notB_bool, cvi_int, lenS_mk, lenT_mk, ext0, ext1, ext2, nilP_mk, nilS_mk, fldv_agg, jn0_k, jn1_k, jn2_k, jn1_and, jn1_or, ex_some, Option.isNone_some, Option.isNone_none, Bool.false_bne, Bool.bne_true, Bool.bne_false, Bool.true_bne, Bool.not_true, Bool.not_false, Bool.and_true, Bool.true_and, Bool.and_false, Bool.false_and, Bool.or_true, Bool.true_or, Bool.or_false, Bool.false_or, cond_true, cond_false, List.getElem?_toArray, List.getElem?_cons_zero, List.getElem?_cons_succ, Nat.zero_add, Nat.add_zero, Nat.reduceAdd, forall_const, show ((0 : Int) != 0) = false from rfl]
  obtain ⟨x, hxx⟩ : ∃ x, x = parB (gpay r n) := ⟨_, rfl⟩
  rw [← hxx] at hs6 hgd hh hck0 hR4
  replace hs6 : Sep w w6 [bb g5 x v4, ownB v4 x.d, nb g2] := hs6
  simp only [L_api_Block hs6.blk, L_api_Block__Parent hs6.blk, L_api_Block__Height hs6.blk, L_api_Block__Data hs6.blk]
  refine cal_i (rRecBytes_spec (b := x) (Sep.rd hs6.p1) hh) ?_
  rintro _ w7 ⟨s7, rfl, hs7⟩
  have ho : x.recO = x.rcd := if_pos hck0
  rw [ho] at hs7
  replace hs7 : Sep w w7 [ownB s7 x.rcd, bb g5 x v4, ownB v4 x.d, nb g2] := hs6.join hs7
  simp only [nilc_some, fad_mk, pik_true, pik_false, cnd_true, cnd_false, gif_same, gif_tf, gif_ft, gif_undef, bi_add, bi_sub, bi_mul, bi_eql, bi_neq, bi_lss, bi_leq, bi_gtr, bi_geq, notB_bool, cvi_int, lenS_mk, lenT_mk, ext0, ext1, ext2, nilP_mk, nilS_mk, fldv_agg, jn0_k, jn1_k, jn2_k, jn1_and, jn1_or, ex_some, Option.isNone_some, Option.isNone_none, Bool.false_bne, Bool.bne_true, Bool.bne_false, Bool.true_bne, Bool.not_true, Bool.not_false, Bool.and_true, Bool.true_and, Bool.and_false, Bool.false_and, Bool.or_true, Bool.true_or, Bool.or_false, Bool.false_or, cond_true, cond_false, List.getElem?_toArray, List.getElem?_cons_zero, List.getElem?_cons_succ, Nat.zero_add, Nat.add_zero, Nat.reduceAdd, forall_const]
  refine drw_s hs7 fun w8 hs8 _ => ?_
  rw [rdP_eq (conv_str UT_bytes UT_uint8 UT_string (Sep.rd hs8)), slc_to (by omega), rdP_eq (conv_str UT_bytes UT_uint8 UT_string ((hr0 hs8).take (k := 20 + n) (by omega) rc)), neS_str]
  rw [cnd_bool]
  refine ⟨fun h => ?_, fun h => ?_⟩
  · have h : ¬ x.rcd = r.take (20 + n) := by simpa using h
    exact bad hs8.p3 (hng fun hg => h (hgd.1 hg))
  · have h : x.rcd = r.take (20 + n) := by simpa using h
    have hg : goodR r n := hgd.2 h
    rw [if_pos hg] at hR4
    simp only [L_api_Block (Sep.p1 hs8).blk, L_api_Block__Parent (Sep.p1 hs8).blk, L_api_Block__Height (Sep.p1 hs8).blk, L_api_Block__Data (Sep.p1 hs8).blk]
    refine St_api_Block hs8.p3 (one_api_Block (Sep.one (hs8.pick [2] 4))) fun w13 hs13 => ?_
    have e3 : IntKind.i64.wrap ((i : Int) + ((20 + n : Nat) : Int)) = (i : Int) + ((20 + n : Nat) : Int) := by rw [wi64 (by omega) (by omega)]
    simp only [L_api_Block hs13.blk, L_api_Block__Parent hs13.blk, L_api_Block__Height hs13.blk, L_api_Block__Data hs13.blk, e3]
    rw [hx, hR4] at hR
    exact hR _ _ ⟨v4, by simp, Sep.dropR (As := [ownB v4 x.d]) hs13.p3⟩
end
end Go.Fx
set_option linter.unusedVariables false
set_option linter.unusedSimpArgs false
namespace Go.Fx
/-- The records of blocks, if all of them may be. -/
def layOk (l : List Blk) : Prop := ∀ b ∈ l, b.chk = 0
instance (l : List Blk) : Decidable (layOk l) := by unfold layOk; infer_instance
def layL (l : List Blk) : List UInt8 := l.flatMap Blk.rcd
def layO (l : List Blk) : List UInt8 := if layOk l then layL l else []
def layE (l : List Blk) : Int := if layOk l then 0 else 30
theorem layL_len : ∀ l : List Blk, layOk l → (layL l).length ≤ 266 * l.length
  | [], _ => by simp [layL]
  | b :: l, h => by
    have h1 := layL_len l fun c hc => h c (by simp [hc])
    have h2 := b.recO_le
    rw [Blk.recO, if_pos (h b (by simp))] at h2
    unfold layL at *
    rw [List.flatMap_cons, List.length_append, List.length_cons]
    omega
theorem layL_take {l : List Blk} {i : Nat} {b : Blk} (h : l[i]? = some b) : layL (l.take (i + 1)) = layL (l.take i) ++ b.rcd := by
  unfold layL
  rw [List.take_add_one, h]
  simp
section
variable {w0 w : World} {As : List Asn} {v : Value} {l : List BV}
theorem BRows.get {h : Heap} (hr : BRows h v l) {j : Nat} {x : BV} (hj : l[j]? = some x) : RdB h x.2 x.1.d := hr.2 x (List.mem_of_getElem? hj)
theorem recLay_spec (hc : Cub w) (hr : BRows w.heap v l) (hn : l.length ≤ 1000) (hh : ∀ x ∈ l, x.1.h ≤ maxI) : cal P f_rec_Lay [v] w fun r w' => ∃ s, r = .tuple #[s, .int .i64 (layE (l.map (·.1)))] ∧ Sep w w' [ownB s (layO (l.map (·.1)))] := by
  refine s_rec_Lay fun R hR => ?_
  unfold c_rec_Lay
  simp only [hr.len]
  refine ⟨fun x y w' => ∃ i : Nat, y = .int .i64 i ∧ i ≤ l.length ∧ layOk ((l.map (·.1)).take i) ∧ Sep w w' [ownB x (layL ((l.map (·.1)).take i))], fun _ y _ => (l.length - RowKit.intOf y).toNat, ⟨0, rfl, by omega, by intro b hb; simp at hb, (Sep.start w).nil⟩, ?_⟩
  rintro s1 _ w1 ⟨i, rfl, hi, hok, hs1⟩ -
  have hll := layL_len _ hok
  have htl : ((l.map (·.1)).take i).length ≤ i := by simp; omega
  simp only [nilc_some, fad_mk, pik_true, pik_false, cnd_true, cnd_false, gif_same, gif_tf, gif_ft, gif_undef, bi_add, bi_sub, bi_mul, bi_eql, bi_neq, bi_lss, bi_leq, bi_gtr, bi_geq, notB_bool, cvi_int, lenS_mk, lenT_mk, ext0, ext1, ext2, nilP_mk, nilS_mk, fldv_agg, jn0_k, jn1_k, jn2_k, jn1_and, jn1_or, ex_some, Option.isNone_some, Option.isNone_none, Bool.false_bne, Bool.bne_true, Bool.bne_false, Bool.true_bne, Bool.not_true, Bool.not_false, Bool.and_true, Bool.true_and, Bool.and_false, Bool.false_and, Bool.or_true, Bool.true_or, Bool.or_false, Bool.false_or, cond_true, cond_false, List.getElem?_toArray, List.getElem?_cons_zero, List.getElem?_cons_succ, Nat.zero_add, Nat.add_zero, Nat.reduceAdd, forall_const]
  rw [cnd_bool]
  refine ⟨fun h => ?_, fun h => ?_⟩
  · have hlt : i < l.length := by simp at h; omega
    have hx := List.getElem?_eq_getElem hlt
    generalize l[i] = x at hx
    have hm := List.mem_of_getElem? hx
    have hx' : (l.map (·.1))[i]? = some x.1 := by rw [List.getElem?_map, hx]; rfl
    refine (hr.fr hs1.fr0).ld hx .i64 ?_
    refine alloc_s hs1 (A_api_Block w1) fun g w2 hs2 => ?_
    refine St_api_Block hs2 (one_api_Block (hr.get hx).one) fun w3 hs3 => ?_
    simp only [L_api_Block hs3.blk, L_api_Block__Parent hs3.blk, L_api_Block__Height hs3.blk, L_api_Block__Data hs3.blk]
    refine cal_i (recBytes_spec (b := x.1) (hc.fr hs3.fr0) (hs3.rdB (hr.get hx)) (hh x hm)) ?_
    rintro _ w4 ⟨s4, rfl, hs4⟩
    replace hs4 := hs3.join hs4
    simp only [nilc_some, fad_mk, pik_true, pik_false, cnd_true, cnd_false, gif_same, gif_tf, gif_ft, gif_undef, bi_add, bi_sub, bi_mul, bi_eql, bi_neq, bi_lss, bi_leq, bi_gtr, bi_geq, notB_bool, cvi_int, lenS_mk, lenT_mk, ext0, ext1, ext2, nilP_mk, nilS_mk, fldv_agg, jn0_k, jn1_k, jn2_k, jn1_and, jn1_or, ex_some, Option.isNone_some, Option.isNone_none, Bool.false_bne, Bool.bne_true, Bool.bne_false, Bool.true_bne, Bool.not_true, Bool.not_false, Bool.and_true, Bool.true_and, Bool.and_false, Bool.false_and, Bool.or_true, Bool.true_or, Bool.or_false, Bool.false_or, cond_true, cond_false, List.getElem?_toArray, List.getElem?_cons_zero, List.getElem?_cons_succ, Nat.zero_add, Nat.add_zero, Nat.reduceAdd, forall_const]
    rcases Blk.chk_or x.1 with h0 | h0
    · have ho : x.1.recO = x.1.rcd := if_pos h0
      have hle := x.1.recO_le
      rw [ho] at hs4 hle
      simp only [h0, nilc_some, fad_mk, pik_true, pik_false, cnd_true, cnd_false, gif_same, gif_tf, gif_ft, gif_undef, bi_add, bi_sub, bi_mul, bi_eql, bi_neq, bi_lss, bi_leq, bi_gtr, bi_geq, notB_bool, cvi_int, lenS_mk, lenT_mk, ext0, ext1, ext2, nilP_mk, nilS_mk, fldv_agg, jn0_k, jn1_k, jn2_k, jn1_and, jn1_or, ex_some, Option.isNone_some, Option.isNone_none, Bool.false_bne, Bool.bne_true, Bool.bne_false, Bool.true_bne, Bool.not_true, Bool.not_false, Bool.and_true, Bool.true_and, Bool.and_false, Bool.false_and, Bool.or_true, Bool.true_or, Bool.or_false, Bool.false_or, cond_true, cond_false, List.getElem?_toArray, List.getElem?_cons_zero, List.getElem?_cons_succ, Nat.zero_add, Nat.add_zero, Nat.reduceAdd, forall_const, show ((0 : Int) != 0) = false from rfl]
      refine appB_s S_sl_uint8 U_sl_uint8 (by simp) (hs4.pick [2, 0] 3) (Sep.rd hs4) (by omega) fun v5 w5 hs5 => ?_
      rw [wi64 (by omega) (by omega)]
      refine ⟨⟨i + 1, by simp, by omega, ?_, ?_⟩, by simp [RowKit.intOf]; omega⟩
      · intro b hb
        rw [List.take_add_one, hx'] at hb
        rcases List.mem_append.1 hb with hb | hb
        · exact hok b hb
        · obtain rfl : b = x.1 := by simpa using hb
          exact h0
      · rw [layL_take hx']
        exact Sep.dropR (As := [ownB v5 _]) hs5
    · simp only [h0, nilc_some, fad_mk, pik_true, pik_false, cnd_true, cnd_false, gif_same, gif_tf, gif_ft, gif_undef, bi_add, bi_sub, bi_mul, bi_eql, bi_neq, bi_lss, bi_leq, bi_gtr, bi_geq, notB_bool, cvi_int, lenS_mk, lenT_mk, ext0, ext1, ext2, nilP_mk, nilS_mk, fldv_agg, jn0_k, jn1_k, jn2_k, jn1_and, jn1_or, ex_some, Option.isNone_some, Option.isNone_none, Bool.false_bne, Bool.bne_true, Bool.bne_false, Bool.true_bne, Bool.not_true, Bool.not_false, Bool.and_true, Bool.true_and, Bool.and_false, Bool.false_and, Bool.or_true, Bool.true_or, Bool.or_false, Bool.false_or, cond_true, cond_false, List.getElem?_toArray, List.getElem?_cons_zero, List.getElem?_cons_succ, Nat.zero_add, Nat.add_zero, Nat.reduceAdd, forall_const, show ((30 : Int) != 0) = true from rfl]
      have hn : ¬ layOk (l.map (·.1)) := fun hk => by
        have := hk x.1 (List.mem_of_getElem? hx')
        omega
      refine hR _ _ ⟨_, by rw [layE, if_neg hn], ?_⟩
      rw [layO, if_neg hn]
      exact ((Sep.start w).old hs4.fr0).nil
  · have hge : i = l.length := by simp at h; omega
    subst hge
    rw [List.take_of_length_le (by simp)] at hok hs1
    refine hR _ _ ⟨s1, by rw [layE, if_pos hok], ?_⟩
    rw [layO, if_pos hok]
    exact hs1
theorem rRecLay_spec (hr : BRows w.heap v l) (hn : l.length ≤ 1000) (hh : ∀ x ∈ l, x.1.h ≤ maxI) : cal P f_ref09_Lay [v] w fun r w' => ∃ s, r = .tuple #[s, .int .i64 (layE (l.map (·.1)))] ∧ Sep w w' [ownB s (layO (l.map (·.1)))] := by
  refine s_ref09_Lay fun R hR => ?_
  unfold c_ref09_Lay
  simp only [hr.len]
  refine ⟨fun x y w' => ∃ i : Nat, y = .int .i64 i ∧ i ≤ l.length ∧ layOk ((l.map (·.1)).take i) ∧ Sep w w' [ownB x (layL ((l.map (·.1)).take i))], fun _ y _ => (l.length - RowKit.intOf y).toNat, ⟨0, rfl, by omega, by intro b hb; simp at hb, (Sep.start w).nil⟩, ?_⟩
  rintro s1 _ w1 ⟨i, rfl, hi, hok, hs1⟩ -
  have hll := layL_len _ hok
  have htl : ((l.map (·.1)).take i).length ≤ i := by simp; omega
  simp only [nilc_some, fad_mk, pik_true, pik_false, cnd_true, cnd_false, gif_same, gif_tf, gif_ft, gif_undef, bi_add, bi_sub, bi_mul, bi_eql, bi_neq, bi_lss, bi_leq, bi_gtr, bi_geq, notB_bool, cvi_int, lenS_mk, lenT_mk, ext0, ext1, ext2, nilP_mk, nilS_mk, fldv_agg, jn0_k, jn1_k, jn2_k, jn1_and, jn1_or, ex_some, Option.isNone_some, Option.isNone_none, Bool.false_bne, Bool.bne_true, Bool.bne_false, Bool.true_bne, Bool.not_true, Bool.not_false, Bool.and_true, Bool.true_and, Bool.and_false, Bool.false_and, Bool.or_true, Bool.true_or, Bool.or_false, Bool.false_or, cond_true, cond_false, List.getElem?_toArray, List.getElem?_cons_zero, List.getElem?_cons_succ, Nat.zero_add, Nat.add_zero, Nat.reduceAdd, forall_const]
  rw [cnd_bool]
  refine ⟨fun h => ?_, fun h => ?_⟩
  · have hlt : i < l.length := by simp at h; omega
    have hx := List.getElem?_eq_getElem hlt
    generalize l[i] = x at hx
    have hm := List.mem_of_getElem? hx
    have hx' : (l.map (·.1))[i]? = some x.1 := by rw [List.getElem?_map, hx]; rfl
    refine (hr.fr hs1.fr0).ld hx .i64 ?_
    refine cal_i (rRecBytes_spec (b := x.1) (hs1.rdB (hr.get hx)) (hh x hm)) ?_
    rintro _ w4 ⟨s4, rfl, hs4⟩
    replace hs4 := hs1.join hs4
    simp only [nilc_some, fad_mk, pik_true, pik_false, cnd_true, cnd_false, gif_same, gif_tf, gif_ft, gif_undef, bi_add, bi_sub, bi_mul, bi_eql, bi_neq, bi_lss, bi_leq, bi_gtr, bi_geq, notB_bool, cvi_int, lenS_mk, lenT_mk, ext0, ext1, ext2, nilP_mk, nilS_mk, fldv_agg, jn0_k, jn1_k, jn2_k, jn1_and, jn1_or, ex_some, Option.isNone_some, Option.isNone_none, Bool.false_bne, Bool.bne_true, Bool.bne_false, Bool.true_bne, Bool.not_true, Bool.not_false, Bool.and_true, Bool.true_and, Bool.and_false, Bool.false_and, Bool.or_true, Bool.true_or, Bool.or_false, Bool.false_or, cond_true, cond_false, List.getElem?_toArray, List.getElem?_cons_zero, List.getElem?_cons_succ, Nat.zero_add, Nat.add_zero, Nat.reduceAdd, forall_const]
    rcases Blk.chk_or x.1 with h0 | h0
    · have ho : x.1.recO = x.1.rcd := if_pos h0
      have hle := x.1.recO_le
      rw [ho] at hs4 hle
      simp only [h0, nilc_some, fad_mk, pik_true, pik_false, cnd_true, cnd_false, gif_same, gif_tf, gif_ft, gif_undef, bi_add, bi_sub, bi_mul, bi_eql, bi_neq, bi_lss, bi_leq, bi_gtr, bi_geq, notB_bool, cvi_int, lenS_mk, lenT_mk, ext0, ext1, ext2, nilP_mk, nilS_mk, fldv_agg, jn0_k, jn1_k, jn2_k, jn1_and, jn1_or, ex_some, Option.isNone_some, Option.isNone_none, Bool.false_bne, Bool.bne_true, Bool.bne_false, Bool.true_bne, Bool.not_true, Bool.not_false, Bool.and_true, Bool.true_and, Bool.and_false, Bool.false_and, Bool.or_true, Bool.true_or, Bool.or_false, Bool.false_or, cond_true, cond_false, List.getElem?_toArray, List.getElem?_cons_zero, List.getElem?_cons_succ, Nat.zero_add, Nat.add_zero, Nat.reduceAdd, forall_const, show ((0 : Int) != 0) = false from rfl]
      refine appB_s S_sl_uint8 U_sl_uint8 (by simp) (hs4.pick [1, 0] 2) (Sep.rd hs4) (by omega) fun v5 w5 hs5 => ?_
      rw [wi64 (by omega) (by omega)]
      refine ⟨⟨i + 1, by simp, by omega, ?_, ?_⟩, by simp [RowKit.intOf]; omega⟩
      · intro b hb
        rw [List.take_add_one, hx'] at hb
        rcases List.mem_append.1 hb with hb | hb
        · exact hok b hb
        · obtain rfl : b = x.1 := by simpa using hb
          exact h0
      · rw [layL_take hx']
        exact Sep.dropR (As := [ownB v5 _]) hs5
    · simp only [h0, nilc_some, fad_mk, pik_true, pik_false, cnd_true, cnd_false, gif_same, gif_tf, gif_ft, gif_undef, bi_add, bi_sub, bi_mul, bi_eql, bi_neq, bi_lss, bi_leq, bi_gtr, bi_geq, notB_bool, cvi_int, lenS_mk, lenT_mk, ext0, ext1, ext2, nilP_mk, nilS_mk, fldv_agg, jn0_k, jn1_k, jn2_k, jn1_and, jn1_or, ex_some, Option.isNone_some, Option.isNone_none, Bool.false_bne, Bool.bne_true, Bool.bne_false, Bool.true_bne, Bool.not_true, Bool.not_false, Bool.and_true, Bool.true_and, Bool.and_false, Bool.false_and, Bool.or_true, Bool.true_or, Bool.or_false, Bool.false_or, cond_true, cond_false, List.getElem?_toArray, List.getElem?_cons_zero, List.getElem?_cons_succ, Nat.zero_add, Nat.add_zero, Nat.reduceAdd, forall_const, show ((30 : Int) != 0) = true from rfl]
      have hn : ¬ layOk (l.map (·.1)) := fun hk => by
        have := hk x.1 (List.mem_of_getElem? hx')
        omega
      refine hR _ _ ⟨_, by rw [layE, if_neg hn], ?_⟩
      rw [layO, if_neg hn]
      exact ((Sep.start w).old hs4.fr0).nil
  · have hge : i = l.length := by simp at h; omega
    subst hge
    rw [List.take_of_length_le (by simp)] at hok hs1
    refine hR _ _ ⟨s1, by rw [layE, if_pos hok], ?_⟩
    rw [layO, if_pos hok]
    exact hs1
end
end Go.Fx
set_option linter.unusedVariables false
set_option linter.unusedSimpArgs false
namespace Go.Fx
theorem min_i64 {w : World} (a b : Int) (K : Value → Prop) : rdP P (Builtin.min_ #[T_int, T_int] T_int #[.int .i64 a, .int .i64 b]) w K = K (.int .i64 (if b < a then b else a)) := by
  refine rdP_eq ?_ K
  simp [Builtin.min_, Builtin.min2]
/-- A record is read where it stands. -/
theorem take_rcd {b : Blk} {t : List UInt8} (hc : b.chk = 0) (hh : b.h ≤ maxI) : takeR (b.rcd ++ t) = (b, b.rcd.length, 0) := by
  have hck := Blk.chk_ok hc
  have hbl := b.bytes_len
  have hrl := b.rec_len
  obtain ⟨n, hn⟩ : ∃ n, n = b.bytes.length := ⟨_, rfl⟩
  have er : b.rcd ++ t = be 4 n ++ (be 8 b.h.toNat ++ (b.bytes ++ (tail8 b.hd ++ t))) := by
    rw [hn]; unfold Blk.rcd; conv => lhs; unfold Blk.hd
    simp only [List.append_assoc]
    rfl
  have e4 : (b.rcd ++ t).take 4 = be 4 n := by rw [er]; exact List.take_left' (be_length _ _)
  have en : ofBe ((b.rcd ++ t).take 4) = n := by rw [e4, ofBe_b4 (by omega)]
  have e12 : (b.rcd ++ t).drop 12 = b.bytes ++ (tail8 b.hd ++ t) := by
    rw [er, show 12 = 4 + 8 from rfl, ← List.drop_drop, List.drop_left' (be_length _ _)]
    exact List.drop_left' (be_length _ _)
  have ep : gpay (b.rcd ++ t) n = b.bytes := by unfold gpay; rw [e12]; exact List.take_left' hn.symm
  have hok := parse_bytes hc hh
  have hg : goodR (b.rcd ++ t) n := by
    unfold goodR
    rw [ep, hok.2]
    exact ⟨hok.1, (List.take_left' (by omega)).symm⟩
  unfold takeR
  rw [en, if_neg (by simp; omega), if_neg (by omega), if_neg (by simp; omega), if_pos hg, ep, hok.2]
  congr 2
  omega
/-- What is read is a record. -/
theorem take_inv {r : List UInt8} {x : Blk} {n : Nat} (h : takeR r = (x, n, 0)) : x.chk = 0 ∧ x.h ≤ maxI ∧ n = x.rcd.length ∧ r = x.rcd ++ r.drop n := by
  unfold takeR at h
  split at h
  · simp at h
  rename_i h12
  split at h
  · simp at h
  rename_i h246
  split at h
  · simp at h
  rename_i h20
  split at h
  · rename_i hg
    simp only [Prod.mk.injEq, and_true] at h
    obtain ⟨rfl, rfl⟩ := h
    refine ⟨hg.1.2.2.1, hg.1.2.1, ?_, ?_⟩
    · rw [hg.2, List.length_take]; omega
    · rw [hg.2, List.take_append_drop]
  · simp at h
theorem takeR_err (r : List UInt8) : (takeR r).2.2 = 0 ∨ ((takeR r).1 = Blk.none ∧ (takeR r).2.1 = 0 ∧ ((takeR r).2.2 = 11 ∨ (takeR r).2.2 = 90)) := by
  unfold takeR
  repeat' split
  all_goals simp
section
variable {w0 w : World} {As : List Asn} {v : Value} {l : List BV}
def FewB (l : List BV) : Prop := l.length ≤ 30 ∧ ∀ x ∈ l, x.1.d.length ≤ 3000
theorem BRows.cut {h : Heap} {a : Option Addr} {m c k : Nat} (hr : BRows h (.slice a m c) l) (hk : k ≤ m) (c' : Nat) : BRows h (.slice a k c') (l.take k) := by
  refine ⟨?_, fun x hx => hr.2 x (List.mem_of_mem_take hx)⟩
  have hm : m = l.length := by obtain ⟨_, _, hv, _⟩ := hr.1; simp only [Value.slice.injEq, List.length_map] at hv; exact hv.2.1
  have := hr.1.take (k := k) (by simp; omega) c'
  rwa [← List.map_take] at this
theorem few9_spec (hr : BRows w.heap v l) (hcap : capOk v) (hl63 : l.length ≤ 9223372036854775807) : cal P f_law09_few [v] w fun r w' => Fr [] w w' ∧ ∃ t, r = .bool t ∧ (t = true → FewB l) := by
  refine s_law09_few fun R hR => ?_
  unfold c_law09_few
  simp only [hr.len, min_i64]
  obtain ⟨a, c, rfl⟩ : ∃ a c, v = .slice a l.length c := by
    obtain ⟨a, c, hv, _⟩ := hr.1
    rw [List.length_map] at hv
    exact ⟨a, c, hv⟩
  have hcv : l.length ≤ c := hcap _ _ _ rfl
  obtain ⟨k, hk, hkl⟩ : ∃ k : Nat, (if (60 : Int) < (l.length : Int) then (60 : Int) else (l.length : Int)) = (k : Int) ∧ k = min l.length 60 := by
    by_cases h : (60 : Int) < (l.length : Int)
    · exact ⟨60, by rw [if_pos h]; rfl, by omega⟩
    · exact ⟨l.length, by rw [if_neg h], by omega⟩
  rw [hk, slc_to (by omega)]
  have hrk := hr.cut (k := k) (by omega) c
  have hkl2 : (l.take k).length = k := by simp; omega
  simp only [nilc_some, fad_mk, pik_true, pik_false, cnd_true, cnd_false, gif_same, gif_tf, gif_ft, gif_undef, bi_add, bi_sub, bi_mul, bi_eql, bi_neq, bi_lss, bi_leq, bi_gtr, bi_geq, notB_bool, cvi_int, lenS_mk, lenT_mk, ext0, ext1, ext2, nilP_mk, nilS_mk, fldv_agg, jn0_k, jn1_k, jn2_k, jn1_and, jn1_or, ex_some, Option.isNone_some, Option.isNone_none, Bool.false_bne, Bool.bne_true, Bool.bne_false, Bool.true_bne, Bool.not_true, Bool.not_false, Bool.and_true, Bool.true_and, Bool.and_false, Bool.false_and, Bool.or_true, Bool.true_or, Bool.or_false, Bool.false_or, cond_true, cond_false, List.getElem?_toArray, List.getElem?_cons_zero, List.getElem?_cons_succ, Nat.zero_add, Nat.add_zero, Nat.reduceAdd, forall_const]
  refine ⟨fun y w' => ∃ i : Nat, y = .int .i64 i ∧ i ≤ k ∧ (∀ x ∈ (l.take k).take i, x.1.d.length ≤ 3000) ∧ Fr [] w w', fun y _ => (k - RowKit.intOf y).toNat, ⟨0, rfl, by omega, by simp, Fr.refl _ _⟩, ?_⟩
  rintro _ w1 ⟨i, rfl, hi, hall, hf⟩ -
  simp only [nilc_some, fad_mk, pik_true, pik_false, cnd_true, cnd_false, gif_same, gif_tf, gif_ft, gif_undef, bi_add, bi_sub, bi_mul, bi_eql, bi_neq, bi_lss, bi_leq, bi_gtr, bi_geq, notB_bool, cvi_int, lenS_mk, lenT_mk, ext0, ext1, ext2, nilP_mk, nilS_mk, fldv_agg, jn0_k, jn1_k, jn2_k, jn1_and, jn1_or, ex_some, Option.isNone_some, Option.isNone_none, Bool.false_bne, Bool.bne_true, Bool.bne_false, Bool.true_bne, Bool.not_true, Bool.not_false, Bool.and_true, Bool.true_and, Bool.and_false, Bool.false_and, Bool.or_true, Bool.true_or, Bool.or_false, Bool.false_or, cond_true, cond_false, List.getElem?_toArray, List.getElem?_cons_zero, List.getElem?_cons_succ, Nat.zero_add, Nat.add_zero, Nat.reduceAdd, forall_const]
  rw [cnd_bool]
  refine ⟨fun h => ?_, fun h => ?_⟩
  · have hlt : i < k := by simp at h; omega
    have hx := List.getElem?_eq_getElem (l := l.take k) (i := i) (by omega)
    generalize (l.take k)[i] = x at hx
    refine (hrk.fr hf).ld hx .i64 ?_
    have hs := (Sep.start w).old hf
    refine alloc_s hs (A_api_Block w1) fun g w2 hs2 => ?_
    have hd := hrk.get hx
    refine St_api_Block hs2 (one_api_Block hd.one) fun w3 hs3 => ?_
    have hl := (hs3.rdB hd).len
    simp only [L_api_Block hs3.blk, L_api_Block__Parent hs3.blk, L_api_Block__Height hs3.blk, L_api_Block__Data hs3.blk, hl, nilc_some, fad_mk, pik_true, pik_false, cnd_true, cnd_false, gif_same, gif_tf, gif_ft, gif_undef, bi_add, bi_sub, bi_mul, bi_eql, bi_neq, bi_lss, bi_leq, bi_gtr, bi_geq, notB_bool, cvi_int, lenS_mk, lenT_mk, ext0, ext1, ext2, nilP_mk, nilS_mk, fldv_agg, jn0_k, jn1_k, jn2_k, jn1_and, jn1_or, ex_some, Option.isNone_some, Option.isNone_none, Bool.false_bne, Bool.bne_true, Bool.bne_false, Bool.true_bne, Bool.not_true, Bool.not_false, Bool.and_true, Bool.true_and, Bool.and_false, Bool.false_and, Bool.or_true, Bool.true_or, Bool.or_false, Bool.false_or, cond_true, cond_false, List.getElem?_toArray, List.getElem?_cons_zero, List.getElem?_cons_succ, Nat.zero_add, Nat.add_zero, Nat.reduceAdd, forall_const]
    rw [cnd_bool]
    refine ⟨fun h3 => hR _ _ ⟨hs3.fr0, false, rfl, fun hc => by cases hc⟩, fun h3 => ?_⟩
    have h3 : x.1.d.length ≤ 3000 := by simp at h3; omega
    rw [wi64 (by omega) (by omega)]
    refine ⟨⟨i + 1, by simp, by omega, ?_, hs3.fr0⟩, by simp [RowKit.intOf]; omega⟩
    intro y hy
    rw [List.take_add_one, hx] at hy
    rcases List.mem_append.1 hy with hy | hy
    · exact hall y hy
    · simp at hy; subst hy; exact h3
  · have hge : i = k := by simp at h; omega
    subst hge
    rw [List.take_take, Nat.min_self] at hall
    refine hR _ _ ⟨hf, _, rfl, fun ht => ?_⟩
    have h30 : l.length ≤ 30 := by simp at ht; omega
    refine ⟨h30, ?_⟩
    rwa [List.take_of_length_le (by omega)] at hall
theorem b0_chk : Blk.none.chk = 0 := by decide +kernel
theorem b0_bytes : Blk.none.bytes.length = 46 := by rw [Blk.bytes_len]; rfl
theorem live9_spec (hc : Cub w) : cal P f_law09_live [] w fun r w' => r = .bool true ∧ Fr [] w w' := by
  refine s_law09_live fun R hR => ?_
  unfold c_law09_live
  rw [B_api_Block, bq_none]
  refine cal_i (recBytes_spec (b := Blk.none) hc (rdNil w) (by decide)) ?_
  rintro _ w1 ⟨s1, rfl, hs1⟩
  have ho : Blk.none.recO = Blk.none.rcd := if_pos b0_chk
  have hl1 : Blk.none.rcd.length = 66 := by rw [Blk.rec_len]; rfl
  rw [ho] at hs1
  simp only [nilc_some, fad_mk, pik_true, pik_false, cnd_true, cnd_false, gif_same, gif_tf, gif_ft, gif_undef, bi_add, bi_sub, bi_mul, bi_eql, bi_neq, bi_lss, bi_leq, bi_gtr, bi_geq, notB_bool, cvi_int, lenS_mk, lenT_mk, ext0, ext1, ext2, nilP_mk, nilS_mk, fldv_agg, jn0_k, jn1_k, jn2_k, jn1_and, jn1_or, ex_some, Option.isNone_some, Option.isNone_none, Bool.false_bne, Bool.bne_true, Bool.bne_false, Bool.true_bne, Bool.not_true, Bool.not_false, Bool.and_true, Bool.true_and, Bool.and_false, Bool.false_and, Bool.or_true, Bool.true_or, Bool.or_false, Bool.false_or, cond_true, cond_false, List.getElem?_toArray, List.getElem?_cons_zero, List.getElem?_cons_succ, Nat.zero_add, Nat.add_zero, Nat.reduceAdd, forall_const]
  obtain ⟨a1, c1, rfl, hac⟩ := Sep.form hs1
  refine cal_i (recTake_spec (a := 0) (hc.fr hs1.fr0) (Sep.rd hs1) (fun a n c he => by
    simp only [Value.slice.injEq] at he
    obtain ⟨_, rfl, rfl⟩ := he
    omega) (by omega) (by omega)) ?_
  rintro _ w2 ⟨v2, rfl, hs2⟩
  replace hs2 := hs1.join hs2
  have ht : takeX Blk.none.rcd 0 = (Blk.none, 66, 0) := by
    have h1 := take_rcd (b := Blk.none) (t := []) b0_chk (by decide)
    rw [List.append_nil, hl1] at h1
    unfold takeX
    rw [if_neg (by omega), show (0 : Int).toNat = 0 from rfl, List.drop_zero, h1]
    rfl
  rw [ht] at hs2
  rw [ht, b0_chk]
  simp only [nilc_some, fad_mk, pik_true, pik_false, cnd_true, cnd_false, gif_same, gif_tf, gif_ft, gif_undef, bi_add, bi_sub, bi_mul, bi_eql, bi_neq, bi_lss, bi_leq, bi_gtr, bi_geq, notB_bool, cvi_int, lenS_mk, lenT_mk, ext0, ext1, ext2, nilP_mk, nilS_mk, fldv_agg, jn0_k, jn1_k, jn2_k, jn1_and, jn1_or, ex_some, Option.isNone_some, Option.isNone_none, Bool.false_bne, Bool.bne_true, Bool.bne_false, Bool.true_bne, Bool.not_true, Bool.not_false, Bool.and_true, Bool.true_and, Bool.and_false, Bool.false_and, Bool.or_true, Bool.true_or, Bool.or_false, Bool.false_or, cond_true, cond_false, List.getElem?_toArray, List.getElem?_cons_zero, List.getElem?_cons_succ, Nat.zero_add, Nat.add_zero, Nat.reduceAdd, forall_const]
  refine alloc_s hs2 (A_api_Block w2) fun g3 w3 hs3 => ?_
  refine St_api_Block hs3 (one_api_Block (Sep.one hs3.p1)) fun w4 hs4 => ?_
  simp only [nilc_some, fad_mk, pik_true, pik_false, cnd_true, cnd_false, gif_same, gif_tf, gif_ft, gif_undef, bi_add, bi_sub, bi_mul, bi_eql, bi_neq, bi_lss, bi_leq, bi_gtr, bi_geq, notB_bool, cvi_int, lenS_mk, lenT_mk, ext0, ext1, ext2, nilP_mk, nilS_mk, fldv_agg, jn0_k, jn1_k, jn2_k, jn1_and, jn1_or, ex_some, Option.isNone_some, Option.isNone_none, Bool.false_bne, Bool.bne_true, Bool.bne_false, Bool.true_bne, Bool.not_true, Bool.not_false, Bool.and_true, Bool.true_and, Bool.and_false, Bool.false_and, Bool.or_true, Bool.true_or, Bool.or_false, Bool.false_or, cond_true, cond_false, List.getElem?_toArray, List.getElem?_cons_zero, List.getElem?_cons_succ, Nat.zero_add, Nat.add_zero, Nat.reduceAdd, forall_const, show ((0 : Int) == 0) = true from rfl]
  have e66 : ((Blk.none.rcd.length : Int) == 66) = true := by rw [hl1]; rfl
  simp only [e66, nilc_some, fad_mk, pik_true, pik_false, cnd_true, cnd_false, gif_same, gif_tf, gif_ft, gif_undef, bi_add, bi_sub, bi_mul, bi_eql, bi_neq, bi_lss, bi_leq, bi_gtr, bi_geq, notB_bool, cvi_int, lenS_mk, lenT_mk, ext0, ext1, ext2, nilP_mk, nilS_mk, fldv_agg, jn0_k, jn1_k, jn2_k, jn1_and, jn1_or, ex_some, Option.isNone_some, Option.isNone_none, Bool.false_bne, Bool.bne_true, Bool.bne_false, Bool.true_bne, Bool.not_true, Bool.not_false, Bool.and_true, Bool.true_and, Bool.and_false, Bool.false_and, Bool.or_true, Bool.true_or, Bool.or_false, Bool.false_or, cond_true, cond_false, List.getElem?_toArray, List.getElem?_cons_zero, List.getElem?_cons_succ, Nat.zero_add, Nat.add_zero, Nat.reduceAdd, forall_const, show ((66 : Int) == 66) = true from rfl]
  refine jn1_dup ?_
  rw [show (Value.int .i64 4) = .int .i64 ((4 : Nat) : Int) from rfl, slc_to (by omega)]
  have h1 : ∀ w : World, (Instr.buildSlice T_sl_uint8 4 #[(0, .int .u8 0), (1, .int .u8 0), (2, .int .u8 0), (3, .int .u8 46)]).run P w = .ok (.slice (some ⟨w.heap.size, 0, none⟩) 4 4) (w.alloc (.cells (bvs [0, 0, 0, 46]).toArray T_uint8)) := fun w => by kernel_rfl
  refine buildB_s (l := [0, 0, 0, 46]) hs4 rfl (h1 _) fun g5 w5 hs5 => ?_
  have h4 := (Sep.rd (hs5.pick [3] 4)).take (k := 4) (by omega) c1
  have e4 : Blk.none.rcd.take 4 = [0, 0, 0, 46] := by
    unfold Blk.rcd Blk.hd
    rw [List.append_assoc, List.append_assoc, List.take_left' (be_length _ _), b0_bytes]
    decide
  rw [e4] at h4
  refine cal_i (bEqual_spec h4 (Sep.rd hs5)) ?_
  rintro _ _ ⟨rfl, rfl⟩
  simp only [nilc_some, fad_mk, pik_true, pik_false, cnd_true, cnd_false, gif_same, gif_tf, gif_ft, gif_undef, bi_add, bi_sub, bi_mul, bi_eql, bi_neq, bi_lss, bi_leq, bi_gtr, bi_geq, notB_bool, cvi_int, lenS_mk, lenT_mk, ext0, ext1, ext2, nilP_mk, nilS_mk, fldv_agg, jn0_k, jn1_k, jn2_k, jn1_and, jn1_or, ex_some, Option.isNone_some, Option.isNone_none, Bool.false_bne, Bool.bne_true, Bool.bne_false, Bool.true_bne, Bool.not_true, Bool.not_false, Bool.and_true, Bool.true_and, Bool.and_false, Bool.false_and, Bool.or_true, Bool.true_or, Bool.or_false, Bool.false_or, cond_true, cond_false, List.getElem?_toArray, List.getElem?_cons_zero, List.getElem?_cons_succ, Nat.zero_add, Nat.add_zero, Nat.reduceAdd, forall_const, beq_self_eq_true]
  refine jn1_dup ?_
  simp only [L_api_Block (Sep.p1 hs5).blk, L_api_Block__Parent (Sep.p1 hs5).blk, L_api_Block__Height (Sep.p1 hs5).blk, L_api_Block__Data (Sep.p1 hs5).blk, B_api_Block]
  refine cal_i (rSame_spec (a := Blk.none) (b := Blk.none) (Sep.rd (hs5.pick [2] 4)) (rdNil w5)) ?_
  rintro _ w6 ⟨rfl, hf6⟩
  simp only [decide_true, nilc_some, fad_mk, pik_true, pik_false, cnd_true, cnd_false, gif_same, gif_tf, gif_ft, gif_undef, bi_add, bi_sub, bi_mul, bi_eql, bi_neq, bi_lss, bi_leq, bi_gtr, bi_geq, notB_bool, cvi_int, lenS_mk, lenT_mk, ext0, ext1, ext2, nilP_mk, nilS_mk, fldv_agg, jn0_k, jn1_k, jn2_k, jn1_and, jn1_or, ex_some, Option.isNone_some, Option.isNone_none, Bool.false_bne, Bool.bne_true, Bool.bne_false, Bool.true_bne, Bool.not_true, Bool.not_false, Bool.and_true, Bool.true_and, Bool.and_false, Bool.false_and, Bool.or_true, Bool.true_or, Bool.or_false, Bool.false_or, cond_true, cond_false, List.getElem?_toArray, List.getElem?_cons_zero, List.getElem?_cons_succ, Nat.zero_add, Nat.add_zero, Nat.reduceAdd, forall_const]
  exact hR _ _ ⟨rfl, (hs5.old hf6).fr0⟩
end
end Go.Fx
set_option linter.unusedVariables false
set_option linter.unusedSimpArgs false
namespace Go.Fx
def goodB (l : List Blk) : Prop := ∀ b ∈ l, b.chk = 0 ∧ b.h ≤ maxI
theorem goodB.ok {l : List Blk} (h : goodB l) : layOk l := fun b hb => (h b hb).1
theorem layL_append (a b : List Blk) : layL (a ++ b) = layL a ++ layL b := by unfold layL; simp
theorem layL_cons (a : Blk) (b : List Blk) : layL (a :: b) = a.rcd ++ layL b := by unfold layL; simp
/-- L is what stands at the beginning of r. -/
def IsScan (r : List UInt8) (L : List Blk) : Prop := goodB L ∧ ∃ t, r = layL L ++ t ∧ (takeR t).2.2 ≠ 0
theorem takeR_nil : takeR [] = (Blk.none, 0, 11) := by unfold takeR; rw [if_pos (by decide)]
theorem IsScan.uniq : ∀ {L M : List Blk} {r : List UInt8}, IsScan r L → IsScan r M → L = M
  | [], [], _, _, _ => rfl
  | [], b :: M, r, ⟨_, t, h1, h2⟩, ⟨g, s, k1, k2⟩ => by
    have hb := g b (by simp)
    have ht : t = b.rcd ++ (layL M ++ s) := by
      have : layL ([] : List Blk) ++ t = t := rfl
      rw [← this, ← h1, k1, layL_cons, List.append_assoc]
    rw [ht, take_rcd hb.1 hb.2] at h2
    exact absurd rfl h2
  | a :: L, [], r, ⟨g, t, h1, h2⟩, ⟨_, s, k1, k2⟩ => by
    have ha := g a (by simp)
    have hs : s = a.rcd ++ (layL L ++ t) := by
      have : layL ([] : List Blk) ++ s = s := rfl
      rw [← this, ← k1, h1, layL_cons, List.append_assoc]
    rw [hs, take_rcd ha.1 ha.2] at k2
    exact absurd rfl k2
  | a :: L, b :: M, r, ⟨g, t, h1, h2⟩, ⟨g', s, k1, k2⟩ => by
    have ha := g a (by simp)
    have hb := g' b (by simp)
    have e1 : takeR r = (a, a.rcd.length, 0) := by rw [h1, layL_cons, List.append_assoc]; exact take_rcd ha.1 ha.2
    have e2 : takeR r = (b, b.rcd.length, 0) := by rw [k1, layL_cons, List.append_assoc]; exact take_rcd hb.1 hb.2
    have hab : a = b := congrArg Prod.fst (e1.symm.trans e2)
    subst hab
    have h3 : layL L ++ t = layL M ++ s := by
      have := h1.symm.trans k1
      rw [layL_cons, layL_cons, List.append_assoc, List.append_assoc] at this
      exact List.append_cancel_left this
    have := IsScan.uniq (L := L) (M := M) (r := layL L ++ t) ⟨fun x hx => g x (by simp [hx]), t, rfl, h2⟩ ⟨fun x hx => g' x (by simp [hx]), s, h3, k2⟩
    rw [this]
theorem IsScan.len {r : List UInt8} {L : List Blk} (h : IsScan r L) : (layL L).length ≤ r.length := by
  obtain ⟨_, t, h1, _⟩ := h
  rw [h1]; simp
theorem IsScan.take {r : List UInt8} {L : List Blk} (h : IsScan r L) : r.take (layL L).length = layL L := by
  obtain ⟨_, t, h1, _⟩ := h
  rw [h1]; simp
theorem layL_ge : ∀ L : List Blk, 66 * L.length ≤ (layL L).length
  | [] => by simp
  | b :: L => by
    have h1 := layL_ge L
    have h2 := b.rec_len
    rw [layL_cons, List.length_append, List.length_cons]
    omega
/-- A record that is cut off. -/
theorem take_cut {b : Blk} {s : List UInt8} {j : Nat} (hc : b.chk = 0) (hj : j < b.rcd.length) : takeR ((b.rcd ++ s).take j) = (Blk.none, 0, 11) := by
  have hck := Blk.chk_ok hc
  have hbl := b.bytes_len
  have hrl := b.rec_len
  have e1 : (b.rcd ++ s).take j = b.rcd.take j := by rw [List.take_append_of_le_length (by omega)]
  have hl : (b.rcd.take j).length = j := by simp; omega
  rw [e1]
  unfold takeR
  by_cases h12 : j < 12
  · rw [if_pos (by omega)]
  · rw [if_neg (by omega)]
    have e4 : (b.rcd.take j).take 4 = be 4 b.bytes.length := by
      rw [List.take_take, Nat.min_eq_left (by omega)]
      unfold Blk.rcd Blk.hd
      rw [List.append_assoc, List.append_assoc]
      exact List.take_left' (be_length _ _)
    rw [e4, ofBe_b4 (by omega), if_neg (by omega), if_pos (by omega)]
theorem drop_cons_get {l : List Blk} {i : Nat} {b : Blk} (h : l[i]? = some b) : l.drop i = b :: l.drop (i + 1) := by
  obtain ⟨hlt, hb⟩ := List.getElem?_eq_some_iff.1 h
  rw [List.drop_eq_getElem_cons hlt, hb]
/-- Cut off behind k bytes, n records are whole. -/
theorem scan_cut {L : List Blk} {k n : Nat} (hg : goodB L) (hk : k ≤ (layL L).length) (hn : n ≤ L.length) (h1 : (layL (L.take n)).length ≤ k) (h2 : ∀ b, L[n]? = some b → k - (layL (L.take n)).length < b.rcd.length) :
    IsScan ((layL L).take k) (L.take n) ∧ takeR (((layL L).take k).drop (layL (L.take n)).length) = (Blk.none, 0, 11) := by
  have e : layL L = layL (L.take n) ++ layL (L.drop n) := by rw [← layL_append, List.take_append_drop]
  obtain ⟨m, hm⟩ : ∃ m, m = (layL (L.take n)).length := ⟨_, rfl⟩
  have ek : (layL L).take k = layL (L.take n) ++ (layL (L.drop n)).take (k - m) := by
    rw [e, List.take_append, hm, List.take_of_length_le (by omega)]
  have ht : takeR ((layL (L.drop n)).take (k - m)) = (Blk.none, 0, 11) := by
    cases hx : L[n]? with
    | none =>
      have hge := List.getElem?_eq_none_iff.1 hx
      rw [List.drop_of_length_le hge]
      show takeR (([] : List UInt8).take _) = _
      rw [List.take_nil]
      exact takeR_nil
    | some b =>
      rw [drop_cons_get hx, layL_cons]
      have := h2 b hx
      exact take_cut (hg b (List.mem_of_getElem? hx)).1 (by omega)
  refine ⟨⟨fun b hb => hg b (List.mem_of_mem_take hb), _, ek, by rw [ht]; decide⟩, ?_⟩
  rw [← hm, ek, List.drop_left' hm.symm]
  exact ht
end Go.Fx
set_option linter.unusedVariables false
set_option linter.unusedSimpArgs false
namespace Go.Fx
abbrev oV (x : BV) : Asn := ownB x.2 x.1.d
/-- A row of blocks that the call owns. -/
def brow (v : Value) (B : List BV) : List Asn := rows Q_api_Block v (B.map BV.t) :: B.map oV
theorem brow_rd {w0 w : World} {v : Value} {B : List BV} {Bs : List Asn} (h : Sep w0 w (brow v B ++ Bs)) : BRows w.heap v B := by
  refine ⟨Sep.rows h, fun s hs => ?_⟩
  obtain ⟨F, hF⟩ := h.onL (A := ownB s.2 s.1.d) (by simp only [brow, List.cons_append, List.mem_cons, List.mem_append, List.mem_map]; exact .inr (.inl ⟨s, hs, rfl⟩))
  exact OwnB.rd hF
theorem Rows'.ldI {w : World} {v : Value} {l : List Int} {j : Nat} {a : Int} (hr : Rows' (rInt .i64) w.heap v l) (hj : l[j]? = some a) (k : IntKind) {K : Value → Prop} (h : K (.int .i64 a)) : ixs 1 v (.int k (j : Int)) fun t => Go.Fx.ld1 t w.heap K := by
  obtain ⟨g, o, ha, hx⟩ := hr.ix (by decide) hj
  have hx' : ∀ K, ixs 1 v (.int k (j : Int)) K = K (.pointer (some ⟨g, o, none⟩)) := hx k
  rw [hx', At.ld1 (v := .int .i64 a) ha]
  exact h
/-- A row, read in a region that draws. -/
theorem rdS_rowN {α : Type} {q : Rdr α} {S : World → Prop} {w : World} {v : Value} {l : List α} {j : Nat} {a : α} {K : Value → Prop} (hp : 0 < q.size)
    (hw : S w) (hS : ∀ u, S u → Rows' q u.heap v l) (hj : l[j]? = some a) (k : IntKind) (h : K (.agg (q.cells a).toArray)) : ixs q.size v (.int k (j : Int)) fun t => rdS S (fun w => ldN q.size t w.heap) K := by
  obtain ⟨g, o, c, rfl⟩ := (hS w hw).form hp hj
  have hlt := (List.getElem?_eq_some_iff.1 hj).1
  rw [ixs_mk _ _ _ _ _ _ _ _ (by omega) (by omega), Int.toNat_natCast]
  refine ⟨.agg (q.cells a).toArray, fun z hz => ?_, h⟩
  have hat := At.of hp (hS z hz) hj
  exact (At.ldN hat (q.len a) _).mpr rfl
/-- Where the records end. -/
def endsOf (L : List Blk) : List Int := (List.range L.length).map fun i => ((layL (L.take (i + 1))).length : Int)
theorem endsOf_snoc (L : List Blk) (x : Blk) : endsOf (L ++ [x]) = endsOf L ++ [((layL (L ++ [x])).length : Int)] := by
  unfold endsOf
  rw [List.length_append, List.length_singleton, List.range_succ, List.map_append, List.map_singleton]
  congr 1
  · apply List.map_congr_left
    intro i hi
    have := List.mem_range.1 hi
    rw [List.take_append_of_le_length (by omega)]
  · rw [List.take_of_length_le (by simp)]
theorem endsOf_len (L : List Blk) : (endsOf L).length = L.length := by simp [endsOf]
theorem endsOf_last {L : List Blk} (h : L ≠ []) : (endsOf L)[L.length - 1]? = some ((layL L).length : Int) := by
  have hl : 0 < L.length := List.length_pos_iff.2 h
  unfold endsOf
  rw [List.getElem?_map, List.getElem?_range (by omega)]
  simp only [Option.map_some]
  rw [List.take_of_length_le (by omega)]
section
variable {w0 w : World} {As T : List Asn} {v u : Value} {l : List UInt8} {B C : List BV}
/-- 'append(l, x)', one block more. -/
theorem app_blk {Xs : List Asn} {g : Nat} {x : Blk} {vx : Value} {K : Value → World → Prop} (hs : Sep w0 w (bb g x vx :: ownB vx x.d :: rows Q_api_Block u (B.map BV.t) :: (Xs ++ (B.map oV ++ T)))) (hB : B.length ≤ 1000000)
    (h : ∀ v' w', Sep w0 w' (rows Q_api_Block v' ((B ++ [(x, vx)]).map BV.t) :: (Xs ++ ((B ++ [(x, vx)]).map oV ++ T))) → K v' w') :
    efP P (Instr.buildSlice T_sl_api_Block 1 #[(0, bq x vx)]) w fun t w => efP P (Builtin.append_ #[T_sl_api_Block, T_sl_api_Block] T_sl_api_Block #[u, t]) w K := by
  have h1 := Sep.one hs.p1
  refine rows_lit hs S_sl_api_Block (l := [(x.p, x.h, vx)]) (V := fun a => .agg (Rdr.cells Q_api_Block a).toArray) qV rfl rfl (by decide) (by decide) fun g4 w4 hs4 => ?_
  refine rows_app S_sl_api_Block U_sl_api_Block (by simp) hs4.p3 (Sep.rows hs4) ?_ (by simp; omega) (by simp; omega) fun v' w2 hs2 => ?_
  · simp only [List.flatMap_cons, List.flatMap_nil, List.append_nil]
    exact one_api_Block h1
  · refine h v' w2 ?_
    rw [List.map_append]
    exact Sep.put (f := oV) (s := (x, vx)) (Xs := rows Q_api_Block v' (B.map BV.t ++ [BV.t (x, vx)]) :: Xs) (hs2.pick [3, 0] 4)
theorem takeX_at {k : Nat} (hk : k ≤ l.length) : takeX l (k : Int) = ((takeR (l.drop k)).1, (if (takeR (l.drop k)).2.2 = 0 then (k : Int) + (takeR (l.drop k)).2.1 else 0), (takeR (l.drop k)).2.2) := by unfold takeX; rw [if_neg (by omega)]; rfl
theorem scan_spec (hc : Cub w) (hb : RdB w.heap v l) (hcap : capOk v) (hl : l.length ≤ 1000000) : cal P f_rec_scan [v] w fun r w' => ∃ (x y : Value) (B : List BV), r = .tuple #[x, y] ∧ IsScan l (B.map (·.1)) ∧ Sep w w' (rows Q_api_Block x (B.map BV.t) :: rows (rInt .i64) y (endsOf (B.map (·.1))) :: B.map oV) := by
  refine s_rec_scan fun R hR => ?_
  unfold c_rec_scan
  refine ⟨fun x y z w' => ∃ (B : List BV) (t : List UInt8), z = .int .i64 (layL (B.map (·.1))).length ∧ goodB (B.map (·.1)) ∧ l = layL (B.map (·.1)) ++ t ∧ Sep w w' (rows Q_api_Block x (B.map BV.t) :: rows (rInt .i64) y (endsOf (B.map (·.1))) :: (B.map oV ++ [])), fun _ _ z _ => (l.length - RowKit.intOf z).toNat,
    ⟨[], l, rfl, by intro b hb; simp at hb, rfl, (Sep.start w).nilR.nilR⟩, ?_⟩
  rintro x y _ w1 ⟨B, t, rfl, hg, hlt, hs1⟩ -
  obtain ⟨L, hL⟩ : ∃ L, L = B.map (·.1) := ⟨_, rfl⟩
  rw [← hL] at hg hlt hs1 ⊢
  have hle : (layL L).length ≤ l.length := by rw [hlt]; simp
  have hLl : L.length = B.length := by rw [hL]; simp
  have h66 := layL_ge L
  refine cal_i (recTake_spec (a := ((layL L).length : Nat)) (hc.fr hs1.fr0) (hs1.rdB hb) hcap (by omega) (by omega)) ?_
  rintro _ w2 ⟨v2, rfl, hs2⟩
  replace hs2 := hs1.join hs2
  have hd : l.drop (layL L).length = t := by rw [hlt]; exact List.drop_left' rfl
  rw [takeX_at hle, hd] at hs2
  rw [takeX_at hle, hd]
  simp only [nilc_some, fad_mk, pik_true, pik_false, cnd_true, cnd_false, gif_same, gif_tf, gif_ft, gif_undef, bi_add, bi_sub, bi_mul, bi_eql, bi_neq, bi_lss, bi_leq, bi_gtr, bi_geq, notB_bool, cvi_int, lenS_mk, lenT_mk, ext0, ext1, ext2, nilP_mk, nilS_mk, fldv_agg, jn0_k, jn1_k, jn2_k, jn1_and, jn1_or, ex_some, Option.isNone_some, Option.isNone_none, Bool.false_bne, Bool.bne_true, Bool.bne_false, Bool.true_bne, Bool.not_true, Bool.not_false, Bool.and_true, Bool.true_and, Bool.and_false, Bool.false_and, Bool.or_true, Bool.true_or, Bool.or_false, Bool.false_or, cond_true, cond_false, List.getElem?_toArray, List.getElem?_cons_zero, List.getElem?_cons_succ, Nat.zero_add, Nat.add_zero, Nat.reduceAdd, forall_const]
  refine alloc_s hs2 (A_api_Block w2) fun g3 w3 hs3 => ?_
  refine St_api_Block hs3 (one_api_Block (Sep.one hs3.p1)) fun w4 hs4 => ?_
  rcases takeR_err t with h0 | ⟨hn, hn0, hne⟩
  · obtain ⟨b, n, hx⟩ : ∃ b n, takeR t = (b, n, 0) := ⟨_, _, by rw [← h0]⟩
    rw [hx] at hs4 ⊢
    have hinv := take_inv hx
    simp only [nilc_some, fad_mk, pik_true, pik_false, cnd_true, cnd_false, gif_same, gif_tf, gif_ft, gif_undef, bi_add, bi_sub, bi_mul, bi_eql, bi_neq, bi_lss, bi_leq, bi_gtr, bi_geq, notB_bool, cvi_int, lenS_mk, lenT_mk, ext0, ext1, ext2, nilP_mk, nilS_mk, fldv_agg, jn0_k, jn1_k, jn2_k, jn1_and, jn1_or, ex_some, Option.isNone_some, Option.isNone_none, Bool.false_bne, Bool.bne_true, Bool.bne_false, Bool.true_bne, Bool.not_true, Bool.not_false, Bool.and_true, Bool.true_and, Bool.and_false, Bool.false_and, Bool.or_true, Bool.true_or, Bool.or_false, Bool.false_or, cond_true, cond_false, List.getElem?_toArray, List.getElem?_cons_zero, List.getElem?_cons_succ, Nat.zero_add, Nat.add_zero, Nat.reduceAdd, forall_const, show ((0 : Int) != 0) = false from rfl, ↓reduceIte]
    simp only [L_api_Block hs4.blk, L_api_Block__Parent hs4.blk, L_api_Block__Height hs4.blk, L_api_Block__Data hs4.blk]
    have e : L ++ [b] = (B ++ [(b, v2)]).map (·.1) := by rw [hL]; simp
    refine app_blk (x := b) (vx := v2) (Xs := [rows (rInt .i64) y (endsOf L)]) (T := []) hs4 (by omega) fun v5 w5 hs5 => ?_
    have hb66 := b.rec_len
    have hends : ((layL L).length : Int) + (n : Int) = ((layL (L ++ [b])).length : Int) := by
      rw [layL_append, List.length_append, hinv.2.2.1]
      show _ = (((layL L).length + (layL [b]).length : Nat) : Int)
      rw [layL_cons]
      simp [layL]
    rw [hends]
    refine rows_lit hs5 S_sl_int (q := rInt .i64) (l := [((layL (L ++ [b])).length : Int)]) (V := fun a => .int .i64 a) (fun a => rfl) rfl rfl (by decide) (by decide) fun g6 w6 hs6 => ?_
    refine rows_app S_sl_int U_sl_int (q := rInt .i64) (by simp) hs6.p2 (Sep.rows hs6) ?_ ?_ ?_ fun v7 w7 hs7 => ?_
    · simp only [List.flatMap_cons, List.flatMap_nil, List.append_nil]
      exact oneI
    · rw [endsOf_len]; simp; omega
    · rw [endsOf_len]; simp; omega
    have hlen : (layL (L ++ [b])).length ≤ l.length := by
      have h3 := congrArg List.length hinv.2.2.2
      have h4 := congrArg List.length hlt
      rw [layL_append, List.length_append]
      simp only [List.length_append] at h3 h4
      have : (layL [b]).length = b.rcd.length := by rw [layL_cons]; simp [layL]
      omega
    refine ⟨⟨B ++ [(b, v2)], t.drop n, by rw [← e], ?_, ?_, ?_⟩, ?_⟩
    · rw [← e]
      intro z hz
      rcases List.mem_append.1 hz with hz | hz
      · exact hg z hz
      · obtain rfl : z = b := by simpa using hz
        exact ⟨hinv.1, hinv.2.1⟩
    · rw [← e, layL_append, hlt, List.append_assoc]
      congr 1
      rw [hinv.2.2.2]
      rw [layL_cons]
      simp [layL, ← hinv.2.2.1]
    · rw [← e, endsOf_snoc]
      exact hs7.pick [2, 0] 3
    · have : (layL L).length < (layL (L ++ [b])).length := by omega
      simp only [RowKit.intOf]
      omega
  · have e : ((takeR t).2.2 != 0) = true := by rcases hne with h | h <;> rw [h] <;> rfl
    simp only [nilc_some, fad_mk, pik_true, pik_false, cnd_true, cnd_false, gif_same, gif_tf, gif_ft, gif_undef, bi_add, bi_sub, bi_mul, bi_eql, bi_neq, bi_lss, bi_leq, bi_gtr, bi_geq, notB_bool, cvi_int, lenS_mk, lenT_mk, ext0, ext1, ext2, nilP_mk, nilS_mk, fldv_agg, jn0_k, jn1_k, jn2_k, jn1_and, jn1_or, ex_some, Option.isNone_some, Option.isNone_none, Bool.false_bne, Bool.bne_true, Bool.bne_false, Bool.true_bne, Bool.not_true, Bool.not_false, Bool.and_true, Bool.true_and, Bool.and_false, Bool.false_and, Bool.or_true, Bool.true_or, Bool.or_false, Bool.false_or, cond_true, cond_false, List.getElem?_toArray, List.getElem?_cons_zero, List.getElem?_cons_succ, Nat.zero_add, Nat.add_zero, Nat.reduceAdd, forall_const, e]
    refine hR _ _ ⟨x, y, B, rfl, ?_, ?_⟩
    · rw [← hL]
      refine ⟨hg, t, hlt, by omega⟩
    · have h := Sep.tail (Sep.tail hs4)
      rw [List.append_nil] at h
      rw [← hL]
      exact h
theorem Scan_spec (hc : Cub w) (hb : RdB w.heap v l) (hcap : capOk v) (hl : l.length ≤ 1000000) : cal P f_rec_Scan [v] w fun r w' => ∃ (x : Value) (B : List BV), r = .tuple #[x, .int .i64 (layL (B.map (·.1))).length] ∧ IsScan l (B.map (·.1)) ∧ Sep w w' (brow x B) := by
  refine s_rec_Scan fun R hR => ?_
  unfold c_rec_Scan
  refine cal_i (scan_spec hc hb hcap hl) ?_
  rintro _ w1 ⟨x, y, B, rfl, hsc, hs1⟩
  have hrl := (Sep.rows hs1.p1).len
  have hle := layL_ge (B.map (·.1))
  have hsl := hsc.len
  rw [endsOf_len] at hrl
  simp only [nilc_some, fad_mk, pik_true, pik_false, cnd_true, cnd_false, gif_same, gif_tf, gif_ft, gif_undef, bi_add, bi_sub, bi_mul, bi_eql, bi_neq, bi_lss, bi_leq, bi_gtr, bi_geq, notB_bool, cvi_int, lenS_mk, lenT_mk, ext0, ext1, ext2, nilP_mk, nilS_mk, fldv_agg, jn0_k, jn1_k, jn2_k, jn1_and, jn1_or, ex_some, Option.isNone_some, Option.isNone_none, Bool.false_bne, Bool.bne_true, Bool.bne_false, Bool.true_bne, Bool.not_true, Bool.not_false, Bool.and_true, Bool.true_and, Bool.and_false, Bool.false_and, Bool.or_true, Bool.true_or, Bool.or_false, Bool.false_or, cond_true, cond_false, List.getElem?_toArray, List.getElem?_cons_zero, List.getElem?_cons_succ, Nat.zero_add, Nat.add_zero, Nat.reduceAdd, forall_const, hrl]
  by_cases h0 : B = []
  · subst h0
    simp only [List.map_nil, List.length_nil, nilc_some, fad_mk, pik_true, pik_false, cnd_true, cnd_false, gif_same, gif_tf, gif_ft, gif_undef, bi_add, bi_sub, bi_mul, bi_eql, bi_neq, bi_lss, bi_leq, bi_gtr, bi_geq, notB_bool, cvi_int, lenS_mk, lenT_mk, ext0, ext1, ext2, nilP_mk, nilS_mk, fldv_agg, jn0_k, jn1_k, jn2_k, jn1_and, jn1_or, ex_some, Option.isNone_some, Option.isNone_none, Bool.false_bne, Bool.bne_true, Bool.bne_false, Bool.true_bne, Bool.not_true, Bool.not_false, Bool.and_true, Bool.true_and, Bool.and_false, Bool.false_and, Bool.or_true, Bool.true_or, Bool.or_false, Bool.false_or, cond_true, cond_false, List.getElem?_toArray, List.getElem?_cons_zero, List.getElem?_cons_succ, Nat.zero_add, Nat.add_zero, Nat.reduceAdd, forall_const, show (((0 : Nat) : Int) == 0) = true from rfl]
    exact hR _ _ ⟨.slice none 0 0, [], rfl, hsc, hs1.tail.tail.nilR⟩
  · have hpos : 0 < B.length := List.length_pos_iff.2 h0
    have e : (((B.map (·.1)).length : Int) == 0) = false := by simp; omega
    simp only [nilc_some, fad_mk, pik_true, pik_false, cnd_true, cnd_false, gif_same, gif_tf, gif_ft, gif_undef, bi_add, bi_sub, bi_mul, bi_eql, bi_neq, bi_lss, bi_leq, bi_gtr, bi_geq, notB_bool, cvi_int, lenS_mk, lenT_mk, ext0, ext1, ext2, nilP_mk, nilS_mk, fldv_agg, jn0_k, jn1_k, jn2_k, jn1_and, jn1_or, ex_some, Option.isNone_some, Option.isNone_none, Bool.false_bne, Bool.bne_true, Bool.bne_false, Bool.true_bne, Bool.not_true, Bool.not_false, Bool.and_true, Bool.true_and, Bool.and_false, Bool.false_and, Bool.or_true, Bool.true_or, Bool.or_false, Bool.false_or, cond_true, cond_false, List.getElem?_toArray, List.getElem?_cons_zero, List.getElem?_cons_succ, Nat.zero_add, Nat.add_zero, Nat.reduceAdd, forall_const, e]
    refine drw_s hs1 fun w2 hs2 _ => ?_
    have hi : IntKind.i64.wrap (((B.map (·.1)).length : Int) - 1) = (((B.map (·.1)).length - 1 : Nat) : Int) := by
      simp only [List.length_map] at *
      rw [wi64 (by omega) (by omega)]; omega
    simp only [nilc_some, fad_mk, pik_true, pik_false, cnd_true, cnd_false, gif_same, gif_tf, gif_ft, gif_undef, bi_add, bi_sub, bi_mul, bi_eql, bi_neq, bi_lss, bi_leq, bi_gtr, bi_geq, notB_bool, cvi_int, lenS_mk, lenT_mk, ext0, ext1, ext2, nilP_mk, nilS_mk, fldv_agg, jn0_k, jn1_k, jn2_k, jn1_and, jn1_or, ex_some, Option.isNone_some, Option.isNone_none, Bool.false_bne, Bool.bne_true, Bool.bne_false, Bool.true_bne, Bool.not_true, Bool.not_false, Bool.and_true, Bool.true_and, Bool.and_false, Bool.false_and, Bool.or_true, Bool.true_or, Bool.or_false, Bool.false_or, cond_true, cond_false, List.getElem?_toArray, List.getElem?_cons_zero, List.getElem?_cons_succ, Nat.zero_add, Nat.add_zero, Nat.reduceAdd, forall_const, hi]
    refine Rows'.ldI (Sep.rows hs2.p1) (endsOf_last (by simpa using h0)) .i64 ?_
    refine hR _ _ ⟨x, B, rfl, hsc, ?_⟩
    exact (hs2.p1).tail
theorem rScan_spec (hb : RdB w.heap v l) (hcap : capOk v) (hl : l.length ≤ 1000000) : cal P f_ref09_Scan [v] w fun r w' => ∃ (x : Value) (B : List BV), r = .tuple #[x, .int .i64 (layL (B.map (·.1))).length] ∧ IsScan l (B.map (·.1)) ∧ Sep w w' (brow x B) := by
  refine s_ref09_Scan fun R hR => ?_
  unfold c_ref09_Scan
  refine ⟨fun x z w' => ∃ (B : List BV) (t : List UInt8), z = .int .i64 (layL (B.map (·.1))).length ∧ goodB (B.map (·.1)) ∧ l = layL (B.map (·.1)) ++ t ∧ Sep w w' (rows Q_api_Block x (B.map BV.t) :: (B.map oV ++ [])), fun _ z _ => (l.length - RowKit.intOf z).toNat,
    ⟨[], l, rfl, by intro b hb; simp at hb, rfl, (Sep.start w).nilR⟩, ?_⟩
  rintro x _ w1 ⟨B, t, rfl, hg, hlt, hs1⟩ -
  obtain ⟨L, hL⟩ : ∃ L, L = B.map (·.1) := ⟨_, rfl⟩
  rw [← hL] at hg hlt ⊢
  have hle : (layL L).length ≤ l.length := by rw [hlt]; simp
  have hLl : L.length = B.length := by rw [hL]; simp
  have h66 := layL_ge L
  refine cal_i (rRecTake_spec (a := ((layL L).length : Nat)) (hs1.rdB hb) hcap (by omega) (by omega)) ?_
  rintro _ w2 ⟨v2, rfl, hs2⟩
  replace hs2 := hs1.join hs2
  have hd : l.drop (layL L).length = t := by rw [hlt]; exact List.drop_left' rfl
  rw [takeX_at hle, hd] at hs2
  rw [takeX_at hle, hd]
  simp only [nilc_some, fad_mk, pik_true, pik_false, cnd_true, cnd_false, gif_same, gif_tf, gif_ft, gif_undef, bi_add, bi_sub, bi_mul, bi_eql, bi_neq, bi_lss, bi_leq, bi_gtr, bi_geq, notB_bool, cvi_int, lenS_mk, lenT_mk, ext0, ext1, ext2, nilP_mk, nilS_mk, fldv_agg, jn0_k, jn1_k, jn2_k, jn1_and, jn1_or, ex_some, Option.isNone_some, Option.isNone_none, Bool.false_bne, Bool.bne_true, Bool.bne_false, Bool.true_bne, Bool.not_true, Bool.not_false, Bool.and_true, Bool.true_and, Bool.and_false, Bool.false_and, Bool.or_true, Bool.true_or, Bool.or_false, Bool.false_or, cond_true, cond_false, List.getElem?_toArray, List.getElem?_cons_zero, List.getElem?_cons_succ, Nat.zero_add, Nat.add_zero, Nat.reduceAdd, forall_const]
  refine alloc_s hs2 (A_api_Block w2) fun g3 w3 hs3 => ?_
  refine St_api_Block hs3 (one_api_Block (Sep.one hs3.p1)) fun w4 hs4 => ?_
  rcases takeR_err t with h0 | ⟨hn, hn0, hne⟩
  · obtain ⟨b, n, hx⟩ : ∃ b n, takeR t = (b, n, 0) := ⟨_, _, by rw [← h0]⟩
    rw [hx] at hs4 ⊢
    have hinv := take_inv hx
    simp only [nilc_some, fad_mk, pik_true, pik_false, cnd_true, cnd_false, gif_same, gif_tf, gif_ft, gif_undef, bi_add, bi_sub, bi_mul, bi_eql, bi_neq, bi_lss, bi_leq, bi_gtr, bi_geq, notB_bool, cvi_int, lenS_mk, lenT_mk, ext0, ext1, ext2, nilP_mk, nilS_mk, fldv_agg, jn0_k, jn1_k, jn2_k, jn1_and, jn1_or, ex_some, Option.isNone_some, Option.isNone_none, Bool.false_bne, Bool.bne_true, Bool.bne_false, Bool.true_bne, Bool.not_true, Bool.not_false, Bool.and_true, Bool.true_and, Bool.and_false, Bool.false_and, Bool.or_true, Bool.true_or, Bool.or_false, Bool.false_or, cond_true, cond_false, List.getElem?_toArray, List.getElem?_cons_zero, List.getElem?_cons_succ, Nat.zero_add, Nat.add_zero, Nat.reduceAdd, forall_const, show ((0 : Int) != 0) = false from rfl, ↓reduceIte]
    simp only [L_api_Block hs4.blk, L_api_Block__Parent hs4.blk, L_api_Block__Height hs4.blk, L_api_Block__Data hs4.blk]
    have e : L ++ [b] = (B ++ [(b, v2)]).map (·.1) := by rw [hL]; simp
    refine app_blk (x := b) (vx := v2) (Xs := []) (T := []) hs4 (by omega) fun v5 w5 hs5 => ?_
    have hb66 := b.rec_len
    have hends : ((layL L).length : Int) + (n : Int) = ((layL (L ++ [b])).length : Int) := by
      rw [layL_append, List.length_append, hinv.2.2.1]
      show _ = (((layL L).length + (layL [b]).length : Nat) : Int)
      rw [layL_cons]
      simp [layL]
    rw [hends]
    have hlen : (layL (L ++ [b])).length ≤ l.length := by
      have h3 := congrArg List.length hinv.2.2.2
      have h4 := congrArg List.length hlt
      rw [layL_append, List.length_append]
      simp only [List.length_append] at h3 h4
      have : (layL [b]).length = b.rcd.length := by rw [layL_cons]; simp [layL]
      omega
    refine ⟨⟨B ++ [(b, v2)], t.drop n, by rw [← e], ?_, ?_, hs5⟩, ?_⟩
    · rw [← e]
      intro z hz
      rcases List.mem_append.1 hz with hz | hz
      · exact hg z hz
      · obtain rfl : z = b := by simpa using hz
        exact ⟨hinv.1, hinv.2.1⟩
    · rw [← e, layL_append, hlt, List.append_assoc]
      congr 1
      rw [hinv.2.2.2]
      rw [layL_cons]
      simp [layL, ← hinv.2.2.1]
    · have : (layL L).length < (layL (L ++ [b])).length := by omega
      simp only [RowKit.intOf]
      omega
  · have e : ((takeR t).2.2 != 0) = true := by rcases hne with h | h <;> rw [h] <;> rfl
    simp only [nilc_some, fad_mk, pik_true, pik_false, cnd_true, cnd_false, gif_same, gif_tf, gif_ft, gif_undef, bi_add, bi_sub, bi_mul, bi_eql, bi_neq, bi_lss, bi_leq, bi_gtr, bi_geq, notB_bool, cvi_int, lenS_mk, lenT_mk, ext0, ext1, ext2, nilP_mk, nilS_mk, fldv_agg, jn0_k, jn1_k, jn2_k, jn1_and, jn1_or, ex_some, Option.isNone_some, Option.isNone_none, Bool.false_bne, Bool.bne_true, Bool.bne_false, Bool.true_bne, Bool.not_true, Bool.not_false, Bool.and_true, Bool.true_and, Bool.and_false, Bool.false_and, Bool.or_true, Bool.true_or, Bool.or_false, Bool.false_or, cond_true, cond_false, List.getElem?_toArray, List.getElem?_cons_zero, List.getElem?_cons_succ, Nat.zero_add, Nat.add_zero, Nat.reduceAdd, forall_const, e]
    refine hR _ _ ⟨x, B, by rw [← hL], ?_, ?_⟩
    · rw [← hL]
      refine ⟨hg, t, hlt, by omega⟩
    · have h := Sep.tail (Sep.tail hs4)
      rw [List.append_nil] at h
      exact h
theorem SameAll_spec (hu : BRows w.heap u B) (hv : BRows w.heap v C) (h63 : B.length ≤ 9223372036854775807) : cal P f_ref09_SameAll [u, v] w fun r w' => r = .bool (decide (B.map (·.1) = C.map (·.1))) ∧ Fr [] w w' := by
  refine s_ref09_SameAll fun R hR => ?_
  unfold c_ref09_SameAll
  simp only [hu.len, hv.len, nilc_some, fad_mk, pik_true, pik_false, cnd_true, cnd_false, gif_same, gif_tf, gif_ft, gif_undef, bi_add, bi_sub, bi_mul, bi_eql, bi_neq, bi_lss, bi_leq, bi_gtr, bi_geq, notB_bool, cvi_int, lenS_mk, lenT_mk, ext0, ext1, ext2, nilP_mk, nilS_mk, fldv_agg, jn0_k, jn1_k, jn2_k, jn1_and, jn1_or, ex_some, Option.isNone_some, Option.isNone_none, Bool.false_bne, Bool.bne_true, Bool.bne_false, Bool.true_bne, Bool.not_true, Bool.not_false, Bool.and_true, Bool.true_and, Bool.and_false, Bool.false_and, Bool.or_true, Bool.true_or, Bool.or_false, Bool.false_or, cond_true, cond_false, List.getElem?_toArray, List.getElem?_cons_zero, List.getElem?_cons_succ, Nat.zero_add, Nat.add_zero, Nat.reduceAdd, forall_const]
  rw [cnd_bool]
  refine ⟨fun h => ?_, fun h => ?_⟩
  · refine hR _ _ ⟨?_, Fr.refl _ _⟩
    have h : ¬ B.length = C.length := by simp at h; omega
    rw [decide_eq_false fun he => h (by have := congrArg List.length he; simpa using this)]
  · have hlen : B.length = C.length := by simp at h; omega
    refine ⟨fun y w' => ∃ i : Nat, y = .int .i64 i ∧ i ≤ B.length ∧ (B.map (·.1)).take i = (C.map (·.1)).take i ∧ Sep w w' [], fun y _ => (B.length - RowKit.intOf y).toNat, ⟨0, rfl, by omega, by simp, Sep.start w⟩, ?_⟩
    rintro _ w1 ⟨i, rfl, hi, heq, hs1⟩ -
    simp only [nilc_some, fad_mk, pik_true, pik_false, cnd_true, cnd_false, gif_same, gif_tf, gif_ft, gif_undef, bi_add, bi_sub, bi_mul, bi_eql, bi_neq, bi_lss, bi_leq, bi_gtr, bi_geq, notB_bool, cvi_int, lenS_mk, lenT_mk, ext0, ext1, ext2, nilP_mk, nilS_mk, fldv_agg, jn0_k, jn1_k, jn2_k, jn1_and, jn1_or, ex_some, Option.isNone_some, Option.isNone_none, Bool.false_bne, Bool.bne_true, Bool.bne_false, Bool.true_bne, Bool.not_true, Bool.not_false, Bool.and_true, Bool.true_and, Bool.and_false, Bool.false_and, Bool.or_true, Bool.true_or, Bool.or_false, Bool.false_or, cond_true, cond_false, List.getElem?_toArray, List.getElem?_cons_zero, List.getElem?_cons_succ, Nat.zero_add, Nat.add_zero, Nat.reduceAdd, forall_const]
    rw [cnd_bool]
    refine ⟨fun h => ?_, fun h => ?_⟩
    · have hlt : i < B.length := by simp at h; omega
      have hx := List.getElem?_eq_getElem hlt
      have hy := List.getElem?_eq_getElem (show i < C.length by omega)
      generalize B[i] = x at hx
      generalize C[i] = y at hy
      refine drH_S hs1 fun w2 hs2 _ => ?_
      refine rdS_rowN (q := Q_api_Block) (l := B.map BV.t) (a := x.t) (by decide) hs2 (fun u hu' => (hu.fr hu'.fr0).1) (by rw [List.getElem?_map, hx]; rfl) .i64 ?_
      refine rdS_rowN (q := Q_api_Block) (l := C.map BV.t) (a := y.t) (by decide) hs2 (fun u hu' => (hv.fr hu'.fr0).1) (by rw [List.getElem?_map, hy]; rfl) .i64 ?_
      refine efC_calA (w0 := w) (As := []) (cal_i (rSame_spec (a := x.1) (b := y.1) (u := x.2) (v := y.2) (hs2.rdB (hu.get hx)) (hs2.rdB (hv.get hy))) ?_)
      rintro _ w3 ⟨rfl, hf3⟩
      have hs3 := hs2.old hf3
      refine ⟨hs3, ?_⟩
      have hx' : (B.map (·.1))[i]? = some x.1 := by rw [List.getElem?_map, hx]; rfl
      have hy' : (C.map (·.1))[i]? = some y.1 := by rw [List.getElem?_map, hy]; rfl
      simp only [nilc_some, fad_mk, pik_true, pik_false, cnd_true, cnd_false, gif_same, gif_tf, gif_ft, gif_undef, bi_add, bi_sub, bi_mul, bi_eql, bi_neq, bi_lss, bi_leq, bi_gtr, bi_geq, notB_bool, cvi_int, lenS_mk, lenT_mk, ext0, ext1, ext2, nilP_mk, nilS_mk, fldv_agg, jn0_k, jn1_k, jn2_k, jn1_and, jn1_or, ex_some, Option.isNone_some, Option.isNone_none, Bool.false_bne, Bool.bne_true, Bool.bne_false, Bool.true_bne, Bool.not_true, Bool.not_false, Bool.and_true, Bool.true_and, Bool.and_false, Bool.false_and, Bool.or_true, Bool.true_or, Bool.or_false, Bool.false_or, cond_true, cond_false, List.getElem?_toArray, List.getElem?_cons_zero, List.getElem?_cons_succ, Nat.zero_add, Nat.add_zero, Nat.reduceAdd, forall_const]
      rw [cnd_bool]
      refine ⟨fun hne => ?_, fun he => ?_⟩
      · have hne : ¬ x.1 = y.1 := by simpa using hne
        refine hR _ _ ⟨?_, hs3.fr0⟩
        rw [decide_eq_false fun he => hne ?_]
        rw [he, hy'] at hx'
        exact (Option.some.inj hx').symm
      · have he : x.1 = y.1 := by simpa using he
        rw [wi64 (by omega) (by omega)]
        refine ⟨⟨i + 1, by simp, by omega, take_more heq (by rw [hx', hy', he]), hs3⟩, by simp [RowKit.intOf]; omega⟩
    · have hge : i = B.length := by simp at h; omega
      subst hge
      refine hR _ _ ⟨?_, hs1.fr0⟩
      rw [List.take_of_length_le (by simp), List.take_of_length_le (by simp; omega)] at heq
      rw [decide_eq_true heq]
end
end Go.Fx
set_option linter.unusedVariables false
set_option linter.unusedSimpArgs false
namespace Go.Fx
/-- An iterator of n values: what it hands over at place i is known by 'arg'; M: the memory that it looks at is as it was. -/
def Iter (P : Program) (g : Value) (M : Heap → Prop) (n : Nat) (arg : Nat → World → List Value → Prop) : Prop :=
  ∃ gf cap, g = .func (.func gf) #[] cap ∧ callable P gf = true ∧ ∀ (y : Value) (w0 w : World) (J : Nat → List Asn → Prop) (X : List Asn → Prop) (As : List Asn), y.oneCell' = true → J 0 As → Sep w0 w As →
    (∀ i Bs Ls z, J i Bs → Sep w0 z (Bs ++ Ls) → M z.heap) →
    (∀ i args z Bs Ls, i < n → arg i z args → J i Bs → Sep w0 z (Bs ++ Ls) → calY P y args z fun r z' => (r = .bool true ∧ ∃ Cs, J (i + 1) Cs ∧ Sep w0 z' (Cs ++ Ls)) ∨ (r = .bool false ∧ ∃ Cs, X Cs ∧ Sep w0 z' (Cs ++ Ls))) →
    cal P gf (y :: cap.toList) w fun r z' => r = .tuple #[] ∧ ((∃ Cs, J n Cs ∧ Sep w0 z' Cs) ∨ ∃ Cs, X Cs ∧ Sep w0 z' Cs)
section
variable {w0 w w' : World} {As Bs : List Asn}
theorem Sep.rot (h : Sep w0 w (As ++ Bs)) : Sep w0 w (Bs ++ As) := h.perm List.perm_append_comm
theorem Sep.objUpd {g : Nat} {o : Obj} (o' : Obj) (h : Sep w0 w (.obj g o :: As)) : Sep w0 (setBlk w g o') (.obj g o' :: As) := by
  obtain ⟨F, ⟨hb, rfl⟩, hk⟩ := h.upd
  exact hk _ [g] (.obj g o') ⟨setBlk_self w g _ _ hb, rfl⟩ (fr_setBlk w g _) (Grew.refl _ _)
theorem Sep.objAt {g : Nat} {o : Obj} (h : Sep w0 w (.obj g o :: As)) : w.heap[g]? = some o := by
  obtain ⟨F, ⟨hb, rfl⟩, hk⟩ := h.upd
  exact hb
theorem takeD_s {D : Nat} {K : World → Prop} (hs : Sep w0 w (.obj D dfB :: As)) (h : ∀ w', Sep w0 w' As → K w') : takeD [D] w K :=
  ⟨hs.objAt, h _ (hs.objUpd _).tail⟩
theorem rng_s {P : Program} {g : Value} {M : Heap → Prop} {n k : Nat} {arg : Nat → World → List Value → Prop} {rnd : List Value → World → (World → (World → Prop) → Prop) → (Option Code → World → Prop) → Prop}
    {out : Nat → List (Option Code × (World → Prop))} (hs : Sep w0 w As) (hit : Iter P g M n arg) (hk : ∀ i z args, arg i z args → args.length = k)
    (J : Nat → List Asn → Prop) (X : Code → List Asn → Prop) (h0 : J 0 As) (hM : ∀ i Bs Ls z, J i Bs → Sep w0 z (Bs ++ Ls) → M z.heap)
    (hrnd : ∀ (i : Nat) (args : List Value) (z : World) (Bs LR LB : List Asn) (bg : World → (World → Prop) → Prop) (fin : Option Code → World → Prop), i < n → J i Bs → arg i z args → Sep w0 z (Bs ++ LR) →
      (∀ z' Cs K, Sep w0 z' (Cs ++ LR) → (∀ z'', Sep w0 z'' (Cs ++ LB) → K z'') → bg z' K) →
      (∀ z' Cs, J (i + 1) Cs → Sep w0 z' (Cs ++ LB) → fin none z') → (∀ j z' Cs, X j Cs → Sep w0 z' (Cs ++ LB) → fin (some j) z') → rnd args z bg fin)
    (hN : ∀ D Bs z, J n Bs → Sep w0 z (.obj D dfB :: Bs) → outL none z (out D)) (hX : ∀ D j Bs z, X j Bs → Sep w0 z (.obj D dfB :: Bs) → outL (some j) z (out D)) : rng P g k w rnd out := by
  obtain ⟨gf, cap, hg, hcal, hI⟩ := hit
  refine ⟨gf, cap, hg, hcal, fun y rec h1 hy => ?_⟩
  have swap2 : ∀ {z : World} {Cs : List Asn} {A B : Asn}, Sep w0 z (Cs ++ [A, B]) → Sep w0 z (A :: B :: Cs) := fun h => Sep.rot h
  have swap3 : ∀ {z : World} {Cs : List Asn} {A B : Asn}, Sep w0 z (A :: B :: Cs) → Sep w0 z (Cs ++ [A, B]) := fun {z Cs A B} h => Sep.rot (As := [A, B]) h
  -- the record at the head, and back
  have hd : ∀ {z : World} {Cs Ls : List Asn} {A : Asn}, Sep w0 z (Cs ++ (A :: Ls)) → Sep w0 z (A :: (Cs ++ Ls)) := fun h => h.perm List.perm_middle
  have bk : ∀ {z : World} {Cs Ls : List Asn} {A : Asn}, Sep w0 z (A :: (Cs ++ Ls)) → Sep w0 z (Cs ++ (A :: Ls)) := fun h => h.perm List.perm_middle.symm
  refine cal_i (hI y w0 _ (fun i Bs => ∃ Cs, J i Cs ∧ Bs = Cs ++ [.obj (w.heap.size + 1) (rec .ready none), .obj w.heap.size dfB])
    (fun Bs => ∃ j Cs, X j Cs ∧ Bs = Cs ++ [.obj (w.heap.size + 1) (rec .done (some j)), .obj w.heap.size dfB]) (As ++ [.obj (w.heap.size + 1) (rec .ready none), .obj w.heap.size dfB]) h1 ⟨As, h0, rfl⟩ (swap3 ?_) ?_ ?_) ?_
  · have h2 : Sep w0 (w.alloc dfB) (.obj w.heap.size dfB :: As) := hs.new (F' := [w.heap.size]) (fr_alloc w _) (B := .obj w.heap.size dfB) ⟨alloc_new w _, rfl⟩ (by simp)
    have e : (w.alloc dfB).heap.size = w.heap.size + 1 := by simp
    refine h2.new (F' := [w.heap.size + 1]) (fr_alloc _ _) (B := .obj (w.heap.size + 1) (rec .ready none)) ⟨?_, rfl⟩ (by simp)
    have := alloc_new (w.alloc dfB) (rec .ready none)
    rwa [e] at this
  · rintro i _ Ls z ⟨Cs, hJ, rfl⟩ hB
    rw [List.append_assoc] at hB
    exact hM i Cs _ z hJ hB
  · rintro i args z _ Ls hi harg ⟨Bs, hJ, rfl⟩ hB
    rw [List.append_assoc] at hB
    refine hy args z _ (hk i z args harg) (hd hB).objAt ?_
    refine hrnd i args z Bs _ (.obj (w.heap.size + 1) (rec .busy none) :: .obj w.heap.size dfB :: Ls) _ _ hi hJ harg hB ?_ ?_ ?_
    · intro z' Cs K hz hK
      exact ⟨(hd hz).objAt, hK _ (bk ((hd hz).objUpd _))⟩
    · intro z' Cs hC hz
      exact ⟨(hd hz).objAt, .inl ⟨rfl, _, ⟨Cs, hC, rfl⟩, by rw [List.append_assoc]; exact bk ((hd hz).objUpd _)⟩⟩
    · intro j z' Cs hC hz
      exact ⟨(hd hz).objAt, .inr ⟨rfl, _, ⟨j, Cs, hC, rfl⟩, by rw [List.append_assoc]; exact bk ((hd hz).objUpd _)⟩⟩
  · rintro v z ⟨-, ⟨_, ⟨Bs, hJ, rfl⟩, hB⟩ | ⟨_, ⟨j, Bs, hX', rfl⟩, hB⟩⟩
    · exact ⟨none, (swap2 hB).objAt, hN _ Bs _ hJ ((swap2 hB).objUpd _).tail⟩
    · exact ⟨some j, (swap2 hB).objAt, hX _ j Bs _ hX' ((swap2 hB).objUpd _).tail⟩
end
end Go.Fx
set_option linter.unusedVariables false
set_option linter.unusedSimpArgs false
namespace Go.Fx
section
variable {w0 w : World} {As : List Asn}
theorem nilFn {f : FuncId} {cap : Array Value} {w : World} (K : Value → Prop) : rdP P (eqS .eql T_iter_Seq_int (.tmp 7) (.const Value.nilFunc) (.func (.func f) #[] cap) Value.nilFunc) w K = K (.bool false) := rdP_eq (by kernel_rfl) K
theorem bldN {h : Int} {K : Value → World → Prop} {Bs : List Asn} (hs : Sep w0 w Bs) (hk : ∀ a z, Sep w0 z (rows (rInt .i64) a [h] :: Bs) → K a z) : efP P (Instr.buildSlice T_sl_int 1 #[(0, .int .i64 h)]) w K :=
  rows_lit (q := rInt .i64) hs S_sl_int (l := [h]) (V := fun a => .int .i64 a) (fun a => rfl) rfl rfl (by decide) (by decide) fun g7 w7 hs7 => hk _ _ hs7
theorem appN {h : Int} {y b : Value} {hs' : List Int} {K : Value → World → Prop} {Bs : List Asn} (hs : Sep w0 w (rows (rInt .i64) y hs' :: Bs)) (ha : Rows' (rInt .i64) w.heap b [h]) (hl : hs'.length ≤ 1000000)
    (hk : ∀ y' z, Sep w0 z (rows (rInt .i64) y' (hs' ++ [h]) :: Bs) → K y' z) : efP P (Builtin.append_ #[T_sl_int, T_sl_int] T_sl_int #[y, b]) w K :=
  rows_app (q := rInt .i64) S_sl_int U_sl_int (by simp) hs ha (by simp only [List.flatMap_cons, List.flatMap_nil, List.append_nil]; exact oneI) (by simp; omega) (by simp; omega) fun v8 w8 hs8 => hk _ _ hs8
theorem al_sli (w : World) : (Instr.alloc T_sl_int true (.tuple #[])).run P w = .ok (.pointer (some ⟨w.heap.size, 0, none⟩)) (w.alloc (.cells #[.slice none 0 0] T_sl_int)) := by kernel_rfl
def argI (xs : List Int) (i : Nat) (_ : World) (args : List Value) : Prop := ∃ x, xs[i]? = some x ∧ args = [.int .i64 x]
theorem told9_spec {g : Value} {M : Heap → Prop} {xs : List Int} {most : Nat} (hit : Iter P g M xs.length (argI xs)) (hM : ∀ z, Fr [] w z → M z.heap) (hl : xs.length ≤ 1000000) (hm : most ≤ 2000000) :
    cal P f_law09_told [g, .int .i64 most] w fun r w' => Sep w w' [rows (rInt .i64) r (xs.take most)] := by
  refine s_law09_told fun R hR => ?_
  unfold c_law09_told
  have hit' := hit
  obtain ⟨gf, cap, rfl, _, _⟩ := hit
  refine bx_s (Sep.start w) fun g3 w1 hs1 => ?_
  replace hs1 : Sep w w1 [blk g3 #[.int .i64 most] T_int] := hs1
  refine alloc_s hs1 (al_sli w1) fun g5 w2 hs2 => ?_
  rw [nilFn, cnd_false]
  have hs3 := (Sep.nilR (q := rInt .i64) hs2).p1
  refine rng_s hs3 hit' (fun i z args ⟨x, _, h⟩ => by rw [h]; rfl) (fun i Bs => i ≤ most ∧ ∃ v, Bs = [blk g5 #[v] T_sl_int, rows (rInt .i64) v (xs.take i), blk g3 #[.int .i64 most] T_int])
    (fun c Bs => c = .exit 0 ∧ ∃ v, Bs = [blk g5 #[v] T_sl_int, rows (rInt .i64) v (xs.take most), blk g3 #[.int .i64 most] T_int]) ⟨Nat.zero_le _, _, rfl⟩ (fun i Bs Ls z _ hz => hM z hz.fr0) ?_ ?_ ?_
  · rintro i _ z _ LR LB bg fin hi ⟨hle, v, rfl⟩ ⟨x, hx, rfl⟩ hz hbg hfn hfx
    refine hbg z _ _ hz fun z1 hz1 => ?_
    simp only [List.cons_append, List.nil_append] at hz1
    have htl : (xs.take i).length = i := by rw [List.length_take]; omega
    refine ld1_i (v := v) (Sep.blk hz1) rfl ?_
    rw [(Sep.rows hz1.p1).len, htl]
    refine ld1_i (v := .int .i64 most) (Sep.blk hz1.p2) rfl ?_
    simp only [nilc_some, fad_mk, pik_true, pik_false, cnd_true, cnd_false, gif_same, gif_tf, gif_ft, gif_undef, bi_add, bi_sub, bi_mul, bi_eql, bi_neq, bi_lss, bi_leq, bi_gtr, bi_geq, notB_bool, cvi_int, lenS_mk, lenT_mk, ext0, ext1, ext2, nilP_mk, nilS_mk, fldv_agg, jn0_k, jn1_k, jn2_k, jn1_and, jn1_or, ex_some, Option.isNone_some, Option.isNone_none, Bool.false_bne, Bool.bne_true, Bool.bne_false, Bool.true_bne, Bool.not_true, Bool.not_false, Bool.and_true, Bool.true_and, Bool.and_false, Bool.false_and, Bool.or_true, Bool.true_or, Bool.or_false, Bool.false_or, cond_true, cond_false, List.getElem?_toArray, List.getElem?_cons_zero, List.getElem?_cons_succ, Nat.zero_add, Nat.add_zero, Nat.reduceAdd, forall_const]
    rw [cnd_bool]
    refine ⟨fun h => ?_, fun h => ?_⟩
    · have h : most ≤ i := by simp at h; omega
      obtain rfl : i = most := by omega
      exact hfx _ z1 _ ⟨rfl, v, rfl⟩ hz1
    · have h : i < most := by simp at h; omega
      refine ld1_i (v := v) (Sep.blk hz1) rfl ?_
      simp only [List.getD_cons_zero]
      refine bldN hz1 fun a z2 hz2 => ?_
      refine appN hz2.p2 (Sep.rows hz2) (by omega) fun v' z3 hz3 => ?_
      have hz4 := Sep.pick hz3 [2, 0, 3] 4
      refine st1_s hz4 (by simp) (Sep.oneR hz3) fun z5 hz5 => ?_
      refine hfn z5 _ ⟨h, v', rfl⟩ ?_
      have e : xs.take (i + 1) = xs.take i ++ [x] := by rw [List.take_add_one, hx]; rfl
      rw [e]
      exact hz5
  · rintro D _ z ⟨hle, v, rfl⟩ hz
    refine .inl ⟨rfl, ?_⟩
    refine ld1_i (v := v) (Sep.blk hz.p1) rfl ?_
    refine takeD_s hz fun w' hw' => hR _ _ ?_
    rw [List.take_of_length_le (Nat.le_refl _)] at hw'
    rw [List.take_of_length_le hle]
    exact Sep.dropR (As := [rows (rInt .i64) v xs]) hw'.tail
  · rintro D _ _ z ⟨rfl, v, rfl⟩ hz
    refine .inr (.inl ⟨rfl, ?_⟩)
    refine ld1_i (v := v) (Sep.blk hz.p1) rfl ?_
    refine takeD_s hz fun w' hw' => hR _ _ ?_
    exact Sep.dropR (As := [rows (rInt .i64) v (xs.take most)]) hw'.tail
/-- slices.Values of a slice that stands in a variable. -/
theorem values1_iter {v : Value} {xs : List Int} {g1 : Nat} (hl : xs.length ≤ 1000000) : Iter P (.func (.func f_slices_Values_int_int_1) #[] #[.pointer (some ⟨g1, 0, none⟩)])
    (fun h => (∃ T fr, h[g1]? = some (.cells #[v] T fr)) ∧ Rows' (rInt .i64) h v xs) xs.length (argI xs) := by
  refine ⟨_, _, rfl, by kernel_rfl, fun y w0 w J X As h1 h0 hs hM hst => ?_⟩
  show cal P f_slices_Values_int_int_1 [y, .pointer (some ⟨g1, 0, none⟩)] w _
  refine s_slices_Values_int_int_1 fun R hR => ?_
  unfold c_slices_Values_int_int_1
  obtain ⟨⟨T, fr, hc⟩, hv⟩ := hM 0 As [] w h0 (by rwa [List.append_nil])
  refine ld1_i (v := v) hc rfl ?_
  rw [hv.len]
  refine ⟨fun t z => ∃ (i : Nat) (Bs : List Asn), t = .int .i64 i ∧ i ≤ xs.length ∧ J i Bs ∧ Sep w0 z Bs, fun t _ => (xs.length - RowKit.intOf t).toNat, ⟨0, As, rfl, by omega, h0, hs⟩, ?_⟩
  rintro _ z ⟨i, Bs, rfl, hi, hJ, hz⟩ -
  simp only [nilc_some, fad_mk, pik_true, pik_false, cnd_true, cnd_false, gif_same, gif_tf, gif_ft, gif_undef, bi_add, bi_sub, bi_mul, bi_eql, bi_neq, bi_lss, bi_leq, bi_gtr, bi_geq, notB_bool, cvi_int, lenS_mk, lenT_mk, ext0, ext1, ext2, nilP_mk, nilS_mk, fldv_agg, jn0_k, jn1_k, jn2_k, jn1_and, jn1_or, ex_some, Option.isNone_some, Option.isNone_none, Bool.false_bne, Bool.bne_true, Bool.bne_false, Bool.true_bne, Bool.not_true, Bool.not_false, Bool.and_true, Bool.true_and, Bool.and_false, Bool.false_and, Bool.or_true, Bool.true_or, Bool.or_false, Bool.false_or, cond_true, cond_false, List.getElem?_toArray, List.getElem?_cons_zero, List.getElem?_cons_succ, Nat.zero_add, Nat.add_zero, Nat.reduceAdd, forall_const]
  rw [cnd_bool]
  refine ⟨fun h => ?_, fun h => ?_⟩
  · have hlt : i < xs.length := by simp at h; omega
    obtain ⟨x, hx⟩ : ∃ x, xs[i]? = some x := ⟨_, List.getElem?_eq_getElem hlt⟩
    have hv' := (hM i Bs [] z hJ (by rwa [List.append_nil])).2
    refine Rows'.ldI hv' hx .i64 ?_
    refine calY_i (hst i [.int .i64 x] z Bs [] hlt ⟨x, hx, rfl⟩ hJ (by rwa [List.append_nil])) ?_
    rintro r z' (⟨rfl, Cs, hJ', hz'⟩ | ⟨rfl, Cs, hX', hz'⟩)
    · rw [List.append_nil] at hz'
      simp only [nilc_some, fad_mk, pik_true, pik_false, cnd_true, cnd_false, gif_same, gif_tf, gif_ft, gif_undef, bi_add, bi_sub, bi_mul, bi_eql, bi_neq, bi_lss, bi_leq, bi_gtr, bi_geq, notB_bool, cvi_int, lenS_mk, lenT_mk, ext0, ext1, ext2, nilP_mk, nilS_mk, fldv_agg, jn0_k, jn1_k, jn2_k, jn1_and, jn1_or, ex_some, Option.isNone_some, Option.isNone_none, Bool.false_bne, Bool.bne_true, Bool.bne_false, Bool.true_bne, Bool.not_true, Bool.not_false, Bool.and_true, Bool.true_and, Bool.and_false, Bool.false_and, Bool.or_true, Bool.true_or, Bool.or_false, Bool.false_or, cond_true, cond_false, List.getElem?_toArray, List.getElem?_cons_zero, List.getElem?_cons_succ, Nat.zero_add, Nat.add_zero, Nat.reduceAdd, forall_const]
      rw [wi64 (by omega) (by omega)]
      exact ⟨⟨i + 1, Cs, by simp, by omega, hJ', hz'⟩, by simp [RowKit.intOf]; omega⟩
    · rw [List.append_nil] at hz'
      simp only [nilc_some, fad_mk, pik_true, pik_false, cnd_true, cnd_false, gif_same, gif_tf, gif_ft, gif_undef, bi_add, bi_sub, bi_mul, bi_eql, bi_neq, bi_lss, bi_leq, bi_gtr, bi_geq, notB_bool, cvi_int, lenS_mk, lenT_mk, ext0, ext1, ext2, nilP_mk, nilS_mk, fldv_agg, jn0_k, jn1_k, jn2_k, jn1_and, jn1_or, ex_some, Option.isNone_some, Option.isNone_none, Bool.false_bne, Bool.bne_true, Bool.bne_false, Bool.true_bne, Bool.not_true, Bool.not_false, Bool.and_true, Bool.true_and, Bool.and_false, Bool.false_and, Bool.or_true, Bool.true_or, Bool.or_false, Bool.false_or, cond_true, cond_false, List.getElem?_toArray, List.getElem?_cons_zero, List.getElem?_cons_succ, Nat.zero_add, Nat.add_zero, Nat.reduceAdd, forall_const]
      exact hR _ _ ⟨rfl, .inr ⟨Cs, hX', hz'⟩⟩
  · have hge : i = xs.length := by simp at h; omega
    subst hge
    exact hR _ _ ⟨rfl, .inl ⟨Bs, hJ, hz⟩⟩
theorem Values_spec {v : Value} (hv1 : v.oneCell' = true) : cal P f_slices_Values_int_int [v] w fun r w' => ∃ g1, r = .func (.func f_slices_Values_int_int_1) #[] #[.pointer (some ⟨g1, 0, none⟩)] ∧ Sep w w' [blk g1 #[v] T_sl_int] := by
  refine s_slices_Values_int_int fun R hR => ?_
  unfold c_slices_Values_int_int
  refine bx_s (Sep.start w) fun g1 w1 hs1 => ?_
  have ev : v.cells = #[v] := by cases v <;> simp_all [Value.cells, Value.oneCell']
  rw [ev] at hs1
  exact hR _ _ ⟨g1, rfl, hs1⟩
theorem ends1_iter {v : Value} {xs : List Int} {g4 : Nat} (hl : xs.length ≤ 1000000) (hv1 : v.oneCell' = true) : Iter P (.func (.func f_rec_Ends_1) #[] #[.pointer (some ⟨g4, 0, none⟩)])
    (fun h => (∃ T fr, h[g4]? = some (.cells #[v] T fr)) ∧ Rows' (rInt .i64) h v xs) xs.length (argI xs) := by
  refine ⟨_, _, rfl, by kernel_rfl, fun y w0 w J X As h1 h0 hs hM hst => ?_⟩
  show cal P f_rec_Ends_1 [y, .pointer (some ⟨g4, 0, none⟩)] w _
  refine s_rec_Ends_1 fun R hR => ?_
  unfold c_rec_Ends_1
  refine bx_s hs fun g2 w1 hs1 => ?_
  have ey : y.cells = #[y] := by cases y <;> simp_all [Value.cells, Value.oneCell']
  have ev : v.cells = #[v] := by cases v <;> simp_all [Value.cells, Value.oneCell']
  rw [ey] at hs1
  obtain ⟨⟨T, fr, hc⟩, hv⟩ := hM 0 As [blk g2 #[y] T_func_int_bool] w1 h0 (Sep.rot (As := [_]) hs1)
  refine ld1_i (v := v) hc rfl ?_
  refine cal_i (Values_spec hv1) ?_
  rintro _ w2 ⟨g1, rfl, hs2⟩
  replace hs2 := hs1.join hs2
  have perm : ∀ {z : World} {Cs Ls : List Asn} {A B : Asn}, Sep w0 z ((A :: B :: Cs) ++ Ls) → Sep w0 z (Cs ++ (A :: B :: Ls)) := fun {z Cs Ls A B} h => h.perm (by
    show (A :: B :: (Cs ++ Ls)).Perm _
    exact ((List.perm_middle (l₁ := Cs) (l₂ := Ls) (a := B)).symm.cons A).trans (List.perm_middle (l₁ := Cs) (l₂ := B :: Ls) (a := A)).symm)
  have perm' : ∀ {z : World} {Cs Ls : List Asn} {A B : Asn}, Sep w0 z (Cs ++ (A :: B :: Ls)) → Sep w0 z ((A :: B :: Cs) ++ Ls) := fun {z Cs Ls A B} h => h.perm (by
    show (Cs ++ (A :: B :: Ls)).Perm (A :: B :: (Cs ++ Ls))
    exact (List.perm_middle (l₁ := Cs) (l₂ := B :: Ls) (a := A)).trans ((List.perm_middle (l₁ := Cs) (l₂ := Ls) (a := B)).cons A))
  refine rng_s (As := blk g1 #[v] T_sl_int :: blk g2 #[y] T_func_int_bool :: As) hs2 (values1_iter (v := v) (g1 := g1) hl) (fun i z args ⟨x, _, h⟩ => by rw [h]; rfl)
    (fun i Bs => ∃ Cs, J i Cs ∧ Bs = blk g1 #[v] T_sl_int :: blk g2 #[y] T_func_int_bool :: Cs) (fun c Bs => c = .ret ∧ ∃ Cs, X Cs ∧ Bs = blk g1 #[v] T_sl_int :: blk g2 #[y] T_func_int_bool :: Cs) ⟨As, h0, rfl⟩ ?_ ?_ ?_ ?_
  · rintro i _ Ls z ⟨Cs, hJ, rfl⟩ hz
    exact ⟨⟨_, _, Sep.blk hz⟩, (hM i Cs _ z hJ (perm hz)).2⟩
  · rintro i _ z _ LR LB bg fin hi ⟨Cs, hJ, rfl⟩ ⟨x, hx, rfl⟩ hz hbg hfn hfx
    refine hbg z _ _ hz fun z1 hz1 => ?_
    refine ld1_i (v := y) (Sep.blk (Sep.p1 hz1)) rfl ?_
    simp only [List.getD_cons_zero]
    refine calY_i (hst i [.int .i64 x] z1 Cs _ hi ⟨x, hx, rfl⟩ hJ (perm hz1)) ?_
    rintro r z' (⟨rfl, Cs', hJ', hz'⟩ | ⟨rfl, Cs', hX', hz'⟩)
    · simp only [nilc_some, fad_mk, pik_true, pik_false, cnd_true, cnd_false, gif_same, gif_tf, gif_ft, gif_undef, bi_add, bi_sub, bi_mul, bi_eql, bi_neq, bi_lss, bi_leq, bi_gtr, bi_geq, notB_bool, cvi_int, lenS_mk, lenT_mk, ext0, ext1, ext2, nilP_mk, nilS_mk, fldv_agg, jn0_k, jn1_k, jn2_k, jn1_and, jn1_or, ex_some, Option.isNone_some, Option.isNone_none, Bool.false_bne, Bool.bne_true, Bool.bne_false, Bool.true_bne, Bool.not_true, Bool.not_false, Bool.and_true, Bool.true_and, Bool.and_false, Bool.false_and, Bool.or_true, Bool.true_or, Bool.or_false, Bool.false_or, cond_true, cond_false, List.getElem?_toArray, List.getElem?_cons_zero, List.getElem?_cons_succ, Nat.zero_add, Nat.add_zero, Nat.reduceAdd, forall_const]
      exact hfn z' _ ⟨Cs', hJ', rfl⟩ (perm' hz')
    · simp only [nilc_some, fad_mk, pik_true, pik_false, cnd_true, cnd_false, gif_same, gif_tf, gif_ft, gif_undef, bi_add, bi_sub, bi_mul, bi_eql, bi_neq, bi_lss, bi_leq, bi_gtr, bi_geq, notB_bool, cvi_int, lenS_mk, lenT_mk, ext0, ext1, ext2, nilP_mk, nilS_mk, fldv_agg, jn0_k, jn1_k, jn2_k, jn1_and, jn1_or, ex_some, Option.isNone_some, Option.isNone_none, Bool.false_bne, Bool.bne_true, Bool.bne_false, Bool.true_bne, Bool.not_true, Bool.not_false, Bool.and_true, Bool.true_and, Bool.and_false, Bool.false_and, Bool.or_true, Bool.true_or, Bool.or_false, Bool.false_or, cond_true, cond_false, List.getElem?_toArray, List.getElem?_cons_zero, List.getElem?_cons_succ, Nat.zero_add, Nat.add_zero, Nat.reduceAdd, forall_const]
      exact hfx _ z' _ ⟨rfl, Cs', hX', rfl⟩ (perm' hz')
  · rintro D _ z ⟨Cs, hJ, rfl⟩ hz
    exact .inl ⟨rfl, takeD_s hz fun w' hw' => hR _ _ ⟨rfl, .inl ⟨Cs, hJ, hw'.tail.tail⟩⟩⟩
  · rintro D _ _ z ⟨rfl, Cs, hX', rfl⟩ hz
    exact .inr (.inl ⟨rfl, takeD_s hz fun w' hw' => hR _ _ ⟨rfl, .inr ⟨Cs, hX', hw'.tail.tail⟩⟩⟩)
/-- rec.Ends. -/
theorem Ends_spec {v : Value} {l : List UInt8} (hc : Cub w) (hb : RdB w.heap v l) (hcap : capOk v) (hl : l.length ≤ 1000000) : cal P f_rec_Ends [v] w fun r w' => ∃ (g : Nat) (y : Value) (L : List Blk) (Ds : List Asn), r = .func (.func f_rec_Ends_1) #[] #[.pointer (some ⟨g, 0, none⟩)] ∧ IsScan l L ∧ y.oneCell' = true ∧
    Sep w w' (blk g #[y] T_sl_int :: rows (rInt .i64) y (endsOf L) :: Ds) := by
  refine s_rec_Ends fun R hR => ?_
  unfold c_rec_Ends
  refine cal_i (scan_spec hc hb hcap hl) ?_
  rintro _ w1 ⟨x, y, B, rfl, hsc, hs1⟩
  simp only [nilc_some, fad_mk, pik_true, pik_false, cnd_true, cnd_false, gif_same, gif_tf, gif_ft, gif_undef, bi_add, bi_sub, bi_mul, bi_eql, bi_neq, bi_lss, bi_leq, bi_gtr, bi_geq, notB_bool, cvi_int, lenS_mk, lenT_mk, ext0, ext1, ext2, nilP_mk, nilS_mk, fldv_agg, jn0_k, jn1_k, jn2_k, jn1_and, jn1_or, ex_some, Option.isNone_some, Option.isNone_none, Bool.false_bne, Bool.bne_true, Bool.bne_false, Bool.true_bne, Bool.not_true, Bool.not_false, Bool.and_true, Bool.true_and, Bool.and_false, Bool.false_and, Bool.or_true, Bool.true_or, Bool.or_false, Bool.false_or, cond_true, cond_false, List.getElem?_toArray, List.getElem?_cons_zero, List.getElem?_cons_succ, Nat.zero_add, Nat.add_zero, Nat.reduceAdd, forall_const]
  refine alloc_s hs1 (al_sli w1) fun g w2 hs2 => ?_
  have h1 := Sep.oneR (Sep.p2 hs2)
  refine st1_s hs2 (by simp) h1 fun w3 hs3 => ?_
  exact hR _ _ ⟨g, y, _, _, rfl, hsc, h1, Sep.pick hs3 [0, 2] 3⟩
/-- slices.Equal on numbers. -/
theorem intsEqual_spec {u v : Value} {a b : List Int} (ha : Rows' (rInt .i64) w.heap u a) (hb : Rows' (rInt .i64) w.heap v b) (hl : a.length ≤ 1000000) : cal P f_slices_Equal_int_int [u, v] w fun r w' => r = .bool (decide (a = b)) ∧ Fr [] w w' := by
  refine s_slices_Equal_int_int fun R hR => ?_
  unfold c_slices_Equal_int_int
  simp only [ha.len, hb.len, nilc_some, fad_mk, pik_true, pik_false, cnd_true, cnd_false, gif_same, gif_tf, gif_ft, gif_undef, bi_add, bi_sub, bi_mul, bi_eql, bi_neq, bi_lss, bi_leq, bi_gtr, bi_geq, notB_bool, cvi_int, lenS_mk, lenT_mk, ext0, ext1, ext2, nilP_mk, nilS_mk, fldv_agg, jn0_k, jn1_k, jn2_k, jn1_and, jn1_or, ex_some, Option.isNone_some, Option.isNone_none, Bool.false_bne, Bool.bne_true, Bool.bne_false, Bool.true_bne, Bool.not_true, Bool.not_false, Bool.and_true, Bool.true_and, Bool.and_false, Bool.false_and, Bool.or_true, Bool.true_or, Bool.or_false, Bool.false_or, cond_true, cond_false, List.getElem?_toArray, List.getElem?_cons_zero, List.getElem?_cons_succ, Nat.zero_add, Nat.add_zero, Nat.reduceAdd, forall_const]
  rw [cnd_bool]
  refine ⟨fun h => ?_, fun h => ?_⟩
  · have h : a.length ≠ b.length := by simp at h; omega
    exact hR _ _ ⟨by rw [decide_eq_false (fun he => h (by rw [he]))], Fr.refl _ _⟩
  have hab : a.length = b.length := by simp at h; omega
  refine ⟨fun y z => ∃ i : Nat, y = .int .i64 i ∧ i ≤ a.length ∧ a.take i = b.take i ∧ Fr [] w z, fun y _ => (a.length - RowKit.intOf y).toNat, ⟨0, rfl, by omega, by simp, Fr.refl _ _⟩, ?_⟩
  rintro _ w1 ⟨i, rfl, hi, ht, hf⟩ -
  simp only [nilc_some, fad_mk, pik_true, pik_false, cnd_true, cnd_false, gif_same, gif_tf, gif_ft, gif_undef, bi_add, bi_sub, bi_mul, bi_eql, bi_neq, bi_lss, bi_leq, bi_gtr, bi_geq, notB_bool, cvi_int, lenS_mk, lenT_mk, ext0, ext1, ext2, nilP_mk, nilS_mk, fldv_agg, jn0_k, jn1_k, jn2_k, jn1_and, jn1_or, ex_some, Option.isNone_some, Option.isNone_none, Bool.false_bne, Bool.bne_true, Bool.bne_false, Bool.true_bne, Bool.not_true, Bool.not_false, Bool.and_true, Bool.true_and, Bool.and_false, Bool.false_and, Bool.or_true, Bool.true_or, Bool.or_false, Bool.false_or, cond_true, cond_false, List.getElem?_toArray, List.getElem?_cons_zero, List.getElem?_cons_succ, Nat.zero_add, Nat.add_zero, Nat.reduceAdd, forall_const]
  rw [cnd_bool]
  refine ⟨fun h => ?_, fun h => ?_⟩
  · have hlt : i < a.length := by simp at h; omega
    obtain ⟨x, hx⟩ : ∃ x, a[i]? = some x := ⟨_, List.getElem?_eq_getElem hlt⟩
    obtain ⟨y, hy⟩ : ∃ y, b[i]? = some y := ⟨_, List.getElem?_eq_getElem (by omega)⟩
    refine drw_s ((Sep.start w).old hf) fun w2 hs2 _ => ?_
    refine Rows'.ldI (ha.fr hs2.fr0) hx .i64 ?_
    refine Rows'.ldI (hb.fr hs2.fr0) hy .i64 ?_
    simp only [nilc_some, fad_mk, pik_true, pik_false, cnd_true, cnd_false, gif_same, gif_tf, gif_ft, gif_undef, bi_add, bi_sub, bi_mul, bi_eql, bi_neq, bi_lss, bi_leq, bi_gtr, bi_geq, notB_bool, cvi_int, lenS_mk, lenT_mk, ext0, ext1, ext2, nilP_mk, nilS_mk, fldv_agg, jn0_k, jn1_k, jn2_k, jn1_and, jn1_or, ex_some, Option.isNone_some, Option.isNone_none, Bool.false_bne, Bool.bne_true, Bool.bne_false, Bool.true_bne, Bool.not_true, Bool.not_false, Bool.and_true, Bool.true_and, Bool.and_false, Bool.false_and, Bool.or_true, Bool.true_or, Bool.or_false, Bool.false_or, cond_true, cond_false, List.getElem?_toArray, List.getElem?_cons_zero, List.getElem?_cons_succ, Nat.zero_add, Nat.add_zero, Nat.reduceAdd, forall_const]
    rw [cnd_bool]
    refine ⟨fun h => ?_, fun h => ?_⟩
    · have h : ¬ x = y := by simpa using h
      refine hR _ _ ⟨?_, hs2.fr0⟩
      rw [decide_eq_false fun he => h (by rw [he, hy] at hx; simpa using hx.symm)]
    · have h : x = y := by simpa using h
      rw [wi64 (by omega) (by omega)]
      exact ⟨⟨i + 1, by simp, by omega, by rw [List.take_add_one, List.take_add_one, ht, hx, hy, h], hs2.fr0⟩, by simp [RowKit.intOf]; omega⟩
  · have hge : i = a.length := by simp at h; omega
    rw [hge, List.take_of_length_le (Nat.le_refl _), List.take_of_length_le (by omega)] at ht
    exact hR _ _ ⟨by rw [decide_eq_true ht], hf⟩
end
end Go.Fx
set_option linter.unusedVariables false
set_option linter.unusedSimpArgs false
namespace Go.Fx
/-- Blocks that are handed in. -/
theorem rows_arg {h : Heap} {s : Sl (Vec 32 × Int × Sl UInt8)} (hs : (rSl R_api_Block).ok h s) : ∃ l : List BV, BRows h s.v l ∧ capOk s.v ∧ l.length ≤ 9223372036854775807 ∧ (∀ x ∈ l, x.1.h ≤ maxI) ∧ ∀ x ∈ l, x.1.d.length ≤ 9223372036854775807 := by
  obtain ⟨h1, h2, h3, h4⟩ := hs
  refine ⟨s.l.map fun x => (ab x, x.2.2.v), ⟨?_, fun x hx => ?_⟩, h3, by simpa using h2, fun x hx => ?_, fun x hx => ?_⟩
  · have e : s.l.flatMap R_api_Block.cells = ((s.l.map fun x => (ab x, x.2.2.v)).map BV.t).flatMap Q_api_Block.cells := by
      generalize s.l = l
      induction l with
      | nil => rfl
      | cons a l ih => rw [List.flatMap_cons, ih]; rfl
    unfold Rows'
    rw [e] at h1
    simp only [List.length_map] at h1 ⊢
    exact h1
  · obtain ⟨y, hy, rfl⟩ := List.mem_map.1 hx
    exact ab_rd (h4 y hy)
  · obtain ⟨y, hy, rfl⟩ := List.mem_map.1 hx
    exact ab_h (h4 y hy)
  · obtain ⟨y, hy, rfl⟩ := List.mem_map.1 hx
    exact ab_len (h4 y hy)
theorem wLays9 {w : World} {s : Sl (Vec 32 × Int × Sl UInt8)} (hc : Cub w) (hs0 : (rSl R_api_Block).ok w.heap s) : cal P f_law09_RecLays [s.v] w fun r w' => r = .bool true ∧ Fr [] w w' := by
  obtain ⟨l, hr, hcap, hl63, hh, _⟩ := rows_arg hs0
  generalize s.v = v at *
  clear hs0
  refine s_law09_RecLays fun R hR => ?_
  unfold c_law09_RecLays
  have lv : ∀ {z : World}, Fr [] w z → cal P f_law09_live [] z R := fun {z} hf => cal_i (live9_spec (hc.fr hf)) fun r w' hr => hR _ _ ⟨hr.1, hf.trans hr.2 (by simp) (by simp)⟩
  refine cal_i (live9_spec hc) ?_
  rintro _ w1 ⟨rfl, hf1⟩
  have hs1 := (Sep.start w).old hf1
  simp only [nilc_some, fad_mk, pik_true, pik_false, cnd_true, cnd_false, gif_same, gif_tf, gif_ft, gif_undef, bi_add, bi_sub, bi_mul, bi_eql, bi_neq, bi_lss, bi_leq, bi_gtr, bi_geq, notB_bool, cvi_int, lenS_mk, lenT_mk, ext0, ext1, ext2, nilP_mk, nilS_mk, fldv_agg, jn0_k, jn1_k, jn2_k, jn1_and, jn1_or, ex_some, Option.isNone_some, Option.isNone_none, Bool.false_bne, Bool.bne_true, Bool.bne_false, Bool.true_bne, Bool.not_true, Bool.not_false, Bool.and_true, Bool.true_and, Bool.and_false, Bool.false_and, Bool.or_true, Bool.true_or, Bool.or_false, Bool.false_or, cond_true, cond_false, List.getElem?_toArray, List.getElem?_cons_zero, List.getElem?_cons_succ, Nat.zero_add, Nat.add_zero, Nat.reduceAdd, forall_const]
  refine jn1_dup ?_
  refine cal_i (few9_spec (hr.fr hf1) hcap hl63) ?_
  rintro _ w2 ⟨hf2, t, rfl, ht⟩
  have hs2 := hs1.old hf2
  cases t with
  | false =>
    simp only [nilc_some, fad_mk, pik_true, pik_false, cnd_true, cnd_false, gif_same, gif_tf, gif_ft, gif_undef, bi_add, bi_sub, bi_mul, bi_eql, bi_neq, bi_lss, bi_leq, bi_gtr, bi_geq, notB_bool, cvi_int, lenS_mk, lenT_mk, ext0, ext1, ext2, nilP_mk, nilS_mk, fldv_agg, jn0_k, jn1_k, jn2_k, jn1_and, jn1_or, ex_some, Option.isNone_some, Option.isNone_none, Bool.false_bne, Bool.bne_true, Bool.bne_false, Bool.true_bne, Bool.not_true, Bool.not_false, Bool.and_true, Bool.true_and, Bool.and_false, Bool.false_and, Bool.or_true, Bool.true_or, Bool.or_false, Bool.false_or, cond_true, cond_false, List.getElem?_toArray, List.getElem?_cons_zero, List.getElem?_cons_succ, Nat.zero_add, Nat.add_zero, Nat.reduceAdd, forall_const]
    exact lv hs2.fr0
  | true =>
    obtain ⟨h30, hlen⟩ := ht rfl
    simp only [nilc_some, fad_mk, pik_true, pik_false, cnd_true, cnd_false, gif_same, gif_tf, gif_ft, gif_undef, bi_add, bi_sub, bi_mul, bi_eql, bi_neq, bi_lss, bi_leq, bi_gtr, bi_geq, notB_bool, cvi_int, lenS_mk, lenT_mk, ext0, ext1, ext2, nilP_mk, nilS_mk, fldv_agg, jn0_k, jn1_k, jn2_k, jn1_and, jn1_or, ex_some, Option.isNone_some, Option.isNone_none, Bool.false_bne, Bool.bne_true, Bool.bne_false, Bool.true_bne, Bool.not_true, Bool.not_false, Bool.and_true, Bool.true_and, Bool.and_false, Bool.false_and, Bool.or_true, Bool.true_or, Bool.or_false, Bool.false_or, cond_true, cond_false, List.getElem?_toArray, List.getElem?_cons_zero, List.getElem?_cons_succ, Nat.zero_add, Nat.add_zero, Nat.reduceAdd, forall_const, hr.len]
    refine ⟨fun y w' => ∃ i : Nat, y = .int .i64 i ∧ i ≤ l.length ∧ Sep w w' [], fun y _ => (l.length - RowKit.intOf y).toNat, ⟨0, rfl, by omega, hs2⟩, ?_⟩
    rintro _ w3 ⟨i, rfl, hi, hs3⟩ -
    simp only [nilc_some, fad_mk, pik_true, pik_false, cnd_true, cnd_false, gif_same, gif_tf, gif_ft, gif_undef, bi_add, bi_sub, bi_mul, bi_eql, bi_neq, bi_lss, bi_leq, bi_gtr, bi_geq, notB_bool, cvi_int, lenS_mk, lenT_mk, ext0, ext1, ext2, nilP_mk, nilS_mk, fldv_agg, jn0_k, jn1_k, jn2_k, jn1_and, jn1_or, ex_some, Option.isNone_some, Option.isNone_none, Bool.false_bne, Bool.bne_true, Bool.bne_false, Bool.true_bne, Bool.not_true, Bool.not_false, Bool.and_true, Bool.true_and, Bool.and_false, Bool.false_and, Bool.or_true, Bool.true_or, Bool.or_false, Bool.false_or, cond_true, cond_false, List.getElem?_toArray, List.getElem?_cons_zero, List.getElem?_cons_succ, Nat.zero_add, Nat.add_zero, Nat.reduceAdd, forall_const]
    rw [cnd_bool]
    refine ⟨fun h => ?_, fun h => ?_⟩
    · have hlt : i < l.length := by simp at h; omega
      have hx := List.getElem?_eq_getElem hlt
      generalize l[i] = x at hx
      have hm := List.mem_of_getElem? hx
      refine (hr.fr hs3.fr0).ld hx .i64 ?_
      refine alloc_s hs3 (A_api_Block w3) fun g w4 hs4 => ?_
      refine St_api_Block hs4 (one_api_Block (hr.get hx).one) fun w5 hs5 => ?_
      simp only [L_api_Block hs5.blk, L_api_Block__Parent hs5.blk, L_api_Block__Height hs5.blk, L_api_Block__Data hs5.blk]
      refine cal_i (recBytes_spec (b := x.1) (hc.fr hs5.fr0) (hs5.rdB (hr.get hx)) (hh x hm)) ?_
      rintro _ w6 ⟨s6, rfl, hs6⟩
      replace hs6 := hs5.join hs6
      simp only [nilc_some, fad_mk, pik_true, pik_false, cnd_true, cnd_false, gif_same, gif_tf, gif_ft, gif_undef, bi_add, bi_sub, bi_mul, bi_eql, bi_neq, bi_lss, bi_leq, bi_gtr, bi_geq, notB_bool, cvi_int, lenS_mk, lenT_mk, ext0, ext1, ext2, nilP_mk, nilS_mk, fldv_agg, jn0_k, jn1_k, jn2_k, jn1_and, jn1_or, ex_some, Option.isNone_some, Option.isNone_none, Bool.false_bne, Bool.bne_true, Bool.bne_false, Bool.true_bne, Bool.not_true, Bool.not_false, Bool.and_true, Bool.true_and, Bool.and_false, Bool.false_and, Bool.or_true, Bool.true_or, Bool.or_false, Bool.false_or, cond_true, cond_false, List.getElem?_toArray, List.getElem?_cons_zero, List.getElem?_cons_succ, Nat.zero_add, Nat.add_zero, Nat.reduceAdd, forall_const, L_api_Block (Sep.p1 hs6).blk, L_api_Block__Parent (Sep.p1 hs6).blk, L_api_Block__Height (Sep.p1 hs6).blk, L_api_Block__Data (Sep.p1 hs6).blk]
      refine cal_i (rRecBytes_spec (b := x.1) (hs6.rdB (hr.get hx)) (hh x hm)) ?_
      rintro _ w7 ⟨s7, rfl, hs7⟩
      replace hs7 := hs6.join hs7
      simp only [nilc_some, fad_mk, pik_true, pik_false, cnd_true, cnd_false, gif_same, gif_tf, gif_ft, gif_undef, bi_add, bi_sub, bi_mul, bi_eql, bi_neq, bi_lss, bi_leq, bi_gtr, bi_geq, notB_bool, cvi_int, lenS_mk, lenT_mk, ext0, ext1, ext2, nilP_mk, nilS_mk, fldv_agg, jn0_k, jn1_k, jn2_k, jn1_and, jn1_or, ex_some, Option.isNone_some, Option.isNone_none, Bool.false_bne, Bool.bne_true, Bool.bne_false, Bool.true_bne, Bool.not_true, Bool.not_false, Bool.and_true, Bool.true_and, Bool.and_false, Bool.false_and, Bool.or_true, Bool.true_or, Bool.or_false, Bool.false_or, cond_true, cond_false, List.getElem?_toArray, List.getElem?_cons_zero, List.getElem?_cons_succ, Nat.zero_add, Nat.add_zero, Nat.reduceAdd, forall_const]
      refine cal_i (bEqual_spec (Sep.rd (Sep.p1 hs7)) (Sep.rd hs7)) ?_
      rintro _ _ ⟨rfl, rfl⟩
      simp only [nilc_some, fad_mk, pik_true, pik_false, cnd_true, cnd_false, gif_same, gif_tf, gif_ft, gif_undef, bi_add, bi_sub, bi_mul, bi_eql, bi_neq, bi_lss, bi_leq, bi_gtr, bi_geq, notB_bool, cvi_int, lenS_mk, lenT_mk, ext0, ext1, ext2, nilP_mk, nilS_mk, fldv_agg, jn0_k, jn1_k, jn2_k, jn1_and, jn1_or, ex_some, Option.isNone_some, Option.isNone_none, Bool.false_bne, Bool.bne_true, Bool.bne_false, Bool.true_bne, Bool.not_true, Bool.not_false, Bool.and_true, Bool.true_and, Bool.and_false, Bool.false_and, Bool.or_true, Bool.true_or, Bool.or_false, Bool.false_or, cond_true, cond_false, List.getElem?_toArray, List.getElem?_cons_zero, List.getElem?_cons_succ, Nat.zero_add, Nat.add_zero, Nat.reduceAdd, forall_const, beq_self_eq_true, bne_self_eq_false, L_api_Block (Sep.p2 hs7).blk, L_api_Block__Parent (Sep.p2 hs7).blk, L_api_Block__Height (Sep.p2 hs7).blk, L_api_Block__Data (Sep.p2 hs7).blk]
      refine jn1_dup ?_
      refine cal_i (recSize_spec (b := x.1) (hs7.rdB (hr.get hx))) ?_
      rintro _ w8 ⟨rfl, hf8⟩
      have hs8 := hs7.old hf8
      simp only [nilc_some, fad_mk, pik_true, pik_false, cnd_true, cnd_false, gif_same, gif_tf, gif_ft, gif_undef, bi_add, bi_sub, bi_mul, bi_eql, bi_neq, bi_lss, bi_leq, bi_gtr, bi_geq, notB_bool, cvi_int, lenS_mk, lenT_mk, ext0, ext1, ext2, nilP_mk, nilS_mk, fldv_agg, jn0_k, jn1_k, jn2_k, jn1_and, jn1_or, ex_some, Option.isNone_some, Option.isNone_none, Bool.false_bne, Bool.bne_true, Bool.bne_false, Bool.true_bne, Bool.not_true, Bool.not_false, Bool.and_true, Bool.true_and, Bool.and_false, Bool.false_and, Bool.or_true, Bool.true_or, Bool.or_false, Bool.false_or, cond_true, cond_false, List.getElem?_toArray, List.getElem?_cons_zero, List.getElem?_cons_succ, Nat.zero_add, Nat.add_zero, Nat.reduceAdd, forall_const, (Sep.rd hs8).len, bne_self_eq_false]
      rw [wi64 (by omega) (by omega)]
      exact ⟨⟨i + 1, by simp, by omega, (Sep.start w).old hs8.fr0⟩, by simp [RowKit.intOf]; omega⟩
    · refine cal_i (recLay_spec (hc.fr hs3.fr0) (hr.fr hs3.fr0) (by omega) hh) ?_
      rintro _ w4 ⟨s4, rfl, hs4⟩
      replace hs4 := hs3.join hs4
      simp only [nilc_some, fad_mk, pik_true, pik_false, cnd_true, cnd_false, gif_same, gif_tf, gif_ft, gif_undef, bi_add, bi_sub, bi_mul, bi_eql, bi_neq, bi_lss, bi_leq, bi_gtr, bi_geq, notB_bool, cvi_int, lenS_mk, lenT_mk, ext0, ext1, ext2, nilP_mk, nilS_mk, fldv_agg, jn0_k, jn1_k, jn2_k, jn1_and, jn1_or, ex_some, Option.isNone_some, Option.isNone_none, Bool.false_bne, Bool.bne_true, Bool.bne_false, Bool.true_bne, Bool.not_true, Bool.not_false, Bool.and_true, Bool.true_and, Bool.and_false, Bool.false_and, Bool.or_true, Bool.true_or, Bool.or_false, Bool.false_or, cond_true, cond_false, List.getElem?_toArray, List.getElem?_cons_zero, List.getElem?_cons_succ, Nat.zero_add, Nat.add_zero, Nat.reduceAdd, forall_const]
      refine cal_i (rRecLay_spec (hr.fr hs4.fr0) (by omega) hh) ?_
      rintro _ w5 ⟨s5, rfl, hs5⟩
      replace hs5 := hs4.join hs5
      simp only [nilc_some, fad_mk, pik_true, pik_false, cnd_true, cnd_false, gif_same, gif_tf, gif_ft, gif_undef, bi_add, bi_sub, bi_mul, bi_eql, bi_neq, bi_lss, bi_leq, bi_gtr, bi_geq, notB_bool, cvi_int, lenS_mk, lenT_mk, ext0, ext1, ext2, nilP_mk, nilS_mk, fldv_agg, jn0_k, jn1_k, jn2_k, jn1_and, jn1_or, ex_some, Option.isNone_some, Option.isNone_none, Bool.false_bne, Bool.bne_true, Bool.bne_false, Bool.true_bne, Bool.not_true, Bool.not_false, Bool.and_true, Bool.true_and, Bool.and_false, Bool.false_and, Bool.or_true, Bool.true_or, Bool.or_false, Bool.false_or, cond_true, cond_false, List.getElem?_toArray, List.getElem?_cons_zero, List.getElem?_cons_succ, Nat.zero_add, Nat.add_zero, Nat.reduceAdd, forall_const]
      refine cal_i (bEqual_spec (Sep.rd (Sep.p1 hs5)) (Sep.rd hs5)) ?_
      rintro _ _ ⟨rfl, rfl⟩
      simp only [nilc_some, fad_mk, pik_true, pik_false, cnd_true, cnd_false, gif_same, gif_tf, gif_ft, gif_undef, bi_add, bi_sub, bi_mul, bi_eql, bi_neq, bi_lss, bi_leq, bi_gtr, bi_geq, notB_bool, cvi_int, lenS_mk, lenT_mk, ext0, ext1, ext2, nilP_mk, nilS_mk, fldv_agg, jn0_k, jn1_k, jn2_k, jn1_and, jn1_or, ex_some, Option.isNone_some, Option.isNone_none, Bool.false_bne, Bool.bne_true, Bool.bne_false, Bool.true_bne, Bool.not_true, Bool.not_false, Bool.and_true, Bool.true_and, Bool.and_false, Bool.false_and, Bool.or_true, Bool.true_or, Bool.or_false, Bool.false_or, cond_true, cond_false, List.getElem?_toArray, List.getElem?_cons_zero, List.getElem?_cons_succ, Nat.zero_add, Nat.add_zero, Nat.reduceAdd, forall_const, beq_self_eq_true]
      exact hR _ _ ⟨rfl, hs5.fr0⟩
end Go.Fx
set_option linter.unusedVariables false
set_option linter.unusedSimpArgs false
namespace Go.Fx
theorem cap_of {a : Option Addr} {n c : Nat} (h : n ≤ c) : capOk (.slice a n c) := fun a' n' c' he => by
  simp only [Value.slice.injEq] at he
  obtain ⟨_, rfl, rfl⟩ := he
  exact h
theorem BRows.cutF {h : Heap} {a : Option Addr} {c k : Nat} {l : List BV} (hr : BRows h (.slice a l.length c) l) (hk : k ≤ l.length) (hc : l.length ≤ c) (c' : Nat) : BRows h (.slice (if c = k then a else a.map (·.add (k * 34))) (l.length - k) c') (l.drop k) := by
  refine ⟨?_, fun x hx => hr.2 x (List.mem_of_mem_drop hx)⟩
  have := Rows'.drop (q := Q_api_Block) hr.1 (k := k) (by simp; omega) (by simp; omega) c'
  rwa [← List.map_drop] at this
theorem goodB_of {l : List BV} (hh : ∀ x ∈ l, x.1.h ≤ maxI) (hok : layOk (l.map (·.1))) : goodB (l.map (·.1)) := fun b hb => by
  obtain ⟨x, hx, rfl⟩ := List.mem_map.1 hb
  exact ⟨hok _ hb, hh x hx⟩
theorem wOn9 {w : World} {v : Value} {d : List UInt8} {s : Sl (Vec 32 × Int × Sl UInt8)} (hc : Cub w) (hl : rBytes.ok w.heap ⟨v, d⟩) (hs0 : (rSl R_api_Block).ok w.heap s) : cal P f_law09_RecOn [v, s.v] w fun r w' => r = .bool true ∧ Fr [] w w' := by
  obtain ⟨l, hr, hcap, hl63, hh, _⟩ := rows_arg hs0
  generalize s.v = u at *
  have hrd : RdB w.heap v d := hl.1
  have hcd : capOk v := hl.2.2
  clear hs0 hl
  refine s_law09_RecOn fun R hR => ?_
  unfold c_law09_RecOn
  have lv : ∀ {z : World}, Fr [] w z → cal P f_law09_live [] z R := fun {z} hf => cal_i (live9_spec (hc.fr hf)) fun r w' hr => hR _ _ ⟨hr.1, hf.trans hr.2 (by simp) (by simp)⟩
  refine cal_i (live9_spec hc) ?_
  rintro _ w1 ⟨rfl, hf1⟩
  have hs1 := (Sep.start w).old hf1
  simp only [nilc_some, fad_mk, pik_true, pik_false, cnd_true, cnd_false, gif_same, gif_tf, gif_ft, gif_undef, bi_add, bi_sub, bi_mul, bi_eql, bi_neq, bi_lss, bi_leq, bi_gtr, bi_geq, notB_bool, cvi_int, lenS_mk, lenT_mk, ext0, ext1, ext2, nilP_mk, nilS_mk, fldv_agg, jn0_k, jn1_k, jn2_k, jn1_and, jn1_or, ex_some, Option.isNone_some, Option.isNone_none, Bool.false_bne, Bool.bne_true, Bool.bne_false, Bool.true_bne, Bool.not_true, Bool.not_false, Bool.and_true, Bool.true_and, Bool.and_false, Bool.false_and, Bool.or_true, Bool.true_or, Bool.or_false, Bool.false_or, cond_true, cond_false, List.getElem?_toArray, List.getElem?_cons_zero, List.getElem?_cons_succ, Nat.zero_add, Nat.add_zero, Nat.reduceAdd, forall_const]
  refine jn1_dup ?_
  refine cal_i (few9_spec (hr.fr hf1) hcap hl63) ?_
  rintro _ w2 ⟨hf2, t, rfl, ht⟩
  have hs2 := hs1.old hf2
  cases t with
  | false =>
    simp only [nilc_some, fad_mk, pik_true, pik_false, cnd_true, cnd_false, gif_same, gif_tf, gif_ft, gif_undef, bi_add, bi_sub, bi_mul, bi_eql, bi_neq, bi_lss, bi_leq, bi_gtr, bi_geq, notB_bool, cvi_int, lenS_mk, lenT_mk, ext0, ext1, ext2, nilP_mk, nilS_mk, fldv_agg, jn0_k, jn1_k, jn2_k, jn1_and, jn1_or, ex_some, Option.isNone_some, Option.isNone_none, Bool.false_bne, Bool.bne_true, Bool.bne_false, Bool.true_bne, Bool.not_true, Bool.not_false, Bool.and_true, Bool.true_and, Bool.and_false, Bool.false_and, Bool.or_true, Bool.true_or, Bool.or_false, Bool.false_or, cond_true, cond_false, List.getElem?_toArray, List.getElem?_cons_zero, List.getElem?_cons_succ, Nat.zero_add, Nat.add_zero, Nat.reduceAdd, forall_const]
    exact lv hs2.fr0
  | true =>
    obtain ⟨h30, hlen⟩ := ht rfl
    simp only [nilc_some, fad_mk, pik_true, pik_false, cnd_true, cnd_false, gif_same, gif_tf, gif_ft, gif_undef, bi_add, bi_sub, bi_mul, bi_eql, bi_neq, bi_lss, bi_leq, bi_gtr, bi_geq, notB_bool, cvi_int, lenS_mk, lenT_mk, ext0, ext1, ext2, nilP_mk, nilS_mk, fldv_agg, jn0_k, jn1_k, jn2_k, jn1_and, jn1_or, ex_some, Option.isNone_some, Option.isNone_none, Bool.false_bne, Bool.bne_true, Bool.bne_false, Bool.true_bne, Bool.not_true, Bool.not_false, Bool.and_true, Bool.true_and, Bool.and_false, Bool.false_and, Bool.or_true, Bool.true_or, Bool.or_false, Bool.false_or, cond_true, cond_false, List.getElem?_toArray, List.getElem?_cons_zero, List.getElem?_cons_succ, Nat.zero_add, Nat.add_zero, Nat.reduceAdd, forall_const, hrd.len]
    rw [cnd_bool]
    refine ⟨fun h => lv hs2.fr0, fun h => ?_⟩
    have hd : d.length ≤ 10000 := by simp at h; omega
    refine cal_i (Scan_spec (hc.fr hs2.fr0) (hs2.rdB hrd) hcd (by omega)) ?_
    rintro _ w3 ⟨x1, B1, rfl, hsc1, hs3⟩
    replace hs3 := hs2.join hs3
    simp only [nilc_some, fad_mk, pik_true, pik_false, cnd_true, cnd_false, gif_same, gif_tf, gif_ft, gif_undef, bi_add, bi_sub, bi_mul, bi_eql, bi_neq, bi_lss, bi_leq, bi_gtr, bi_geq, notB_bool, cvi_int, lenS_mk, lenT_mk, ext0, ext1, ext2, nilP_mk, nilS_mk, fldv_agg, jn0_k, jn1_k, jn2_k, jn1_and, jn1_or, ex_some, Option.isNone_some, Option.isNone_none, Bool.false_bne, Bool.bne_true, Bool.bne_false, Bool.true_bne, Bool.not_true, Bool.not_false, Bool.and_true, Bool.true_and, Bool.and_false, Bool.false_and, Bool.or_true, Bool.true_or, Bool.or_false, Bool.false_or, cond_true, cond_false, List.getElem?_toArray, List.getElem?_cons_zero, List.getElem?_cons_succ, Nat.zero_add, Nat.add_zero, Nat.reduceAdd, forall_const]
    refine cal_i (recLay_spec (hc.fr hs3.fr0) (hr.fr hs3.fr0) (by omega) hh) ?_
    rintro _ w4 ⟨s4, rfl, hs4⟩
    replace hs4 := hs3.join hs4
    have hle1 := hsc1.len
    simp only [nilc_some, fad_mk, pik_true, pik_false, cnd_true, cnd_false, gif_same, gif_tf, gif_ft, gif_undef, bi_add, bi_sub, bi_mul, bi_eql, bi_neq, bi_lss, bi_leq, bi_gtr, bi_geq, notB_bool, cvi_int, lenS_mk, lenT_mk, ext0, ext1, ext2, nilP_mk, nilS_mk, fldv_agg, jn0_k, jn1_k, jn2_k, jn1_and, jn1_or, ex_some, Option.isNone_some, Option.isNone_none, Bool.false_bne, Bool.bne_true, Bool.bne_false, Bool.true_bne, Bool.not_true, Bool.not_false, Bool.and_true, Bool.true_and, Bool.and_false, Bool.false_and, Bool.or_true, Bool.true_or, Bool.or_false, Bool.false_or, cond_true, cond_false, List.getElem?_toArray, List.getElem?_cons_zero, List.getElem?_cons_succ, Nat.zero_add, Nat.add_zero, Nat.reduceAdd, forall_const, hrd.len]
    by_cases hok : layOk (l.map (·.1))
    case neg =>
      have he : layE (l.map (·.1)) = 30 := if_neg hok
      simp only [he, nilc_some, fad_mk, pik_true, pik_false, cnd_true, cnd_false, gif_same, gif_tf, gif_ft, gif_undef, bi_add, bi_sub, bi_mul, bi_eql, bi_neq, bi_lss, bi_leq, bi_gtr, bi_geq, notB_bool, cvi_int, lenS_mk, lenT_mk, ext0, ext1, ext2, nilP_mk, nilS_mk, fldv_agg, jn0_k, jn1_k, jn2_k, jn1_and, jn1_or, ex_some, Option.isNone_some, Option.isNone_none, Bool.false_bne, Bool.bne_true, Bool.bne_false, Bool.true_bne, Bool.not_true, Bool.not_false, Bool.and_true, Bool.true_and, Bool.and_false, Bool.false_and, Bool.or_true, Bool.true_or, Bool.or_false, Bool.false_or, cond_true, cond_false, List.getElem?_toArray, List.getElem?_cons_zero, List.getElem?_cons_succ, Nat.zero_add, Nat.add_zero, Nat.reduceAdd, forall_const, show ((30 : Int) != 0) = true from rfl]
      exact hR _ _ ⟨rfl, hs4.fr0⟩
    have he : layE (l.map (·.1)) = 0 := if_pos hok
    have ho : layO (l.map (·.1)) = layL (l.map (·.1)) := if_pos hok
    rw [ho] at hs4
    obtain ⟨L1, hL1⟩ : ∃ L1, L1 = B1.map (·.1) := ⟨_, rfl⟩
    obtain ⟨L, hL⟩ : ∃ L, L = l.map (·.1) := ⟨_, rfl⟩
    have h66 := layL_ge L1
    have hB1l : L1.length = B1.length := by rw [hL1]; simp
    rw [← hL1] at hsc1 hle1 ⊢
    rw [← hL] at hs4 hok he ⊢
    have e1 : decide (((layL L1).length : Int) < 0) = false := by simp
    have e2 : decide ((d.length : Int) < ((layL L1).length : Int)) = false := by simp; omega
    simp only [he, e1, e2, nilc_some, fad_mk, pik_true, pik_false, cnd_true, cnd_false, gif_same, gif_tf, gif_ft, gif_undef, bi_add, bi_sub, bi_mul, bi_eql, bi_neq, bi_lss, bi_leq, bi_gtr, bi_geq, notB_bool, cvi_int, lenS_mk, lenT_mk, ext0, ext1, ext2, nilP_mk, nilS_mk, fldv_agg, jn0_k, jn1_k, jn2_k, jn1_and, jn1_or, ex_some, Option.isNone_some, Option.isNone_none, Bool.false_bne, Bool.bne_true, Bool.bne_false, Bool.true_bne, Bool.not_true, Bool.not_false, Bool.and_true, Bool.true_and, Bool.and_false, Bool.false_and, Bool.or_true, Bool.true_or, Bool.or_false, Bool.false_or, cond_true, cond_false, List.getElem?_toArray, List.getElem?_cons_zero, List.getElem?_cons_succ, Nat.zero_add, Nat.add_zero, Nat.reduceAdd, forall_const, show ((0 : Int) != 0) = false from rfl]
    obtain ⟨av, cv, rfl⟩ := hrd.form
    have hcv : d.length ≤ cv := hcd _ _ _ rfl
    rw [slc_to (by omega)]
    have hrt := (hs4.rdB hrd).take (k := (layL L1).length) hle1 cv
    rw [hsc1.take] at hrt
    refine cal_i (bClone_spec hrt (by omega)) ?_
    rintro c5 w5 hs5
    replace hs5 := hs4.join hs5
    have hgl : goodB L := by rw [hL]; exact goodB_of hh (by rw [← hL]; exact hok)
    have hLl : L.length = l.length := by rw [hL]; simp
    have hlb := layL_len L hok
    refine appB_s S_sl_uint8 U_sl_uint8 (by simp) hs5 (Sep.rd hs5.p1) (by omega) fun c6 w6 hs6 => ?_
    rw [← layL_append] at hs6
    obtain ⟨a6, cc6, rfl, hac6⟩ := Sep.form hs6
    have hgg : goodB (L1 ++ L) := fun b hb => by
      rcases List.mem_append.1 hb with hb | hb
      · exact hsc1.1 b hb
      · exact hgl b hb
    have hsc : IsScan (layL (L1 ++ L)) (L1 ++ L) := ⟨hgg, [], (List.append_nil _).symm, by rw [takeR_nil]; decide⟩
    have hll : (layL (L1 ++ L)).length = (layL L1).length + (layL L).length := by rw [layL_append, List.length_append]
    refine cal_i (Scan_spec (hc.fr hs6.fr0) (Sep.rd hs6) (cap_of hac6) (by omega)) ?_
    rintro _ w7 ⟨x7, B7, rfl, hsc7, hs7⟩
    have hB7 := hsc7.uniq hsc
    have hb7 : B7.length = B1.length + l.length := by
      have := congrArg List.length hB7
      rw [hL1, hL] at this
      simpa using this
    have hs67 := hs6.old hs7.fr0
    have hr7 : ∀ {z : World}, Fr [] w7 z → BRows z.heap x7 B7 := fun {z} hf => BRows.fr (brow_rd (Bs := []) (by rw [List.append_nil]; exact hs7)) hf
    have hr1 : ∀ {z : World}, Fr [] w7 z → BRows z.heap x1 B1 := fun {z} hf => BRows.fr (by
      have h1 : Sep w w7 (brow x1 B1 ++ []) := Sep.dropL (As := [_, _]) hs67
      exact brow_rd h1) hf
    obtain ⟨a7, c7, hx7, hac7⟩ := Sep.formR (l := B7.map BV.t) (show Sep w6 w7 (rows Q_api_Block x7 (B7.map BV.t) :: B7.map oV) from hs7)
    rw [List.length_map] at hx7 hac7
    have hl7 := (hr7 (Fr.refl _ _)).len
    have hl1 := (hr1 (Fr.refl _ _)).len
    have hls := (Sep.rd (hs67.pick [1] 2)).len
    have e3 : IntKind.i64.wrap (((layL L1).length : Int) + ((layL L).length : Int)) = ((layL (L1 ++ L)).length : Int) := by rw [hll, wi64 (by omega) (by omega)]; omega
    have e4 : IntKind.i64.wrap ((B1.length : Int) + (l.length : Int)) = (B7.length : Int) := by rw [hb7, wi64 (by omega) (by omega)]; omega
    rw [hB7]
    simp only [nilc_some, fad_mk, pik_true, pik_false, cnd_true, cnd_false, gif_same, gif_tf, gif_ft, gif_undef, bi_add, bi_sub, bi_mul, bi_eql, bi_neq, bi_lss, bi_leq, bi_gtr, bi_geq, notB_bool, cvi_int, lenS_mk, lenT_mk, ext0, ext1, ext2, nilP_mk, nilS_mk, fldv_agg, jn0_k, jn1_k, jn2_k, jn1_and, jn1_or, ex_some, Option.isNone_some, Option.isNone_none, Bool.false_bne, Bool.bne_true, Bool.bne_false, Bool.true_bne, Bool.not_true, Bool.not_false, Bool.and_true, Bool.true_and, Bool.and_false, Bool.false_and, Bool.or_true, Bool.true_or, Bool.or_false, Bool.false_or, cond_true, cond_false, List.getElem?_toArray, List.getElem?_cons_zero, List.getElem?_cons_succ, Nat.zero_add, Nat.add_zero, Nat.reduceAdd, forall_const, hls, e3, hl7, hl1, hr.len, e4, beq_self_eq_true, min_i64]
    have e5 : (if (B1.length : Int) < (B7.length : Int) then (B1.length : Int) else (B7.length : Int)) = ((B1.length : Nat) : Int) := by split <;> omega
    rw [e5, hx7]
    have hm1 : (B7.take B1.length).map (·.1) = B1.map (·.1) := by
      rw [List.map_take, hB7, ← hL1]
      have : B1.length = L1.length := by rw [hL1]; simp
      rw [this, List.take_left' rfl]
    have hm2 : (B7.drop B1.length).map (·.1) = l.map (·.1) := by
      rw [List.map_drop, hB7, ← hL]
      have : B1.length = L1.length := by rw [hL1]; simp
      rw [this, List.drop_left' rfl]
    rw [hx7] at hr7
    refine jn1_dup ?_
    rw [slc_to (by omega)]
    refine cal_i (SameAll_spec ((hr7 (Fr.refl _ _)).cut (k := B1.length) (by omega) c7) (hr1 (Fr.refl _ _)) (by simp; omega)) ?_
    rintro _ w8 ⟨rfl, hf8⟩
    have hs8 := hs67.old hf8
    rw [decide_eq_true hm1]
    simp only [nilc_some, fad_mk, pik_true, pik_false, cnd_true, cnd_false, gif_same, gif_tf, gif_ft, gif_undef, bi_add, bi_sub, bi_mul, bi_eql, bi_neq, bi_lss, bi_leq, bi_gtr, bi_geq, notB_bool, cvi_int, lenS_mk, lenT_mk, ext0, ext1, ext2, nilP_mk, nilS_mk, fldv_agg, jn0_k, jn1_k, jn2_k, jn1_and, jn1_or, ex_some, Option.isNone_some, Option.isNone_none, Bool.false_bne, Bool.bne_true, Bool.bne_false, Bool.true_bne, Bool.not_true, Bool.not_false, Bool.and_true, Bool.true_and, Bool.and_false, Bool.false_and, Bool.or_true, Bool.true_or, Bool.or_false, Bool.false_or, cond_true, cond_false, List.getElem?_toArray, List.getElem?_cons_zero, List.getElem?_cons_succ, Nat.zero_add, Nat.add_zero, Nat.reduceAdd, forall_const]
    refine jn1_dup ?_
    rw [slc_from (by omega)]
    refine cal_i (SameAll_spec ((hr7 hf8).cutF (k := B1.length) (by omega) hac7 _) (hr.fr hs8.fr0) (by simp; omega)) ?_
    rintro _ w9 ⟨rfl, hf9⟩
    rw [decide_eq_true hm2]
    simp only [nilc_some, fad_mk, pik_true, pik_false, cnd_true, cnd_false, gif_same, gif_tf, gif_ft, gif_undef, bi_add, bi_sub, bi_mul, bi_eql, bi_neq, bi_lss, bi_leq, bi_gtr, bi_geq, notB_bool, cvi_int, lenS_mk, lenT_mk, ext0, ext1, ext2, nilP_mk, nilS_mk, fldv_agg, jn0_k, jn1_k, jn2_k, jn1_and, jn1_or, ex_some, Option.isNone_some, Option.isNone_none, Bool.false_bne, Bool.bne_true, Bool.bne_false, Bool.true_bne, Bool.not_true, Bool.not_false, Bool.and_true, Bool.true_and, Bool.and_false, Bool.false_and, Bool.or_true, Bool.true_or, Bool.or_false, Bool.false_or, cond_true, cond_false, List.getElem?_toArray, List.getElem?_cons_zero, List.getElem?_cons_succ, Nat.zero_add, Nat.add_zero, Nat.reduceAdd, forall_const]
    exact hR _ _ ⟨rfl, (hs8.old hf9).fr0⟩
end Go.Fx
set_option linter.unusedVariables false
set_option linter.unusedSimpArgs false
namespace Go.Fx
/-- An effect that is a cut, behind which whatever holds. -/
theorem efC_cut {f : World → (Value → World → Prop) → Prop} {w : World} {K : (World → Prop) → Value → World → Prop} (h : f w fun v w' => ∃ S : World → Prop, S w' ∧ K S v w') : efC f w K := h
theorem wScans9 {w : World} {v : Value} {d : List UInt8} {most : Nat} (hc : Cub w) (hl : rBytes.ok w.heap ⟨v, d⟩) (hm : most < 256) : cal P f_law09_RecScans [v, .int .u8 most] w fun r w' => r = .bool true ∧ Fr [] w w' := by
  have hrd : RdB w.heap v d := hl.1
  have hcd : capOk v := hl.2.2
  clear hl
  refine s_law09_RecScans fun R hR => ?_
  unfold c_law09_RecScans
  have lv : ∀ {z : World}, Fr [] w z → cal P f_law09_live [] z R := fun {z} hf => cal_i (live9_spec (hc.fr hf)) fun r w' hr => hR _ _ ⟨hr.1, hf.trans hr.2 (by simp) (by simp)⟩
  refine cal_i (live9_spec hc) ?_
  rintro _ w1 ⟨rfl, hf1⟩
  have hs1 := (Sep.start w).old hf1
  simp only [nilc_some, fad_mk, pik_true, pik_false, cnd_true, cnd_false, gif_same, gif_tf, gif_ft, gif_undef, bi_add, bi_sub, bi_mul, bi_eql, bi_neq, bi_lss, bi_leq, bi_gtr, bi_geq, notB_bool, cvi_int, lenS_mk, lenT_mk, ext0, ext1, ext2, nilP_mk, nilS_mk, fldv_agg, jn0_k, jn1_k, jn2_k, jn1_and, jn1_or, ex_some, Option.isNone_some, Option.isNone_none, Bool.false_bne, Bool.bne_true, Bool.bne_false, Bool.true_bne, Bool.not_true, Bool.not_false, Bool.and_true, Bool.true_and, Bool.and_false, Bool.false_and, Bool.or_true, Bool.true_or, Bool.or_false, Bool.false_or, cond_true, cond_false, List.getElem?_toArray, List.getElem?_cons_zero, List.getElem?_cons_succ, Nat.zero_add, Nat.add_zero, Nat.reduceAdd, forall_const, hrd.len]
  rw [cnd_bool]
  refine ⟨fun h => lv hs1.fr0, fun h => ?_⟩
  have hd : d.length ≤ 10000 := by simp at h; omega
  refine cal_i (Scan_spec (hc.fr hs1.fr0) (hs1.rdB hrd) hcd (by omega)) ?_
  rintro _ w2 ⟨x1, B1, rfl, hsc1, hs2⟩
  replace hs2 := hs1.join hs2
  simp only [nilc_some, fad_mk, pik_true, pik_false, cnd_true, cnd_false, gif_same, gif_tf, gif_ft, gif_undef, bi_add, bi_sub, bi_mul, bi_eql, bi_neq, bi_lss, bi_leq, bi_gtr, bi_geq, notB_bool, cvi_int, lenS_mk, lenT_mk, ext0, ext1, ext2, nilP_mk, nilS_mk, fldv_agg, jn0_k, jn1_k, jn2_k, jn1_and, jn1_or, ex_some, Option.isNone_some, Option.isNone_none, Bool.false_bne, Bool.bne_true, Bool.bne_false, Bool.true_bne, Bool.not_true, Bool.not_false, Bool.and_true, Bool.true_and, Bool.and_false, Bool.false_and, Bool.or_true, Bool.true_or, Bool.or_false, Bool.false_or, cond_true, cond_false, List.getElem?_toArray, List.getElem?_cons_zero, List.getElem?_cons_succ, Nat.zero_add, Nat.add_zero, Nat.reduceAdd, forall_const]
  refine cal_i (rScan_spec (hs2.rdB hrd) hcd (by omega)) ?_
  rintro _ w3 ⟨x2, B2, rfl, hsc2, hs3⟩
  have hB := hsc1.uniq hsc2
  have hB1 : ∀ {z : World}, Fr [] w3 z → BRows z.heap x1 B1 := fun {z} hf => BRows.fr (brow_rd hs2) (hs3.fr0.trans hf (by simp) (by simp))
  have hB2 : ∀ {z : World}, Fr [] w3 z → BRows z.heap x2 B2 := fun {z} hf => BRows.fr (brow_rd (Bs := []) (by rw [List.append_nil]; exact hs3)) hf
  have hle := hsc2.len
  obtain ⟨L, hL⟩ : ∃ L, L = B2.map (·.1) := ⟨_, rfl⟩
  rw [hB]
  rw [← hL] at hsc2 hle ⊢
  have hLl : L.length = B2.length := by rw [hL]; simp
  have h66 := layL_ge L
  have hBl : B2.length ≤ 10000 := by omega
  have hs4 : Sep w w3 [] := (Sep.start w).old (hs2.fr0.trans hs3.fr0 (by simp) (by simp))
  clear hs3 hs2
  have hf34 : Fr [] w3 w3 := Fr.refl _ _
  have hl2 := (hB2 hf34).len
  simp only [nilc_some, fad_mk, pik_true, pik_false, cnd_true, cnd_false, gif_same, gif_tf, gif_ft, gif_undef, bi_add, bi_sub, bi_mul, bi_eql, bi_neq, bi_lss, bi_leq, bi_gtr, bi_geq, notB_bool, cvi_int, lenS_mk, lenT_mk, ext0, ext1, ext2, nilP_mk, nilS_mk, fldv_agg, jn0_k, jn1_k, jn2_k, jn1_and, jn1_or, ex_some, Option.isNone_some, Option.isNone_none, Bool.false_bne, Bool.bne_true, Bool.bne_false, Bool.true_bne, Bool.not_true, Bool.not_false, Bool.and_true, Bool.true_and, Bool.and_false, Bool.false_and, Bool.or_true, Bool.true_or, Bool.or_false, Bool.false_or, cond_true, cond_false, List.getElem?_toArray, List.getElem?_cons_zero, List.getElem?_cons_succ, Nat.zero_add, Nat.add_zero, Nat.reduceAdd, forall_const, hl2]
  have hw3 : Sep w3 w3 [] := Sep.start w3
  refine ⟨fun x y z u => ∃ i : Nat, z = .int .i64 i ∧ i ≤ B2.length ∧ y = .int .i64 ((layL (L.take i)).length : Int) ∧ Sep w3 u [rows (rInt .i64) x ((endsOf L).take i)], fun _ _ z _ => (B2.length - RowKit.intOf z).toNat, ⟨0, rfl, by omega, rfl, hw3.nilR⟩, ?_⟩
  rintro x _ _ w5 ⟨i, rfl, hi, rfl, hs5⟩ -
  simp only [nilc_some, fad_mk, pik_true, pik_false, cnd_true, cnd_false, gif_same, gif_tf, gif_ft, gif_undef, bi_add, bi_sub, bi_mul, bi_eql, bi_neq, bi_lss, bi_leq, bi_gtr, bi_geq, notB_bool, cvi_int, lenS_mk, lenT_mk, ext0, ext1, ext2, nilP_mk, nilS_mk, fldv_agg, jn0_k, jn1_k, jn2_k, jn1_and, jn1_or, ex_some, Option.isNone_some, Option.isNone_none, Bool.false_bne, Bool.bne_true, Bool.bne_false, Bool.true_bne, Bool.not_true, Bool.not_false, Bool.and_true, Bool.true_and, Bool.and_false, Bool.false_and, Bool.or_true, Bool.true_or, Bool.or_false, Bool.false_or, cond_true, cond_false, List.getElem?_toArray, List.getElem?_cons_zero, List.getElem?_cons_succ, Nat.zero_add, Nat.add_zero, Nat.reduceAdd, forall_const]
  rw [cnd_bool]
  refine ⟨fun h => ?_, fun h => ?_⟩
  · have hlt : i < B2.length := by simp at h; omega
    obtain ⟨b, hb⟩ : ∃ b, B2[i]? = some b := ⟨_, List.getElem?_eq_getElem hlt⟩
    have hbm := List.mem_of_getElem? hb
    have hLi : L[i]? = some b.1 := by rw [hL, List.getElem?_map, hb]; rfl
    have hgood := hsc2.1 b.1 (List.mem_of_getElem? hLi)
    refine (hB2 hs5.fr0).ld hb .i64 ?_
    refine alloc_s hs5 (A_api_Block w5) fun g w6 hs6 => ?_
    have hdb := (hB2 hs6.fr0).2 b hbm
    refine St_api_Block hs6 (one_api_Block hdb.one) fun w7 hs7 => ?_
    simp only [L_api_Block hs7.blk, L_api_Block__Parent hs7.blk, L_api_Block__Height hs7.blk, L_api_Block__Data hs7.blk]
    refine cal_i (rRecSize_spec (b := b.1) (v := b.2) ((hB2 hs7.fr0).2 b hbm) hgood.2) ?_
    rintro _ w8 ⟨rfl, hf8⟩
    have hs8 := hs7.old hf8
    have hro : b.1.recO = b.1.rcd := if_pos hgood.1
    have hrl : (layL (L.take (i + 1))).length = (layL (L.take i)).length + b.1.recO.length := by
      rw [List.take_add_one, hLi, layL_append, List.length_append, hro]
      simp [layL]
    have hll : (layL (L.take (i + 1))).length ≤ (layL L).length := by
      have : layL L = layL (L.take (i + 1)) ++ layL (L.drop (i + 1)) := by rw [← layL_append, List.take_append_drop]
      rw [this, List.length_append]
      omega
    simp only [nilc_some, fad_mk, pik_true, pik_false, cnd_true, cnd_false, gif_same, gif_tf, gif_ft, gif_undef, bi_add, bi_sub, bi_mul, bi_eql, bi_neq, bi_lss, bi_leq, bi_gtr, bi_geq, notB_bool, cvi_int, lenS_mk, lenT_mk, ext0, ext1, ext2, nilP_mk, nilS_mk, fldv_agg, jn0_k, jn1_k, jn2_k, jn1_and, jn1_or, ex_some, Option.isNone_some, Option.isNone_none, Bool.false_bne, Bool.bne_true, Bool.bne_false, Bool.true_bne, Bool.not_true, Bool.not_false, Bool.and_true, Bool.true_and, Bool.and_false, Bool.false_and, Bool.or_true, Bool.true_or, Bool.or_false, Bool.false_or, cond_true, cond_false, List.getElem?_toArray, List.getElem?_cons_zero, List.getElem?_cons_succ, Nat.zero_add, Nat.add_zero, Nat.reduceAdd, forall_const]
    rw [wi64 (by omega) (by omega), wi64 (by omega) (by omega), show ((layL (L.take i)).length : Int) + (b.1.recO.length : Int) = ((layL (L.take (i + 1))).length : Int) by omega]
    have htl : ((endsOf L).take i).length ≤ 10000 := Nat.le_trans (List.length_take_le _ _) (by omega)
    refine bldN hs8 fun a z2 hz2 => ?_
    refine appN hz2.p2 (Sep.rows hz2) (by omega) fun x' z3 hz3 => ?_
    refine ⟨⟨i + 1, by simp, by omega, rfl, ?_⟩, by simp [RowKit.intOf]; omega⟩
    have he : (endsOf L)[i]? = some ((layL (L.take (i + 1))).length : Int) := by
      unfold endsOf
      rw [List.getElem?_map, List.getElem?_range (by omega)]
      rfl
    have e : (endsOf L).take (i + 1) = (endsOf L).take i ++ [((layL (L.take (i + 1))).length : Int)] := by rw [List.take_add_one, he]; rfl
    rw [e]
    exact Sep.dropR (As := [_]) hz3
  · have hge : i = B2.length := by simp at h; omega
    have hEl := endsOf_len L
    rw [hge, List.take_of_length_le (by omega)] at hs5
    refine drH_S hs5 fun w6 hs6 _ => ?_
    refine efC_cut (cal_i (SameAll_spec (hB1 hs6.fr0) (hB2 hs6.fr0) (by have := congrArg List.length hB; simp at this; omega)) ?_)
    rintro _ w7 ⟨rfl, hf7⟩
    have hs7 := hs6.old hf7
    refine ⟨fun u => Sep w3 u [rows (rInt .i64) x (endsOf L)], hs7, ?_⟩
    rw [decide_eq_true (by rw [hB])]
    simp only [nilc_some, fad_mk, pik_true, pik_false, cnd_true, cnd_false, gif_same, gif_tf, gif_ft, gif_undef, bi_add, bi_sub, bi_mul, bi_eql, bi_neq, bi_lss, bi_leq, bi_gtr, bi_geq, notB_bool, cvi_int, lenS_mk, lenT_mk, ext0, ext1, ext2, nilP_mk, nilS_mk, fldv_agg, jn0_k, jn1_k, jn2_k, jn1_and, jn1_or, ex_some, Option.isNone_some, Option.isNone_none, Bool.false_bne, Bool.bne_true, Bool.bne_false, Bool.true_bne, Bool.not_true, Bool.not_false, Bool.and_true, Bool.true_and, Bool.and_false, Bool.false_and, Bool.or_true, Bool.true_or, Bool.or_false, Bool.false_or, cond_true, cond_false, List.getElem?_toArray, List.getElem?_cons_zero, List.getElem?_cons_succ, Nat.zero_add, Nat.add_zero, Nat.reduceAdd, forall_const, beq_self_eq_true]
    have tell : ∀ {z : World} {K : Value → World → Prop} (k : Nat), k ≤ 2000000 → Sep w3 z [rows (rInt .i64) x (endsOf L)] →
        (∀ r z', Sep w3 z' [rows (rInt .i64) x (endsOf L)] → Rows' (rInt .i64) z'.heap r ((endsOf L).take k) → K r z') →
        efS (fun u => Sep w3 u [rows (rInt .i64) x (endsOf L)]) (cal P f_rec_Ends [v]) z fun t56 z => efS (fun u => Sep w3 u [rows (rInt .i64) x (endsOf L)]) (cal P f_law09_told [t56, .int .i64 k]) z K := fun {z K} k hk hz hK => by
      refine efS_i (cal_i (Ends_spec (hc.fr (hs4.old hz.fr0).fr0) ((hs4.old hz.fr0).rdB hrd) hcd (by omega)) ?_)
      rintro _ z1 ⟨g, y, L', Ds, rfl, hsc', hy1, hz1⟩
      obtain rfl := hsc'.uniq hsc2
      have hz2 := hz.old hz1.fr0
      refine ⟨hz2, ?_⟩
      have hM : ∀ z', Fr [] z1 z' → (∃ T fr, z'.heap[g]? = some (.cells #[y] T fr)) ∧ Rows' (rInt .i64) z'.heap y (endsOf L') := fun z' hf => ⟨⟨_, _, hf.blk (Sep.blk hz1) (by simp)⟩, (Sep.rows hz1.p1).fr hf⟩
      refine efS_i (cal_i (told9_spec (ends1_iter (by omega) hy1) hM (by omega) hk) ?_)
      intro r z3 hz3
      exact ⟨hz2.old hz3.fr0, hK r z3 (hz2.old hz3.fr0) (Sep.rows hz3)⟩
    refine jn1_dup ?_
    refine tell 1048576 (by omega) hs7 fun r8 w8 hs8 hr8 => ?_
    rw [List.take_of_length_le (by omega)] at hr8
    refine efS_i (cal_i (intsEqual_spec hr8 (Sep.rows hs8) (by omega)) ?_)
    rintro _ w9 ⟨rfl, hf9⟩
    have hs9 := hs8.old hf9
    refine ⟨hs9, ?_⟩
    rw [decide_eq_true rfl]
    simp only [nilc_some, fad_mk, pik_true, pik_false, cnd_true, cnd_false, gif_same, gif_tf, gif_ft, gif_undef, bi_add, bi_sub, bi_mul, bi_eql, bi_neq, bi_lss, bi_leq, bi_gtr, bi_geq, notB_bool, cvi_int, lenS_mk, lenT_mk, ext0, ext1, ext2, nilP_mk, nilS_mk, fldv_agg, jn0_k, jn1_k, jn2_k, jn1_and, jn1_or, ex_some, Option.isNone_some, Option.isNone_none, Bool.false_bne, Bool.bne_true, Bool.bne_false, Bool.true_bne, Bool.not_true, Bool.not_false, Bool.and_true, Bool.true_and, Bool.and_false, Bool.false_and, Bool.or_true, Bool.true_or, Bool.or_false, Bool.false_or, cond_true, cond_false, List.getElem?_toArray, List.getElem?_cons_zero, List.getElem?_cons_succ, Nat.zero_add, Nat.add_zero, Nat.reduceAdd, forall_const]
    refine jn1_dup ?_
    have hlx := (Sep.rows hs9).len
    obtain ⟨a, cp, hx, hac⟩ := Sep.formR hs9
    rw [wi64 (by omega) (by omega), hlx]
    obtain ⟨n, hn⟩ : ∃ n : Nat, n = min (endsOf L).length most := ⟨_, rfl⟩
    refine ⟨.int .i64 ((n : Nat) : Int), fun u hu => by rw [min_int]; congr 1; omega, ?_⟩
    change slc 1 x none (some (.int .i64 ((n : Nat) : Int))) _
    rw [hx, slc_to (by omega)]
    rw [hx] at hs9
    rw [hx] at tell
    refine tell most (by omega) hs9 fun r10 w10 hs10 hr10 => ?_
    have hrt := Rows'.take (Sep.rows hs10) (k := n) (by omega) cp
    have e10 : (endsOf L).take n = (endsOf L).take most := by
      by_cases hlt : most ≤ (endsOf L).length
      · rw [show n = most by omega]
      · rw [List.take_of_length_le (by omega), List.take_of_length_le (by omega)]
    rw [e10] at hrt
    refine efS_i (cal_i (intsEqual_spec hr10 hrt (Nat.le_trans (List.length_take_le _ _) (by omega))) ?_)
    rintro _ w11 ⟨rfl, hf11⟩
    refine ⟨hs10.old hf11, ?_⟩
    rw [decide_eq_true rfl]
    simp only [nilc_some, fad_mk, pik_true, pik_false, cnd_true, cnd_false, gif_same, gif_tf, gif_ft, gif_undef, bi_add, bi_sub, bi_mul, bi_eql, bi_neq, bi_lss, bi_leq, bi_gtr, bi_geq, notB_bool, cvi_int, lenS_mk, lenT_mk, ext0, ext1, ext2, nilP_mk, nilS_mk, fldv_agg, jn0_k, jn1_k, jn2_k, jn1_and, jn1_or, ex_some, Option.isNone_some, Option.isNone_none, Bool.false_bne, Bool.bne_true, Bool.bne_false, Bool.true_bne, Bool.not_true, Bool.not_false, Bool.and_true, Bool.true_and, Bool.and_false, Bool.false_and, Bool.or_true, Bool.true_or, Bool.or_false, Bool.false_or, cond_true, cond_false, List.getElem?_toArray, List.getElem?_cons_zero, List.getElem?_cons_succ, Nat.zero_add, Nat.add_zero, Nat.reduceAdd, forall_const]
    exact hR _ _ ⟨rfl, (hs4.old (hs10.old hf11).fr0).fr0⟩
end Go.Fx
namespace Go.Fx
theorem okWide_arr {P : Program} {w : World} {r : Reach} {base n : Nat} {t e : TypeId} {v : Value} (ht : P.underlying t = some (.array n e)) (h : Value.okWide P w r base t v) : ∃ cs, v = .agg cs ∧ cs.size = P.cellsOf t := by
  simp only [Value.okWide, ht] at h
  obtain ⟨cs, h1, h2, _⟩ := h
  exact ⟨cs, h1, h2⟩
end Go.Fx
namespace Go.Proofs.YticmbeincpaaeaaDoor
open Go.ChangeShapes Go.WideShapes Go.ChangeAt Go.RowKit
theorem own : ownKnob Tryd.prog.godebug = none := by kernel_rfl
theorem laidOut : laidOutB Tryd.prog = true := by kernel_rfl
end Go.Proofs.YticmbeincpaaeaaDoor
namespace Go.Proofs.YticmbeincpaaeaaDoor
open Go.ChangeShapes Go.WideShapes Go.ChangeAt Go.RowKit
abbrev laidL : List (String × DataW Unit) := [("flurry/sha.cubes", Rows.laid_flurry_sha_cubes)]
theorem gCubes : Tryd.prog.globalNamed "flurry/sha.cubes" = some 0 := by kernel_rfl
theorem tCubes : (Tryd.prog.globals[0]?).map (·.type) = some Go.Fx.T_a64_uint32 := by kernel_rfl
theorem door_met (os : Os) (args : Array Value) : laidMetH Tryd.prog laidL ((World.doorLaid Tryd.prog 400 os).forCall (fun _ _ => 0) ⟨#[], args, []⟩).memory :=
  laidMetH_of_parts3 (fuel := 8) (laidMet_of_run' 8 (by kernel_rfl) (by kernel_rfl)) (by kernel_rfl) (by kernel_rfl)
theorem cub_of_laid {W : World} (h : laidMetH Tryd.prog laidL W) : Go.Fx.Cub W := by
  rw [MakeChecks.laidMetH_plain _ _ _ (by kernel_rfl)] at h
  obtain ⟨ps, ⟨g0, t0, cs0, f0, p0, q0, hg0, ht0, hv0, hd0, _, _⟩, _, _⟩ := h
  obtain rfl := Option.some.inj (gCubes.symm.trans hg0)
  obtain rfl := Option.some.inj (tCubes.symm.trans ht0)
  have hcs : cs0.toList = Go.Fx.wvs Go.Fx.cubesL := by
    obtain ⟨xs, m1, _, hx1, hlen, hn3, hel⟩ := DataW.trod_array Go.Fx.U_a64_uint32 hd0
    have c1 : Tryd.prog.cellsOf Go.Fx.T_uint32 = 1 := by kernel_rfl
    have c64 : Tryd.prog.cellsOf Go.Fx.T_a64_uint32 = 64 := by kernel_rfl
    rw [c64] at hlen
    rw [c1] at hel
    have hd : (Rows.laid_flurry_sha_cubes : DataW Unit) = .agg (Go.Fx.cubesL.map fun x => .lit (.int .u32 x.toNat)) := by kernel_rfl
    rw [hd] at hx1
    simp only [Prod.mk.injEq, DataW.agg.injEq] at hx1
    apply List.ext_getElem?
    intro i
    by_cases hi : i < 64
    · have h1 := hel i hi
      have hx : xs[i]? = some (xs[i]'(by omega)) := List.getElem?_eq_getElem _
      rw [hx] at h1
      generalize xs[i]'(by omega) = y at *
      obtain ⟨k, e1, e2, _⟩ := DataW.trod_int Go.Fx.U_uint32 h1
      have h2 := congrArg (·[i]?) hx1.1
      simp only [List.getElem?_map, hx, e2, Option.map_some] at h2
      have h3 : cs0.toList[i]? = some (.int .u32 k) := by
        have : ((cs0.toList.drop (i * 1)).take 1)[0]? = some (.int .u32 k) := by rw [e1]; rfl
        rw [List.getElem?_take_of_lt (by omega), List.getElem?_drop, Nat.mul_one, Nat.add_zero] at this
        exact this
      rw [h3, Go.Fx.wvs, List.getElem?_map]
      cases hc : Go.Fx.cubesL[i]? with
      | none => rw [hc] at h2; cases h2
      | some z =>
        rw [hc] at h2
        simp only [Option.map_some, Option.some.injEq, DataW.lit.injEq, Lit.int.injEq, true_and] at h2
        rw [Option.map_some, ← h2]
        rfl
    · rw [List.getElem?_eq_none (by omega), List.getElem?_eq_none (by rw [Go.Fx.wvs, List.length_map]; show 64 ≤ i; omega)]
  have hv1 := hv0
  unfold World.var? at hv1
  rw [hg0] at hv1
  simp only [Option.bind_some] at hv1
  cases hh : W.heap[0]? with
  | none => rw [hh] at hv1; cases hv1
  | some o =>
    rw [hh] at hv1
    cases o with
    | cells cs t fr =>
      simp only [Option.some.injEq] at hv1
      subst hv1
      refine ⟨t, fr, ?_⟩
      rw [hh]
      have : cs = (Go.Fx.wvs Go.Fx.cubesL).toArray := by apply Array.ext'; simpa using hcs
      rw [this]
    | _ => cases hv1
end Go.Proofs.YticmbeincpaaeaaDoor
set_option linter.unusedVariables false
set_option linter.unusedSimpArgs false
namespace Go.Proofs.YticmbeincpaaeaaDoor
open Go.ChangeShapes Go.WideShapes Go.ChangeAt Go.RowKit
set_option maxRecDepth 100000 in
theorem liftedRecScans (os : Os) (started : os.Started) (H : Type) (enc : TypeId × Value → H) :
    ReturnsInHanded {} Tryd.checked os 8 .any (fun w args => (Rows.recScansSpec.pre enc Tryd.prog Tryd.f8 [] false w args ∧ laidMetH Tryd.prog laidL w) ∧ sizedMet enc Tryd.prog Tryd.f8 (OpenSpec.ofChange Rows.recScansSpec) false w args) (Rows.recScansSpec.post enc Tryd.prog Tryd.f8 false true false false) := by
  refine returnsInHanded_of_change_and (C := Tryd.checked) (X := fun w _ => laidMetH Tryd.prog laidL w) (fun _ _ _ hh h => h.of_heap hh) own started (by kernel_rfl) Tryd.func8
    (ChangeSpec.witness_shaped (enc := enc) (C := Tryd.checked) (os := os) (X := fun w _ => laidMetH Tryd.prog laidL w) false (World.doorLaid Tryd.prog 400 os) #[.slice none 0 0, .int .u8 0] 8 rfl (World.shaped_of_RefB (by kernel_rfl) (by kernel_rfl)) (by kernel_rfl) (by kernel_rfl) (by kernel_rfl) (door_met os _)) ?_
  intro W base args ds gs before hval0 hW _ _ hL _
  have hcub : Go.Fx.Cub W := cub_of_laid hL
  have hval : ∀ (j : Nat) t v, Tryd.f8.params[j]? = some t → args[j]? = some v → Value.okWide Tryd.prog W .any base t v := hval0
  have hW' := hW
  obtain ⟨p, q, hA0, hV, rfl, hfz, hnd⟩ := hW
  have hA : DataW.TrodAll enc Tryd.prog W 0 (fun _ => true) true Tryd.f8.params.toList args.toList ds p := hA0
  rw [Tryd.params8] at hA hval
  obtain ⟨v0, vs0, d0, ds0, p0, q0, hargs, rfl, rfl, h0, r0⟩ := trodAll_cons hA
  obtain ⟨v1, vs1, d1, ds1, p1, q1, rfl, rfl, rfl, h1, r1⟩ := trodAll_cons r0
  obtain ⟨rfl, rfl, rfl⟩ := trodAll_nil r1
  obtain rfl : args = #[v0, v1] := by cases args; simp_all
  obtain ⟨rfl, rfl⟩ := trodVars_none hV
  obtain ⟨a0, len0, cap0, rfl⟩ := okWide_slice Tryd.underlying22 (hval 0 22 v0 rfl rfl)
  have k0 := h0
  have lt0 : ∀ x ∈ p0, x.block < W.heap.size := by obtain ⟨m, hm⟩ := k0; exact DataW.trod_lt m _ _ _ hm
  obtain ⟨f0, hf0⟩ := h0
  have hx0 := Go.Fx.O_sl_uint8 hf0
  obtain ⟨l0, rd0⟩ := hx0
  obtain ⟨a1, rfl, rfl, rfl, w1⟩ := open_int Tryd.underlying5 (hval 1 5 v1 rfl rfl) h1
  have b1 := bounds_u8 w1
  obtain ⟨n1, rfl⟩ := Int.eq_ofNat_of_zero_le b1.1
  have b1 : n1 < 256 := by omega
  clear hA0 hval0
  have hcal := Go.Fx.wScans9 hcub rd0 b1
  refine Calls.mono hcal fun e W' ⟨v, he, hv, hf⟩ => ?_
  subst hv
  subst he
  have bel : Below W.heap.size W W' := hf.below (by simp)
  exact ⟨_, rfl, _, _, _, [], _, [], hW', trodAll_mk1 (shut_bool Tryd.underlying4 _), (trodAll_cons_mk (Below.trod laidOut (by kernel_rfl) (of_decide_eq_true (by kernel_rfl)) k0 bel lt0) (trodAll_cons_mk (shut_int Tryd.underlying5 w1) trodAll_mk0)), rfl, bel.frame _, fun h => by cases h⟩
theorem recScans : Rows.RecScansSaid :=
  OpenClaim.holds_of_wide 8 Tryd.f8 rfl rfl rfl rfl rfl rfl rfl ⟨rfl, rfl, rfl, rfl, rfl⟩ rfl rfl rfl rfl rfl (by kernel_rfl) Tryd.func8 (by kernel_rfl)
    (of_decide_eq_true (by kernel_rfl)) (by unfold Func.isWrapper; first | (rw [if_pos (by decide +kernel)]; kernel_rfl) | (rw [if_neg (by decide +kernel)]; exact ⟨rfl, rfl⟩))
    (fun os started H enc _ => liftedRecScans os started H enc)
theorem recScansCard : Rows.RecScansCardSaid :=
  Claim7.holds_tied_plain_at .later [] [.data] true (true, "bb9c1364597871603d95cfddfe7b315348b26bfb2b78f6173ee216c080d1f38e") false
    recScans (fun _ h => by cases h) (by kernel_rfl) (fun _ h => by cases h) recScans_row_tie rfl ⟨rfl, rfl⟩ (by kernel_rfl) rfl
    (fun f fn hf hfn => by
      obtain rfl : f = 8 := Option.some.inj ((show Tryd.prog.funcNamed "flurry/flurrylaw09.RecScans" = some 8 by kernel_rfl).symm.trans hf) |>.symm
      obtain rfl : fn = Tryd.f8 := (Option.some.inj (Tryd.func8.symm.trans hfn)).symm
      exact ⟨by kernel_rfl, fun j t ht => by
        rw [Tryd.params8] at ht
        have hm : t ∈ [22, 5] := by simpa using Array.mem_of_getElem? ht
        have hall : ([22, 5].all fun u => !Tryd.prog.wantsStandIn u) = true := by kernel_rfl
        exact (show Tryd.prog.wantsStandIn t = false by simpa using List.all_eq_true.1 hall t hm)⟩)
    (by kernel_rfl)
#print axioms recScansCard
end Go.Proofs.YticmbeincpaaeaaDoor
