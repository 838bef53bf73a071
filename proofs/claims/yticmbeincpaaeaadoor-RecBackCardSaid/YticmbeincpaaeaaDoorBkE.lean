/-
  The block of bytes: the program's and the document's.
-/
import Derived.Test.YticmbeincpaaeaaDoorBkD
set_option linter.unusedVariables false
set_option linter.unusedSimpArgs false
namespace Go.Fx
theorem notOk {l : List UInt8} (h : ¬ okP l) : parse l = Blk.none ∧ parseE l = 30 := by rw [parse, parseE, if_neg h, if_neg h]; exact ⟨rfl, rfl⟩
def R1 (l : List UInt8) := tk 2 l 0
def R2 (l : List UInt8) := tk 32 (R1 l).2.1 (R1 l).2.2
def R3 (l : List UInt8) := tk 8 (R2 l).2.1 (R2 l).2.2
def R4 (l : List UInt8) := ct 200 (R3 l).2.1 (R3 l).2.2
theorem run_good {l : List UInt8} (h : uend (R4 l).2.1 (R4 l).2.2 = 0) : ∃ (a p x n d : List UInt8), l = a ++ (p ++ (x ++ (n ++ d))) ∧ a.length = 2 ∧ p.length = 32 ∧ x.length = 8 ∧ n.length = 4 ∧ ofBe n = d.length ∧ d.length ≤ 200 ∧
    (R1 l).1 = a ∧ (R2 l).1 = p ∧ (R3 l).1 = x ∧ (R4 l).1 = d := by
  obtain ⟨h4, hnil⟩ := uend_ok h
  obtain ⟨h3, hl4, hm, hk, e4⟩ := ct_ok (show (ct 200 (R3 l).2.1 (R3 l).2.2).2.2 = 0 from h4)
  obtain ⟨h2, hl3, e3⟩ := tk_ok (show (tk 8 (R2 l).2.1 (R2 l).2.2).2.2 = 0 from h3)
  obtain ⟨h1, hl2, e2⟩ := tk_ok (show (tk 32 (R1 l).2.1 (R1 l).2.2).2.2 = 0 from h2)
  obtain ⟨_, hl1, e1⟩ := tk_ok (show (tk 2 l 0).2.2 = 0 from h1)
  have E1 : R1 l = (l.take 2, l.drop 2, 0) := e1
  have E2 : R2 l = _ := e2
  rw [E1] at E2 hl2
  have E3 : R3 l = _ := e3
  rw [E2] at E3 hl3
  have E4 : R4 l = _ := e4
  rw [E3] at E4 hl4 hk hm
  rw [E4] at hnil
  simp only [List.length_drop, List.drop_drop] at *
  have h46 : 46 ≤ l.length := by omega
  obtain ⟨a, p, x, n, d, hl, ha, hp, hx, hn⟩ := cut46 h46
  subst hl
  have d1 : (a ++ (p ++ (x ++ (n ++ d)))).drop 2 = p ++ (x ++ (n ++ d)) := List.drop_left' ha
  have d2 : (a ++ (p ++ (x ++ (n ++ d)))).drop (2 + 32) = x ++ (n ++ d) := by rw [← List.drop_drop, d1, List.drop_left' hp]
  have d3 : (a ++ (p ++ (x ++ (n ++ d)))).drop (2 + 32 + 8) = n ++ d := by rw [← List.drop_drop, d2, List.drop_left' hx]
  have d4 : (a ++ (p ++ (x ++ (n ++ d)))).drop (2 + 32 + 8 + 4) = d := by rw [← List.drop_drop, d3, List.drop_left' hn]
  rw [d3, List.take_left' hn] at hm hk hnil
  have hdl : d.length ≤ ofBe n := by
    have := congrArg List.length hnil
    simp only [List.length_drop, List.length_append, List.length_nil] at this
    omega
  simp only [List.length_append] at hk
  have hnd : ofBe n = d.length := by omega
  refine ⟨a, p, x, n, d, rfl, ha, hp, hx, hn, hnd, by omega, ?_, ?_, ?_, ?_⟩
  · rw [E1]; exact List.take_left' ha
  · rw [E2, d1]; exact List.take_left' hp
  · rw [E3, d2]; exact List.take_left' hx
  · rw [E4, d4, d3, List.take_left' hn]
    exact List.take_of_length_le (by omega)
theorem run_bad {l : List UInt8} (h : uend (R4 l).2.1 (R4 l).2.2 ≠ 0) : ¬ okP l := fun hok => by
  have hlen := hok.len
  obtain ⟨a, p, x, n, d, hl, ha, hp, hx, hn⟩ := cut46 hok.1
  subst hl
  obtain ⟨h1, h2, h3, h4⟩ := (okP_cut ha hp hx hn).1 hok
  apply h
  simp only [List.length_append] at hlen
  have E1 : R1 (a ++ (p ++ (x ++ (n ++ d)))) = (a, p ++ (x ++ (n ++ d)), 0) := tk_app ha
  have E2 : R2 (a ++ (p ++ (x ++ (n ++ d)))) = (p, x ++ (n ++ d), 0) := by rw [R2, E1]; exact tk_app hp
  have E3 : R3 (a ++ (p ++ (x ++ (n ++ d)))) = (x, n ++ d, 0) := by rw [R3, E2]; exact tk_app hx
  have E4 : R4 (a ++ (p ++ (x ++ (n ++ d)))) = (d, [], 0) := by rw [R4, E3]; exact ct_app hn h2 (by omega)
  rw [E4]
  rfl
theorem tk_rest (n : Nat) (b : List UInt8) (e : Int) : (tk n b e).2.1.length ≤ b.length := by unfold tk; split <;> (try split) <;> simp
section
variable {w0 w : World} {As : List Asn} {v : Value} {l : List UInt8}
theorem Parse_spec (hb : RdB w.heap v l) : cal P f_block_Parse [v] w fun r w' => ∃ v', r = .tuple #[bq (parse l) v', .int .i64 (parseE l)] ∧ Sep w w' [ownB v' (parse l).d] := by
  refine s_block_Parse fun R hR => ?_
  unfold c_block_Parse
  refine alloc_s (Sep.start w) (A_api_Block w) fun g2 w1 hs => ?_
  have bad : ¬ okP l → ∀ {w2 : World} {As}, Sep w w2 (blk g2 (Rdr.cells Q_api_Block (vz 32, (0 : Int), Value.slice none 0 0)).toArray T_api_Block :: As) → stN 34 (.pointer (some ⟨g2, 0, none⟩)) (bq Blk.none (.slice none 0 0)) w2 fun w => ldN 34 (.pointer (some ⟨g2, 0, none⟩)) w.heap fun r1 => R (.tuple #[r1, .int .i64 30]) w := fun hn w2 As hs => by
    rw [(notOk hn).1, (notOk hn).2] at hR
    refine St_api_Block hs (one_api_Block rfl) fun w6 hs6 => ?_
    simp only [L_api_Block hs6.blk, L_api_Block__Parent hs6.blk, L_api_Block__Height hs6.blk, L_api_Block__Data hs6.blk]
    refine hR _ _ ⟨_, rfl, ?_⟩
    exact (Sep.start w).old hs6.fr0 |>.nil
  have hlv := hb.len
  simp only [nilc_some, fad_mk, pik_true, pik_false, cnd_true, cnd_false, gif_same, gif_tf, gif_ft, gif_undef, bi_add, bi_sub, bi_mul, bi_eql, bi_neq, bi_lss, bi_leq, bi_gtr, bi_geq, notB_bool, cvi_int, lenS_mk, lenT_mk, ext0, ext1, ext2, nilP_mk, nilS_mk, fldv_agg, jn0_k, jn1_k, jn2_k, jn1_and, jn1_or, ex_some, Option.isNone_some, Option.isNone_none, Bool.false_bne, Bool.bne_true, Bool.bne_false, Bool.true_bne, Bool.not_true, Bool.not_false, Bool.and_true, Bool.true_and, Bool.and_false, Bool.false_and, Bool.or_true, Bool.true_or, Bool.or_false, Bool.false_or, cond_true, cond_false, List.getElem?_toArray, List.getElem?_cons_zero, List.getElem?_cons_succ, Nat.zero_add, Nat.add_zero, Nat.reduceAdd, forall_const, hlv, B_api_Block]
  rw [cnd_bool]
  refine ⟨fun h => ?_, fun h => ?_⟩
  · have h : 246 < l.length := by simp at h; omega
    exact bad (fun hk => by have := hk.len; omega) hs
  · have h : l.length ≤ 246 := by simp at h; omega
    refine cal_i (ReadS (hs.rdB hb) (by omega)) ?_
    rintro _ w2 ⟨g, s1, rfl, hs2⟩
    replace hs2 := hs.join hs2
    refine cal_i (uShortS hs2) ?_
    rintro v3 w3 ⟨hv3, s3, hs3⟩
    obtain rfl : v3 = .int .u16 ((ofBe (R1 l).1 : Nat) : Int) := hv3
    refine cal_i (uFixedS (n := 32) hs3 (by omega)) ?_
    rintro v4 w4 ⟨s4, hs4⟩
    replace hs4 := hs4.q2
    refine cal_i (uLongS hs4) ?_
    rintro v5 w5 ⟨hv5, s5, hs5⟩
    obtain rfl : v5 = .int .u64 ((ofBe (R3 l).1 : Nat) : Int) := hv5
    have hl3 : (R3 l).2.1.length ≤ 246 := Nat.le_trans (tk_rest _ _ _) (Nat.le_trans (tk_rest _ _ _) (Nat.le_trans (tk_rest _ _ _) h))
    refine cal_i (uBytesS (n := 200) hs5 (by omega) (Nat.le_trans hl3 (by omega))) ?_
    rintro v6 w6 ⟨s6, hs6⟩
    replace hs6 : Sep w w6 (ownB v6 (R4 l).1 :: uk g s6 (R4 l).2.2 :: ownB s6 (R4 l).2.1 :: ownB v4 (R2 l).1 :: blk g2 (Rdr.cells Q_api_Block (vz 32, (0 : Int), Value.slice none 0 0)).toArray T_api_Block :: []) := hs6
    refine cal_i (EndS hs6.q2) ?_
    rintro _ _ ⟨rfl, rfl⟩
    by_cases hu : uend (R4 l).2.1 (R4 l).2.2 = 0
    · obtain ⟨a, p, x, n, d, rfl, ha, hp, hx, hn, hnd, hd, e1, e2, e3, e4⟩ := run_good hu
      have hiff := okP_cut (d := d) ha hp hx hn
      have hpb := parB_cut (d := d) ha hp hx hn
      rw [e2, e4] at hs6
      generalize a ++ (p ++ (x ++ (n ++ d))) = l at *
      have hxl := ofBe_lt x
      rw [hx] at hxl
      simp only [hu, e1, e3, nilc_some, fad_mk, pik_true, pik_false, cnd_true, cnd_false, gif_same, gif_tf, gif_ft, gif_undef, bi_add, bi_sub, bi_mul, bi_eql, bi_neq, bi_lss, bi_leq, bi_gtr, bi_geq, notB_bool, cvi_int, lenS_mk, lenT_mk, ext0, ext1, ext2, nilP_mk, nilS_mk, fldv_agg, jn0_k, jn1_k, jn2_k, jn1_and, jn1_or, ex_some, Option.isNone_some, Option.isNone_none, Bool.false_bne, Bool.bne_true, Bool.bne_false, Bool.true_bne, Bool.not_true, Bool.not_false, Bool.and_true, Bool.true_and, Bool.and_false, Bool.false_and, Bool.or_true, Bool.true_or, Bool.or_false, Bool.false_or, cond_true, cond_false, List.getElem?_toArray, List.getElem?_cons_zero, List.getElem?_cons_succ, Nat.zero_add, Nat.add_zero, Nat.reduceAdd, forall_const, show ((0 : Int) != 0) = false from rfl]
      by_cases hv : ofBe a = 0
      · simp only [hv, nilc_some, fad_mk, pik_true, pik_false, cnd_true, cnd_false, gif_same, gif_tf, gif_ft, gif_undef, bi_add, bi_sub, bi_mul, bi_eql, bi_neq, bi_lss, bi_leq, bi_gtr, bi_geq, notB_bool, cvi_int, lenS_mk, lenT_mk, ext0, ext1, ext2, nilP_mk, nilS_mk, fldv_agg, jn0_k, jn1_k, jn2_k, jn1_and, jn1_or, ex_some, Option.isNone_some, Option.isNone_none, Bool.false_bne, Bool.bne_true, Bool.bne_false, Bool.true_bne, Bool.not_true, Bool.not_false, Bool.and_true, Bool.true_and, Bool.and_false, Bool.false_and, Bool.or_true, Bool.true_or, Bool.or_false, Bool.false_or, cond_true, cond_false, List.getElem?_toArray, List.getElem?_cons_zero, List.getElem?_cons_succ, Nat.zero_add, Nat.add_zero, Nat.reduceAdd, forall_const, Int.natCast_zero, show ((0 : Int) != 0) = false from rfl]
        rw [cnd_bool]
        refine ⟨fun hh => ?_, fun hh => ?_⟩
        · have hh : 9223372036854775807 < (ofBe x : Int) := by simpa using hh
          exact bad (fun hk => by have := (hiff.1 hk).2.2.1; unfold maxI at this; omega) hs6.p4
        · have hh : (ofBe x : Int) ≤ maxI := by unfold maxI; simpa using hh
          rw [wi64 (by omega) (by unfold maxI at hh; omega), B_api_Block_1_2 (Sep.one hs6)]
          refine alloc_s hs6 (A_api_Block _) fun g7 w7 hs7 => ?_
          refine St_api_Block hs7 (one_api_Block (Sep.one hs7.p1)) fun w8 hs8 => ?_
          simp only [nilc_some, fad_mk, pik_true, pik_false, cnd_true, cnd_false, gif_same, gif_tf, gif_ft, gif_undef, bi_add, bi_sub, bi_mul, bi_eql, bi_neq, bi_lss, bi_leq, bi_gtr, bi_geq, notB_bool, cvi_int, lenS_mk, lenT_mk, ext0, ext1, ext2, nilP_mk, nilS_mk, fldv_agg, jn0_k, jn1_k, jn2_k, jn1_and, jn1_or, ex_some, Option.isNone_some, Option.isNone_none, Bool.false_bne, Bool.bne_true, Bool.bne_false, Bool.true_bne, Bool.not_true, Bool.not_false, Bool.and_true, Bool.true_and, Bool.and_false, Bool.false_and, Bool.or_true, Bool.true_or, Bool.or_false, Bool.false_or, cond_true, cond_false, List.getElem?_toArray, List.getElem?_cons_zero, List.getElem?_cons_succ, Nat.zero_add, Nat.add_zero, Nat.reduceAdd, forall_const, sla_all]
          refine Fld.cpy (r := Q_api_Block) (Fld.fst Fld.self) S_sl_uint8 hs8 (Sep.rd hs8.p4) hp fun w9 hs9 => ?_
          obtain ⟨b, hbb⟩ : ∃ b, b = parB l := ⟨_, rfl⟩
          have hb1 : b = ⟨⟨p, hp⟩, ofBe x, d⟩ := by rw [hbb, hpb]
          have e5 : Rdr.cells Q_api_Block ((⟨p, hp⟩ : Vec 32), ((ofBe x : Nat) : Int), v6) = Rdr.cells Q_api_Block (b.p, b.h, v6) := by rw [hb1]
          have hs9' : Sep w w9 (blk g7 (Rdr.cells Q_api_Block (b.p, b.h, v6)).toArray T_api_Block :: ownB v6 d :: uk g s6 (R4 l).2.2 :: ownB s6 (R4 l).2.1 :: ownB v4 p :: blk g2 (Rdr.cells Q_api_Block (vz 32, (0 : Int), Value.slice none 0 0)).toArray T_api_Block :: []) := by rw [← e5]; exact hs9
          have hbd : b.d = d := by rw [hb1]
          simp only [L_api_Block hs9'.blk, L_api_Block__Parent hs9'.blk, L_api_Block__Height hs9'.blk, L_api_Block__Data hs9'.blk]
          refine cal_i (made_spec (b := b) (by rw [hbd]; exact Sep.rd hs9'.p1)) ?_
          rintro _ w10 ⟨v', rfl, hs10⟩
          replace hs10 := (hs9'.join hs10).pick [6, 0] 7
          simp only [nilc_some, fad_mk, pik_true, pik_false, cnd_true, cnd_false, gif_same, gif_tf, gif_ft, gif_undef, bi_add, bi_sub, bi_mul, bi_eql, bi_neq, bi_lss, bi_leq, bi_gtr, bi_geq, notB_bool, cvi_int, lenS_mk, lenT_mk, ext0, ext1, ext2, nilP_mk, nilS_mk, fldv_agg, jn0_k, jn1_k, jn2_k, jn1_and, jn1_or, ex_some, Option.isNone_some, Option.isNone_none, Bool.false_bne, Bool.bne_true, Bool.bne_false, Bool.true_bne, Bool.not_true, Bool.not_false, Bool.and_true, Bool.true_and, Bool.and_false, Bool.false_and, Bool.or_true, Bool.true_or, Bool.or_false, Bool.false_or, cond_true, cond_false, List.getElem?_toArray, List.getElem?_cons_zero, List.getElem?_cons_succ, Nat.zero_add, Nat.add_zero, Nat.reduceAdd, forall_const]
          refine St_api_Block hs10 (one_api_Block (Sep.one hs10.p1)) fun w11 hs11 => ?_
          simp only [L_api_Block hs11.blk, L_api_Block__Parent hs11.blk, L_api_Block__Height hs11.blk, L_api_Block__Data hs11.blk]
          have hp1 : parse l = b.mk' := by
            rw [hbb]
            by_cases hk : okP l
            · rw [parse, if_pos hk, Blk.mk', if_pos hk.2.2.1]
            · have : ¬ (parB l).chk = 0 := fun hc => hk (hiff.2 ⟨hv, hnd, hh, by rw [← hpb]; exact hc⟩)
              rw [parse, if_neg hk, Blk.mk', if_neg this]
          have hp2 : parseE l = b.chk := by
            rw [hbb]
            by_cases hk : okP l
            · rw [parseE, if_pos hk, hk.2.2.1]
            · have : ¬ (parB l).chk = 0 := fun hc => hk (hiff.2 ⟨hv, hnd, hh, by rw [← hpb]; exact hc⟩)
              rw [parseE, if_neg hk]
              rcases Blk.chk_or (parB l) with h0 | h0
              · exact absurd h0 this
              · exact h0.symm
          rw [hp1, hp2] at hR
          exact hR _ _ ⟨v', rfl, hs11.tail⟩
      · have e5 : (((ofBe a : Nat) : Int) != 0) = true := by simpa using hv
        simp only [e5, nilc_some, fad_mk, pik_true, pik_false, cnd_true, cnd_false, gif_same, gif_tf, gif_ft, gif_undef, bi_add, bi_sub, bi_mul, bi_eql, bi_neq, bi_lss, bi_leq, bi_gtr, bi_geq, notB_bool, cvi_int, lenS_mk, lenT_mk, ext0, ext1, ext2, nilP_mk, nilS_mk, fldv_agg, jn0_k, jn1_k, jn2_k, jn1_and, jn1_or, ex_some, Option.isNone_some, Option.isNone_none, Bool.false_bne, Bool.bne_true, Bool.bne_false, Bool.true_bne, Bool.not_true, Bool.not_false, Bool.and_true, Bool.true_and, Bool.and_false, Bool.false_and, Bool.or_true, Bool.true_or, Bool.or_false, Bool.false_or, cond_true, cond_false, List.getElem?_toArray, List.getElem?_cons_zero, List.getElem?_cons_succ, Nat.zero_add, Nat.add_zero, Nat.reduceAdd, forall_const]
        exact bad (fun hk => hv (hiff.1 hk).1) hs6.p4
    · have e5 : (uend (R4 l).2.1 (R4 l).2.2 != 0) = true := by simpa using hu
      simp only [e5, nilc_some, fad_mk, pik_true, pik_false, cnd_true, cnd_false, gif_same, gif_tf, gif_ft, gif_undef, bi_add, bi_sub, bi_mul, bi_eql, bi_neq, bi_lss, bi_leq, bi_gtr, bi_geq, notB_bool, cvi_int, lenS_mk, lenT_mk, ext0, ext1, ext2, nilP_mk, nilS_mk, fldv_agg, jn0_k, jn1_k, jn2_k, jn1_and, jn1_or, ex_some, Option.isNone_some, Option.isNone_none, Bool.false_bne, Bool.bne_true, Bool.bne_false, Bool.true_bne, Bool.not_true, Bool.not_false, Bool.and_true, Bool.true_and, Bool.and_false, Bool.false_and, Bool.or_true, Bool.true_or, Bool.or_false, Bool.false_or, cond_true, cond_false, List.getElem?_toArray, List.getElem?_cons_zero, List.getElem?_cons_succ, Nat.zero_add, Nat.add_zero, Nat.reduceAdd, forall_const]
      exact bad (run_bad hu) hs6.p4
end
end Go.Fx
