/-
  The block of bytes: the document's.
-/
import Derived.Test.YticmbeincpaaeaaDoorBkE
set_option linter.unusedVariables false
set_option linter.unusedSimpArgs false
namespace Go.Fx
section
variable {w0 w : World} {As : List Asn} {v : Value} {l : List UInt8}
/-- The cells of a name, so far. -/
theorem part_par {p : Vec 32} {i : Nat} : (part p.1 i).length = 32 ∨ 32 < i := by
  rcases Nat.lt_or_ge 32 i with h | h
  · exact .inr h
  · left; rw [part_len _ (by rw [p.2]; exact h), p.2]
theorem rParse_spec (hb : RdB w.heap v l) (hcap : capOk v) (hln : l.length ≤ 9223372036854775807) : cal P f_ref03_Parse [v] w fun r w' => ∃ v', r = .tuple #[bq (parse l) v', .int .i64 (parseE l)] ∧ Sep w w' [ownB v' (parse l).d] := by
  refine s_ref03_Parse fun R hR => ?_
  unfold c_ref03_Parse
  refine alloc_s (Sep.start w) (A_api_Block w) fun g2 w1 hs => ?_
  have bad : ¬ okP l → ∀ {w2 : World} {As}, Sep w w2 (blk g2 (Rdr.cells Q_api_Block (vz 32, (0 : Int), Value.slice none 0 0)).toArray T_api_Block :: As) → stN 34 (.pointer (some ⟨g2, 0, none⟩)) (bq Blk.none (.slice none 0 0)) w2 fun w => ldN 34 (.pointer (some ⟨g2, 0, none⟩)) w.heap fun r1 => R (.tuple #[r1, .int .i64 30]) w := fun hn w2 As hs => by
    rw [(notOk hn).1, (notOk hn).2] at hR
    refine St_api_Block hs (one_api_Block rfl) fun w6 hs6 => ?_
    simp only [L_api_Block hs6.blk, L_api_Block__Parent hs6.blk, L_api_Block__Height hs6.blk, L_api_Block__Data hs6.blk]
    refine hR _ _ ⟨_, rfl, ?_⟩
    exact (Sep.start w).old hs6.fr0 |>.nil
  have hlv := hb.len
  simp only [nilc_some, fad_mk, pik_true, pik_false, cnd_true, cnd_false, gif_same, gif_tf, gif_ft, gif_undef, bi_add, bi_sub, bi_mul, bi_eql, bi_neq, bi_lss, bi_leq, bi_gtr, bi_geq, notB_bool, cvi_int, lenS_mk, lenT_mk, ext0, ext1, ext2, nilP_mk, nilS_mk, fldv_agg, jn0_k, jn1_k, jn2_k, jn1_and, jn1_or, ex_some, Option.isNone_some, Option.isNone_none, Bool.false_bne, Bool.bne_true, Bool.bne_false, Bool.true_bne, Bool.not_true, Bool.not_false, Bool.and_true, Bool.true_and, Bool.and_false, Bool.false_and, Bool.or_true, Bool.true_or, Bool.or_false, Bool.false_or, cond_true, cond_false, List.getElem?_toArray, List.getElem?_cons_zero, List.getElem?_cons_succ, Nat.zero_add, Nat.add_zero, Nat.reduceAdd, forall_const, hlv, B_api_Block]
  rw [cnd_bool]
  refine ⟨fun h => ?_, fun h => ?_⟩
  · have h : l.length < 46 := by simp at h; omega
    exact bad (fun hk => by have := hk.1; omega) hs
  have h : 46 ≤ l.length := by simp at h; omega
  obtain ⟨av, cv, rfl⟩ := hb.form
  have hcv : l.length ≤ cv := hcap _ _ _ rfl
  obtain ⟨x, hxx⟩ : ∃ x, x = (l.drop 34).take 8 := ⟨_, rfl⟩
  obtain ⟨hw, hhw⟩ : ∃ hw, hw = IntKind.i64.wrap ((ofBe x : Nat) : Int) := ⟨_, rfl⟩
  obtain ⟨u, huu⟩ : ∃ u, u = Value.slice (if cv = 46 then av else av.map (·.add (46 * 1))) (l.length - 46) (cv - 46) := ⟨_, rfl⟩
  have hu : ∀ z : World, RdB z.heap (.slice av l.length cv) l → RdB z.heap u (l.drop 46) := fun z hz => by rw [huu]; exact hz.drop h hcv (cv - 46)
  have hu1 : u.oneCell' = true := by rw [huu]; split <;> rfl
  refine drH_T hs fun w2 hs2 _ => ?_
  refine ⟨fun t w' => ∃ g4, t = .pointer (some ⟨g4, 0, none⟩) ∧ Sep w w' (blk g4 (Rdr.cells Q_api_Block (vz 32, hw, u)).toArray T_api_Block :: blk g2 (Rdr.cells Q_api_Block (vz 32, (0 : Int), Value.slice none 0 0)).toArray T_api_Block :: []), ?_, ?_⟩
  · change slc 1 _ _ _ _
    rw [show (Value.int .i64 34) = .int .i64 ((34 : Nat) : Int) from rfl, show (Value.int .i64 42) = .int .i64 ((42 : Nat) : Int) from rfl, slc_mid (by omega) (by omega), show (Value.int .i64 46) = .int .i64 ((46 : Nat) : Int) from rfl, slc_from h, ← huu]
    have hv : ∀ {z : World} {As}, Sep w z As → RdB z.heap (Value.slice (if cv = 34 then av else av.map (·.add (34 * 1))) (42 - 34) (cv - 34)) x := fun {z As} hz => by
      rw [hxx]
      exact ((hz.rdB hb).drop (k := 34) (by omega) hcv (cv - 34)).take (k := 8) (by omega) (cv - 34)
    have hx8 : x.length = 8 := by rw [hxx]; simp; omega
    refine ⟨efC_calT (cal_i (rVal_spec (hv hs2) (by omega)) ?_), efS_i (alloc_s hs2 (A_api_Block w2) fun g4 w3 hs3 => ⟨trivial, efC_calT (cal_i (rVal_spec (hv hs3) (by omega)) ?_)⟩), trivial⟩
    · rintro _ _ ⟨rfl, rfl⟩
      rw [cvi_int, ← hhw]
      refine ⟨_, fun z _ => (B_api_Block_1_2 hu1 _).mpr rfl, ?_⟩
      refine efS_i (alloc_s hs2 (A_api_Block w2) fun g4 w3 hs3 => ⟨trivial, ?_⟩)
      refine efC_stN (St_api_Block hs3 (one_api_Block hu1) fun w4 hs4 => ⟨g4, rfl, hs4⟩)
    · rintro _ _ ⟨rfl, rfl⟩
      rw [cvi_int, ← hhw]
      refine ⟨_, fun z _ => (B_api_Block_1_2 hu1 _).mpr rfl, ?_⟩
      refine efC_stN (St_api_Block hs3 (one_api_Block hu1) fun w4 hs4 => ⟨g4, rfl, hs4⟩)
  · rintro _ w3 ⟨g4, rfl, hs3⟩ _
    obtain ⟨p, hpp⟩ : ∃ p, p = vec32 (l.drop 2) := ⟨_, rfl⟩
    have hpv : p.1 = (l.drop 2).take 32 := by rw [hpp]; exact vec32_of (by simp; omega)
    have hpl := p.2
    have pv : ∀ i, i ≤ 32 → ∃ q : Vec 32, q.1 = part p.1 i := fun i hi => ⟨⟨part p.1 i, by rw [part_len _ (by omega), hpl]⟩, rfl⟩
    refine ⟨fun y w' => ∃ (i : Nat) (q : Vec 32), y = .int .i64 i ∧ i ≤ 32 ∧ q.1 = part p.1 i ∧ Sep w w' (blk g4 (Rdr.cells Q_api_Block (q, hw, u)).toArray T_api_Block :: blk g2 (Rdr.cells Q_api_Block (vz 32, (0 : Int), Value.slice none 0 0)).toArray T_api_Block :: []),
      fun y _ => (32 - RowKit.intOf y).toNat, ⟨0, vz 32, rfl, by omega, by rw [part_zero, hpl]; rfl, hs3⟩, ?_⟩
    rintro _ w4 ⟨i, q, rfl, hi, hq, hs4⟩ -
    simp only [nilc_some, fad_mk, pik_true, pik_false, cnd_true, cnd_false, gif_same, gif_tf, gif_ft, gif_undef, bi_add, bi_sub, bi_mul, bi_eql, bi_neq, bi_lss, bi_leq, bi_gtr, bi_geq, notB_bool, cvi_int, lenS_mk, lenT_mk, ext0, ext1, ext2, nilP_mk, nilS_mk, fldv_agg, jn0_k, jn1_k, jn2_k, jn1_and, jn1_or, ex_some, Option.isNone_some, Option.isNone_none, Bool.false_bne, Bool.bne_true, Bool.bne_false, Bool.true_bne, Bool.not_true, Bool.not_false, Bool.and_true, Bool.true_and, Bool.and_false, Bool.false_and, Bool.or_true, Bool.true_or, Bool.or_false, Bool.false_or, cond_true, cond_false, List.getElem?_toArray, List.getElem?_cons_zero, List.getElem?_cons_succ, Nat.zero_add, Nat.add_zero, Nat.reduceAdd, forall_const]
    rw [cnd_bool]
    refine ⟨fun hlt => ?_, fun hlt => ?_⟩
    · have h32 : i < 32 := by simp at hlt; omega
      have e : IntKind.i64.wrap (2 + (i : Int)) = ((2 + i : Nat) : Int) := by rw [wi64 (by omega) (by omega)]; omega
      rw [e]
      refine ldxB (hs4.rdB hb) (by omega) ?_
      rw [ixa_w .i64 h32]
      have hby : p.1[i]? = some (l[2 + i]'(by omega)) := by
        rw [hpv, List.getElem?_take_of_lt h32, List.getElem?_drop, List.getElem?_eq_getElem (by omega)]
      obtain ⟨q', hq'⟩ := pv (i + 1) (by omega)
      have e1 : Rdr.cells Q_api_Block (q, hw, u) = bvs (part p.1 i) ++ [.int .i64 hw, u] := by rw [← hq]; rfl
      have e2 : Rdr.cells Q_api_Block (q', hw, u) = bvs (part p.1 (i + 1)) ++ [.int .i64 hw, u] := by rw [← hq']; rfl
      rw [e1] at hs4
      have hpi := part_len p.1 (i := i) (by omega)
      refine st1_s hs4 (by simp [bvs]; omega) rfl fun w5 hs5 => ?_
      have e3 : (bvs (part p.1 i) ++ [.int .i64 hw, u]).toArray.setIfInBounds i (bv (l[2 + i]'(by omega))) = (Rdr.cells Q_api_Block (q', hw, u)).toArray := by
        rw [e2, ← part_set hby]
        apply Array.ext'
        simp only [Array.toList_setIfInBounds]
        rw [List.set_append_left _ _ (by simp [bvs]; omega)]
        simp [bvs, List.map_set]
      rw [e3] at hs5
      rw [wi64 (by omega) (by omega)]
      exact ⟨⟨i + 1, q', by simp, by omega, hq', hs5⟩, by simp [RowKit.intOf]; omega⟩
    · have h32 : i = 32 := by simp at hlt; omega
      subst h32
      have hqp : q = p := by
        apply Subtype.ext
        rw [hq]
        have := part_all (o := p.1)
        rwa [hpl] at this
      subst hqp
      obtain ⟨b, hbb⟩ : ∃ b : Blk, b = ⟨q, hw, l.drop 46⟩ := ⟨_, rfl⟩
      have e1 : Rdr.cells Q_api_Block (q, hw, u) = Rdr.cells Q_api_Block (b.p, b.h, u) := by rw [hbb]
      have hbd : b.d = l.drop 46 := by rw [hbb]
      have hbh : b.h = hw := by rw [hbb]
      rw [e1] at hs4
      have hhm : hw ≤ maxI := by
        have hxl := ofBe_lt x
        have hx8 : x.length = 8 := by rw [hxx]; simp; omega
        rw [hx8] at hxl
        rw [hhw, IntKind.wrap_i64]
        unfold maxI
        omega
      have hrd : ∀ {z : World} {As}, Sep w z As → RdB z.heap u b.d := fun {z As} hz => by rw [hbd]; exact hu _ (hz.rdB hb)
      simp only [L_api_Block hs4.blk, L_api_Block__Parent hs4.blk, L_api_Block__Height hs4.blk, L_api_Block__Data hs4.blk]
      refine cal_i (rbBytes_spec (b := b) (hrd hs4) (by rw [hbh]; exact hhm)) ?_
      rintro _ w5 ⟨s5, rfl, hs5⟩
      replace hs5 := hs4.join hs5
      simp only [nilc_some, fad_mk, pik_true, pik_false, cnd_true, cnd_false, gif_same, gif_tf, gif_ft, gif_undef, bi_add, bi_sub, bi_mul, bi_eql, bi_neq, bi_lss, bi_leq, bi_gtr, bi_geq, notB_bool, cvi_int, lenS_mk, lenT_mk, ext0, ext1, ext2, nilP_mk, nilS_mk, fldv_agg, jn0_k, jn1_k, jn2_k, jn1_and, jn1_or, ex_some, Option.isNone_some, Option.isNone_none, Bool.false_bne, Bool.bne_true, Bool.bne_false, Bool.true_bne, Bool.not_true, Bool.not_false, Bool.and_true, Bool.true_and, Bool.and_false, Bool.false_and, Bool.or_true, Bool.true_or, Bool.or_false, Bool.false_or, cond_true, cond_false, List.getElem?_toArray, List.getElem?_cons_zero, List.getElem?_cons_succ, Nat.zero_add, Nat.add_zero, Nat.reduceAdd, forall_const]
      -- whether it may be
      have hokh : okP l → b = parB l := fun hk => by
        have h2 := hk.2.1
        rw [hbb, parB, hhw, hxx, hpp]
        congr 1
        exact wi64 (by omega) h2
      have hbok : b.chk = 0 → b.bytes = l → okP l := fun hc he => by
        have hck := Blk.chk_ok hc
        have := (parse_bytes hc (by rw [hbh]; exact hhm)).1
        rwa [he] at this
      rcases Blk.chk_or b with h0 | h0
      · have hck := Blk.chk_ok h0
        have ho : b.out = b.bytes := by rw [Blk.out, if_pos h0]
        rw [ho] at hs5
        simp only [h0, nilc_some, fad_mk, pik_true, pik_false, cnd_true, cnd_false, gif_same, gif_tf, gif_ft, gif_undef, bi_add, bi_sub, bi_mul, bi_eql, bi_neq, bi_lss, bi_leq, bi_gtr, bi_geq, notB_bool, cvi_int, lenS_mk, lenT_mk, ext0, ext1, ext2, nilP_mk, nilS_mk, fldv_agg, jn0_k, jn1_k, jn2_k, jn1_and, jn1_or, ex_some, Option.isNone_some, Option.isNone_none, Bool.false_bne, Bool.bne_true, Bool.bne_false, Bool.true_bne, Bool.not_true, Bool.not_false, Bool.and_true, Bool.true_and, Bool.and_false, Bool.false_and, Bool.or_true, Bool.true_or, Bool.or_false, Bool.false_or, cond_true, cond_false, List.getElem?_toArray, List.getElem?_cons_zero, List.getElem?_cons_succ, Nat.zero_add, Nat.add_zero, Nat.reduceAdd, forall_const, show ((0 : Int) != 0) = false from rfl]
        refine jn1_dup ?_
        rw [rdP_eq (conv_str UT_bytes UT_uint8 UT_string (Sep.rd hs5)), rdP_eq (conv_str UT_bytes UT_uint8 UT_string (hs5.rdB hb)), neS_str]
        intro _
        rw [cnd_bool]
        refine ⟨fun he => ?_, fun he => ?_⟩
        · have he : b.bytes ≠ l := by simpa using he
          exact bad (fun hk => he (by rw [hokh hk]; exact hk.2.2.2)) (hs5.pick [2] 3)
        · have he : b.bytes = l := by simpa using he
          have hk := hbok h0 he
          have hp : parse l = b := by rw [parse, if_pos hk, hokh hk]
          have hpe : parseE l = 0 := by rw [parseE, if_pos hk]
          rw [hp, hpe] at hR
          simp only [L_api_Block (Sep.p1 hs5).blk, L_api_Block__Parent (Sep.p1 hs5).blk, L_api_Block__Height (Sep.p1 hs5).blk, L_api_Block__Data (Sep.p1 hs5).blk]
          refine cal_i (rbClone_spec (b := b) (hrd hs5) (by omega)) ?_
          rintro _ w6 ⟨v', rfl, hs6⟩
          replace hs6 := (hs5.join hs6).pick [3, 0] 4
          refine St_api_Block hs6 (one_api_Block (Sep.one hs6.p1)) fun w7 hs7 => ?_
          simp only [L_api_Block hs7.blk, L_api_Block__Parent hs7.blk, L_api_Block__Height hs7.blk, L_api_Block__Data hs7.blk]
          exact hR _ _ ⟨v', rfl, hs7.tail⟩
      · simp only [h0, nilc_some, fad_mk, pik_true, pik_false, cnd_true, cnd_false, gif_same, gif_tf, gif_ft, gif_undef, bi_add, bi_sub, bi_mul, bi_eql, bi_neq, bi_lss, bi_leq, bi_gtr, bi_geq, notB_bool, cvi_int, lenS_mk, lenT_mk, ext0, ext1, ext2, nilP_mk, nilS_mk, fldv_agg, jn0_k, jn1_k, jn2_k, jn1_and, jn1_or, ex_some, Option.isNone_some, Option.isNone_none, Bool.false_bne, Bool.bne_true, Bool.bne_false, Bool.true_bne, Bool.not_true, Bool.not_false, Bool.and_true, Bool.true_and, Bool.and_false, Bool.false_and, Bool.or_true, Bool.true_or, Bool.or_false, Bool.false_or, cond_true, cond_false, List.getElem?_toArray, List.getElem?_cons_zero, List.getElem?_cons_succ, Nat.zero_add, Nat.add_zero, Nat.reduceAdd, forall_const, show ((30 : Int) != 0) = true from rfl]
        exact bad (fun hk => by rw [hokh hk, hk.2.2.1] at h0; cases h0) (hs5.pick [2] 3)
end
end Go.Fx
