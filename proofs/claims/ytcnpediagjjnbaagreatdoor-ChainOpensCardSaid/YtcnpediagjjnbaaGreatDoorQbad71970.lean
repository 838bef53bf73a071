/-
  Chains: the law's first block, a child, few acts: the program's.
-/
import Derived.MapKept
import Derived.WideKeyRuns
import Derived.Maps.RangeRun
import Derived.Test.YtcnpediagjjnbaaGreatDoorQb4f67b90
import Derived.Test.YtcnpediagjjnbaaGreatDoorQeb7d6745
import Derived.Test.YtcnpediagjjnbaaGreatDoorQb1b07220
import Derived.Test.YtcnpediagjjnbaaGreatDoorQ33c81f17
set_option linter.unusedVariables false
set_option linter.unusedSimpArgs false
namespace Go.Fx
section
variable {w0 w : World} {As : List Asn} {v : Value} {l : List UInt8}
theorem rParse_spec (hb : RdB w.heap v l) (hcap : capOk v) (hln : l.length ≤ 9223372036854775807) : cal P f_ref03_Parse [v] w fun r w' => ∃ v', r = .tuple #[bq (parse l) v', .int .i64 (parseE l)] ∧ Sep w w' [ownB v' (parse l).d] := by
  refine s_ref03_Parse fun R hR => ?_
  unfold c_ref03_Parse
  refine alloc_s (Sep.start w) (A_api_Block w) fun g2 w1 hs => ?_
  have bad : ¬ okP l → ∀ {w2 : World} {As}, Sep w w2 (blk g2 (Rdr.cells Q_api_Block (vz 32, (0 : Int), Value.slice none 0 0)).toArray T_api_Block :: As) → stN 34 (.pointer (some ⟨g2, 0, none⟩)) (bq Blk.none (.slice none 0 0)) w2 fun w => ldN 34 (.pointer (some ⟨g2, 0, none⟩)) w.heap fun r1 => R (.tuple #[r1, .int .i64 30]) w := fun hn w2 As hs => by
    rw [(notOk hn).1, (notOk hn).2] at hR
    refine St_api_Block hs (one_api_Block rfl) fun w6 hs6 => ?_
    simp only [L_api_Block hs6.blk, L_api_Block__Parent hs6.blk, L_api_Block__Height hs6.blk, L_api_Block__Data hs6.blk]
    refine hR _ _ ⟨_, rfl, ?_⟩
    exact (Sep.start w).old hs6.fr0 |>.nil
  have hlv := hb.len
  simp only [nilc_some, fad_mk, pik_true, pik_false, cnd_true, cnd_false, gif_same, gif_tf, gif_ft, gif_undef, bi_add, bi_sub, bi_mul, bi_eql, bi_neq, bi_lss, bi_leq, bi_gtr, bi_geq, notB_bool, cvi_int, lenS_mk, lenT_mk, ext0, ext1, ext2, nilP_mk, nilS_mk, fldv_agg, jn0_k, jn1_k, jn2_k, jn1_and, jn1_or, ex_some, Option.isNone_some, Option.isNone_none, Bool.false_bne, Bool.bne_true, Bool.bne_false, Bool.true_bne, Bool.not_true, Bool.not_false, Bool.and_true, Bool.true_and, Bool.and_false, Bool.false_and, Bool.or_true, Bool.true_or, Bool.or_false, Bool.false_or, cond_true, cond_false, List.getElem?_toArray, List.getElem?_cons_zero, List.getElem?_cons_succ, Nat.zero_add, Nat.add_zero, Nat.reduceAdd, forall_const, hlv, B_api_Block]
  rw [cnd_bool]
  refine ⟨fun h => ?_, fun h => ?_⟩
  · have h : l.length < 46 := by simp at h; omega
    exact bad (fun hk => by have := hk.1; omega) hs
  have h : 46 ≤ l.length := by simp at h; omega
  obtain ⟨av, cv, rfl⟩ := hb.form
  have hcv : l.length ≤ cv := hcap _ _ _ rfl
  obtain ⟨x, hxx⟩ : ∃ x, x = (l.drop 34).take 8 := ⟨_, rfl⟩
  obtain ⟨hw, hhw⟩ : ∃ hw, hw = IntKind.i64.wrap ((ofBe x : Nat) : Int) := ⟨_, rfl⟩
  obtain ⟨u, huu⟩ : ∃ u, u = Value.slice (if cv = 46 then av else av.map (·.add (46 * 1))) (l.length - 46) (cv - 46) := ⟨_, rfl⟩
  have hu : ∀ z : World, RdB z.heap (.slice av l.length cv) l → RdB z.heap u (l.drop 46) := fun z hz => by rw [huu]; exact hz.drop h hcv (cv - 46)
  have hu1 : u.oneCell' = true := by rw [huu]; split <;> rfl
  refine drH_T hs fun w2 hs2 _ => ?_
  refine ⟨fun t w' => ∃ g4, t = .pointer (some ⟨g4, 0, none⟩) ∧ Sep w w' (blk g4 (Rdr.cells Q_api_Block (vz 32, hw, u)).toArray T_api_Block :: blk g2 (Rdr.cells Q_api_Block (vz 32, (0 : Int), Value.slice none 0 0)).toArray T_api_Block :: []), ?_, ?_⟩
  · change slc 1 _ _ _ _
    rw [show (Value.int .i64 34) = .int .i64 ((34 : Nat) : Int) from rfl, show (Value.int .i64 42) = .int .i64 ((42 : Nat) : Int) from rfl, slc_mid (by omega) (by omega), show (Value.int .i64 46) = .int .i64 ((46 : Nat) : Int) from rfl, slc_from h, ← huu]
    have hv : ∀ {z : World} {As}, Sep w z As → RdB z.heap (Value.slice (if cv = 34 then av else av.map (·.add (34 * 1))) (42 - 34) (cv - 34)) x := fun {z As} hz => by
      rw [hxx]
      exact ((hz.rdB hb).drop (k := 34) (by omega) hcv (cv - 34)).take (k := 8) (by omega) (cv - 34)
    have hx8 : x.length = 8 := by rw [hxx]; simp; omega
    refine ⟨efC_calT (cal_i (rVal_spec (hv hs2) (by omega)) ?_), efS_i (alloc_s hs2 (A_api_Block w2) fun g4 w3 hs3 => ⟨trivial, efC_calT (cal_i (rVal_spec (hv hs3) (by omega)) ?_)⟩), trivial⟩
    · rintro _ _ ⟨rfl, rfl⟩
      rw [cvi_int, ← hhw]
      refine ⟨_, fun z _ => (B_api_Block_1_2 hu1 _).mpr rfl, ?_⟩
      refine efS_i (alloc_s hs2 (A_api_Block w2) fun g4 w3 hs3 => ⟨trivial, ?_⟩)
      refine efC_stN (St_api_Block hs3 (one_api_Block hu1) fun w4 hs4 => ⟨g4, rfl, hs4⟩)
    · rintro _ _ ⟨rfl, rfl⟩
      rw [cvi_int, ← hhw]
      refine ⟨_, fun z _ => (B_api_Block_1_2 hu1 _).mpr rfl, ?_⟩
      refine efC_stN (St_api_Block hs3 (one_api_Block hu1) fun w4 hs4 => ⟨g4, rfl, hs4⟩)
  · rintro _ w3 ⟨g4, rfl, hs3⟩ _
    obtain ⟨p, hpp⟩ : ∃ p, p = vec32 (l.drop 2) := ⟨_, rfl⟩
    have hpv : p.1 = (l.drop 2).take 32 := by rw [hpp]; exact vec32_of (by simp; omega)
    have hpl := p.2
    have pv : ∀ i, i ≤ 32 → ∃ q : Vec 32, q.1 = part p.1 i := fun i hi => ⟨⟨part p.1 i, by rw [part_len _ (by omega), hpl]⟩, rfl⟩
    refine ⟨fun y w' => ∃ (i : Nat) (q : Vec 32), y = .int .i64 i ∧ i ≤ 32 ∧ q.1 = part p.1 i ∧ Sep w w' (blk g4 (Rdr.cells Q_api_Block (q, hw, u)).toArray T_api_Block :: blk g2 (Rdr.cells Q_api_Block (vz 32, (0 : Int), Value.slice none 0 0)).toArray T_api_Block :: []),
      fun y _ => (32 - RowKit.intOf y).toNat, ⟨0, vz 32, rfl, by omega, by rw [part_zero, hpl]; rfl, hs3⟩, ?_⟩
    rintro _ w4 ⟨i, q, rfl, hi, hq, hs4⟩ -
    simp only [nilc_some, fad_mk, pik_true, pik_false, cnd_true, cnd_false, gif_same, gif_tf, gif_ft, gif_undef, bi_add, bi_sub, bi_mul, bi_eql, bi_neq, bi_lss, bi_leq, bi_gtr, bi_geq, notB_bool, cvi_int, lenS_mk, lenT_mk, ext0, ext1, ext2, nilP_mk, nilS_mk, fldv_agg, jn0_k, jn1_k, jn2_k, jn1_and, jn1_or, ex_some, Option.isNone_some, Option.isNone_none, Bool.false_bne, Bool.bne_true, Bool.bne_false, Bool.true_bne, Bool.not_true, Bool.not_false, Bool.and_true, Bool.true_and, Bool.and_false, Bool.false_and, Bool.or_true, Bool.true_or, Bool.or_false, Bool.false_or, cond_true, cond_false, List.getElem?_toArray, List.getElem?_cons_zero, List.getElem?_cons_succ, Nat.zero_add, Nat.add_zero, Nat.reduceAdd, forall_const]
    rw [cnd_bool]
    refine ⟨fun hlt => ?_, fun hlt => ?_⟩
    · have h32 : i < 32 := by simp at hlt; omega
      have e : IntKind.i64.wrap (2 + (i : Int)) = ((2 + i : Nat) : Int) := by rw [wi64 (by omega) (by omega)]; omega
      rw [e]
      refine ldxB (hs4.rdB hb) (by omega) ?_
      rw [ixa_w .i64 h32]
      have hby : p.1[i]? = some (l[2 + i]'(by omega)) := by
        rw [hpv, List.getElem?_take_of_lt h32, List.getElem?_drop, List.getElem?_eq_getElem (by omega)]
      obtain ⟨q', hq'⟩ := pv (i + 1) (by omega)
      have e1 : Rdr.cells Q_api_Block (q, hw, u) = bvs (part p.1 i) ++ [.int .i64 hw, u] := by rw [← hq]; rfl
      have e2 : Rdr.cells Q_api_Block (q', hw, u) = bvs (part p.1 (i + 1)) ++ [.int .i64 hw, u] := by rw [← hq']; rfl
      rw [e1] at hs4
      have hpi := part_len p.1 (i := i) (by omega)
      refine st1_s hs4 (by simp [bvs]; omega) rfl fun w5 hs5 => ?_
      have e3 : (bvs (part p.1 i) ++ [.int .i64 hw, u]).toArray.setIfInBounds i (bv (l[2 + i]'(by omega))) = (Rdr.cells Q_api_Block (q', hw, u)).toArray := by
        rw [e2, ← part_set hby]
        apply Array.ext'
        simp only [Array.toList_setIfInBounds]
        rw [List.set_append_left _ _ (by simp [bvs]; omega)]
        simp [bvs, List.map_set]
      rw [e3] at hs5
      rw [wi64 (by omega) (by omega)]
      exact ⟨⟨i + 1, q', by simp, by omega, hq', hs5⟩, by simp [RowKit.intOf]; omega⟩
    · have h32 : i = 32 := by simp at hlt; omega
      subst h32
      have hqp : q = p := by
        apply Subtype.ext
        rw [hq]
        have := part_all (o := p.1)
        rwa [hpl] at this
      subst hqp
      obtain ⟨b, hbb⟩ : ∃ b : Blk, b = ⟨q, hw, l.drop 46⟩ := ⟨_, rfl⟩
      have e1 : Rdr.cells Q_api_Block (q, hw, u) = Rdr.cells Q_api_Block (b.p, b.h, u) := by rw [hbb]
      have hbd : b.d = l.drop 46 := by rw [hbb]
      have hbh : b.h = hw := by rw [hbb]
      rw [e1] at hs4
      have hhm : hw ≤ maxI := by
        have hxl := ofBe_lt x
        have hx8 : x.length = 8 := by rw [hxx]; simp; omega
        rw [hx8] at hxl
        rw [hhw, IntKind.wrap_i64]
        unfold maxI
        omega
      have hrd : ∀ {z : World} {As}, Sep w z As → RdB z.heap u b.d := fun {z As} hz => by rw [hbd]; exact hu _ (hz.rdB hb)
      simp only [L_api_Block hs4.blk, L_api_Block__Parent hs4.blk, L_api_Block__Height hs4.blk, L_api_Block__Data hs4.blk]
      refine cal_i (rbBytes_spec (b := b) (hrd hs4) (by rw [hbh]; exact hhm)) ?_
      rintro _ w5 ⟨s5, rfl, hs5⟩
      replace hs5 := hs4.join hs5
      simp only [nilc_some, fad_mk, pik_true, pik_false, cnd_true, cnd_false, gif_same, gif_tf, gif_ft, gif_undef, bi_add, bi_sub, bi_mul, bi_eql, bi_neq, bi_lss, bi_leq, bi_gtr, bi_geq, notB_bool, cvi_int, lenS_mk, lenT_mk, ext0, ext1, ext2, nilP_mk, nilS_mk, fldv_agg, jn0_k, jn1_k, jn2_k, jn1_and, jn1_or, ex_some, Option.isNone_some, Option.isNone_none, Bool.false_bne, Bool.bne_true, Bool.bne_false, Bool.true_bne, Bool.not_true, Bool.not_false, Bool.and_true, Bool.true_and, Bool.and_false, Bool.false_and, Bool.or_true, Bool.true_or, Bool.or_false, Bool.false_or, cond_true, cond_false, List.getElem?_toArray, List.getElem?_cons_zero, List.getElem?_cons_succ, Nat.zero_add, Nat.add_zero, Nat.reduceAdd, forall_const]
      -- whether it may be
      have hokh : okP l → b = parB l := fun hk => by
        have h2 := hk.2.1
        rw [hbb, parB, hhw, hxx, hpp]
        congr 1
        exact wi64 (by omega) h2
      have hbok : b.chk = 0 → b.bytes = l → okP l := fun hc he => by
        have hck := Blk.chk_ok hc
        have := (parse_bytes hc (by rw [hbh]; exact hhm)).1
        rwa [he] at this
      rcases Blk.chk_or b with h0 | h0
      · have hck := Blk.chk_ok h0
        have ho : b.out = b.bytes := by rw [Blk.out, if_pos h0]
        rw [ho] at hs5
        simp only [h0, nilc_some, fad_mk, pik_true, pik_false, cnd_true, cnd_false, gif_same, gif_tf, gif_ft, gif_undef, bi_add, bi_sub, bi_mul, bi_eql, bi_neq, bi_lss, bi_leq, bi_gtr, bi_geq, notB_bool, cvi_int, lenS_mk, lenT_mk, ext0, ext1, ext2, nilP_mk, nilS_mk, fldv_agg, jn0_k, jn1_k, jn2_k, jn1_and, jn1_or, ex_some, Option.isNone_some, Option.isNone_none, Bool.false_bne, Bool.bne_true, Bool.bne_false, Bool.true_bne, Bool.not_true, Bool.not_false, Bool.and_true, Bool.true_and, Bool.and_false, Bool.false_and, Bool.or_true, Bool.true_or, Bool.or_false, Bool.false_or, cond_true, cond_false, List.getElem?_toArray, List.getElem?_cons_zero, List.getElem?_cons_succ, Nat.zero_add, Nat.add_zero, Nat.reduceAdd, forall_const, show ((0 : Int) != 0) = false from rfl]
        refine jn1_dup ?_
        rw [rdP_eq (conv_str UT_bytes UT_uint8 UT_string (Sep.rd hs5)), rdP_eq (conv_str UT_bytes UT_uint8 UT_string (hs5.rdB hb)), neS_str]
        intro _
        rw [cnd_bool]
        refine ⟨fun he => ?_, fun he => ?_⟩
        · have he : b.bytes ≠ l := by simpa using he
          exact bad (fun hk => he (by rw [hokh hk]; exact hk.2.2.2)) (hs5.pick [2] 3)
        · have he : b.bytes = l := by simpa using he
          have hk := hbok h0 he
          have hp : parse l = b := by rw [parse, if_pos hk, hokh hk]
          have hpe : parseE l = 0 := by rw [parseE, if_pos hk]
          rw [hp, hpe] at hR
          simp only [L_api_Block (Sep.p1 hs5).blk, L_api_Block__Parent (Sep.p1 hs5).blk, L_api_Block__Height (Sep.p1 hs5).blk, L_api_Block__Data (Sep.p1 hs5).blk]
          refine cal_i (rbClone_spec (b := b) (hrd hs5) (by omega)) ?_
          rintro _ w6 ⟨v', rfl, hs6⟩
          replace hs6 := (hs5.join hs6).pick [3, 0] 4
          refine St_api_Block hs6 (one_api_Block (Sep.one hs6.p1)) fun w7 hs7 => ?_
          simp only [L_api_Block hs7.blk, L_api_Block__Parent hs7.blk, L_api_Block__Height hs7.blk, L_api_Block__Data hs7.blk]
          exact hR _ _ ⟨v', rfl, hs7.tail⟩
      · simp only [h0, nilc_some, fad_mk, pik_true, pik_false, cnd_true, cnd_false, gif_same, gif_tf, gif_ft, gif_undef, bi_add, bi_sub, bi_mul, bi_eql, bi_neq, bi_lss, bi_leq, bi_gtr, bi_geq, notB_bool, cvi_int, lenS_mk, lenT_mk, ext0, ext1, ext2, nilP_mk, nilS_mk, fldv_agg, jn0_k, jn1_k, jn2_k, jn1_and, jn1_or, ex_some, Option.isNone_some, Option.isNone_none, Bool.false_bne, Bool.bne_true, Bool.bne_false, Bool.true_bne, Bool.not_true, Bool.not_false, Bool.and_true, Bool.true_and, Bool.and_false, Bool.false_and, Bool.or_true, Bool.true_or, Bool.or_false, Bool.false_or, cond_true, cond_false, List.getElem?_toArray, List.getElem?_cons_zero, List.getElem?_cons_succ, Nat.zero_add, Nat.add_zero, Nat.reduceAdd, forall_const, show ((30 : Int) != 0) = true from rfl]
        exact bad (fun hk => by rw [hokh hk, hk.2.2.1] at h0; cases h0) (hs5.pick [2] 3)
end
end Go.Fx
set_option linter.unusedVariables false
set_option linter.unusedSimpArgs false
namespace Go.Fx
abbrev BV := Blk × Value
def BV.t (x : BV) : Vec 32 × Int × Value := (x.1.p, x.1.h, x.2)
/-- A slice of blocks, each with what its data read as. -/
def BRows (h : Heap) (v : Value) (l : List BV) : Prop := Rows' Q_api_Block h v (l.map BV.t) ∧ ∀ x ∈ l, RdB h x.2 x.1.d
theorem BRows.fr {w w' : World} {v : Value} {l : List BV} (h : BRows w.heap v l) (hf : Fr [] w w') : BRows w'.heap v l := ⟨h.1.fr hf, fun x hx => (h.2 x hx).fr hf (off_nil _)⟩
theorem BRows.len {h : Heap} {v : Value} {l : List BV} (hr : BRows h v l) (K : Value → Prop) : lenS v K = K (.int .i64 l.length) := by
  have := hr.1.len K
  rwa [List.length_map] at this
/-- 'l[j]'. -/
theorem BRows.ld {w : World} {v : Value} {l : List BV} {j : Nat} {x : BV} (hr : BRows w.heap v l) (hj : l[j]? = some x) (k : IntKind) {K : Value → Prop} (h : K (bq x.1 x.2)) : ixs 34 v (.int k (j : Int)) fun t => ldN 34 t w.heap K := by
  have : (l.map BV.t)[j]? = some x.t := by rw [List.getElem?_map, hj]; rfl
  exact Rows'.ldN (q := Q_api_Block) (by decide) hr.1 this k h
theorem qV (a : Vec 32 × Int × Value) : (Value.agg (Rdr.cells Q_api_Block a).toArray).cells = (Rdr.cells Q_api_Block a).toArray := rfl
section
variable {w0 w : World} {As : List Asn} {v : Value}
def ga : Blk := Blk.first [103]
/-- A block that is an argument. -/
abbrev ab (x : Vec 32 × Int × Sl UInt8) : Blk := ⟨x.1, x.2.1, x.2.2.l⟩
theorem ab_rd {h : Heap} {x : Vec 32 × Int × Sl UInt8} (hx : Rdr.ok R_api_Block h x) : RdB h x.2.2.v (ab x).d := hx.2.2.1
theorem ab_h {h : Heap} {x : Vec 32 × Int × Sl UInt8} (hx : Rdr.ok R_api_Block h x) : (ab x).h ≤ maxI := by
  have := Go.bounds_i64 hx.2.1
  unfold maxI
  show x.2.1 ≤ _
  omega
end
end Go.Fx
set_option linter.unusedVariables false
set_option linter.unusedSimpArgs false
namespace Go.Fx
/-- What stands ahead of a record's tail. -/
def Blk.hd (b : Blk) : List UInt8 := be 4 b.bytes.length ++ be 8 b.h.toNat ++ b.bytes
def tail8 (l : List UInt8) : List UInt8 := (shaM l).1.take 8
def Blk.rcd (b : Blk) : List UInt8 := b.hd ++ tail8 b.hd
def Blk.recO (b : Blk) : List UInt8 := if b.chk = 0 then b.rcd else []
theorem tail8_len (l : List UInt8) : (tail8 l).length = 8 := by unfold tail8; rw [List.length_take, (shaM l).2]; rfl
theorem Blk.hd_len (b : Blk) : b.hd.length = 58 + b.d.length := by
  unfold Blk.hd
  simp only [List.length_append, be_length, Blk.bytes_len]
  omega
theorem Blk.rec_len (b : Blk) : b.rcd.length = 66 + b.d.length := by
  unfold Blk.rcd
  rw [List.length_append, Blk.hd_len, tail8_len]
  omega
theorem Blk.recO_len (b : Blk) : b.recO.length = if b.chk = 0 then 66 + b.d.length else 0 := by
  unfold Blk.recO
  split
  · exact Blk.rec_len b
  · rfl
theorem Blk.recO_le (b : Blk) : b.recO.length ≤ 266 := by
  rw [Blk.recO_len]
  split
  · rename_i h
    have := Blk.chk_ok h
    omega
  · omega
/-- 'x[:j]', x an array. -/
theorem sla_to {size g len j : Nat} (hj : j ≤ len) (K : Value → Prop) : sla len size (.pointer (some ⟨g, 0, none⟩)) none (some (.int .i64 (j : Int))) K = K (.slice (some ⟨g, 0, none⟩) j len) := by
  have e : (if len = 0 then (⟨g, 0, none⟩ : Addr) else Addr.add ⟨g, 0, none⟩ (0 * size)) = ⟨g, 0, none⟩ := by
    split
    · rfl
    · rw [Nat.zero_mul, Addr_add_mk, Nat.add_zero]
  refine propext ⟨?_, fun hk => ⟨_, rfl, ?_⟩⟩
  · rintro ⟨a, ha, hk⟩
    cases ha
    obtain ⟨k, j', hj', h0, h1, hk⟩ := hk
    cases hj'
    simp only [bndO, e, Nat.sub_zero, Int.toNat_natCast] at hk
    exact hk
  · refine ⟨.i64, (j : Int), rfl, by omega, by omega, ?_⟩
    simp only [bndO, e, Nat.sub_zero, Int.toNat_natCast]
    exact hk
section
variable {w0 w z : World} {As : List Asn} {v : Value} {b : Blk}
/-- An array's first bytes. -/
theorem rd_arr {g n c k : Nat} {a : Vec n} {T : TypeId} (h : Sep w0 z (blk g (Rdr.cells (rVec n) a).toArray T :: As)) (hk : k ≤ n) : RdB z.heap (.slice (some ⟨g, 0, none⟩) k c) (a.1.take k) := by
  have hat : At z.heap g 0 (bvs a.1) := At.blk (cs := Rdr.cells (rVec n) a) h.blk
  have := At.rd (c := c) hat
  rw [a.2] at this
  exact this.take hk c
theorem recBytes_spec (hc : Cub w) (hb : RdB w.heap v b.d) (hh : b.h ≤ maxI) : cal P f_rec_Bytes [bq b v] w fun r w' => ∃ s, r = .tuple #[s, .int .i64 b.chk] ∧ Sep w w' [ownB s b.recO] := by
  refine s_rec_Bytes fun R hR => ?_
  unfold c_rec_Bytes
  refine bxQ (Sep.start w) fun g w1 hs => ?_
  simp only [L_api_Block hs.blk, L_api_Block__Parent hs.blk, L_api_Block__Height hs.blk, L_api_Block__Data hs.blk]
  refine cal_i (bkBytes_spec (hs.rdB hb) hh) ?_
  rintro _ w2 ⟨s2, rfl, hs2⟩
  replace hs2 := hs.join hs2
  simp only [nilc_some, fad_mk, pik_true, pik_false, cnd_true, cnd_false, gif_same, gif_tf, gif_ft, gif_undef, bi_add, bi_sub, bi_mul, bi_eql, bi_neq, bi_lss, bi_leq, bi_gtr, bi_geq, notB_bool, cvi_int, lenS_mk, lenT_mk, ext0, ext1, ext2, nilP_mk, nilS_mk, fldv_agg, jn0_k, jn1_k, jn2_k, jn1_and, jn1_or, ex_some, Option.isNone_some, Option.isNone_none, Bool.false_bne, Bool.bne_true, Bool.bne_false, Bool.true_bne, Bool.not_true, Bool.not_false, Bool.and_true, Bool.true_and, Bool.and_false, Bool.false_and, Bool.or_true, Bool.true_or, Bool.or_false, Bool.false_or, cond_true, cond_false, List.getElem?_toArray, List.getElem?_cons_zero, List.getElem?_cons_succ, Nat.zero_add, Nat.add_zero, Nat.reduceAdd, forall_const]
  rcases Blk.chk_or b with h0 | h0
  · have hck := Blk.chk_ok h0
    have ho : b.out = b.bytes := if_pos h0
    have hro : b.recO = b.rcd := if_pos h0
    have hbl := b.bytes_len
    rw [ho] at hs2
    rw [hro, h0] at hR
    simp only [h0, nilc_some, fad_mk, pik_true, pik_false, cnd_true, cnd_false, gif_same, gif_tf, gif_ft, gif_undef, bi_add, bi_sub, bi_mul, bi_eql, bi_neq, bi_lss, bi_leq, bi_gtr, bi_geq, notB_bool, cvi_int, lenS_mk, lenT_mk, ext0, ext1, ext2, nilP_mk, nilS_mk, fldv_agg, jn0_k, jn1_k, jn2_k, jn1_and, jn1_or, ex_some, Option.isNone_some, Option.isNone_none, Bool.false_bne, Bool.bne_true, Bool.bne_false, Bool.true_bne, Bool.not_true, Bool.not_false, Bool.and_true, Bool.true_and, Bool.and_false, Bool.false_and, Bool.or_true, Bool.true_or, Bool.or_false, Bool.false_or, cond_true, cond_false, List.getElem?_toArray, List.getElem?_cons_zero, List.getElem?_cons_succ, Nat.zero_add, Nat.add_zero, Nat.reduceAdd, forall_const, show ((0 : Int) != 0) = false from rfl]
    refine cal_i (NewS 258 (by omega)) ?_
    rintro _ w3 ⟨gp, rfl, hs3⟩
    replace hs3 := hs2.join hs3
    simp only [nilc_some, fad_mk, pik_true, pik_false, cnd_true, cnd_false, gif_same, gif_tf, gif_ft, gif_undef, bi_add, bi_sub, bi_mul, bi_eql, bi_neq, bi_lss, bi_leq, bi_gtr, bi_geq, notB_bool, cvi_int, lenS_mk, lenT_mk, ext0, ext1, ext2, nilP_mk, nilS_mk, fldv_agg, jn0_k, jn1_k, jn2_k, jn1_and, jn1_or, ex_some, Option.isNone_some, Option.isNone_none, Bool.false_bne, Bool.bne_true, Bool.bne_false, Bool.true_bne, Bool.not_true, Bool.not_false, Bool.and_true, Bool.true_and, Bool.and_false, Bool.false_and, Bool.or_true, Bool.true_or, Bool.or_false, Bool.false_or, cond_true, cond_false, List.getElem?_toArray, List.getElem?_cons_zero, List.getElem?_cons_succ, Nat.zero_add, Nat.add_zero, Nat.reduceAdd, forall_const, (Sep.rd hs2).len]
    rw [wu32i (by omega) (by omega)]
    refine cal_i (IntS hs3 (by omega) (by omega) (by simp)) ?_
    rintro _ w4 ⟨rfl, s4, hs4⟩
    simp only [nilc_some, fad_mk, pik_true, pik_false, cnd_true, cnd_false, gif_same, gif_tf, gif_ft, gif_undef, bi_add, bi_sub, bi_mul, bi_eql, bi_neq, bi_lss, bi_leq, bi_gtr, bi_geq, notB_bool, cvi_int, lenS_mk, lenT_mk, ext0, ext1, ext2, nilP_mk, nilS_mk, fldv_agg, jn0_k, jn1_k, jn2_k, jn1_and, jn1_or, ex_some, Option.isNone_some, Option.isNone_none, Bool.false_bne, Bool.bne_true, Bool.bne_false, Bool.true_bne, Bool.not_true, Bool.not_false, Bool.and_true, Bool.true_and, Bool.and_false, Bool.false_and, Bool.or_true, Bool.true_or, Bool.or_false, Bool.false_or, cond_true, cond_false, List.getElem?_toArray, List.getElem?_cons_zero, List.getElem?_cons_succ, Nat.zero_add, Nat.add_zero, Nat.reduceAdd, forall_const, L_api_Block (Sep.p3 hs4).blk, L_api_Block__Parent (Sep.p3 hs4).blk, L_api_Block__Height (Sep.p3 hs4).blk, L_api_Block__Data (Sep.p3 hs4).blk, u64_h hck.1 hh]
    refine cal_i (LongS hs4 (by omega) (by unfold maxI at hh; omega) (by simp [be_length])) ?_
    rintro _ w5 ⟨rfl, s5, hs5⟩
    refine cal_i (FixedS hs5 (c := b.bytes) (by omega) (fun z hz => hz.rd) (by simp [be_length]; omega)) ?_
    rintro _ w6 ⟨rfl, s6, hs6⟩
    refine cal_i (OutS hs6 (by simp [be_length]; omega)) ?_
    rintro _ w8 ⟨r, rfl, hs8⟩
    have e : [] ++ be 4 b.bytes.length ++ be 8 b.h.toNat ++ b.bytes = b.hd := by simp [Blk.hd]
    rw [e] at hs8
    simp only [nilc_some, fad_mk, pik_true, pik_false, cnd_true, cnd_false, gif_same, gif_tf, gif_ft, gif_undef, bi_add, bi_sub, bi_mul, bi_eql, bi_neq, bi_lss, bi_leq, bi_gtr, bi_geq, notB_bool, cvi_int, lenS_mk, lenT_mk, ext0, ext1, ext2, nilP_mk, nilS_mk, fldv_agg, jn0_k, jn1_k, jn2_k, jn1_and, jn1_or, ex_some, Option.isNone_some, Option.isNone_none, Bool.false_bne, Bool.bne_true, Bool.bne_false, Bool.true_bne, Bool.not_true, Bool.not_false, Bool.and_true, Bool.true_and, Bool.and_false, Bool.false_and, Bool.or_true, Bool.true_or, Bool.or_false, Bool.false_or, cond_true, cond_false, List.getElem?_toArray, List.getElem?_cons_zero, List.getElem?_cons_succ, Nat.zero_add, Nat.add_zero, Nat.reduceAdd, forall_const, show ((0 : Int) != 0) = false from rfl]
    refine cal_i (shaSum_spec (hc.fr hs8.fr0) (Sep.rd hs8) (by rw [Blk.hd_len]; omega)) ?_
    rintro _ w9 ⟨rfl, hf9⟩
    have hs9 := hs8.old hf9
    refine alloc_s hs9 (A_api_ID w9) fun g10 w10 hs10 => ?_
    refine St_api_ID hs10 fun w11 hs11 => ?_
    rw [show (Value.int .i64 8) = .int .i64 ((8 : Nat) : Int) from rfl, sla_to (by omega)]
    refine appB_s S_sl_uint8 U_sl_uint8 (by simp) hs11.p1 (rd_arr (k := 8) hs11 (by omega)) (by rw [Blk.hd_len, List.length_take]; omega) fun s12 w12 hs12 => ?_
    exact hR _ _ ⟨s12, rfl, Sep.dropR (As := [ownB s12 b.rcd]) hs12⟩
  · have hro : b.recO = [] := by rw [Blk.recO, if_neg (by omega)]
    rw [hro, h0] at hR
    simp only [h0, nilc_some, fad_mk, pik_true, pik_false, cnd_true, cnd_false, gif_same, gif_tf, gif_ft, gif_undef, bi_add, bi_sub, bi_mul, bi_eql, bi_neq, bi_lss, bi_leq, bi_gtr, bi_geq, notB_bool, cvi_int, lenS_mk, lenT_mk, ext0, ext1, ext2, nilP_mk, nilS_mk, fldv_agg, jn0_k, jn1_k, jn2_k, jn1_and, jn1_or, ex_some, Option.isNone_some, Option.isNone_none, Bool.false_bne, Bool.bne_true, Bool.bne_false, Bool.true_bne, Bool.not_true, Bool.not_false, Bool.and_true, Bool.true_and, Bool.and_false, Bool.false_and, Bool.or_true, Bool.true_or, Bool.or_false, Bool.false_or, cond_true, cond_false, List.getElem?_toArray, List.getElem?_cons_zero, List.getElem?_cons_succ, Nat.zero_add, Nat.add_zero, Nat.reduceAdd, forall_const, show ((30 : Int) != 0) = true from rfl]
    exact hR _ _ ⟨_, rfl, (Sep.start w).old hs2.fr0 |>.nil⟩
theorem rRecBytes_spec (hb : RdB w.heap v b.d) (hh : b.h ≤ maxI) : cal P f_ref09_Bytes [bq b v] w fun r w' => ∃ s, r = .tuple #[s, .int .i64 b.chk] ∧ Sep w w' [ownB s b.recO] := by
  refine s_ref09_Bytes fun R hR => ?_
  unfold c_ref09_Bytes
  refine bxQ (Sep.start w) fun g w1 hs => ?_
  simp only [L_api_Block hs.blk, L_api_Block__Parent hs.blk, L_api_Block__Height hs.blk, L_api_Block__Data hs.blk]
  refine cal_i (rbBytes_spec (hs.rdB hb) hh) ?_
  rintro _ w2 ⟨s2, rfl, hs2⟩
  replace hs2 := hs.join hs2
  simp only [nilc_some, fad_mk, pik_true, pik_false, cnd_true, cnd_false, gif_same, gif_tf, gif_ft, gif_undef, bi_add, bi_sub, bi_mul, bi_eql, bi_neq, bi_lss, bi_leq, bi_gtr, bi_geq, notB_bool, cvi_int, lenS_mk, lenT_mk, ext0, ext1, ext2, nilP_mk, nilS_mk, fldv_agg, jn0_k, jn1_k, jn2_k, jn1_and, jn1_or, ex_some, Option.isNone_some, Option.isNone_none, Bool.false_bne, Bool.bne_true, Bool.bne_false, Bool.true_bne, Bool.not_true, Bool.not_false, Bool.and_true, Bool.true_and, Bool.and_false, Bool.false_and, Bool.or_true, Bool.true_or, Bool.or_false, Bool.false_or, cond_true, cond_false, List.getElem?_toArray, List.getElem?_cons_zero, List.getElem?_cons_succ, Nat.zero_add, Nat.add_zero, Nat.reduceAdd, forall_const]
  rcases Blk.chk_or b with h0 | h0
  · have hck := Blk.chk_ok h0
    have ho : b.out = b.bytes := if_pos h0
    have hro : b.recO = b.rcd := if_pos h0
    have hbl := b.bytes_len
    rw [ho] at hs2
    rw [hro, h0] at hR
    simp only [h0, nilc_some, fad_mk, pik_true, pik_false, cnd_true, cnd_false, gif_same, gif_tf, gif_ft, gif_undef, bi_add, bi_sub, bi_mul, bi_eql, bi_neq, bi_lss, bi_leq, bi_gtr, bi_geq, notB_bool, cvi_int, lenS_mk, lenT_mk, ext0, ext1, ext2, nilP_mk, nilS_mk, fldv_agg, jn0_k, jn1_k, jn2_k, jn1_and, jn1_or, ex_some, Option.isNone_some, Option.isNone_none, Bool.false_bne, Bool.bne_true, Bool.bne_false, Bool.true_bne, Bool.not_true, Bool.not_false, Bool.and_true, Bool.true_and, Bool.and_false, Bool.false_and, Bool.or_true, Bool.true_or, Bool.or_false, Bool.false_or, cond_true, cond_false, List.getElem?_toArray, List.getElem?_cons_zero, List.getElem?_cons_succ, Nat.zero_add, Nat.add_zero, Nat.reduceAdd, forall_const, show ((0 : Int) != 0) = false from rfl, (Sep.rd hs2).len]
    rw [wu64i (by omega) (by omega)]
    refine drH_S hs2 fun w3 hs3 _ => ?_
    refine rdS_ld (v := .int .i64 b.h) (fun u hu K hk => (L_api_Block__Height (Sep.p1 hu).blk K).mpr hk) ?_
    simp only [nilc_some, fad_mk, pik_true, pik_false, cnd_true, cnd_false, gif_same, gif_tf, gif_ft, gif_undef, bi_add, bi_sub, bi_mul, bi_eql, bi_neq, bi_lss, bi_leq, bi_gtr, bi_geq, notB_bool, cvi_int, lenS_mk, lenT_mk, ext0, ext1, ext2, nilP_mk, nilS_mk, fldv_agg, jn0_k, jn1_k, jn2_k, jn1_and, jn1_or, ex_some, Option.isNone_some, Option.isNone_none, Bool.false_bne, Bool.bne_true, Bool.bne_false, Bool.true_bne, Bool.not_true, Bool.not_false, Bool.and_true, Bool.true_and, Bool.and_false, Bool.false_and, Bool.or_true, Bool.true_or, Bool.or_false, Bool.false_or, cond_true, cond_false, List.getElem?_toArray, List.getElem?_cons_zero, List.getElem?_cons_succ, Nat.zero_add, Nat.add_zero, Nat.reduceAdd, forall_const, u64_h hck.1 hh]
    refine efS_i (cal_i (rNumS (n := 4) (by omega) (by omega)) ?_)
    rintro t4 w4 hs4
    replace hs4 := hs3.join hs4
    refine ⟨hs4.tail, ?_⟩
    refine efC_calA (w0 := w) (As := ownB t4 (be 4 b.bytes.length) :: [ownB s2 b.bytes, bb g b v]) (cal_i (rNumS (n := 8) (by omega) (by unfold maxI at hh; omega)) ?_)
    rintro t5 w5 hs5
    replace hs5 := hs4.join hs5
    refine ⟨hs5.tail, ?_⟩
    refine efC_efP (appB_s S_sl_uint8 U_sl_uint8 (by simp) hs5.p1 (Sep.rd hs5) (by simp [be_length]) fun s6 w6 hs6 => ?_)
    refine appB_s S_sl_uint8 U_sl_uint8 (by simp) hs6 (Sep.rd hs6.p2) (by simp [be_length]; omega) fun s7 w7 hs7 => ?_
    have e : be 4 b.bytes.length ++ be 8 b.h.toNat ++ b.bytes = b.hd := rfl
    rw [e] at hs7
    refine cal_i (rSum_spec (Sep.rd hs7) (by rw [Blk.hd_len]; omega)) ?_
    rintro _ w8 ⟨rfl, hf8⟩
    have hs8 := hs7.old hf8
    refine alloc_s hs8 (A_api_ID w8) fun g9 w9 hs9 => ?_
    refine St_api_ID hs9 fun w10 hs10 => ?_
    have hs11 : Sep w w10 [ownB s7 b.hd, blk g9 (Rdr.cells (rVec 32) (shaM b.hd)).toArray T_api_ID] := (Sep.dropR (As := [blk g9 (Rdr.cells (rVec 32) (shaM b.hd)).toArray T_api_ID, ownB s7 b.hd]) hs10).p1
    have h32 := (shaM b.hd).2
    have hhl := b.hd_len
    refine ⟨fun x y w' => ∃ i : Nat, y = .int .i64 i ∧ i ≤ 8 ∧ Sep w w' [ownB x (b.hd ++ (shaM b.hd).1.take i), blk g9 (Rdr.cells (rVec 32) (shaM b.hd)).toArray T_api_ID], fun _ y _ => (8 - RowKit.intOf y).toNat, ⟨0, rfl, by omega, by simpa using hs11⟩, ?_⟩
    rintro s12 _ w12 ⟨i, rfl, hi, hs12⟩ -
    simp only [nilc_some, fad_mk, pik_true, pik_false, cnd_true, cnd_false, gif_same, gif_tf, gif_ft, gif_undef, bi_add, bi_sub, bi_mul, bi_eql, bi_neq, bi_lss, bi_leq, bi_gtr, bi_geq, notB_bool, cvi_int, lenS_mk, lenT_mk, ext0, ext1, ext2, nilP_mk, nilS_mk, fldv_agg, jn0_k, jn1_k, jn2_k, jn1_and, jn1_or, ex_some, Option.isNone_some, Option.isNone_none, Bool.false_bne, Bool.bne_true, Bool.bne_false, Bool.true_bne, Bool.not_true, Bool.not_false, Bool.and_true, Bool.true_and, Bool.and_false, Bool.false_and, Bool.or_true, Bool.true_or, Bool.or_false, Bool.false_or, cond_true, cond_false, List.getElem?_toArray, List.getElem?_cons_zero, List.getElem?_cons_succ, Nat.zero_add, Nat.add_zero, Nat.reduceAdd, forall_const]
    rw [cnd_bool]
    refine ⟨fun h => ?_, fun h => ?_⟩
    · have hlt : i < 8 := by simp at h; omega
      rw [ixa_w .i64 (by omega)]
      have hat : At w12.heap g9 0 (bvs (shaM b.hd).1) := At.blk (cs := Rdr.cells (rVec 32) (shaM b.hd)) (Sep.p1 hs12).blk
      have hld := At.byte hat (i := i) (by omega) 
      rw [Nat.zero_add] at hld
      rw [hld]
      refine app1 hs12 (by simp; omega) fun s13 w13 hs13 => ?_
      rw [wi64 (by omega) (by omega)]
      refine ⟨⟨i + 1, by simp, by omega, ?_⟩, by simp [RowKit.intOf]; omega⟩
      rw [List.take_succ_eq_append_getElem (by omega), ← List.append_assoc]
      exact hs13
    · have h8 : i = 8 := by simp at h; omega
      subst h8
      exact hR _ _ ⟨s12, rfl, Sep.dropR (As := [ownB s12 b.rcd]) hs12⟩
  · have hro : b.recO = [] := by rw [Blk.recO, if_neg (by omega)]
    rw [hro, h0] at hR
    simp only [h0, nilc_some, fad_mk, pik_true, pik_false, cnd_true, cnd_false, gif_same, gif_tf, gif_ft, gif_undef, bi_add, bi_sub, bi_mul, bi_eql, bi_neq, bi_lss, bi_leq, bi_gtr, bi_geq, notB_bool, cvi_int, lenS_mk, lenT_mk, ext0, ext1, ext2, nilP_mk, nilS_mk, fldv_agg, jn0_k, jn1_k, jn2_k, jn1_and, jn1_or, ex_some, Option.isNone_some, Option.isNone_none, Bool.false_bne, Bool.bne_true, Bool.bne_false, Bool.true_bne, Bool.not_true, Bool.not_false, Bool.and_true, Bool.true_and, Bool.and_false, Bool.false_and, Bool.or_true, Bool.true_or, Bool.or_false, Bool.false_or, cond_true, cond_false, List.getElem?_toArray, List.getElem?_cons_zero, List.getElem?_cons_succ, Nat.zero_add, Nat.add_zero, Nat.reduceAdd, forall_const, show ((30 : Int) != 0) = true from rfl]
    exact hR _ _ ⟨_, rfl, (Sep.start w).old hs2.fr0 |>.nil⟩
theorem recSize_spec (hb : RdB w.heap v b.d) : cal P f_rec_Size [bq b v] w fun r w' => r = .int .i64 b.recO.length ∧ Fr [] w w' := by
  refine s_rec_Size fun R hR => ?_
  unfold c_rec_Size
  refine bxQ (Sep.start w) fun g w1 hs => ?_
  simp only [L_api_Block hs.blk, L_api_Block__Parent hs.blk, L_api_Block__Height hs.blk, L_api_Block__Data hs.blk]
  refine cal_i (Check_spec (hs.rdB hb)) ?_
  rintro _ w2 ⟨rfl, hf2⟩
  have hs2 := hs.old hf2
  simp only [nilc_some, fad_mk, pik_true, pik_false, cnd_true, cnd_false, gif_same, gif_tf, gif_ft, gif_undef, bi_add, bi_sub, bi_mul, bi_eql, bi_neq, bi_lss, bi_leq, bi_gtr, bi_geq, notB_bool, cvi_int, lenS_mk, lenT_mk, ext0, ext1, ext2, nilP_mk, nilS_mk, fldv_agg, jn0_k, jn1_k, jn2_k, jn1_and, jn1_or, ex_some, Option.isNone_some, Option.isNone_none, Bool.false_bne, Bool.bne_true, Bool.bne_false, Bool.true_bne, Bool.not_true, Bool.not_false, Bool.and_true, Bool.true_and, Bool.and_false, Bool.false_and, Bool.or_true, Bool.true_or, Bool.or_false, Bool.false_or, cond_true, cond_false, List.getElem?_toArray, List.getElem?_cons_zero, List.getElem?_cons_succ, Nat.zero_add, Nat.add_zero, Nat.reduceAdd, forall_const]
  rw [Blk.recO_len] at hR
  rcases Blk.chk_or b with h0 | h0
  · have hck := Blk.chk_ok h0
    rw [if_pos h0] at hR
    simp only [h0, nilc_some, fad_mk, pik_true, pik_false, cnd_true, cnd_false, gif_same, gif_tf, gif_ft, gif_undef, bi_add, bi_sub, bi_mul, bi_eql, bi_neq, bi_lss, bi_leq, bi_gtr, bi_geq, notB_bool, cvi_int, lenS_mk, lenT_mk, ext0, ext1, ext2, nilP_mk, nilS_mk, fldv_agg, jn0_k, jn1_k, jn2_k, jn1_and, jn1_or, ex_some, Option.isNone_some, Option.isNone_none, Bool.false_bne, Bool.bne_true, Bool.bne_false, Bool.true_bne, Bool.not_true, Bool.not_false, Bool.and_true, Bool.true_and, Bool.and_false, Bool.false_and, Bool.or_true, Bool.true_or, Bool.or_false, Bool.false_or, cond_true, cond_false, List.getElem?_toArray, List.getElem?_cons_zero, List.getElem?_cons_succ, Nat.zero_add, Nat.add_zero, Nat.reduceAdd, forall_const, show ((0 : Int) != 0) = false from rfl, L_api_Block hs2.blk, L_api_Block__Parent hs2.blk, L_api_Block__Height hs2.blk, L_api_Block__Data hs2.blk, (hs2.rdB hb).len]
    refine hR _ _ ⟨?_, hs2.fr0⟩
    rw [wi64 (x := 58 + (b.d.length : Int)) (by omega) (by omega), wi64 (by omega) (by omega)]
    congr 1
    omega
  · rw [if_neg (by omega)] at hR
    simp only [h0, nilc_some, fad_mk, pik_true, pik_false, cnd_true, cnd_false, gif_same, gif_tf, gif_ft, gif_undef, bi_add, bi_sub, bi_mul, bi_eql, bi_neq, bi_lss, bi_leq, bi_gtr, bi_geq, notB_bool, cvi_int, lenS_mk, lenT_mk, ext0, ext1, ext2, nilP_mk, nilS_mk, fldv_agg, jn0_k, jn1_k, jn2_k, jn1_and, jn1_or, ex_some, Option.isNone_some, Option.isNone_none, Bool.false_bne, Bool.bne_true, Bool.bne_false, Bool.true_bne, Bool.not_true, Bool.not_false, Bool.and_true, Bool.true_and, Bool.and_false, Bool.false_and, Bool.or_true, Bool.true_or, Bool.or_false, Bool.false_or, cond_true, cond_false, List.getElem?_toArray, List.getElem?_cons_zero, List.getElem?_cons_succ, Nat.zero_add, Nat.add_zero, Nat.reduceAdd, forall_const, show ((30 : Int) != 0) = true from rfl]
    exact hR _ _ ⟨rfl, hs2.fr0⟩
theorem rRecSize_spec (hb : RdB w.heap v b.d) (hh : b.h ≤ maxI) : cal P f_ref09_Size [bq b v] w fun r w' => r = .int .i64 b.recO.length ∧ Fr [] w w' := by
  refine s_ref09_Size fun R hR => ?_
  unfold c_ref09_Size
  refine bxQ (Sep.start w) fun g w1 hs => ?_
  simp only [L_api_Block hs.blk, L_api_Block__Parent hs.blk, L_api_Block__Height hs.blk, L_api_Block__Data hs.blk]
  refine cal_i (rRecBytes_spec (hs.rdB hb) hh) ?_
  rintro _ w2 ⟨s2, rfl, hs2⟩
  replace hs2 := hs.join hs2
  simp only [nilc_some, fad_mk, pik_true, pik_false, cnd_true, cnd_false, gif_same, gif_tf, gif_ft, gif_undef, bi_add, bi_sub, bi_mul, bi_eql, bi_neq, bi_lss, bi_leq, bi_gtr, bi_geq, notB_bool, cvi_int, lenS_mk, lenT_mk, ext0, ext1, ext2, nilP_mk, nilS_mk, fldv_agg, jn0_k, jn1_k, jn2_k, jn1_and, jn1_or, ex_some, Option.isNone_some, Option.isNone_none, Bool.false_bne, Bool.bne_true, Bool.bne_false, Bool.true_bne, Bool.not_true, Bool.not_false, Bool.and_true, Bool.true_and, Bool.and_false, Bool.false_and, Bool.or_true, Bool.true_or, Bool.or_false, Bool.false_or, cond_true, cond_false, List.getElem?_toArray, List.getElem?_cons_zero, List.getElem?_cons_succ, Nat.zero_add, Nat.add_zero, Nat.reduceAdd, forall_const, (Sep.rd hs2).len]
  exact hR _ _ ⟨rfl, hs2.fr0⟩
end
end Go.Fx
set_option linter.unusedVariables false
set_option linter.unusedSimpArgs false
namespace Go.Fx
def gpay (r : List UInt8) (n : Nat) : List UInt8 := (r.drop 12).take n
def goodR (r : List UInt8) (n : Nat) : Prop := okP (gpay r n) ∧ (parB (gpay r n)).rcd = r.take (20 + n)
instance (r : List UInt8) (n : Nat) : Decidable (goodR r n) := by unfold goodR; infer_instance
/-- What stands at the beginning of r, and how many bytes it has; its error. -/
def takeR (r : List UInt8) : Blk × Nat × Int :=
  if r.length < 12 then (Blk.none, 0, 11)
  else if 246 < ofBe (r.take 4) then (Blk.none, 0, 90)
  else if r.length < 20 + ofBe (r.take 4) then (Blk.none, 0, 11)
  else if goodR r (ofBe (r.take 4)) then (parB (gpay r (ofBe (r.take 4))), 20 + ofBe (r.take 4), 0) else (Blk.none, 0, 90)
def takeX (l : List UInt8) (a : Int) : Blk × Int × Int :=
  if a < 0 ∨ (l.length : Int) < a then (Blk.none, 0, 1)
  else ((takeR (l.drop a.toNat)).1, (if (takeR (l.drop a.toNat)).2.2 = 0 then a + (takeR (l.drop a.toNat)).2.1 else 0), (takeR (l.drop a.toNat)).2.2)
theorem cut_rec {r : List UInt8} {n : Nat} : r.take (20 + n) = r.take 4 ++ (r.drop 4).take 8 ++ gpay r n ++ (r.drop (12 + n)).take 8 := by
  have h1 : r.take (20 + n) = r.take 4 ++ (r.drop 4).take (8 + (n + 8)) := by rw [← List.take_add]; congr 1; omega
  have h2 : (r.drop 4).take (8 + (n + 8)) = (r.drop 4).take 8 ++ (r.drop 12).take (n + 8) := by rw [List.take_add, List.drop_drop]
  have h3 : (r.drop 12).take (n + 8) = gpay r n ++ (r.drop (12 + n)).take 8 := by rw [List.take_add, List.drop_drop]; rfl
  rw [h1, h2, h3]
  simp only [List.append_assoc]
theorem cut_hd {r : List UInt8} {n : Nat} : r.take (12 + n) = r.take 4 ++ (r.drop 4).take 8 ++ gpay r n := by
  have h1 : r.take (12 + n) = r.take 4 ++ (r.drop 4).take (8 + n) := by rw [← List.take_add]; congr 1; omega
  have h2 : (r.drop 4).take (8 + n) = (r.drop 4).take 8 ++ (r.drop 12).take n := by rw [List.take_add, List.drop_drop]
  rw [h1, h2]
  simp only [gpay, List.append_assoc]
theorem good_iff {r : List UInt8} (hl : 20 + ofBe (r.take 4) ≤ r.length) (hok : okP (gpay r (ofBe (r.take 4)))) :
    (parB (gpay r (ofBe (r.take 4)))).rcd = r.take (20 + ofBe (r.take 4)) ↔ (parB (gpay r (ofBe (r.take 4)))).h.toNat = ofBe ((r.drop 4).take 8) ∧ tail8 (r.take (12 + ofBe (r.take 4))) = (r.drop (12 + ofBe (r.take 4))).take 8 := by
  have h4 : (r.take 4).length = 4 := by simp; omega
  have h8 : ((r.drop 4).take 8).length = 8 := by simp; omega
  have hb4 := be_ofBe (r.take 4)
  have hb8 := be_ofBe ((r.drop 4).take 8)
  rw [h4] at hb4
  rw [h8] at hb8
  generalize hn : ofBe (r.take 4) = n at *
  have hp : (gpay r n).length = n := by simp [gpay]; omega
  have hx : (parB (gpay r n)).bytes = gpay r n := hok.2.2.2
  have hh : (parB (gpay r n)).h ≤ maxI := hok.2.1
  generalize parB (gpay r n) = x at *
  have hhd : x.hd = r.take 4 ++ be 8 x.h.toNat ++ gpay r n := by unfold Blk.hd; rw [hx, hp, hb4]
  unfold Blk.rcd
  rw [hhd, cut_rec, cut_hd]
  constructor
  · intro h
    have h1 := List.append_inj h (by simp only [List.length_append, be_length, h8])
    have h2 := List.append_inj h1.1 (by simp only [List.length_append, be_length, h8])
    have h3 := (List.append_inj h2.1 rfl).2
    refine ⟨?_, ?_⟩
    · have := congrArg ofBe h3
      rw [ofBe_b8 (by unfold maxI at hh; omega)] at this
      exact this
    · rw [← h3]; exact h1.2
  · rintro ⟨h1, h2⟩
    have h3 : be 8 x.h.toNat = (r.drop 4).take 8 := by rw [h1, hb8]
    rw [h3, h2]
theorem goodR_iff {r : List UInt8} (hl : 20 + ofBe (r.take 4) ≤ r.length) : goodR r (ofBe (r.take 4)) ↔ okP (gpay r (ofBe (r.take 4))) ∧ (parB (gpay r (ofBe (r.take 4)))).h.toNat = ofBe ((r.drop 4).take 8) ∧ tail8 (r.take (12 + ofBe (r.take 4))) = (r.drop (12 + ofBe (r.take 4))).take 8 := by
  constructor
  · rintro ⟨h1, h2⟩
    exact ⟨h1, (good_iff hl h1).1 h2⟩
  · rintro ⟨h1, h2⟩
    exact ⟨h1, (good_iff hl h1).2 h2⟩
section
variable {w0 w : World} {As : List Asn} {v : Value} {l : List UInt8} {a : Int}
abbrev nb (g : Nat) : Asn := blk g (Rdr.cells Q_api_Block (vz 32, (0 : Int), Value.slice Option.none 0 0)).toArray T_api_Block
theorem recTake_spec (hc : Cub w) (hb : RdB w.heap v l) (hcap : capOk v) (hl : l.length ≤ 9223372036854775807) (ha : -9223372036854775808 ≤ a ∧ a ≤ 9223372036854775807) : cal P f_rec_Take [v, .int .i64 a] w fun r w' =>
    ∃ v', r = .tuple #[bq (takeX l a).1 v', .int .i64 (takeX l a).2.1, .int .i64 (takeX l a).2.2] ∧ Sep w w' [ownB v' (takeX l a).1.d] := by
  refine s_rec_Take fun R hR => ?_
  unfold c_rec_Take
  refine alloc_s (Sep.start w) (A_api_Block w) fun g2 w1 hs1 => ?_
  have bad : ∀ {z : World} {Bs : List Asn} {c : Int}, Sep w z (nb g2 :: Bs) → takeX l a = (Blk.none, 0, c) → rdP P (Instr.build T_api_Block #[]) z fun t52 => stN 34 (.pointer (some ⟨g2, 0, none⟩)) t52 z fun w => ldN 34 (.pointer (some ⟨g2, 0, none⟩)) w.heap fun r1 => R (.tuple #[r1, .int .i64 0, .int .i64 c]) w := fun {z Bs c} h hp => by
    rw [B_api_Block]
    refine St_api_Block h (one_api_Block rfl) fun w10 hs10 => ?_
    simp only [L_api_Block hs10.blk, L_api_Block__Parent hs10.blk, L_api_Block__Height hs10.blk, L_api_Block__Data hs10.blk]
    rw [hp] at hR
    exact hR _ _ ⟨.slice none 0 0, rfl, ((Sep.start w).old hs10.fr0).nil⟩
  simp only [nilc_some, fad_mk, pik_true, pik_false, cnd_true, cnd_false, gif_same, gif_tf, gif_ft, gif_undef, bi_add, bi_sub, bi_mul, bi_eql, bi_neq, bi_lss, bi_leq, bi_gtr, bi_geq, notB_bool, cvi_int, lenS_mk, lenT_mk, ext0, ext1, ext2, nilP_mk, nilS_mk, fldv_agg, jn0_k, jn1_k, jn2_k, jn1_and, jn1_or, ex_some, Option.isNone_some, Option.isNone_none, Bool.false_bne, Bool.bne_true, Bool.bne_false, Bool.true_bne, Bool.not_true, Bool.not_false, Bool.and_true, Bool.true_and, Bool.and_false, Bool.false_and, Bool.or_true, Bool.true_or, Bool.or_false, Bool.false_or, cond_true, cond_false, List.getElem?_toArray, List.getElem?_cons_zero, List.getElem?_cons_succ, Nat.zero_add, Nat.add_zero, Nat.reduceAdd, forall_const, hb.len]
  rw [cnd_bool]
  refine ⟨fun h => ?_, fun h => ?_⟩
  · simp only [Bool.or_eq_true, decide_eq_true_eq] at h
    refine bad hs1 ?_
    unfold takeX
    rw [if_pos (by omega)]
  simp only [Bool.or_eq_false_iff, decide_eq_false_iff_not] at h
  obtain ⟨i, rfl⟩ := Int.eq_ofNat_of_zero_le (show 0 ≤ a by omega)
  have hx : takeX l (i : Int) = ((takeR (l.drop i)).1, (if (takeR (l.drop i)).2.2 = 0 then (i : Int) + (takeR (l.drop i)).2.1 else 0), (takeR (l.drop i)).2.2) := by unfold takeX; rw [if_neg (by omega)]; rfl
  have hil : i ≤ l.length := by omega
  obtain ⟨av, cv, rfl⟩ := hb.form
  have hcv : l.length ≤ cv := hcap _ _ _ rfl
  rw [slc_from hil]
  have hr0 : ∀ {z : World} {Bs : List Asn}, Sep w z Bs → RdB z.heap (.slice (if cv = i then av else av.map (·.add (i * 1))) (l.length - i) (cv - i)) (l.drop i) := fun {z Bs} hz => (hz.rdB hb).drop (k := i) hil hcv (cv - i)
  generalize (if cv = i then av else av.map (·.add (i * 1))) = ar at *
  have hrl : l.length - i = (l.drop i).length := by simp
  rw [hrl] at hr0 ⊢
  obtain ⟨rc, hrc⟩ : ∃ rc, rc = cv - i := ⟨_, rfl⟩
  rw [← hrc] at hr0 ⊢
  have hrcl : (l.drop i).length ≤ rc := by simp; omega
  have hrm : i + (l.drop i).length ≤ 9223372036854775807 := by simp; omega
  generalize l.drop i = r at *
  clear hrl hrc
  simp only [nilc_some, fad_mk, pik_true, pik_false, cnd_true, cnd_false, gif_same, gif_tf, gif_ft, gif_undef, bi_add, bi_sub, bi_mul, bi_eql, bi_neq, bi_lss, bi_leq, bi_gtr, bi_geq, notB_bool, cvi_int, lenS_mk, lenT_mk, ext0, ext1, ext2, nilP_mk, nilS_mk, fldv_agg, jn0_k, jn1_k, jn2_k, jn1_and, jn1_or, ex_some, Option.isNone_some, Option.isNone_none, Bool.false_bne, Bool.bne_true, Bool.bne_false, Bool.true_bne, Bool.not_true, Bool.not_false, Bool.and_true, Bool.true_and, Bool.and_false, Bool.false_and, Bool.or_true, Bool.true_or, Bool.or_false, Bool.false_or, cond_true, cond_false, List.getElem?_toArray, List.getElem?_cons_zero, List.getElem?_cons_succ, Nat.zero_add, Nat.add_zero, Nat.reduceAdd, forall_const]
  rw [cnd_bool]
  refine ⟨fun h => ?_, fun h12 => ?_⟩
  · refine bad hs1 ?_
    have : r.length < 12 := by simp at h; omega
    rw [hx]; unfold takeR; rw [if_pos this]; rfl
  have h12 : ¬ r.length < 12 := by simp at h12; omega
  rw [show (Value.int .i64 4) = .int .i64 ((4 : Nat) : Int) from rfl, slc_to (by omega)]
  have h4 : (r.take 4).length = 4 := by simp; omega
  refine cal_i (ReadS ((hr0 hs1).take (k := 4) (by omega) rc) (by omega)) ?_
  rintro _ w2 ⟨gu, s2, rfl, hs2⟩
  replace hs2 := hs1.join hs2
  refine cal_i (uIntS hs2) ?_
  rintro _ w3 ⟨rfl, s3, hs3⟩
  have hs3 : Sep w w3 [nb g2] := hs3.tail.tail
  have et : (tk 4 (r.take 4) 0).1 = r.take 4 := by unfold tk; rw [if_pos rfl, if_neg (by omega)]; exact List.take_of_length_le (Nat.le_of_eq h4)
  rw [et]
  have hn4 := ofBe_lt (r.take 4)
  rw [h4] at hn4
  obtain ⟨n, hn⟩ : ∃ n, n = ofBe (r.take 4) := ⟨_, rfl⟩
  rw [← hn] at hn4 ⊢
  have hR4 : takeR r = if 246 < n then (Blk.none, 0, 90) else if r.length < 20 + n then (Blk.none, 0, 11) else if goodR r n then (parB (gpay r n), 20 + n, 0) else (Blk.none, 0, 90) := by unfold takeR; rw [if_neg h12, ← hn]
  simp only [nilc_some, fad_mk, pik_true, pik_false, cnd_true, cnd_false, gif_same, gif_tf, gif_ft, gif_undef, bi_add, bi_sub, bi_mul, bi_eql, bi_neq, bi_lss, bi_leq, bi_gtr, bi_geq, notB_bool, cvi_int, lenS_mk, lenT_mk, ext0, ext1, ext2, nilP_mk, nilS_mk, fldv_agg, jn0_k, jn1_k, jn2_k, jn1_and, jn1_or, ex_some, Option.isNone_some, Option.isNone_none, Bool.false_bne, Bool.bne_true, Bool.bne_false, Bool.true_bne, Bool.not_true, Bool.not_false, Bool.and_true, Bool.true_and, Bool.and_false, Bool.false_and, Bool.or_true, Bool.true_or, Bool.or_false, Bool.false_or, cond_true, cond_false, List.getElem?_toArray, List.getElem?_cons_zero, List.getElem?_cons_succ, Nat.zero_add, Nat.add_zero, Nat.reduceAdd, forall_const]
  rw [cnd_bool]
  refine ⟨fun h => ?_, fun h246 => ?_⟩
  · refine bad hs3 ?_
    have : 246 < n := by simp at h; omega
    rw [hx, hR4, if_pos this]; rfl
  have h246 : ¬ 246 < n := by simp at h246; omega
  rw [if_neg h246] at hR4
  have e1 : IntKind.i64.wrap (12 + IntKind.i64.wrap (n : Int)) = ((12 + n : Nat) : Int) := by rw [wi64 (x := (n : Int)) (by omega) (by omega), wi64 (by omega) (by omega)]; omega
  have e2 : IntKind.i64.wrap (((12 + n : Nat) : Int) + 8) = ((20 + n : Nat) : Int) := by rw [wi64 (by omega) (by omega)]; omega
  simp only [e1, e2, nilc_some, fad_mk, pik_true, pik_false, cnd_true, cnd_false, gif_same, gif_tf, gif_ft, gif_undef, bi_add, bi_sub, bi_mul, bi_eql, bi_neq, bi_lss, bi_leq, bi_gtr, bi_geq, notB_bool, cvi_int, lenS_mk, lenT_mk, ext0, ext1, ext2, nilP_mk, nilS_mk, fldv_agg, jn0_k, jn1_k, jn2_k, jn1_and, jn1_or, ex_some, Option.isNone_some, Option.isNone_none, Bool.false_bne, Bool.bne_true, Bool.bne_false, Bool.true_bne, Bool.not_true, Bool.not_false, Bool.and_true, Bool.true_and, Bool.and_false, Bool.false_and, Bool.or_true, Bool.true_or, Bool.or_false, Bool.false_or, cond_true, cond_false, List.getElem?_toArray, List.getElem?_cons_zero, List.getElem?_cons_succ, Nat.zero_add, Nat.add_zero, Nat.reduceAdd, forall_const]
  rw [cnd_bool]
  refine ⟨fun h => ?_, fun h20 => ?_⟩
  · refine bad hs3 ?_
    have : r.length < 20 + n := by simp at h; omega
    rw [hx, hR4, if_pos this]; rfl
  have h20 : ¬ r.length < 20 + n := by simp at h20; omega
  rw [if_neg h20] at hR4
  rw [show (Value.int .i64 12) = .int .i64 ((12 : Nat) : Int) from rfl, slc_mid (by omega) (by omega)]
  have hpay : ∀ {z : World} {Bs : List Asn}, Sep w z Bs → RdB z.heap (.slice (if rc = 12 then ar else ar.map (·.add (12 * 1))) (12 + n - 12) (rc - 12)) (gpay r n) := fun {z Bs} hz => by
    have := RdB.mid (i := 12) (j := 12 + n) (hr0 hz) hrcl (by omega) (by omega)
    rw [Nat.add_sub_cancel_left] at this
    rw [Nat.add_sub_cancel_left]
    exact this
  refine cal_i (Parse_spec (hpay hs3)) ?_
  rintro _ w4 ⟨v4, rfl, hs4⟩
  replace hs4 := hs3.join hs4
  simp only [nilc_some, fad_mk, pik_true, pik_false, cnd_true, cnd_false, gif_same, gif_tf, gif_ft, gif_undef, bi_add, bi_sub, bi_mul, bi_eql, bi_neq, bi_lss, bi_leq, bi_gtr, bi_geq, notB_bool, cvi_int, lenS_mk, lenT_mk, ext0, ext1, ext2, nilP_mk, nilS_mk, fldv_agg, jn0_k, jn1_k, jn2_k, jn1_and, jn1_or, ex_some, Option.isNone_some, Option.isNone_none, Bool.false_bne, Bool.bne_true, Bool.bne_false, Bool.true_bne, Bool.not_true, Bool.not_false, Bool.and_true, Bool.true_and, Bool.and_false, Bool.false_and, Bool.or_true, Bool.true_or, Bool.or_false, Bool.false_or, cond_true, cond_false, List.getElem?_toArray, List.getElem?_cons_zero, List.getElem?_cons_succ, Nat.zero_add, Nat.add_zero, Nat.reduceAdd, forall_const]
  refine alloc_s hs4 (A_api_Block w4) fun g5 w5 hs5 => ?_
  refine St_api_Block hs5 (one_api_Block (Sep.one hs5.p1)) fun w6 hs6 => ?_
  rw [slc_to (by omega)]
  refine cal_i (shaSum_spec (hc.fr hs6.fr0) ((hr0 hs6).take (k := 12 + n) (by omega) rc) (by simp; omega)) ?_
  rintro _ w7 ⟨rfl, hf7⟩
  have hs7 := hs6.old hf7
  refine alloc_s hs7 (A_api_ID w7) fun g8 w8 hs8 => ?_
  refine St_api_ID hs8 fun w9 hs9 => ?_
  have gI := goodR_iff (r := r) (by rw [← hn]; omega)
  rw [← hn] at gI
  have e3 : IntKind.i64.wrap (IntKind.i64.wrap ((i : Int) + ((12 + n : Nat) : Int)) + 8) = (i : Int) + ((20 + n : Nat) : Int) := by
    rw [wi64 (x := (i : Int) + ((12 + n : Nat) : Int)) (by omega) (by omega), wi64 (by omega) (by omega)]; omega
  have hng : ¬ goodR r n → takeX l (i : Int) = (Blk.none, 0, 90) := fun hg => by rw [hx, hR4, if_neg hg]; rfl
  replace hs9 : Sep w w9 [blk g8 (Rdr.cells (rVec 32) (shaM (r.take (12 + n)))).toArray T_api_ID, bb g5 (parse (gpay r n)) v4, ownB v4 (parse (gpay r n)).d, nb g2] := hs9
  refine drH_S hs9 fun w10 hs10 _ => ?_
  by_cases hok : okP (gpay r n)
  case neg =>
    have he : parseE (gpay r n) = 30 := if_neg hok
    simp only [he, nilc_some, fad_mk, pik_true, pik_false, cnd_true, cnd_false, gif_same, gif_tf, gif_ft, gif_undef, bi_add, bi_sub, bi_mul, bi_eql, bi_neq, bi_lss, bi_leq, bi_gtr, bi_geq, notB_bool, cvi_int, lenS_mk, lenT_mk, ext0, ext1, ext2, nilP_mk, nilS_mk, fldv_agg, jn0_k, jn1_k, jn2_k, jn1_and, jn1_or, ex_some, Option.isNone_some, Option.isNone_none, Bool.false_bne, Bool.bne_true, Bool.bne_false, Bool.true_bne, Bool.not_true, Bool.not_false, Bool.and_true, Bool.true_and, Bool.and_false, Bool.false_and, Bool.or_true, Bool.true_or, Bool.or_false, Bool.false_or, cond_true, cond_false, List.getElem?_toArray, List.getElem?_cons_zero, List.getElem?_cons_succ, Nat.zero_add, Nat.add_zero, Nat.reduceAdd, forall_const, show ((30 : Int) != 0) = true from rfl]
    exact bad hs10.p3 (hng fun hg => hok hg.1)
  have hp : parse (gpay r n) = parB (gpay r n) := if_pos hok
  have he : parseE (gpay r n) = 0 := if_pos hok
  have hck := Blk.chk_ok hok.2.2.1
  have hh := hok.2.1
  rw [hp] at hs10
  simp only [hp, he, nilc_some, fad_mk, pik_true, pik_false, cnd_true, cnd_false, gif_same, gif_tf, gif_ft, gif_undef, bi_add, bi_sub, bi_mul, bi_eql, bi_neq, bi_lss, bi_leq, bi_gtr, bi_geq, notB_bool, cvi_int, lenS_mk, lenT_mk, ext0, ext1, ext2, nilP_mk, nilS_mk, fldv_agg, jn0_k, jn1_k, jn2_k, jn1_and, jn1_or, ex_some, Option.isNone_some, Option.isNone_none, Bool.false_bne, Bool.bne_true, Bool.bne_false, Bool.true_bne, Bool.not_true, Bool.not_false, Bool.and_true, Bool.true_and, Bool.and_false, Bool.false_and, Bool.or_true, Bool.true_or, Bool.or_false, Bool.false_or, cond_true, cond_false, List.getElem?_toArray, List.getElem?_cons_zero, List.getElem?_cons_succ, Nat.zero_add, Nat.add_zero, Nat.reduceAdd, forall_const, show ((0 : Int) != 0) = false from rfl]
  obtain ⟨x, hxx⟩ : ∃ x, x = parB (gpay r n) := ⟨_, rfl⟩
  rw [← hxx] at hs10 gI hck hh hR4
  rw [← hxx]
  obtain ⟨As, hAs⟩ : ∃ As, As = [blk g8 (Rdr.cells (rVec 32) (shaM (r.take (12 + n)))).toArray T_api_ID, bb g5 x v4, ownB v4 x.d, nb g2] := ⟨_, rfl⟩
  replace hs10 : Sep w w10 As := by rw [hAs]; exact hs10
  rw [← hAs]
  have h48 : RdB w.heap (.slice ar r.length rc) r := hr0 (Sep.start w)
  refine jn1_dup ?_
  refine rdS_ld (v := .int .i64 x.h) (fun u hu K hk => by rw [hAs] at hu; exact (L_api_Block__Height (Sep.p1 hu).blk K).mpr hk) ?_
  simp only [nilc_some, fad_mk, pik_true, pik_false, cnd_true, cnd_false, gif_same, gif_tf, gif_ft, gif_undef, bi_add, bi_sub, bi_mul, bi_eql, bi_neq, bi_lss, bi_leq, bi_gtr, bi_geq, notB_bool, cvi_int, lenS_mk, lenT_mk, ext0, ext1, ext2, nilP_mk, nilS_mk, fldv_agg, jn0_k, jn1_k, jn2_k, jn1_and, jn1_or, ex_some, Option.isNone_some, Option.isNone_none, Bool.false_bne, Bool.bne_true, Bool.bne_false, Bool.true_bne, Bool.not_true, Bool.not_false, Bool.and_true, Bool.true_and, Bool.and_false, Bool.false_and, Bool.or_true, Bool.true_or, Bool.or_false, Bool.false_or, cond_true, cond_false, List.getElem?_toArray, List.getElem?_cons_zero, List.getElem?_cons_succ, Nat.zero_add, Nat.add_zero, Nat.reduceAdd, forall_const, u64_h hck.1 hh]
  rw [slc_mid (by omega) (by omega)]
  have h8 : ((r.drop 4).take 8).length = 8 := by simp; omega
  refine efS_i (cal_i (ReadS (l := (r.drop 4).take 8) (RdB.mid (i := 4) (j := 12) (hr0 hs10) hrcl (by omega) (by omega)) (by omega)) ?_)
  rintro _ w11 ⟨gu2, s11, rfl, hs11⟩
  replace hs11 := hs10.join hs11
  refine ⟨hs11.tail.tail, ?_⟩
  refine efS_i (cal_i (uLongS hs11) ?_)
  rintro _ w12 ⟨rfl, s12, hs12⟩
  have hs12 : Sep w w12 As := hs12.tail.tail
  refine ⟨hs12, ?_⟩
  have et8 : (tk 8 ((r.drop 4).take 8) 0).1 = (r.drop 4).take 8 := by unfold tk; rw [if_pos rfl, if_neg (by omega)]; exact List.take_of_length_le (Nat.le_of_eq h8)
  rw [et8]
  by_cases hcmp : x.h.toNat = ofBe ((r.drop 4).take 8)
  case neg =>
    have e : (((x.h.toNat : Nat) : Int) != ((ofBe ((r.drop 4).take 8) : Nat) : Int)) = true := by simp only [bne_iff_ne, ne_eq]; omega
    simp only [nilc_some, fad_mk, pik_true, pik_false, cnd_true, cnd_false, gif_same, gif_tf, gif_ft, gif_undef, bi_add, bi_sub, bi_mul, bi_eql, bi_neq, bi_lss, bi_leq, bi_gtr, bi_geq, notB_bool, cvi_int, lenS_mk, lenT_mk, ext0, ext1, ext2, nilP_mk, nilS_mk, fldv_agg, jn0_k, jn1_k, jn2_k, jn1_and, jn1_or, ex_some, Option.isNone_some, Option.isNone_none, Bool.false_bne, Bool.bne_true, Bool.bne_false, Bool.true_bne, Bool.not_true, Bool.not_false, Bool.and_true, Bool.true_and, Bool.and_false, Bool.false_and, Bool.or_true, Bool.true_or, Bool.or_false, Bool.false_or, cond_true, cond_false, List.getElem?_toArray, List.getElem?_cons_zero, List.getElem?_cons_succ, Nat.zero_add, Nat.add_zero, Nat.reduceAdd, forall_const, e]
    rw [hAs] at hs12
    exact bad hs12.p3 (hng fun hg => hcmp (gI.1 hg).2.1)
  have e : (((x.h.toNat : Nat) : Int) != ((ofBe ((r.drop 4).take 8) : Nat) : Int)) = false := by rw [hcmp]; simp
  simp only [nilc_some, fad_mk, pik_true, pik_false, cnd_true, cnd_false, gif_same, gif_tf, gif_ft, gif_undef, bi_add, bi_sub, bi_mul, bi_eql, bi_neq, bi_lss, bi_leq, bi_gtr, bi_geq, notB_bool, cvi_int, lenS_mk, lenT_mk, ext0, ext1, ext2, nilP_mk, nilS_mk, fldv_agg, jn0_k, jn1_k, jn2_k, jn1_and, jn1_or, ex_some, Option.isNone_some, Option.isNone_none, Bool.false_bne, Bool.bne_true, Bool.bne_false, Bool.true_bne, Bool.not_true, Bool.not_false, Bool.and_true, Bool.true_and, Bool.and_false, Bool.false_and, Bool.or_true, Bool.true_or, Bool.or_false, Bool.false_or, cond_true, cond_false, List.getElem?_toArray, List.getElem?_cons_zero, List.getElem?_cons_succ, Nat.zero_add, Nat.add_zero, Nat.reduceAdd, forall_const, e]
  refine jn1_dup ?_
  rw [show (Value.int .i64 8) = .int .i64 ((8 : Nat) : Int) from rfl, sla_to (by omega), slc_mid (by omega) (by omega)]
  have hrs : RdB w12.heap (.slice (some ⟨g8, 0, none⟩) 8 32) (tail8 (r.take (12 + n))) := by
    rw [hAs] at hs12
    exact rd_arr (k := 8) hs12 (by omega)
  have hrt := RdB.mid (i := 12 + n) (j := 20 + n) (hr0 hs12) hrcl (by omega) (by omega)
  have e20 : 20 + n - (12 + n) = 8 := by omega
  rw [e20] at hrt
  rw [e20]
  refine efS_i (cal_i (bEqual_spec hrs hrt) ?_)
  rintro _ _ ⟨rfl, rfl⟩
  refine ⟨hs12, ?_⟩
  simp only [nilc_some, fad_mk, pik_true, pik_false, cnd_true, cnd_false, gif_same, gif_tf, gif_ft, gif_undef, bi_add, bi_sub, bi_mul, bi_eql, bi_neq, bi_lss, bi_leq, bi_gtr, bi_geq, notB_bool, cvi_int, lenS_mk, lenT_mk, ext0, ext1, ext2, nilP_mk, nilS_mk, fldv_agg, jn0_k, jn1_k, jn2_k, jn1_and, jn1_or, ex_some, Option.isNone_some, Option.isNone_none, Bool.false_bne, Bool.bne_true, Bool.bne_false, Bool.true_bne, Bool.not_true, Bool.not_false, Bool.and_true, Bool.true_and, Bool.and_false, Bool.false_and, Bool.or_true, Bool.true_or, Bool.or_false, Bool.false_or, cond_true, cond_false, List.getElem?_toArray, List.getElem?_cons_zero, List.getElem?_cons_succ, Nat.zero_add, Nat.add_zero, Nat.reduceAdd, forall_const]
  rw [cnd_bool]
  rw [hAs] at hs12
  refine ⟨fun h => ?_, fun h => ?_⟩
  · have h : ¬ tail8 (r.take (12 + n)) = (r.drop (12 + n)).take 8 := by simpa using h
    exact bad hs12.p3 (hng fun hg => h (gI.1 hg).2.2)
  · have h : tail8 (r.take (12 + n)) = (r.drop (12 + n)).take 8 := by simpa using h
    have hg : goodR r n := gI.2 ⟨hok, hcmp, h⟩
    rw [if_pos hg] at hR4
    simp only [L_api_Block (Sep.p1 hs12).blk, L_api_Block__Parent (Sep.p1 hs12).blk, L_api_Block__Height (Sep.p1 hs12).blk, L_api_Block__Data (Sep.p1 hs12).blk]
    refine St_api_Block hs12.p3 (one_api_Block (Sep.one (hs12.pick [2] 4))) fun w13 hs13 => ?_
    simp only [L_api_Block hs13.blk, L_api_Block__Parent hs13.blk, L_api_Block__Height hs13.blk, L_api_Block__Data hs13.blk, e3]
    rw [hx, hR4] at hR
    exact hR _ _ ⟨v4, by simp, Sep.dropR (As := [ownB v4 x.d]) hs13.p3⟩
theorem rRecTake_spec (hb : RdB w.heap v l) (hcap : capOk v) (hl : l.length ≤ 9223372036854775807) (ha : -9223372036854775808 ≤ a ∧ a ≤ 9223372036854775807) : cal P f_ref09_Take [v, .int .i64 a] w fun r w' =>
    ∃ v', r = .tuple #[bq (takeX l a).1 v', .int .i64 (takeX l a).2.1, .int .i64 (takeX l a).2.2] ∧ Sep w w' [ownB v' (takeX l a).1.d] := by
  refine s_ref09_Take fun R hR => ?_
  unfold c_ref09_Take
  refine alloc_s (Sep.start w) (A_api_Block w) fun g2 w1 hs1 => ?_
  have bad : ∀ {z : World} {Bs : List Asn} {c : Int}, Sep w z (nb g2 :: Bs) → takeX l a = (Blk.none, 0, c) → rdP P (Instr.build T_api_Block #[]) z fun t52 => stN 34 (.pointer (some ⟨g2, 0, none⟩)) t52 z fun w => ldN 34 (.pointer (some ⟨g2, 0, none⟩)) w.heap fun r1 => R (.tuple #[r1, .int .i64 0, .int .i64 c]) w := fun {z Bs c} h hp => by
    rw [B_api_Block]
    refine St_api_Block h (one_api_Block rfl) fun w10 hs10 => ?_
    simp only [L_api_Block hs10.blk, L_api_Block__Parent hs10.blk, L_api_Block__Height hs10.blk, L_api_Block__Data hs10.blk]
    rw [hp] at hR
    exact hR _ _ ⟨.slice none 0 0, rfl, ((Sep.start w).old hs10.fr0).nil⟩
  simp only [nilc_some, fad_mk, pik_true, pik_false, cnd_true, cnd_false, gif_same, gif_tf, gif_ft, gif_undef, bi_add, bi_sub, bi_mul, bi_eql, bi_neq, bi_lss, bi_leq, bi_gtr, bi_geq, notB_bool, cvi_int, lenS_mk, lenT_mk, ext0, ext1, ext2, nilP_mk, nilS_mk, fldv_agg, jn0_k, jn1_k, jn2_k, jn1_and, jn1_or, ex_some, Option.isNone_some, Option.isNone_none, Bool.false_bne, Bool.bne_true, Bool.bne_false, Bool.true_bne, Bool.not_true, Bool.not_false, Bool.and_true, Bool.true_and, Bool.and_false, Bool.false_and, Bool.or_true, Bool.true_or, Bool.or_false, Bool.false_or, cond_true, cond_false, List.getElem?_toArray, List.getElem?_cons_zero, List.getElem?_cons_succ, Nat.zero_add, Nat.add_zero, Nat.reduceAdd, forall_const, hb.len]
  rw [cnd_bool]
  refine ⟨fun h => ?_, fun h => ?_⟩
  · simp only [Bool.or_eq_true, decide_eq_true_eq] at h
    refine bad hs1 ?_
    unfold takeX
    rw [if_pos (by omega)]
  simp only [Bool.or_eq_false_iff, decide_eq_false_iff_not] at h
  obtain ⟨i, rfl⟩ := Int.eq_ofNat_of_zero_le (show 0 ≤ a by omega)
  have hx : takeX l (i : Int) = ((takeR (l.drop i)).1, (if (takeR (l.drop i)).2.2 = 0 then (i : Int) + (takeR (l.drop i)).2.1 else 0), (takeR (l.drop i)).2.2) := by unfold takeX; rw [if_neg (by omega)]; rfl
  have hil : i ≤ l.length := by omega
  obtain ⟨av, cv, rfl⟩ := hb.form
  have hcv : l.length ≤ cv := hcap _ _ _ rfl
  rw [slc_from hil]
  have hr0 : ∀ {z : World} {Bs : List Asn}, Sep w z Bs → RdB z.heap (.slice (if cv = i then av else av.map (·.add (i * 1))) (l.length - i) (cv - i)) (l.drop i) := fun {z Bs} hz => (hz.rdB hb).drop (k := i) hil hcv (cv - i)
  generalize (if cv = i then av else av.map (·.add (i * 1))) = ar at *
  have hrl : l.length - i = (l.drop i).length := by simp
  rw [hrl] at hr0 ⊢
  obtain ⟨rc, hrc⟩ : ∃ rc, rc = cv - i := ⟨_, rfl⟩
  rw [← hrc] at hr0 ⊢
  have hrcl : (l.drop i).length ≤ rc := by simp; omega
  have hrm : i + (l.drop i).length ≤ 9223372036854775807 := by simp; omega
  generalize l.drop i = r at *
  clear hrl hrc
  simp only [nilc_some, fad_mk, pik_true, pik_false, cnd_true, cnd_false, gif_same, gif_tf, gif_ft, gif_undef, bi_add, bi_sub, bi_mul, bi_eql, bi_neq, bi_lss, bi_leq, bi_gtr, bi_geq, notB_bool, cvi_int, lenS_mk, lenT_mk, ext0, ext1, ext2, nilP_mk, nilS_mk, fldv_agg, jn0_k, jn1_k, jn2_k, jn1_and, jn1_or, ex_some, Option.isNone_some, Option.isNone_none, Bool.false_bne, Bool.bne_true, Bool.bne_false, Bool.true_bne, Bool.not_true, Bool.not_false, Bool.and_true, Bool.true_and, Bool.and_false, Bool.false_and, Bool.or_true, Bool.true_or, Bool.or_false, Bool.false_or, cond_true, cond_false, List.getElem?_toArray, List.getElem?_cons_zero, List.getElem?_cons_succ, Nat.zero_add, Nat.add_zero, Nat.reduceAdd, forall_const]
  rw [cnd_bool]
  refine ⟨fun h => ?_, fun h12 => ?_⟩
  · refine bad hs1 ?_
    have : r.length < 12 := by simp at h; omega
    rw [hx]; unfold takeR; rw [if_pos this]; rfl
  have h12 : ¬ r.length < 12 := by simp at h12; omega
  rw [show (Value.int .i64 4) = .int .i64 ((4 : Nat) : Int) from rfl, slc_to (by omega)]
  have h4 : (r.take 4).length = 4 := by simp; omega
  refine cal_i (rVal_spec ((hr0 hs1).take (k := 4) (by omega) rc) (by omega)) ?_
  rintro _ _ ⟨rfl, rfl⟩
  have hn4 := ofBe_lt (r.take 4)
  rw [h4] at hn4
  obtain ⟨n, hn⟩ : ∃ n, n = ofBe (r.take 4) := ⟨_, rfl⟩
  rw [← hn] at hn4 ⊢
  have hR4 : takeR r = if 246 < n then (Blk.none, 0, 90) else if r.length < 20 + n then (Blk.none, 0, 11) else if goodR r n then (parB (gpay r n), 20 + n, 0) else (Blk.none, 0, 90) := by unfold takeR; rw [if_neg h12, ← hn]
  simp only [nilc_some, fad_mk, pik_true, pik_false, cnd_true, cnd_false, gif_same, gif_tf, gif_ft, gif_undef, bi_add, bi_sub, bi_mul, bi_eql, bi_neq, bi_lss, bi_leq, bi_gtr, bi_geq, notB_bool, cvi_int, lenS_mk, lenT_mk, ext0, ext1, ext2, nilP_mk, nilS_mk, fldv_agg, jn0_k, jn1_k, jn2_k, jn1_and, jn1_or, ex_some, Option.isNone_some, Option.isNone_none, Bool.false_bne, Bool.bne_true, Bool.bne_false, Bool.true_bne, Bool.not_true, Bool.not_false, Bool.and_true, Bool.true_and, Bool.and_false, Bool.false_and, Bool.or_true, Bool.true_or, Bool.or_false, Bool.false_or, cond_true, cond_false, List.getElem?_toArray, List.getElem?_cons_zero, List.getElem?_cons_succ, Nat.zero_add, Nat.add_zero, Nat.reduceAdd, forall_const]
  rw [cnd_bool]
  refine ⟨fun h => ?_, fun h246 => ?_⟩
  · refine bad hs1 ?_
    have : 246 < n := by simp at h; omega
    rw [hx, hR4, if_pos this]; rfl
  have h246 : ¬ 246 < n := by simp at h246; omega
  rw [if_neg h246] at hR4
  have e1 : IntKind.i64.wrap (12 + IntKind.i64.wrap (n : Int)) = ((12 + n : Nat) : Int) := by rw [wi64 (x := (n : Int)) (by omega) (by omega), wi64 (by omega) (by omega)]; omega
  have e2 : IntKind.i64.wrap (((12 + n : Nat) : Int) + 8) = ((20 + n : Nat) : Int) := by rw [wi64 (by omega) (by omega)]; omega
  simp only [e1, e2, nilc_some, fad_mk, pik_true, pik_false, cnd_true, cnd_false, gif_same, gif_tf, gif_ft, gif_undef, bi_add, bi_sub, bi_mul, bi_eql, bi_neq, bi_lss, bi_leq, bi_gtr, bi_geq, notB_bool, cvi_int, lenS_mk, lenT_mk, ext0, ext1, ext2, nilP_mk, nilS_mk, fldv_agg, jn0_k, jn1_k, jn2_k, jn1_and, jn1_or, ex_some, Option.isNone_some, Option.isNone_none, Bool.false_bne, Bool.bne_true, Bool.bne_false, Bool.true_bne, Bool.not_true, Bool.not_false, Bool.and_true, Bool.true_and, Bool.and_false, Bool.false_and, Bool.or_true, Bool.true_or, Bool.or_false, Bool.false_or, cond_true, cond_false, List.getElem?_toArray, List.getElem?_cons_zero, List.getElem?_cons_succ, Nat.zero_add, Nat.add_zero, Nat.reduceAdd, forall_const]
  rw [cnd_bool]
  refine ⟨fun h => ?_, fun h20 => ?_⟩
  · refine bad hs1 ?_
    have : r.length < 20 + n := by simp at h; omega
    rw [hx, hR4, if_pos this]; rfl
  have h20 : ¬ r.length < 20 + n := by simp at h20; omega
  rw [if_neg h20] at hR4
  have hng : ¬ goodR r n → takeX l (i : Int) = (Blk.none, 0, 90) := fun hg => by rw [hx, hR4, if_neg hg]; rfl
  rw [show (Value.int .i64 12) = .int .i64 ((12 : Nat) : Int) from rfl, slc_mid (by omega) (by omega)]
  have hpay : ∀ {z : World} {Bs : List Asn}, Sep w z Bs → RdB z.heap (.slice (if rc = 12 then ar else ar.map (·.add (12 * 1))) (12 + n - 12) (rc - 12)) (gpay r n) := fun {z Bs} hz => by
    have := RdB.mid (i := 12) (j := 12 + n) (hr0 hz) hrcl (by omega) (by omega)
    rw [Nat.add_sub_cancel_left] at this
    rw [Nat.add_sub_cancel_left]
    exact this
  have hpl : (gpay r n).length = n := by simp [gpay]; omega
  refine cal_i (rParse_spec (hpay hs1) (fun a' n' c' he => by
    simp only [Value.slice.injEq] at he
    obtain ⟨_, rfl, rfl⟩ := he
    omega) (by omega)) ?_
  rintro _ w4 ⟨v4, rfl, hs4⟩
  replace hs4 := hs1.join hs4
  simp only [nilc_some, fad_mk, pik_true, pik_false, cnd_true, cnd_false, gif_same, gif_tf, gif_ft, gif_undef, bi_add, bi_sub, bi_mul, bi_eql, bi_neq, bi_lss, bi_leq, bi_gtr, bi_geq, notB_bool, cvi_int, lenS_mk, lenT_mk, ext0, ext1, ext2, nilP_mk, nilS_mk, fldv_agg, jn0_k, jn1_k, jn2_k, jn1_and, jn1_or, ex_some, Option.isNone_some, Option.isNone_none, Bool.false_bne, Bool.bne_true, Bool.bne_false, Bool.true_bne, Bool.not_true, Bool.not_false, Bool.and_true, Bool.true_and, Bool.and_false, Bool.false_and, Bool.or_true, Bool.true_or, Bool.or_false, Bool.false_or, cond_true, cond_false, List.getElem?_toArray, List.getElem?_cons_zero, List.getElem?_cons_succ, Nat.zero_add, Nat.add_zero, Nat.reduceAdd, forall_const]
  refine alloc_s hs4 (A_api_Block w4) fun g5 w5 hs5 => ?_
  refine St_api_Block hs5 (one_api_Block (Sep.one hs5.p1)) fun w6 hs6 => ?_
  by_cases hok : okP (gpay r n)
  case neg =>
    have he : parseE (gpay r n) = 30 := if_neg hok
    simp only [he, nilc_some, fad_mk, pik_true, pik_false, cnd_true, cnd_false, gif_same, gif_tf, gif_ft, gif_undef, bi_add, bi_sub, bi_mul, bi_eql, bi_neq, bi_lss, bi_leq, bi_gtr, bi_geq, notB_bool, cvi_int, lenS_mk, lenT_mk, ext0, ext1, ext2, nilP_mk, nilS_mk, fldv_agg, jn0_k, jn1_k, jn2_k, jn1_and, jn1_or, ex_some, Option.isNone_some, Option.isNone_none, Bool.false_bne, Bool.bne_true, Bool.bne_false, Bool.true_bne, Bool.not_true, Bool.not_false, Bool.and_true, Bool.true_and, Bool.and_false, Bool.false_and, Bool.or_true, Bool.true_or, Bool.or_false, Bool.false_or, cond_true, cond_false, List.getElem?_toArray, List.getElem?_cons_zero, List.getElem?_cons_succ, Nat.zero_add, Nat.add_zero, Nat.reduceAdd, forall_const, show ((30 : Int) != 0) = true from rfl]
    exact bad hs6.p2 (hng fun hg => hok hg.1)
  have hp : parse (gpay r n) = parB (gpay r n) := if_pos hok
  have he : parseE (gpay r n) = 0 := if_pos hok
  have hgd : goodR r n ↔ (parB (gpay r n)).rcd = r.take (20 + n) := ⟨fun h => h.2, fun h => ⟨hok, h⟩⟩
  have hck0 := hok.2.2.1
  have hh := hok.2.1
  rw [hp] at hs6
  simp only [hp, he, nilc_some, fad_mk, pik_true, pik_false, cnd_true, cnd_false, gif_same, gif_tf, gif_ft, gif_undef, bi_add, bi_sub, bi_mul, bi_eql, bi_neq, bi_lss, bi_leq, bi_gtr, bi_geq, notB_bool, cvi_int, lenS_mk, lenT_mk, ext0, ext1, ext2, nilP_mk, nilS_mk, fldv_agg, jn0_k, jn1_k, jn2_k, jn1_and, jn1_or, ex_some, Option.isNone_some, Option.isNone_none, Bool.false_bne, Bool.bne_true, Bool.bne_false, Bool.true_bne, Bool.not_true, Bool.not_false, Bool.and_true, Bool.true_and, Bool.and_false, Bool.false_and, Bool.or_true, Bool.true_or, Bool.or_false, Bool.false_or, cond_true, cond_false, List.getElem?_toArray, List.getElem?_cons_zero, List.getElem?_cons_succ, Nat.zero_add, Nat.add_zero, Nat.reduceAdd, forall_const, show ((0 : Int) != 0) = false from rfl]
  obtain ⟨x, hxx⟩ : ∃ x, x = parB (gpay r n) := ⟨_, rfl⟩
  rw [← hxx] at hs6 hgd hh hck0 hR4
  replace hs6 : Sep w w6 [bb g5 x v4, ownB v4 x.d, nb g2] := hs6
  simp only [L_api_Block hs6.blk, L_api_Block__Parent hs6.blk, L_api_Block__Height hs6.blk, L_api_Block__Data hs6.blk]
  refine cal_i (rRecBytes_spec (b := x) (Sep.rd hs6.p1) hh) ?_
  rintro _ w7 ⟨s7, rfl, hs7⟩
  have ho : x.recO = x.rcd := if_pos hck0
  rw [ho] at hs7
  replace hs7 : Sep w w7 [ownB s7 x.rcd, bb g5 x v4, ownB v4 x.d, nb g2] := hs6.join hs7
  simp only [nilc_some, fad_mk, pik_true, pik_false, cnd_true, cnd_false, gif_same, gif_tf, gif_ft, gif_undef, bi_add, bi_sub, bi_mul, bi_eql, bi_neq, bi_lss, bi_leq, bi_gtr, bi_geq, notB_bool, cvi_int, lenS_mk, lenT_mk, ext0, ext1, ext2, nilP_mk, nilS_mk, fldv_agg, jn0_k, jn1_k, jn2_k, jn1_and, jn1_or, ex_some, Option.isNone_some, Option.isNone_none, Bool.false_bne, Bool.bne_true, Bool.bne_false, Bool.true_bne, Bool.not_true, Bool.not_false, Bool.and_true, Bool.true_and, Bool.and_false, Bool.false_and, Bool.or_true, Bool.true_or, Bool.or_false, Bool.false_or, cond_true, cond_false, List.getElem?_toArray, List.getElem?_cons_zero, List.getElem?_cons_succ, Nat.zero_add, Nat.add_zero, Nat.reduceAdd, forall_const]
  refine drw_s hs7 fun w8 hs8 _ => ?_
  rw [rdP_eq (conv_str UT_bytes UT_uint8 UT_string (Sep.rd hs8)), slc_to (by omega), rdP_eq (conv_str UT_bytes UT_uint8 UT_string ((hr0 hs8).take (k := 20 + n) (by omega) rc)), neS_str]
  rw [cnd_bool]
  refine ⟨fun h => ?_, fun h => ?_⟩
  · have h : ¬ x.rcd = r.take (20 + n) := by simpa using h
    exact bad hs8.p3 (hng fun hg => h (hgd.1 hg))
  · have h : x.rcd = r.take (20 + n) := by simpa using h
    have hg : goodR r n := hgd.2 h
    rw [if_pos hg] at hR4
    simp only [L_api_Block (Sep.p1 hs8).blk, L_api_Block__Parent (Sep.p1 hs8).blk, L_api_Block__Height (Sep.p1 hs8).blk, L_api_Block__Data (Sep.p1 hs8).blk]
    refine St_api_Block hs8.p3 (one_api_Block (Sep.one (hs8.pick [2] 4))) fun w13 hs13 => ?_
    have e3 : IntKind.i64.wrap ((i : Int) + ((20 + n : Nat) : Int)) = (i : Int) + ((20 + n : Nat) : Int) := by rw [wi64 (by omega) (by omega)]
    simp only [L_api_Block hs13.blk, L_api_Block__Parent hs13.blk, L_api_Block__Height hs13.blk, L_api_Block__Data hs13.blk, e3]
    rw [hx, hR4] at hR
    exact hR _ _ ⟨v4, by simp, Sep.dropR (As := [ownB v4 x.d]) hs13.p3⟩
end
end Go.Fx
set_option linter.unusedVariables false
set_option linter.unusedSimpArgs false
namespace Go.Fx
/-- The records of blocks, if all of them may be. -/
def layOk (l : List Blk) : Prop := ∀ b ∈ l, b.chk = 0
instance (l : List Blk) : Decidable (layOk l) := by unfold layOk; infer_instance
def layL (l : List Blk) : List UInt8 := l.flatMap Blk.rcd
theorem layL_take {l : List Blk} {i : Nat} {b : Blk} (h : l[i]? = some b) : layL (l.take (i + 1)) = layL (l.take i) ++ b.rcd := by
  unfold layL
  rw [List.take_add_one, h]
  simp
section
variable {w0 w : World} {As : List Asn} {v : Value} {l : List BV}
theorem BRows.get {h : Heap} (hr : BRows h v l) {j : Nat} {x : BV} (hj : l[j]? = some x) : RdB h x.2 x.1.d := hr.2 x (List.mem_of_getElem? hj)
end
end Go.Fx
set_option linter.unusedVariables false
set_option linter.unusedSimpArgs false
namespace Go.Fx
theorem min_i64 {w : World} (a b : Int) (K : Value → Prop) : rdP P (Builtin.min_ #[T_int, T_int] T_int #[.int .i64 a, .int .i64 b]) w K = K (.int .i64 (if b < a then b else a)) := by
  refine rdP_eq ?_ K
  simp [Builtin.min_, Builtin.min2]
/-- A record is read where it stands. -/
theorem take_rcd {b : Blk} {t : List UInt8} (hc : b.chk = 0) (hh : b.h ≤ maxI) : takeR (b.rcd ++ t) = (b, b.rcd.length, 0) := by
  have hck := Blk.chk_ok hc
  have hbl := b.bytes_len
  have hrl := b.rec_len
  obtain ⟨n, hn⟩ : ∃ n, n = b.bytes.length := ⟨_, rfl⟩
  have er : b.rcd ++ t = be 4 n ++ (be 8 b.h.toNat ++ (b.bytes ++ (tail8 b.hd ++ t))) := by
    rw [hn]; unfold Blk.rcd; conv => lhs; unfold Blk.hd
    simp only [List.append_assoc]
    rfl
  have e4 : (b.rcd ++ t).take 4 = be 4 n := by rw [er]; exact List.take_left' (be_length _ _)
  have en : ofBe ((b.rcd ++ t).take 4) = n := by rw [e4, ofBe_b4 (by omega)]
  have e12 : (b.rcd ++ t).drop 12 = b.bytes ++ (tail8 b.hd ++ t) := by
    rw [er, show 12 = 4 + 8 from rfl, ← List.drop_drop, List.drop_left' (be_length _ _)]
    exact List.drop_left' (be_length _ _)
  have ep : gpay (b.rcd ++ t) n = b.bytes := by unfold gpay; rw [e12]; exact List.take_left' hn.symm
  have hok := parse_bytes hc hh
  have hg : goodR (b.rcd ++ t) n := by
    unfold goodR
    rw [ep, hok.2]
    exact ⟨hok.1, (List.take_left' (by omega)).symm⟩
  unfold takeR
  rw [en, if_neg (by simp; omega), if_neg (by omega), if_neg (by simp; omega), if_pos hg, ep, hok.2]
  congr 2
  omega
/-- What is read is a record. -/
theorem take_inv {r : List UInt8} {x : Blk} {n : Nat} (h : takeR r = (x, n, 0)) : x.chk = 0 ∧ x.h ≤ maxI ∧ n = x.rcd.length ∧ r = x.rcd ++ r.drop n := by
  unfold takeR at h
  split at h
  · simp at h
  rename_i h12
  split at h
  · simp at h
  rename_i h246
  split at h
  · simp at h
  rename_i h20
  split at h
  · rename_i hg
    simp only [Prod.mk.injEq, and_true] at h
    obtain ⟨rfl, rfl⟩ := h
    refine ⟨hg.1.2.2.1, hg.1.2.1, ?_, ?_⟩
    · rw [hg.2, List.length_take]; omega
    · rw [hg.2, List.take_append_drop]
  · simp at h
theorem takeR_err (r : List UInt8) : (takeR r).2.2 = 0 ∨ ((takeR r).1 = Blk.none ∧ (takeR r).2.1 = 0 ∧ ((takeR r).2.2 = 11 ∨ (takeR r).2.2 = 90)) := by
  unfold takeR
  repeat' split
  all_goals simp
section
variable {w0 w : World} {As : List Asn} {v : Value} {l : List BV}
theorem BRows.cut {h : Heap} {a : Option Addr} {m c k : Nat} (hr : BRows h (.slice a m c) l) (hk : k ≤ m) (c' : Nat) : BRows h (.slice a k c') (l.take k) := by
  refine ⟨?_, fun x hx => hr.2 x (List.mem_of_mem_take hx)⟩
  have hm : m = l.length := by obtain ⟨_, _, hv, _⟩ := hr.1; simp only [Value.slice.injEq, List.length_map] at hv; exact hv.2.1
  have := hr.1.take (k := k) (by simp; omega) c'
  rwa [← List.map_take] at this
end
end Go.Fx
set_option linter.unusedVariables false
set_option linter.unusedSimpArgs false
namespace Go.Fx
def goodB (l : List Blk) : Prop := ∀ b ∈ l, b.chk = 0 ∧ b.h ≤ maxI
theorem goodB.ok {l : List Blk} (h : goodB l) : layOk l := fun b hb => (h b hb).1
theorem layL_append (a b : List Blk) : layL (a ++ b) = layL a ++ layL b := by unfold layL; simp
theorem layL_cons (a : Blk) (b : List Blk) : layL (a :: b) = a.rcd ++ layL b := by unfold layL; simp
/-- L is what stands at the beginning of r. -/
def IsScan (r : List UInt8) (L : List Blk) : Prop := goodB L ∧ ∃ t, r = layL L ++ t ∧ (takeR t).2.2 ≠ 0
theorem takeR_nil : takeR [] = (Blk.none, 0, 11) := by unfold takeR; rw [if_pos (by decide)]
theorem IsScan.uniq : ∀ {L M : List Blk} {r : List UInt8}, IsScan r L → IsScan r M → L = M
  | [], [], _, _, _ => rfl
  | [], b :: M, r, ⟨_, t, h1, h2⟩, ⟨g, s, k1, k2⟩ => by
    have hb := g b (by simp)
    have ht : t = b.rcd ++ (layL M ++ s) := by
      have : layL ([] : List Blk) ++ t = t := rfl
      rw [← this, ← h1, k1, layL_cons, List.append_assoc]
    rw [ht, take_rcd hb.1 hb.2] at h2
    exact absurd rfl h2
  | a :: L, [], r, ⟨g, t, h1, h2⟩, ⟨_, s, k1, k2⟩ => by
    have ha := g a (by simp)
    have hs : s = a.rcd ++ (layL L ++ t) := by
      have : layL ([] : List Blk) ++ s = s := rfl
      rw [← this, ← k1, h1, layL_cons, List.append_assoc]
    rw [hs, take_rcd ha.1 ha.2] at k2
    exact absurd rfl k2
  | a :: L, b :: M, r, ⟨g, t, h1, h2⟩, ⟨g', s, k1, k2⟩ => by
    have ha := g a (by simp)
    have hb := g' b (by simp)
    have e1 : takeR r = (a, a.rcd.length, 0) := by rw [h1, layL_cons, List.append_assoc]; exact take_rcd ha.1 ha.2
    have e2 : takeR r = (b, b.rcd.length, 0) := by rw [k1, layL_cons, List.append_assoc]; exact take_rcd hb.1 hb.2
    have hab : a = b := congrArg Prod.fst (e1.symm.trans e2)
    subst hab
    have h3 : layL L ++ t = layL M ++ s := by
      have := h1.symm.trans k1
      rw [layL_cons, layL_cons, List.append_assoc, List.append_assoc] at this
      exact List.append_cancel_left this
    have := IsScan.uniq (L := L) (M := M) (r := layL L ++ t) ⟨fun x hx => g x (by simp [hx]), t, rfl, h2⟩ ⟨fun x hx => g' x (by simp [hx]), s, h3, k2⟩
    rw [this]
theorem IsScan.len {r : List UInt8} {L : List Blk} (h : IsScan r L) : (layL L).length ≤ r.length := by
  obtain ⟨_, t, h1, _⟩ := h
  rw [h1]; simp
theorem IsScan.take {r : List UInt8} {L : List Blk} (h : IsScan r L) : r.take (layL L).length = layL L := by
  obtain ⟨_, t, h1, _⟩ := h
  rw [h1]; simp
theorem layL_ge : ∀ L : List Blk, 66 * L.length ≤ (layL L).length
  | [] => by simp
  | b :: L => by
    have h1 := layL_ge L
    have h2 := b.rec_len
    rw [layL_cons, List.length_append, List.length_cons]
    omega
/-- A record that is cut off. -/
theorem take_cut {b : Blk} {s : List UInt8} {j : Nat} (hc : b.chk = 0) (hj : j < b.rcd.length) : takeR ((b.rcd ++ s).take j) = (Blk.none, 0, 11) := by
  have hck := Blk.chk_ok hc
  have hbl := b.bytes_len
  have hrl := b.rec_len
  have e1 : (b.rcd ++ s).take j = b.rcd.take j := by rw [List.take_append_of_le_length (by omega)]
  have hl : (b.rcd.take j).length = j := by simp; omega
  rw [e1]
  unfold takeR
  by_cases h12 : j < 12
  · rw [if_pos (by omega)]
  · rw [if_neg (by omega)]
    have e4 : (b.rcd.take j).take 4 = be 4 b.bytes.length := by
      rw [List.take_take, Nat.min_eq_left (by omega)]
      unfold Blk.rcd Blk.hd
      rw [List.append_assoc, List.append_assoc]
      exact List.take_left' (be_length _ _)
    rw [e4, ofBe_b4 (by omega), if_neg (by omega), if_pos (by omega)]
end Go.Fx
set_option linter.unusedVariables false
set_option linter.unusedSimpArgs false
namespace Go.Fx
abbrev oV (x : BV) : Asn := ownB x.2 x.1.d
/-- A row of blocks that the call owns. -/
def brow (v : Value) (B : List BV) : List Asn := rows Q_api_Block v (B.map BV.t) :: B.map oV
theorem brow_rd {w0 w : World} {v : Value} {B : List BV} {Bs : List Asn} (h : Sep w0 w (brow v B ++ Bs)) : BRows w.heap v B := by
  refine ⟨Sep.rows h, fun s hs => ?_⟩
  obtain ⟨F, hF⟩ := h.onL (A := ownB s.2 s.1.d) (by simp only [brow, List.cons_append, List.mem_cons, List.mem_append, List.mem_map]; exact .inr (.inl ⟨s, hs, rfl⟩))
  exact OwnB.rd hF
theorem Rows'.ldI {w : World} {v : Value} {l : List Int} {j : Nat} {a : Int} (hr : Rows' (rInt .i64) w.heap v l) (hj : l[j]? = some a) (k : IntKind) {K : Value → Prop} (h : K (.int .i64 a)) : ixs 1 v (.int k (j : Int)) fun t => Go.Fx.ld1 t w.heap K := by
  obtain ⟨g, o, ha, hx⟩ := hr.ix (by decide) hj
  have hx' : ∀ K, ixs 1 v (.int k (j : Int)) K = K (.pointer (some ⟨g, o, none⟩)) := hx k
  rw [hx', At.ld1 (v := .int .i64 a) ha]
  exact h
/-- Where the records end. -/
def endsOf (L : List Blk) : List Int := (List.range L.length).map fun i => ((layL (L.take (i + 1))).length : Int)
theorem endsOf_snoc (L : List Blk) (x : Blk) : endsOf (L ++ [x]) = endsOf L ++ [((layL (L ++ [x])).length : Int)] := by
  unfold endsOf
  rw [List.length_append, List.length_singleton, List.range_succ, List.map_append, List.map_singleton]
  congr 1
  · apply List.map_congr_left
    intro i hi
    have := List.mem_range.1 hi
    rw [List.take_append_of_le_length (by omega)]
  · rw [List.take_of_length_le (by simp)]
theorem endsOf_len (L : List Blk) : (endsOf L).length = L.length := by simp [endsOf]
theorem endsOf_last {L : List Blk} (h : L ≠ []) : (endsOf L)[L.length - 1]? = some ((layL L).length : Int) := by
  have hl : 0 < L.length := List.length_pos_iff.2 h
  unfold endsOf
  rw [List.getElem?_map, List.getElem?_range (by omega)]
  simp only [Option.map_some]
  rw [List.take_of_length_le (by omega)]
section
variable {w0 w : World} {As T : List Asn} {v u : Value} {l : List UInt8} {B C : List BV}
/-- 'append(l, x)', one block more. -/
theorem app_blk {Xs : List Asn} {g : Nat} {x : Blk} {vx : Value} {K : Value → World → Prop} (hs : Sep w0 w (bb g x vx :: ownB vx x.d :: rows Q_api_Block u (B.map BV.t) :: (Xs ++ (B.map oV ++ T)))) (hB : B.length ≤ 1000000)
    (h : ∀ v' w', Sep w0 w' (rows Q_api_Block v' ((B ++ [(x, vx)]).map BV.t) :: (Xs ++ ((B ++ [(x, vx)]).map oV ++ T))) → K v' w') :
    efP P (Instr.buildSlice T_sl_api_Block 1 #[(0, bq x vx)]) w fun t w => efP P (Builtin.append_ #[T_sl_api_Block, T_sl_api_Block] T_sl_api_Block #[u, t]) w K := by
  have h1 := Sep.one hs.p1
  refine rows_lit hs S_sl_api_Block (l := [(x.p, x.h, vx)]) (V := fun a => .agg (Rdr.cells Q_api_Block a).toArray) qV rfl rfl (by decide) (by decide) fun g4 w4 hs4 => ?_
  refine rows_app S_sl_api_Block U_sl_api_Block (by simp) hs4.p3 (Sep.rows hs4) ?_ (by simp; omega) (by simp; omega) fun v' w2 hs2 => ?_
  · simp only [List.flatMap_cons, List.flatMap_nil, List.append_nil]
    exact one_api_Block h1
  · refine h v' w2 ?_
    rw [List.map_append]
    exact Sep.put (f := oV) (s := (x, vx)) (Xs := rows Q_api_Block v' (B.map BV.t ++ [BV.t (x, vx)]) :: Xs) (hs2.pick [3, 0] 4)
theorem takeX_at {k : Nat} (hk : k ≤ l.length) : takeX l (k : Int) = ((takeR (l.drop k)).1, (if (takeR (l.drop k)).2.2 = 0 then (k : Int) + (takeR (l.drop k)).2.1 else 0), (takeR (l.drop k)).2.2) := by unfold takeX; rw [if_neg (by omega)]; rfl
theorem scan_spec (hc : Cub w) (hb : RdB w.heap v l) (hcap : capOk v) (hl : l.length ≤ 1000000) : cal P f_rec_scan [v] w fun r w' => ∃ (x y : Value) (B : List BV), r = .tuple #[x, y] ∧ IsScan l (B.map (·.1)) ∧ Sep w w' (rows Q_api_Block x (B.map BV.t) :: rows (rInt .i64) y (endsOf (B.map (·.1))) :: B.map oV) := by
  refine s_rec_scan fun R hR => ?_
  unfold c_rec_scan
  refine ⟨fun x y z w' => ∃ (B : List BV) (t : List UInt8), z = .int .i64 (layL (B.map (·.1))).length ∧ goodB (B.map (·.1)) ∧ l = layL (B.map (·.1)) ++ t ∧ Sep w w' (rows Q_api_Block x (B.map BV.t) :: rows (rInt .i64) y (endsOf (B.map (·.1))) :: (B.map oV ++ [])), fun _ _ z _ => (l.length - RowKit.intOf z).toNat,
    ⟨[], l, rfl, by intro b hb; simp at hb, rfl, (Sep.start w).nilR.nilR⟩, ?_⟩
  rintro x y _ w1 ⟨B, t, rfl, hg, hlt, hs1⟩ -
  obtain ⟨L, hL⟩ : ∃ L, L = B.map (·.1) := ⟨_, rfl⟩
  rw [← hL] at hg hlt hs1 ⊢
  have hle : (layL L).length ≤ l.length := by rw [hlt]; simp
  have hLl : L.length = B.length := by rw [hL]; simp
  have h66 := layL_ge L
  refine cal_i (recTake_spec (a := ((layL L).length : Nat)) (hc.fr hs1.fr0) (hs1.rdB hb) hcap (by omega) (by omega)) ?_
  rintro _ w2 ⟨v2, rfl, hs2⟩
  replace hs2 := hs1.join hs2
  have hd : l.drop (layL L).length = t := by rw [hlt]; exact List.drop_left' rfl
  rw [takeX_at hle, hd] at hs2
  rw [takeX_at hle, hd]
  simp only [nilc_some, fad_mk, pik_true, pik_false, cnd_true, cnd_false, gif_same, gif_tf, gif_ft, gif_undef, bi_add, bi_sub, bi_mul, bi_eql, bi_neq, bi_lss, bi_leq, bi_gtr, bi_geq, notB_bool, cvi_int, lenS_mk, lenT_mk, ext0, ext1, ext2, nilP_mk, nilS_mk, fldv_agg, jn0_k, jn1_k, jn2_k, jn1_and, jn1_or, ex_some, Option.isNone_some, Option.isNone_none, Bool.false_bne, Bool.bne_true, Bool.bne_false, Bool.true_bne, Bool.not_true, Bool.not_false, Bool.and_true, Bool.true_and, Bool.and_false, Bool.false_and, Bool.or_true, Bool.true_or, Bool.or_false, Bool.false_or, cond_true, cond_false, List.getElem?_toArray, List.getElem?_cons_zero, List.getElem?_cons_succ, Nat.zero_add, Nat.add_zero, Nat.reduceAdd, forall_const]
  refine alloc_s hs2 (A_api_Block w2) fun g3 w3 hs3 => ?_
  refine St_api_Block hs3 (one_api_Block (Sep.one hs3.p1)) fun w4 hs4 => ?_
  rcases takeR_err t with h0 | ⟨hn, hn0, hne⟩
  · obtain ⟨b, n, hx⟩ : ∃ b n, takeR t = (b, n, 0) := ⟨_, _, by rw [← h0]⟩
    rw [hx] at hs4 ⊢
    have hinv := take_inv hx
    simp only [nilc_some, fad_mk, pik_true, pik_false, cnd_true, cnd_false, gif_same, gif_tf, gif_ft, gif_undef, bi_add, bi_sub, bi_mul, bi_eql, bi_neq, bi_lss, bi_leq, bi_gtr, bi_geq, notB_bool, cvi_int, lenS_mk, lenT_mk, ext0, ext1, ext2, nilP_mk, nilS_mk, fldv_agg, jn0_k, jn1_k, jn2_k, jn1_and, jn1_or, ex_some, Option.isNone_some, Option.isNone_none, Bool.false_bne, Bool.bne_true, Bool.bne_false, Bool.true_bne, Bool.not_true, Bool.not_false, Bool.and_true, Bool.true_and, Bool.and_false, Bool.false_and, Bool.or_true, Bool.true_or, Bool.or_false, Bool.false_or, cond_true, cond_false, List.getElem?_toArray, List.getElem?_cons_zero, List.getElem?_cons_succ, Nat.zero_add, Nat.add_zero, Nat.reduceAdd, forall_const, show ((0 : Int) != 0) = false from rfl, ↓reduceIte]
    simp only [L_api_Block hs4.blk, L_api_Block__Parent hs4.blk, L_api_Block__Height hs4.blk, L_api_Block__Data hs4.blk]
    have e : L ++ [b] = (B ++ [(b, v2)]).map (·.1) := by rw [hL]; simp
    refine app_blk (x := b) (vx := v2) (Xs := [rows (rInt .i64) y (endsOf L)]) (T := []) hs4 (by omega) fun v5 w5 hs5 => ?_
    have hb66 := b.rec_len
    have hends : ((layL L).length : Int) + (n : Int) = ((layL (L ++ [b])).length : Int) := by
      rw [layL_append, List.length_append, hinv.2.2.1]
      show _ = (((layL L).length + (layL [b]).length : Nat) : Int)
      rw [layL_cons]
      simp [layL]
    rw [hends]
    refine rows_lit hs5 S_sl_int (q := rInt .i64) (l := [((layL (L ++ [b])).length : Int)]) (V := fun a => .int .i64 a) (fun a => rfl) rfl rfl (by decide) (by decide) fun g6 w6 hs6 => ?_
    refine rows_app S_sl_int U_sl_int (q := rInt .i64) (by simp) hs6.p2 (Sep.rows hs6) ?_ ?_ ?_ fun v7 w7 hs7 => ?_
    · simp only [List.flatMap_cons, List.flatMap_nil, List.append_nil]
      exact oneI
    · rw [endsOf_len]; simp; omega
    · rw [endsOf_len]; simp; omega
    have hlen : (layL (L ++ [b])).length ≤ l.length := by
      have h3 := congrArg List.length hinv.2.2.2
      have h4 := congrArg List.length hlt
      rw [layL_append, List.length_append]
      simp only [List.length_append] at h3 h4
      have : (layL [b]).length = b.rcd.length := by rw [layL_cons]; simp [layL]
      omega
    refine ⟨⟨B ++ [(b, v2)], t.drop n, by rw [← e], ?_, ?_, ?_⟩, ?_⟩
    · rw [← e]
      intro z hz
      rcases List.mem_append.1 hz with hz | hz
      · exact hg z hz
      · obtain rfl : z = b := by simpa using hz
        exact ⟨hinv.1, hinv.2.1⟩
    · rw [← e, layL_append, hlt, List.append_assoc]
      congr 1
      rw [hinv.2.2.2]
      rw [layL_cons]
      simp [layL, ← hinv.2.2.1]
    · rw [← e, endsOf_snoc]
      exact hs7.pick [2, 0] 3
    · have : (layL L).length < (layL (L ++ [b])).length := by omega
      simp only [RowKit.intOf]
      omega
  · have e : ((takeR t).2.2 != 0) = true := by rcases hne with h | h <;> rw [h] <;> rfl
    simp only [nilc_some, fad_mk, pik_true, pik_false, cnd_true, cnd_false, gif_same, gif_tf, gif_ft, gif_undef, bi_add, bi_sub, bi_mul, bi_eql, bi_neq, bi_lss, bi_leq, bi_gtr, bi_geq, notB_bool, cvi_int, lenS_mk, lenT_mk, ext0, ext1, ext2, nilP_mk, nilS_mk, fldv_agg, jn0_k, jn1_k, jn2_k, jn1_and, jn1_or, ex_some, Option.isNone_some, Option.isNone_none, Bool.false_bne, Bool.bne_true, Bool.bne_false, Bool.true_bne, Bool.not_true, Bool.not_false, Bool.and_true, Bool.true_and, Bool.and_false, Bool.false_and, Bool.or_true, Bool.true_or, Bool.or_false, Bool.false_or, cond_true, cond_false, List.getElem?_toArray, List.getElem?_cons_zero, List.getElem?_cons_succ, Nat.zero_add, Nat.add_zero, Nat.reduceAdd, forall_const, e]
    refine hR _ _ ⟨x, y, B, rfl, ?_, ?_⟩
    · rw [← hL]
      refine ⟨hg, t, hlt, by omega⟩
    · have h := Sep.tail (Sep.tail hs4)
      rw [List.append_nil] at h
      rw [← hL]
      exact h
theorem Scan_spec (hc : Cub w) (hb : RdB w.heap v l) (hcap : capOk v) (hl : l.length ≤ 1000000) : cal P f_rec_Scan [v] w fun r w' => ∃ (x : Value) (B : List BV), r = .tuple #[x, .int .i64 (layL (B.map (·.1))).length] ∧ IsScan l (B.map (·.1)) ∧ Sep w w' (brow x B) := by
  refine s_rec_Scan fun R hR => ?_
  unfold c_rec_Scan
  refine cal_i (scan_spec hc hb hcap hl) ?_
  rintro _ w1 ⟨x, y, B, rfl, hsc, hs1⟩
  have hrl := (Sep.rows hs1.p1).len
  have hle := layL_ge (B.map (·.1))
  have hsl := hsc.len
  rw [endsOf_len] at hrl
  simp only [nilc_some, fad_mk, pik_true, pik_false, cnd_true, cnd_false, gif_same, gif_tf, gif_ft, gif_undef, bi_add, bi_sub, bi_mul, bi_eql, bi_neq, bi_lss, bi_leq, bi_gtr, bi_geq, notB_bool, cvi_int, lenS_mk, lenT_mk, ext0, ext1, ext2, nilP_mk, nilS_mk, fldv_agg, jn0_k, jn1_k, jn2_k, jn1_and, jn1_or, ex_some, Option.isNone_some, Option.isNone_none, Bool.false_bne, Bool.bne_true, Bool.bne_false, Bool.true_bne, Bool.not_true, Bool.not_false, Bool.and_true, Bool.true_and, Bool.and_false, Bool.false_and, Bool.or_true, Bool.true_or, Bool.or_false, Bool.false_or, cond_true, cond_false, List.getElem?_toArray, List.getElem?_cons_zero, List.getElem?_cons_succ, Nat.zero_add, Nat.add_zero, Nat.reduceAdd, forall_const, hrl]
  by_cases h0 : B = []
  · subst h0
    simp only [List.map_nil, List.length_nil, nilc_some, fad_mk, pik_true, pik_false, cnd_true, cnd_false, gif_same, gif_tf, gif_ft, gif_undef, bi_add, bi_sub, bi_mul, bi_eql, bi_neq, bi_lss, bi_leq, bi_gtr, bi_geq, notB_bool, cvi_int, lenS_mk, lenT_mk, ext0, ext1, ext2, nilP_mk, nilS_mk, fldv_agg, jn0_k, jn1_k, jn2_k, jn1_and, jn1_or, ex_some, Option.isNone_some, Option.isNone_none, Bool.false_bne, Bool.bne_true, Bool.bne_false, Bool.true_bne, Bool.not_true, Bool.not_false, Bool.and_true, Bool.true_and, Bool.and_false, Bool.false_and, Bool.or_true, Bool.true_or, Bool.or_false, Bool.false_or, cond_true, cond_false, List.getElem?_toArray, List.getElem?_cons_zero, List.getElem?_cons_succ, Nat.zero_add, Nat.add_zero, Nat.reduceAdd, forall_const, show (((0 : Nat) : Int) == 0) = true from rfl]
    exact hR _ _ ⟨.slice none 0 0, [], rfl, hsc, hs1.tail.tail.nilR⟩
  · have hpos : 0 < B.length := List.length_pos_iff.2 h0
    have e : (((B.map (·.1)).length : Int) == 0) = false := by simp; omega
    simp only [nilc_some, fad_mk, pik_true, pik_false, cnd_true, cnd_false, gif_same, gif_tf, gif_ft, gif_undef, bi_add, bi_sub, bi_mul, bi_eql, bi_neq, bi_lss, bi_leq, bi_gtr, bi_geq, notB_bool, cvi_int, lenS_mk, lenT_mk, ext0, ext1, ext2, nilP_mk, nilS_mk, fldv_agg, jn0_k, jn1_k, jn2_k, jn1_and, jn1_or, ex_some, Option.isNone_some, Option.isNone_none, Bool.false_bne, Bool.bne_true, Bool.bne_false, Bool.true_bne, Bool.not_true, Bool.not_false, Bool.and_true, Bool.true_and, Bool.and_false, Bool.false_and, Bool.or_true, Bool.true_or, Bool.or_false, Bool.false_or, cond_true, cond_false, List.getElem?_toArray, List.getElem?_cons_zero, List.getElem?_cons_succ, Nat.zero_add, Nat.add_zero, Nat.reduceAdd, forall_const, e]
    refine drw_s hs1 fun w2 hs2 _ => ?_
    have hi : IntKind.i64.wrap (((B.map (·.1)).length : Int) - 1) = (((B.map (·.1)).length - 1 : Nat) : Int) := by
      simp only [List.length_map] at *
      rw [wi64 (by omega) (by omega)]; omega
    simp only [nilc_some, fad_mk, pik_true, pik_false, cnd_true, cnd_false, gif_same, gif_tf, gif_ft, gif_undef, bi_add, bi_sub, bi_mul, bi_eql, bi_neq, bi_lss, bi_leq, bi_gtr, bi_geq, notB_bool, cvi_int, lenS_mk, lenT_mk, ext0, ext1, ext2, nilP_mk, nilS_mk, fldv_agg, jn0_k, jn1_k, jn2_k, jn1_and, jn1_or, ex_some, Option.isNone_some, Option.isNone_none, Bool.false_bne, Bool.bne_true, Bool.bne_false, Bool.true_bne, Bool.not_true, Bool.not_false, Bool.and_true, Bool.true_and, Bool.and_false, Bool.false_and, Bool.or_true, Bool.true_or, Bool.or_false, Bool.false_or, cond_true, cond_false, List.getElem?_toArray, List.getElem?_cons_zero, List.getElem?_cons_succ, Nat.zero_add, Nat.add_zero, Nat.reduceAdd, forall_const, hi]
    refine Rows'.ldI (Sep.rows hs2.p1) (endsOf_last (by simpa using h0)) .i64 ?_
    refine hR _ _ ⟨x, B, rfl, hsc, ?_⟩
    exact (hs2.p1).tail
theorem rScan_spec (hb : RdB w.heap v l) (hcap : capOk v) (hl : l.length ≤ 1000000) : cal P f_ref09_Scan [v] w fun r w' => ∃ (x : Value) (B : List BV), r = .tuple #[x, .int .i64 (layL (B.map (·.1))).length] ∧ IsScan l (B.map (·.1)) ∧ Sep w w' (brow x B) := by
  refine s_ref09_Scan fun R hR => ?_
  unfold c_ref09_Scan
  refine ⟨fun x z w' => ∃ (B : List BV) (t : List UInt8), z = .int .i64 (layL (B.map (·.1))).length ∧ goodB (B.map (·.1)) ∧ l = layL (B.map (·.1)) ++ t ∧ Sep w w' (rows Q_api_Block x (B.map BV.t) :: (B.map oV ++ [])), fun _ z _ => (l.length - RowKit.intOf z).toNat,
    ⟨[], l, rfl, by intro b hb; simp at hb, rfl, (Sep.start w).nilR⟩, ?_⟩
  rintro x _ w1 ⟨B, t, rfl, hg, hlt, hs1⟩ -
  obtain ⟨L, hL⟩ : ∃ L, L = B.map (·.1) := ⟨_, rfl⟩
  rw [← hL] at hg hlt ⊢
  have hle : (layL L).length ≤ l.length := by rw [hlt]; simp
  have hLl : L.length = B.length := by rw [hL]; simp
  have h66 := layL_ge L
  refine cal_i (rRecTake_spec (a := ((layL L).length : Nat)) (hs1.rdB hb) hcap (by omega) (by omega)) ?_
  rintro _ w2 ⟨v2, rfl, hs2⟩
  replace hs2 := hs1.join hs2
  have hd : l.drop (layL L).length = t := by rw [hlt]; exact List.drop_left' rfl
  rw [takeX_at hle, hd] at hs2
  rw [takeX_at hle, hd]
  simp only [nilc_some, fad_mk, pik_true, pik_false, cnd_true, cnd_false, gif_same, gif_tf, gif_ft, gif_undef, bi_add, bi_sub, bi_mul, bi_eql, bi_neq, bi_lss, bi_leq, bi_gtr, bi_geq, notB_bool, cvi_int, lenS_mk, lenT_mk, ext0, ext1, ext2, nilP_mk, nilS_mk, fldv_agg, jn0_k, jn1_k, jn2_k, jn1_and, jn1_or, ex_some, Option.isNone_some, Option.isNone_none, Bool.false_bne, Bool.bne_true, Bool.bne_false, Bool.true_bne, Bool.not_true, Bool.not_false, Bool.and_true, Bool.true_and, Bool.and_false, Bool.false_and, Bool.or_true, Bool.true_or, Bool.or_false, Bool.false_or, cond_true, cond_false, List.getElem?_toArray, List.getElem?_cons_zero, List.getElem?_cons_succ, Nat.zero_add, Nat.add_zero, Nat.reduceAdd, forall_const]
  refine alloc_s hs2 (A_api_Block w2) fun g3 w3 hs3 => ?_
  refine St_api_Block hs3 (one_api_Block (Sep.one hs3.p1)) fun w4 hs4 => ?_
  rcases takeR_err t with h0 | ⟨hn, hn0, hne⟩
  · obtain ⟨b, n, hx⟩ : ∃ b n, takeR t = (b, n, 0) := ⟨_, _, by rw [← h0]⟩
    rw [hx] at hs4 ⊢
    have hinv := take_inv hx
    simp only [nilc_some, fad_mk, pik_true, pik_false, cnd_true, cnd_false, gif_same, gif_tf, gif_ft, gif_undef, bi_add, bi_sub, bi_mul, bi_eql, bi_neq, bi_lss, bi_leq, bi_gtr, bi_geq, notB_bool, cvi_int, lenS_mk, lenT_mk, ext0, ext1, ext2, nilP_mk, nilS_mk, fldv_agg, jn0_k, jn1_k, jn2_k, jn1_and, jn1_or, ex_some, Option.isNone_some, Option.isNone_none, Bool.false_bne, Bool.bne_true, Bool.bne_false, Bool.true_bne, Bool.not_true, Bool.not_false, Bool.and_true, Bool.true_and, Bool.and_false, Bool.false_and, Bool.or_true, Bool.true_or, Bool.or_false, Bool.false_or, cond_true, cond_false, List.getElem?_toArray, List.getElem?_cons_zero, List.getElem?_cons_succ, Nat.zero_add, Nat.add_zero, Nat.reduceAdd, forall_const, show ((0 : Int) != 0) = false from rfl, ↓reduceIte]
    simp only [L_api_Block hs4.blk, L_api_Block__Parent hs4.blk, L_api_Block__Height hs4.blk, L_api_Block__Data hs4.blk]
    have e : L ++ [b] = (B ++ [(b, v2)]).map (·.1) := by rw [hL]; simp
    refine app_blk (x := b) (vx := v2) (Xs := []) (T := []) hs4 (by omega) fun v5 w5 hs5 => ?_
    have hb66 := b.rec_len
    have hends : ((layL L).length : Int) + (n : Int) = ((layL (L ++ [b])).length : Int) := by
      rw [layL_append, List.length_append, hinv.2.2.1]
      show _ = (((layL L).length + (layL [b]).length : Nat) : Int)
      rw [layL_cons]
      simp [layL]
    rw [hends]
    have hlen : (layL (L ++ [b])).length ≤ l.length := by
      have h3 := congrArg List.length hinv.2.2.2
      have h4 := congrArg List.length hlt
      rw [layL_append, List.length_append]
      simp only [List.length_append] at h3 h4
      have : (layL [b]).length = b.rcd.length := by rw [layL_cons]; simp [layL]
      omega
    refine ⟨⟨B ++ [(b, v2)], t.drop n, by rw [← e], ?_, ?_, hs5⟩, ?_⟩
    · rw [← e]
      intro z hz
      rcases List.mem_append.1 hz with hz | hz
      · exact hg z hz
      · obtain rfl : z = b := by simpa using hz
        exact ⟨hinv.1, hinv.2.1⟩
    · rw [← e, layL_append, hlt, List.append_assoc]
      congr 1
      rw [hinv.2.2.2]
      rw [layL_cons]
      simp [layL, ← hinv.2.2.1]
    · have : (layL L).length < (layL (L ++ [b])).length := by omega
      simp only [RowKit.intOf]
      omega
  · have e : ((takeR t).2.2 != 0) = true := by rcases hne with h | h <;> rw [h] <;> rfl
    simp only [nilc_some, fad_mk, pik_true, pik_false, cnd_true, cnd_false, gif_same, gif_tf, gif_ft, gif_undef, bi_add, bi_sub, bi_mul, bi_eql, bi_neq, bi_lss, bi_leq, bi_gtr, bi_geq, notB_bool, cvi_int, lenS_mk, lenT_mk, ext0, ext1, ext2, nilP_mk, nilS_mk, fldv_agg, jn0_k, jn1_k, jn2_k, jn1_and, jn1_or, ex_some, Option.isNone_some, Option.isNone_none, Bool.false_bne, Bool.bne_true, Bool.bne_false, Bool.true_bne, Bool.not_true, Bool.not_false, Bool.and_true, Bool.true_and, Bool.and_false, Bool.false_and, Bool.or_true, Bool.true_or, Bool.or_false, Bool.false_or, cond_true, cond_false, List.getElem?_toArray, List.getElem?_cons_zero, List.getElem?_cons_succ, Nat.zero_add, Nat.add_zero, Nat.reduceAdd, forall_const, e]
    refine hR _ _ ⟨x, B, by rw [← hL], ?_, ?_⟩
    · rw [← hL]
      refine ⟨hg, t, hlt, by omega⟩
    · have h := Sep.tail (Sep.tail hs4)
      rw [List.append_nil] at h
      exact h
end
end Go.Fx
set_option linter.unusedVariables false
set_option linter.unusedSimpArgs false
namespace Go.Fx
/-- Each is a child of the one ahead of it. -/
def linked : Blk → List Blk → Prop
  | _, [] => True
  | a, b :: l => b.link a = 0 ∧ linked b l
def linkT : Blk → List Blk → List Blk
  | _, [] => []
  | a, b :: l => if b.link a = 0 then b :: linkT b l else []
def lastB : Blk → List Blk → Blk
  | a, [] => a
  | _, b :: l => lastB b l
theorem lastB_get : ∀ (a : Blk) (l : List Blk), (a :: l)[l.length]? = some (lastB a l)
  | a, [] => rfl
  | a, b :: l => by
    rw [List.length_cons, List.getElem?_cons_succ]
    exact lastB_get b l
theorem linkT_self : ∀ {a : Blk} {l : List Blk}, linked a l → linkT a l = l
  | a, [], _ => rfl
  | a, b :: l, h => by
    unfold linkT
    rw [if_pos h.1, linkT_self h.2]
theorem linked_snoc : ∀ {a : Blk} {l : List Blk} {b : Blk}, linked a l → b.link (lastB a l) = 0 → linked a (l ++ [b])
  | a, [], b, _, h => ⟨h, trivial⟩
  | a, c :: l, b, hl, h => ⟨hl.1, linked_snoc hl.2 h⟩
theorem linkT_take : ∀ {l : List Blk} {a b : Blk} {i : Nat}, linked a (l.take i) → l[i]? = some b → b.link (lastB a (l.take i)) ≠ 0 → linkT a l = l.take i
  | [], a, b, i, _, h, _ => by simp at h
  | c :: l, a, b, 0, _, h, hn => by
    simp only [List.getElem?_cons_zero, Option.some.injEq] at h
    subst h
    have hn : c.link a ≠ 0 := hn
    unfold linkT
    rw [if_neg hn]
    rfl
  | c :: l, a, b, i + 1, hl, h, hn => by
    rw [List.take_succ_cons] at hl hn ⊢
    unfold linkT
    rw [if_pos hl.1, linkT_take hl.2 (by simpa using h) hn]
theorem linkT_pre : ∀ (a : Blk) (l : List Blk), ∃ t, l = linkT a l ++ t
  | a, [] => ⟨[], rfl⟩
  | a, b :: l => by
    unfold linkT
    by_cases h : b.link a = 0
    · obtain ⟨t, ht⟩ := linkT_pre b l
      rw [if_pos h]
      exact ⟨t, by rw [List.cons_append, ← ht]⟩
    · rw [if_neg h]
      exact ⟨b :: l, rfl⟩
theorem link_chk {c b : Blk} (h : c.link b = 0) : c.chk = 0 ∧ b.chk = 0 ∧ c.p = b.id ∧ c.h = b.h + 1 := by
  unfold Blk.link at h
  split at h
  · cases h
  rename_i h1
  split at h
  · rename_i h2
    exact ⟨Decidable.byContradiction fun hc => h1 (.inr hc) |> fun h => h, Decidable.byContradiction fun hc => h1 (.inl hc), h2⟩
  · cases h
/-- What a tape's bytes are scanned as, whatever is left of a record that the power cut off. -/
theorem scan_part {L : List Blk} (hg : goodB L) {b : Blk} (hc : b.chk = 0) {j : Nat} (hj : j < b.rcd.length) : IsScan (layL L ++ b.rcd.take j) L := by
  refine ⟨hg, b.rcd.take j, rfl, ?_⟩
  have h := take_cut (s := []) hc hj
  rw [List.append_nil] at h
  rw [h]
  decide
theorem scan_all {L : List Blk} (hg : goodB L) : IsScan (layL L) L := ⟨hg, [], (List.append_nil _).symm, by rw [takeR_nil]; decide⟩
end Go.Fx
set_option linter.unusedVariables false
set_option linter.unusedSimpArgs false
namespace Go.Fx
/-- An entry: its key, its value, and when it came. -/
abbrev Ent (n : Nat) := Vec n × Value × Nat
abbrev kv {n : Nat} (k : Vec n) : Value := .agg (Rdr.cells (rVec n) k).toArray
def entM {n : Nat} (x : Ent n) : MapEntry := { key := kv x.1, val := x.2.1, born := x.2.2 }
def ents {n : Nat} (l : List (Ent n)) : Array MapEntry := (l.map entM).toArray
/-- Where a key stands, and what it has. -/
def findE {n : Nat} (k : Vec n) : List (Ent n) → Nat → Option (Nat × Value)
  | [], _ => none
  | x :: l, i => if k = x.1 then some (i, x.2.1) else findE k l (i + 1)
/-- The facts on a type of keys. -/
structure KeyT (P : Program) (T E n : Nat) : Prop where
  und : P.underlying T = some (.array n E)
  el : P.underlying E = some (.int .u8)
  siz : size? P E = some 1
  agg : aggr P E = some false
  eq : EqT P T (rVec n) true 2
section
variable {P : Program} {T E n : Nat} {w : World}
theorem run_key (hT : KeyT P T E n) (k : Vec n) (b : Bool) (d : Nat) : (Instr.checkKey b (d + 2) T (kv k)).run P w = .ok () w := by
  rw [show d + 2 = (d + 1) + 1 from rfl, Instr.checkKey]
  simp only [Sem.run_bind, run_underlying hT.und, Result.andThen_ok]
  simp only [Std.Legacy.Range.forIn_eq_forIn_range', Std.Legacy.Range.size, Nat.sub_zero, Nat.add_one_sub_one, Nat.div_one]
  have each : ∀ j ∈ List.range' 0 n, j < n := fun j hj => by simpa using hj
  generalize List.range' 0 n = is at each
  induction is with
  | nil => simp
  | cons j is ih =>
    have hj := each j (by simp)
    have hv : (Rdr.cells (rVec n) k).toArray[j]? = some (bv (k.1[j]'(by rw [k.2]; exact hj))) := by
      show (bvs k.1).toArray[j]? = _
      rw [List.getElem?_toArray]
      unfold bvs
      rw [List.getElem?_map, List.getElem?_eq_getElem (by rw [k.2]; exact hj)]
      rfl
    have p1 : (Go.part E (Rdr.cells (rVec n) k).toArray (j * 1)).run P w = .ok (bv (k.1[j]'(by rw [k.2]; exact hj))) w := by
      unfold Go.part
      simp [run_isAgg hT.agg, hv]
    have p2 : (Instr.checkKey b (d + 1) E (bv (k.1[j]'(by rw [k.2]; exact hj)))).run P w = .ok () w := by
      rw [Instr.checkKey]
      simp [run_underlying hT.el, bv]
    simp only [List.forIn_cons, Sem.run_bind, run_sizeOf hT.siz, Result.andThen_ok, p1, p2, Sem.run_pure]
    exact ih fun y hy => each y (by simp [hy])
theorem run_keyEq (hT : KeyT P T E n) (a b : Vec n) : (Op.equal T (kv a) (kv b)).run P w = .ok (decide (a = b)) w := hT.eq.eq 10000 (by decide) w a b
theorem run_find (hT : KeyT P T E n) (k : Vec n) : ∀ (l : List (Ent n)) (i : Nat), (Instr.findAsking T (kv k) (l.map entM) i).run P w = .ok (findE k l i) w
  | [], i => by simp [Instr.findAsking, findE]
  | x :: l, i => by
    rw [List.map_cons, Instr.findAsking]
    have h := run_keyEq (w := w) hT k x.1
    simp only [Sem.run_bind]
    rw [show (entM x).key = kv x.1 from rfl, h]
    simp only [Result.andThen_ok, findE]
    by_cases hk : k = x.1
    · simp [hk, entM]
    · simp only [hk, decide_false, Bool.false_eq_true, if_false]
      exact run_find hT k l (i + 1)
theorem run_findKey (hT : KeyT P T E n) (k : Vec n) (l : List (Ent n)) : (Instr.findKey T (kv k) (ents l).toList).run P w = .ok (findE k l 0) w := by
  rw [run_findKey_eq w (by rw [hT.und])]
  exact run_find hT k l 0
theorem get_map {g c : Nat} {es : Array MapEntry} (hg : w.heap[g]? = some (.map es c)) : (getObj g).run P w = .ok (.map es c) w := by simp [getObj, Sem.run, hg]
theorem set_map {g c : Nat} {es : Array MapEntry} (o : Obj) (hg : w.heap[g]? = some (.map es c)) : (setObj g o).run P w = .ok () (setBlk w g o) := by simp [setObj, Sem.run, hg, setBlk]
/-- What a key has. -/
def getE (k : Vec n) (l : List (Ent n)) : Option Value := (l.find? fun x => decide (k = x.1)).map (·.2.1)
theorem findE_get (k : Vec n) : ∀ (l : List (Ent n)) (i : Nat), (findE k l i).map (·.2) = getE k l
  | [], i => rfl
  | x :: l, i => by
    unfold findE getE
    by_cases h : k = x.1
    · simp [h]
    · simp only [h, if_false, List.find?_cons, decide_false]
      exact findE_get k l (i + 1)
theorem lookup_map {M V g c : Nat} {l : List (Ent n)} {z : Value} (hM : P.underlying M = some (.map T V)) (hT : KeyT P T E n) (hz : (zeroValue V).run P w = .ok z w) (hg : w.heap[g]? = some (.map (ents l) c)) (k : Vec n) (K : Value → Prop) :
    rdP P (Instr.lookup M (.map (some g)) (kv k) true) w K = K (.tuple #[(getE k l).getD z, .bool (getE k l).isSome]) := by
  refine rdP_eq ?_ K
  unfold Instr.lookup
  simp only [Sem.run_bind, run_underlying hM, Result.andThen_ok, get_map hg, Sem.run_pure, run_key hT k _ 9998, run_findKey hT k l]
  rw [← findE_get k l 0]
  cases h : findE k l 0 with
  | none => simp [hz]
  | some x => simp
theorem getE_none {k : Vec n} {l : List (Ent n)} (h : getE k l = none) (i : Nat) : findE k l i = none := by
  have := findE_get k l i
  rw [h] at this
  simpa using this
abbrev mp (g : Nat) (l : List (Ent n)) (c : Nat) : Asn := Asn.obj g (.map (ents l) c)
variable {w0 : World} {As : List Asn}
theorem makeMap_s {t : TypeId} {K : Value → World → Prop} (hs : Sep w0 w As) (h : ∀ g w', Sep w0 w' (mp (n := n) g [] 0 :: As) → K (.map (some g)) w') : efP P (Instr.makeMap t none) w K :=
  ⟨.map (some w.heap.size), w.alloc (.map #[] 0), rfl, h _ _ (hs.new (fr_alloc w _) (B := mp _ [] 0) ⟨alloc_new w _, rfl⟩ (by simp))⟩
theorem Sep.map {g c : Nat} {l : List (Ent n)} (hs : Sep w0 w (mp g l c :: As)) : w.heap[g]? = some (.map (ents l) c) := by
  obtain ⟨F, hF, _⟩ := hs.head
  exact hF
/-- A key that is not there yet. -/
theorem putNew_s {M V g c : Nat} {l : List (Ent n)} {k : Vec n} {v : Value} {K : World → Prop} (hM : P.underlying M = some (.map T V)) (hT : KeyT P T E n) (hs : Sep w0 w (mp g l c :: As)) (hk : getE k l = none)
    (h : ∀ w', Sep w0 w' (mp g (l ++ [(k, v, c)]) (c + 1) :: As) → K w') : efU P (Instr.mapUpdate M (.map (some g)) (kv k) v) w K := by
  have hg := hs.map
  obtain ⟨F, ⟨hb, rfl⟩, hu⟩ := hs.upd
  have e : (ents l).push (entM (k, v, c)) = ents (l ++ [(k, v, c)]) := by
    apply Array.ext'
    simp [ents]
  refine ⟨setBlk w g (.map (ents (l ++ [(k, v, c)])) (c + 1)), ?_, h _ (hu _ [g] (mp g _ _) ⟨setBlk_self w g _ _ hb, rfl⟩ (fr_setBlk w g _) (Grew.refl _ _))⟩
  unfold Instr.mapUpdate
  simp only [Sem.run_bind, run_underlying hM, Result.andThen_ok, get_map hg, run_key hT k _ 9998, run_findKey hT k l, getE_none hk 0]
  rw [← e]
  exact set_map _ hg
end
end Go.Fx
set_option linter.unusedVariables false
set_option linter.unusedSimpArgs false
namespace Go.Fx
section
variable {P : Program} {n : Nat} {w0 w : World} {As : List Asn}
end
end Go.Fx
set_option linter.unusedVariables false
set_option linter.unusedSimpArgs false
namespace Go.Fx
section
variable {P : Program} {T E n : Nat} {w0 w : World} {As : List Asn}
theorem bits_bv : ∀ (l : List UInt8) (m : Nat), ((bvs l).zip (bvs l)).all (fun x => Instr.sameBits (m + 1) x.1 x.2) = true
  | [], m => rfl
  | b :: l, m => by
    have ih := bits_bv l m
    unfold bvs at ih ⊢
    rw [List.map_cons, List.zip_cons_cons, List.all_cons, ih]
    simp [Instr.sameBits, bv]
theorem same_key (k : Vec n) (m : Nat) : Instr.sameBits (m + 2) (kv k) (kv k) = true := by
  show (((bvs k.1).toArray.size == (bvs k.1).toArray.size) && ((bvs k.1).toArray.toList.zip (bvs k.1).toArray.toList).all fun x => Instr.sameBits (m + 1) x.1 x.2) = true
  rw [List.toList_toArray, bits_bv]
  simp
theorem run_stays (k : Vec n) : (Instr.keyThatStays (kv k) (kv k)).run P w = .ok (kv k) w := by
  unfold Instr.keyThatStays
  rw [if_pos (same_key k 9998)]
  rfl
/-- An entry with another value. -/
def updE (k : Vec n) (v : Value) : List (Ent n) → List (Ent n)
  | [] => []
  | x :: l => if k = x.1 then (k, v, x.2.2) :: l else x :: updE k v l
theorem updE_born (k : Vec n) (v : Value) : ∀ l : List (Ent n), (updE k v l).map (·.2.2) = l.map (·.2.2)
  | [] => rfl
  | x :: l => by
    unfold updE
    split
    · rfl
    · rw [List.map_cons, updE_born k v l, List.map_cons]
theorem updE_get (k : Vec n) (v : Value) (k' : Vec n) : ∀ l : List (Ent n), (getE k l).isSome = true → getE k' (updE k v l) = if k' = k then some v else getE k' l
  | [], h => by simp [getE] at h
  | x :: l, h => by
    unfold updE
    by_cases hk : k = x.1
    · rw [if_pos hk]
      by_cases hk' : k' = k
      · unfold getE; rw [List.find?_cons_of_pos (by simpa using hk'), if_pos hk']; rfl
      · unfold getE
        rw [if_neg hk', List.find?_cons_of_neg (by simpa using hk'), List.find?_cons_of_neg (by rw [← hk]; simpa using hk')]
    · have h1 : (getE k l).isSome = true := by
        unfold getE at h ⊢
        rwa [List.find?_cons_of_neg (by simpa using hk)] at h
      have ih := updE_get k v k' l h1
      rw [if_neg hk]
      unfold getE at ih ⊢
      by_cases hx : k' = x.1
      · rw [List.find?_cons_of_pos (by simpa using hx), List.find?_cons_of_pos (by simpa using hx), if_neg (by rw [hx]; exact fun he => hk he.symm)]
      · rw [List.find?_cons_of_neg (by simpa using hx), List.find?_cons_of_neg (by simpa using hx)]
        exact ih
theorem findE_ge (k : Vec n) : ∀ (l : List (Ent n)) (i j : Nat) (y : Value), findE k l i = some (j, y) → i ≤ j
  | [], i, j, y, h => by simp [findE] at h
  | x :: l, i, j, y, h => by
    unfold findE at h
    split at h
    · simp only [Option.some.injEq, Prod.mk.injEq] at h; omega
    · have := findE_ge k l (i + 1) j y h; omega
theorem findE_key (k : Vec n) : ∀ (l : List (Ent n)) (i j : Nat) (y : Value), findE k l i = some (j, y) → ∃ x, l[j - i]? = some x ∧ x.1 = k ∧ x.2.1 = y
  | [], i, j, y, h => by simp [findE] at h
  | x :: l, i, j, y, h => by
    unfold findE at h
    split at h
    · rename_i hk
      simp only [Option.some.injEq, Prod.mk.injEq] at h
      refine ⟨x, ?_, hk.symm, h.2⟩
      rw [show j - i = 0 by omega]; rfl
    · have hg := findE_ge k l (i + 1) j y h
      obtain ⟨z, hz, h2⟩ := findE_key k l (i + 1) j y h
      refine ⟨z, ?_, h2⟩
      rw [show j - i = (j - (i + 1)) + 1 by omega]
      exact hz
theorem updE_mod (k : Vec n) (v : Value) : ∀ (l : List (Ent n)) (i j : Nat) (y : Value), findE k l i = some (j, y) → (l.map entM).modify (j - i) (fun e => { e with key := kv k, val := v }) = (updE k v l).map entM
  | [], i, j, y, h => by simp [findE] at h
  | x :: l, i, j, y, h => by
    unfold findE at h
    unfold updE
    split at h
    · rename_i hk
      simp only [Option.some.injEq, Prod.mk.injEq] at h
      rw [if_pos hk, show j - i = 0 by omega]
      rfl
    · rename_i hk
      have hg := findE_ge k l (i + 1) j y h
      have ih := updE_mod k v l (i + 1) j y h
      rw [if_neg hk, show j - i = (j - (i + 1)) + 1 by omega, List.map_cons, List.modify_succ_cons, ih, List.map_cons]
structure MOk (l : List (Ent n)) (c : Nat) : Prop where
  nd : (l.map (·.2.2)).Nodup
  lt : ∀ x ∈ l, x.2.2 < c
theorem MOk.nil : MOk ([] : List (Ent n)) 0 := ⟨by simp, fun x hx => by cases hx⟩
theorem MOk.push {l : List (Ent n)} {c : Nat} (h : MOk l c) (k : Vec n) (v : Value) : MOk (l ++ [(k, v, c)]) (c + 1) := by
  refine ⟨?_, fun x hx => ?_⟩
  · rw [List.map_append, List.nodup_append]
    refine ⟨h.nd, by simp, fun x hx y hy he => ?_⟩
    simp only [List.map_cons, List.map_nil, List.mem_singleton] at hy
    subst hy
    obtain ⟨z, hz, rfl⟩ := List.mem_map.1 hx
    have := h.lt z hz
    omega
  · rcases List.mem_append.1 hx with hx | hx
    · have := h.lt x hx; omega
    · obtain rfl : x = (k, v, c) := by simpa using hx
      show c < c + 1
      omega
theorem MOk.upd {l : List (Ent n)} {c : Nat} (h : MOk l c) (k : Vec n) (v : Value) : MOk (updE k v l) c := by
  refine ⟨by rw [updE_born]; exact h.nd, fun x hx => ?_⟩
  have h1 : x.2.2 ∈ (updE k v l).map (·.2.2) := List.mem_map_of_mem hx
  rw [updE_born] at h1
  obtain ⟨z, hz, he⟩ := List.mem_map.1 h1
  have := h.lt z hz
  omega
theorem push_get (k : Vec n) (v : Value) (c : Nat) {l : List (Ent n)} (hn : getE k l = none) (k' : Vec n) : getE k' (l ++ [(k, v, c)]) = if k' = k then some v else getE k' l := by
  unfold getE at hn ⊢
  rw [Option.map_eq_none_iff] at hn
  rw [List.find?_append]
  by_cases hk : k' = k
  · subst hk
    rw [hn, if_pos rfl]
    simp
  · rw [if_neg hk, List.find?_cons_of_neg (by simpa using hk)]
    simp
/-- A map, by what each key has. -/
def MpR (h : Heap) (g : Nat) (f : Vec n → Option Value) : Prop := ∃ l c, MOk l c ∧ (∀ k, getE k l = f k) ∧ h[g]? = some (.map (ents l) c)
def mpF (g : Nat) (f : Vec n → Option Value) : Asn := Asn.ex fun l => Asn.ex fun c => (Asn.pr (MOk l c ∧ ∀ k, getE k l = f k)).star (mp g l c)
def updF (f : Vec n → Option Value) (k : Vec n) (v : Value) : Vec n → Option Value := fun k' => if k' = k then some v else f k'
theorem mpF_open {g : Nat} {f : Vec n → Option Value} (h : Sep w0 w (mpF g f :: As)) : ∃ l c, (MOk l c ∧ ∀ k, getE k l = f k) ∧ Sep w0 w (mp g l c :: As) := by
  unfold mpF at h
  rw [Sep_ex] at h
  obtain ⟨l, h⟩ := h
  rw [Sep_ex] at h
  obtain ⟨c, h⟩ := h
  rw [Sep_star, Sep_pr] at h
  exact ⟨l, c, h.1, h.2⟩
theorem mpF_close {g c : Nat} {f : Vec n → Option Value} {l : List (Ent n)} (hl : MOk l c ∧ ∀ k, getE k l = f k) (h : Sep w0 w (mp g l c :: As)) : Sep w0 w (mpF g f :: As) := by
  unfold mpF
  rw [Sep_ex]
  refine ⟨l, ?_⟩
  rw [Sep_ex]
  exact ⟨c, by rw [Sep_star, Sep_pr]; exact ⟨hl, h⟩⟩
theorem mpF_rd {g : Nat} {f : Vec n → Option Value} (h : Sep w0 w (mpF g f :: As)) : MpR w.heap g f := by
  obtain ⟨l, c, hl, hs⟩ := mpF_open h
  exact ⟨l, c, hl.1, hl.2, hs.map⟩
theorem makeF_s {t : TypeId} {K : Value → World → Prop} (hs : Sep w0 w As) (h : ∀ g w', Sep w0 w' (mpF (n := n) g (fun _ => none) :: As) → K (.map (some g)) w') : efP P (Instr.makeMap t none) w K :=
  makeMap_s (n := n) hs fun g w' hs' => h g w' (mpF_close ⟨MOk.nil, fun _ => rfl⟩ hs')
/-- A key gets a value. -/
theorem putF_s {M V g : Nat} {f : Vec n → Option Value} {k : Vec n} {v : Value} {K : World → Prop} (hM : P.underlying M = some (.map T V)) (hT : KeyT P T E n) (hs : Sep w0 w (mpF g f :: As))
    (h : ∀ w', Sep w0 w' (mpF g (updF f k v) :: As) → K w') : efU P (Instr.mapUpdate M (.map (some g)) (kv k) v) w K := by
  obtain ⟨l, c, ⟨hok, hf⟩, hs⟩ := mpF_open hs
  cases hk : getE k l with
  | none => exact putNew_s hM hT hs hk fun w' hs' => h w' (mpF_close ⟨hok.push k v, fun k' => by rw [push_get k v c hk]; unfold updF; rw [hf]⟩ hs')
  | some y =>
    have hg := hs.map
    obtain ⟨F, ⟨hb, rfl⟩, hu⟩ := hs.upd
    have hfe := findE_get k l 0
    rw [hk] at hfe
    obtain ⟨⟨i, y'⟩, hfi, _⟩ := Option.map_eq_some_iff.1 hfe
    obtain ⟨x, hx, hxk, _⟩ := findE_key k l 0 i y' hfi
    have hm := updE_mod k v l 0 i y' hfi
    rw [Nat.sub_zero] at hx hm
    have e2 : (ents l).modify i (fun e => { e with key := kv k, val := v }) = ents (updE k v l) := by
      apply Array.ext'
      unfold ents
      rw [Array.toList_modify]
      exact hm
    refine ⟨setBlk w g (.map (ents (updE k v l)) c), ?_, h _ (mpF_close ⟨hok.upd k v, fun k' => by rw [updE_get k v k' l (by rw [hk]; rfl)]; unfold updF; rw [hf]⟩ (hu _ [g] (mp g _ _) ⟨setBlk_self w g _ _ hb, rfl⟩ (fr_setBlk w g _) (Grew.refl _ _)))⟩
    have e1 : (((ents l)[i]?).map (·.key)).getD (kv k) = kv k := by
      unfold ents
      rw [List.getElem?_toArray, List.getElem?_map, hx]
      show kv x.1 = kv k
      rw [hxk]
    unfold Instr.mapUpdate
    simp only [Sem.run_bind, run_underlying hM, Result.andThen_ok, get_map hg, run_key hT k _ 9998, run_findKey hT k l, hfi, e1, run_stays]
    rw [← e2]
    exact set_map _ hg
end
end Go.Fx
set_option linter.unusedVariables false
set_option linter.unusedSimpArgs false
namespace Go.Fx
/-- An effect that is a cut, behind which whatever holds. -/
theorem efC_cut {f : World → (Value → World → Prop) → Prop} {w : World} {K : (World → Prop) → Value → World → Prop} (h : f w fun v w' => ∃ S : World → Prop, S w' ∧ K S v w') : efC f w K := h
/-- An iterator of n values: what it hands over at place i is known by 'arg'; M: the memory that it looks at is as it was. -/
def Iter (P : Program) (g : Value) (M : Heap → Prop) (n : Nat) (arg : Nat → World → List Value → Prop) : Prop :=
  ∃ gf cap, g = .func (.func gf) #[] cap ∧ callable P gf = true ∧ ∀ (y : Value) (w0 w : World) (J : Nat → List Asn → Prop) (X : List Asn → Prop) (As : List Asn), y.oneCell' = true → J 0 As → Sep w0 w As →
    (∀ i Bs Ls z, J i Bs → Sep w0 z (Bs ++ Ls) → M z.heap) →
    (∀ i args z Bs Ls, i < n → arg i z args → J i Bs → Sep w0 z (Bs ++ Ls) → calY P y args z fun r z' => (r = .bool true ∧ ∃ Cs, J (i + 1) Cs ∧ Sep w0 z' (Cs ++ Ls)) ∨ (r = .bool false ∧ ∃ Cs, X Cs ∧ Sep w0 z' (Cs ++ Ls))) →
    cal P gf (y :: cap.toList) w fun r z' => r = .tuple #[] ∧ ((∃ Cs, J n Cs ∧ Sep w0 z' Cs) ∨ ∃ Cs, X Cs ∧ Sep w0 z' Cs)
section
variable {w0 w w' : World} {As Bs : List Asn}
theorem Sep.rot (h : Sep w0 w (As ++ Bs)) : Sep w0 w (Bs ++ As) := h.perm List.perm_append_comm
theorem Sep.objUpd {g : Nat} {o : Obj} (o' : Obj) (h : Sep w0 w (.obj g o :: As)) : Sep w0 (setBlk w g o') (.obj g o' :: As) := by
  obtain ⟨F, ⟨hb, rfl⟩, hk⟩ := h.upd
  exact hk _ [g] (.obj g o') ⟨setBlk_self w g _ _ hb, rfl⟩ (fr_setBlk w g _) (Grew.refl _ _)
theorem Sep.objAt {g : Nat} {o : Obj} (h : Sep w0 w (.obj g o :: As)) : w.heap[g]? = some o := by
  obtain ⟨F, ⟨hb, rfl⟩, hk⟩ := h.upd
  exact hb
theorem takeD_s {D : Nat} {K : World → Prop} (hs : Sep w0 w (.obj D dfB :: As)) (h : ∀ w', Sep w0 w' As → K w') : takeD [D] w K :=
  ⟨hs.objAt, h _ (hs.objUpd _).tail⟩
theorem rng_s {P : Program} {g : Value} {M : Heap → Prop} {n k : Nat} {arg : Nat → World → List Value → Prop} {rnd : List Value → World → (World → (World → Prop) → Prop) → (Option Code → World → Prop) → Prop}
    {out : Nat → List (Option Code × (World → Prop))} (hs : Sep w0 w As) (hit : Iter P g M n arg) (hk : ∀ i z args, arg i z args → args.length = k)
    (J : Nat → List Asn → Prop) (X : Code → List Asn → Prop) (h0 : J 0 As) (hM : ∀ i Bs Ls z, J i Bs → Sep w0 z (Bs ++ Ls) → M z.heap)
    (hrnd : ∀ (i : Nat) (args : List Value) (z : World) (Bs LR LB : List Asn) (bg : World → (World → Prop) → Prop) (fin : Option Code → World → Prop), i < n → J i Bs → arg i z args → Sep w0 z (Bs ++ LR) →
      (∀ z' Cs K, Sep w0 z' (Cs ++ LR) → (∀ z'', Sep w0 z'' (Cs ++ LB) → K z'') → bg z' K) →
      (∀ z' Cs, J (i + 1) Cs → Sep w0 z' (Cs ++ LB) → fin none z') → (∀ j z' Cs, X j Cs → Sep w0 z' (Cs ++ LB) → fin (some j) z') → rnd args z bg fin)
    (hN : ∀ D Bs z, J n Bs → Sep w0 z (.obj D dfB :: Bs) → outL none z (out D)) (hX : ∀ D j Bs z, X j Bs → Sep w0 z (.obj D dfB :: Bs) → outL (some j) z (out D)) : rng P g k w rnd out := by
  obtain ⟨gf, cap, hg, hcal, hI⟩ := hit
  refine ⟨gf, cap, hg, hcal, fun y rec h1 hy => ?_⟩
  have swap2 : ∀ {z : World} {Cs : List Asn} {A B : Asn}, Sep w0 z (Cs ++ [A, B]) → Sep w0 z (A :: B :: Cs) := fun h => Sep.rot h
  have swap3 : ∀ {z : World} {Cs : List Asn} {A B : Asn}, Sep w0 z (A :: B :: Cs) → Sep w0 z (Cs ++ [A, B]) := fun {z Cs A B} h => Sep.rot (As := [A, B]) h
  -- the record at the head, and back
  have hd : ∀ {z : World} {Cs Ls : List Asn} {A : Asn}, Sep w0 z (Cs ++ (A :: Ls)) → Sep w0 z (A :: (Cs ++ Ls)) := fun h => h.perm List.perm_middle
  have bk : ∀ {z : World} {Cs Ls : List Asn} {A : Asn}, Sep w0 z (A :: (Cs ++ Ls)) → Sep w0 z (Cs ++ (A :: Ls)) := fun h => h.perm List.perm_middle.symm
  refine cal_i (hI y w0 _ (fun i Bs => ∃ Cs, J i Cs ∧ Bs = Cs ++ [.obj (w.heap.size + 1) (rec .ready none), .obj w.heap.size dfB])
    (fun Bs => ∃ j Cs, X j Cs ∧ Bs = Cs ++ [.obj (w.heap.size + 1) (rec .done (some j)), .obj w.heap.size dfB]) (As ++ [.obj (w.heap.size + 1) (rec .ready none), .obj w.heap.size dfB]) h1 ⟨As, h0, rfl⟩ (swap3 ?_) ?_ ?_) ?_
  · have h2 : Sep w0 (w.alloc dfB) (.obj w.heap.size dfB :: As) := hs.new (F' := [w.heap.size]) (fr_alloc w _) (B := .obj w.heap.size dfB) ⟨alloc_new w _, rfl⟩ (by simp)
    have e : (w.alloc dfB).heap.size = w.heap.size + 1 := by simp
    refine h2.new (F' := [w.heap.size + 1]) (fr_alloc _ _) (B := .obj (w.heap.size + 1) (rec .ready none)) ⟨?_, rfl⟩ (by simp)
    have := alloc_new (w.alloc dfB) (rec .ready none)
    rwa [e] at this
  · rintro i _ Ls z ⟨Cs, hJ, rfl⟩ hB
    rw [List.append_assoc] at hB
    exact hM i Cs _ z hJ hB
  · rintro i args z _ Ls hi harg ⟨Bs, hJ, rfl⟩ hB
    rw [List.append_assoc] at hB
    refine hy args z _ (hk i z args harg) (hd hB).objAt ?_
    refine hrnd i args z Bs _ (.obj (w.heap.size + 1) (rec .busy none) :: .obj w.heap.size dfB :: Ls) _ _ hi hJ harg hB ?_ ?_ ?_
    · intro z' Cs K hz hK
      exact ⟨(hd hz).objAt, hK _ (bk ((hd hz).objUpd _))⟩
    · intro z' Cs hC hz
      exact ⟨(hd hz).objAt, .inl ⟨rfl, _, ⟨Cs, hC, rfl⟩, by rw [List.append_assoc]; exact bk ((hd hz).objUpd _)⟩⟩
    · intro j z' Cs hC hz
      exact ⟨(hd hz).objAt, .inr ⟨rfl, _, ⟨j, Cs, hC, rfl⟩, by rw [List.append_assoc]; exact bk ((hd hz).objUpd _)⟩⟩
  · rintro v z ⟨-, ⟨_, ⟨Bs, hJ, rfl⟩, hB⟩ | ⟨_, ⟨j, Bs, hX', rfl⟩, hB⟩⟩
    · exact ⟨none, (swap2 hB).objAt, hN _ Bs _ hJ ((swap2 hB).objUpd _).tail⟩
    · exact ⟨some j, (swap2 hB).objAt, hX _ j Bs _ hX' ((swap2 hB).objUpd _).tail⟩
end
end Go.Fx
set_option linter.unusedVariables false
set_option linter.unusedSimpArgs false
namespace Go.Fx
theorem tpEqual_spec {w : World} {x y : Value} {a b : List UInt8} (hx : RdB w.heap x a) (hy : RdB w.heap y b) : cal P f_bytes_Equal [x, y] w fun v w' => v = .bool (a == b) ∧ w = w' := by
  refine s_bytes_Equal fun R hR => ?_
  unfold c_bytes_Equal
  rw [rdP_eq (conv_str UT_bytes UT_uint8 UT_string hx), rdP_eq (conv_str UT_bytes UT_uint8 UT_string hy), eqS_str]
  exact hR _ _ ⟨rfl, rfl⟩
structure Tp where
  b : List UInt8
  armed : Int
  off : Bool
  made : Bool
def Tp.may (x : Tp) : Int := if x.made then (if x.off then 5 else 0) else 2
/-- A tape that may be. -/
def Tp.Ok (x : Tp) : Prop := x.b.length ≤ 262144 ∧ -1 ≤ x.armed ∧ x.armed ≤ 9223372036854775807
def tp (p : Value) (x : Tp) : Asn :=
  .ex fun g => .ex fun s => .star (.pr (p = .pointer (some ⟨g, 0, none⟩))) (.star (blk g #[s, .int .i64 x.armed, .bool x.off, .bool x.made] T_tape_Tape) (ownB s x.b))
def Tp.goes (x : Tp) : Tp := { x with off := true, armed := -1 }
def Tp.append (x : Tp) (a : List UInt8) : Tp × Int :=
  if x.may ≠ 0 then (x, x.may) else if 262144 < x.b.length + a.length then (x, 6) else if x.armed = -1 then ({ x with b := x.b ++ a }, 0) else
  if (a.length : Int) ≤ x.armed then ({ x with b := x.b ++ a, armed := x.armed - a.length }, 0) else ({ x with b := x.b ++ a.take x.armed.toNat, off := true, armed := -1 }, 5)
def Tp.truncate (x : Tp) (n : Int) : Tp × Int :=
  if x.may ≠ 0 then (x, x.may) else if n < 0 ∨ (x.b.length : Int) < n then (x, 1) else ({ x with b := x.b.take n.toNat }, 0)
def Tp.arm (x : Tp) (n : Int) : Tp × Int := if x.may ≠ 0 then (x, x.may) else if n < 0 then (x, 1) else ({ x with armed := n }, 0)
def Tp.crash (x : Tp) : Tp × Int := if x.may ≠ 0 then (x, x.may) else (x.goes, 0)
def Tp.restart (x : Tp) : Tp × Int := if x.may = 0 then (x, 7) else if x.may = 5 then ({ x with off := false }, 0) else (x, 2)
def joined (l : List (Sl UInt8)) : List UInt8 := l.flatMap (·.l)
theorem joined_take_succ {l : List (Sl UInt8)} {k : Nat} {a : Sl UInt8} (h : l[k]? = some a) : joined (l.take (k + 1)) = joined (l.take k) ++ a.l := by
  rw [List.take_add_one, h]
  simp [joined]
theorem joined_take_le (l : List (Sl UInt8)) (k : Nat) : (joined (l.take k)).length ≤ (joined l).length := by
  conv => rhs; rw [← List.take_append_drop k l]
  unfold joined
  rw [List.flatMap_append, List.length_append]
  omega
section
variable {w0 w : World} {As : List Asn} {p : Value} {x : Tp}
theorem tp_open : Sep w0 w (tp p x :: As) = ∃ g s, p = .pointer (some ⟨g, 0, none⟩) ∧ Sep w0 w (blk g #[s, .int .i64 x.armed, .bool x.off, .bool x.made] T_tape_Tape :: ownB s x.b :: As) := by
  simp only [tp, Sep_ex, Sep_star, Sep_pr]
theorem tp_i {g : Nat} {s : Value} (hs : Sep w0 w (blk g #[s, .int .i64 x.armed, .bool x.off, .bool x.made] T_tape_Tape :: ownB s x.b :: As)) : Sep w0 w (tp (.pointer (some ⟨g, 0, none⟩)) x :: As) := by
  rw [tp_open]; exact ⟨g, s, rfl, hs⟩
theorem tp_nilP (hs : Sep w0 w (tp p x :: As)) (b : Bool) (K : Value → Prop) : nilP b p K = K (.bool b) := by
  rw [tp_open] at hs
  obtain ⟨g, s, rfl, hs⟩ := hs
  rw [nilP_mk]
  cases b <;> rfl
theorem tpMay_spec (hs : Sep w0 w (tp p x :: As)) : cal P f_tape_Tape_may [p] w fun v w' => v = .int .i64 x.may ∧ w = w' := by
  rw [tp_open] at hs
  obtain ⟨g, s, rfl, hs⟩ := hs
  have hg := hs.blk
  refine s_tape_Tape_may fun R hR => ?_
  unfold c_tape_Tape_may
  obtain ⟨b, armed, off, made⟩ := x
  cases made <;> cases off <;> simp only [nilc_some, fad_mk, pik_true, pik_false, cnd_true, cnd_false, gif_same, gif_tf, gif_ft, gif_undef, bi_add, bi_sub, bi_mul, bi_eql, bi_neq, bi_lss, bi_leq, bi_gtr, bi_geq, notB_bool, cvi_int, lenS_mk, lenT_mk, ext0, ext1, ext2, nilP_mk, nilS_mk, fldv_agg, jn0_k, jn1_k, jn2_k, jn1_and, jn1_or, ex_some, Option.isNone_some, Option.isNone_none, Bool.false_bne, Bool.bne_true, Bool.bne_false, Bool.true_bne, Bool.not_true, Bool.not_false, Bool.and_true, Bool.true_and, Bool.and_false, Bool.false_and, Bool.or_true, Bool.true_or, Bool.or_false, Bool.false_or, cond_true, cond_false, List.getElem?_toArray, List.getElem?_cons_zero, List.getElem?_cons_succ, Nat.zero_add, Nat.add_zero, Nat.reduceAdd, forall_const, ld1_eq hg] <;> exact hR _ _ ⟨rfl, rfl⟩
theorem may_nil : cal P f_tape_Tape_may [.pointer none] w fun v w' => v = .int .i64 2 ∧ w = w' := by
  refine s_tape_Tape_may fun R hR => ?_
  unfold c_tape_Tape_may
  simp only [nilc_some, fad_mk, pik_true, pik_false, cnd_true, cnd_false, gif_same, gif_tf, gif_ft, gif_undef, bi_add, bi_sub, bi_mul, bi_eql, bi_neq, bi_lss, bi_leq, bi_gtr, bi_geq, notB_bool, cvi_int, lenS_mk, lenT_mk, ext0, ext1, ext2, nilP_mk, nilS_mk, fldv_agg, jn0_k, jn1_k, jn2_k, jn1_and, jn1_or, ex_some, Option.isNone_some, Option.isNone_none, Bool.false_bne, Bool.bne_true, Bool.bne_false, Bool.true_bne, Bool.not_true, Bool.not_false, Bool.and_true, Bool.true_and, Bool.and_false, Bool.false_and, Bool.or_true, Bool.true_or, Bool.or_false, Bool.false_or, cond_true, cond_false, List.getElem?_toArray, List.getElem?_cons_zero, List.getElem?_cons_succ, Nat.zero_add, Nat.add_zero, Nat.reduceAdd, forall_const]
  exact hR _ _ ⟨rfl, rfl⟩
theorem tpGoes_spec (hs : Sep w0 w (tp p x :: As)) : cal P f_tape_Tape_goes [p] w fun v w' => v = .tuple #[] ∧ Sep w0 w' (tp p x.goes :: As) := by
  rw [tp_open] at hs
  obtain ⟨g, s, rfl, hs⟩ := hs
  refine s_tape_Tape_goes fun R hR => ?_
  unfold c_tape_Tape_goes
  simp only [nilc_some, fad_mk, pik_true, pik_false, cnd_true, cnd_false, gif_same, gif_tf, gif_ft, gif_undef, bi_add, bi_sub, bi_mul, bi_eql, bi_neq, bi_lss, bi_leq, bi_gtr, bi_geq, notB_bool, cvi_int, lenS_mk, lenT_mk, ext0, ext1, ext2, nilP_mk, nilS_mk, fldv_agg, jn0_k, jn1_k, jn2_k, jn1_and, jn1_or, ex_some, Option.isNone_some, Option.isNone_none, Bool.false_bne, Bool.bne_true, Bool.bne_false, Bool.true_bne, Bool.not_true, Bool.not_false, Bool.and_true, Bool.true_and, Bool.and_false, Bool.false_and, Bool.or_true, Bool.true_or, Bool.or_false, Bool.false_or, cond_true, cond_false, List.getElem?_toArray, List.getElem?_cons_zero, List.getElem?_cons_succ, Nat.zero_add, Nat.add_zero, Nat.reduceAdd, forall_const]
  refine st1_s hs (by simp) rfl fun w1 hs => ?_
  refine st1_s hs (by simp) rfl fun w2 hs => ?_
  exact hR _ _ ⟨rfl, tp_i hs⟩
theorem tpTold_spec {v : Value} {l : List UInt8} (hb : RdB w.heap v l) (hl : l.length ≤ 281474976710656) : cal P f_tape_told [v] w fun r w' => Sep w w' [ownB r l] := by
  refine s_tape_told fun R hR => ?_
  unfold c_tape_told
  rw [hb.len]
  refine mkB_s (Sep.start w) ST_bytes ZC_uint8 hl fun g w1 hs => ?_
  refine cpyB_s ST_bytes hs (hs.rdB hb) fun w2 hs => ?_
  have e1 : l.take (List.replicate l.length (0 : UInt8)).length ++ (List.replicate l.length (0 : UInt8)).drop l.length = l := by simp
  rw [e1] at hs
  have e2 : min l.length (List.replicate l.length (0 : UInt8)).length = l.length := by simp
  rw [e2, slc3 UT_bytes ST_bytes.siz (Nat.le_refl _)]
  exact hR _ _ hs
theorem tpNew_spec : cal P f_tape_New [] w fun v w' => Sep w w' [tp v ⟨[], -1, false, true⟩] := by
  refine s_tape_New fun R hR => ?_
  unfold c_tape_New
  have hb : (Instr.build T_tape_Tape #[(1, .int .i64 (-1)), (3, .bool true)]).run P w = .ok (.agg #[.slice none 0 0, .int .i64 (-1), .bool false, .bool true]) w := by kernel_rfl
  rw [rdP_eq hb]
  refine bx_s (Sep.start w) fun g w1 hs => ?_
  exact hR _ _ (tp_i hs.nil.p1)
theorem tpOf_spec {v : Value} {l : List UInt8} (hb : RdB w.heap v l) : cal P f_tape_Of [v] w fun r w' =>
    (262144 < l.length ∧ r = .tuple #[.pointer none, .int .i64 3] ∧ w = w') ∨ (l.length ≤ 262144 ∧ ∃ p, r = .tuple #[p, .int .i64 0] ∧ Sep w w' [tp p ⟨l, -1, false, true⟩]) := by
  refine s_tape_Of fun R hR => ?_
  unfold c_tape_Of
  simp only [nilc_some, fad_mk, pik_true, pik_false, cnd_true, cnd_false, gif_same, gif_tf, gif_ft, gif_undef, bi_add, bi_sub, bi_mul, bi_eql, bi_neq, bi_lss, bi_leq, bi_gtr, bi_geq, notB_bool, cvi_int, lenS_mk, lenT_mk, ext0, ext1, ext2, nilP_mk, nilS_mk, fldv_agg, jn0_k, jn1_k, jn2_k, jn1_and, jn1_or, ex_some, Option.isNone_some, Option.isNone_none, Bool.false_bne, Bool.bne_true, Bool.bne_false, Bool.true_bne, Bool.not_true, Bool.not_false, Bool.and_true, Bool.true_and, Bool.and_false, Bool.false_and, Bool.or_true, Bool.true_or, Bool.or_false, Bool.false_or, cond_true, cond_false, List.getElem?_toArray, List.getElem?_cons_zero, List.getElem?_cons_succ, Nat.zero_add, Nat.add_zero, Nat.reduceAdd, forall_const, hb.len]
  rw [cnd_bool]
  refine ⟨fun h => ?_, fun h => ?_⟩
  · exact hR _ _ (.inl ⟨by simp at h; omega, rfl, rfl⟩)
  · have h : l.length ≤ 262144 := by simp at h; omega
    refine cal_i tpNew_spec ?_
    rintro p w1 hs
    refine cal_i (tpTold_spec (hs.rdB hb) (by omega)) ?_
    rintro r w2 hs2
    replace hs := (hs.join hs2).p1
    clear hs2
    rw [tp_open] at hs
    obtain ⟨g, s, rfl, hs⟩ := hs
    simp only [nilc_some, fad_mk, pik_true, pik_false, cnd_true, cnd_false, gif_same, gif_tf, gif_ft, gif_undef, bi_add, bi_sub, bi_mul, bi_eql, bi_neq, bi_lss, bi_leq, bi_gtr, bi_geq, notB_bool, cvi_int, lenS_mk, lenT_mk, ext0, ext1, ext2, nilP_mk, nilS_mk, fldv_agg, jn0_k, jn1_k, jn2_k, jn1_and, jn1_or, ex_some, Option.isNone_some, Option.isNone_none, Bool.false_bne, Bool.bne_true, Bool.bne_false, Bool.true_bne, Bool.not_true, Bool.not_false, Bool.and_true, Bool.true_and, Bool.and_false, Bool.false_and, Bool.or_true, Bool.true_or, Bool.or_false, Bool.false_or, cond_true, cond_false, List.getElem?_toArray, List.getElem?_cons_zero, List.getElem?_cons_succ, Nat.zero_add, Nat.add_zero, Nat.reduceAdd, forall_const]
    refine st1_s hs (by simp) hs.p2.one fun w3 hs => ?_
    exact hR _ _ (.inr ⟨h, _, rfl, tp_i hs.d1⟩)
theorem tpAppend_spec {s : Sl (Sl UInt8)} (hs : Sep w0 w (tp p x :: As)) (hx : x.Ok) (hv : ∀ w', Sep w0 w' As → (rSl rBytes).ok w'.heap s) :
    cal P f_tape_Tape_Append [p, s.v] w fun v w' => v = .int .i64 (x.append (joined s.l)).2 ∧ Sep w0 w' (tp p (x.append (joined s.l)).1 :: As) := by
  refine s_tape_Tape_Append fun R hR => ?_
  unfold c_tape_Tape_Append
  refine cal_i (tpMay_spec hs) ?_
  rintro _ _ ⟨rfl, rfl⟩
  simp only [nilc_some, fad_mk, pik_true, pik_false, cnd_true, cnd_false, gif_same, gif_tf, gif_ft, gif_undef, bi_add, bi_sub, bi_mul, bi_eql, bi_neq, bi_lss, bi_leq, bi_gtr, bi_geq, notB_bool, cvi_int, lenS_mk, lenT_mk, ext0, ext1, ext2, nilP_mk, nilS_mk, fldv_agg, jn0_k, jn1_k, jn2_k, jn1_and, jn1_or, ex_some, Option.isNone_some, Option.isNone_none, Bool.false_bne, Bool.bne_true, Bool.bne_false, Bool.true_bne, Bool.not_true, Bool.not_false, Bool.and_true, Bool.true_and, Bool.and_false, Bool.false_and, Bool.or_true, Bool.true_or, Bool.or_false, Bool.false_or, cond_true, cond_false, List.getElem?_toArray, List.getElem?_cons_zero, List.getElem?_cons_succ, Nat.zero_add, Nat.add_zero, Nat.reduceAdd, forall_const]
  rw [cnd_bool]
  refine ⟨fun h => ?_, fun h => ?_⟩
  · have h : x.may ≠ 0 := by simpa using h
    exact hR _ _ ⟨by simp [Tp.append, h], by simpa [Tp.append, h] using hs⟩
  have hmay : x.may = 0 := by simpa using h
  obtain ⟨xb, armed, off, made⟩ := x
  obtain ⟨rfl, rfl⟩ : made = true ∧ off = false := by cases made <;> cases off <;> simp [Tp.may] at hmay ⊢
  obtain ⟨hx1, hx2, hx3⟩ := hx
  simp only at hx1 hx2 hx3
  have hok := hv w hs.tail
  have hlen := hok.2.1
  rw [tp_open] at hs
  obtain ⟨g, sv, rfl, hs⟩ := hs
  have hg := hs.blk
  simp only [nilc_some, fad_mk, pik_true, pik_false, cnd_true, cnd_false, gif_same, gif_tf, gif_ft, gif_undef, bi_add, bi_sub, bi_mul, bi_eql, bi_neq, bi_lss, bi_leq, bi_gtr, bi_geq, notB_bool, cvi_int, lenS_mk, lenT_mk, ext0, ext1, ext2, nilP_mk, nilS_mk, fldv_agg, jn0_k, jn1_k, jn2_k, jn1_and, jn1_or, ex_some, Option.isNone_some, Option.isNone_none, Bool.false_bne, Bool.bne_true, Bool.bne_false, Bool.true_bne, Bool.not_true, Bool.not_false, Bool.and_true, Bool.true_and, Bool.and_false, Bool.false_and, Bool.or_true, Bool.true_or, Bool.or_false, Bool.false_or, cond_true, cond_false, List.getElem?_toArray, List.getElem?_cons_zero, List.getElem?_cons_succ, Nat.zero_add, Nat.add_zero, Nat.reduceAdd, forall_const, ld1_eq hg, hs.p1.rd.len, rSl_len hok]
  rw [wi64 (by omega) (by omega)]
  refine ⟨fun y i w' => ∃ k : Nat, w' = w ∧ k ≤ s.l.length ∧ i = .int .i64 k ∧ y = .int .i64 (262144 - xb.length - (joined (s.l.take k)).length) ∧ xb.length + (joined (s.l.take k)).length ≤ 262144,
    fun _ i _ => (s.l.length - RowKit.intOf i).toNat, ⟨0, rfl, by omega, rfl, by simp [joined], by simp [joined]; omega⟩, ?_⟩
  rintro _ _ _ ⟨k, rfl, hk, rfl, rfl, hsum⟩ -
  simp only [nilc_some, fad_mk, pik_true, pik_false, cnd_true, cnd_false, gif_same, gif_tf, gif_ft, gif_undef, bi_add, bi_sub, bi_mul, bi_eql, bi_neq, bi_lss, bi_leq, bi_gtr, bi_geq, notB_bool, cvi_int, lenS_mk, lenT_mk, ext0, ext1, ext2, nilP_mk, nilS_mk, fldv_agg, jn0_k, jn1_k, jn2_k, jn1_and, jn1_or, ex_some, Option.isNone_some, Option.isNone_none, Bool.false_bne, Bool.bne_true, Bool.bne_false, Bool.true_bne, Bool.not_true, Bool.not_false, Bool.and_true, Bool.true_and, Bool.and_false, Bool.false_and, Bool.or_true, Bool.true_or, Bool.or_false, Bool.false_or, cond_true, cond_false, List.getElem?_toArray, List.getElem?_cons_zero, List.getElem?_cons_succ, Nat.zero_add, Nat.add_zero, Nat.reduceAdd, forall_const]
  rw [cnd_bool]
  refine ⟨fun h => ?_, fun h => ?_⟩
  · have hlt : k < s.l.length := by simpa using h
    obtain ⟨a, ha⟩ : ∃ a, s.l[k]? = some a := ⟨_, List.getElem?_eq_getElem hlt⟩
    have hak := rSl_ok hok ha
    refine rSl_ld1 hok ha rfl ?_
    simp only [nilc_some, fad_mk, pik_true, pik_false, cnd_true, cnd_false, gif_same, gif_tf, gif_ft, gif_undef, bi_add, bi_sub, bi_mul, bi_eql, bi_neq, bi_lss, bi_leq, bi_gtr, bi_geq, notB_bool, cvi_int, lenS_mk, lenT_mk, ext0, ext1, ext2, nilP_mk, nilS_mk, fldv_agg, jn0_k, jn1_k, jn2_k, jn1_and, jn1_or, ex_some, Option.isNone_some, Option.isNone_none, Bool.false_bne, Bool.bne_true, Bool.bne_false, Bool.true_bne, Bool.not_true, Bool.not_false, Bool.and_true, Bool.true_and, Bool.and_false, Bool.false_and, Bool.or_true, Bool.true_or, Bool.or_false, Bool.false_or, cond_true, cond_false, List.getElem?_toArray, List.getElem?_cons_zero, List.getElem?_cons_succ, Nat.zero_add, Nat.add_zero, Nat.reduceAdd, forall_const, rBytes_len hak]
    have hj := joined_take_succ ha
    have hjl := congrArg List.length hj
    rw [List.length_append] at hjl
    have hal := hak.2.1
    rw [cnd_bool]
    refine ⟨fun h => ?_, fun h => ?_⟩
    · have hle := joined_take_le s.l (k + 1)
      have h6 : 262144 < xb.length + (joined s.l).length := by simp at h; omega
      exact hR _ _ ⟨by simp [Tp.append, Tp.may, h6], by simpa [Tp.append, Tp.may, h6] using tp_i (x := ⟨xb, armed, false, true⟩) hs⟩
    · have h : a.l.length ≤ 262144 - xb.length - (joined (s.l.take k)).length := by simp at h; omega
      rw [wi64 (by omega) (by omega), wi64 (by omega) (by omega)]
      exact ⟨⟨k + 1, by simp, by omega, by simp, by congr 1; omega, by omega⟩, by simp [RowKit.intOf]; omega⟩
  have hkl : k = s.l.length := by simp at h; omega
  subst hkl
  rw [List.take_length] at hsum
  have h6 : ¬ 262144 < xb.length + (joined s.l).length := by omega
  refine ⟨fun i w' => ∃ (k : Nat) (sv : Value) (arm : Int), k ≤ s.l.length ∧ i = .int .i64 k ∧ (armed = -1 → arm = -1) ∧ (armed ≠ -1 → arm = armed - (joined (s.l.take k)).length ∧ 0 ≤ arm) ∧
      Sep w0 w' (blk g #[sv, .int .i64 arm, .bool false, .bool true] T_tape_Tape :: ownB sv (xb ++ joined (s.l.take k)) :: As),
    fun i _ => (s.l.length - RowKit.intOf i).toNat, ⟨0, sv, armed, by omega, rfl, id, fun h => ⟨by simp [joined], by omega⟩, by simpa [joined] using hs⟩, ?_⟩
  rintro _ w1 ⟨k, sv1, arm, hk, rfl, hm1, hm2, hs1⟩ -
  simp only [nilc_some, fad_mk, pik_true, pik_false, cnd_true, cnd_false, gif_same, gif_tf, gif_ft, gif_undef, bi_add, bi_sub, bi_mul, bi_eql, bi_neq, bi_lss, bi_leq, bi_gtr, bi_geq, notB_bool, cvi_int, lenS_mk, lenT_mk, ext0, ext1, ext2, nilP_mk, nilS_mk, fldv_agg, jn0_k, jn1_k, jn2_k, jn1_and, jn1_or, ex_some, Option.isNone_some, Option.isNone_none, Bool.false_bne, Bool.bne_true, Bool.bne_false, Bool.true_bne, Bool.not_true, Bool.not_false, Bool.and_true, Bool.true_and, Bool.and_false, Bool.false_and, Bool.or_true, Bool.true_or, Bool.or_false, Bool.false_or, cond_true, cond_false, List.getElem?_toArray, List.getElem?_cons_zero, List.getElem?_cons_succ, Nat.zero_add, Nat.add_zero, Nat.reduceAdd, forall_const]
  rw [cnd_bool]
  refine ⟨fun h => ?_, fun h => ?_⟩
  · have hlt : k < s.l.length := by simpa using h
    obtain ⟨a, ha⟩ : ∃ a, s.l[k]? = some a := ⟨_, List.getElem?_eq_getElem hlt⟩
    have hok1 := hv w1 hs1.tail.tail
    have hak := rSl_ok hok1 ha
    refine rSl_ld1 hok1 ha rfl ?_
    have hg1 := hs1.blk
    have hj := joined_take_succ ha
    have hle := joined_take_le s.l (k + 1)
    have hjl := congrArg List.length hj
    rw [List.length_append] at hjl
    have hal := hak.2.1
    obtain ⟨ap, ac, hav⟩ := hak.1.form
    have hac := hak.2.2 _ _ _ hav
    simp only [nilc_some, fad_mk, pik_true, pik_false, cnd_true, cnd_false, gif_same, gif_tf, gif_ft, gif_undef, bi_add, bi_sub, bi_mul, bi_eql, bi_neq, bi_lss, bi_leq, bi_gtr, bi_geq, notB_bool, cvi_int, lenS_mk, lenT_mk, ext0, ext1, ext2, nilP_mk, nilS_mk, fldv_agg, jn0_k, jn1_k, jn2_k, jn1_and, jn1_or, ex_some, Option.isNone_some, Option.isNone_none, Bool.false_bne, Bool.bne_true, Bool.bne_false, Bool.true_bne, Bool.not_true, Bool.not_false, Bool.and_true, Bool.true_and, Bool.and_false, Bool.false_and, Bool.or_true, Bool.true_or, Bool.or_false, Bool.false_or, cond_true, cond_false, List.getElem?_toArray, List.getElem?_cons_zero, List.getElem?_cons_succ, Nat.zero_add, Nat.add_zero, Nat.reduceAdd, forall_const, rBytes_len hak, ld1_eq hg1]
    refine ⟨fun y w' => ∃ (n : Nat) (arm' : Int), y = .int .i64 n ∧ n ≤ a.l.length ∧ (armed = -1 → n = a.l.length ∧ arm' = -1) ∧ (armed ≠ -1 → n = min a.l.length arm.toNat ∧ arm' = arm - n) ∧
        Sep w0 w' (blk g #[sv1, .int .i64 arm', .bool false, .bool true] T_tape_Tape :: ownB sv1 (xb ++ joined (s.l.take k)) :: As), ?_, ?_⟩
    · change cnd _ _ _
      rw [cnd_bool]
      refine ⟨fun h => ?_, fun h => ?_⟩
      · have harm : arm ≠ -1 := by simpa using h
        have hne : armed ≠ -1 := fun h => harm (hm1 h)
        obtain ⟨e1, e2⟩ := hm2 hne
        rw [min_int, show min (a.l.length : Int) arm = ((min a.l.length arm.toNat : Nat) : Int) by omega, bi_sub, wi64 (by omega) (by omega)]
        refine st1_s hs1 (by simp) rfl fun w2 hs2 => ?_
        exact ⟨min a.l.length arm.toNat, _, rfl, by omega, fun h => absurd h hne, fun _ => ⟨rfl, rfl⟩, hs2⟩
      · have harm : arm = -1 := by simpa using h
        have hne : armed = -1 := by
          rcases Classical.em (armed = -1) with h | h
          · exact h
          · have := hm2 h; omega
        exact ⟨a.l.length, arm, rfl, by omega, fun _ => ⟨rfl, harm⟩, fun h => absurd hne h, hs1⟩
    · rintro _ w2 ⟨n, arm', rfl, hn, hn1, hn2, hs2⟩ -
      have hs2 := hs2.drew (w2.drawn + 1)
      refine drH_at ?_
      simp only [nilc_some, fad_mk, pik_true, pik_false, cnd_true, cnd_false, gif_same, gif_tf, gif_ft, gif_undef, bi_add, bi_sub, bi_mul, bi_eql, bi_neq, bi_lss, bi_leq, bi_gtr, bi_geq, notB_bool, cvi_int, lenS_mk, lenT_mk, ext0, ext1, ext2, nilP_mk, nilS_mk, fldv_agg, jn0_k, jn1_k, jn2_k, jn1_and, jn1_or, ex_some, Option.isNone_some, Option.isNone_none, Bool.false_bne, Bool.bne_true, Bool.bne_false, Bool.true_bne, Bool.not_true, Bool.not_false, Bool.and_true, Bool.true_and, Bool.and_false, Bool.false_and, Bool.or_true, Bool.true_or, Bool.or_false, Bool.false_or, cond_true, cond_false, List.getElem?_toArray, List.getElem?_cons_zero, List.getElem?_cons_succ, Nat.zero_add, Nat.add_zero, Nat.reduceAdd, forall_const, rdS_ld1, ld1_eq hs2.blk]
      rw [hav, slc_to (by omega)]
      refine efC_efP ?_
      have hok2 := hv _ hs2.tail.tail
      have hak2 := rSl_ok hok2 ha
      have hr2 := hak2.1
      rw [hav] at hr2
      refine appB_s ST_bytes UT_bytes (by simp) hs2.p1 (hr2.take hn ac) (by simp; omega) fun v' w3 hs3 => ?_
      refine efC_st1 (st1_s hs3.p1 (by simp) hs3.one fun w4 hs4 => ?_)
      rw [cnd_bool]
      refine ⟨fun h => ?_, fun h => ?_⟩
      · have hna : n < a.l.length := by simpa using h
        have hne : armed ≠ -1 := fun h => by have := hn1 h; omega
        obtain ⟨e1, e2⟩ := hm2 hne
        obtain ⟨e3, e4⟩ := hn2 hne
        have hs5 := tp_i (x := ⟨xb ++ joined (s.l.take k) ++ a.l.take n, arm', false, true⟩) hs4
        refine cal_i (tpGoes_spec hs5) ?_
        rintro _ w5 ⟨rfl, hs6⟩
        have h7 : ¬ (joined s.l).length ≤ armed := by omega
        have e8 : (joined s.l).take armed.toNat = joined (s.l.take k) ++ a.l.take n := by
          have e9 : joined s.l = joined (s.l.take k) ++ a.l ++ joined (s.l.drop (k + 1)) := by
            rw [← hj]
            unfold joined
            rw [← List.flatMap_append, List.take_append_drop]
          rw [e9, show armed.toNat = (joined (s.l.take k)).length + n by omega, List.append_assoc, List.take_append, List.take_of_length_le (by omega), Nat.add_sub_cancel_left, List.take_append_of_le_length (by omega)]
        refine hR _ _ ⟨by simp [Tp.append, Tp.may, h6, hne, h7], ?_⟩
        simpa [Tp.append, Tp.may, h6, hne, h7, e8, Tp.goes] using hs6
      · have hna : n = a.l.length := by simp at h; omega
        rw [wi64 (by omega) (by omega)]
        refine ⟨⟨k + 1, v', arm', by omega, by simp, fun h => (hn1 h).2, fun h => ?_, ?_⟩, by simp [RowKit.intOf]; omega⟩
        · have e1 := hm2 h
          have e2 := hn2 h
          omega
        · rw [hj, ← List.append_assoc]
          rw [hna, List.take_length] at hs4
          exact hs4
  · have hkl : k = s.l.length := by simp at h; omega
    subst hkl
    rw [List.take_length] at hs1 hm2
    by_cases hne : armed = -1
    · have e1 := hm1 hne
      subst e1
      exact hR _ _ ⟨by simp [Tp.append, Tp.may, h6, hne], by simpa [Tp.append, Tp.may, h6, hne] using tp_i (x := ⟨xb ++ joined s.l, -1, false, true⟩) hs1⟩
    · obtain ⟨e1, e2⟩ := hm2 hne
      have h7 : (joined s.l).length ≤ armed := by omega
      exact hR _ _ ⟨by simp [Tp.append, Tp.may, h6, hne, h7], by simpa [Tp.append, Tp.may, h6, hne, h7, e1] using tp_i (x := ⟨xb ++ joined s.l, arm, false, true⟩) hs1⟩
end
end Go.Fx
set_option linter.unusedVariables false
set_option linter.unusedSimpArgs false
namespace Go.Fx
theorem Tp.may_zero {x : Tp} : x.may = 0 ↔ x.made = true ∧ x.off = false := by
  obtain ⟨b, armed, off, made⟩ := x
  cases made <;> cases off <;> simp [Tp.may]
theorem Tp.may_five {x : Tp} : x.may = 5 ↔ x.made = true ∧ x.off = true := by
  obtain ⟨b, armed, off, made⟩ := x
  cases made <;> cases off <;> simp [Tp.may]
section
variable {w0 w : World} {As : List Asn} {p : Value} {x : Tp}
theorem tpTruncate_spec {n : Int} (hs : Sep w0 w (tp p x :: As)) (hx : x.Ok) : cal P f_tape_Tape_Truncate [p, .int .i64 n] w fun v w' => v = .int .i64 (x.truncate n).2 ∧ Sep w0 w' (tp p (x.truncate n).1 :: As) := by
  refine s_tape_Tape_Truncate fun R hR => ?_
  unfold c_tape_Tape_Truncate
  refine cal_i (tpMay_spec hs) ?_
  rintro _ _ ⟨rfl, rfl⟩
  simp only [nilc_some, fad_mk, pik_true, pik_false, cnd_true, cnd_false, gif_same, gif_tf, gif_ft, gif_undef, bi_add, bi_sub, bi_mul, bi_eql, bi_neq, bi_lss, bi_leq, bi_gtr, bi_geq, notB_bool, cvi_int, lenS_mk, lenT_mk, ext0, ext1, ext2, nilP_mk, nilS_mk, fldv_agg, jn0_k, jn1_k, jn2_k, jn1_and, jn1_or, ex_some, Option.isNone_some, Option.isNone_none, Bool.false_bne, Bool.bne_true, Bool.bne_false, Bool.true_bne, Bool.not_true, Bool.not_false, Bool.and_true, Bool.true_and, Bool.and_false, Bool.false_and, Bool.or_true, Bool.true_or, Bool.or_false, Bool.false_or, cond_true, cond_false, List.getElem?_toArray, List.getElem?_cons_zero, List.getElem?_cons_succ, Nat.zero_add, Nat.add_zero, Nat.reduceAdd, forall_const]
  rw [cnd_bool]
  refine ⟨fun h => ?_, fun h => ?_⟩
  · have h : x.may ≠ 0 := by simpa using h
    exact hR _ _ ⟨by simp [Tp.truncate, h], by simpa [Tp.truncate, h] using hs⟩
  have hmay : x.may = 0 := by simpa using h
  obtain ⟨hx1, hx2, hx3⟩ := hx
  rw [tp_open] at hs
  obtain ⟨g, sv, rfl, hs⟩ := hs
  have hg := hs.blk
  simp only [nilc_some, fad_mk, pik_true, pik_false, cnd_true, cnd_false, gif_same, gif_tf, gif_ft, gif_undef, bi_add, bi_sub, bi_mul, bi_eql, bi_neq, bi_lss, bi_leq, bi_gtr, bi_geq, notB_bool, cvi_int, lenS_mk, lenT_mk, ext0, ext1, ext2, nilP_mk, nilS_mk, fldv_agg, jn0_k, jn1_k, jn2_k, jn1_and, jn1_or, ex_some, Option.isNone_some, Option.isNone_none, Bool.false_bne, Bool.bne_true, Bool.bne_false, Bool.true_bne, Bool.not_true, Bool.not_false, Bool.and_true, Bool.true_and, Bool.and_false, Bool.false_and, Bool.or_true, Bool.true_or, Bool.or_false, Bool.false_or, cond_true, cond_false, List.getElem?_toArray, List.getElem?_cons_zero, List.getElem?_cons_succ, Nat.zero_add, Nat.add_zero, Nat.reduceAdd, forall_const, ld1_eq hg, hs.p1.rd.len]
  rw [cnd_bool]
  refine ⟨fun h => ?_, fun h => ?_⟩
  · have h : n < 0 ∨ (x.b.length : Int) < n := by simpa using h
    exact hR _ _ ⟨by simp [Tp.truncate, hmay, h], by simpa [Tp.truncate, hmay, h] using tp_i hs⟩
  · have h : ¬ (n < 0 ∨ (x.b.length : Int) < n) := by simpa using h
    obtain ⟨m, rfl⟩ := Int.eq_ofNat_of_zero_le (show 0 ≤ n by omega)
    obtain ⟨a, c, rfl, hc⟩ := hs.p1.form
    have hm : m ≤ x.b.length := by omega
    rw [slc_to (by omega)]
    refine cal_i (tpTold_spec (hs.p1.rd.take hm c) (by simp; omega)) ?_
    rintro r w1 hs1
    replace hs := (hs.join hs1).p1
    refine st1_s hs (by simp) hs.p1.one fun w2 hs2 => ?_
    have ht : x.truncate m = ({ x with b := x.b.take m }, 0) := by rw [Tp.truncate, if_neg (by simp [hmay]), if_neg (by omega)]; simp
    exact hR _ _ ⟨by rw [ht], by rw [ht]; exact tp_i (x := { x with b := x.b.take m }) hs2.d2⟩
theorem tpArm_spec {n : Int} (hs : Sep w0 w (tp p x :: As)) : cal P f_tape_Tape_Arm [p, .int .i64 n] w fun v w' => v = .int .i64 (x.arm n).2 ∧ Sep w0 w' (tp p (x.arm n).1 :: As) := by
  refine s_tape_Tape_Arm fun R hR => ?_
  unfold c_tape_Tape_Arm
  refine cal_i (tpMay_spec hs) ?_
  rintro _ _ ⟨rfl, rfl⟩
  simp only [nilc_some, fad_mk, pik_true, pik_false, cnd_true, cnd_false, gif_same, gif_tf, gif_ft, gif_undef, bi_add, bi_sub, bi_mul, bi_eql, bi_neq, bi_lss, bi_leq, bi_gtr, bi_geq, notB_bool, cvi_int, lenS_mk, lenT_mk, ext0, ext1, ext2, nilP_mk, nilS_mk, fldv_agg, jn0_k, jn1_k, jn2_k, jn1_and, jn1_or, ex_some, Option.isNone_some, Option.isNone_none, Bool.false_bne, Bool.bne_true, Bool.bne_false, Bool.true_bne, Bool.not_true, Bool.not_false, Bool.and_true, Bool.true_and, Bool.and_false, Bool.false_and, Bool.or_true, Bool.true_or, Bool.or_false, Bool.false_or, cond_true, cond_false, List.getElem?_toArray, List.getElem?_cons_zero, List.getElem?_cons_succ, Nat.zero_add, Nat.add_zero, Nat.reduceAdd, forall_const]
  rw [cnd_bool]
  refine ⟨fun h => ?_, fun h => ?_⟩
  · have h : x.may ≠ 0 := by simpa using h
    exact hR _ _ ⟨by simp [Tp.arm, h], by simpa [Tp.arm, h] using hs⟩
  have hmay : x.may = 0 := by simpa using h
  rw [cnd_bool]
  refine ⟨fun h => ?_, fun h => ?_⟩
  · have h : n < 0 := by simpa using h
    exact hR _ _ ⟨by simp [Tp.arm, hmay, h], by simpa [Tp.arm, hmay, h] using hs⟩
  · have h : ¬ n < 0 := by simpa using h
    rw [tp_open] at hs
    obtain ⟨g, sv, rfl, hs⟩ := hs
    simp only [nilc_some, fad_mk, pik_true, pik_false, cnd_true, cnd_false, gif_same, gif_tf, gif_ft, gif_undef, bi_add, bi_sub, bi_mul, bi_eql, bi_neq, bi_lss, bi_leq, bi_gtr, bi_geq, notB_bool, cvi_int, lenS_mk, lenT_mk, ext0, ext1, ext2, nilP_mk, nilS_mk, fldv_agg, jn0_k, jn1_k, jn2_k, jn1_and, jn1_or, ex_some, Option.isNone_some, Option.isNone_none, Bool.false_bne, Bool.bne_true, Bool.bne_false, Bool.true_bne, Bool.not_true, Bool.not_false, Bool.and_true, Bool.true_and, Bool.and_false, Bool.false_and, Bool.or_true, Bool.true_or, Bool.or_false, Bool.false_or, cond_true, cond_false, List.getElem?_toArray, List.getElem?_cons_zero, List.getElem?_cons_succ, Nat.zero_add, Nat.add_zero, Nat.reduceAdd, forall_const]
    refine st1_s hs (by simp) rfl fun w2 hs2 => ?_
    exact hR _ _ ⟨by simp [Tp.arm, hmay, h], by simpa [Tp.arm, hmay, h] using tp_i (x := { x with armed := n }) hs2⟩
theorem tpCrash_spec (hs : Sep w0 w (tp p x :: As)) : cal P f_tape_Tape_Crash [p] w fun v w' => v = .int .i64 x.crash.2 ∧ Sep w0 w' (tp p x.crash.1 :: As) := by
  refine s_tape_Tape_Crash fun R hR => ?_
  unfold c_tape_Tape_Crash
  refine cal_i (tpMay_spec hs) ?_
  rintro _ _ ⟨rfl, rfl⟩
  simp only [nilc_some, fad_mk, pik_true, pik_false, cnd_true, cnd_false, gif_same, gif_tf, gif_ft, gif_undef, bi_add, bi_sub, bi_mul, bi_eql, bi_neq, bi_lss, bi_leq, bi_gtr, bi_geq, notB_bool, cvi_int, lenS_mk, lenT_mk, ext0, ext1, ext2, nilP_mk, nilS_mk, fldv_agg, jn0_k, jn1_k, jn2_k, jn1_and, jn1_or, ex_some, Option.isNone_some, Option.isNone_none, Bool.false_bne, Bool.bne_true, Bool.bne_false, Bool.true_bne, Bool.not_true, Bool.not_false, Bool.and_true, Bool.true_and, Bool.and_false, Bool.false_and, Bool.or_true, Bool.true_or, Bool.or_false, Bool.false_or, cond_true, cond_false, List.getElem?_toArray, List.getElem?_cons_zero, List.getElem?_cons_succ, Nat.zero_add, Nat.add_zero, Nat.reduceAdd, forall_const]
  rw [cnd_bool]
  refine ⟨fun h => ?_, fun h => ?_⟩
  · have hmay : x.may = 0 := by simpa using h
    refine cal_i (tpGoes_spec hs) ?_
    rintro _ w1 ⟨rfl, hs⟩
    exact hR _ _ ⟨by simp [Tp.crash, hmay], by simpa [Tp.crash, hmay] using hs⟩
  · have h : x.may ≠ 0 := by simpa using h
    exact hR _ _ ⟨by simp [Tp.crash, h], by simpa [Tp.crash, h] using hs⟩
theorem tpRestart_spec (hs : Sep w0 w (tp p x :: As)) : cal P f_tape_Tape_Restart [p] w fun v w' => v = .int .i64 x.restart.2 ∧ Sep w0 w' (tp p x.restart.1 :: As) := by
  refine s_tape_Tape_Restart fun R hR => ?_
  unfold c_tape_Tape_Restart
  refine cal_i (tpMay_spec hs) ?_
  rintro _ _ ⟨rfl, rfl⟩
  simp only [nilc_some, fad_mk, pik_true, pik_false, cnd_true, cnd_false, gif_same, gif_tf, gif_ft, gif_undef, bi_add, bi_sub, bi_mul, bi_eql, bi_neq, bi_lss, bi_leq, bi_gtr, bi_geq, notB_bool, cvi_int, lenS_mk, lenT_mk, ext0, ext1, ext2, nilP_mk, nilS_mk, fldv_agg, jn0_k, jn1_k, jn2_k, jn1_and, jn1_or, ex_some, Option.isNone_some, Option.isNone_none, Bool.false_bne, Bool.bne_true, Bool.bne_false, Bool.true_bne, Bool.not_true, Bool.not_false, Bool.and_true, Bool.true_and, Bool.and_false, Bool.false_and, Bool.or_true, Bool.true_or, Bool.or_false, Bool.false_or, cond_true, cond_false, List.getElem?_toArray, List.getElem?_cons_zero, List.getElem?_cons_succ, Nat.zero_add, Nat.add_zero, Nat.reduceAdd, forall_const]
  rw [cnd_bool]
  refine ⟨fun h => ?_, fun h => ?_⟩
  · have hmay : x.may = 0 := by simpa using h
    exact hR _ _ ⟨by simp [Tp.restart, hmay], by simpa [Tp.restart, hmay] using hs⟩
  have h0 : x.may ≠ 0 := by simpa using h
  rw [cnd_bool]
  refine ⟨fun h => ?_, fun h => ?_⟩
  · have h : x.may = 5 := by simpa using h
    rw [tp_open] at hs
    obtain ⟨g, sv, rfl, hs⟩ := hs
    simp only [nilc_some, fad_mk, pik_true, pik_false, cnd_true, cnd_false, gif_same, gif_tf, gif_ft, gif_undef, bi_add, bi_sub, bi_mul, bi_eql, bi_neq, bi_lss, bi_leq, bi_gtr, bi_geq, notB_bool, cvi_int, lenS_mk, lenT_mk, ext0, ext1, ext2, nilP_mk, nilS_mk, fldv_agg, jn0_k, jn1_k, jn2_k, jn1_and, jn1_or, ex_some, Option.isNone_some, Option.isNone_none, Bool.false_bne, Bool.bne_true, Bool.bne_false, Bool.true_bne, Bool.not_true, Bool.not_false, Bool.and_true, Bool.true_and, Bool.and_false, Bool.false_and, Bool.or_true, Bool.true_or, Bool.or_false, Bool.false_or, cond_true, cond_false, List.getElem?_toArray, List.getElem?_cons_zero, List.getElem?_cons_succ, Nat.zero_add, Nat.add_zero, Nat.reduceAdd, forall_const]
    refine st1_s hs (by simp) rfl fun w2 hs2 => ?_
    exact hR _ _ ⟨by simp [Tp.restart, h], by simpa [Tp.restart, h] using tp_i (x := { x with off := false }) hs2⟩
  · have h : x.may ≠ 5 := by simpa using h
    exact hR _ _ ⟨by simp [Tp.restart, h, h0], by simpa [Tp.restart, h, h0] using hs⟩
theorem tpOn_spec (hs : Sep w0 w (tp p x :: As)) : cal P f_tape_Tape_On [p] w fun v w' => v = .bool (x.made && !x.off) ∧ w = w' := by
  refine s_tape_Tape_On fun R hR => ?_
  unfold c_tape_Tape_On
  refine cal_i (tpMay_spec hs) ?_
  rintro _ _ ⟨rfl, rfl⟩
  simp only [nilc_some, fad_mk, pik_true, pik_false, cnd_true, cnd_false, gif_same, gif_tf, gif_ft, gif_undef, bi_add, bi_sub, bi_mul, bi_eql, bi_neq, bi_lss, bi_leq, bi_gtr, bi_geq, notB_bool, cvi_int, lenS_mk, lenT_mk, ext0, ext1, ext2, nilP_mk, nilS_mk, fldv_agg, jn0_k, jn1_k, jn2_k, jn1_and, jn1_or, ex_some, Option.isNone_some, Option.isNone_none, Bool.false_bne, Bool.bne_true, Bool.bne_false, Bool.true_bne, Bool.not_true, Bool.not_false, Bool.and_true, Bool.true_and, Bool.and_false, Bool.false_and, Bool.or_true, Bool.true_or, Bool.or_false, Bool.false_or, cond_true, cond_false, List.getElem?_toArray, List.getElem?_cons_zero, List.getElem?_cons_succ, Nat.zero_add, Nat.add_zero, Nat.reduceAdd, forall_const]
  refine hR _ _ ⟨?_, rfl⟩
  obtain ⟨b, armed, off, made⟩ := x
  cases made <;> cases off <;> rfl
theorem tpBytes_spec (hs : Sep w0 w (tp p x :: As)) (hx : x.Ok) (hm : x.made = true) : cal P f_tape_Tape_Bytes [p] w fun v w' => Sep w w' [ownB v x.b] := by
  refine s_tape_Tape_Bytes fun R hR => ?_
  unfold c_tape_Tape_Bytes
  refine cal_i (tpMay_spec hs) ?_
  rintro _ _ ⟨rfl, rfl⟩
  have h2 : (x.may == 2) = false := by cases h : x.off <;> simp [Tp.may, hm, h]
  simp only [nilc_some, fad_mk, pik_true, pik_false, cnd_true, cnd_false, gif_same, gif_tf, gif_ft, gif_undef, bi_add, bi_sub, bi_mul, bi_eql, bi_neq, bi_lss, bi_leq, bi_gtr, bi_geq, notB_bool, cvi_int, lenS_mk, lenT_mk, ext0, ext1, ext2, nilP_mk, nilS_mk, fldv_agg, jn0_k, jn1_k, jn2_k, jn1_and, jn1_or, ex_some, Option.isNone_some, Option.isNone_none, Bool.false_bne, Bool.bne_true, Bool.bne_false, Bool.true_bne, Bool.not_true, Bool.not_false, Bool.and_true, Bool.true_and, Bool.and_false, Bool.false_and, Bool.or_true, Bool.true_or, Bool.or_false, Bool.false_or, cond_true, cond_false, List.getElem?_toArray, List.getElem?_cons_zero, List.getElem?_cons_succ, Nat.zero_add, Nat.add_zero, Nat.reduceAdd, forall_const, h2]
  rw [tp_open] at hs
  obtain ⟨g, sv, rfl, hs⟩ := hs
  simp only [nilc_some, fad_mk, pik_true, pik_false, cnd_true, cnd_false, gif_same, gif_tf, gif_ft, gif_undef, bi_add, bi_sub, bi_mul, bi_eql, bi_neq, bi_lss, bi_leq, bi_gtr, bi_geq, notB_bool, cvi_int, lenS_mk, lenT_mk, ext0, ext1, ext2, nilP_mk, nilS_mk, fldv_agg, jn0_k, jn1_k, jn2_k, jn1_and, jn1_or, ex_some, Option.isNone_some, Option.isNone_none, Bool.false_bne, Bool.bne_true, Bool.bne_false, Bool.true_bne, Bool.not_true, Bool.not_false, Bool.and_true, Bool.true_and, Bool.and_false, Bool.false_and, Bool.or_true, Bool.true_or, Bool.or_false, Bool.false_or, cond_true, cond_false, List.getElem?_toArray, List.getElem?_cons_zero, List.getElem?_cons_succ, Nat.zero_add, Nat.add_zero, Nat.reduceAdd, forall_const, ld1_eq hs.blk]
  obtain ⟨hx1, hx2, hx3⟩ := hx
  exact cal_i (tpTold_spec hs.p1.rd (by omega)) fun v w' h => hR _ _ h
theorem tpLen_spec (hs : Sep w0 w (tp p x :: As)) (hm : x.made = true) : cal P f_tape_Tape_Len [p] w fun v w' => v = .int .i64 x.b.length ∧ w = w' := by
  refine s_tape_Tape_Len fun R hR => ?_
  unfold c_tape_Tape_Len
  refine cal_i (tpMay_spec hs) ?_
  rintro _ _ ⟨rfl, rfl⟩
  have h2 : (x.may == 2) = false := by cases h : x.off <;> simp [Tp.may, hm, h]
  simp only [nilc_some, fad_mk, pik_true, pik_false, cnd_true, cnd_false, gif_same, gif_tf, gif_ft, gif_undef, bi_add, bi_sub, bi_mul, bi_eql, bi_neq, bi_lss, bi_leq, bi_gtr, bi_geq, notB_bool, cvi_int, lenS_mk, lenT_mk, ext0, ext1, ext2, nilP_mk, nilS_mk, fldv_agg, jn0_k, jn1_k, jn2_k, jn1_and, jn1_or, ex_some, Option.isNone_some, Option.isNone_none, Bool.false_bne, Bool.bne_true, Bool.bne_false, Bool.true_bne, Bool.not_true, Bool.not_false, Bool.and_true, Bool.true_and, Bool.and_false, Bool.false_and, Bool.or_true, Bool.true_or, Bool.or_false, Bool.false_or, cond_true, cond_false, List.getElem?_toArray, List.getElem?_cons_zero, List.getElem?_cons_succ, Nat.zero_add, Nat.add_zero, Nat.reduceAdd, forall_const, h2]
  rw [tp_open] at hs
  obtain ⟨g, sv, rfl, hs⟩ := hs
  simp only [nilc_some, fad_mk, pik_true, pik_false, cnd_true, cnd_false, gif_same, gif_tf, gif_ft, gif_undef, bi_add, bi_sub, bi_mul, bi_eql, bi_neq, bi_lss, bi_leq, bi_gtr, bi_geq, notB_bool, cvi_int, lenS_mk, lenT_mk, ext0, ext1, ext2, nilP_mk, nilS_mk, fldv_agg, jn0_k, jn1_k, jn2_k, jn1_and, jn1_or, ex_some, Option.isNone_some, Option.isNone_none, Bool.false_bne, Bool.bne_true, Bool.bne_false, Bool.true_bne, Bool.not_true, Bool.not_false, Bool.and_true, Bool.true_and, Bool.and_false, Bool.false_and, Bool.or_true, Bool.true_or, Bool.or_false, Bool.false_or, cond_true, cond_false, List.getElem?_toArray, List.getElem?_cons_zero, List.getElem?_cons_succ, Nat.zero_add, Nat.add_zero, Nat.reduceAdd, forall_const, ld1_eq hs.blk, hs.p1.rd.len]
  exact hR _ _ ⟨rfl, rfl⟩
theorem tpClone_spec (hs : Sep w0 w (tp p x :: As)) (hx : x.Ok) (hm : x.made = true) : cal P f_tape_Tape_Clone [p] w fun v w' => Sep w w' [tp v x] := by
  refine s_tape_Tape_Clone fun R hR => ?_
  unfold c_tape_Tape_Clone
  refine cal_i (tpMay_spec hs) ?_
  rintro _ _ ⟨rfl, rfl⟩
  have h2 : (x.may == 2) = false := by cases h : x.off <;> simp [Tp.may, hm, h]
  simp only [nilc_some, fad_mk, pik_true, pik_false, cnd_true, cnd_false, gif_same, gif_tf, gif_ft, gif_undef, bi_add, bi_sub, bi_mul, bi_eql, bi_neq, bi_lss, bi_leq, bi_gtr, bi_geq, notB_bool, cvi_int, lenS_mk, lenT_mk, ext0, ext1, ext2, nilP_mk, nilS_mk, fldv_agg, jn0_k, jn1_k, jn2_k, jn1_and, jn1_or, ex_some, Option.isNone_some, Option.isNone_none, Bool.false_bne, Bool.bne_true, Bool.bne_false, Bool.true_bne, Bool.not_true, Bool.not_false, Bool.and_true, Bool.true_and, Bool.and_false, Bool.false_and, Bool.or_true, Bool.true_or, Bool.or_false, Bool.false_or, cond_true, cond_false, List.getElem?_toArray, List.getElem?_cons_zero, List.getElem?_cons_succ, Nat.zero_add, Nat.add_zero, Nat.reduceAdd, forall_const, h2]
  rw [tp_open] at hs
  obtain ⟨g, sv, rfl, hs⟩ := hs
  obtain ⟨hx1, hx2, hx3⟩ := hx
  have hr := hs.p1.rd
  have h1 := hs.p1.one
  simp only [nilc_some, fad_mk, pik_true, pik_false, cnd_true, cnd_false, gif_same, gif_tf, gif_ft, gif_undef, bi_add, bi_sub, bi_mul, bi_eql, bi_neq, bi_lss, bi_leq, bi_gtr, bi_geq, notB_bool, cvi_int, lenS_mk, lenT_mk, ext0, ext1, ext2, nilP_mk, nilS_mk, fldv_agg, jn0_k, jn1_k, jn2_k, jn1_and, jn1_or, ex_some, Option.isNone_some, Option.isNone_none, Bool.false_bne, Bool.bne_true, Bool.bne_false, Bool.true_bne, Bool.not_true, Bool.not_false, Bool.and_true, Bool.true_and, Bool.and_false, Bool.false_and, Bool.or_true, Bool.true_or, Bool.or_false, Bool.false_or, cond_true, cond_false, List.getElem?_toArray, List.getElem?_cons_zero, List.getElem?_cons_succ, Nat.zero_add, Nat.add_zero, Nat.reduceAdd, forall_const, ldN_eq hs.blk]
  refine ⟨by simp, ?_⟩
  refine alloc_s (Sep.start w) (al_tape_Tape w) fun g1 w1 hs1 => ?_
  refine stN_s hs1 (by simp) (by simp) (by simp; exact ⟨h1, rfl, rfl, rfl⟩) fun w2 hs2 => ?_
  have hfr := hs2.fr0
  have hg := hfr.blk hs.blk (by simp)
  simp only [nilc_some, fad_mk, pik_true, pik_false, cnd_true, cnd_false, gif_same, gif_tf, gif_ft, gif_undef, bi_add, bi_sub, bi_mul, bi_eql, bi_neq, bi_lss, bi_leq, bi_gtr, bi_geq, notB_bool, cvi_int, lenS_mk, lenT_mk, ext0, ext1, ext2, nilP_mk, nilS_mk, fldv_agg, jn0_k, jn1_k, jn2_k, jn1_and, jn1_or, ex_some, Option.isNone_some, Option.isNone_none, Bool.false_bne, Bool.bne_true, Bool.bne_false, Bool.true_bne, Bool.not_true, Bool.not_false, Bool.and_true, Bool.true_and, Bool.and_false, Bool.false_and, Bool.or_true, Bool.true_or, Bool.or_false, Bool.false_or, cond_true, cond_false, List.getElem?_toArray, List.getElem?_cons_zero, List.getElem?_cons_succ, Nat.zero_add, Nat.add_zero, Nat.reduceAdd, forall_const, ld1_eq hg]
  refine cal_i (tpTold_spec (hs2.rdB hr) (by omega)) ?_
  rintro r w3 hs3
  replace hs2 := (hs2.join hs3).p1
  clear hs3
  refine st1_s hs2 (by simp [splice]) hs2.p1.one fun w4 hs4 => ?_
  exact hR _ _ (tp_i hs4)
end
/-! ### One that no call made -/
section
variable {w : World} {p : Value} (hm : ∀ w', w' = w → cal P f_tape_Tape_may [p] w' fun v w'' => v = .int .i64 2 ∧ w' = w'')
include hm
theorem Clone_none : cal P f_tape_Tape_Clone [p] w fun v w' => v = .pointer none ∧ w = w' := by
  refine s_tape_Tape_Clone fun R hR => ?_
  unfold c_tape_Tape_Clone
  refine cal_i (hm w rfl) ?_
  rintro _ _ ⟨rfl, rfl⟩
  simp only [nilc_some, fad_mk, pik_true, pik_false, cnd_true, cnd_false, gif_same, gif_tf, gif_ft, gif_undef, bi_add, bi_sub, bi_mul, bi_eql, bi_neq, bi_lss, bi_leq, bi_gtr, bi_geq, notB_bool, cvi_int, lenS_mk, lenT_mk, ext0, ext1, ext2, nilP_mk, nilS_mk, fldv_agg, jn0_k, jn1_k, jn2_k, jn1_and, jn1_or, ex_some, Option.isNone_some, Option.isNone_none, Bool.false_bne, Bool.bne_true, Bool.bne_false, Bool.true_bne, Bool.not_true, Bool.not_false, Bool.and_true, Bool.true_and, Bool.and_false, Bool.false_and, Bool.or_true, Bool.true_or, Bool.or_false, Bool.false_or, cond_true, cond_false, List.getElem?_toArray, List.getElem?_cons_zero, List.getElem?_cons_succ, Nat.zero_add, Nat.add_zero, Nat.reduceAdd, forall_const, show ((2 : Int) == 2) = true from rfl]
  exact hR _ _ ⟨rfl, rfl⟩
end
end Go.Fx
set_option linter.unusedVariables false
set_option linter.unusedSimpArgs false
namespace Go.Fx
theorem KTc : KeyT P T_api_ID T_uint8 32 := ⟨U_api_ID, U_uint8, by kernel_rfl, by kernel_rfl, EQ_api_ID⟩
/-- A row, read in a region that draws (as in TrC, for other seats). -/
theorem rdS_rowC {α : Type} {q : Rdr α} {S : World → Prop} {w : World} {v : Value} {l : List α} {j : Nat} {a : α} {K : Value → Prop} (hp : 0 < q.size)
    (hw : S w) (hS : ∀ u, S u → Rows' q u.heap v l) (hj : l[j]? = some a) (k : IntKind) (h : K (.agg (q.cells a).toArray)) : ixs q.size v (.int k (j : Int)) fun t => rdS S (fun w => ldN q.size t w.heap) K := by
  obtain ⟨g, o, c, rfl⟩ := (hS w hw).form hp hj
  have hlt := (List.getElem?_eq_some_iff.1 hj).1
  rw [ixs_mk _ _ _ _ _ _ _ _ (by omega) (by omega), Int.toNat_natCast]
  refine ⟨.agg (q.cells a).toArray, fun z hz => ?_, h⟩
  have hat := At.of hp (hS z hz) hj
  exact (At.ldN hat (q.len a) _).mpr rfl
/-- Where each name's block stands: the last one of a name. -/
def atF (L : List Blk) : Vec 32 → Option Value := L.zipIdx.foldl (fun f x => updF f x.1.id (.int .i64 (x.2 : Nat))) fun _ => none
theorem atF_snoc (L : List Blk) (b : Blk) : atF (L ++ [b]) = updF (atF L) b.id (.int .i64 (L.length : Nat)) := by
  unfold atF
  rw [List.zipIdx_append, List.foldl_append]
  simp
abbrev blks (B : List BV) : List Blk := B.map (·.1)
def chH (g gi gm : Nat) (lv iv pt : Value) (over : Bool) (B : List BV) : List Asn :=
  [blk g (Rdr.cells Q_chain_Chain (.pointer (some ⟨gi, 0, none⟩), lv, iv, .map (some gm), over)).toArray T_chain_Chain, blk gi #[pt] T_chain_held, rows Q_api_Block lv (B.map BV.t), rows (rVec 32) iv (B.map (·.1.id)), mpF gm (atF (blks B))]
def DatB (B : List BV) (As : List Asn) : Prop := ∀ x ∈ B, ownB x.2 x.1.d ∈ As
structure ChR (h : Heap) (g gi : Nat) (lv iv m pt : Value) (over : Bool) (B : List BV) : Prop where
  cell : ∃ T fr, h[g]? = some (.cells (Rdr.cells Q_chain_Chain (.pointer (some ⟨gi, 0, none⟩), lv, iv, m, over)).toArray T fr)
  inn : ∃ T fr, h[gi]? = some (.cells #[pt] T fr)
  bw : BRows h lv B
  iw : Rows' (rVec 32) h iv (B.map (·.1.id))
section
variable {w0 w w' : World} {As : List Asn} {g gi gm : Nat} {lv iv m pt : Value} {over : Bool} {B : List BV}
theorem DatB.sub {As Bs : List Asn} (h : DatB B As) (hs : ∀ A ∈ As, A ∈ Bs) : DatB B Bs := fun x hx => hs _ (h x hx)
theorem ChR.fr (h : ChR w.heap g gi lv iv m pt over B) (hf : Fr [] w w') : ChR w'.heap g gi lv iv m pt over B := by
  obtain ⟨⟨T, fr, hc⟩, ⟨T2, fr2, hc2⟩, h3, h4⟩ := h
  exact ⟨⟨T, fr, hf.blk hc (by simp)⟩, ⟨T2, fr2, hf.blk hc2 (by simp)⟩, h3.fr hf, h4.fr hf⟩
theorem Sep.ch (h : Sep w0 w As) (hr : ChR w0.heap g gi lv iv m pt over B) : ChR w.heap g gi lv iv m pt over B := hr.fr h.1
theorem chH_rd (h : Sep w0 w (chH g gi gm lv iv pt over B ++ As)) (hd : DatB B As) : ChR w.heap g gi lv iv (.map (some gm)) pt over B :=
  ⟨⟨_, _, Sep.blk h⟩, ⟨_, _, Sep.blk h.tail⟩, ⟨Sep.rows h.tail.tail, fun x hx => by
    obtain ⟨F, hF⟩ := h.onL (A := ownB x.2 x.1.d) (List.mem_append_right _ (hd x hx))
    exact OwnB.rd hF⟩, Sep.rows h.tail.tail.tail⟩
theorem cNone_spec (hr : ChR w.heap g gi lv iv m pt over B) : cal P f_chain_Chain_none [.pointer (some ⟨g, 0, none⟩)] w fun r w' => r = .bool false ∧ w = w' := by
  refine s_chain_Chain_none fun R hR => ?_
  unfold c_chain_Chain_none
  obtain ⟨T, fr, hc⟩ := hr.cell
  simp only [nilc_some, fad_mk, pik_true, pik_false, cnd_true, cnd_false, gif_same, gif_tf, gif_ft, gif_undef, bi_add, bi_sub, bi_mul, bi_eql, bi_neq, bi_lss, bi_leq, bi_gtr, bi_geq, notB_bool, cvi_int, lenS_mk, lenT_mk, ext0, ext1, ext2, nilP_mk, nilS_mk, fldv_agg, jn0_k, jn1_k, jn2_k, jn1_and, jn1_or, ex_some, Option.isNone_some, Option.isNone_none, Bool.false_bne, Bool.bne_true, Bool.bne_false, Bool.true_bne, Bool.not_true, Bool.not_false, Bool.and_true, Bool.true_and, Bool.and_false, Bool.false_and, Bool.or_true, Bool.true_or, Bool.or_false, Bool.false_or, cond_true, cond_false, List.getElem?_toArray, List.getElem?_cons_zero, List.getElem?_cons_succ, Nat.zero_add, Nat.add_zero, Nat.reduceAdd, forall_const, Option.isNone_some, L_chain_Chain hc, L_chain_Chain__in hc, L_chain_Chain__l hc, L_chain_Chain__ids hc, L_chain_Chain__at hc, L_chain_Chain__over hc]
  exact hR _ _ ⟨rfl, rfl⟩
theorem cMay_spec (hr : ChR w.heap g gi lv iv m pt over B) : cal P f_chain_Chain_may [.pointer (some ⟨g, 0, none⟩)] w fun r w' => r = .int .i64 (if over = true then 5 else 0) ∧ w = w' := by
  refine s_chain_Chain_may fun R hR => ?_
  unfold c_chain_Chain_may
  refine cal_i (cNone_spec hr) ?_
  rintro _ _ ⟨rfl, rfl⟩
  obtain ⟨T, fr, hc⟩ := hr.cell
  simp only [nilc_some, fad_mk, pik_true, pik_false, cnd_true, cnd_false, gif_same, gif_tf, gif_ft, gif_undef, bi_add, bi_sub, bi_mul, bi_eql, bi_neq, bi_lss, bi_leq, bi_gtr, bi_geq, notB_bool, cvi_int, lenS_mk, lenT_mk, ext0, ext1, ext2, nilP_mk, nilS_mk, fldv_agg, jn0_k, jn1_k, jn2_k, jn1_and, jn1_or, ex_some, Option.isNone_some, Option.isNone_none, Bool.false_bne, Bool.bne_true, Bool.bne_false, Bool.true_bne, Bool.not_true, Bool.not_false, Bool.and_true, Bool.true_and, Bool.and_false, Bool.false_and, Bool.or_true, Bool.true_or, Bool.or_false, Bool.false_or, cond_true, cond_false, List.getElem?_toArray, List.getElem?_cons_zero, List.getElem?_cons_succ, Nat.zero_add, Nat.add_zero, Nat.reduceAdd, forall_const, L_chain_Chain hc, L_chain_Chain__in hc, L_chain_Chain__l hc, L_chain_Chain__ids hc, L_chain_Chain__at hc, L_chain_Chain__over hc]
  cases over <;> simp only [nilc_some, fad_mk, pik_true, pik_false, cnd_true, cnd_false, gif_same, gif_tf, gif_ft, gif_undef, bi_add, bi_sub, bi_mul, bi_eql, bi_neq, bi_lss, bi_leq, bi_gtr, bi_geq, notB_bool, cvi_int, lenS_mk, lenT_mk, ext0, ext1, ext2, nilP_mk, nilS_mk, fldv_agg, jn0_k, jn1_k, jn2_k, jn1_and, jn1_or, ex_some, Option.isNone_some, Option.isNone_none, Bool.false_bne, Bool.bne_true, Bool.bne_false, Bool.true_bne, Bool.not_true, Bool.not_false, Bool.and_true, Bool.true_and, Bool.and_false, Bool.false_and, Bool.or_true, Bool.true_or, Bool.or_false, Bool.false_or, cond_true, cond_false, List.getElem?_toArray, List.getElem?_cons_zero, List.getElem?_cons_succ, Nat.zero_add, Nat.add_zero, Nat.reduceAdd, forall_const] <;> exact hR _ _ ⟨rfl, rfl⟩
theorem cLast_spec {x : BV} (hr : ChR w.heap g gi lv iv m pt over B) (hx : B[B.length - 1]? = some x) (hn : B.length ≤ 1000000) : cal P f_chain_Chain_last [.pointer (some ⟨g, 0, none⟩)] w fun r w' => r = bq x.1 x.2 ∧ Fr [] w w' := by
  refine s_chain_Chain_last fun R hR => ?_
  unfold c_chain_Chain_last
  have hpos : 0 < B.length := by
    have := (List.getElem?_eq_some_iff.1 hx).1
    omega
  have hx' : (B.map BV.t)[B.length - 1]? = some x.t := by rw [List.getElem?_map, hx]; rfl
  refine alloc_s (Sep.start w) (A_api_Block w) fun g2 w1 hs1 => ?_
  refine drH_S hs1 fun w2 hs2 _ => ?_
  simp only [nilc_some, fad_mk, pik_true, pik_false, cnd_true, cnd_false, gif_same, gif_tf, gif_ft, gif_undef, bi_add, bi_sub, bi_mul, bi_eql, bi_neq, bi_lss, bi_leq, bi_gtr, bi_geq, notB_bool, cvi_int, lenS_mk, lenT_mk, ext0, ext1, ext2, nilP_mk, nilS_mk, fldv_agg, jn0_k, jn1_k, jn2_k, jn1_and, jn1_or, ex_some, Option.isNone_some, Option.isNone_none, Bool.false_bne, Bool.bne_true, Bool.bne_false, Bool.true_bne, Bool.not_true, Bool.not_false, Bool.and_true, Bool.true_and, Bool.and_false, Bool.false_and, Bool.or_true, Bool.true_or, Bool.or_false, Bool.false_or, cond_true, cond_false, List.getElem?_toArray, List.getElem?_cons_zero, List.getElem?_cons_succ, Nat.zero_add, Nat.add_zero, Nat.reduceAdd, forall_const]
  refine rdS_ld (v := lv) (fun u hu K hk => by obtain ⟨T, fr, hc⟩ := (hu.ch hr).cell; exact (L_chain_Chain__l hc K).mpr hk) ?_
  refine rdS_ld (v := lv) (fun u hu K hk => by obtain ⟨T, fr, hc⟩ := (hu.ch hr).cell; exact (L_chain_Chain__l hc K).mpr hk) ?_
  rw [hr.bw.len]
  simp only [nilc_some, fad_mk, pik_true, pik_false, cnd_true, cnd_false, gif_same, gif_tf, gif_ft, gif_undef, bi_add, bi_sub, bi_mul, bi_eql, bi_neq, bi_lss, bi_leq, bi_gtr, bi_geq, notB_bool, cvi_int, lenS_mk, lenT_mk, ext0, ext1, ext2, nilP_mk, nilS_mk, fldv_agg, jn0_k, jn1_k, jn2_k, jn1_and, jn1_or, ex_some, Option.isNone_some, Option.isNone_none, Bool.false_bne, Bool.bne_true, Bool.bne_false, Bool.true_bne, Bool.not_true, Bool.not_false, Bool.and_true, Bool.true_and, Bool.and_false, Bool.false_and, Bool.or_true, Bool.true_or, Bool.or_false, Bool.false_or, cond_true, cond_false, List.getElem?_toArray, List.getElem?_cons_zero, List.getElem?_cons_succ, Nat.zero_add, Nat.add_zero, Nat.reduceAdd, forall_const]
  rw [wi64 (by omega) (by omega)]
  have e1 : (B.length : Int) - 1 = ((B.length - 1 : Nat) : Int) := by omega
  rw [e1]
  change ixs 34 _ _ _
  refine rdS_rowC (q := Q_api_Block) (by decide) hs2 (fun u hu => (hu.ch hr).bw.1) hx' .i64 ?_
  refine efC_stN (St_api_Block (b := x.t) hs2 (one_api_Block (hr.bw.2 x (List.mem_of_getElem? hx)).one) fun w3 hs3 => ?_)
  simp only [L_api_Block hs3.blk, L_api_Block__Parent hs3.blk, L_api_Block__Height hs3.blk, L_api_Block__Data hs3.blk]
  exact hR _ _ ⟨rfl, hs3.fr0⟩
end
end Go.Fx
set_option linter.unusedVariables false
set_option linter.unusedSimpArgs false
namespace Go.Fx
section
variable {w0 w w' : World} {As : List Asn} {g gi gm : Nat} {lv iv m pt : Value} {over : Bool} {B : List BV}
theorem cBldI {r : Vec 32} {K : Value → World → Prop} {Bs : List Asn} (hs : Sep w0 w Bs) (hk : ∀ a z, Sep w0 z (rows (rVec 32) a [r] :: Bs) → K a z) : efP P (Instr.buildSlice T_sl_api_ID 1 #[(0, kv r)]) w K :=
  rows_lit hs S_sl_api_ID (l := [r]) (V := fun a => .agg (Rdr.cells (rVec 32) a).toArray) (fun a => rfl) rfl rfl (by decide) (by decide) fun g7 w7 hs7 => hk _ _ hs7
theorem cAppI {r : Vec 32} {x a : Value} {ids : List (Vec 32)} {K : Value → World → Prop} {Bs : List Asn} (hs : Sep w0 w (rows (rVec 32) x ids :: Bs)) (ha : Rows' (rVec 32) w.heap a [r]) (hl : ids.length ≤ 1000000)
    (hk : ∀ x' z, Sep w0 z (rows (rVec 32) x' (ids ++ [r]) :: Bs) → K x' z) : efP P (Builtin.append_ #[T_sl_api_ID, T_sl_api_ID] T_sl_api_ID #[x, a]) w K :=
  rows_app S_sl_api_ID U_sl_api_ID (by simp) hs ha (by simp only [List.flatMap_cons, List.flatMap_nil, List.append_nil]; exact oneVec) (by simp; omega) (by simp; omega) fun v8 w8 hs8 => hk _ _ hs8
theorem cBldB {x : BV} {K : Value → World → Prop} {Bs : List Asn} (hs : Sep w0 w Bs) (hk : ∀ a z, Sep w0 z (rows Q_api_Block a [x.t] :: Bs) → K a z) : efP P (Instr.buildSlice T_sl_api_Block 1 #[(0, bq x.1 x.2)]) w K :=
  rows_lit (q := Q_api_Block) hs S_sl_api_Block (l := [x.t]) (V := fun a => .agg (Rdr.cells Q_api_Block a).toArray) (fun a => rfl) rfl rfl (by decide) (by decide) fun g7 w7 hs7 => hk _ _ hs7
theorem cAppB {x : BV} {u a : Value} {B : List BV} {K : Value → World → Prop} {Bs : List Asn} (hs : Sep w0 w (rows Q_api_Block u (B.map BV.t) :: Bs)) (ha : Rows' Q_api_Block w.heap a [x.t]) (h1 : x.2.oneCell' = true) (hl : B.length ≤ 1000000)
    (hk : ∀ u' z, Sep w0 z (rows Q_api_Block u' ((B ++ [x]).map BV.t) :: Bs) → K u' z) : efP P (Builtin.append_ #[T_sl_api_Block, T_sl_api_Block] T_sl_api_Block #[u, a]) w K :=
  rows_app (q := Q_api_Block) S_sl_api_Block U_sl_api_Block (by simp) hs ha (by simp only [List.flatMap_cons, List.flatMap_nil, List.append_nil]; exact one_api_Block h1) (by simp; omega) (by simp; omega) fun v8 w8 hs8 => hk _ _ (by
    have e : (B ++ [x]).map BV.t = B.map BV.t ++ [x.t] := by simp
    rw [e]; exact hs8)
theorem drH_PH' {w0 w : World} {As : List Asn} {S : World → Prop} {K : (World → Prop) → World → Prop} (hs : Sep w0 w As) (hS : ∀ u, Sep w0 u As → S u) (h : ∀ w', Sep w0 w' As → w'.heap = w.heap → K S w') : drH w K := ⟨S, hS _ (hs.drew _), h _ (hs.drew _) rfl⟩
theorem four_app {b : Blk} {v : Value} {r : Vec 32} {u y : Value} {ids : List (Vec 32)} {K : Value → Value → World → Prop} (hs : Sep w0 w (rows Q_api_Block u (B.map BV.t) :: rows (rVec 32) y ids :: As)) (hb : ∀ z, Sep w0 z As → RdB z.heap v b.d) (hbl : b.d.length ≤ 100000) (hl1 : B.length ≤ 1000000) (hl2 : ids.length ≤ 1000000)
    (hk : ∀ u' y' z vd, Sep w0 z (rows Q_api_Block u' ((B ++ [(b, vd)]).map BV.t) :: rows (rVec 32) y' (ids ++ [r]) :: ownB vd b.d :: As) → K u' y' z) :
    (efS (fun u => Sep w0 u As) (cal P f_block_Clone [bq b v]) w fun c w =>
      (efS (fun u => Sep w0 u As) (efP P (Instr.buildSlice T_sl_api_Block 1 #[(0, c)])) w fun t29 w =>
        (efS (fun u => Sep w0 u As) (efP P (Builtin.append_ #[T_sl_api_Block, T_sl_api_Block] T_sl_api_Block #[u, t29])) w fun u' w =>
          efS (fun u => Sep w0 u As) (efP P (Instr.buildSlice T_sl_api_ID 1 #[(0, kv r)])) w fun t36 w =>
          efC (efP P (Builtin.append_ #[T_sl_api_ID, T_sl_api_ID] T_sl_api_ID #[y, t36])) w fun S y' w => K u' y' w) ∧
        ((efS (fun u => Sep w0 u As) (efP P (Instr.buildSlice T_sl_api_ID 1 #[(0, kv r)])) w fun t36 w =>
          efS (fun u => Sep w0 u As) (efP P (Builtin.append_ #[T_sl_api_Block, T_sl_api_Block] T_sl_api_Block #[u, t29])) w fun u' w =>
          efC (efP P (Builtin.append_ #[T_sl_api_ID, T_sl_api_ID] T_sl_api_ID #[y, t36])) w fun S y' w => K u' y' w) ∧ True)) ∧
      ((efS (fun u => Sep w0 u As) (efP P (Instr.buildSlice T_sl_api_ID 1 #[(0, kv r)])) w fun t36 w =>
        efS (fun u => Sep w0 u As) (efP P (Instr.buildSlice T_sl_api_Block 1 #[(0, c)])) w fun t29 w =>
        efS (fun u => Sep w0 u As) (efP P (Builtin.append_ #[T_sl_api_Block, T_sl_api_Block] T_sl_api_Block #[u, t29])) w fun u' w =>
        efC (efP P (Builtin.append_ #[T_sl_api_ID, T_sl_api_ID] T_sl_api_ID #[y, t36])) w fun S y' w => K u' y' w) ∧ True)) ∧
    ((efS (fun u => Sep w0 u As) (efP P (Instr.buildSlice T_sl_api_ID 1 #[(0, kv r)])) w fun t36 w =>
      efS (fun u => Sep w0 u As) (cal P f_block_Clone [bq b v]) w fun c w =>
      efS (fun u => Sep w0 u As) (efP P (Instr.buildSlice T_sl_api_Block 1 #[(0, c)])) w fun t29 w =>
      efS (fun u => Sep w0 u As) (efP P (Builtin.append_ #[T_sl_api_Block, T_sl_api_Block] T_sl_api_Block #[u, t29])) w fun u' w =>
      efC (efP P (Builtin.append_ #[T_sl_api_ID, T_sl_api_ID] T_sl_api_ID #[y, t36])) w fun S y' w => K u' y' w) ∧ True) := by
  refine ⟨?_, ?_, trivial⟩
  · refine efS_i (cal_i (bkClone_spec (b := b) (v := v) (hb _ hs.tail.tail) (by omega)) ?_)
    rintro _ w1 ⟨vd, rfl, hs1⟩
    replace hs1 := hs.join hs1
    refine ⟨hs1.tail.tail.tail, ?_⟩
    refine ⟨?_, ?_, trivial⟩
    · refine efS_i (cBldB (x := (b, vd)) hs1 fun a z hz => ⟨hz.tail.tail.tail.tail, ?_, ?_, trivial⟩)
      · refine efS_i (cAppB (x := (b, vd)) hz.p2 (Sep.rows hz) (Sep.one hz.p1) hl1 fun u' z2 hz2 => ⟨hz2.tail.tail.tail.tail, ?_⟩)
        refine efS_i (cBldI hz2 fun a2 z3 hz3 => ⟨hz3.tail.tail.tail.tail.tail, ?_⟩)
        refine efC_efP (cAppI (Sep.pick hz3 [4, 0, 1, 2, 3] 5) (Sep.rows hz3) hl2 fun y' z4 hz4 => hk _ _ _ vd ?_)
        exact Sep.pick hz4 [2, 0, 4] 5
      · refine efS_i (cBldI hz fun a2 z2 hz2 => ⟨hz2.tail.tail.tail.tail.tail, ?_⟩)
        refine efS_i (cAppB (x := (b, vd)) hz2.p3 (Sep.rows hz2.p1) (Sep.one hz2.p2) hl1 fun u' z3 hz3 => ⟨hz3.tail.tail.tail.tail.tail, ?_⟩)
        refine efC_efP (cAppI (Sep.pick hz3 [4, 0, 1, 2, 3] 5) (Sep.rows hz3.p1) hl2 fun y' z4 hz4 => hk _ _ _ vd ?_)
        exact Sep.pick hz4 [1, 0, 4] 5
    · refine efS_i (cBldI hs1 fun a2 z hz => ⟨hz.tail.tail.tail.tail, ?_⟩)
      refine efS_i (cBldB (x := (b, vd)) hz fun a z2 hz2 => ⟨hz2.tail.tail.tail.tail.tail, ?_⟩)
      refine efS_i (cAppB (x := (b, vd)) hz2.p3 (Sep.rows hz2) (Sep.one hz2.p2) hl1 fun u' z3 hz3 => ⟨hz3.tail.tail.tail.tail.tail, ?_⟩)
      refine efC_efP (cAppI (Sep.pick hz3 [4, 0, 1, 2, 3] 5) (Sep.rows hz3.p2) hl2 fun y' z4 hz4 => hk _ _ _ vd ?_)
      exact Sep.pick hz4 [1, 0, 4] 5
  · refine efS_i (cBldI hs fun a2 z hz => ⟨hz.tail.tail.tail, ?_⟩)
    refine efS_i (cal_i (bkClone_spec (b := b) (v := v) (hb _ hz.tail.tail.tail) (by omega)) ?_)
    rintro _ w1 ⟨vd, rfl, hs1⟩
    replace hs1 := hz.join hs1
    refine ⟨hs1.tail.tail.tail.tail, ?_⟩
    refine efS_i (cBldB (x := (b, vd)) hs1 fun a z2 hz2 => ⟨hz2.tail.tail.tail.tail.tail, ?_⟩)
    refine efS_i (cAppB (x := (b, vd)) hz2.p3 (Sep.rows hz2) (Sep.one hz2.p1) hl1 fun u' z3 hz3 => ⟨hz3.tail.tail.tail.tail.tail, ?_⟩)
    refine efC_efP (cAppI (Sep.pick hz3 [4, 0, 1, 2, 3] 5) (Sep.rows hz3.p3) hl2 fun y' z4 hz4 => hk _ _ _ vd ?_)
    exact Sep.pick hz4 [1, 0, 3] 5
theorem chk0_lenC {b : Blk} (h : b.chk = 0) : b.d.length ≤ 200 := by
  unfold Blk.chk at h
  split at h
  · cases h
  · omega
theorem cAdd_spec {b : Blk} {v : Value} (hs : Sep w0 w (chH g gi gm lv iv pt over B ++ As)) (hC : Cub w0) (hb : ∀ z, Sep w0 z As → RdB z.heap v b.d) (hh : b.h ≤ maxI) (hck : b.chk = 0) (hn : B.length ≤ 1000000) :
    cal P f_chain_Chain_add [.pointer (some ⟨g, 0, none⟩), bq b v] w fun r w' => r = .tuple #[] ∧ ∃ lv' iv' vd, Sep w0 w' (chH g gi gm lv' iv' pt over (B ++ [(b, vd)]) ++ (ownB vd b.d :: As)) := by
  refine s_chain_Chain_add fun R hR => ?_
  unfold c_chain_Chain_add
  have hbl := chk0_lenC hck
  refine bxQ hs fun g3 w1 hs1 => ?_
  simp only [L_api_Block hs1.blk, L_api_Block__Parent hs1.blk, L_api_Block__Height hs1.blk, L_api_Block__Data hs1.blk]
  refine cal_i (bkID_spec (b := b) (v := v) (hC.fr hs1.fr0) (hb _ (Sep.pick hs1 [] 6)) hh) ?_
  rintro _ w2 ⟨rfl, hf2⟩
  have hs2 := hs1.old hf2
  have hnm : b.name = b.id := by unfold Blk.name; rw [if_pos hck]
  rw [hnm]
  simp only [nilc_some, fad_mk, pik_true, pik_false, cnd_true, cnd_false, gif_same, gif_tf, gif_ft, gif_undef, bi_add, bi_sub, bi_mul, bi_eql, bi_neq, bi_lss, bi_leq, bi_gtr, bi_geq, notB_bool, cvi_int, lenS_mk, lenT_mk, ext0, ext1, ext2, nilP_mk, nilS_mk, fldv_agg, jn0_k, jn1_k, jn2_k, jn1_and, jn1_or, ex_some, Option.isNone_some, Option.isNone_none, Bool.false_bne, Bool.bne_true, Bool.bne_false, Bool.true_bne, Bool.not_true, Bool.not_false, Bool.and_true, Bool.true_and, Bool.and_false, Bool.false_and, Bool.or_true, Bool.true_or, Bool.or_false, Bool.false_or, cond_true, cond_false, List.getElem?_toArray, List.getElem?_cons_zero, List.getElem?_cons_succ, Nat.zero_add, Nat.add_zero, Nat.reduceAdd, forall_const]
  refine alloc_s hs2 (A_api_ID w2) fun g4 w3 hs3 => ?_
  refine St_api_ID hs3 fun w4 hs4 => ?_
  refine drH_S hs4 fun w5 hs5 _ => ?_
  -- id 0 · b 1 · c 2 · held 3 · l 4 · ids 5 · map 6
  refine rdS_ld (v := .map (some gm)) (fun u hu K hk => (L_chain_Chain__at (Sep.blk hu.p2) K).mpr hk) ?_
  refine ⟨kv b.id, fun u hu => (L_api_ID (Sep.blk hu) _).mpr rfl, ?_⟩
  refine rdS_ld (v := lv) (fun u hu K hk => (L_chain_Chain__l (Sep.blk hu.p2) K).mpr hk) ?_
  have hlb : ∀ K, lenS lv K = K (.int .i64 B.length) := fun K => by
    have := (Sep.rows (Sep.pick hs5 [4] 5)).len K
    rwa [List.length_map] at this
  rw [hlb]
  refine efC_efU (putF_s U_map_api_ID_int KTc (Sep.pick hs5 [6, 0, 1, 2, 3, 4, 5] 7) fun w6 hs6 => ?_)
  have e1 : updF (atF (blks B)) b.id (.int .i64 (B.length : Nat)) = atF (blks B ++ [b]) := by
    rw [atF_snoc, List.length_map]
  rw [e1] at hs6
  -- map 0 · id 1 · b 2 · c 3 · held 4 · l 5 · ids 6
  replace hs6 : Sep w0 w6 (rows Q_api_Block lv (B.map BV.t) :: rows (rVec 32) iv (B.map (·.1.id)) :: blk g (Rdr.cells Q_chain_Chain (.pointer (some ⟨gi, 0, none⟩), lv, iv, .map (some gm), over)).toArray T_chain_Chain :: blk g4 (Rdr.cells (rVec 32) b.id).toArray T_api_ID :: blk g3 (Rdr.cells Q_api_Block (b.p, b.h, v)).toArray T_api_Block :: blk gi #[pt] T_chain_held :: mpF gm (atF (blks B ++ [b])) :: As) := Sep.pick hs6 [5, 6, 3, 1, 2, 4, 0] 7
  refine drH_PH' (S := fun u => Sep w0 u (blk g (Rdr.cells Q_chain_Chain (.pointer (some ⟨gi, 0, none⟩), lv, iv, .map (some gm), over)).toArray T_chain_Chain :: blk g4 (Rdr.cells (rVec 32) b.id).toArray T_api_ID :: blk g3 (Rdr.cells Q_api_Block (b.p, b.h, v)).toArray T_api_Block :: blk gi #[pt] T_chain_held :: mpF gm (atF (blks B ++ [b])) :: As)) hs6 (fun u hu => hu.tail.tail) fun w7 hs7 _ => ?_
  refine ⟨fun z => ∃ lv' iv' vd, Sep w0 z (chH g gi gm lv' iv' pt over (B ++ [(b, vd)]) ++ (ownB vd b.d :: As)), ?_, fun z hz _ => hR _ _ ⟨rfl, hz⟩⟩
  simp only [nilc_some, fad_mk, pik_true, pik_false, cnd_true, cnd_false, gif_same, gif_tf, gif_ft, gif_undef, bi_add, bi_sub, bi_mul, bi_eql, bi_neq, bi_lss, bi_leq, bi_gtr, bi_geq, notB_bool, cvi_int, lenS_mk, lenT_mk, ext0, ext1, ext2, nilP_mk, nilS_mk, fldv_agg, jn0_k, jn1_k, jn2_k, jn1_and, jn1_or, ex_some, Option.isNone_some, Option.isNone_none, Bool.false_bne, Bool.bne_true, Bool.bne_false, Bool.true_bne, Bool.not_true, Bool.not_false, Bool.and_true, Bool.true_and, Bool.and_false, Bool.false_and, Bool.or_true, Bool.true_or, Bool.or_false, Bool.false_or, cond_true, cond_false, List.getElem?_toArray, List.getElem?_cons_zero, List.getElem?_cons_succ, Nat.zero_add, Nat.add_zero, Nat.reduceAdd, forall_const]
  refine rdS_ld (v := lv) (fun u hu K hk => (L_chain_Chain__l (Sep.blk hu) K).mpr hk) ?_
  refine ⟨bq b v, fun u hu => (L_api_Block (Sep.blk hu.p2) _).mpr rfl, ?_⟩
  refine rdS_ld (v := iv) (fun u hu K hk => (L_chain_Chain__ids (Sep.blk hu) K).mpr hk) ?_
  refine ⟨kv b.id, fun u hu => (L_api_ID (Sep.blk hu.p1) _).mpr rfl, ?_⟩
  refine four_app hs7 (fun z hz => hb z hz.tail.tail.tail.tail.tail) (by omega) hn (by simpa using hn) fun u' y' z vd hz => ?_
  -- l 0 · ids 1 · own 2 · c 3 · id 4 · b 5 · held 6 · map 7
  refine efC_st1 (St_chain_Chain__l (Sep.pick hz [3, 0, 1, 2, 6, 7] 8) (Sep.oneR hz) fun z2 hz2 => ?_)
  refine efC_st1 (St_chain_Chain__ids hz2 (Sep.oneR hz2.p2) fun z3 hz3 => ?_)
  refine ⟨u', y', vd, ?_⟩
  have e2 : (B ++ [(b, vd)]).map (·.1.id) = B.map (·.1.id) ++ [b.id] := by simp
  have e3 : blks (B ++ [(b, vd)]) = blks B ++ [b] := by simp
  unfold chH
  rw [e2, e3]
  exact Sep.pick hz3 [0, 4, 1, 2, 5, 3] 6
end
end Go.Fx
set_option linter.unusedVariables false
set_option linter.unusedSimpArgs false
namespace Go.Fx
section
variable {w0 w w' : World} {As : List Asn} {g gi gm : Nat} {lv iv m pt : Value} {over : Bool} {B : List BV} {x : Tp}
theorem tp_one (hs : Sep w0 w (tp pt x :: As)) : pt.oneCell' = true := by
  rw [tp_open] at hs
  obtain ⟨g, s, rfl, _⟩ := hs
  rfl
theorem lastOf {B : List BV} {a : Blk} {l : List Blk} (h : blks B = a :: l) : ∃ y, B[B.length - 1]? = some y ∧ y.1 = lastB a l := by
  have h1 := lastB_get a l
  rw [← h, List.getElem?_map] at h1
  have hl : B.length = l.length + 1 := by
    have := congrArg List.length h
    simpa using this
  rw [show l.length = B.length - 1 by omega] at h1
  cases hb : B[B.length - 1]? with
  | none => rw [hb] at h1; cases h1
  | some y => rw [hb] at h1; exact ⟨y, rfl, Option.some.inj h1⟩
theorem layL_tk {l : List Blk} {i : Nat} {b : Blk} (h : l[i]? = some b) : layL (l.take (i + 1)) = layL (l.take i) ++ b.rcd := layL_take h
theorem cOpen_spec {b : Blk} {v : Value} (hs : Sep w0 w (tp pt x :: As)) (hx : x.Ok) (hm : x.made = true) (hC : Cub w0) (hb : ∀ z, Sep w0 z As → RdB z.heap v b.d) (hh : b.h ≤ maxI) :
    cal P f_chain_Open [pt, bq b v] w fun r w' =>
      (x.off = true ∧ r = .tuple #[.pointer none, .int .i64 5] ∧ Sep w0 w' (tp pt x :: As)) ∨
      (x.off = false ∧ (b.chk ≠ 0 ∨ b.h ≠ 0) ∧ r = .tuple #[.pointer none, .int .i64 30] ∧ Sep w0 w' (tp pt x :: As)) ∨
      (x.off = false ∧ b.chk = 0 ∧ b.h = 0 ∧ ∃ g gi gm lv iv B E S, r = .tuple #[.pointer (some ⟨g, 0, none⟩), .int .i64 0] ∧ IsScan x.b S ∧ blks B = b :: linkT b S ∧ DatB B E ∧
        Sep w0 w' (chH g gi gm lv iv pt false B ++ (tp pt { x with b := layL (linkT b S) } :: (E ++ As)))) := by
  refine s_chain_Open fun R hR => ?_
  unfold c_chain_Open
  have hp1 := tp_one hs
  refine bxQ hs fun g3 w1 hs1 => ?_
  refine cal_i (tpClone_spec hs1.p1 hx hm) ?_
  rintro tv w2 hs2
  rw [tp_nilP hs2]
  simp only [nilc_some, fad_mk, pik_true, pik_false, cnd_true, cnd_false, gif_same, gif_tf, gif_ft, gif_undef, bi_add, bi_sub, bi_mul, bi_eql, bi_neq, bi_lss, bi_leq, bi_gtr, bi_geq, notB_bool, cvi_int, lenS_mk, lenT_mk, ext0, ext1, ext2, nilP_mk, nilS_mk, fldv_agg, jn0_k, jn1_k, jn2_k, jn1_and, jn1_or, ex_some, Option.isNone_some, Option.isNone_none, Bool.false_bne, Bool.bne_true, Bool.bne_false, Bool.true_bne, Bool.not_true, Bool.not_false, Bool.and_true, Bool.true_and, Bool.and_false, Bool.false_and, Bool.or_true, Bool.true_or, Bool.or_false, Bool.false_or, cond_true, cond_false, List.getElem?_toArray, List.getElem?_cons_zero, List.getElem?_cons_succ, Nat.zero_add, Nat.add_zero, Nat.reduceAdd, forall_const]
  have hs2' := hs1.old hs2.fr0
  refine cal_i (tpOn_spec hs2'.p1) ?_
  rintro _ _ ⟨rfl, rfl⟩
  rw [hm]
  cases hoff : x.off with
  | true =>
    simp only [nilc_some, fad_mk, pik_true, pik_false, cnd_true, cnd_false, gif_same, gif_tf, gif_ft, gif_undef, bi_add, bi_sub, bi_mul, bi_eql, bi_neq, bi_lss, bi_leq, bi_gtr, bi_geq, notB_bool, cvi_int, lenS_mk, lenT_mk, ext0, ext1, ext2, nilP_mk, nilS_mk, fldv_agg, jn0_k, jn1_k, jn2_k, jn1_and, jn1_or, ex_some, Option.isNone_some, Option.isNone_none, Bool.false_bne, Bool.bne_true, Bool.bne_false, Bool.true_bne, Bool.not_true, Bool.not_false, Bool.and_true, Bool.true_and, Bool.and_false, Bool.false_and, Bool.or_true, Bool.true_or, Bool.or_false, Bool.false_or, cond_true, cond_false, List.getElem?_toArray, List.getElem?_cons_zero, List.getElem?_cons_succ, Nat.zero_add, Nat.add_zero, Nat.reduceAdd, forall_const]
    exact hR _ _ (.inl ⟨hoff, rfl, hs2'.tail⟩)
  | false =>
  simp only [nilc_some, fad_mk, pik_true, pik_false, cnd_true, cnd_false, gif_same, gif_tf, gif_ft, gif_undef, bi_add, bi_sub, bi_mul, bi_eql, bi_neq, bi_lss, bi_leq, bi_gtr, bi_geq, notB_bool, cvi_int, lenS_mk, lenT_mk, ext0, ext1, ext2, nilP_mk, nilS_mk, fldv_agg, jn0_k, jn1_k, jn2_k, jn1_and, jn1_or, ex_some, Option.isNone_some, Option.isNone_none, Bool.false_bne, Bool.bne_true, Bool.bne_false, Bool.true_bne, Bool.not_true, Bool.not_false, Bool.and_true, Bool.true_and, Bool.and_false, Bool.false_and, Bool.or_true, Bool.true_or, Bool.or_false, Bool.false_or, cond_true, cond_false, List.getElem?_toArray, List.getElem?_cons_zero, List.getElem?_cons_succ, Nat.zero_add, Nat.add_zero, Nat.reduceAdd, forall_const, L_api_Block hs2'.blk, L_api_Block__Parent hs2'.blk, L_api_Block__Height hs2'.blk, L_api_Block__Data hs2'.blk]
  refine cal_i (Check_spec (b := b) (v := v) (hb _ hs2'.tail.tail)) ?_
  rintro _ w3 ⟨rfl, hf3⟩
  have hs3 := hs2'.old hf3
  simp only [nilc_some, fad_mk, pik_true, pik_false, cnd_true, cnd_false, gif_same, gif_tf, gif_ft, gif_undef, bi_add, bi_sub, bi_mul, bi_eql, bi_neq, bi_lss, bi_leq, bi_gtr, bi_geq, notB_bool, cvi_int, lenS_mk, lenT_mk, ext0, ext1, ext2, nilP_mk, nilS_mk, fldv_agg, jn0_k, jn1_k, jn2_k, jn1_and, jn1_or, ex_some, Option.isNone_some, Option.isNone_none, Bool.false_bne, Bool.bne_true, Bool.bne_false, Bool.true_bne, Bool.not_true, Bool.not_false, Bool.and_true, Bool.true_and, Bool.and_false, Bool.false_and, Bool.or_true, Bool.true_or, Bool.or_false, Bool.false_or, cond_true, cond_false, List.getElem?_toArray, List.getElem?_cons_zero, List.getElem?_cons_succ, Nat.zero_add, Nat.add_zero, Nat.reduceAdd, forall_const, L_api_Block hs3.blk, L_api_Block__Parent hs3.blk, L_api_Block__Height hs3.blk, L_api_Block__Data hs3.blk]
  rw [cnd_bool]
  refine ⟨fun h => ?_, fun h => ?_⟩
  · have h : b.chk ≠ 0 ∨ b.h ≠ 0 := by simpa using h
    exact hR _ _ (.inr (.inl ⟨hoff, h, rfl, hs3.tail⟩))
  have h : b.chk = 0 ∧ b.h = 0 := by simpa using h
  obtain ⟨hck, hh0⟩ := h
  rw [B_chain_held_0 hp1]
  refine bxQ hs3 fun gi w4 hs4 => ?_
  refine makeF_s (n := 32) hs4 fun gm w5 hs5 => ?_
  rw [B_chain_Chain_0_3 rfl rfl]
  refine bxQ hs5 fun g w6 hs6 => ?_
  -- c 0 · map 1 · held 2 · b 3 · tp 4
  obtain ⟨A1, hA1⟩ : ∃ A1, A1 = blk g3 (Rdr.cells Q_api_Block (b.p, b.h, v)).toArray T_api_Block :: tp pt x :: As := ⟨_, rfl⟩
  have hs7 : Sep w0 w6 (chH g gi gm (.slice none 0 0) (.slice none 0 0) pt false [] ++ A1) := by
    rw [hA1]
    exact Sep.pick ((hs6.nilR (q := rVec 32)).nilR (q := Q_api_Block)) [2, 4, 0, 1, 3, 5, 6] 7
  have hbA : ∀ z, Sep w0 z A1 → RdB z.heap v b.d := fun z hz => by rw [hA1] at hz; exact hb z hz.tail.tail
  simp only [L_api_Block (Sep.blk (Sep.pick hs6 [3] 4)), L_api_Block__Parent (Sep.blk (Sep.pick hs6 [3] 4)), L_api_Block__Height (Sep.blk (Sep.pick hs6 [3] 4)), L_api_Block__Data (Sep.blk (Sep.pick hs6 [3] 4))]
  refine cal_i (cAdd_spec (b := b) (v := v) hs7 hC hbA hh hck (by simp)) ?_
  rintro _ w7 ⟨rfl, lv1, iv1, vd, hs8⟩
  clear hs7 hs6 hs5 hs4 hs3 hs2' hs1 hs2
  rw [List.nil_append] at hs8
  -- chain 0-4 · own 5 · b 6 · tp 7
  rw [hA1] at hs8
  refine cal_i (tpBytes_spec (Sep.pick hs8 [7] 8) hx hm) ?_
  rintro bs w8 hs9
  obtain ⟨ba, bc, hbf, hbc⟩ := Sep.form hs9
  have hcap : capOk bs := fun a' n' c' he => by
    rw [hbf] at he
    simp only [Value.slice.injEq] at he
    obtain ⟨_, rfl, rfl⟩ := he
    exact hbc
  have hxl := hx.1
  refine cal_i (Scan_spec (hC.fr (hs8.old hs9.fr0).fr0) (Sep.rd hs9) hcap (by omega)) ?_
  rintro _ w9 ⟨sx, SB, rfl, hsc, hs10⟩
  have hf10 : Fr [] w7 w9 := hs9.fr0.trans hs10.fr0 (by simp) (by simp)
  have hs11 : Sep w0 w9 (brow sx SB ++ (chH g gi gm lv1 iv1 pt false [(b, vd)] ++ (ownB vd b.d :: blk g3 (Rdr.cells Q_api_Block (b.p, b.h, v)).toArray T_api_Block :: tp pt x :: As))) := (hs8.old hs9.fr0).join hs10
  obtain ⟨S, hS⟩ : ∃ S, S = blks SB := ⟨_, rfl⟩
  replace hsc : IsScan x.b S := by rw [hS]; exact hsc
  obtain ⟨Y, hY⟩ : ∃ Y, Y = tp pt x :: (brow sx SB ++ As) := ⟨_, rfl⟩
  have hs12 : Sep w0 w9 (chH g gi gm lv1 iv1 pt false [(b, vd)] ++ ([ownB vd b.d] ++ Y)) := by
    rw [hY]
    have h1 : Sep w0 w9 ((chH g gi gm lv1 iv1 pt false [(b, vd)] ++ [ownB vd b.d, blk g3 (Rdr.cells Q_api_Block (b.p, b.h, v)).toArray T_api_Block, tp pt x]) ++ (brow sx SB ++ As)) := hs11.perm (List.perm_append_comm_assoc (brow sx SB) (chH g gi gm lv1 iv1 pt false [(b, vd)] ++ [ownB vd b.d, blk g3 (Rdr.cells Q_api_Block (b.p, b.h, v)).toArray T_api_Block, tp pt x]) As)
    exact Sep.pick h1 [0, 1, 2, 3, 4, 5, 7] 8
  clear hs11 hs10 hs9 hs8 hf10 hA1 hbA
  have fB : ∀ {z : World} {Bs : List Asn}, Sep w0 z (Bs ++ Y) → BRows z.heap sx SB := fun {z Bs} hz => by
    have hz := hz.dropL
    rw [hY] at hz
    exact brow_rd hz.tail
  have hlS : S.length = SB.length := by rw [hS]; simp
  have hlay : ∀ i, (layL (S.take i)).length ≤ x.b.length := fun i => by
    obtain ⟨hg, t, ht, _⟩ := hsc
    have h1 : S = S.take i ++ S.drop i := (List.take_append_drop i S).symm
    have h2 : layL S = layL (S.take i) ++ layL (S.drop i) := by rw [← layL_append, List.take_append_drop]
    rw [ht, h2]
    simp only [List.length_append]
    omega
  have hSl : S.length ≤ 1000000 := by
    have h1 := layL_ge S
    have h2 := hsc.len
    omega
  simp only [nilc_some, fad_mk, pik_true, pik_false, cnd_true, cnd_false, gif_same, gif_tf, gif_ft, gif_undef, bi_add, bi_sub, bi_mul, bi_eql, bi_neq, bi_lss, bi_leq, bi_gtr, bi_geq, notB_bool, cvi_int, lenS_mk, lenT_mk, ext0, ext1, ext2, nilP_mk, nilS_mk, fldv_agg, jn0_k, jn1_k, jn2_k, jn1_and, jn1_or, ex_some, Option.isNone_some, Option.isNone_none, Bool.false_bne, Bool.bne_true, Bool.bne_false, Bool.true_bne, Bool.not_true, Bool.not_false, Bool.and_true, Bool.true_and, Bool.and_false, Bool.false_and, Bool.or_true, Bool.true_or, Bool.or_false, Bool.false_or, cond_true, cond_false, List.getElem?_toArray, List.getElem?_cons_zero, List.getElem?_cons_succ, Nat.zero_add, Nat.add_zero, Nat.reduceAdd, forall_const]
  refine ⟨fun y z => ∃ (i : Nat) (lv iv : Value) (B : List BV) (E : List Asn), y = .int .i64 ((layL (S.take i)).length : Nat) ∧ linkT b S = S.take i ∧ blks B = b :: S.take i ∧ DatB B E ∧ Sep w0 z (chH g gi gm lv iv pt false B ++ (E ++ Y)), ?_, ?_⟩
  · change lenS _ _
    rw [(fB (Bs := chH g gi gm lv1 iv1 pt false [(b, vd)] ++ [ownB vd b.d]) (by rw [List.append_assoc]; exact hs12)).len]
    refine ⟨fun y z' z => ∃ (i : Nat) (lv iv : Value) (B : List BV) (E : List Asn), y = .int .i64 ((layL (S.take i)).length : Nat) ∧ z' = .int .i64 i ∧ i ≤ SB.length ∧ linked b (S.take i) ∧ blks B = b :: S.take i ∧ DatB B E ∧ Sep w0 z (chH g gi gm lv iv pt false B ++ (E ++ Y)), fun _ y _ => (SB.length - RowKit.intOf y).toNat, ⟨0, lv1, iv1, [(b, vd)], [ownB vd b.d], rfl, rfl, by omega, trivial, rfl, (fun y hy => by rw [List.mem_singleton.1 hy]; exact List.mem_cons_self ..), hs12⟩, ?_⟩
    clear hs12
    rintro _ _ w10 ⟨i, lv, iv, B, E, rfl, rfl, hi, hlk, hB, hD, hs10⟩ -
    simp only [nilc_some, fad_mk, pik_true, pik_false, cnd_true, cnd_false, gif_same, gif_tf, gif_ft, gif_undef, bi_add, bi_sub, bi_mul, bi_eql, bi_neq, bi_lss, bi_leq, bi_gtr, bi_geq, notB_bool, cvi_int, lenS_mk, lenT_mk, ext0, ext1, ext2, nilP_mk, nilS_mk, fldv_agg, jn0_k, jn1_k, jn2_k, jn1_and, jn1_or, ex_some, Option.isNone_some, Option.isNone_none, Bool.false_bne, Bool.bne_true, Bool.bne_false, Bool.true_bne, Bool.not_true, Bool.not_false, Bool.and_true, Bool.true_and, Bool.and_false, Bool.false_and, Bool.or_true, Bool.true_or, Bool.or_false, Bool.false_or, cond_true, cond_false, List.getElem?_toArray, List.getElem?_cons_zero, List.getElem?_cons_succ, Nat.zero_add, Nat.add_zero, Nat.reduceAdd, forall_const]
    rw [cnd_bool]
    refine ⟨fun h => ?_, fun h => ?_⟩
    case refine_2 =>
      have hge : i = S.length := by simp at h; omega
      refine ⟨i, lv, iv, B, E, rfl, ?_, hB, hD, hs10⟩
      rw [hge, List.take_of_length_le (Nat.le_refl _)] at hlk ⊢
      exact linkT_self hlk
    have hlt : i < SB.length := by simp at h; omega
    obtain ⟨e, he⟩ : ∃ e, SB[i]? = some e := ⟨_, List.getElem?_eq_getElem hlt⟩
    have heS : S[i]? = some e.1 := by rw [hS, List.getElem?_map, he]; rfl
    have hge := hsc.1 e.1 (List.mem_of_getElem? heS)
    obtain ⟨y0, hy0, hy1⟩ := lastOf hB
    have hBl : B.length = i + 1 := by
      have := congrArg List.length hB
      simp only [List.length_map, List.length_cons, List.length_take] at this
      omega
    have hrB : ∀ {z : World} {Bs : List Asn}, Sep w0 z (Bs ++ (chH g gi gm lv iv pt false B ++ (E ++ Y))) → ChR z.heap g gi lv iv (.map (some gm)) pt false B := fun {z Bs} hz => chH_rd hz.dropL (hD.sub fun A hA => List.mem_append_left _ hA)
    have hsxB : ∀ {z : World} {Bs : List Asn}, Sep w0 z (Bs ++ (chH g gi gm lv iv pt false B ++ (E ++ Y))) → BRows z.heap sx SB := fun {z Bs} hz => fB (Bs := E) hz.dropL.dropL
    change ixs 34 _ _ _
    refine BRows.ld (hsxB (Bs := []) hs10) he .i64 ?_
    refine alloc_s hs10 (A_api_Block w10) fun g11 w11 hs11 => ?_
    refine St_api_Block (b := e.t) hs11 (one_api_Block ((hsxB (Bs := [_]) hs11).2 e (List.mem_of_getElem? he)).one) fun w12 hs12 => ?_
    refine drH_S hs12 fun w13 hs13 _ => ?_
    refine ⟨bq e.1 e.2, fun u hu => (L_api_Block (Sep.blk hu) _).mpr rfl, ?_⟩
    refine efS_i (cal_i (cLast_spec (hrB (Bs := [_]) hs13) hy0 (by omega)) ?_)
    rintro _ w14 ⟨rfl, hf14⟩
    have hs14 := hs13.old hf14
    refine ⟨hs14, ?_⟩
    have hyh : y0.1.h ≤ maxI := by
      have hm : y0.1 ∈ blks B := List.mem_map_of_mem (List.mem_of_getElem? hy0)
      rw [hB] at hm
      rcases List.mem_cons.1 hm with h | h
      · rw [h]; exact hh
      · exact (hsc.1 _ (List.mem_of_mem_take h)).2
    refine efC_cal (cal_i (Linked_spec (a := e.1) (b := y0.1) (hC.fr hs14.fr0) ((hsxB (Bs := [_]) hs14).2 e (List.mem_of_getElem? he)) ((hrB (Bs := [_]) hs14).bw.2 y0 (List.mem_of_getElem? hy0)) hyh hge.2) ?_)
    rintro _ w15 ⟨rfl, hf15⟩
    have hs15 := hs14.old hf15
    simp only [nilc_some, fad_mk, pik_true, pik_false, cnd_true, cnd_false, gif_same, gif_tf, gif_ft, gif_undef, bi_add, bi_sub, bi_mul, bi_eql, bi_neq, bi_lss, bi_leq, bi_gtr, bi_geq, notB_bool, cvi_int, lenS_mk, lenT_mk, ext0, ext1, ext2, nilP_mk, nilS_mk, fldv_agg, jn0_k, jn1_k, jn2_k, jn1_and, jn1_or, ex_some, Option.isNone_some, Option.isNone_none, Bool.false_bne, Bool.bne_true, Bool.bne_false, Bool.true_bne, Bool.not_true, Bool.not_false, Bool.and_true, Bool.true_and, Bool.and_false, Bool.false_and, Bool.or_true, Bool.true_or, Bool.or_false, Bool.false_or, cond_true, cond_false, List.getElem?_toArray, List.getElem?_cons_zero, List.getElem?_cons_succ, Nat.zero_add, Nat.add_zero, Nat.reduceAdd, forall_const]
    rw [cnd_bool, hy1]
    refine ⟨fun h => ?_, fun h => ?_⟩
    · have h : e.1.link (lastB b (S.take i)) ≠ 0 := by simpa using h
      exact ⟨i, lv, iv, B, E, rfl, linkT_take hlk heS h, hB, hD, hs15.tail⟩
    have h : e.1.link (lastB b (S.take i)) = 0 := by simpa using h
    simp only [L_api_Block hs15.blk, L_api_Block__Parent hs15.blk, L_api_Block__Height hs15.blk, L_api_Block__Data hs15.blk]
    refine cal_i (recSize_spec (b := e.1) (v := e.2) ((hsxB (Bs := [_]) hs15).2 e (List.mem_of_getElem? he))) ?_
    rintro _ w16 ⟨rfl, hf16⟩
    have hs16 := hs15.old hf16
    have hro : e.1.recO = e.1.rcd := if_pos hge.1
    have hll := hlay (i + 1)
    rw [layL_tk heS, List.length_append] at hll
    simp only [nilc_some, fad_mk, pik_true, pik_false, cnd_true, cnd_false, gif_same, gif_tf, gif_ft, gif_undef, bi_add, bi_sub, bi_mul, bi_eql, bi_neq, bi_lss, bi_leq, bi_gtr, bi_geq, notB_bool, cvi_int, lenS_mk, lenT_mk, ext0, ext1, ext2, nilP_mk, nilS_mk, fldv_agg, jn0_k, jn1_k, jn2_k, jn1_and, jn1_or, ex_some, Option.isNone_some, Option.isNone_none, Bool.false_bne, Bool.bne_true, Bool.bne_false, Bool.true_bne, Bool.not_true, Bool.not_false, Bool.and_true, Bool.true_and, Bool.and_false, Bool.false_and, Bool.or_true, Bool.true_or, Bool.or_false, Bool.false_or, cond_true, cond_false, List.getElem?_toArray, List.getElem?_cons_zero, List.getElem?_cons_succ, Nat.zero_add, Nat.add_zero, Nat.reduceAdd, forall_const, hro, L_api_Block hs16.blk, L_api_Block__Parent hs16.blk, L_api_Block__Height hs16.blk, L_api_Block__Data hs16.blk]
    rw [wi64 (by omega) (by omega)]
    have hsA : Sep w0 w16 (chH g gi gm lv iv pt false B ++ (blk g11 (Rdr.cells Q_api_Block e.t).toArray T_api_Block :: (E ++ Y))) := Sep.pick hs16 [1, 2, 3, 4, 5, 0] 6
    refine cal_i (cAdd_spec (b := e.1) (v := e.2) hsA hC (fun z hz => (fB (Bs := E) hz.tail).2 e (List.mem_of_getElem? he)) hge.2 hge.1 (by omega)) ?_
    rintro _ w17 ⟨rfl, lv', iv', vd', hs17⟩
    rw [wi64 (by omega) (by omega)]
    refine ⟨⟨i + 1, lv', iv', B ++ [(e.1, vd')], ownB vd' e.1.d :: E, ?_, by simp, by omega, ?_, ?_, ?_, Sep.pick hs17 [0, 1, 2, 3, 4, 5] 7⟩, by simp [RowKit.intOf]; omega⟩
    · rw [layL_tk heS, List.length_append, Int.natCast_add]
    · rw [List.take_add_one, heS]
      exact linked_snoc hlk h
    · unfold blks at hB ⊢
      rw [List.take_add_one, heS, List.map_append, hB]
      rfl
    · intro y hy
      rcases List.mem_append.1 hy with hy | hy
      · exact List.mem_cons_of_mem _ (hD y hy)
      · rw [List.mem_singleton.1 hy]; exact List.mem_cons_self ..
  clear hs12
  rintro _ w10 ⟨i, lv, iv, B, E, rfl, hlT, hB, hD, hs10⟩ _
  have hend := hlay i
  rw [hY] at hs10
  have hfin : x.b.take (layL (S.take i)).length = layL (linkT b S) := by
    obtain ⟨hg, t, ht, _⟩ := hsc
    have h1 : S = S.take i ++ S.drop i := (List.take_append_drop i S).symm
    have h2 : layL S = layL (S.take i) ++ layL (S.drop i) := by rw [← layL_append, List.take_append_drop]
    rw [ht, h2, List.append_assoc, List.take_left, hlT]
  have hs11 : Sep w0 w10 (tp pt x :: (chH g gi gm lv iv pt false B ++ (E ++ (brow sx SB ++ As)))) := by
    have h1 : Sep w0 w10 ((chH g gi gm lv iv pt false B ++ E) ++ tp pt x :: (brow sx SB ++ As)) := by rw [List.append_assoc]; exact hs10
    have h2 := Sep.mid h1
    rwa [List.append_assoc] at h2
  clear hs10
  refine cal_i (tpLen_spec hs11 hm) ?_
  rintro _ _ ⟨rfl, rfl⟩
  have out : ∀ z, Sep w0 z (tp pt { x with b := layL (linkT b S) } :: (chH g gi gm lv iv pt false B ++ (E ++ (brow sx SB ++ As)))) → R (.tuple #[.pointer (some ⟨g, 0, none⟩), .int .i64 0]) z := fun z hz => by
    refine hR _ _ (.inr (.inr ⟨hoff, hck, hh0, g, gi, gm, lv, iv, B, E ++ brow sx SB, S, rfl, hsc, by rw [hlT]; exact hB, hD.sub fun A hA => List.mem_append_left _ hA, ?_⟩))
    rw [List.append_assoc E]
    exact Sep.pick hz [1, 2, 3, 4, 5, 0] 6
  simp only [nilc_some, fad_mk, pik_true, pik_false, cnd_true, cnd_false, gif_same, gif_tf, gif_ft, gif_undef, bi_add, bi_sub, bi_mul, bi_eql, bi_neq, bi_lss, bi_leq, bi_gtr, bi_geq, notB_bool, cvi_int, lenS_mk, lenT_mk, ext0, ext1, ext2, nilP_mk, nilS_mk, fldv_agg, jn0_k, jn1_k, jn2_k, jn1_and, jn1_or, ex_some, Option.isNone_some, Option.isNone_none, Bool.false_bne, Bool.bne_true, Bool.bne_false, Bool.true_bne, Bool.not_true, Bool.not_false, Bool.and_true, Bool.true_and, Bool.and_false, Bool.false_and, Bool.or_true, Bool.true_or, Bool.or_false, Bool.false_or, cond_true, cond_false, List.getElem?_toArray, List.getElem?_cons_zero, List.getElem?_cons_succ, Nat.zero_add, Nat.add_zero, Nat.reduceAdd, forall_const]
  rw [cnd_bool]
  refine ⟨fun h => ?_, fun h => ?_⟩
  · refine cal_i (tpTruncate_spec (n := ((layL (S.take i)).length : Nat)) hs11 hx) ?_
    have hmay : x.may = 0 := by unfold Tp.may; rw [hm, hoff]; rfl
    have ht : x.truncate ((layL (S.take i)).length : Nat) = ({ x with b := layL (linkT b S) }, 0) := by
      unfold Tp.truncate
      rw [if_neg (by simp [hmay]), if_neg (by omega), Int.toNat_natCast, hfin]
    rw [ht]
    rintro _ w11 ⟨rfl, hs12⟩
    simp only [nilc_some, fad_mk, pik_true, pik_false, cnd_true, cnd_false, gif_same, gif_tf, gif_ft, gif_undef, bi_add, bi_sub, bi_mul, bi_eql, bi_neq, bi_lss, bi_leq, bi_gtr, bi_geq, notB_bool, cvi_int, lenS_mk, lenT_mk, ext0, ext1, ext2, nilP_mk, nilS_mk, fldv_agg, jn0_k, jn1_k, jn2_k, jn1_and, jn1_or, ex_some, Option.isNone_some, Option.isNone_none, Bool.false_bne, Bool.bne_true, Bool.bne_false, Bool.true_bne, Bool.not_true, Bool.not_false, Bool.and_true, Bool.true_and, Bool.and_false, Bool.false_and, Bool.or_true, Bool.true_or, Bool.or_false, Bool.false_or, cond_true, cond_false, List.getElem?_toArray, List.getElem?_cons_zero, List.getElem?_cons_succ, Nat.zero_add, Nat.add_zero, Nat.reduceAdd, forall_const, show ((0 : Int) != 0) = false from rfl]
    exact out w11 hs12
  · refine out _ ?_
    have hge : x.b.length ≤ (layL (S.take i)).length := by simp at h; omega
    rw [List.take_of_length_le hge] at hfin
    rw [← hfin]
    exact hs11
end
end Go.Fx
set_option linter.unusedVariables false
set_option linter.unusedSimpArgs false
namespace Go.Fx
section
variable {w0 w w' : World} {As : List Asn} {g gi gm : Nat} {lv iv m pt : Value} {over : Bool} {B : List BV} {x : Tp}
theorem bldS1 {s : Value} {l : List UInt8} {Bs : List Asn} {K : Value → World → Prop} (hs : Sep w0 w (ownB s l :: Bs)) (hl : l.length ≤ 1000000)
    (hk : ∀ a z, Sep w0 z (own a 1 1 [s] :: ownB s l :: Bs) → K a z) : efP P (Instr.buildSlice T_sl_sl_uint8 1 #[(0, s)]) w K := by
  have hb : (Instr.buildSlice T_sl_sl_uint8 1 #[(0, s)]).run P w = .ok (.slice (some ⟨w.heap.size, 0, none⟩) 1 1) (w.alloc (.cells ([s] : List Value).toArray T_sl_uint8)) := by
    obtain ⟨a, c, hv, _⟩ := Sep.form hs
    rw [hv]
    kernel_rfl
  exact build_s (cs := [s]) (size := 1) hs rfl hb fun g5 w5 hs5 => hk _ _ hs5
theorem app1_spec {s a : Value} {l : List UInt8} {Bs : List Asn} (hs : Sep w0 w (tp pt x :: own a 1 1 [s] :: ownB s l :: Bs)) (hx : x.Ok) (hl : l.length ≤ 1000000) :
    cal P f_tape_Tape_Append [pt, a] w fun v w' => v = .int .i64 (x.append l).2 ∧ Sep w0 w' (tp pt (x.append l).1 :: own a 1 1 [s] :: ownB s l :: Bs) := by
  refine cal_i (tpAppend_spec (s := ⟨a, [⟨s, l⟩]⟩) hs hx fun w' h => ?_) ?_
  · refine ok_of_own h.cel h.capN (by simp) fun b hb => ?_
    simp at hb
    rw [hb]
    exact h.p1.rb (by simpa using (by omega : l.length ≤ 9223372036854775807))
  have hj : joined [⟨s, l⟩] = l := by simp [joined]
  simp only [hj]
  rintro _ w1 ⟨rfl, hs1⟩
  exact ⟨rfl, hs1⟩
theorem cAccept_spec {b : Blk} {v : Value} {y : BV} (hs : Sep w0 w (chH g gi gm lv iv pt over B ++ (tp pt x :: As))) (hx : x.Ok) (hm : x.made = true) (hC : Cub w0) (hb : ∀ z, Sep w0 z As → RdB z.heap v b.d) (hD : DatB B As)
    (hh : b.h ≤ maxI) (hy : B[B.length - 1]? = some y) (hyh : y.1.h ≤ maxI) (hn : B.length ≤ 1000000) :
    cal P f_chain_Chain_Accept [.pointer (some ⟨g, 0, none⟩), bq b v] w fun r w' =>
      ((over = true ∨ x.off = true) ∧ r = .int .i64 5 ∧ Sep w0 w' (chH g gi gm lv iv pt over B ++ (tp pt x :: As))) ∨
      (over = false ∧ x.off = false ∧ b.link y.1 ≠ 0 ∧ r = .int .i64 (b.link y.1) ∧ Sep w0 w' (chH g gi gm lv iv pt over B ++ (tp pt x :: As))) ∨
      (over = false ∧ x.off = false ∧ b.link y.1 = 0 ∧ (x.append b.rcd).2 = 0 ∧ r = .int .i64 0 ∧ ∃ lv' iv' vd, Sep w0 w' (chH g gi gm lv' iv' pt false (B ++ [(b, vd)]) ++ (tp pt (x.append b.rcd).1 :: ownB vd b.d :: As))) ∨
      (over = false ∧ x.off = false ∧ b.link y.1 = 0 ∧ (x.append b.rcd).2 ≠ 0 ∧ r = .int .i64 (x.append b.rcd).2 ∧ Sep w0 w' (chH g gi gm lv iv pt ((x.append b.rcd).2 == 5) B ++ (tp pt (x.append b.rcd).1 :: As))) := by
  refine s_chain_Chain_Accept fun R hR => ?_
  unfold c_chain_Chain_Accept
  have hrC : ∀ {z : World} {Bs : List Asn}, Sep w0 z (Bs ++ (chH g gi gm lv iv pt over B ++ (tp pt x :: As))) → ChR z.heap g gi lv iv (.map (some gm)) pt over B := fun {z Bs} hz => chH_rd hz.dropL (hD.sub fun A hA => List.mem_cons_of_mem _ hA)
  refine bxQ hs fun g3 w1 hs1 => ?_
  refine cal_i (cMay_spec (hrC (Bs := [_]) hs1)) ?_
  rintro _ _ ⟨rfl, rfl⟩
  cases over with
  | true =>
    rw [if_pos rfl]
    simp only [nilc_some, fad_mk, pik_true, pik_false, cnd_true, cnd_false, gif_same, gif_tf, gif_ft, gif_undef, bi_add, bi_sub, bi_mul, bi_eql, bi_neq, bi_lss, bi_leq, bi_gtr, bi_geq, notB_bool, cvi_int, lenS_mk, lenT_mk, ext0, ext1, ext2, nilP_mk, nilS_mk, fldv_agg, jn0_k, jn1_k, jn2_k, jn1_and, jn1_or, ex_some, Option.isNone_some, Option.isNone_none, Bool.false_bne, Bool.bne_true, Bool.bne_false, Bool.true_bne, Bool.not_true, Bool.not_false, Bool.and_true, Bool.true_and, Bool.and_false, Bool.false_and, Bool.or_true, Bool.true_or, Bool.or_false, Bool.false_or, cond_true, cond_false, List.getElem?_toArray, List.getElem?_cons_zero, List.getElem?_cons_succ, Nat.zero_add, Nat.add_zero, Nat.reduceAdd, forall_const, show ((5 : Int) != 0) = true from rfl]
    exact hR _ _ (.inl ⟨.inl rfl, rfl, hs1.tail⟩)
  | false =>
  rw [if_neg (by decide)]
  simp only [nilc_some, fad_mk, pik_true, pik_false, cnd_true, cnd_false, gif_same, gif_tf, gif_ft, gif_undef, bi_add, bi_sub, bi_mul, bi_eql, bi_neq, bi_lss, bi_leq, bi_gtr, bi_geq, notB_bool, cvi_int, lenS_mk, lenT_mk, ext0, ext1, ext2, nilP_mk, nilS_mk, fldv_agg, jn0_k, jn1_k, jn2_k, jn1_and, jn1_or, ex_some, Option.isNone_some, Option.isNone_none, Bool.false_bne, Bool.bne_true, Bool.bne_false, Bool.true_bne, Bool.not_true, Bool.not_false, Bool.and_true, Bool.true_and, Bool.and_false, Bool.false_and, Bool.or_true, Bool.true_or, Bool.or_false, Bool.false_or, cond_true, cond_false, List.getElem?_toArray, List.getElem?_cons_zero, List.getElem?_cons_succ, Nat.zero_add, Nat.add_zero, Nat.reduceAdd, forall_const, show ((0 : Int) != 0) = false from rfl, L_chain_Chain (Sep.blk hs1.p1), L_chain_Chain__in (Sep.blk hs1.p1), L_chain_Chain__l (Sep.blk hs1.p1), L_chain_Chain__ids (Sep.blk hs1.p1), L_chain_Chain__at (Sep.blk hs1.p1), L_chain_Chain__over (Sep.blk hs1.p1), L_chain_held (Sep.blk hs1.p2), L_chain_held__Tape (Sep.blk hs1.p2)]
  refine cal_i (tpOn_spec (Sep.pick hs1 [6] 7)) ?_
  rintro _ _ ⟨rfl, rfl⟩
  rw [hm]
  cases hoff : x.off with
  | true =>
    simp only [nilc_some, fad_mk, pik_true, pik_false, cnd_true, cnd_false, gif_same, gif_tf, gif_ft, gif_undef, bi_add, bi_sub, bi_mul, bi_eql, bi_neq, bi_lss, bi_leq, bi_gtr, bi_geq, notB_bool, cvi_int, lenS_mk, lenT_mk, ext0, ext1, ext2, nilP_mk, nilS_mk, fldv_agg, jn0_k, jn1_k, jn2_k, jn1_and, jn1_or, ex_some, Option.isNone_some, Option.isNone_none, Bool.false_bne, Bool.bne_true, Bool.bne_false, Bool.true_bne, Bool.not_true, Bool.not_false, Bool.and_true, Bool.true_and, Bool.and_false, Bool.false_and, Bool.or_true, Bool.true_or, Bool.or_false, Bool.false_or, cond_true, cond_false, List.getElem?_toArray, List.getElem?_cons_zero, List.getElem?_cons_succ, Nat.zero_add, Nat.add_zero, Nat.reduceAdd, forall_const]
    exact hR _ _ (.inl ⟨.inr hoff, rfl, hs1.tail⟩)
  | false =>
  simp only [nilc_some, fad_mk, pik_true, pik_false, cnd_true, cnd_false, gif_same, gif_tf, gif_ft, gif_undef, bi_add, bi_sub, bi_mul, bi_eql, bi_neq, bi_lss, bi_leq, bi_gtr, bi_geq, notB_bool, cvi_int, lenS_mk, lenT_mk, ext0, ext1, ext2, nilP_mk, nilS_mk, fldv_agg, jn0_k, jn1_k, jn2_k, jn1_and, jn1_or, ex_some, Option.isNone_some, Option.isNone_none, Bool.false_bne, Bool.bne_true, Bool.bne_false, Bool.true_bne, Bool.not_true, Bool.not_false, Bool.and_true, Bool.true_and, Bool.and_false, Bool.false_and, Bool.or_true, Bool.true_or, Bool.or_false, Bool.false_or, cond_true, cond_false, List.getElem?_toArray, List.getElem?_cons_zero, List.getElem?_cons_succ, Nat.zero_add, Nat.add_zero, Nat.reduceAdd, forall_const]
  refine drH_S hs1 fun w2 hs2 _ => ?_
  refine ⟨bq b v, fun u hu => (L_api_Block (Sep.blk hu) _).mpr rfl, ?_⟩
  refine efS_i (cal_i (cLast_spec (hrC (Bs := [_]) hs2) hy hn) ?_)
  rintro _ w3 ⟨rfl, hf3⟩
  have hs3 := hs2.old hf3
  refine ⟨hs3, ?_⟩
  refine efC_cal (cal_i (Linked_spec (a := b) (b := y.1) (hC.fr hs3.fr0) (hb _ (Sep.pick hs3 [] 7)) ((hrC (Bs := [_]) hs3).bw.2 y (List.mem_of_getElem? hy)) hyh hh) ?_)
  rintro _ w4 ⟨rfl, hf4⟩
  have hs4 := hs3.old hf4
  clear hs1 hs2 hs3
  simp only [nilc_some, fad_mk, pik_true, pik_false, cnd_true, cnd_false, gif_same, gif_tf, gif_ft, gif_undef, bi_add, bi_sub, bi_mul, bi_eql, bi_neq, bi_lss, bi_leq, bi_gtr, bi_geq, notB_bool, cvi_int, lenS_mk, lenT_mk, ext0, ext1, ext2, nilP_mk, nilS_mk, fldv_agg, jn0_k, jn1_k, jn2_k, jn1_and, jn1_or, ex_some, Option.isNone_some, Option.isNone_none, Bool.false_bne, Bool.bne_true, Bool.bne_false, Bool.true_bne, Bool.not_true, Bool.not_false, Bool.and_true, Bool.true_and, Bool.and_false, Bool.false_and, Bool.or_true, Bool.true_or, Bool.or_false, Bool.false_or, cond_true, cond_false, List.getElem?_toArray, List.getElem?_cons_zero, List.getElem?_cons_succ, Nat.zero_add, Nat.add_zero, Nat.reduceAdd, forall_const]
  rw [cnd_bool]
  refine ⟨fun h => ?_, fun h => ?_⟩
  · have h : b.link y.1 ≠ 0 := by simpa using h
    exact hR _ _ (.inr (.inl ⟨rfl, hoff, h, rfl, hs4.tail⟩))
  have hl0 : b.link y.1 = 0 := by simpa using h
  have hck := (link_chk hl0).1
  have hro : b.recO = b.rcd := if_pos hck
  simp only [L_api_Block hs4.blk, L_api_Block__Parent hs4.blk, L_api_Block__Height hs4.blk, L_api_Block__Data hs4.blk]
  refine cal_i (recBytes_spec (b := b) (v := v) (hC.fr hs4.fr0) (hb _ (Sep.pick hs4 [] 7)) hh) ?_
  rintro _ w5 ⟨s, rfl, hs5⟩
  replace hs5 := hs4.join hs5
  rw [hro] at hs5
  rw [hck]
  -- rec 0 · b 1 · c 2 · held 3 · l 4 · ids 5 · map 6 · tp 7
  have hrl : b.rcd.length ≤ 1000000 := by
    have := Blk.recO_le b
    rw [hro] at this
    omega
  simp only [nilc_some, fad_mk, pik_true, pik_false, cnd_true, cnd_false, gif_same, gif_tf, gif_ft, gif_undef, bi_add, bi_sub, bi_mul, bi_eql, bi_neq, bi_lss, bi_leq, bi_gtr, bi_geq, notB_bool, cvi_int, lenS_mk, lenT_mk, ext0, ext1, ext2, nilP_mk, nilS_mk, fldv_agg, jn0_k, jn1_k, jn2_k, jn1_and, jn1_or, ex_some, Option.isNone_some, Option.isNone_none, Bool.false_bne, Bool.bne_true, Bool.bne_false, Bool.true_bne, Bool.not_true, Bool.not_false, Bool.and_true, Bool.true_and, Bool.and_false, Bool.false_and, Bool.or_true, Bool.true_or, Bool.or_false, Bool.false_or, cond_true, cond_false, List.getElem?_toArray, List.getElem?_cons_zero, List.getElem?_cons_succ, Nat.zero_add, Nat.add_zero, Nat.reduceAdd, forall_const, show ((0 : Int) != 0) = false from rfl, L_chain_Chain (Sep.blk (Sep.pick hs5 [2] 3)), L_chain_Chain__in (Sep.blk (Sep.pick hs5 [2] 3)), L_chain_Chain__l (Sep.blk (Sep.pick hs5 [2] 3)), L_chain_Chain__ids (Sep.blk (Sep.pick hs5 [2] 3)), L_chain_Chain__at (Sep.blk (Sep.pick hs5 [2] 3)), L_chain_Chain__over (Sep.blk (Sep.pick hs5 [2] 3)), L_chain_held (Sep.blk (Sep.pick hs5 [3] 4)), L_chain_held__Tape (Sep.blk (Sep.pick hs5 [3] 4))]
  refine bldS1 hs5 hrl fun a w6 hs6 => ?_
  refine cal_i (app1_spec (Sep.pick hs6 [8, 0, 1, 2, 3, 4, 5, 6, 7] 9) hx hrl) ?_
  rintro _ w7 ⟨rfl, hs7⟩
  -- tp 0 · a 1 · rec 2 · b 3 · c 4 · held 5 · l 6 · ids 7 · map 8
  simp only [nilc_some, fad_mk, pik_true, pik_false, cnd_true, cnd_false, gif_same, gif_tf, gif_ft, gif_undef, bi_add, bi_sub, bi_mul, bi_eql, bi_neq, bi_lss, bi_leq, bi_gtr, bi_geq, notB_bool, cvi_int, lenS_mk, lenT_mk, ext0, ext1, ext2, nilP_mk, nilS_mk, fldv_agg, jn0_k, jn1_k, jn2_k, jn1_and, jn1_or, ex_some, Option.isNone_some, Option.isNone_none, Bool.false_bne, Bool.bne_true, Bool.bne_false, Bool.true_bne, Bool.not_true, Bool.not_false, Bool.and_true, Bool.true_and, Bool.and_false, Bool.false_and, Bool.or_true, Bool.true_or, Bool.or_false, Bool.false_or, cond_true, cond_false, List.getElem?_toArray, List.getElem?_cons_zero, List.getElem?_cons_succ, Nat.zero_add, Nat.add_zero, Nat.reduceAdd, forall_const]
  rw [cnd_bool]
  refine ⟨fun h => ?_, fun h => ?_⟩
  · have h : (x.append b.rcd).2 = 0 := by simpa using h
    simp only [L_api_Block (Sep.blk (Sep.pick hs7 [3] 4)), L_api_Block__Parent (Sep.blk (Sep.pick hs7 [3] 4)), L_api_Block__Height (Sep.blk (Sep.pick hs7 [3] 4)), L_api_Block__Data (Sep.blk (Sep.pick hs7 [3] 4))]
    refine cal_i (cAdd_spec (b := b) (v := v) (As := tp pt (x.append b.rcd).1 :: As) (Sep.pick hs7 [4, 5, 6, 7, 8, 0] 9) hC (fun z hz => hb z hz.tail) hh hck hn) ?_
    rintro _ w8 ⟨rfl, lv', iv', vd, hs8⟩
    rw [h]
    exact hR _ _ (.inr (.inr (.inl ⟨rfl, hoff, hl0, h, rfl, lv', iv', vd, Sep.pick hs8 [0, 1, 2, 3, 4, 6, 5] 7⟩)))
  have h : (x.append b.rcd).2 ≠ 0 := by simpa using h
  rw [cnd_bool]
  refine ⟨fun h5 => ?_, fun h5 => ?_⟩
  · refine St_chain_Chain__over (Sep.pick hs7 [4, 5, 6, 7, 8, 0] 9) fun w8 hs8 => ?_
    refine hR _ _ (.inr (.inr (.inr ⟨rfl, hoff, hl0, h, rfl, ?_⟩)))
    rw [h5]
    exact hs8
  · refine hR _ _ (.inr (.inr (.inr ⟨rfl, hoff, hl0, h, rfl, ?_⟩)))
    rw [h5]
    exact Sep.pick hs7 [4, 5, 6, 7, 8, 0] 9
theorem fldv_hgt (b : Blk) (v : Value) (K : Value → Prop) : fldv 32 1 false (bq b v) K = K (.int .i64 b.h) := by
  have hl : (bvs b.p.1).length = 32 := by rw [bvs_length]; exact b.p.2
  have ex : (Rdr.cells Q_api_Block (b.p, b.h, v)).toArray[32]? = some (.int .i64 b.h) := by
    show ((bvs b.p.1 ++ ([Value.int .i64 b.h] ++ [v])).toArray)[32]? = _
    rw [List.getElem?_toArray, List.getElem?_append_right (by omega), hl]
    rfl
  refine propext ⟨?_, fun hk => ⟨_, rfl, _, ex, hk⟩⟩
  rintro ⟨cs, hcs, u, hu, hk⟩
  cases hcs
  rw [ex] at hu
  cases hu
  exact hk
theorem cLastId_spec {y : BV} (hr : ChR w.heap g gi lv iv m pt over B) (hy : B[B.length - 1]? = some y) (hn : B.length ≤ 1000000) : cal P f_chain_Chain_Last [.pointer (some ⟨g, 0, none⟩)] w fun r w' => r = .tuple #[kv y.1.id, .int .i64 y.1.h] ∧ Fr [] w w' := by
  refine s_chain_Chain_Last fun R hR => ?_
  unfold c_chain_Chain_Last
  have hpos : 0 < B.length := by
    have := (List.getElem?_eq_some_iff.1 hy).1
    omega
  have hy' : (B.map (·.1.id))[B.length - 1]? = some y.1.id := by rw [List.getElem?_map, hy]; rfl
  refine alloc_s (Sep.start w) (A_api_ID w) fun g2 w1 hs1 => ?_
  refine cal_i (cNone_spec (hs1.ch hr)) ?_
  rintro _ _ ⟨rfl, rfl⟩
  simp only [nilc_some, fad_mk, pik_true, pik_false, cnd_true, cnd_false, gif_same, gif_tf, gif_ft, gif_undef, bi_add, bi_sub, bi_mul, bi_eql, bi_neq, bi_lss, bi_leq, bi_gtr, bi_geq, notB_bool, cvi_int, lenS_mk, lenT_mk, ext0, ext1, ext2, nilP_mk, nilS_mk, fldv_agg, jn0_k, jn1_k, jn2_k, jn1_and, jn1_or, ex_some, Option.isNone_some, Option.isNone_none, Bool.false_bne, Bool.bne_true, Bool.bne_false, Bool.true_bne, Bool.not_true, Bool.not_false, Bool.and_true, Bool.true_and, Bool.and_false, Bool.false_and, Bool.or_true, Bool.true_or, Bool.or_false, Bool.false_or, cond_true, cond_false, List.getElem?_toArray, List.getElem?_cons_zero, List.getElem?_cons_succ, Nat.zero_add, Nat.add_zero, Nat.reduceAdd, forall_const]
  refine drH_S hs1 fun w2 hs2 _ => ?_
  refine rdS_ld (v := iv) (fun u hu K hk => by obtain ⟨T, fr, hc⟩ := (hu.ch hr).cell; exact (L_chain_Chain__ids hc K).mpr hk) ?_
  refine rdS_ld (v := iv) (fun u hu K hk => by obtain ⟨T, fr, hc⟩ := (hu.ch hr).cell; exact (L_chain_Chain__ids hc K).mpr hk) ?_
  have hil := hr.iw.len (fun v => v = .int .i64 B.length)
  rw [List.length_map] at hil
  have hil2 : ∀ K, lenS iv K = K (.int .i64 B.length) := fun K => by
    have := hr.iw.len K
    rwa [List.length_map] at this
  rw [hil2]
  simp only [nilc_some, fad_mk, pik_true, pik_false, cnd_true, cnd_false, gif_same, gif_tf, gif_ft, gif_undef, bi_add, bi_sub, bi_mul, bi_eql, bi_neq, bi_lss, bi_leq, bi_gtr, bi_geq, notB_bool, cvi_int, lenS_mk, lenT_mk, ext0, ext1, ext2, nilP_mk, nilS_mk, fldv_agg, jn0_k, jn1_k, jn2_k, jn1_and, jn1_or, ex_some, Option.isNone_some, Option.isNone_none, Bool.false_bne, Bool.bne_true, Bool.bne_false, Bool.true_bne, Bool.not_true, Bool.not_false, Bool.and_true, Bool.true_and, Bool.and_false, Bool.false_and, Bool.or_true, Bool.true_or, Bool.or_false, Bool.false_or, cond_true, cond_false, List.getElem?_toArray, List.getElem?_cons_zero, List.getElem?_cons_succ, Nat.zero_add, Nat.add_zero, Nat.reduceAdd, forall_const]
  rw [wi64 (by omega) (by omega)]
  have e1 : (B.length : Int) - 1 = ((B.length - 1 : Nat) : Int) := by omega
  rw [e1]
  change ixs 32 _ _ _
  refine rdS_rowC (q := rVec 32) (by decide) hs2 (fun u hu => (hu.ch hr).iw) hy' .i64 ?_
  refine efS_i (cal_i (cLast_spec (hs2.ch hr) hy hn) ?_)
  rintro _ w3 ⟨rfl, hf3⟩
  have hs3 := hs2.old hf3
  refine ⟨hs3, ?_⟩
  change fldv _ _ _ _ _
  rw [fldv_hgt]
  refine efC_stN (St_api_ID (b := y.1.id) hs3 fun w4 hs4 => ?_)
  simp only [L_api_ID hs4.blk]
  exact hR _ _ ⟨rfl, hs4.fr0⟩
end
end Go.Fx
set_option linter.unusedVariables false
set_option linter.unusedSimpArgs false
namespace Go.Fx
/-- An iterator of n values: what it hands over at place i, and the memory that the receiver gets with it, are known by 'arg'; M: the memory that it looks at is as it was. -/
def IterG (P : Program) (g : Value) (M : Heap → Prop) (n : Nat) (arg : Nat → List Value → List Asn → Prop) : Prop :=
  ∃ gf cap, g = .func (.func gf) #[] cap ∧ callable P gf = true ∧ ∀ (y : Value) (w0 w : World) (J : Nat → List Asn → Prop) (X : List Asn → Prop) (As : List Asn), y.oneCell' = true → J 0 As → Sep w0 w As →
    (∀ i Bs Ls z, J i Bs → Sep w0 z (Bs ++ Ls) → M z.heap) →
    (∀ i args Es z Bs Ls, i < n → arg i args Es → J i Bs → Sep w0 z (Es ++ (Bs ++ Ls)) → calY P y args z fun r z' => (r = .bool true ∧ ∃ Cs, J (i + 1) Cs ∧ Sep w0 z' (Cs ++ Ls)) ∨ (r = .bool false ∧ ∃ Cs, X Cs ∧ Sep w0 z' (Cs ++ Ls))) →
    cal P gf (y :: cap.toList) w fun r z' => r = .tuple #[] ∧ ((∃ Cs, J n Cs ∧ Sep w0 z' Cs) ∨ ∃ Cs, X Cs ∧ Sep w0 z' Cs)
section
variable {w0 w w' : World} {As Bs : List Asn}
theorem rngG_s {P : Program} {g : Value} {M : Heap → Prop} {n k : Nat} {arg : Nat → List Value → List Asn → Prop} {rnd : List Value → World → (World → (World → Prop) → Prop) → (Option Code → World → Prop) → Prop}
    {out : Nat → List (Option Code × (World → Prop))} (hs : Sep w0 w As) (hit : IterG P g M n arg) (hk : ∀ i args Es, arg i args Es → args.length = k)
    (J : Nat → List Asn → Prop) (X : Code → List Asn → Prop) (h0 : J 0 As) (hM : ∀ i Bs Ls z, J i Bs → Sep w0 z (Bs ++ Ls) → M z.heap)
    (hrnd : ∀ (i : Nat) (args : List Value) (Es : List Asn) (z : World) (Bs LR LB : List Asn) (bg : World → (World → Prop) → Prop) (fin : Option Code → World → Prop), i < n → J i Bs → arg i args Es → Sep w0 z (Es ++ (Bs ++ LR)) →
      (∀ z' Cs K, Sep w0 z' (Cs ++ LR) → (∀ z'', Sep w0 z'' (Cs ++ LB) → K z'') → bg z' K) →
      (∀ z' Cs, J (i + 1) Cs → Sep w0 z' (Cs ++ LB) → fin none z') → (∀ j z' Cs, X j Cs → Sep w0 z' (Cs ++ LB) → fin (some j) z') → rnd args z bg fin)
    (hN : ∀ D Bs z, J n Bs → Sep w0 z (.obj D dfB :: Bs) → outL none z (out D)) (hX : ∀ D j Bs z, X j Bs → Sep w0 z (.obj D dfB :: Bs) → outL (some j) z (out D)) : rng P g k w rnd out := by
  obtain ⟨gf, cap, hg, hcal, hI⟩ := hit
  refine ⟨gf, cap, hg, hcal, fun y rec h1 hy => ?_⟩
  have swap2 : ∀ {z : World} {Cs : List Asn} {A B : Asn}, Sep w0 z (Cs ++ [A, B]) → Sep w0 z (A :: B :: Cs) := fun h => Sep.rot h
  have swap3 : ∀ {z : World} {Cs : List Asn} {A B : Asn}, Sep w0 z (A :: B :: Cs) → Sep w0 z (Cs ++ [A, B]) := fun {z Cs A B} h => Sep.rot (As := [A, B]) h
  -- the record at the head, and back
  have hd : ∀ {z : World} {Cs Ls : List Asn} {A : Asn}, Sep w0 z (Cs ++ (A :: Ls)) → Sep w0 z (A :: (Cs ++ Ls)) := fun h => h.perm List.perm_middle
  have bk : ∀ {z : World} {Cs Ls : List Asn} {A : Asn}, Sep w0 z (A :: (Cs ++ Ls)) → Sep w0 z (Cs ++ (A :: Ls)) := fun h => h.perm List.perm_middle.symm
  refine cal_i (hI y w0 _ (fun i Bs => ∃ Cs, J i Cs ∧ Bs = Cs ++ [.obj (w.heap.size + 1) (rec .ready none), .obj w.heap.size dfB])
    (fun Bs => ∃ j Cs, X j Cs ∧ Bs = Cs ++ [.obj (w.heap.size + 1) (rec .done (some j)), .obj w.heap.size dfB]) (As ++ [.obj (w.heap.size + 1) (rec .ready none), .obj w.heap.size dfB]) h1 ⟨As, h0, rfl⟩ (swap3 ?_) ?_ ?_) ?_
  · have h2 : Sep w0 (w.alloc dfB) (.obj w.heap.size dfB :: As) := hs.new (F' := [w.heap.size]) (fr_alloc w _) (B := .obj w.heap.size dfB) ⟨alloc_new w _, rfl⟩ (by simp)
    have e : (w.alloc dfB).heap.size = w.heap.size + 1 := by simp
    refine h2.new (F' := [w.heap.size + 1]) (fr_alloc _ _) (B := .obj (w.heap.size + 1) (rec .ready none)) ⟨?_, rfl⟩ (by simp)
    have := alloc_new (w.alloc dfB) (rec .ready none)
    rwa [e] at this
  · rintro i _ Ls z ⟨Cs, hJ, rfl⟩ hB
    rw [List.append_assoc] at hB
    exact hM i Cs _ z hJ hB
  · rintro i args Es z _ Ls hi harg ⟨Bs, hJ, rfl⟩ hB
    rw [List.append_assoc] at hB
    have hB2 := hB
    rw [← List.append_assoc] at hB2
    refine hy args z _ (hk i args Es harg) (hd hB2).objAt ?_
    refine hrnd i args Es z Bs _ (.obj (w.heap.size + 1) (rec .busy none) :: .obj w.heap.size dfB :: Ls) _ _ hi hJ harg hB ?_ ?_ ?_
    · intro z' Cs K hz hK
      exact ⟨(hd hz).objAt, hK _ (bk ((hd hz).objUpd _))⟩
    · intro z' Cs hC hz
      exact ⟨(hd hz).objAt, .inl ⟨rfl, _, ⟨Cs, hC, rfl⟩, by rw [List.append_assoc]; exact bk ((hd hz).objUpd _)⟩⟩
    · intro j z' Cs hC hz
      exact ⟨(hd hz).objAt, .inr ⟨rfl, _, ⟨j, Cs, hC, rfl⟩, by rw [List.append_assoc]; exact bk ((hd hz).objUpd _)⟩⟩
  · rintro v z ⟨-, ⟨_, ⟨Bs, hJ, rfl⟩, hB⟩ | ⟨_, ⟨j, Bs, hX', rfl⟩, hB⟩⟩
    · exact ⟨none, (swap2 hB).objAt, hN _ Bs _ hJ ((swap2 hB).objUpd _).tail⟩
    · exact ⟨some j, (swap2 hB).objAt, hX _ j Bs _ hX' ((swap2 hB).objUpd _).tail⟩
end
end Go.Fx
set_option linter.unusedVariables false
set_option linter.unusedSimpArgs false
namespace Go.Fx
section
variable {w0 w w' : World} {As : List Asn} {g gi gm : Nat} {lv iv m pt : Value} {over : Bool} {B : List BV} {x : Tp}
theorem clnI {v : Value} {l : List (Vec 32)} (hv : Rows' (rVec 32) w.heap v l) (hl : l.length ≤ 1000000) : cal P f_slices_Clone_api_ID_api_ID [v] w fun r w' => Sep w w' [rows (rVec 32) r l] := by
  refine s_slices_Clone_api_ID_api_ID fun R hR => ?_
  unfold c_slices_Clone_api_ID_api_ID
  obtain ⟨a, c, rfl, hl', hh⟩ := id hv
  cases a with
  | none =>
    have h0 : l = [] := by
      rcases hh with h0 | ⟨_, _, _, _, _, h, _⟩
      · refine List.eq_nil_of_length_eq_zero ?_
        have : (rVec 32).size = 32 := rfl
        rw [this] at h0
        omega
      · cases h
    subst h0
    simp only [nilc_some, fad_mk, pik_true, pik_false, cnd_true, cnd_false, gif_same, gif_tf, gif_ft, gif_undef, bi_add, bi_sub, bi_mul, bi_eql, bi_neq, bi_lss, bi_leq, bi_gtr, bi_geq, notB_bool, cvi_int, lenS_mk, lenT_mk, ext0, ext1, ext2, nilP_mk, nilS_mk, fldv_agg, jn0_k, jn1_k, jn2_k, jn1_and, jn1_or, ex_some, Option.isNone_some, Option.isNone_none, Bool.false_bne, Bool.bne_true, Bool.bne_false, Bool.true_bne, Bool.not_true, Bool.not_false, Bool.and_true, Bool.true_and, Bool.and_false, Bool.false_and, Bool.or_true, Bool.true_or, Bool.or_false, Bool.false_or, cond_true, cond_false, List.getElem?_toArray, List.getElem?_cons_zero, List.getElem?_cons_succ, Nat.zero_add, Nat.add_zero, Nat.reduceAdd, forall_const]
    exact hR _ _ (Sep.start w).nilR
  | some a =>
    simp only [nilc_some, fad_mk, pik_true, pik_false, cnd_true, cnd_false, gif_same, gif_tf, gif_ft, gif_undef, bi_add, bi_sub, bi_mul, bi_eql, bi_neq, bi_lss, bi_leq, bi_gtr, bi_geq, notB_bool, cvi_int, lenS_mk, lenT_mk, ext0, ext1, ext2, nilP_mk, nilS_mk, fldv_agg, jn0_k, jn1_k, jn2_k, jn1_and, jn1_or, ex_some, Option.isNone_some, Option.isNone_none, Bool.false_bne, Bool.bne_true, Bool.bne_false, Bool.true_bne, Bool.not_true, Bool.not_false, Bool.and_true, Bool.true_and, Bool.and_false, Bool.false_and, Bool.or_true, Bool.true_or, Bool.or_false, Bool.false_or, cond_true, cond_false, List.getElem?_toArray, List.getElem?_cons_zero, List.getElem?_cons_succ, Nat.zero_add, Nat.add_zero, Nat.reduceAdd, forall_const]
    have hb1 : ∀ w : World, (Instr.buildSlice T_sl_api_ID 0 #[]).run P w = .ok (.slice (some ⟨w.heap.size, 0, none⟩) 0 0) (w.alloc (.cells ([] : List Value).toArray T_api_ID)) := fun w => by kernel_rfl
    refine build_s (size := 32) (Sep.start w) (cs := []) rfl (hb1 w) fun g w1 hs1 => ?_
    replace hs1 : Sep w w1 [rows (rVec 32) (.slice (some ⟨g, 0, none⟩) 0 0) []] := hs1
    refine rows_app S_sl_api_ID U_sl_api_ID (by simp) hs1 (hv.fr hs1.fr0) ?_ (by simp; omega) (by simp; omega) fun v8 w8 hs8 => ?_
    · intro u hu
      obtain ⟨x, hx, hu⟩ := List.mem_flatMap.1 hu
      exact oneVec u hu
    · exact hR _ _ (by simpa using hs8)
theorem clnB {v : Value} (hv : BRows w.heap v B) (hl : B.length ≤ 1000000) : cal P f_slices_Clone_api_Block_api_Block [v] w fun r w' => Sep w w' [rows Q_api_Block r (B.map BV.t)] := by
  refine s_slices_Clone_api_Block_api_Block fun R hR => ?_
  unfold c_slices_Clone_api_Block_api_Block
  have hv1 := hv.1
  obtain ⟨a, c, rfl, hl', hh⟩ := id hv1
  cases a with
  | none =>
    have h0 : B = [] := by
      rcases hh with h0 | ⟨_, _, _, _, _, h, _⟩
      · refine List.eq_nil_of_length_eq_zero ?_
        have : (Q_api_Block).size = 34 := rfl
        rw [this, List.length_map] at h0
        omega
      · cases h
    subst h0
    simp only [nilc_some, fad_mk, pik_true, pik_false, cnd_true, cnd_false, gif_same, gif_tf, gif_ft, gif_undef, bi_add, bi_sub, bi_mul, bi_eql, bi_neq, bi_lss, bi_leq, bi_gtr, bi_geq, notB_bool, cvi_int, lenS_mk, lenT_mk, ext0, ext1, ext2, nilP_mk, nilS_mk, fldv_agg, jn0_k, jn1_k, jn2_k, jn1_and, jn1_or, ex_some, Option.isNone_some, Option.isNone_none, Bool.false_bne, Bool.bne_true, Bool.bne_false, Bool.true_bne, Bool.not_true, Bool.not_false, Bool.and_true, Bool.true_and, Bool.and_false, Bool.false_and, Bool.or_true, Bool.true_or, Bool.or_false, Bool.false_or, cond_true, cond_false, List.getElem?_toArray, List.getElem?_cons_zero, List.getElem?_cons_succ, Nat.zero_add, Nat.add_zero, Nat.reduceAdd, forall_const]
    exact hR _ _ (Sep.start w).nilR
  | some a =>
    simp only [nilc_some, fad_mk, pik_true, pik_false, cnd_true, cnd_false, gif_same, gif_tf, gif_ft, gif_undef, bi_add, bi_sub, bi_mul, bi_eql, bi_neq, bi_lss, bi_leq, bi_gtr, bi_geq, notB_bool, cvi_int, lenS_mk, lenT_mk, ext0, ext1, ext2, nilP_mk, nilS_mk, fldv_agg, jn0_k, jn1_k, jn2_k, jn1_and, jn1_or, ex_some, Option.isNone_some, Option.isNone_none, Bool.false_bne, Bool.bne_true, Bool.bne_false, Bool.true_bne, Bool.not_true, Bool.not_false, Bool.and_true, Bool.true_and, Bool.and_false, Bool.false_and, Bool.or_true, Bool.true_or, Bool.or_false, Bool.false_or, cond_true, cond_false, List.getElem?_toArray, List.getElem?_cons_zero, List.getElem?_cons_succ, Nat.zero_add, Nat.add_zero, Nat.reduceAdd, forall_const]
    have hb1 : ∀ w : World, (Instr.buildSlice T_sl_api_Block 0 #[]).run P w = .ok (.slice (some ⟨w.heap.size, 0, none⟩) 0 0) (w.alloc (.cells ([] : List Value).toArray T_api_Block)) := fun w => by kernel_rfl
    refine build_s (size := 34) (Sep.start w) (cs := []) rfl (hb1 w) fun g w1 hs1 => ?_
    replace hs1 : Sep w w1 [rows Q_api_Block (.slice (some ⟨g, 0, none⟩) 0 0) []] := hs1
    refine rows_app S_sl_api_Block U_sl_api_Block (by simp) hs1 (hv1.fr hs1.fr0) ?_ (by simp; omega) (by simp; omega) fun v8 w8 hs8 => ?_
    · intro u hu
      obtain ⟨x, hx, hu⟩ := List.mem_flatMap.1 hu
      obtain ⟨y, hy, rfl⟩ := List.mem_map.1 hx
      exact one_api_Block (hv.2 y hy).one u hu
    · exact hR _ _ (by simpa using hs8)
theorem al_slB (w : World) : (Instr.alloc T_sl_api_Block true (.tuple #[])).run P w = .ok (.pointer (some ⟨w.heap.size, 0, none⟩)) (w.alloc (.cells #[.slice none 0 0] T_sl_api_Block)) := by kernel_rfl
theorem al_slI (w : World) : (Instr.alloc T_sl_api_ID true (.tuple #[])).run P w = .ok (.pointer (some ⟨w.heap.size, 0, none⟩)) (w.alloc (.cells #[.slice none 0 0] T_sl_api_ID)) := by kernel_rfl
theorem cAll_spec (hr : ChR w.heap g gi lv iv m pt over B) (hn : B.length ≤ 1000000) : cal P f_chain_Chain_All [.pointer (some ⟨g, 0, none⟩)] w fun r w' => ∃ (g3 g4 : Nat) (u y : Value), r = .func (.func f_chain_Chain_All_1) #[] #[.pointer (some ⟨g3, 0, none⟩), .pointer (some ⟨g4, 0, none⟩)] ∧
    Sep w w' [blk g3 #[u] T_sl_api_Block, blk g4 #[y] T_sl_api_ID, rows Q_api_Block u (B.map BV.t), rows (rVec 32) y (B.map (·.1.id))] := by
  refine s_chain_Chain_All fun R hR => ?_
  unfold c_chain_Chain_All
  refine alloc_s (Sep.start w) (al_slB w) fun g3 w1 hs1 => ?_
  refine alloc_s hs1 (al_slI w1) fun g4 w2 hs2 => ?_
  refine ⟨fun z => ∃ u y, Sep w z [blk g3 #[u] T_sl_api_Block, blk g4 #[y] T_sl_api_ID, rows Q_api_Block u (B.map BV.t), rows (rVec 32) y (B.map (·.1.id))], ?_, fun z ⟨u, y, hz⟩ _ => hR _ _ ⟨g3, g4, u, y, rfl, hz⟩⟩
  refine cal_i (cNone_spec (hs2.ch hr)) ?_
  rintro _ _ ⟨rfl, rfl⟩
  simp only [nilc_some, fad_mk, pik_true, pik_false, cnd_true, cnd_false, gif_same, gif_tf, gif_ft, gif_undef, bi_add, bi_sub, bi_mul, bi_eql, bi_neq, bi_lss, bi_leq, bi_gtr, bi_geq, notB_bool, cvi_int, lenS_mk, lenT_mk, ext0, ext1, ext2, nilP_mk, nilS_mk, fldv_agg, jn0_k, jn1_k, jn2_k, jn1_and, jn1_or, ex_some, Option.isNone_some, Option.isNone_none, Bool.false_bne, Bool.bne_true, Bool.bne_false, Bool.true_bne, Bool.not_true, Bool.not_false, Bool.and_true, Bool.true_and, Bool.and_false, Bool.false_and, Bool.or_true, Bool.true_or, Bool.or_false, Bool.false_or, cond_true, cond_false, List.getElem?_toArray, List.getElem?_cons_zero, List.getElem?_cons_succ, Nat.zero_add, Nat.add_zero, Nat.reduceAdd, forall_const]
  refine drH_S hs2 fun w3 hs3 _ => ?_
  refine rdS_ld (v := lv) (fun u hu K hk => by obtain ⟨T, fr, hc⟩ := (hu.ch hr).cell; exact (L_chain_Chain__l hc K).mpr hk) ?_
  refine rdS_ld (v := iv) (fun u hu K hk => by obtain ⟨T, fr, hc⟩ := (hu.ch hr).cell; exact (L_chain_Chain__ids hc K).mpr hk) ?_
  refine efS_i (cal_i (clnB (hs3.ch hr).bw hn) ?_)
  rintro u w4 hs4
  replace hs4 := hs3.join hs4
  refine ⟨hs4.tail, ?_⟩
  refine efC_cal (cal_i (clnI (hs4.ch hr).iw (by simpa using hn)) ?_)
  rintro y w5 hs5
  replace hs5 := hs4.join hs5
  -- ids 0 · l 1 · g4 2 · g3 3
  refine efC_st1 (st1_s (Sep.pick hs5 [3, 0, 1, 2] 4) (by simp) (Sep.oneR hs5.p1) fun w6 hs6 => ?_)
  -- g3 0 · ids 1 · l 2 · g4 3
  refine efC_st1 (st1_s (Sep.pick hs6 [3, 0, 1, 2] 4) (by simp) (Sep.oneR hs6.p1) fun w7 hs7 => ?_)
  exact ⟨u, y, Sep.pick hs7 [1, 0, 3, 2] 4⟩
def argB (B : List BV) (i : Nat) (_ : World) (args : List Value) : Prop := ∃ x, B[i]? = some x ∧ args = [.int .i64 (i : Nat), bq x.1 x.2]
theorem sall_iter {v : Value} {g1 : Nat} (hl : B.length ≤ 1000000) : Iter P (.func (.func f_slices_All_api_Block_api_Block_1) #[] #[.pointer (some ⟨g1, 0, none⟩)])
    (fun h => (∃ T fr, h[g1]? = some (.cells #[v] T fr)) ∧ BRows h v B) B.length (argB B) := by
  refine ⟨_, _, rfl, by kernel_rfl, fun y w0 w J X As h1 h0 hs hM hst => ?_⟩
  show cal P f_slices_All_api_Block_api_Block_1 [y, .pointer (some ⟨g1, 0, none⟩)] w _
  refine s_slices_All_api_Block_api_Block_1 fun R hR => ?_
  unfold c_slices_All_api_Block_api_Block_1
  obtain ⟨⟨T, fr, hc⟩, hv⟩ := hM 0 As [] w h0 (by rwa [List.append_nil])
  refine ld1_i (v := v) hc rfl ?_
  rw [hv.len]
  refine ⟨fun t z => ∃ (i : Nat) (Bs : List Asn), t = .int .i64 i ∧ i ≤ B.length ∧ J i Bs ∧ Sep w0 z Bs, fun t _ => (B.length - RowKit.intOf t).toNat, ⟨0, As, rfl, by omega, h0, hs⟩, ?_⟩
  rintro _ z ⟨i, Bs, rfl, hi, hJ, hz⟩ -
  simp only [nilc_some, fad_mk, pik_true, pik_false, cnd_true, cnd_false, gif_same, gif_tf, gif_ft, gif_undef, bi_add, bi_sub, bi_mul, bi_eql, bi_neq, bi_lss, bi_leq, bi_gtr, bi_geq, notB_bool, cvi_int, lenS_mk, lenT_mk, ext0, ext1, ext2, nilP_mk, nilS_mk, fldv_agg, jn0_k, jn1_k, jn2_k, jn1_and, jn1_or, ex_some, Option.isNone_some, Option.isNone_none, Bool.false_bne, Bool.bne_true, Bool.bne_false, Bool.true_bne, Bool.not_true, Bool.not_false, Bool.and_true, Bool.true_and, Bool.and_false, Bool.false_and, Bool.or_true, Bool.true_or, Bool.or_false, Bool.false_or, cond_true, cond_false, List.getElem?_toArray, List.getElem?_cons_zero, List.getElem?_cons_succ, Nat.zero_add, Nat.add_zero, Nat.reduceAdd, forall_const]
  rw [cnd_bool]
  refine ⟨fun h => ?_, fun h => ?_⟩
  · have hlt : i < B.length := by simp at h; omega
    obtain ⟨x, hx⟩ : ∃ x, B[i]? = some x := ⟨_, List.getElem?_eq_getElem hlt⟩
    have hv' := (hM i Bs [] z hJ (by rwa [List.append_nil])).2
    change ixs 34 _ _ _
    refine BRows.ld hv' hx .i64 ?_
    refine alloc_s hz (A_api_Block z) fun g4 z1 hz1 => ?_
    refine St_api_Block (b := x.t) hz1 (one_api_Block (hv'.2 x (List.mem_of_getElem? hx)).one) fun z2 hz2 => ?_
    simp only [L_api_Block hz2.blk, L_api_Block__Parent hz2.blk, L_api_Block__Height hz2.blk, L_api_Block__Data hz2.blk]
    refine calY_i (hst i [.int .i64 i, bq x.1 x.2] z2 Bs _ hlt ⟨x, hx, rfl⟩ hJ (Sep.rot (As := [_]) hz2)) ?_
    rintro r z' (⟨rfl, Cs, hJ', hz'⟩ | ⟨rfl, Cs, hX', hz'⟩)
    · simp only [nilc_some, fad_mk, pik_true, pik_false, cnd_true, cnd_false, gif_same, gif_tf, gif_ft, gif_undef, bi_add, bi_sub, bi_mul, bi_eql, bi_neq, bi_lss, bi_leq, bi_gtr, bi_geq, notB_bool, cvi_int, lenS_mk, lenT_mk, ext0, ext1, ext2, nilP_mk, nilS_mk, fldv_agg, jn0_k, jn1_k, jn2_k, jn1_and, jn1_or, ex_some, Option.isNone_some, Option.isNone_none, Bool.false_bne, Bool.bne_true, Bool.bne_false, Bool.true_bne, Bool.not_true, Bool.not_false, Bool.and_true, Bool.true_and, Bool.and_false, Bool.false_and, Bool.or_true, Bool.true_or, Bool.or_false, Bool.false_or, cond_true, cond_false, List.getElem?_toArray, List.getElem?_cons_zero, List.getElem?_cons_succ, Nat.zero_add, Nat.add_zero, Nat.reduceAdd, forall_const]
      rw [wi64 (by omega) (by omega)]
      exact ⟨⟨i + 1, Cs, by simp, by omega, hJ', hz'.dropR⟩, by simp [RowKit.intOf]; omega⟩
    · simp only [nilc_some, fad_mk, pik_true, pik_false, cnd_true, cnd_false, gif_same, gif_tf, gif_ft, gif_undef, bi_add, bi_sub, bi_mul, bi_eql, bi_neq, bi_lss, bi_leq, bi_gtr, bi_geq, notB_bool, cvi_int, lenS_mk, lenT_mk, ext0, ext1, ext2, nilP_mk, nilS_mk, fldv_agg, jn0_k, jn1_k, jn2_k, jn1_and, jn1_or, ex_some, Option.isNone_some, Option.isNone_none, Bool.false_bne, Bool.bne_true, Bool.bne_false, Bool.true_bne, Bool.not_true, Bool.not_false, Bool.and_true, Bool.true_and, Bool.and_false, Bool.false_and, Bool.or_true, Bool.true_or, Bool.or_false, Bool.false_or, cond_true, cond_false, List.getElem?_toArray, List.getElem?_cons_zero, List.getElem?_cons_succ, Nat.zero_add, Nat.add_zero, Nat.reduceAdd, forall_const]
      exact hR _ _ ⟨rfl, .inr ⟨Cs, hX', hz'.dropR⟩⟩
  · have hge : i = B.length := by simp at h; omega
    subst hge
    exact hR _ _ ⟨rfl, .inl ⟨Bs, hJ, hz⟩⟩
theorem sAll_spec {v : Value} (hv1 : v.oneCell' = true) : cal P f_slices_All_api_Block_api_Block [v] w fun r w' => ∃ g1, r = .func (.func f_slices_All_api_Block_api_Block_1) #[] #[.pointer (some ⟨g1, 0, none⟩)] ∧ Sep w w' [blk g1 #[v] T_sl_api_Block] := by
  refine s_slices_All_api_Block_api_Block fun R hR => ?_
  unfold c_slices_All_api_Block_api_Block
  refine bx_s (Sep.start w) fun g1 w1 hs1 => ?_
  have ev : v.cells = #[v] := by cases v <;> simp_all [Value.cells, Value.oneCell']
  rw [ev] at hs1
  exact hR _ _ ⟨g1, rfl, hs1⟩
/-- What a chain hands over: a name and a block with memory of its own. -/
def argC (B : List BV) (i : Nat) (args : List Value) (Es : List Asn) : Prop := ∃ x vd, B[i]? = some x ∧ args = [kv x.1.id, bq x.1 vd] ∧ Es = [ownB vd x.1.d]
def MC (g3 g4 : Nat) (u y : Value) (B : List BV) (h : Heap) : Prop := (∃ T fr, h[g3]? = some (.cells #[u] T fr)) ∧ (∃ T fr, h[g4]? = some (.cells #[y] T fr)) ∧ BRows h u B ∧ Rows' (rVec 32) h y (B.map (·.1.id))
theorem all1_iter {lv iv : Value} {g3 g4 : Nat} (hl : B.length ≤ 1000000) (hv1 : lv.oneCell' = true) (hdl : ∀ x ∈ B, x.1.d.length ≤ 100000) :
    IterG P (.func (.func f_chain_Chain_All_1) #[] #[.pointer (some ⟨g3, 0, none⟩), .pointer (some ⟨g4, 0, none⟩)]) (MC g3 g4 lv iv B) B.length (argC B) := by
  refine ⟨_, _, rfl, by kernel_rfl, fun y w0 w J X As h1 h0 hs hM hst => ?_⟩
  show cal P f_chain_Chain_All_1 [y, .pointer (some ⟨g3, 0, none⟩), .pointer (some ⟨g4, 0, none⟩)] w _
  refine s_chain_Chain_All_1 fun R hR => ?_
  unfold c_chain_Chain_All_1
  refine bx_s hs fun g2 w1 hs1 => ?_
  have ey : y.cells = #[y] := by cases y <;> simp_all [Value.cells, Value.oneCell']
  rw [ey] at hs1
  obtain ⟨⟨T, fr, hc⟩, _, hv, _⟩ := hM 0 As [blk g2 #[y] T_func_api_ID_api_Block_bool] w1 h0 (Sep.rot (As := [_]) hs1)
  refine ld1_i (v := lv) hc rfl ?_
  refine cal_i (sAll_spec hv1) ?_
  rintro _ w2 ⟨g1, rfl, hs2⟩
  replace hs2 := hs1.join hs2
  have perm : ∀ {z : World} {Cs Ls : List Asn} {A B : Asn}, Sep w0 z ((A :: B :: Cs) ++ Ls) → Sep w0 z (Cs ++ (A :: B :: Ls)) := fun {z Cs Ls A B} h => h.perm (by
    show (A :: B :: (Cs ++ Ls)).Perm _
    exact ((List.perm_middle (l₁ := Cs) (l₂ := Ls) (a := B)).symm.cons A).trans (List.perm_middle (l₁ := Cs) (l₂ := B :: Ls) (a := A)).symm)
  have perm' : ∀ {z : World} {Cs Ls : List Asn} {A B : Asn}, Sep w0 z (Cs ++ (A :: B :: Ls)) → Sep w0 z ((A :: B :: Cs) ++ Ls) := fun {z Cs Ls A B} h => h.perm (by
    show (Cs ++ (A :: B :: Ls)).Perm (A :: B :: (Cs ++ Ls))
    exact (List.perm_middle (l₁ := Cs) (l₂ := B :: Ls) (a := A)).trans ((List.perm_middle (l₁ := Cs) (l₂ := Ls) (a := B)).cons A))
  refine rng_s (As := blk g1 #[lv] T_sl_api_Block :: blk g2 #[y] T_func_api_ID_api_Block_bool :: As) hs2 (sall_iter (v := lv) (g1 := g1) hl) (fun i z args ⟨x, _, h⟩ => by rw [h]; rfl)
    (fun i Bs => ∃ Cs, J i Cs ∧ Bs = blk g1 #[lv] T_sl_api_Block :: blk g2 #[y] T_func_api_ID_api_Block_bool :: Cs) (fun c Bs => c = .ret ∧ ∃ Cs, X Cs ∧ Bs = blk g1 #[lv] T_sl_api_Block :: blk g2 #[y] T_func_api_ID_api_Block_bool :: Cs) ⟨As, h0, rfl⟩ ?_ ?_ ?_ ?_
  · rintro i _ Ls z ⟨Cs, hJ, rfl⟩ hz
    exact ⟨⟨_, _, Sep.blk hz⟩, (hM i Cs _ z hJ (perm hz)).2.2.1⟩
  · rintro i _ z _ LR LB bg fin hi ⟨Cs, hJ, rfl⟩ ⟨x, hx, rfl⟩ hz hbg hfn hfx
    have hx' : (B.map (·.1.id))[i]? = some x.1.id := by rw [List.getElem?_map, hx]; rfl
    have hxo := (((hM i Cs _ z hJ (perm hz)).2.2.1).2 x (List.mem_of_getElem? hx)).one
    refine alloc_s hz (A_api_Block z) fun g5 z1 hz1 => ?_
    simp only [List.getD_cons_zero, List.getD_cons_succ]
    refine St_api_Block (b := x.t) hz1 (one_api_Block hxo) fun z2 hz2 => ?_
    refine hbg z2 (blk g5 (Rdr.cells Q_api_Block x.t).toArray T_api_Block :: blk g1 #[lv] T_sl_api_Block :: blk g2 #[y] T_func_api_ID_api_Block_bool :: Cs) _ hz2 fun z3 hz3 => ?_
    have hmM : ∀ {u : World}, Sep w0 u (blk g5 (Rdr.cells Q_api_Block x.t).toArray T_api_Block :: ((blk g1 #[lv] T_sl_api_Block :: blk g2 #[y] T_func_api_ID_api_Block_bool :: Cs) ++ LB)) → MC g3 g4 lv iv B u.heap := fun hu => hM i Cs _ _ hJ (perm hu.tail)
    replace hz3 : Sep w0 z3 (blk g5 (Rdr.cells Q_api_Block x.t).toArray T_api_Block :: ((blk g1 #[lv] T_sl_api_Block :: blk g2 #[y] T_func_api_ID_api_Block_bool :: Cs) ++ LB)) := hz3
    refine drH_S hz3 fun z4 hz4 _ => ?_
    refine rdS_ld (v := y) (fun u hu K hk => ld1_i (v := y) (Sep.blk (Sep.p1 hu.tail)) rfl hk) ?_
    refine rdS_ld (v := iv) (fun u hu K hk => by obtain ⟨_, ⟨T, fr, hc⟩, _⟩ := hmM hu; exact ld1_i (v := iv) hc rfl hk) ?_
    refine rdS_rowC (q := rVec 32) (by decide) hz4 (fun u hu => (hmM hu).2.2.2) hx' .i64 ?_
    refine ⟨bq x.1 x.2, fun u hu => (L_api_Block (Sep.blk hu) _).mpr rfl, ?_⟩
    refine efS_i (cal_i (bkClone_spec (b := x.1) (v := x.2) ((hmM hz4).2.2.1.2 x (List.mem_of_getElem? hx)) (by have := hdl x (List.mem_of_getElem? hx); omega)) ?_)
    rintro _ z5 ⟨vd, rfl, hz5⟩
    replace hz5 := hz4.join hz5
    refine ⟨hz5.tail, ?_⟩
    -- own 0 · g5 1 · g1 2 · g2 3 · Cs
    have hz6 : Sep w0 z5 ([ownB vd x.1.d] ++ (Cs ++ (blk g1 #[lv] T_sl_api_Block :: blk g2 #[y] T_func_api_ID_api_Block_bool :: LB))) := by
      refine Sep.perm (Sep.pick hz5 [0, 2, 3] 4) ?_
      refine List.Perm.cons _ ?_
      exact ((List.perm_middle (l₁ := Cs) (l₂ := LB) (a := blk g2 #[y] T_func_api_ID_api_Block_bool)).symm.cons _).trans (List.perm_middle (l₁ := Cs) (l₂ := _ :: LB) (a := blk g1 #[lv] T_sl_api_Block)).symm
    refine calY_i (hst i [kv x.1.id, bq x.1 vd] _ z5 Cs _ hi ⟨x, vd, hx, rfl, rfl⟩ hJ hz6) ?_
    rintro r z' (⟨rfl, Cs', hJ', hz'⟩ | ⟨rfl, Cs', hX', hz'⟩)
    · simp only [nilc_some, fad_mk, pik_true, pik_false, cnd_true, cnd_false, gif_same, gif_tf, gif_ft, gif_undef, bi_add, bi_sub, bi_mul, bi_eql, bi_neq, bi_lss, bi_leq, bi_gtr, bi_geq, notB_bool, cvi_int, lenS_mk, lenT_mk, ext0, ext1, ext2, nilP_mk, nilS_mk, fldv_agg, jn0_k, jn1_k, jn2_k, jn1_and, jn1_or, ex_some, Option.isNone_some, Option.isNone_none, Bool.false_bne, Bool.bne_true, Bool.bne_false, Bool.true_bne, Bool.not_true, Bool.not_false, Bool.and_true, Bool.true_and, Bool.and_false, Bool.false_and, Bool.or_true, Bool.true_or, Bool.or_false, Bool.false_or, cond_true, cond_false, List.getElem?_toArray, List.getElem?_cons_zero, List.getElem?_cons_succ, Nat.zero_add, Nat.add_zero, Nat.reduceAdd, forall_const]
      exact hfn z' _ ⟨Cs', hJ', rfl⟩ (perm' hz')
    · simp only [nilc_some, fad_mk, pik_true, pik_false, cnd_true, cnd_false, gif_same, gif_tf, gif_ft, gif_undef, bi_add, bi_sub, bi_mul, bi_eql, bi_neq, bi_lss, bi_leq, bi_gtr, bi_geq, notB_bool, cvi_int, lenS_mk, lenT_mk, ext0, ext1, ext2, nilP_mk, nilS_mk, fldv_agg, jn0_k, jn1_k, jn2_k, jn1_and, jn1_or, ex_some, Option.isNone_some, Option.isNone_none, Bool.false_bne, Bool.bne_true, Bool.bne_false, Bool.true_bne, Bool.not_true, Bool.not_false, Bool.and_true, Bool.true_and, Bool.and_false, Bool.false_and, Bool.or_true, Bool.true_or, Bool.or_false, Bool.false_or, cond_true, cond_false, List.getElem?_toArray, List.getElem?_cons_zero, List.getElem?_cons_succ, Nat.zero_add, Nat.add_zero, Nat.reduceAdd, forall_const]
      exact hfx _ z' _ ⟨rfl, Cs', hX', rfl⟩ (perm' hz')
  · rintro D _ z ⟨Cs, hJ, rfl⟩ hz
    exact .inl ⟨rfl, takeD_s hz fun w' hw' => hR _ _ ⟨rfl, .inl ⟨Cs, hJ, hw'.tail.tail⟩⟩⟩
  · rintro D _ _ z ⟨rfl, Cs, hX', rfl⟩ hz
    exact .inr (.inl ⟨rfl, takeD_s hz fun w' hw' => hR _ _ ⟨rfl, .inr ⟨Cs, hX', hw'.tail.tail⟩⟩⟩)
end
end Go.Fx
set_option linter.unusedVariables false
set_option linter.unusedSimpArgs false
namespace Go.Fx
section
variable {w0 w w' : World} {As : List Asn} {g gi gm : Nat} {lv iv m pt : Value} {over : Bool} {B : List BV} {x : Tp}
/-- A row of the law's list. -/
def nmd (x : BV) : Vec 32 × Vec 32 × Int × Value := (x.1.id, x.t)
theorem nilFnC {f : FuncId} {cap : Array Value} {w : World} (K : Value → Prop) : rdP P (eqS .eql T_iter_Seq2_api_ID_api_Block (.tmp 11) (.const Value.nilFunc) (.func (.func f) #[] cap) Value.nilFunc) w K = K (.bool false) := rdP_eq (by kernel_rfl) K
theorem nBld {y : BV} {K : Value → World → Prop} {Bs : List Asn} (hs : Sep w0 w Bs) (hk : ∀ a z, Sep w0 z (rows Q_flurrylaw10_named a [nmd y] :: Bs) → K a z) : efP P (Instr.buildSlice T_sl_flurrylaw10_named 1 #[(0, .agg (Rdr.cells Q_flurrylaw10_named (nmd y)).toArray)]) w K :=
  rows_lit (q := Q_flurrylaw10_named) hs S_sl_flurrylaw10_named (l := [nmd y]) (V := fun a => .agg (Rdr.cells Q_flurrylaw10_named a).toArray) (fun a => rfl) rfl rfl (by decide) (by decide) fun g7 w7 hs7 => hk _ _ hs7
theorem nApp {y : BV} {u a : Value} {N : List BV} {K : Value → World → Prop} {Bs : List Asn} (hs : Sep w0 w (rows Q_flurrylaw10_named u (N.map nmd) :: Bs)) (ha : Rows' Q_flurrylaw10_named w.heap a [nmd y]) (h1 : y.2.oneCell' = true) (hl : N.length ≤ 1000000)
    (hk : ∀ u' z, Sep w0 z (rows Q_flurrylaw10_named u' ((N ++ [y]).map nmd) :: Bs) → K u' z) : efP P (Builtin.append_ #[T_sl_flurrylaw10_named, T_sl_flurrylaw10_named] T_sl_flurrylaw10_named #[u, a]) w K :=
  rows_app (q := Q_flurrylaw10_named) S_sl_flurrylaw10_named U_sl_flurrylaw10_named (by simp) hs ha (by simp only [List.flatMap_cons, List.flatMap_nil, List.append_nil]; exact one_flurrylaw10_named (a := nmd y) h1) (by simp; omega) (by simp; omega) fun v8 w8 hs8 => hk _ _ (by
    have e : (N ++ [y]).map nmd = N.map nmd ++ [nmd y] := by simp
    rw [e]; exact hs8)
theorem al_slN (w : World) : (Instr.alloc T_sl_flurrylaw10_named true (.tuple #[])).run P w = .ok (.pointer (some ⟨w.heap.size, 0, none⟩)) (w.alloc (.cells #[.slice none 0 0] T_sl_flurrylaw10_named)) := by kernel_rfl
theorem told10_gen {p : Value} {most : Nat} (hall : ∀ z, Fr [] w z → cal P f_chain_Chain_All [p] z fun r w' => ∃ (g3 g4 : Nat) (u y : Value), r = .func (.func f_chain_Chain_All_1) #[] #[.pointer (some ⟨g3, 0, none⟩), .pointer (some ⟨g4, 0, none⟩)] ∧
    Sep z w' [blk g3 #[u] T_sl_api_Block, blk g4 #[y] T_sl_api_ID, rows Q_api_Block u (B.map BV.t), rows (rVec 32) y (B.map (·.1.id))]) (hrd : ∀ x ∈ B, RdB w.heap x.2 x.1.d) (hn : B.length ≤ 1000000) (hdl : ∀ x ∈ B, x.1.d.length ≤ 100000) (hm : most ≤ 2000000) :
    cal P f_law10_told [p, .int .i64 most] w fun r w' => ∃ N E, blks N = (blks B).take most ∧ DatB N E ∧ Sep w w' (rows Q_flurrylaw10_named r (N.map nmd) :: E) := by
  refine s_law10_told fun R hR => ?_
  unfold c_law10_told
  refine bx_s (Sep.start w) fun g3 w1 hs1 => ?_
  replace hs1 : Sep w w1 [blk g3 #[.int .i64 most] T_int] := hs1
  refine alloc_s hs1 (al_slN w1) fun g5 w2 hs2 => ?_
  refine cal_i (hall _ hs2.fr0) ?_
  rintro _ w3 ⟨ga, gb, u, y, rfl, hs3⟩
  replace hs3 := hs2.join hs3
  rw [nilFnC, cnd_false]
  -- ga 0 · gb 1 · u 2 · y 3 · g5 4 · g3 5
  have hs4 := Sep.pick (Sep.nilR (q := Q_flurrylaw10_named) hs3) [5, 0, 6, 1, 2, 3, 4] 7
  have hu1 := Sep.oneR hs3.p2
  let F : List Asn := [blk g3 #[.int .i64 most] T_int, blk ga #[u] T_sl_api_Block, blk gb #[y] T_sl_api_ID, rows Q_api_Block u (B.map BV.t), rows (rVec 32) y (B.map (·.1.id))]
  have hlen : ∀ {N : List BV} {k : Nat}, blks N = (blks B).take k → k ≤ B.length → N.length = k := fun {N k} h hk => by
    have := congrArg List.length h
    simp only [List.length_map, List.length_take] at this
    omega
  refine rngG_s (n := B.length) hs4 (all1_iter (lv := u) (iv := y) (g3 := ga) (g4 := gb) hn hu1 hdl) (fun i args Es ⟨x, vd, _, h, _⟩ => by rw [h]; rfl)
    (fun i Bs => i ≤ most ∧ ∃ v N E, blks N = (blks B).take i ∧ DatB N E ∧ Bs = blk g5 #[v] T_sl_flurrylaw10_named :: rows Q_flurrylaw10_named v (N.map nmd) :: (F ++ E))
    (fun c Bs => c = .exit 0 ∧ ∃ v N E, blks N = (blks B).take most ∧ DatB N E ∧ Bs = blk g5 #[v] T_sl_flurrylaw10_named :: rows Q_flurrylaw10_named v (N.map nmd) :: (F ++ E))
    ⟨Nat.zero_le _, _, [], [], by simp, fun x hx => by simp at hx, rfl⟩ ?_ ?_ ?_ ?_
  · rintro i _ Ls z ⟨_, v, N, E, hN, hD, rfl⟩ hz
    replace hz := hz.tail.tail.tail
    exact ⟨⟨_, _, Sep.blk hz⟩, ⟨_, _, Sep.blk hz.tail⟩, ⟨Sep.rows hz.tail.tail, fun x hx => (hrd x hx).fr hz.fr0 (off_nil _)⟩, Sep.rows hz.tail.tail.tail⟩
  · rintro i _ _ z _ LR LB bg fin hi ⟨hle, v, N, E, hN, hD, rfl⟩ ⟨x, vd, hx, rfl, rfl⟩ hz hbg hfn hfx
    have hNl := hlen hN (by omega)
    refine alloc_s hz (A_api_ID z) fun g7 z1 hz1 => ?_
    simp only [List.getD_cons_zero, List.getD_cons_succ]
    refine St_api_ID (b := x.1.id) hz1 fun z2 hz2 => ?_
    refine alloc_s hz2 (A_api_Block z2) fun g8 z3 hz3 => ?_
    refine St_api_Block (b := (x.1.p, x.1.h, vd)) hz3 (one_api_Block (Sep.one hz3.p2)) fun z4 hz4 => ?_
    refine hbg z4 (blk g8 (Rdr.cells Q_api_Block (x.1.p, x.1.h, vd)).toArray T_api_Block :: blk g7 (Rdr.cells (rVec 32) x.1.id).toArray T_api_ID :: ownB vd x.1.d :: (blk g5 #[v] T_sl_flurrylaw10_named :: rows Q_flurrylaw10_named v (N.map nmd) :: (F ++ E))) _ hz4 fun z5 hz5 => ?_
    have hz6 : Sep w z5 (blk g8 (Rdr.cells Q_api_Block (x.1.p, x.1.h, vd)).toArray T_api_Block :: blk g7 (Rdr.cells (rVec 32) x.1.id).toArray T_api_ID :: ownB vd x.1.d :: blk g5 #[v] T_sl_flurrylaw10_named :: rows Q_flurrylaw10_named v (N.map nmd) :: ((F ++ E) ++ LB)) := hz5
    refine ld1_i (v := v) (Sep.blk hz6.p3) rfl ?_
    have hll : ∀ K, lenS v K = K (.int .i64 i) := fun K => by
      have := (Sep.rows (Sep.pick hz6 [4] 5)).len K
      rwa [List.length_map, hNl] at this
    rw [hll]
    refine ld1_i (v := .int .i64 most) (Sep.blk (Sep.pick hz6 [5] 6)) rfl ?_
    simp only [nilc_some, fad_mk, pik_true, pik_false, cnd_true, cnd_false, gif_same, gif_tf, gif_ft, gif_undef, bi_add, bi_sub, bi_mul, bi_eql, bi_neq, bi_lss, bi_leq, bi_gtr, bi_geq, notB_bool, cvi_int, lenS_mk, lenT_mk, ext0, ext1, ext2, nilP_mk, nilS_mk, fldv_agg, jn0_k, jn1_k, jn2_k, jn1_and, jn1_or, ex_some, Option.isNone_some, Option.isNone_none, Bool.false_bne, Bool.bne_true, Bool.bne_false, Bool.true_bne, Bool.not_true, Bool.not_false, Bool.and_true, Bool.true_and, Bool.and_false, Bool.false_and, Bool.or_true, Bool.true_or, Bool.or_false, Bool.false_or, cond_true, cond_false, List.getElem?_toArray, List.getElem?_cons_zero, List.getElem?_cons_succ, Nat.zero_add, Nat.add_zero, Nat.reduceAdd, forall_const]
    rw [cnd_bool]
    refine ⟨fun h => ?_, fun h => ?_⟩
    · have h : most ≤ i := by simp at h; omega
      obtain rfl : i = most := by omega
      exact hfx _ z5 _ ⟨rfl, v, N, E, hN, hD, rfl⟩ hz6.tail.tail.tail
    · have h : i < most := by simp at h; omega
      refine ld1_i (v := v) (Sep.blk hz6.p3) rfl ?_
      simp only [L_api_ID hz6.p1.blk, L_api_Block hz6.blk, L_api_Block__Parent hz6.blk, L_api_Block__Height hz6.blk, L_api_Block__Data hz6.blk]
      rw [B_flurrylaw10_named_0_1]
      refine nBld (y := (x.1, vd)) hz6 fun a z7 hz7 => ?_
      refine nApp (y := (x.1, vd)) (Sep.pick hz7 [5, 0, 3, 4] 6) (Sep.rows hz7) (Sep.one hz7.p3) (by omega) fun v' z8 hz8 => ?_
      -- rows 0 · a 1 · own 2 · g5 3
      refine st1_s (Sep.pick hz8 [3, 0, 2] 4) (by simp) (Sep.oneR hz8) fun z9 hz9 => ?_
      refine hfn z9 (blk g5 #[v'] T_sl_flurrylaw10_named :: rows Q_flurrylaw10_named v' ((N ++ [(x.1, vd)]).map nmd) :: (F ++ (ownB vd x.1.d :: E))) ⟨h, v', N ++ [(x.1, vd)], ownB vd x.1.d :: E, ?_, ?_, rfl⟩ ?_
      · have hx2 : (blks B)[i]? = some x.1 := by rw [List.getElem?_map, hx]; rfl
        rw [List.take_add_one, hx2, ← hN]
        simp
      · intro q hq
        rcases List.mem_append.1 hq with hq | hq
        · exact List.mem_cons_of_mem _ (hD q hq)
        · rw [List.mem_singleton.1 hq]; exact List.mem_cons_self ..
      · exact Sep.pick hz9 [0, 1, 3, 4, 5, 6, 7, 2] 8
  · rintro D _ z ⟨hle, v, N, E, hN, hD, rfl⟩ hz
    refine .inl ⟨rfl, ?_⟩
    refine ld1_i (v := v) (Sep.blk hz.p1) rfl ?_
    refine takeD_s hz fun w' hw' => hR _ _ ⟨N, E, ?_, hD, Sep.pick hw' [1] 7⟩
    rw [hN, List.take_of_length_le (by simp), List.take_of_length_le (by simpa using hle)]
  · rintro D _ _ z ⟨rfl, v, N, E, hN, hD, rfl⟩ hz
    refine .inr (.inl ⟨rfl, ?_⟩)
    refine ld1_i (v := v) (Sep.blk hz.p1) rfl ?_
    exact takeD_s hz fun w' hw' => hR _ _ ⟨N, E, hN, hD, Sep.pick hw' [1] 7⟩
theorem told10_spec {most : Nat} (hr : ChR w.heap g gi lv iv m pt over B) (hn : B.length ≤ 1000000) (hdl : ∀ x ∈ B, x.1.d.length ≤ 100000) (hm : most ≤ 2000000) :
    cal P f_law10_told [.pointer (some ⟨g, 0, none⟩), .int .i64 most] w fun r w' => ∃ N E, blks N = (blks B).take most ∧ DatB N E ∧ Sep w w' (rows Q_flurrylaw10_named r (N.map nmd) :: E) :=
  told10_gen (fun z hz => cAll_spec (hr.fr hz) hn) hr.bw.2 hn hdl hm
end
end Go.Fx
set_option linter.unusedVariables false
set_option linter.unusedSimpArgs false
namespace Go.Fx
section
variable {w0 w w' : World} {As : List Asn}
def genB : Blk := ⟨vz 32, 0, [103]⟩
theorem genB_chk : genB.chk = 0 := by decide
theorem genB_h : genB.h = 0 := rfl
theorem lit1 (x : UInt8) (w : World) : (Instr.buildSlice T_sl_uint8 1 #[(0, bv x)]).run P w = .ok (.slice (some ⟨w.heap.size, 0, none⟩) 1 1) (w.alloc (.cells (bvs [x]).toArray T_uint8)) := by kernel_rfl
theorem cFirst_spec : cal P f_law10_first [] w fun r w' => ∃ v, r = bq genB v ∧ Sep w w' [rdA v [103]] := by
  refine s_law10_first fun R hR => ?_
  unfold c_law10_first
  refine alloc_s (Sep.start w) (A_api_Block w) fun g0 w1 hs1 => ?_
  refine lit_s (l := [103]) hs1 U_sl_uint8 U_uint8 rfl (lit1 103 w1) fun g1 w2 hs2 => ?_
  rw [B_api_Block_2 rfl]
  refine St_api_Block (b := (vz 32, 0, .slice (some ⟨g1, 0, none⟩) 1 1)) hs2.p1 (one_api_Block rfl) fun w3 hs3 => ?_
  simp only [L_api_Block hs3.blk, L_api_Block__Parent hs3.blk, L_api_Block__Height hs3.blk, L_api_Block__Data hs3.blk]
  exact hR _ _ ⟨_, rfl, hs3.tail⟩
theorem cChild_spec {b : Blk} {v u : Value} {d : List UInt8} (hb : RdB w.heap v b.d) (hd : RdB w.heap u d) (hcap : capOk u) (hh : b.h ≤ maxI) (hl : d.length ≤ 9223372036854775807) :
    cal P f_law10_child [bq b v, u] w fun r w' => ∃ v', r = bq (b.child (d.take 200)) v' ∧ Sep w w' [ownB v' (b.child (d.take 200)).d] := by
  refine s_law10_child fun R hR => ?_
  unfold c_law10_child
  obtain ⟨a, c, hu⟩ := hd.form
  have hc := hcap _ _ _ hu
  obtain ⟨k, hk⟩ : ∃ k, k = min d.length 200 := ⟨_, rfl⟩
  have hdk : RdB w.heap (.slice a k c) (d.take 200) := by
    rw [hu] at hd
    have h1 := hd.take (k := k) (by omega) c
    have e : d.take k = d.take 200 := by
      rw [hk]
      by_cases h : d.length ≤ 200
      · rw [Nat.min_eq_left h, List.take_of_length_le (Nat.le_refl _), List.take_of_length_le h]
      · rw [Nat.min_eq_right (by omega)]
    rwa [e] at h1
  refine bxQ (Sep.start w) fun g2 w1 hs1 => ?_
  refine alloc_s hs1 (A_api_Block w1) fun g4 w2 hs2 => ?_
  refine drH_S hs2 fun w3 hs3 _ => ?_
  refine ⟨fun y z => ∃ g5 v', y = .pointer (some ⟨g5, 0, none⟩) ∧ Sep w z (blk g5 (Rdr.cells Q_api_Block ((b.child (d.take 200)).p, (b.child (d.take 200)).h, v')).toArray T_api_Block :: ownB v' (b.child (d.take 200)).d :: blk g4 (Rdr.cells Q_api_Block (vz 32, (0 : Int), .slice none 0 0)).toArray T_api_Block :: [blk g2 (Rdr.cells Q_api_Block (b.p, b.h, v)).toArray T_api_Block]), ?_, ?_⟩
  · refine ⟨bq b v, fun u hu => (L_api_Block (Sep.blk hu.p1) _).mpr rfl, ?_⟩
    change lenS _ _
    rw [hd.len]
    refine ⟨.int .i64 (k : Int), fun u hu => by rw [min_int]; congr 1; omega, ?_⟩
    rw [hu]
    change slc 1 _ _ _ _
    rw [slc_to (by omega)]
    have hal : ∀ (z : World), (Instr.alloc T_api_Block true (.tuple #[])).run P z = .ok (.pointer (some ⟨z.heap.size, 0, none⟩)) (z.alloc (.cells (Rdr.cells Q_api_Block (vz 32, (0 : Int), .slice none 0 0)).toArray T_api_Block)) := A_api_Block
    refine ⟨?_, ?_, trivial⟩
    · refine efC_cut (cal_i (rbChild_spec (b := b) (v := v) (d := d.take 200) (hs3.rdB hb) (hs3.rdB hdk) hh) ?_)
      rintro _ w4 ⟨v', rfl, hs4⟩
      replace hs4 := hs3.join hs4
      refine ⟨fun u => Sep w u (ownB v' (b.child (d.take 200)).d :: [blk g4 (Rdr.cells Q_api_Block (vz 32, (0 : Int), .slice none 0 0)).toArray T_api_Block, blk g2 (Rdr.cells Q_api_Block (b.p, b.h, v)).toArray T_api_Block]), hs4, ?_⟩
      simp only [nilc_some, fad_mk, pik_true, pik_false, cnd_true, cnd_false, gif_same, gif_tf, gif_ft, gif_undef, bi_add, bi_sub, bi_mul, bi_eql, bi_neq, bi_lss, bi_leq, bi_gtr, bi_geq, notB_bool, cvi_int, lenS_mk, lenT_mk, ext0, ext1, ext2, nilP_mk, nilS_mk, fldv_agg, jn0_k, jn1_k, jn2_k, jn1_and, jn1_or, ex_some, Option.isNone_some, Option.isNone_none, Bool.false_bne, Bool.bne_true, Bool.bne_false, Bool.true_bne, Bool.not_true, Bool.not_false, Bool.and_true, Bool.true_and, Bool.and_false, Bool.false_and, Bool.or_true, Bool.true_or, Bool.or_false, Bool.false_or, cond_true, cond_false, List.getElem?_toArray, List.getElem?_cons_zero, List.getElem?_cons_succ, Nat.zero_add, Nat.add_zero, Nat.reduceAdd, forall_const]
      refine efS_i (alloc_s hs4 (hal w4) fun g5 w5 hs5 => ⟨hs5.tail, ?_⟩)
      refine efC_stN (St_api_Block (b := ((b.child (d.take 200)).p, (b.child (d.take 200)).h, v')) hs5 (one_api_Block (Sep.one hs5.p1)) fun w6 hs6 => ?_)
      exact ⟨g5, v', rfl, hs6⟩
    · refine efS_i (alloc_s hs3 (hal w3) fun g5 w4 hs4 => ⟨hs4.tail, ?_⟩)
      refine efC_cal (cal_i (rbChild_spec (b := b) (v := v) (d := d.take 200) (hs4.rdB hb) (hs4.rdB hdk) hh) ?_)
      rintro _ w5 ⟨v', rfl, hs5⟩
      replace hs5 := hs4.join hs5
      simp only [nilc_some, fad_mk, pik_true, pik_false, cnd_true, cnd_false, gif_same, gif_tf, gif_ft, gif_undef, bi_add, bi_sub, bi_mul, bi_eql, bi_neq, bi_lss, bi_leq, bi_gtr, bi_geq, notB_bool, cvi_int, lenS_mk, lenT_mk, ext0, ext1, ext2, nilP_mk, nilS_mk, fldv_agg, jn0_k, jn1_k, jn2_k, jn1_and, jn1_or, ex_some, Option.isNone_some, Option.isNone_none, Bool.false_bne, Bool.bne_true, Bool.bne_false, Bool.true_bne, Bool.not_true, Bool.not_false, Bool.and_true, Bool.true_and, Bool.and_false, Bool.false_and, Bool.or_true, Bool.true_or, Bool.or_false, Bool.false_or, cond_true, cond_false, List.getElem?_toArray, List.getElem?_cons_zero, List.getElem?_cons_succ, Nat.zero_add, Nat.add_zero, Nat.reduceAdd, forall_const]
      refine efC_stN (St_api_Block (b := ((b.child (d.take 200)).p, (b.child (d.take 200)).h, v')) hs5.p1 (one_api_Block (Sep.one hs5)) fun w6 hs6 => ?_)
      exact ⟨g5, v', rfl, hs6⟩
  · rintro _ z ⟨g5, v', rfl, hz⟩ _
    simp only [L_api_Block hz.blk, L_api_Block__Parent hz.blk, L_api_Block__Height hz.blk, L_api_Block__Data hz.blk]
    refine St_api_Block (b := ((b.child (d.take 200)).p, (b.child (d.take 200)).h, v')) hz.p2 (one_api_Block (Sep.one hz.p1)) fun w6 hs6 => ?_
    simp only [L_api_Block hs6.blk, L_api_Block__Parent hs6.blk, L_api_Block__Height hs6.blk, L_api_Block__Data hs6.blk]
    exact hR _ _ ⟨v', rfl, Sep.pick hs6 [2] 4⟩
/-- Something that is done. -/
structure OA where
  act : Int
  n : Int
  d : List UInt8
  dv : Value
  b : Blk
  bv : Value
def OA.t (x : OA) : Int × Int × Value × Vec 32 × Int × Value := (x.act, x.n, x.dv, x.b.p, x.b.h, x.bv)
structure ORows (h : Heap) (v : Value) (l : List OA) : Prop where
  rw : Rows' Q_flurrylaw10_Op h v (l.map OA.t)
  d : ∀ x ∈ l, RdB h x.dv x.d ∧ RdB h x.bv x.b.d
theorem ORows.fr {v : Value} {l : List OA} (h : ORows w.heap v l) (hf : Fr [] w w') : ORows w'.heap v l := ⟨h.rw.fr hf, fun x hx => ⟨(h.d x hx).1.fr hf (off_nil _), (h.d x hx).2.fr hf (off_nil _)⟩⟩
theorem ORows.len {h : Heap} {v : Value} {l : List OA} (hr : ORows h v l) (K : Value → Prop) : lenS v K = K (.int .i64 l.length) := by
  have := hr.rw.len K
  rwa [List.length_map] at this
end
end Go.Fx
