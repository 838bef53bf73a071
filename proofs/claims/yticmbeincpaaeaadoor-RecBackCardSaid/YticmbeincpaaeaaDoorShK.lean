/-
  The program's sum: Write.
-/
import Derived.Test.YticmbeincpaaeaaDoorShJ
set_option linter.unusedVariables false
set_option linter.unusedSimpArgs false
namespace Go.Fx
theorem foldM_one {h : List W32} {m : List UInt8} (hm : m.length = 64) : foldM h m = mixM h m := by
  rw [foldM_step (by omega), List.take_of_length_le (by omega), List.drop_of_length_le (by omega), foldM_end (by simp)]
section
variable {w0 w : World} {v b s : Value} {l r : List UInt8} {As : List Asn} {g : Nat} {h : VW 8} {n : Int}
theorem ldS_h {hp : Heap} {t : TypeId} {fr : Nat × Nat} {a} (hg : hp[g]? = some (.cells (Rdr.cells Q_St a).toArray t fr)) (K : Value → Prop) : ldN 8 (.pointer (some ⟨g, 0, none⟩)) hp K = K (.agg (wvs a.1.1).toArray) := Fld.ldN (r := Q_St) (s := rW 8) (Fld.fst Fld.self) hg K
theorem ldS_s {hp : Heap} {t : TypeId} {fr : Nat × Nat} {a} (hg : hp[g]? = some (.cells (Rdr.cells Q_St a).toArray t fr)) (K : Value → Prop) : ld1 (.pointer (some ⟨g, 8, none⟩)) hp K = K a.2.1 := Fld.ld1 (r := Q_St) (Fld.snd (Fld.fst Fld.self)) hg K
theorem ldS_n {hp : Heap} {t : TypeId} {fr : Nat × Nat} {a} (hg : hp[g]? = some (.cells (Rdr.cells Q_St a).toArray t fr)) (K : Value → Prop) : ld1 (.pointer (some ⟨g, 9, none⟩)) hp K = K (.int .i64 a.2.2.1) := Fld.ldI (r := Q_St) (Fld.snd (Fld.snd (Fld.fst Fld.self))) hg K
theorem stS_h {K : World → Prop} (hs : Sep w0 w (st g h s n :: As)) {l' : List W32} (hl : l'.length = 8) (hk : ∀ w', Sep w0 w' (st g ⟨l', hl⟩ s n :: As) → K w') : stN 8 (.pointer (some ⟨g, 0, none⟩)) (.agg (wvs l').toArray) w K :=
  Fld.stN (r := Q_St) (s := rW 8) (Fld.fst Fld.self) (b := ⟨l', hl⟩) hs (wvs_one _) hk
theorem stS_s {K : World → Prop} (hs : Sep w0 w (st g h s n :: As)) {s' : Value} (h1 : s'.oneCell' = true) (hk : ∀ w', Sep w0 w' (st g h s' n :: As) → K w') : st1 (.pointer (some ⟨g, 8, none⟩)) s' w K :=
  Fld.stV (r := Q_St) (s := qv) (Fld.snd (Fld.fst Fld.self)) rfl hs h1 hk
theorem stS_n {K : World → Prop} (hs : Sep w0 w (st g h s n :: As)) {n' : Int} (hk : ∀ w', Sep w0 w' (st g h s n' :: As) → K w') : st1 (.pointer (some ⟨g, 9, none⟩)) (.int .i64 n') w K :=
  Fld.stV (r := Q_St) (s := rInt .i64) (Fld.snd (Fld.snd (Fld.fst Fld.self))) rfl hs rfl hk
theorem Write_spec (hc : Cub w0) (hs : Sep w0 w (st g first8 (.slice none 0 0) 0 :: As)) (hv : Cel w0.heap v 1 1 [b] ∨ ∃ Bs, As = own v 1 1 [b] :: Bs) (hb : RdB w0.heap b l) (hl : l.length ≤ 100000) :
    cal P f_sha_State_Write [.pointer (some ⟨g, 0, none⟩), v] w fun _ w' => ∃ (a r : List UInt8) (h : VW 8) (s : Value), l = a ++ r ∧ a.length % 64 = 0 ∧ r.length < 64 ∧ h.1 = foldM firstL a ∧ Sep w0 w' (st g h s l.length :: ownB s r :: As) := by
  refine s_sha_State_Write fun R hR => ?_
  unfold c_sha_State_Write
  refine cal_i (none_spec hs) ?_
  rintro _ _ ⟨rfl, rfl⟩
  have hcel : ∀ {z : World} {x : Asn}, Sep w0 z (x :: As) → Cel z.heap v 1 1 [b] := fun {z x} hz => by
    rcases hv with hv | ⟨Bs, rfl⟩
    · exact hv.fr hz.fr0 (off_nil _)
    · exact Sep.cel hz.p1
  obtain ⟨a, c, hva, _⟩ := id (hcel hs)
  have hlen : ∀ K, lenS v K = K (.int .i64 ((1 : Nat) : Int)) := fun K => by rw [hva, lenS_mk]
  simp only [nilc_some, fad_mk, pik_true, pik_false, cnd_true, cnd_false, gif_same, gif_tf, gif_ft, gif_undef, bi_add, bi_sub, bi_mul, bi_eql, bi_neq, bi_lss, bi_leq, bi_gtr, bi_geq, notB_bool, cvi_int, lenS_mk, lenT_mk, ext0, ext1, ext2, nilP_mk, nilS_mk, fldv_agg, jn0_k, jn1_k, jn2_k, jn1_and, jn1_or, ex_some, Option.isNone_some, Option.isNone_none, Bool.false_bne, Bool.bne_true, Bool.bne_false, Bool.true_bne, Bool.not_true, Bool.not_false, Bool.and_true, Bool.true_and, Bool.and_false, Bool.false_and, Bool.or_true, Bool.true_or, Bool.or_false, Bool.false_or, cond_true, cond_false, List.getElem?_toArray, List.getElem?_cons_zero, List.getElem?_cons_succ, Nat.zero_add, Nat.add_zero, Nat.reduceAdd, forall_const, hlen]
  refine ⟨fun x w' => ∃ i : Nat, x = .int .i64 i ∧ i ≤ 1 ∧ (i = 0 → Sep w0 w' (st g first8 (.slice none 0 0) 0 :: As)) ∧ (i = 1 → ∃ (a r : List UInt8) (h : VW 8) (s : Value), l = a ++ r ∧ a.length % 64 = 0 ∧ r.length < 64 ∧ h.1 = foldM firstL a ∧ Sep w0 w' (st g h s l.length :: ownB s r :: As)),
    fun z _ => (1 - RowKit.intOf z).toNat, ⟨0, rfl, by omega, fun _ => hs, fun h => by cases h⟩, ?_⟩
  rintro _ w1 ⟨i, rfl, hi, hi0, hi1⟩ -
  simp only [nilc_some, fad_mk, pik_true, pik_false, cnd_true, cnd_false, gif_same, gif_tf, gif_ft, gif_undef, bi_add, bi_sub, bi_mul, bi_eql, bi_neq, bi_lss, bi_leq, bi_gtr, bi_geq, notB_bool, cvi_int, lenS_mk, lenT_mk, ext0, ext1, ext2, nilP_mk, nilS_mk, fldv_agg, jn0_k, jn1_k, jn2_k, jn1_and, jn1_or, ex_some, Option.isNone_some, Option.isNone_none, Bool.false_bne, Bool.bne_true, Bool.bne_false, Bool.true_bne, Bool.not_true, Bool.not_false, Bool.and_true, Bool.true_and, Bool.and_false, Bool.false_and, Bool.or_true, Bool.true_or, Bool.or_false, Bool.false_or, cond_true, cond_false, List.getElem?_toArray, List.getElem?_cons_zero, List.getElem?_cons_succ, Nat.zero_add, Nat.add_zero, Nat.reduceAdd, forall_const]
  rw [cnd_bool]
  refine ⟨fun hlt => ?_, fun hlt => ?_⟩
  · have h0 : i = 0 := by simp at hlt; omega
    subst h0
    have hs1 := hi0 rfl
    refine ldx (hcel hs1) (j := 0) (u := b) rfl ?_
    rw [ldS_n hs1.blk, (hs1.rdB hb).len]
    simp only [nilc_some, fad_mk, pik_true, pik_false, cnd_true, cnd_false, gif_same, gif_tf, gif_ft, gif_undef, bi_add, bi_sub, bi_mul, bi_eql, bi_neq, bi_lss, bi_leq, bi_gtr, bi_geq, notB_bool, cvi_int, lenS_mk, lenT_mk, ext0, ext1, ext2, nilP_mk, nilS_mk, fldv_agg, jn0_k, jn1_k, jn2_k, jn1_and, jn1_or, ex_some, Option.isNone_some, Option.isNone_none, Bool.false_bne, Bool.bne_true, Bool.bne_false, Bool.true_bne, Bool.not_true, Bool.not_false, Bool.and_true, Bool.true_and, Bool.and_false, Bool.false_and, Bool.or_true, Bool.true_or, Bool.or_false, Bool.false_or, cond_true, cond_false, List.getElem?_toArray, List.getElem?_cons_zero, List.getElem?_cons_succ, Nat.zero_add, Nat.add_zero, Nat.reduceAdd, forall_const]
    rw [wi64 (by omega) (by omega)]
    refine stS_n hs1 fun w2 hs2 => ?_
    simp only [nilc_some, fad_mk, pik_true, pik_false, cnd_true, cnd_false, gif_same, gif_tf, gif_ft, gif_undef, bi_add, bi_sub, bi_mul, bi_eql, bi_neq, bi_lss, bi_leq, bi_gtr, bi_geq, notB_bool, cvi_int, lenS_mk, lenT_mk, ext0, ext1, ext2, nilP_mk, nilS_mk, fldv_agg, jn0_k, jn1_k, jn2_k, jn1_and, jn1_or, ex_some, Option.isNone_some, Option.isNone_none, Bool.false_bne, Bool.bne_true, Bool.bne_false, Bool.true_bne, Bool.not_true, Bool.not_false, Bool.and_true, Bool.true_and, Bool.and_false, Bool.false_and, Bool.or_true, Bool.true_or, Bool.or_false, Bool.false_or, cond_true, cond_false, List.getElem?_toArray, List.getElem?_cons_zero, List.getElem?_cons_succ, Nat.zero_add, Nat.add_zero, Nat.reduceAdd, forall_const, ldS_s hs2.blk]
    have hbs : ∀ (w : World), (Instr.buildSlice T_sl_sl_uint8 2 #[(0, .slice none 0 0), (1, b)]).run P w = .ok (.slice (some ⟨w.heap.size, 0, none⟩) 2 2) (w.alloc (.cells ([.slice none 0 0, b] : List Value).toArray T_sl_uint8)) := by
      obtain ⟨a, c, rfl, _⟩ := hb
      intro w
      kernel_rfl
    refine build_s (cs := [.slice none 0 0, b]) (size := 1) hs2 rfl (hbs _) fun g3 w3 hs3 => ?_
    refine cal_i (Concat_spec (l := []) (m := l) (Sep.cel hs3) ⟨none, 0, rfl, rfl, .inl rfl⟩ (hs3.rdB hb) (by simp; omega)) ?_
    rintro v4 w4 hs4
    rw [List.nil_append] at hs4
    replace hs4 := (hs3.join hs4).d1.p1
    obtain ⟨a4, c4, rfl, hc4⟩ := Sep.form hs4.p1
    refine ⟨fun u w' => ∃ (k : Nat) (h : VW 8), k ≤ l.length ∧ k % 64 = 0 ∧ h.1 = foldM firstL (l.take k) ∧ Rest (.slice a4 l.length c4) l u (l.drop k) ∧ Sep w0 w' (st g h (.slice none 0 0) l.length :: ownB (.slice a4 l.length c4) l :: As), fun u _ => match u with
      | .slice _ n _ => n
      | _ => 0, ⟨0, first8, by omega, rfl, by rw [List.take_zero, foldM_end (by simp)]; rfl, Rest.start hc4, by simpa using hs4⟩, ?_⟩
    rintro u w5 ⟨k, h5, hk, hkm, hh5, hrest, hs5⟩ -
    simp only [hrest.len, List.length_drop]
    rw [bi_geq, cnd_bool]
    refine ⟨fun h => ?_, fun h => ?_⟩
    · have h64 : 64 ≤ (l.drop k).length := by simp at h ⊢; omega
      refine drH_s hs5 fun w6 hs6 _ => ?_
      simp only [nilc_some, fad_mk, pik_true, pik_false, cnd_true, cnd_false, gif_same, gif_tf, gif_ft, gif_undef, bi_add, bi_sub, bi_mul, bi_eql, bi_neq, bi_lss, bi_leq, bi_gtr, bi_geq, notB_bool, cvi_int, lenS_mk, lenT_mk, ext0, ext1, ext2, nilP_mk, nilS_mk, fldv_agg, jn0_k, jn1_k, jn2_k, jn1_and, jn1_or, ex_some, Option.isNone_some, Option.isNone_none, Bool.false_bne, Bool.bne_true, Bool.bne_false, Bool.true_bne, Bool.not_true, Bool.not_false, Bool.and_true, Bool.true_and, Bool.and_false, Bool.false_and, Bool.or_true, Bool.true_or, Bool.or_false, Bool.false_or, cond_true, cond_false, List.getElem?_toArray, List.getElem?_cons_zero, List.getElem?_cons_succ, Nat.zero_add, Nat.add_zero, Nat.reduceAdd, forall_const, rdS_ldN, ldS_h hs6.blk]
      refine hrest.to h64 _ fun x hx => ?_
      refine efC_cal (cal_i (mixed_spec (hc.fr hs6.fr0) (hx _ (Sep.rd hs6.p1)) (by rw [List.length_take]; omega) h5.2) ?_)
      rintro _ w7 ⟨rfl, hf7⟩
      have hs7 := hs6.old hf7
      refine efC_stN (stS_h hs7 (mixM_len _ h5.2) fun w8 hs8 => ?_)
      refine hrest.from h64 _ fun u' hu' => ?_
      rw [List.drop_drop] at hu'
      have hll : k + 64 ≤ l.length := by simp at h64; omega
      refine ⟨⟨k + 64, _, hll, by omega, ?_, hu', hs8⟩, ?_⟩
      · show mixM h5.1 _ = _
        rw [hh5, List.take_add, foldM_app (by rw [List.length_take]; omega), foldM_one (m := (l.drop k).take 64) (by rw [List.length_take]; omega)]
      · obtain ⟨_, n1, _, rfl, e1, _⟩ := hrest
        obtain ⟨_, n2, _, rfl, e2, _⟩ := hu'
        simp only [List.length_drop] at e1 e2
        simp only []
        omega
    · have h64 : (l.drop k).length < 64 := by simp at h ⊢; omega
      obtain ⟨_, _, _, _, _, _, hx⟩ := id hrest
      refine cal_i (bClone_spec (hx _ (Sep.rd hs5.p1)) (by rw [List.length_drop]; omega)) ?_
      rintro v6 w6 hs6
      replace hs6 := (hs5.join hs6).p1
      refine stS_s hs6 (Sep.one hs6.p1) fun w7 hs7 => ?_
      rw [wi64 (by omega) (by omega)]
      refine ⟨⟨1, by simp, by omega, fun h => (by cases h), fun _ => ⟨l.take k, l.drop k, h5, v6, (List.take_append_drop k l).symm, by rw [List.length_take]; omega, h64, hh5, hs7.d2⟩⟩, by simp [RowKit.intOf]⟩
  · have h1 : i = 1 := by simp at hlt; omega
    exact hR _ _ (hi1 h1)
end
end Go.Fx
