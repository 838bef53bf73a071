/-
  Package pack, side by side with whatever else stands in memory: a packer that has room.
-/
import Derived.Test.YticmbeincpaaeaaDoorPbC
import Derived.Lib.SlBytesConst
set_option linter.unusedVariables false
set_option linter.unusedSimpArgs false
namespace Go.Fx
/-! ### Some of the assertions, in an order -/
def pickL (L : List Asn) : List Nat → List Asn → List Asn
  | [], T => T
  | i :: is, T => match L[i]? with
    | some A => A :: pickL L is T
    | none => pickL L is T
theorem sub_perm {α : Type} : ∀ (X P : List α), X.Nodup → (∀ x ∈ X, x ∈ P) → ∃ rest, P.Perm (X ++ rest)
  | [], P, _, _ => ⟨P, .refl _⟩
  | x :: X, P, hn, hs => by
    obtain ⟨s, t, rfl⟩ := List.append_of_mem (hs x (by simp))
    have hn' := List.nodup_cons.1 hn
    obtain ⟨rest, hr⟩ := sub_perm X (s ++ t) hn'.2 fun y hy => by
      have := hs y (by simp [hy])
      simp only [List.mem_append, List.mem_cons] at this ⊢
      rcases this with h | h | h
      · exact .inl h
      · subst h; exact absurd hy hn'.1
      · exact .inr h
    exact ⟨rest, List.perm_middle.trans (hr.cons x)⟩
theorem pickL_eq (L : List Asn) (T : List Asn) : ∀ is : List Nat, pickL L is T = (is.filterMap fun i => L.zipIdx[i]?).map (·.1) ++ T
  | [] => rfl
  | i :: is => by
    rw [pickL, List.filterMap_cons]
    cases h : L[i]? with
    | none =>
      have : L.zipIdx[i]? = none := by simpa using h
      rw [this]
      exact pickL_eq L T is
    | some A =>
      have : L.zipIdx[i]? = some (A, i) := by rw [List.getElem?_zipIdx, h]; simp
      rw [this]
      simp only [List.map_cons, List.cons_append]
      rw [pickL_eq L T is]
theorem pick_nodup (L : List Asn) : ∀ is : List Nat, is.Nodup → (is.filterMap fun i => L.zipIdx[i]?).Nodup ∧ ∀ x ∈ (is.filterMap fun i => L.zipIdx[i]?), x.2 ∈ is
  | [], _ => ⟨by simp, by simp⟩
  | i :: is, h => by
    have h' := List.nodup_cons.1 h
    obtain ⟨h1, h2⟩ := pick_nodup L is h'.2
    rw [List.filterMap_cons]
    cases hi : L.zipIdx[i]? with
    | none => exact ⟨h1, fun x hx => by simp [h2 x hx]⟩
    | some x =>
      have hx : x.2 = i := by
        rw [List.getElem?_zipIdx] at hi
        cases hL : L[i]? with
        | none => simp [hL] at hi
        | some A => simp [hL] at hi; rw [← hi]
      refine ⟨List.nodup_cons.2 ⟨fun hm => h'.1 (hx ▸ h2 x hm), h1⟩, fun y hy => ?_⟩
      rcases List.mem_cons.1 hy with rfl | hy
      · simp [hx]
      · simp [h2 y hy]
theorem Sep.dropL {w0 w : World} : ∀ {As Bs : List Asn}, Sep w0 w (As ++ Bs) → Sep w0 w Bs
  | [], _, h => h
  | _ :: As, _, h => Sep.dropL (As := As) h.tail
/-- The assertions at these places of the first n, and all behind these n. -/
theorem Sep.pick {w0 w : World} {As : List Asn} (h : Sep w0 w As) (is : List Nat) (n : Nat) (hn : is.Nodup := by decide) : Sep w0 w (pickL (As.take n) is (As.drop n)) := by
  obtain ⟨h1, h2⟩ := pick_nodup (As.take n) is hn
  obtain ⟨rest, hr⟩ := sub_perm (is.filterMap fun i => (As.take n).zipIdx[i]?) (As.take n).zipIdx h1 fun x hx => by
    obtain ⟨i, _, hi⟩ := List.mem_filterMap.1 hx
    exact List.mem_of_getElem? hi
  rw [pickL_eq]
  have hp := hr.map (·.1)
  rw [List.map_append, List.zipIdx_map_fst] at hp
  have h3 : Sep w0 w ((rest.map (·.1)) ++ ((is.filterMap fun i => (As.take n).zipIdx[i]?).map (·.1) ++ As.drop n)) := by
    refine h.perm ?_
    have e := List.take_append_drop n As
    rw [← List.append_assoc]
    refine (List.Perm.of_eq e.symm).trans (List.Perm.append_right _ (hp.trans List.perm_append_comm))
  exact h3.dropL
/-! ### '[]byte("..")': new memory that is only read -/
def rdA (v : Value) (l : List UInt8) : Asn where
  on h F := ∃ g o c cur t fr, v = .slice (some ⟨g, o, none⟩) l.length c ∧ h[g]? = some (.cells cur t fr) ∧ (cur.toList.drop o).take l.length = bvs l ∧ l.length ≤ c ∧ F = [g]
  fr := fun ⟨g, o, c, cur, t, fr, hv, hg, hc, hle, hF⟩ hf hn => ⟨g, o, c, cur, t, fr, hv, hf.blk hg (hn g (by simp [hF])), hc, hle, hF⟩
  lt := fun ⟨g, o, c, cur, t, fr, hv, hg, hc, hle, hF⟩ k hk => by simp [hF] at hk; subst hk; exact lt_of_blk hg
theorem Sep.rda {w0 w : World} {As : List Asn} {v : Value} {l : List UInt8} (h : Sep w0 w (rdA v l :: As)) : RdB w.heap v l := by
  obtain ⟨F, g, o, c, cur, t, fr, rfl, hg, hc, hle, rfl⟩ := h.head
  exact ⟨_, c, rfl, by simp [bvs], .inr ⟨g, o, cur, t, fr, rfl, hg, by rw [Nat.mul_one]; exact hc⟩⟩
theorem Sep.rdaCap {w0 w : World} {As : List Asn} {v : Value} {l : List UInt8} (h : Sep w0 w (rdA v l :: As)) : capOk v := by
  obtain ⟨F, g, o, c, cur, t, fr, rfl, hg, hc, hle, rfl⟩ := h.head
  intro a n c' he
  cases he
  exact hle
theorem lit_s {P : Program} {w0 w : World} {As : List Asn} {t E n : Nat} {s : Sem Value} {l : List UInt8} {K : Value → World → Prop} (hs : Sep w0 w As) (ht : P.underlying t = some (.slice E)) (he : P.underlying E = some (.int .u8)) (hn : n = l.length)
    (hr : s.run P w = .ok (.slice (some ⟨w.heap.size, 0, none⟩) n n) (w.alloc (.cells (bvs l).toArray E))) (h : ∀ g w', Sep w0 w' (rdA (.slice (some ⟨g, 0, none⟩) n n) l :: As) → K (.slice (some ⟨g, 0, none⟩) n n) w') :
    efP P s w fun x w => efP P (convert t t x) w K := by
  subst hn
  refine ⟨_, _, hr, _, _, Lib.run_convert_bytes_const w t E _ _ _ ht he, h _ _ (hs.new (fr_alloc w _) (B := rdA _ _) (F' := [w.heap.size]) ⟨_, 0, _, _, E, _, rfl, alloc_new w _, by rw [List.drop_zero]; exact List.take_of_length_le (by simp [bvs]), Nat.le_refl _, rfl⟩ (by simp))⟩
theorem At.rd {h : Heap} {g o c : Nat} {l : List UInt8} (ha : At h g o (bvs l)) : RdB h (.slice (some ⟨g, o, none⟩) l.length c) l := by
  obtain ⟨cur, t, fr, hg, hn, hc⟩ := ha
  refine ⟨_, c, rfl, by simp [bvs], .inr ⟨g, o, cur, t, fr, rfl, hg, ?_⟩⟩
  rw [Nat.mul_one]
  rw [bvs_length] at hc
  exact hc
/-- 'x[:]', x an array. -/
theorem sla_all (len size g o : Nat) (K : Value → Prop) : sla len size (.pointer (some ⟨g, o, none⟩)) none none K = K (.slice (some ⟨g, o, none⟩) len len) := by
  have e : (if len = 0 then (⟨g, o, none⟩ : Addr) else Addr.add ⟨g, o, none⟩ (0 * size)) = ⟨g, o, none⟩ := by
    split
    · rfl
    · rw [Nat.zero_mul, Addr_add_mk, Nat.add_zero]
  refine propext ⟨?_, fun hk => ⟨_, rfl, ?_⟩⟩
  · rintro ⟨a, ha, hk⟩
    cases ha
    simp only [bndO, e, Nat.sub_zero] at hk
    exact hk
  · simp only [bndO, e, Nat.sub_zero]
    exact hk
section
variable {w0 w : World} {As : List Asn} {g n v : Nat} {s ha hc : Value} {a b c : List UInt8}
theorem rdNil (z : World) : RdB z.heap (.slice none 0 0) [] := ⟨none, 0, rfl, rfl, .inl rfl⟩
theorem numberS (hn : n ≤ 8) (hv : v < 18446744073709551616) : cal P f_pack_number [.int .i64 n, .int .u64 v] w fun r w' => Sep w w' [ownB r (be n v)] := by
  refine s_pack_number fun R hR => ?_
  unfold c_pack_number
  refine mkB_s (Sep.start w) ST_bytes ZC_uint8 (by omega) fun g w1 hs => ?_
  simp only [nilc_some, fad_mk, pik_true, pik_false, cnd_true, cnd_false, gif_same, gif_tf, gif_ft, gif_undef, bi_add, bi_sub, bi_mul, bi_eql, bi_neq, bi_lss, bi_leq, bi_gtr, bi_geq, notB_bool, cvi_int, lenS_mk, lenT_mk, ext0, ext1, ext2, nilP_mk, nilS_mk, fldv_agg, jn0_k, jn1_k, jn2_k, jn1_and, jn1_or, ex_some, Option.isNone_some, Option.isNone_none, Bool.false_bne, Bool.bne_true, Bool.bne_false, Bool.true_bne, Bool.not_true, Bool.not_false, Bool.and_true, Bool.true_and, Bool.and_false, Bool.false_and, Bool.or_true, Bool.true_or, Bool.or_false, Bool.false_or, cond_true, cond_false, List.getElem?_toArray, List.getElem?_cons_zero, List.getElem?_cons_succ, Nat.zero_add, Nat.add_zero, Nat.reduceAdd, forall_const]
  refine ⟨fun a w2 => ∃ i : Nat, i ≤ n ∧ a = .int .i64 i ∧ Sep w w2 [ownB (.slice (some ⟨g, 0, none⟩) n n) (List.replicate (n - i) 0 ++ be i v)], fun a _ => n - (RowKit.intOf a).toNat, ⟨0, by omega, rfl, by simpa [be] using hs⟩, ?_⟩
  rintro _ w2 ⟨i, hi, rfl, hs2⟩ -
  simp only [nilc_some, fad_mk, pik_true, pik_false, cnd_true, cnd_false, gif_same, gif_tf, gif_ft, gif_undef, bi_add, bi_sub, bi_mul, bi_eql, bi_neq, bi_lss, bi_leq, bi_gtr, bi_geq, notB_bool, cvi_int, lenS_mk, lenT_mk, ext0, ext1, ext2, nilP_mk, nilS_mk, fldv_agg, jn0_k, jn1_k, jn2_k, jn1_and, jn1_or, ex_some, Option.isNone_some, Option.isNone_none, Bool.false_bne, Bool.bne_true, Bool.bne_false, Bool.true_bne, Bool.not_true, Bool.not_false, Bool.and_true, Bool.true_and, Bool.and_false, Bool.false_and, Bool.or_true, Bool.true_or, Bool.or_false, Bool.false_or, cond_true, cond_false, List.getElem?_toArray, List.getElem?_cons_zero, List.getElem?_cons_succ, Nat.zero_add, Nat.add_zero, Nat.reduceAdd, forall_const]
  rw [cnd_bool]
  refine ⟨fun h => ?_, fun h => ?_⟩
  · have hlt : i < n := by simpa using h
    simp (disch := omega) only [nilc_some, fad_mk, pik_true, pik_false, cnd_true, cnd_false, gif_same, gif_tf, gif_ft, gif_undef, bi_add, bi_sub, bi_mul, bi_eql, bi_neq, bi_lss, bi_leq, bi_gtr, bi_geq, notB_bool, cvi_int, lenS_mk, lenT_mk, ext0, ext1, ext2, nilP_mk, nilS_mk, fldv_agg, jn0_k, jn1_k, jn2_k, jn1_and, jn1_or, ex_some, Option.isNone_some, Option.isNone_none, Bool.false_bne, Bool.bne_true, Bool.bne_false, Bool.true_bne, Bool.not_true, Bool.not_false, Bool.and_true, Bool.true_and, Bool.and_false, Bool.false_and, Bool.or_true, Bool.true_or, Bool.or_false, Bool.false_or, cond_true, cond_false, List.getElem?_toArray, List.getElem?_cons_zero, List.getElem?_cons_succ, Nat.zero_add, Nat.add_zero, Nat.reduceAdd, forall_const, wi64, sh_shr]
    have e1 : IntKind.u64.bits = 64 := rfl
    have e2 : (n : Int) - 1 - i = ((n - 1 - i : Nat) : Int) := by omega
    rw [e1, shr8 v i (by omega), bv_of _ (Int.natCast_nonneg _), Int.toNat_natCast, e2]
    refine stxB_s hs2 (by simp [be_length]; omega) _ fun w3 hs3 => ?_
    refine ⟨⟨i + 1, by omega, by simp, ?_⟩, by simp [RowKit.intOf]; omega⟩
    have e3 : (List.replicate (n - i) (0 : UInt8) ++ be i v).set (n - 1 - i) (UInt8.ofNat (v / 256 ^ i)) = List.replicate (n - (i + 1)) 0 ++ be (i + 1) v := by
      rw [show n - i = (n - (i + 1)) + 1 by omega, List.replicate_succ', List.append_assoc, List.set_append_right _ _ (by simp; omega), be_cons]
      congr 1
      rw [show n - 1 - i - (List.replicate (n - (i + 1)) (0 : UInt8)).length = 0 by simp; omega]
      rfl
    rw [← e3]
    exact hs3
  · have hlt : ¬ i < n := by simpa using h
    obtain rfl : i = n := by omega
    exact hR _ _ (by simpa using hs2)
abbrev pk (g : Nat) (s : Value) (n : Nat) : Asn := blk g (Rdr.cells Q_pack_Packer ((true, s, 0), (n : Int))).toArray T_pack_Packer
theorem worksS (hs : Sep w0 w (pk g s n :: As)) : cal P f_pack_Packer_works [.pointer (some ⟨g, 0, none⟩)] w fun r w' => r = .bool true ∧ w = w' := by
  refine s_pack_Packer_works fun R hR => ?_
  unfold c_pack_Packer_works
  simp only [nilc_some, fad_mk, pik_true, pik_false, cnd_true, cnd_false, gif_same, gif_tf, gif_ft, gif_undef, bi_add, bi_sub, bi_mul, bi_eql, bi_neq, bi_lss, bi_leq, bi_gtr, bi_geq, notB_bool, cvi_int, lenS_mk, lenT_mk, ext0, ext1, ext2, nilP_mk, nilS_mk, fldv_agg, jn0_k, jn1_k, jn2_k, jn1_and, jn1_or, ex_some, Option.isNone_some, Option.isNone_none, Bool.false_bne, Bool.bne_true, Bool.bne_false, Bool.true_bne, Bool.not_true, Bool.not_false, Bool.and_true, Bool.true_and, Bool.and_false, Bool.false_and, Bool.or_true, Bool.true_or, Bool.or_false, Bool.false_or, cond_true, cond_false, List.getElem?_toArray, List.getElem?_cons_zero, List.getElem?_cons_succ, Nat.zero_add, Nat.add_zero, Nat.reduceAdd, forall_const, L_pack_Packer hs.blk, L_pack_Packer__kept hs.blk, L_pack_Packer__kept_made hs.blk, L_pack_Packer__kept_b hs.blk, L_pack_Packer__kept_err hs.blk, L_pack_Packer__limit hs.blk]
  exact hR _ _ ⟨rfl, rfl⟩
theorem putS (hs : Sep w0 w (pk g s n :: ownB s b :: As)) (hra : ∀ z, Sep w0 z As → RdB z.heap ha a) (hrc : ∀ z, Sep w0 z As → RdB z.heap hc c) (hn : n ≤ 8192) (hf : b.length + a.length + c.length ≤ n) :
    cal P f_pack_Packer_put [.pointer (some ⟨g, 0, none⟩), ha, hc] w fun v w' => v = .tuple #[] ∧ ∃ s', Sep w0 w' (pk g s' n :: ownB s' (b ++ a ++ c) :: As) := by
  refine s_pack_Packer_put fun R hR => ?_
  unfold c_pack_Packer_put
  refine cal_i (worksS hs) ?_
  rintro _ _ ⟨rfl, rfl⟩
  simp only [nilc_some, fad_mk, pik_true, pik_false, cnd_true, cnd_false, gif_same, gif_tf, gif_ft, gif_undef, bi_add, bi_sub, bi_mul, bi_eql, bi_neq, bi_lss, bi_leq, bi_gtr, bi_geq, notB_bool, cvi_int, lenS_mk, lenT_mk, ext0, ext1, ext2, nilP_mk, nilS_mk, fldv_agg, jn0_k, jn1_k, jn2_k, jn1_and, jn1_or, ex_some, Option.isNone_some, Option.isNone_none, Bool.false_bne, Bool.bne_true, Bool.bne_false, Bool.true_bne, Bool.not_true, Bool.not_false, Bool.and_true, Bool.true_and, Bool.and_false, Bool.false_and, Bool.or_true, Bool.true_or, Bool.or_false, Bool.false_or, cond_true, cond_false, List.getElem?_toArray, List.getElem?_cons_zero, List.getElem?_cons_succ, Nat.zero_add, Nat.add_zero, Nat.reduceAdd, forall_const]
  refine drw_s hs fun w1 hs1 _ => ?_
  have hlb := (Sep.rd hs1.p1).len
  have hla := (hra _ hs1.tail.tail).len
  have hlc := (hrc _ hs1.tail.tail).len
  simp only [nilc_some, fad_mk, pik_true, pik_false, cnd_true, cnd_false, gif_same, gif_tf, gif_ft, gif_undef, bi_add, bi_sub, bi_mul, bi_eql, bi_neq, bi_lss, bi_leq, bi_gtr, bi_geq, notB_bool, cvi_int, lenS_mk, lenT_mk, ext0, ext1, ext2, nilP_mk, nilS_mk, fldv_agg, jn0_k, jn1_k, jn2_k, jn1_and, jn1_or, ex_some, Option.isNone_some, Option.isNone_none, Bool.false_bne, Bool.bne_true, Bool.bne_false, Bool.true_bne, Bool.not_true, Bool.not_false, Bool.and_true, Bool.true_and, Bool.and_false, Bool.false_and, Bool.or_true, Bool.true_or, Bool.or_false, Bool.false_or, cond_true, cond_false, List.getElem?_toArray, List.getElem?_cons_zero, List.getElem?_cons_succ, Nat.zero_add, Nat.add_zero, Nat.reduceAdd, forall_const, L_pack_Packer hs1.blk, L_pack_Packer__kept hs1.blk, L_pack_Packer__kept_made hs1.blk, L_pack_Packer__kept_b hs1.blk, L_pack_Packer__kept_err hs1.blk, L_pack_Packer__limit hs1.blk, hlb, hla, hlc]
  rw [wi64 (x := (n : Int) - b.length) (by omega) (by omega), decide_eq_false (by omega)]
  simp only [nilc_some, fad_mk, pik_true, pik_false, cnd_true, cnd_false, gif_same, gif_tf, gif_ft, gif_undef, bi_add, bi_sub, bi_mul, bi_eql, bi_neq, bi_lss, bi_leq, bi_gtr, bi_geq, notB_bool, cvi_int, lenS_mk, lenT_mk, ext0, ext1, ext2, nilP_mk, nilS_mk, fldv_agg, jn0_k, jn1_k, jn2_k, jn1_and, jn1_or, ex_some, Option.isNone_some, Option.isNone_none, Bool.false_bne, Bool.bne_true, Bool.bne_false, Bool.true_bne, Bool.not_true, Bool.not_false, Bool.and_true, Bool.true_and, Bool.and_false, Bool.false_and, Bool.or_true, Bool.true_or, Bool.or_false, Bool.false_or, cond_true, cond_false, List.getElem?_toArray, List.getElem?_cons_zero, List.getElem?_cons_succ, Nat.zero_add, Nat.add_zero, Nat.reduceAdd, forall_const]
  rw [wi64 (by omega) (by omega), decide_eq_false (by omega)]
  simp only [nilc_some, fad_mk, pik_true, pik_false, cnd_true, cnd_false, gif_same, gif_tf, gif_ft, gif_undef, bi_add, bi_sub, bi_mul, bi_eql, bi_neq, bi_lss, bi_leq, bi_gtr, bi_geq, notB_bool, cvi_int, lenS_mk, lenT_mk, ext0, ext1, ext2, nilP_mk, nilS_mk, fldv_agg, jn0_k, jn1_k, jn2_k, jn1_and, jn1_or, ex_some, Option.isNone_some, Option.isNone_none, Bool.false_bne, Bool.bne_true, Bool.bne_false, Bool.true_bne, Bool.not_true, Bool.not_false, Bool.and_true, Bool.true_and, Bool.and_false, Bool.false_and, Bool.or_true, Bool.true_or, Bool.or_false, Bool.false_or, cond_true, cond_false, List.getElem?_toArray, List.getElem?_cons_zero, List.getElem?_cons_succ, Nat.zero_add, Nat.add_zero, Nat.reduceAdd, forall_const, L_pack_Packer hs1.blk, L_pack_Packer__kept hs1.blk, L_pack_Packer__kept_made hs1.blk, L_pack_Packer__kept_b hs1.blk, L_pack_Packer__kept_err hs1.blk, L_pack_Packer__limit hs1.blk]
  refine appB_s ST_bytes UT_bytes (by simp) hs1.p1 (hra _ hs1.tail.tail) (by omega) fun s1 w2 hs2 => ?_
  refine appB_s ST_bytes UT_bytes (by simp) hs2 (hrc _ hs2.tail.tail) (by simp; omega) fun s2 w3 hs3 => ?_
  refine St_pack_Packer__kept_b hs3.p1 (Sep.one hs3) fun w4 hs4 => ?_
  exact hR _ _ ⟨rfl, s2, hs4⟩
theorem NewS (n : Nat) (hn : n ≤ 8192) : cal P f_pack_New [.int .i64 n] w fun v w' => ∃ g, v = .pointer (some ⟨g, 0, none⟩) ∧ Sep w w' [pk g (.slice none 0 0) n, ownB (.slice none 0 0) []] := by
  refine s_pack_New fun R hR => ?_
  unfold c_pack_New
  rw [B_pack_Packer_1]
  refine bx_s (Sep.start w).nil fun g w1 hs => ?_
  simp only [nilc_some, fad_mk, pik_true, pik_false, cnd_true, cnd_false, gif_same, gif_tf, gif_ft, gif_undef, bi_add, bi_sub, bi_mul, bi_eql, bi_neq, bi_lss, bi_leq, bi_gtr, bi_geq, notB_bool, cvi_int, lenS_mk, lenT_mk, ext0, ext1, ext2, nilP_mk, nilS_mk, fldv_agg, jn0_k, jn1_k, jn2_k, jn1_and, jn1_or, ex_some, Option.isNone_some, Option.isNone_none, Bool.false_bne, Bool.bne_true, Bool.bne_false, Bool.true_bne, Bool.not_true, Bool.not_false, Bool.and_true, Bool.true_and, Bool.and_false, Bool.false_and, Bool.or_true, Bool.true_or, Bool.or_false, Bool.false_or, cond_true, cond_false, List.getElem?_toArray, List.getElem?_cons_zero, List.getElem?_cons_succ, Nat.zero_add, Nat.add_zero, Nat.reduceAdd, forall_const]
  refine St_pack_Packer__kept_made hs fun w2 hs2 => ?_
  rw [decide_eq_false (by omega), decide_eq_false (by omega)]
  simp only [nilc_some, fad_mk, pik_true, pik_false, cnd_true, cnd_false, gif_same, gif_tf, gif_ft, gif_undef, bi_add, bi_sub, bi_mul, bi_eql, bi_neq, bi_lss, bi_leq, bi_gtr, bi_geq, notB_bool, cvi_int, lenS_mk, lenT_mk, ext0, ext1, ext2, nilP_mk, nilS_mk, fldv_agg, jn0_k, jn1_k, jn2_k, jn1_and, jn1_or, ex_some, Option.isNone_some, Option.isNone_none, Bool.false_bne, Bool.bne_true, Bool.bne_false, Bool.true_bne, Bool.not_true, Bool.not_false, Bool.and_true, Bool.true_and, Bool.and_false, Bool.false_and, Bool.or_true, Bool.true_or, Bool.or_false, Bool.false_or, cond_true, cond_false, List.getElem?_toArray, List.getElem?_cons_zero, List.getElem?_cons_succ, Nat.zero_add, Nat.add_zero, Nat.reduceAdd, forall_const]
  exact hR _ _ ⟨g, rfl, hs2⟩
/-- What a call on a packer gives. -/
def PkQ (w0 : World) (As : List Asn) (g n : Nat) (b : List UInt8) (v : Value) (w' : World) : Prop := v = .tuple #[] ∧ ∃ s', Sep w0 w' (pk g s' n :: ownB s' b :: As)
section
variable (hs : Sep w0 w (pk g s n :: ownB s b :: As)) (hn : n ≤ 8192)
include hs hn
theorem putnumS {m : Nat} {K : World → Prop} (hrc : ∀ z, Sep w0 z As → RdB z.heap hc c) (hm : m ≤ 8) (hv : v < 18446744073709551616) (hf : b.length + m + c.length ≤ n) (h : ∀ s' w', Sep w0 w' (pk g s' n :: ownB s' (b ++ (be m v ++ c)) :: As) → K w') :
    cal P f_pack_number [.int .i64 m, .int .u64 v] w fun t w => cal P f_pack_Packer_put [.pointer (some ⟨g, 0, none⟩), t, hc] w fun _ w => K w := by
  refine cal_i (numberS hm hv) ?_
  rintro t w1 hs1
  replace hs1 := (hs.join hs1).q2
  refine cal_i (putS (As := ownB t (be m v) :: As) hs1 (fun z hz => Sep.rd hz) (fun z hz => hrc z hz.tail) hn (by rw [be_length]; omega)) ?_
  rintro _ w2 ⟨rfl, s', hs2⟩
  have := hs2.d2
  rw [List.append_assoc] at this
  exact h s' w2 this
theorem ShortS (hv : v < 65536) (hf : b.length + 2 ≤ n) : cal P f_pack_Packer_Short [.pointer (some ⟨g, 0, none⟩), .int .u16 v] w (PkQ w0 As g n (b ++ be 2 v)) := by
  refine s_pack_Packer_Short fun R hR => ?_
  unfold c_pack_Packer_Short
  simp (disch := omega) only [nilc_some, fad_mk, pik_true, pik_false, cnd_true, cnd_false, gif_same, gif_tf, gif_ft, gif_undef, bi_add, bi_sub, bi_mul, bi_eql, bi_neq, bi_lss, bi_leq, bi_gtr, bi_geq, notB_bool, cvi_int, lenS_mk, lenT_mk, ext0, ext1, ext2, nilP_mk, nilS_mk, fldv_agg, jn0_k, jn1_k, jn2_k, jn1_and, jn1_or, ex_some, Option.isNone_some, Option.isNone_none, Bool.false_bne, Bool.bne_true, Bool.bne_false, Bool.true_bne, Bool.not_true, Bool.not_false, Bool.and_true, Bool.true_and, Bool.and_false, Bool.false_and, Bool.or_true, Bool.true_or, Bool.or_false, Bool.false_or, cond_true, cond_false, List.getElem?_toArray, List.getElem?_cons_zero, List.getElem?_cons_succ, Nat.zero_add, Nat.add_zero, Nat.reduceAdd, forall_const, wu64i]
  refine putnumS (m := 2) hs hn (c := []) (fun z _ => rdNil z) (by omega) (by omega) (by simpa using hf) fun s' w' h => ?_
  rw [List.append_nil] at h
  exact hR _ _ ⟨rfl, s', h⟩
theorem IntS (hv : v < 4294967296) (hf : b.length + 4 ≤ n) : cal P f_pack_Packer_Int [.pointer (some ⟨g, 0, none⟩), .int .u32 v] w (PkQ w0 As g n (b ++ be 4 v)) := by
  refine s_pack_Packer_Int fun R hR => ?_
  unfold c_pack_Packer_Int
  simp (disch := omega) only [nilc_some, fad_mk, pik_true, pik_false, cnd_true, cnd_false, gif_same, gif_tf, gif_ft, gif_undef, bi_add, bi_sub, bi_mul, bi_eql, bi_neq, bi_lss, bi_leq, bi_gtr, bi_geq, notB_bool, cvi_int, lenS_mk, lenT_mk, ext0, ext1, ext2, nilP_mk, nilS_mk, fldv_agg, jn0_k, jn1_k, jn2_k, jn1_and, jn1_or, ex_some, Option.isNone_some, Option.isNone_none, Bool.false_bne, Bool.bne_true, Bool.bne_false, Bool.true_bne, Bool.not_true, Bool.not_false, Bool.and_true, Bool.true_and, Bool.and_false, Bool.false_and, Bool.or_true, Bool.true_or, Bool.or_false, Bool.false_or, cond_true, cond_false, List.getElem?_toArray, List.getElem?_cons_zero, List.getElem?_cons_succ, Nat.zero_add, Nat.add_zero, Nat.reduceAdd, forall_const, wu64i]
  refine putnumS (m := 4) hs hn (c := []) (fun z _ => rdNil z) (by omega) (by omega) (by simpa using hf) fun s' w' h => ?_
  rw [List.append_nil] at h
  exact hR _ _ ⟨rfl, s', h⟩
theorem LongS (hv : v < 18446744073709551616) (hf : b.length + 8 ≤ n) : cal P f_pack_Packer_Long [.pointer (some ⟨g, 0, none⟩), .int .u64 v] w (PkQ w0 As g n (b ++ be 8 v)) := by
  refine s_pack_Packer_Long fun R hR => ?_
  unfold c_pack_Packer_Long
  refine putnumS (m := 8) hs hn (c := []) (fun z _ => rdNil z) (by omega) hv (by simpa using hf) fun s' w' h => ?_
  rw [List.append_nil] at h
  exact hR _ _ ⟨rfl, s', h⟩
theorem FixedS (hrc : ∀ z, Sep w0 z As → RdB z.heap hc c) (hf : b.length + c.length ≤ n) : cal P f_pack_Packer_Fixed [.pointer (some ⟨g, 0, none⟩), hc] w (PkQ w0 As g n (b ++ c)) := by
  refine s_pack_Packer_Fixed fun R hR => ?_
  unfold c_pack_Packer_Fixed
  refine cal_i (putS (a := []) hs (fun z _ => rdNil z) hrc hn (by simpa using hf)) ?_
  rintro _ w' ⟨rfl, s', h⟩
  rw [List.append_nil] at h
  exact hR _ _ ⟨rfl, s', h⟩
theorem BytesS (hrc : ∀ z, Sep w0 z As → RdB z.heap hc c) (hf : b.length + 4 + c.length ≤ n) : cal P f_pack_Packer_Bytes [.pointer (some ⟨g, 0, none⟩), hc] w (PkQ w0 As g n (b ++ (be 4 c.length ++ c))) := by
  refine s_pack_Packer_Bytes fun R hR => ?_
  unfold c_pack_Packer_Bytes
  simp (disch := omega) only [nilc_some, fad_mk, pik_true, pik_false, cnd_true, cnd_false, gif_same, gif_tf, gif_ft, gif_undef, bi_add, bi_sub, bi_mul, bi_eql, bi_neq, bi_lss, bi_leq, bi_gtr, bi_geq, notB_bool, cvi_int, lenS_mk, lenT_mk, ext0, ext1, ext2, nilP_mk, nilS_mk, fldv_agg, jn0_k, jn1_k, jn2_k, jn1_and, jn1_or, ex_some, Option.isNone_some, Option.isNone_none, Bool.false_bne, Bool.bne_true, Bool.bne_false, Bool.true_bne, Bool.not_true, Bool.not_false, Bool.and_true, Bool.true_and, Bool.and_false, Bool.false_and, Bool.or_true, Bool.true_or, Bool.or_false, Bool.false_or, cond_true, cond_false, List.getElem?_toArray, List.getElem?_cons_zero, List.getElem?_cons_succ, Nat.zero_add, Nat.add_zero, Nat.reduceAdd, forall_const, (hrc _ hs.tail.tail).len, wu64i]
  exact putnumS (m := 4) hs hn hrc (by omega) (by omega) (by omega) fun s' w' h => hR _ _ ⟨rfl, s', h⟩
omit hn in
theorem OutS (hb : b.length ≤ 8192) : cal P f_pack_Packer_Out [.pointer (some ⟨g, 0, none⟩)] w fun v w' => ∃ r, v = .tuple #[r, .int .i64 0] ∧ Sep w0 w' (ownB r b :: pk g s n :: ownB s b :: As) := by
  refine s_pack_Packer_Out fun R hR => ?_
  unfold c_pack_Packer_Out
  have herr : cal P f_pack_Packer_Err [.pointer (some ⟨g, 0, none⟩)] w fun v w' => v = .int .i64 0 ∧ w = w' := by
    refine s_pack_Packer_Err fun R hR => ?_
    unfold c_pack_Packer_Err
    simp only [nilc_some, fad_mk, pik_true, pik_false, cnd_true, cnd_false, gif_same, gif_tf, gif_ft, gif_undef, bi_add, bi_sub, bi_mul, bi_eql, bi_neq, bi_lss, bi_leq, bi_gtr, bi_geq, notB_bool, cvi_int, lenS_mk, lenT_mk, ext0, ext1, ext2, nilP_mk, nilS_mk, fldv_agg, jn0_k, jn1_k, jn2_k, jn1_and, jn1_or, ex_some, Option.isNone_some, Option.isNone_none, Bool.false_bne, Bool.bne_true, Bool.bne_false, Bool.true_bne, Bool.not_true, Bool.not_false, Bool.and_true, Bool.true_and, Bool.and_false, Bool.false_and, Bool.or_true, Bool.true_or, Bool.or_false, Bool.false_or, cond_true, cond_false, List.getElem?_toArray, List.getElem?_cons_zero, List.getElem?_cons_succ, Nat.zero_add, Nat.add_zero, Nat.reduceAdd, forall_const, L_pack_Packer hs.blk, L_pack_Packer__kept hs.blk, L_pack_Packer__kept_made hs.blk, L_pack_Packer__kept_b hs.blk, L_pack_Packer__kept_err hs.blk, L_pack_Packer__limit hs.blk]
    exact hR _ _ ⟨rfl, rfl⟩
  refine cal_i herr ?_
  rintro _ _ ⟨rfl, rfl⟩
  simp only [nilc_some, fad_mk, pik_true, pik_false, cnd_true, cnd_false, gif_same, gif_tf, gif_ft, gif_undef, bi_add, bi_sub, bi_mul, bi_eql, bi_neq, bi_lss, bi_leq, bi_gtr, bi_geq, notB_bool, cvi_int, lenS_mk, lenT_mk, ext0, ext1, ext2, nilP_mk, nilS_mk, fldv_agg, jn0_k, jn1_k, jn2_k, jn1_and, jn1_or, ex_some, Option.isNone_some, Option.isNone_none, Bool.false_bne, Bool.bne_true, Bool.bne_false, Bool.true_bne, Bool.not_true, Bool.not_false, Bool.and_true, Bool.true_and, Bool.and_false, Bool.false_and, Bool.or_true, Bool.true_or, Bool.or_false, Bool.false_or, cond_true, cond_false, List.getElem?_toArray, List.getElem?_cons_zero, List.getElem?_cons_succ, Nat.zero_add, Nat.add_zero, Nat.reduceAdd, forall_const, L_pack_Packer hs.blk, L_pack_Packer__kept hs.blk, L_pack_Packer__kept_made hs.blk, L_pack_Packer__kept_b hs.blk, L_pack_Packer__kept_err hs.blk, L_pack_Packer__limit hs.blk, (Sep.rd hs.p1).len, show ((0 : Int) != 0) = false from rfl]
  refine mkB_s hs ST_bytes ZC_uint8 (by omega) fun g1 w1 hs1 => ?_
  simp only [nilc_some, fad_mk, pik_true, pik_false, cnd_true, cnd_false, gif_same, gif_tf, gif_ft, gif_undef, bi_add, bi_sub, bi_mul, bi_eql, bi_neq, bi_lss, bi_leq, bi_gtr, bi_geq, notB_bool, cvi_int, lenS_mk, lenT_mk, ext0, ext1, ext2, nilP_mk, nilS_mk, fldv_agg, jn0_k, jn1_k, jn2_k, jn1_and, jn1_or, ex_some, Option.isNone_some, Option.isNone_none, Bool.false_bne, Bool.bne_true, Bool.bne_false, Bool.true_bne, Bool.not_true, Bool.not_false, Bool.and_true, Bool.true_and, Bool.and_false, Bool.false_and, Bool.or_true, Bool.true_or, Bool.or_false, Bool.false_or, cond_true, cond_false, List.getElem?_toArray, List.getElem?_cons_zero, List.getElem?_cons_succ, Nat.zero_add, Nat.add_zero, Nat.reduceAdd, forall_const, L_pack_Packer (Sep.p1 hs1).blk, L_pack_Packer__kept (Sep.p1 hs1).blk, L_pack_Packer__kept_made (Sep.p1 hs1).blk, L_pack_Packer__kept_b (Sep.p1 hs1).blk, L_pack_Packer__kept_err (Sep.p1 hs1).blk, L_pack_Packer__limit (Sep.p1 hs1).blk]
  refine cpyB_s ST_bytes hs1 (Sep.rd hs1.p2) fun w2 hs2 => ?_
  have e1 : b.take (List.replicate b.length (0 : UInt8)).length ++ (List.replicate b.length (0 : UInt8)).drop b.length = b := by simp
  rw [e1] at hs2
  exact hR _ _ ⟨_, rfl, hs2⟩
end
end
end Go.Fx
