/-
  Bytes, side by side with whatever else stands in memory: clones, equality, bytes that are appended, bytes that are turned; regions that draw.
-/
import Derived.Test.YticmbeincpaaeaaDoorTy
set_option linter.unusedVariables false
set_option linter.unusedSimpArgs false
namespace Go.Fx
theorem take_more {α : Type} {l m : List α} {i : Nat} (h : l.take i = m.take i) (h2 : l[i]? = m[i]?) : l.take (i + 1) = m.take (i + 1) := by rw [List.take_add_one, List.take_add_one, h, h2]
theorem take_ne {α : Type} {l m : List α} {i : Nat} (h2 : l[i]? ≠ m[i]?) : l ≠ m := fun h => h2 (by rw [h])
theorem drH_T {w0 w : World} {As : List Asn} {K : (World → Prop) → World → Prop} (hs : Sep w0 w As) (h : ∀ w', Sep w0 w' As → w'.heap = w.heap → K (fun _ => True) w') : drH w K := ⟨_, trivial, h _ (hs.drew _) rfl⟩
theorem efC_T {f : World → (Value → World → Prop) → Prop} {w : World} {K : (World → Prop) → Value → World → Prop} (hm : ∀ K' K'' : Value → World → Prop, (∀ v w, K' v w → K'' v w) → f w K' → f w K'') (h : f w fun v w' => K (fun _ => True) v w') : efC f w K :=
  hm _ _ (fun v w' hk => ⟨_, trivial, hk⟩) h
theorem efC_calT {P : Program} {f : FuncId} {args : List Value} {w : World} {K : (World → Prop) → Value → World → Prop} (h : cal P f args w fun v w' => K (fun _ => True) v w') : efC (cal P f args) w K := efC_T (fun _ _ hk h => cal_i h hk) h
/-- So many bytes of a name, the others nothing. -/
def part (o : List UInt8) (i : Nat) : List UInt8 := o.take i ++ List.replicate (o.length - i) 0
theorem part_len (o : List UInt8) {i : Nat} (hi : i ≤ o.length) : (part o i).length = o.length := by simp [part]; omega
theorem part_set {o : List UInt8} {i : Nat} {b : UInt8} (hb : o[i]? = some b) : (part o i).set i b = part o (i + 1) := by
  have hi := (List.getElem?_eq_some_iff.1 hb).1
  have hl : (o.take i).length = i := by simp; omega
  unfold part
  rw [List.set_append_right _ _ (by omega), hl, Nat.sub_self, show o.length - i = (o.length - (i + 1)) + 1 by omega, List.replicate_succ, List.set_cons_zero, List.take_add_one, hb]
  simp
theorem part_zero (o : List UInt8) : part o 0 = List.replicate o.length 0 := by simp [part]
theorem part_all {o : List UInt8} : part o o.length = o := by simp [part]
section
variable {w0 w : World} {As : List Asn} {b s : Value} {l m : List UInt8}
theorem efC_calA {P : Program} {f : FuncId} {args : List Value} {w0 w : World} {As : List Asn} {K : (World → Prop) → Value → World → Prop} (h : cal P f args w fun v w' => Sep w0 w' As ∧ K (fun u => Sep w0 u As) v w') : efC (cal P f args) w K :=
  cal_i h fun v w' hk => ⟨_, hk.1, hk.2⟩
theorem st_b {g i : Nat} {o : List UInt8} {t : TypeId} {u : UInt8} {K : World → Prop} (hs : Sep w0 w (blk g (bvs (part o i)).toArray t :: As)) (hu : o[i]? = some u)
    (h : ∀ w', Sep w0 w' (blk g (bvs (part o (i + 1))).toArray t :: As) → K w') : st1 (.pointer (some ⟨g, i, none⟩)) (bv u) w K := by
  have hi := (List.getElem?_eq_some_iff.1 hu).1
  refine st1_s hs (by simp [bvs, part_len o (Nat.le_of_lt hi)]; omega) rfl fun w' hs' => h w' ?_
  have e : (bvs (part o i)).toArray.setIfInBounds i (bv u) = (bvs (part o (i + 1))).toArray := by
    rw [← part_set hu]
    apply Array.ext'
    simp [bvs, List.map_set]
  rw [e] at hs'
  exact hs'
theorem ixa_w {g n : Nat} (k : IntKind) {i : Nat} (hi : i < n) (K : Value → Prop) : ixa n 1 (.pointer (some ⟨g, 0, none⟩)) (.int k (i : Int)) K = K (.pointer (some ⟨g, i, none⟩)) := by
  rw [ixa_mk _ _ _ _ _ _ _ (by omega) (by omega), Int.toNat_natCast, Nat.zero_add, Nat.mul_one]
theorem app1 {u : UInt8} {K : Value → World → Prop} (hs : Sep w0 w (ownB s l :: As)) (hl : l.length ≤ 1000000) (hk : ∀ v' w', Sep w0 w' (ownB v' (l ++ [u]) :: As) → K v' w') :
    efP P (Instr.buildSlice T_sl_uint8 1 #[(0, bv u)]) w fun t w => efP P (Builtin.append_ #[T_sl_uint8, T_sl_uint8] T_sl_uint8 #[s, t]) w K := by
  have hr : ∀ w : World, (Instr.buildSlice T_sl_uint8 1 #[(0, bv u)]).run P w = .ok (.slice (some ⟨w.heap.size, 0, none⟩) 1 1) (w.alloc (.cells (bvs [u]).toArray T_uint8)) := fun w => by kernel_rfl
  refine buildB_s (l := [u]) hs rfl (hr w) fun g w1 h1 => ?_
  exact appB_s S_sl_uint8 U_sl_uint8 (by simp) h1.p1 h1.rd (by simp; omega) fun v' w' h2 => hk v' w' h2.d1
theorem app0 {K : Value → World → Prop} (j : Int) (hj : j = 0 ∨ j = 128) (hs : Sep w0 w (ownB s l :: As)) (hl : l.length ≤ 1000000) (hk : ∀ v' w', Sep w0 w' (ownB v' (l ++ [if j = 0 then 0 else 128]) :: As) → K v' w') :
    efP P (Instr.buildSlice T_sl_uint8 1 #[(0, .int .u8 j)]) w fun t w => efP P (Builtin.append_ #[T_sl_uint8, T_sl_uint8] T_sl_uint8 #[s, t]) w K := by
  rcases hj with rfl | rfl
  · exact app1 (u := 0) hs hl hk
  · exact app1 (u := 128) hs hl hk
theorem bEqual_spec {x y : Value} {l m : List UInt8} (hx : RdB w.heap x l) (hy : RdB w.heap y m) : cal P f_bytes_Equal [x, y] w fun v w' => v = .bool (l == m) ∧ w = w' := by
  refine s_bytes_Equal fun R hR => ?_
  unfold c_bytes_Equal
  rw [rdP_eq (conv_str UT_bytes UT_uint8 UT_string hx), rdP_eq (conv_str UT_bytes UT_uint8 UT_string hy), eqS_str]
  exact hR _ _ ⟨rfl, rfl⟩
theorem bClone_spec (hb : RdB w.heap b l) (hl : l.length ≤ 140737488355328) : cal P f_bytes_Clone [b] w fun r w' => Sep w w' [ownB r l] := by
  refine s_bytes_Clone fun R hR => ?_
  unfold c_bytes_Clone
  obtain ⟨a, c, hv, hl', hh⟩ := id hb
  subst hv
  cases a with
  | none =>
    have h0 : l = [] := by
      rcases hh with h0 | ⟨_, _, _, _, _, h, _⟩
      · exact List.eq_nil_of_length_eq_zero (by omega)
      · cases h
    subst h0
    simp only [nilc_some, fad_mk, pik_true, pik_false, cnd_true, cnd_false, gif_same, gif_tf, gif_ft, gif_undef, bi_add, bi_sub, bi_mul, bi_eql, bi_neq, bi_lss, bi_leq, bi_gtr, bi_geq, notB_bool, cvi_int, lenS_mk, lenT_mk, ext0, ext1, ext2, nilP_mk, nilS_mk, fldv_agg, jn0_k, jn1_k, jn2_k, jn1_and, jn1_or, ex_some, Option.isNone_some, Option.isNone_none, Bool.false_bne, Bool.bne_true, Bool.bne_false, Bool.true_bne, Bool.not_true, Bool.not_false, Bool.and_true, Bool.true_and, Bool.and_false, Bool.false_and, Bool.or_true, Bool.true_or, Bool.or_false, Bool.false_or, cond_true, cond_false, List.getElem?_toArray, List.getElem?_cons_zero, List.getElem?_cons_succ, Nat.zero_add, Nat.add_zero, Nat.reduceAdd, forall_const]
    exact hR _ _ (Sep.start w).nil
  | some a =>
    simp only [nilc_some, fad_mk, pik_true, pik_false, cnd_true, cnd_false, gif_same, gif_tf, gif_ft, gif_undef, bi_add, bi_sub, bi_mul, bi_eql, bi_neq, bi_lss, bi_leq, bi_gtr, bi_geq, notB_bool, cvi_int, lenS_mk, lenT_mk, ext0, ext1, ext2, nilP_mk, nilS_mk, fldv_agg, jn0_k, jn1_k, jn2_k, jn1_and, jn1_or, ex_some, Option.isNone_some, Option.isNone_none, Bool.false_bne, Bool.bne_true, Bool.bne_false, Bool.true_bne, Bool.not_true, Bool.not_false, Bool.and_true, Bool.true_and, Bool.and_false, Bool.false_and, Bool.or_true, Bool.true_or, Bool.or_false, Bool.false_or, cond_true, cond_false, List.getElem?_toArray, List.getElem?_cons_zero, List.getElem?_cons_succ, Nat.zero_add, Nat.add_zero, Nat.reduceAdd, forall_const]
    have hb1 : ∀ w : World, (Instr.buildSlice T_sl_uint8 0 #[]).run P w = .ok (.slice (some ⟨w.heap.size, 0, none⟩) 0 0) (w.alloc (.cells (bvs []).toArray T_uint8)) := fun w => by kernel_rfl
    refine buildB_s (l := []) (Sep.start w) rfl (hb1 _) fun g w1 hs => ?_
    refine appB_s S_sl_uint8 U_sl_uint8 (by simp) hs (hs.rdB hb) (by simp; omega) fun v' w2 hs => ?_
    exact hR _ _ (by simpa using hs)
end
/-- 'for i := range d { d[i] ^= 255 }', d owned: it is still owned. -/
def flip (l : List UInt8) (i : Nat) : List UInt8 := (l.take i).map (· ^^^ 255) ++ l.drop i
theorem flip_len (l : List UInt8) (i : Nat) : (flip l i).length = l.length := by simp [flip]; omega
theorem flip_zero (l : List UInt8) : flip l 0 = l := by simp [flip]
theorem flip_get {l : List UInt8} {i : Nat} (h : i < l.length) : (flip l i)[i]'(by rw [flip_len]; exact h) = l[i] := by
  have e : ((l.take i).map (· ^^^ (255 : UInt8))).length = i := by simp; omega
  have h2 : (flip l i)[i]? = some l[i] := by
    unfold flip
    rw [List.getElem?_append_right (by omega), e, Nat.sub_self, List.getElem?_drop, Nat.add_zero, List.getElem?_eq_getElem h]
  rw [List.getElem?_eq_getElem (by rw [flip_len]; exact h)] at h2
  exact Option.some.inj h2
theorem flip_set {l : List UInt8} {i : Nat} (h : i < l.length) : (flip l i).set i (l[i] ^^^ 255) = flip l (i + 1) := by
  have e : ((l.take i).map (· ^^^ (255 : UInt8))).length = i := by simp; omega
  unfold flip
  rw [List.set_append_right _ _ (by omega), e, Nat.sub_self, List.drop_eq_getElem_cons h, List.set_cons_zero, List.take_succ_eq_append_getElem h, List.map_append, List.append_assoc]
  rfl
theorem xor255 (b : UInt8) (K : Value → Prop) : bi .xor (bv b) (.int .u8 255) K = K (bv (b ^^^ 255)) := by
  have e : (Value.int .u8 255) = bv 255 := rfl
  rw [e]
  unfold bv
  rw [bi_xor]
  have h1 : BitVec.ofInt 8 (b.toNat : Int) = b.toBitVec := by
    apply BitVec.eq_of_toNat_eq
    rw [BitVec.toNat_ofInt]
    have := b.toNat_lt
    have e : b.toBitVec.toNat = b.toNat := rfl
    omega
  have h2 : BitVec.ofInt 8 ((255 : UInt8).toNat : Int) = (255 : UInt8).toBitVec := rfl
  have h3 : (b ^^^ 255).toNat = (b.toBitVec ^^^ (255 : UInt8).toBitVec).toNat := rfl
  have h4 := (b ^^^ 255).toNat_lt
  show K (.int .u8 (IntKind.u8.wrap ((BitVec.ofInt 8 (b.toNat : Int) ^^^ BitVec.ofInt 8 ((255 : UInt8).toNat : Int)).toNat : Int))) = _
  rw [h1, h2, ← h3, wu8i (by omega) (by omega)]
/-- The loop that turns all bytes of an owned slice. -/
theorem flip_loop {w0 w : World} {As : List Asn} {d : Value} {l : List UInt8} {Kend : World → Prop} (hs : Sep w0 w (ownB d l :: As)) (hl : l.length ≤ 9223372036854775806) (h : ∀ w', Sep w0 w' (ownB d (flip l l.length) :: As) → Kend w') :
    lp1 (Value.int IntKind.i64 0) w fun _ t89 w again7 => bi BinOp.lss t89 (.int .i64 l.length) fun t90 =>
      cnd t90 (ixs 1 d t89 fun t94 => ld1 t94 w.heap fun t95 => bi BinOp.xor t95 (Value.int IntKind.u8 255) fun t96 => ixs 1 d t89 fun t97 => st1 t97 t96 w fun w => bi BinOp.add t89 (Value.int IntKind.i64 1) fun t98 => again7 t98 w) (Kend w) := by
  refine ⟨fun x w' => ∃ i : Nat, x = .int .i64 i ∧ i ≤ l.length ∧ Sep w0 w' (ownB d (flip l i) :: As), fun x _ => (l.length - RowKit.intOf x).toNat, ⟨0, rfl, by omega, by rw [flip_zero]; exact hs⟩, ?_⟩
  rintro _ w1 ⟨i, rfl, hi, hs1⟩ -
  simp only [nilc_some, fad_mk, pik_true, pik_false, cnd_true, cnd_false, gif_same, gif_tf, gif_ft, gif_undef, bi_add, bi_sub, bi_mul, bi_eql, bi_neq, bi_lss, bi_leq, bi_gtr, bi_geq, notB_bool, cvi_int, lenS_mk, lenT_mk, ext0, ext1, ext2, nilP_mk, nilS_mk, fldv_agg, jn0_k, jn1_k, jn2_k, jn1_and, jn1_or, ex_some, Option.isNone_some, Option.isNone_none, Bool.false_bne, Bool.bne_true, Bool.bne_false, Bool.true_bne, Bool.not_true, Bool.not_false, Bool.and_true, Bool.true_and, Bool.and_false, Bool.false_and, Bool.or_true, Bool.true_or, Bool.or_false, Bool.false_or, cond_true, cond_false, List.getElem?_toArray, List.getElem?_cons_zero, List.getElem?_cons_succ, Nat.zero_add, Nat.add_zero, Nat.reduceAdd, forall_const]
  rw [cnd_bool]
  refine ⟨fun hlt => ?_, fun hlt => ?_⟩
  · have hlt : i < l.length := by simp at hlt; omega
    refine ldxB_s hs1 (by rw [flip_len]; exact hlt) ?_
    rw [xor255, flip_get hlt]
    refine stxB_s hs1 (by rw [flip_len]; exact hlt) _ fun w2 hs2 => ?_
    rw [flip_set hlt] at hs2
    rw [wi64 (by omega) (by omega)]
    exact ⟨⟨i + 1, by simp, by omega, hs2⟩, by simp [RowKit.intOf]; omega⟩
  · have hge : i = l.length := by simp at hlt; omega
    subst hge
    exact h _ hs1
end Go.Fx
