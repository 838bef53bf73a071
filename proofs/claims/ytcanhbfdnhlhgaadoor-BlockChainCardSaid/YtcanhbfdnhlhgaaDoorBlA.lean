/-
  Rows of blocks; what the statements of this chapter share: the example, and whether blocks are short.
-/
import Derived.Test.YtcanhbfdnhlhgaaDoorBkF
set_option linter.unusedVariables false
set_option linter.unusedSimpArgs false
namespace Go.Fx
abbrev BV := Blk × Value
def BV.t (x : BV) : Vec 32 × Int × Value := (x.1.p, x.1.h, x.2)
/-- A slice of blocks, each with what its data read as. -/
def BRows (h : Heap) (v : Value) (l : List BV) : Prop := Rows' Q_api_Block h v (l.map BV.t) ∧ ∀ x ∈ l, RdB h x.2 x.1.d
theorem BRows.fr {w w' : World} {v : Value} {l : List BV} (h : BRows w.heap v l) (hf : Fr [] w w') : BRows w'.heap v l := ⟨h.1.fr hf, fun x hx => (h.2 x hx).fr hf (off_nil _)⟩
theorem BRows.len {h : Heap} {v : Value} {l : List BV} (hr : BRows h v l) (K : Value → Prop) : lenS v K = K (.int .i64 l.length) := by
  have := hr.1.len K
  rwa [List.length_map] at this
/-- 'l[j]'. -/
theorem BRows.ld {w : World} {v : Value} {l : List BV} {j : Nat} {x : BV} (hr : BRows w.heap v l) (hj : l[j]? = some x) (k : IntKind) {K : Value → Prop} (h : K (bq x.1 x.2)) : ixs 34 v (.int k (j : Int)) fun t => ldN 34 t w.heap K := by
  have : (l.map BV.t)[j]? = some x.t := by rw [List.getElem?_map, hj]; rfl
  exact Rows'.ldN (q := Q_api_Block) (by decide) hr.1 this k h
theorem qV (a : Vec 32 × Int × Value) : (Value.agg (Rdr.cells Q_api_Block a).toArray).cells = (Rdr.cells Q_api_Block a).toArray := rfl
section
variable {w0 w : World} {As : List Asn} {v : Value}
theorem short_spec {l : List BV} (hr : BRows w.heap v l) (hl63 : l.length ≤ 9223372036854775807) : cal P f_law03_short [v] w fun r w' => Fr [] w w' ∧ ∃ t, r = .bool t ∧ (t = true → ∀ x ∈ l, x.1.d.length ≤ 3000) := by
  refine s_law03_short fun R hR => ?_
  unfold c_law03_short
  simp only [hr.len]
  refine ⟨fun y w' => ∃ i : Nat, y = .int .i64 i ∧ i ≤ l.length ∧ (∀ x ∈ l.take i, x.1.d.length ≤ 3000) ∧ Fr [] w w', fun y _ => (l.length - RowKit.intOf y).toNat, ⟨0, rfl, by omega, by simp, Fr.refl _ _⟩, ?_⟩
  rintro _ w1 ⟨i, rfl, hi, hall, hf⟩ -
  simp only [nilc_some, fad_mk, pik_true, pik_false, cnd_true, cnd_false, gif_same, gif_tf, gif_ft, gif_undef, bi_add, bi_sub, bi_mul, bi_eql, bi_neq, bi_lss, bi_leq, bi_gtr, bi_geq, notB_bool, cvi_int, lenS_mk, lenT_mk, ext0, ext1, ext2, nilP_mk, nilS_mk, fldv_agg, jn0_k, jn1_k, jn2_k, jn1_and, jn1_or, ex_some, Option.isNone_some, Option.isNone_none, Bool.false_bne, Bool.bne_true, Bool.bne_false, Bool.true_bne, Bool.not_true, Bool.not_false, Bool.and_true, Bool.true_and, Bool.and_false, Bool.false_and, Bool.or_true, Bool.true_or, Bool.or_false, Bool.false_or, cond_true, cond_false, List.getElem?_toArray, List.getElem?_cons_zero, List.getElem?_cons_succ, Nat.zero_add, Nat.add_zero, Nat.reduceAdd, forall_const]
  rw [cnd_bool]
  refine ⟨fun h => ?_, fun h => ?_⟩
  · have hlt : i < l.length := by simp at h; omega
    have hx := List.getElem?_eq_getElem hlt
    generalize l[i] = x at hx
    have hr1 := hr.fr hf
    refine hr1.ld hx .i64 ?_
    have hs := (Sep.start w).old hf
    refine alloc_s hs (A_api_Block w1) fun g w2 hs2 => ?_
    have hd := hr.2 x (List.mem_of_getElem? hx)
    refine St_api_Block hs2 (one_api_Block hd.one) fun w3 hs3 => ?_
    have hl := (hs3.rdB hd).len
    simp only [L_api_Block hs3.blk, L_api_Block__Parent hs3.blk, L_api_Block__Height hs3.blk, L_api_Block__Data hs3.blk, hl, nilc_some, fad_mk, pik_true, pik_false, cnd_true, cnd_false, gif_same, gif_tf, gif_ft, gif_undef, bi_add, bi_sub, bi_mul, bi_eql, bi_neq, bi_lss, bi_leq, bi_gtr, bi_geq, notB_bool, cvi_int, lenS_mk, lenT_mk, ext0, ext1, ext2, nilP_mk, nilS_mk, fldv_agg, jn0_k, jn1_k, jn2_k, jn1_and, jn1_or, ex_some, Option.isNone_some, Option.isNone_none, Bool.false_bne, Bool.bne_true, Bool.bne_false, Bool.true_bne, Bool.not_true, Bool.not_false, Bool.and_true, Bool.true_and, Bool.and_false, Bool.false_and, Bool.or_true, Bool.true_or, Bool.or_false, Bool.false_or, cond_true, cond_false, List.getElem?_toArray, List.getElem?_cons_zero, List.getElem?_cons_succ, Nat.zero_add, Nat.add_zero, Nat.reduceAdd, forall_const]
    rw [cnd_bool]
    refine ⟨fun h3 => hR _ _ ⟨hs3.fr0, false, rfl, fun hc => by cases hc⟩, fun h3 => ?_⟩
    have h3 : x.1.d.length ≤ 3000 := by simp at h3; omega
    rw [wi64 (by omega) (by omega)]
    refine ⟨⟨i + 1, by simp, by omega, ?_, hs3.fr0⟩, by simp [RowKit.intOf]; omega⟩
    intro y hy
    rw [List.take_add_one, hx] at hy
    rcases List.mem_append.1 hy with hy | hy
    · exact hall y hy
    · simp at hy; subst hy; exact h3
  · have hge : i = l.length := by simp at h; omega
    subst hge
    rw [List.take_length] at hall
    exact hR _ _ ⟨hf, _, rfl, fun _ => hall⟩
def ga : Blk := Blk.first [103]
theorem ga_chk : ga.chk = 0 := by decide +kernel
theorem ga_bytes : ga.bytes = List.replicate 42 0 ++ [0, 0, 0, 1, 103] := by decide +kernel
theorem live_spec (hc : Cub w) : cal P f_law03_live [] w fun r w' => r = .bool true ∧ Fr [] w w' := by
  refine s_law03_live fun R hR => ?_
  unfold c_law03_live
  have h1 : ∀ w : World, (Instr.buildSlice T_sl_uint8 1 #[(0, .int .u8 103)]).run P w = .ok (.slice (some ⟨w.heap.size, 0, none⟩) 1 1) (w.alloc (.cells (bvs [103]).toArray T_uint8)) := fun w => by kernel_rfl
  have h2 : ∀ w : World, (Instr.buildSlice T_sl_uint8 1 #[(0, .int .u8 97)]).run P w = .ok (.slice (some ⟨w.heap.size, 0, none⟩) 1 1) (w.alloc (.cells (bvs [97]).toArray T_uint8)) := fun w => by kernel_rfl
  refine lit_s (l := [103]) (Sep.start w) U_sl_uint8 U_uint8 rfl (h1 w) fun g1 w1 hs1 => ?_
  refine cal_i (First_spec (Sep.rda hs1)) ?_
  rintro _ w2 ⟨v2, rfl, hs2⟩
  have eg : (Blk.first [103]).mk' = ga := by
    show (if ga.chk = 0 then ga else Blk.none) = ga
    rw [if_pos ga_chk]
  have ec : (Blk.first [103]).chk = 0 := ga_chk
  rw [eg] at hs2
  rw [eg, ec]
  replace hs2 := hs1.join hs2
  simp only [nilc_some, fad_mk, pik_true, pik_false, cnd_true, cnd_false, gif_same, gif_tf, gif_ft, gif_undef, bi_add, bi_sub, bi_mul, bi_eql, bi_neq, bi_lss, bi_leq, bi_gtr, bi_geq, notB_bool, cvi_int, lenS_mk, lenT_mk, ext0, ext1, ext2, nilP_mk, nilS_mk, fldv_agg, jn0_k, jn1_k, jn2_k, jn1_and, jn1_or, ex_some, Option.isNone_some, Option.isNone_none, Bool.false_bne, Bool.bne_true, Bool.bne_false, Bool.true_bne, Bool.not_true, Bool.not_false, Bool.and_true, Bool.true_and, Bool.and_false, Bool.false_and, Bool.or_true, Bool.true_or, Bool.or_false, Bool.false_or, cond_true, cond_false, List.getElem?_toArray, List.getElem?_cons_zero, List.getElem?_cons_succ, Nat.zero_add, Nat.add_zero, Nat.reduceAdd, forall_const]
  refine alloc_s hs2 (A_api_Block w2) fun g3 w3 hs3 => ?_
  refine St_api_Block hs3 (one_api_Block (Sep.one hs3.p1)) fun w4 hs4 => ?_
  simp only [L_api_Block hs4.blk, L_api_Block__Parent hs4.blk, L_api_Block__Height hs4.blk, L_api_Block__Data hs4.blk]
  refine cal_i (bkBytes_spec (b := ga) (Sep.rd hs4.p1) (by decide +kernel)) ?_
  rintro _ w5 ⟨s5, rfl, hs5⟩
  have eo : ga.out = List.replicate 42 0 ++ [0, 0, 0, 1, 103] := by rw [Blk.out, if_pos ga_chk, ga_bytes]
  rw [eo] at hs5
  rw [ga_chk]
  replace hs5 := (hs4.join hs5).p1
  simp only [nilc_some, fad_mk, pik_true, pik_false, cnd_true, cnd_false, gif_same, gif_tf, gif_ft, gif_undef, bi_add, bi_sub, bi_mul, bi_eql, bi_neq, bi_lss, bi_leq, bi_gtr, bi_geq, notB_bool, cvi_int, lenS_mk, lenT_mk, ext0, ext1, ext2, nilP_mk, nilS_mk, fldv_agg, jn0_k, jn1_k, jn2_k, jn1_and, jn1_or, ex_some, Option.isNone_some, Option.isNone_none, Bool.false_bne, Bool.bne_true, Bool.bne_false, Bool.true_bne, Bool.not_true, Bool.not_false, Bool.and_true, Bool.true_and, Bool.and_false, Bool.false_and, Bool.or_true, Bool.true_or, Bool.or_false, Bool.false_or, cond_true, cond_false, List.getElem?_toArray, List.getElem?_cons_zero, List.getElem?_cons_succ, Nat.zero_add, Nat.add_zero, Nat.reduceAdd, forall_const, L_api_Block hs5.blk, L_api_Block__Parent hs5.blk, L_api_Block__Height hs5.blk, L_api_Block__Data hs5.blk]
  refine lit_s (l := [97]) hs5 U_sl_uint8 U_uint8 rfl (h2 _) fun g6 w6 hs6 => ?_
  refine cal_i (Child_spec (b := ga) (d := [97]) (hc.fr hs6.fr0) (Sep.rd hs6.p3) (Sep.rda hs6) (by decide +kernel)) ?_
  rintro _ w7 ⟨v7, rfl, hs7⟩
  have hk : ga.kidOk [97] := ⟨ga_chk, by decide +kernel, by decide⟩
  have ek : ga.child [97] = ga.kid [97] := by rw [Blk.child, if_pos hk]
  have ee : ga.childE [97] = 0 := by rw [Blk.childE, if_pos hk]
  rw [ek] at hs7
  rw [ek, ee]
  replace hs7 := hs6.join hs7
  simp only [nilc_some, fad_mk, pik_true, pik_false, cnd_true, cnd_false, gif_same, gif_tf, gif_ft, gif_undef, bi_add, bi_sub, bi_mul, bi_eql, bi_neq, bi_lss, bi_leq, bi_gtr, bi_geq, notB_bool, cvi_int, lenS_mk, lenT_mk, ext0, ext1, ext2, nilP_mk, nilS_mk, fldv_agg, jn0_k, jn1_k, jn2_k, jn1_and, jn1_or, ex_some, Option.isNone_some, Option.isNone_none, Bool.false_bne, Bool.bne_true, Bool.bne_false, Bool.true_bne, Bool.not_true, Bool.not_false, Bool.and_true, Bool.true_and, Bool.and_false, Bool.false_and, Bool.or_true, Bool.true_or, Bool.or_false, Bool.false_or, cond_true, cond_false, List.getElem?_toArray, List.getElem?_cons_zero, List.getElem?_cons_succ, Nat.zero_add, Nat.add_zero, Nat.reduceAdd, forall_const]
  refine alloc_s hs7 (A_api_Block w7) fun g8 w8 hs8 => ?_
  refine St_api_Block hs8 (one_api_Block (Sep.one hs8.p1)) fun w9 hs9 => ?_
  simp only [nilc_some, fad_mk, pik_true, pik_false, cnd_true, cnd_false, gif_same, gif_tf, gif_ft, gif_undef, bi_add, bi_sub, bi_mul, bi_eql, bi_neq, bi_lss, bi_leq, bi_gtr, bi_geq, notB_bool, cvi_int, lenS_mk, lenT_mk, ext0, ext1, ext2, nilP_mk, nilS_mk, fldv_agg, jn0_k, jn1_k, jn2_k, jn1_and, jn1_or, ex_some, Option.isNone_some, Option.isNone_none, Bool.false_bne, Bool.bne_true, Bool.bne_false, Bool.true_bne, Bool.not_true, Bool.not_false, Bool.and_true, Bool.true_and, Bool.and_false, Bool.false_and, Bool.or_true, Bool.true_or, Bool.or_false, Bool.false_or, cond_true, cond_false, List.getElem?_toArray, List.getElem?_cons_zero, List.getElem?_cons_succ, Nat.zero_add, Nat.add_zero, Nat.reduceAdd, forall_const, show ((0 : Int) == 0) = true from rfl]
  refine jn1_dup ?_
  refine mkB_s (n := 42) hs9 S_sl_uint8 ZC_uint8 (by omega) fun g10 w10 hs10 => ?_
  have h3 : ∀ w : World, (Instr.buildSlice T_sl_uint8 5 #[(0, .int .u8 0), (1, .int .u8 0), (2, .int .u8 0), (3, .int .u8 1), (4, .int .u8 103)]).run P w = .ok (.slice (some ⟨w.heap.size, 0, none⟩) 5 5) (w.alloc (.cells (bvs [0, 0, 0, 1, 103]).toArray T_uint8)) := fun w => by kernel_rfl
  refine buildB_s (l := [0, 0, 0, 1, 103]) hs10 rfl (h3 _) fun g11 w11 hs11 => ?_
  refine appB_s S_sl_uint8 U_sl_uint8 (by simp) hs11.p1 (Sep.rd hs11) (by decide) fun v12 w12 hs12 => ?_
  refine cal_i (bEqual_spec (Sep.rd (hs12.pick [6] 7)) (Sep.rd hs12)) ?_
  rintro _ _ ⟨rfl, rfl⟩ _
  have hb8 := Sep.blk (hs12.pick [2] 3)
  have hb3 := Sep.blk (hs12.pick [5] 6)
  have eh : (ga.kid [97]).h = 1 := rfl
  simp only [nilc_some, fad_mk, pik_true, pik_false, cnd_true, cnd_false, gif_same, gif_tf, gif_ft, gif_undef, bi_add, bi_sub, bi_mul, bi_eql, bi_neq, bi_lss, bi_leq, bi_gtr, bi_geq, notB_bool, cvi_int, lenS_mk, lenT_mk, ext0, ext1, ext2, nilP_mk, nilS_mk, fldv_agg, jn0_k, jn1_k, jn2_k, jn1_and, jn1_or, ex_some, Option.isNone_some, Option.isNone_none, Bool.false_bne, Bool.bne_true, Bool.bne_false, Bool.true_bne, Bool.not_true, Bool.not_false, Bool.and_true, Bool.true_and, Bool.and_false, Bool.false_and, Bool.or_true, Bool.true_or, Bool.or_false, Bool.false_or, cond_true, cond_false, List.getElem?_toArray, List.getElem?_cons_zero, List.getElem?_cons_succ, Nat.zero_add, Nat.add_zero, Nat.reduceAdd, forall_const, beq_self_eq_true, L_api_Block hb8, L_api_Block__Parent hb8, L_api_Block__Height hb8, L_api_Block__Data hb8, L_api_Block hb3, L_api_Block__Parent hb3, L_api_Block__Height hb3, L_api_Block__Data hb3, eh]
  refine jn1_dup ?_
  refine cal_i (Linked_spec (a := ga.kid [97]) (b := ga) (hc.fr hs12.fr0) (Sep.rd (hs12.pick [3] 4)) (Sep.rd (hs12.pick [7] 8)) (by decide +kernel) (by rw [eh]; decide)) ?_
  rintro _ w13 ⟨rfl, hf13⟩
  have el : (ga.kid [97]).link ga = 0 := by
    have hkc : (ga.kid [97]).chk = 0 := Blk.kid_chk (by decide +kernel)
    rw [Blk.link, if_neg (by rw [ga_chk, hkc]; simp), if_pos ⟨rfl, rfl⟩]
  rw [el]
  simp only [nilc_some, fad_mk, pik_true, pik_false, cnd_true, cnd_false, gif_same, gif_tf, gif_ft, gif_undef, bi_add, bi_sub, bi_mul, bi_eql, bi_neq, bi_lss, bi_leq, bi_gtr, bi_geq, notB_bool, cvi_int, lenS_mk, lenT_mk, ext0, ext1, ext2, nilP_mk, nilS_mk, fldv_agg, jn0_k, jn1_k, jn2_k, jn1_and, jn1_or, ex_some, Option.isNone_some, Option.isNone_none, Bool.false_bne, Bool.bne_true, Bool.bne_false, Bool.true_bne, Bool.not_true, Bool.not_false, Bool.and_true, Bool.true_and, Bool.and_false, Bool.false_and, Bool.or_true, Bool.true_or, Bool.or_false, Bool.false_or, cond_true, cond_false, List.getElem?_toArray, List.getElem?_cons_zero, List.getElem?_cons_succ, Nat.zero_add, Nat.add_zero, Nat.reduceAdd, forall_const, show ((0 : Int) == 0) = true from rfl]
  exact hR _ _ ⟨rfl, (hs12.old hf13).fr0⟩
theorem efC_calA {P : Program} {f : FuncId} {args : List Value} {w0 w : World} {As : List Asn} {K : (World → Prop) → Value → World → Prop} (h : cal P f args w fun v w' => Sep w0 w' As ∧ K (fun u => Sep w0 u As) v w') : efC (cal P f args) w K :=
  cal_i h fun v w' hk => ⟨_, hk.1, hk.2⟩
/-- A block's variable, read in a region that draws. -/
theorem rdS_bb {S : World → Prop} {g : Nat} {b : Blk} {v : Value} {K : Value → Prop} (hS : ∀ u, S u → ∃ t fr, u.heap[g]? = some (.cells (Rdr.cells Q_api_Block (b.p, b.h, v)).toArray t fr)) (hk : K (bq b v)) :
    rdS S (fun w => ldN 34 (.pointer (some ⟨g, 0, none⟩)) w.heap) K := ⟨_, fun u hu => by obtain ⟨t, fr, hg⟩ := hS u hu; exact (L_api_Block hg _).mpr rfl, hk⟩
/-- A block that is an argument. -/
abbrev ab (x : Vec 32 × Int × Sl UInt8) : Blk := ⟨x.1, x.2.1, x.2.2.l⟩
theorem ab_rd {h : Heap} {x : Vec 32 × Int × Sl UInt8} (hx : Rdr.ok R_api_Block h x) : RdB h x.2.2.v (ab x).d := hx.2.2.1
theorem ab_h {h : Heap} {x : Vec 32 × Int × Sl UInt8} (hx : Rdr.ok R_api_Block h x) : (ab x).h ≤ maxI := by
  have := Go.bounds_i64 hx.2.1
  unfold maxI
  show x.2.1 ≤ _
  omega
theorem ab_len {h : Heap} {x : Vec 32 × Int × Sl UInt8} (hx : Rdr.ok R_api_Block h x) : (ab x).d.length ≤ 9223372036854775807 := hx.2.2.2.1
end
/-- 'for i := range d { d[i] ^= 255 }', d owned: it is still owned. -/
def flip (l : List UInt8) (i : Nat) : List UInt8 := (l.take i).map (· ^^^ 255) ++ l.drop i
theorem flip_len (l : List UInt8) (i : Nat) : (flip l i).length = l.length := by simp [flip]; omega
theorem flip_zero (l : List UInt8) : flip l 0 = l := by simp [flip]
theorem flip_get {l : List UInt8} {i : Nat} (h : i < l.length) : (flip l i)[i]'(by rw [flip_len]; exact h) = l[i] := by
  have e : ((l.take i).map (· ^^^ (255 : UInt8))).length = i := by simp; omega
  have h2 : (flip l i)[i]? = some l[i] := by
    unfold flip
    rw [List.getElem?_append_right (by omega), e, Nat.sub_self, List.getElem?_drop, Nat.add_zero, List.getElem?_eq_getElem h]
  rw [List.getElem?_eq_getElem (by rw [flip_len]; exact h)] at h2
  exact Option.some.inj h2
theorem flip_set {l : List UInt8} {i : Nat} (h : i < l.length) : (flip l i).set i (l[i] ^^^ 255) = flip l (i + 1) := by
  have e : ((l.take i).map (· ^^^ (255 : UInt8))).length = i := by simp; omega
  unfold flip
  rw [List.set_append_right _ _ (by omega), e, Nat.sub_self, List.drop_eq_getElem_cons h, List.set_cons_zero, List.take_succ_eq_append_getElem h, List.map_append, List.append_assoc]
  rfl
theorem xor255 (b : UInt8) (K : Value → Prop) : bi .xor (bv b) (.int .u8 255) K = K (bv (b ^^^ 255)) := by
  have e : (Value.int .u8 255) = bv 255 := rfl
  rw [e]
  unfold bv
  rw [bi_xor]
  have h1 : BitVec.ofInt 8 (b.toNat : Int) = b.toBitVec := by
    apply BitVec.eq_of_toNat_eq
    rw [BitVec.toNat_ofInt]
    have := b.toNat_lt
    have e : b.toBitVec.toNat = b.toNat := rfl
    omega
  have h2 : BitVec.ofInt 8 ((255 : UInt8).toNat : Int) = (255 : UInt8).toBitVec := rfl
  have h3 : (b ^^^ 255).toNat = (b.toBitVec ^^^ (255 : UInt8).toBitVec).toNat := rfl
  have h4 := (b ^^^ 255).toNat_lt
  show K (.int .u8 (IntKind.u8.wrap ((BitVec.ofInt 8 (b.toNat : Int) ^^^ BitVec.ofInt 8 ((255 : UInt8).toNat : Int)).toNat : Int))) = _
  rw [h1, h2, ← h3, wu8i (by omega) (by omega)]
/-- The loop that turns all bytes of an owned slice. -/
theorem flip_loop {w0 w : World} {As : List Asn} {d : Value} {l : List UInt8} {Kend : World → Prop} (hs : Sep w0 w (ownB d l :: As)) (hl : l.length ≤ 9223372036854775806) (h : ∀ w', Sep w0 w' (ownB d (flip l l.length) :: As) → Kend w') :
    lp1 (Value.int IntKind.i64 0) w fun _ t89 w again7 => bi BinOp.lss t89 (.int .i64 l.length) fun t90 =>
      cnd t90 (ixs 1 d t89 fun t94 => ld1 t94 w.heap fun t95 => bi BinOp.xor t95 (Value.int IntKind.u8 255) fun t96 => ixs 1 d t89 fun t97 => st1 t97 t96 w fun w => bi BinOp.add t89 (Value.int IntKind.i64 1) fun t98 => again7 t98 w) (Kend w) := by
  refine ⟨fun x w' => ∃ i : Nat, x = .int .i64 i ∧ i ≤ l.length ∧ Sep w0 w' (ownB d (flip l i) :: As), fun x _ => (l.length - RowKit.intOf x).toNat, ⟨0, rfl, by omega, by rw [flip_zero]; exact hs⟩, ?_⟩
  rintro _ w1 ⟨i, rfl, hi, hs1⟩ -
  simp only [nilc_some, fad_mk, pik_true, pik_false, cnd_true, cnd_false, gif_same, gif_tf, gif_ft, gif_undef, bi_add, bi_sub, bi_mul, bi_eql, bi_neq, bi_lss, bi_leq, bi_gtr, bi_geq, notB_bool, cvi_int, lenS_mk, lenT_mk, ext0, ext1, ext2, nilP_mk, nilS_mk, fldv_agg, jn0_k, jn1_k, jn2_k, jn1_and, jn1_or, ex_some, Option.isNone_some, Option.isNone_none, Bool.false_bne, Bool.bne_true, Bool.bne_false, Bool.true_bne, Bool.not_true, Bool.not_false, Bool.and_true, Bool.true_and, Bool.and_false, Bool.false_and, Bool.or_true, Bool.true_or, Bool.or_false, Bool.false_or, cond_true, cond_false, List.getElem?_toArray, List.getElem?_cons_zero, List.getElem?_cons_succ, Nat.zero_add, Nat.add_zero, Nat.reduceAdd, forall_const]
  rw [cnd_bool]
  refine ⟨fun hlt => ?_, fun hlt => ?_⟩
  · have hlt : i < l.length := by simp at hlt; omega
    refine ldxB_s hs1 (by rw [flip_len]; exact hlt) ?_
    rw [xor255, flip_get hlt]
    refine stxB_s hs1 (by rw [flip_len]; exact hlt) _ fun w2 hs2 => ?_
    rw [flip_set hlt] at hs2
    rw [wi64 (by omega) (by omega)]
    exact ⟨⟨i + 1, by simp, by omega, hs2⟩, by simp [RowKit.intOf]; omega⟩
  · have hge : i = l.length := by simp at hlt; omega
    subst hge
    exact h _ hs1
end Go.Fx
