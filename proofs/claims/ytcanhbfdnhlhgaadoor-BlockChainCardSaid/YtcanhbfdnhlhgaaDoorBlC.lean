/-
  BlockChain, walked.
-/
import Derived.Test.YtcanhbfdnhlhgaaDoorBlA
set_option linter.unusedVariables false
set_option linter.unusedSimpArgs false
namespace Go.Fx
theorem parts_drop {α β : Type} {s : Nat} {g : α → List β} (hg : ∀ a, (g a).length = s) : ∀ (l : List α) (k : Nat), (l.flatMap g).drop (k * s) = (l.drop k).flatMap g
  | [], k => by simp
  | b :: l, 0 => by simp
  | b :: l, k + 1 => by
    rw [List.drop_succ_cons, List.flatMap_cons, ← parts_drop hg l k, Nat.succ_mul, Nat.add_comm, ← List.drop_drop, List.drop_left' (hg b)]
theorem Rows'.take {α : Type} {q : Rdr α} {h : Heap} {a : Option Addr} {n c k : Nat} {l : List α} (hr : Rows' q h (.slice a n c) l) (hk : k ≤ l.length) (c' : Nat) : Rows' q h (.slice a k c') (l.take k) := by
  have hn : n = l.length := by obtain ⟨_, _, hv, _⟩ := hr; cases hv; rfl
  subst hn
  have := Cel.take (k := k) hr hk c'
  unfold Rows'
  rw [parts_take q.len] at this
  rw [List.length_take, Nat.min_eq_left hk]
  exact this
theorem Rows'.drop {α : Type} {q : Rdr α} {h : Heap} {a : Option Addr} {n c k : Nat} {l : List α} (hr : Rows' q h (.slice a n c) l) (hk : k ≤ l.length) (hc : l.length ≤ c) (c' : Nat) : Rows' q h (.slice (if c = k then a else a.map (·.add (k * q.size))) (n - k) c') (l.drop k) := by
  have hn : n = l.length := by obtain ⟨_, _, hv, _⟩ := hr; cases hv; rfl
  subst hn
  have := Cel.drop (k := k) hr hk hc c'
  unfold Rows'
  rw [parts_drop q.len] at this
  rw [List.length_drop]
  exact this
theorem Sep.on {w0 w : World} {As : List Asn} {A : Asn} (h : Sep w0 w As) (hm : A ∈ As) : ∃ F, A.on w.heap F := by
  obtain ⟨s, t, rfl⟩ := List.append_of_mem hm
  exact h.dropL.head
/-- Blocks, newest first, each a child of the next one. -/
def IsRow (l : List BV) : Prop := (∀ x ∈ l, x.1.chk = 0 ∧ x.1.h ≤ maxI) ∧ ∀ i x y, l[i]? = some x → l[i + 1]? = some y → x.1.link y.1 = 0
theorem IsRow.take {l : List BV} (h : IsRow l) (k : Nat) : IsRow (l.take k) := by
  refine ⟨fun x hx => h.1 x (List.mem_of_mem_take hx), fun i x y hx hy => h.2 i x y ?_ ?_⟩
  · rw [List.getElem?_take] at hx
    split at hx
    · exact hx
    · cases hx
  · rw [List.getElem?_take] at hy
    split at hy
    · exact hy
    · cases hy
theorem IsRow.drop {l : List BV} (h : IsRow l) (k : Nat) : IsRow (l.drop k) := by
  refine ⟨fun x hx => h.1 x (List.mem_of_mem_drop hx), fun i x y hx hy => h.2 (k + i) x y ?_ ?_⟩
  · rw [List.getElem?_drop] at hx; exact hx
  · rw [List.getElem?_drop] at hy; exact hy
theorem IsRow.cons {x : BV} {l : List BV} (h : IsRow l) (hc : x.1.chk = 0) (hh : x.1.h ≤ maxI) (hl : ∀ y, l[0]? = some y → x.1.link y.1 = 0) : IsRow (x :: l) := by
  refine ⟨fun y hy => ?_, fun i y z hy hz => ?_⟩
  · rcases List.mem_cons.1 hy with rfl | hy
    · exact ⟨hc, hh⟩
    · exact h.1 y hy
  · cases i with
    | zero =>
      simp at hy
      subst hy
      exact hl z (by simpa using hz)
    | succ i => exact h.2 i y z (by simpa using hy) (by simpa using hz)
section
variable {w : World} {v : Value} {l : List BV}
theorem Row_spec (hc : Cub w) (hr : BRows w.heap v l) (hl : l.length ≤ 1000) (hrow : IsRow l) : cal P f_block_Row [v] w fun r w' => r = .tuple #[.int .i64 l.length, .int .i64 0] ∧ Fr [] w w' := by
  refine s_block_Row fun R hR => ?_
  unfold c_block_Row
  simp only [hr.len]
  refine ⟨fun x w' => ∃ i : Nat, x = .int .i64 i ∧ i ≤ l.length ∧ Fr [] w w', fun x _ => (l.length - RowKit.intOf x).toNat, ⟨0, rfl, by omega, Fr.refl _ _⟩, ?_⟩
  rintro _ w1 ⟨i, rfl, hi, hf⟩ -
  simp only [nilc_some, fad_mk, pik_true, pik_false, cnd_true, cnd_false, gif_same, gif_tf, gif_ft, gif_undef, bi_add, bi_sub, bi_mul, bi_eql, bi_neq, bi_lss, bi_leq, bi_gtr, bi_geq, notB_bool, cvi_int, lenS_mk, lenT_mk, ext0, ext1, ext2, nilP_mk, nilS_mk, fldv_agg, jn0_k, jn1_k, jn2_k, jn1_and, jn1_or, ex_some, Option.isNone_some, Option.isNone_none, Bool.false_bne, Bool.bne_true, Bool.bne_false, Bool.true_bne, Bool.not_true, Bool.not_false, Bool.and_true, Bool.true_and, Bool.and_false, Bool.false_and, Bool.or_true, Bool.true_or, Bool.or_false, Bool.false_or, cond_true, cond_false, List.getElem?_toArray, List.getElem?_cons_zero, List.getElem?_cons_succ, Nat.zero_add, Nat.add_zero, Nat.reduceAdd, forall_const]
  rw [cnd_bool]
  refine ⟨fun h => ?_, fun h => ?_⟩
  · have hlt : i < l.length := by simp at h; omega
    refine ⟨fun w' => Fr [] w w', ?_, ?_⟩
    · change ixs _ _ _ _
      have hx := List.getElem?_eq_getElem hlt
      generalize l[i] = x at hx
      have hm := List.mem_of_getElem? hx
      have hxc := hrow.1 x hm
      have hd := hr.2 x hm
      refine (hr.fr hf).ld hx .i64 ?_
      refine alloc_s ((Sep.start w).old hf) (A_api_Block w1) fun g w2 hs2 => ?_
      refine St_api_Block hs2 (one_api_Block hd.one) fun w3 hs3 => ?_
      simp only [L_api_Block hs3.blk, L_api_Block__Parent hs3.blk, L_api_Block__Height hs3.blk, L_api_Block__Data hs3.blk]
      refine cal_i (Check_spec (hs3.rdB hd)) ?_
      rintro _ w4 ⟨rfl, hf4⟩
      have hs4 := hs3.old hf4
      rw [hxc.1]
      simp only [nilc_some, fad_mk, pik_true, pik_false, cnd_true, cnd_false, gif_same, gif_tf, gif_ft, gif_undef, bi_add, bi_sub, bi_mul, bi_eql, bi_neq, bi_lss, bi_leq, bi_gtr, bi_geq, notB_bool, cvi_int, lenS_mk, lenT_mk, ext0, ext1, ext2, nilP_mk, nilS_mk, fldv_agg, jn0_k, jn1_k, jn2_k, jn1_and, jn1_or, ex_some, Option.isNone_some, Option.isNone_none, Bool.false_bne, Bool.bne_true, Bool.bne_false, Bool.true_bne, Bool.not_true, Bool.not_false, Bool.and_true, Bool.true_and, Bool.and_false, Bool.false_and, Bool.or_true, Bool.true_or, Bool.or_false, Bool.false_or, cond_true, cond_false, List.getElem?_toArray, List.getElem?_cons_zero, List.getElem?_cons_succ, Nat.zero_add, Nat.add_zero, Nat.reduceAdd, forall_const, show ((0 : Int) != 0) = false from rfl]
      rw [cnd_bool]
      refine ⟨fun h0 => hs4.fr0, fun h0 => ?_⟩
      have h0 : 0 < i := by simp at h0; omega
      refine drH_s hs4 fun w5 hs5 _ => ?_
      have e : IntKind.i64.wrap ((i : Int) - 1) = ((i - 1 : Nat) : Int) := by rw [wi64 (by omega) (by omega)]; omega
      rw [e]
      simp only [rdS_ldN]
      have hlt' : i - 1 < l.length := by omega
      have hy := List.getElem?_eq_getElem hlt'
      generalize l[i - 1] = y at hy
      have hmy := List.mem_of_getElem? hy
      have hdy := hr.2 y hmy
      refine (hr.fr hs5.fr0).ld hy .i64 ?_
      simp only [L_api_Block hs5.blk, L_api_Block__Parent hs5.blk, L_api_Block__Height hs5.blk, L_api_Block__Data hs5.blk]
      refine efC_cal (cal_i (Linked_spec (a := y.1) (b := x.1) (hc.fr hs5.fr0) (hs5.rdB hdy) (hs5.rdB hd) hxc.2 (hrow.1 y hmy).2) ?_)
      rintro _ w6 ⟨rfl, hf6⟩
      rw [hrow.2 (i - 1) y x hy (by rw [show i - 1 + 1 = i by omega]; exact hx)]
      simp only [nilc_some, fad_mk, pik_true, pik_false, cnd_true, cnd_false, gif_same, gif_tf, gif_ft, gif_undef, bi_add, bi_sub, bi_mul, bi_eql, bi_neq, bi_lss, bi_leq, bi_gtr, bi_geq, notB_bool, cvi_int, lenS_mk, lenT_mk, ext0, ext1, ext2, nilP_mk, nilS_mk, fldv_agg, jn0_k, jn1_k, jn2_k, jn1_and, jn1_or, ex_some, Option.isNone_some, Option.isNone_none, Bool.false_bne, Bool.bne_true, Bool.bne_false, Bool.true_bne, Bool.not_true, Bool.not_false, Bool.and_true, Bool.true_and, Bool.and_false, Bool.false_and, Bool.or_true, Bool.true_or, Bool.or_false, Bool.false_or, cond_true, cond_false, List.getElem?_toArray, List.getElem?_cons_zero, List.getElem?_cons_succ, Nat.zero_add, Nat.add_zero, Nat.reduceAdd, forall_const, show ((0 : Int) != 0) = false from rfl]
      exact (hs5.old hf6).fr0
    · intro w2 hf2 _
      rw [wi64 (by omega) (by omega)]
      exact ⟨⟨i + 1, by simp, by omega, hf2⟩, by simp [RowKit.intOf]; omega⟩
  · exact hR _ _ ⟨rfl, hf⟩
def dts (l : List BV) : List Asn := l.map fun x => ownB x.2 x.1.d
theorem dts_rd {w0 z : World} {l : List BV} {x : BV} (h : Sep w0 z (dts l)) (hx : x ∈ l) : RdB z.heap x.2 x.1.d := by
  obtain ⟨F, hF⟩ := h.on (A := ownB x.2 x.1.d) (List.mem_map.2 ⟨x, hx, rfl⟩)
  exact OwnB.rd hF
theorem wChain {data : List (Sl UInt8)} {n : Nat} (hc : Cub w) (hd : Rdr.ok (rSl rBytes) w.heap ⟨v, data⟩) (hn : n < 256) :
    cal P f_law03_BlockChain [v, .int .u8 n] w fun r w' => r = .bool true ∧ Fr [] w w' := by
  refine s_law03_BlockChain fun R hR => ?_
  unfold c_law03_BlockChain
  have lv : ∀ {z : World}, Fr [] w z → cal P f_law03_live [] z R := fun {z} hf => cal_i (live_spec (hc.fr hf)) fun r w' hr => hR _ _ ⟨hr.1, hf.trans hr.2 (by simp) (by simp)⟩
  refine cal_i (live_spec hc) ?_
  rintro _ w1 ⟨rfl, hf1⟩
  have hs1 := (Sep.start w).old hf1
  have hlen : ∀ K, lenS v K = K (.int .i64 data.length) := rSl_len hd
  simp only [nilc_some, fad_mk, pik_true, pik_false, cnd_true, cnd_false, gif_same, gif_tf, gif_ft, gif_undef, bi_add, bi_sub, bi_mul, bi_eql, bi_neq, bi_lss, bi_leq, bi_gtr, bi_geq, notB_bool, cvi_int, lenS_mk, lenT_mk, ext0, ext1, ext2, nilP_mk, nilS_mk, fldv_agg, jn0_k, jn1_k, jn2_k, jn1_and, jn1_or, ex_some, Option.isNone_some, Option.isNone_none, Bool.false_bne, Bool.bne_true, Bool.bne_false, Bool.true_bne, Bool.not_true, Bool.not_false, Bool.and_true, Bool.true_and, Bool.and_false, Bool.false_and, Bool.or_true, Bool.true_or, Bool.or_false, Bool.false_or, cond_true, cond_false, List.getElem?_toArray, List.getElem?_cons_zero, List.getElem?_cons_succ, Nat.zero_add, Nat.add_zero, Nat.reduceAdd, forall_const, hlen]
  rw [cnd_bool]
  refine ⟨fun h => lv hf1, fun h => ?_⟩
  have h20 : data.length ≤ 20 := by simp at h; omega
  refine cal_i (First_spec (l := []) (rdNil w1)) ?_
  rintro _ w2 ⟨v2, rfl, hs2⟩
  obtain ⟨b0, hb0⟩ : ∃ b0, b0 = Blk.first [] := ⟨_, rfl⟩
  have h0c : (Blk.first []).chk = 0 := by decide +kernel
  have e1 : (Blk.first []).mk' = b0 := by rw [hb0, Blk.mk', if_pos h0c]
  rw [h0c]
  rw [e1] at hs2 ⊢
  have hb0c : b0.chk = 0 := by rw [hb0]; exact h0c
  have hb0h : b0.h = 0 := by rw [hb0]; rfl
  clear hb0 e1 h0c
  replace hs2 := hs1.join hs2
  simp only [nilc_some, fad_mk, pik_true, pik_false, cnd_true, cnd_false, gif_same, gif_tf, gif_ft, gif_undef, bi_add, bi_sub, bi_mul, bi_eql, bi_neq, bi_lss, bi_leq, bi_gtr, bi_geq, notB_bool, cvi_int, lenS_mk, lenT_mk, ext0, ext1, ext2, nilP_mk, nilS_mk, fldv_agg, jn0_k, jn1_k, jn2_k, jn1_and, jn1_or, ex_some, Option.isNone_some, Option.isNone_none, Bool.false_bne, Bool.bne_true, Bool.bne_false, Bool.true_bne, Bool.not_true, Bool.not_false, Bool.and_true, Bool.true_and, Bool.and_false, Bool.false_and, Bool.or_true, Bool.true_or, Bool.or_false, Bool.false_or, cond_true, cond_false, List.getElem?_toArray, List.getElem?_cons_zero, List.getElem?_cons_succ, Nat.zero_add, Nat.add_zero, Nat.reduceAdd, forall_const]
  refine alloc_s hs2 (A_api_Block w2) fun g3 w3 hs3 => ?_
  refine St_api_Block hs3 (one_api_Block (Sep.one hs3.p1)) fun w4 hs4 => ?_
  simp only [nilc_some, fad_mk, pik_true, pik_false, cnd_true, cnd_false, gif_same, gif_tf, gif_ft, gif_undef, bi_add, bi_sub, bi_mul, bi_eql, bi_neq, bi_lss, bi_leq, bi_gtr, bi_geq, notB_bool, cvi_int, lenS_mk, lenT_mk, ext0, ext1, ext2, nilP_mk, nilS_mk, fldv_agg, jn0_k, jn1_k, jn2_k, jn1_and, jn1_or, ex_some, Option.isNone_some, Option.isNone_none, Bool.false_bne, Bool.bne_true, Bool.bne_false, Bool.true_bne, Bool.not_true, Bool.not_false, Bool.and_true, Bool.true_and, Bool.and_false, Bool.false_and, Bool.or_true, Bool.true_or, Bool.or_false, Bool.false_or, cond_true, cond_false, List.getElem?_toArray, List.getElem?_cons_zero, List.getElem?_cons_succ, Nat.zero_add, Nat.add_zero, Nat.reduceAdd, forall_const, show ((0 : Int) != 0) = false from rfl, L_api_Block hs4.blk, L_api_Block__Parent hs4.blk, L_api_Block__Height hs4.blk, L_api_Block__Data hs4.blk]
  refine rows_lit hs4 S_sl_api_Block (l := [(b0.p, b0.h, v2)]) (V := fun a => .agg (Rdr.cells Q_api_Block a).toArray) qV rfl rfl (by decide) (by decide) fun g5 w5 hs5 => ?_
  refine ⟨fun t c w' => ∃ (i : Nat) (L : List BV) (b : Blk) (u : Value), c = .int .i64 i ∧ i ≤ data.length ∧ L[0]? = some (b, u) ∧ L.length = i + 1 ∧ b.h = i ∧ IsRow L ∧ Sep w w' (rows Q_api_Block t (L.map BV.t) :: bb g3 b u :: dts L), fun _ c _ => (data.length - RowKit.intOf c).toNat,
    ⟨0, [(b0, v2)], b0, v2, rfl, by omega, rfl, rfl, hb0h, ⟨fun x hx => by simp at hx; subst hx; exact ⟨hb0c, by rw [hb0h]; decide⟩, fun i x y hx hy => by simp at hy⟩, hs5⟩, ?_⟩
  rintro t7 _ w6 ⟨i, L, b, u, rfl, hi, hL0, hLl, hbh, hrow, hs6⟩ -
  have hbm : (b, u) ∈ L := List.mem_of_getElem? hL0
  have hbc := (hrow.1 _ hbm).1
  simp only [nilc_some, fad_mk, pik_true, pik_false, cnd_true, cnd_false, gif_same, gif_tf, gif_ft, gif_undef, bi_add, bi_sub, bi_mul, bi_eql, bi_neq, bi_lss, bi_leq, bi_gtr, bi_geq, notB_bool, cvi_int, lenS_mk, lenT_mk, ext0, ext1, ext2, nilP_mk, nilS_mk, fldv_agg, jn0_k, jn1_k, jn2_k, jn1_and, jn1_or, ex_some, Option.isNone_some, Option.isNone_none, Bool.false_bne, Bool.bne_true, Bool.bne_false, Bool.true_bne, Bool.not_true, Bool.not_false, Bool.and_true, Bool.true_and, Bool.and_false, Bool.false_and, Bool.or_true, Bool.true_or, Bool.or_false, Bool.false_or, cond_true, cond_false, List.getElem?_toArray, List.getElem?_cons_zero, List.getElem?_cons_succ, Nat.zero_add, Nat.add_zero, Nat.reduceAdd, forall_const]
  rw [cnd_bool]
  refine ⟨fun h => ?_, fun h => ?_⟩
  · have hlt : i < data.length := by simp at h; omega
    have hx := List.getElem?_eq_getElem hlt
    generalize data[i] = d at hx
    have hok6 : Rdr.ok (rSl rBytes) w6.heap ⟨v, data⟩ := (rSl rBytes).fr hd hs6.fr0
    refine rSl_ld1 hok6 hx (u := d.v) rfl ?_
    have hdd : rBytes.ok w.heap d := rSl_ok hd hx
    rw [(hs6.rdB hdd.1).len]
    simp only [nilc_some, fad_mk, pik_true, pik_false, cnd_true, cnd_false, gif_same, gif_tf, gif_ft, gif_undef, bi_add, bi_sub, bi_mul, bi_eql, bi_neq, bi_lss, bi_leq, bi_gtr, bi_geq, notB_bool, cvi_int, lenS_mk, lenT_mk, ext0, ext1, ext2, nilP_mk, nilS_mk, fldv_agg, jn0_k, jn1_k, jn2_k, jn1_and, jn1_or, ex_some, Option.isNone_some, Option.isNone_none, Bool.false_bne, Bool.bne_true, Bool.bne_false, Bool.true_bne, Bool.not_true, Bool.not_false, Bool.and_true, Bool.true_and, Bool.and_false, Bool.false_and, Bool.or_true, Bool.true_or, Bool.or_false, Bool.false_or, cond_true, cond_false, List.getElem?_toArray, List.getElem?_cons_zero, List.getElem?_cons_succ, Nat.zero_add, Nat.add_zero, Nat.reduceAdd, forall_const]
    rw [cnd_bool]
    refine ⟨fun h2 => hR _ _ ⟨rfl, hs6.fr0⟩, fun h2 => ?_⟩
    have hdl : d.l.length ≤ 200 := by simp at h2; omega
    have hko : b.kidOk d.l := ⟨hbc, by rw [hbh]; unfold maxI; omega, hdl⟩
    have ek : b.child d.l = b.kid d.l := by rw [Blk.child, if_pos hko]
    have ee : b.childE d.l = 0 := by rw [Blk.childE, if_pos hko]
    have hlk := (Blk.link_kid hko).1
    have hkh : (b.kid d.l).h = b.h + 1 := rfl
    have hck := Blk.chk_ok hbc
    have hkc : (b.kid d.l).chk = 0 := by rw [Blk.kid_chk hck.1, if_neg (by omega)]
    simp only [L_api_Block (Sep.p1 hs6).blk, L_api_Block__Parent (Sep.p1 hs6).blk, L_api_Block__Height (Sep.p1 hs6).blk, L_api_Block__Data (Sep.p1 hs6).blk]
    refine cal_i (Child_spec (hc.fr hs6.fr0) (dts_rd hs6.tail.tail hbm) (hs6.rdB hdd.1) (by rw [hbh]; unfold maxI; omega)) ?_
    rintro _ w7 ⟨v7, rfl, hs7⟩
    rw [ek] at hs7 ⊢
    rw [ee]
    generalize b.kid d.l = k at *
    replace hs7 := (hs6.join hs7).q2
    simp only [nilc_some, fad_mk, pik_true, pik_false, cnd_true, cnd_false, gif_same, gif_tf, gif_ft, gif_undef, bi_add, bi_sub, bi_mul, bi_eql, bi_neq, bi_lss, bi_leq, bi_gtr, bi_geq, notB_bool, cvi_int, lenS_mk, lenT_mk, ext0, ext1, ext2, nilP_mk, nilS_mk, fldv_agg, jn0_k, jn1_k, jn2_k, jn1_and, jn1_or, ex_some, Option.isNone_some, Option.isNone_none, Bool.false_bne, Bool.bne_true, Bool.bne_false, Bool.true_bne, Bool.not_true, Bool.not_false, Bool.and_true, Bool.true_and, Bool.and_false, Bool.false_and, Bool.or_true, Bool.true_or, Bool.or_false, Bool.false_or, cond_true, cond_false, List.getElem?_toArray, List.getElem?_cons_zero, List.getElem?_cons_succ, Nat.zero_add, Nat.add_zero, Nat.reduceAdd, forall_const]
    refine St_api_Block hs7.p1 (one_api_Block (Sep.one hs7.p2)) fun w8 hs8 => ?_
    have e3 : IntKind.i64.wrap ((i : Int) + 1) = ((i + 1 : Nat) : Int) := by rw [wi64 (by omega) (by omega)]; omega
    have e4 : (k.h != ((i + 1 : Nat) : Int)) = false := by rw [hkh, hbh]; simp
    simp only [nilc_some, fad_mk, pik_true, pik_false, cnd_true, cnd_false, gif_same, gif_tf, gif_ft, gif_undef, bi_add, bi_sub, bi_mul, bi_eql, bi_neq, bi_lss, bi_leq, bi_gtr, bi_geq, notB_bool, cvi_int, lenS_mk, lenT_mk, ext0, ext1, ext2, nilP_mk, nilS_mk, fldv_agg, jn0_k, jn1_k, jn2_k, jn1_and, jn1_or, ex_some, Option.isNone_some, Option.isNone_none, Bool.false_bne, Bool.bne_true, Bool.bne_false, Bool.true_bne, Bool.not_true, Bool.not_false, Bool.and_true, Bool.true_and, Bool.and_false, Bool.false_and, Bool.or_true, Bool.true_or, Bool.or_false, Bool.false_or, cond_true, cond_false, List.getElem?_toArray, List.getElem?_cons_zero, List.getElem?_cons_succ, Nat.zero_add, Nat.add_zero, Nat.reduceAdd, forall_const, show ((0 : Int) != 0) = false from rfl, L_api_Block hs8.blk, L_api_Block__Parent hs8.blk, L_api_Block__Height hs8.blk, L_api_Block__Data hs8.blk, e3, e4]
    refine rows_lit hs8 S_sl_api_Block (l := [(k.p, k.h, v7)]) (V := fun a => .agg (Rdr.cells Q_api_Block a).toArray) qV rfl rfl (by decide) (by decide) fun g9 w9 hs9 => ?_
    refine rows_app S_sl_api_Block U_sl_api_Block (by simp) hs9 (Sep.rows hs9.p2) ?_ (by simp [hLl]; omega) (by simp [hLl]; omega) fun v10 w10 hs10 => ?_
    · intro z hz
      obtain ⟨y, hy, hz⟩ := List.mem_flatMap.1 hz
      obtain ⟨x, hx, rfl⟩ := List.mem_map.1 hy
      exact one_api_Block (a := x.t) (dts_rd (w0 := w) (hs9.tail.tail.tail.tail) hx).one z hz
    refine ⟨⟨i + 1, (k, v7) :: L, k, v7, rfl, by omega, rfl, by simp [hLl], by rw [hkh, hbh]; simp, hrow.cons hkc (by rw [hkh, hbh]; unfold maxI; omega) (fun y hy => ?_), ?_⟩, by simp [RowKit.intOf]; omega⟩
    · rw [hL0] at hy
      cases hy
      exact hlk
    · exact hs10.d2
  · have hge : i = data.length := by simp at h; omega
    have hbr : ∀ {z : World}, Fr [] w6 z → BRows z.heap t7 L := fun {z} hf => BRows.fr ⟨Sep.rows hs6, fun x hx => dts_rd hs6.tail.tail hx⟩ hf
    obtain ⟨a7, c7, rfl, hc7⟩ := Sep.formR hs6
    rw [List.length_map] at hc7
    have hn8 : IntKind.i64.wrap (n : Int) = (n : Int) := wi64 (by omega) (by omega)
    have hL1 : IntKind.i64.wrap ((L.length : Int) + 1) = ((L.length + 1 : Nat) : Int) := by rw [wi64 (by omega) (by omega)]; omega
    simp only [nilc_some, fad_mk, pik_true, pik_false, cnd_true, cnd_false, gif_same, gif_tf, gif_ft, gif_undef, bi_add, bi_sub, bi_mul, bi_eql, bi_neq, bi_lss, bi_leq, bi_gtr, bi_geq, notB_bool, cvi_int, lenS_mk, lenT_mk, ext0, ext1, ext2, nilP_mk, nilS_mk, fldv_agg, jn0_k, jn1_k, jn2_k, jn1_and, jn1_or, ex_some, Option.isNone_some, Option.isNone_none, Bool.false_bne, Bool.bne_true, Bool.bne_false, Bool.true_bne, Bool.not_true, Bool.not_false, Bool.and_true, Bool.true_and, Bool.and_false, Bool.false_and, Bool.or_true, Bool.true_or, Bool.or_false, Bool.false_or, cond_true, cond_false, List.getElem?_toArray, List.getElem?_cons_zero, List.getElem?_cons_succ, Nat.zero_add, Nat.add_zero, Nat.reduceAdd, forall_const, List.length_map, hn8, hL1]
    rw [bi_rem .i64 _ _ _ (by omega), tmodn]
    have hk : n % (L.length + 1) ≤ L.length := by have := Nat.mod_lt n (show 0 < L.length + 1 by omega); omega
    generalize n % (L.length + 1) = k at *
    have hL30 : L.length ≤ 1000 := by omega
    simp only [List.length_map] at hbr
    refine cal_i (Row_spec (hc.fr hs6.fr0) (hbr (Fr.refl _ _)) hL30 hrow) ?_
    rintro _ w7 ⟨rfl, hf7⟩
    simp only [nilc_some, fad_mk, pik_true, pik_false, cnd_true, cnd_false, gif_same, gif_tf, gif_ft, gif_undef, bi_add, bi_sub, bi_mul, bi_eql, bi_neq, bi_lss, bi_leq, bi_gtr, bi_geq, notB_bool, cvi_int, lenS_mk, lenT_mk, ext0, ext1, ext2, nilP_mk, nilS_mk, fldv_agg, jn0_k, jn1_k, jn2_k, jn1_and, jn1_or, ex_some, Option.isNone_some, Option.isNone_none, Bool.false_bne, Bool.bne_true, Bool.bne_false, Bool.true_bne, Bool.not_true, Bool.not_false, Bool.and_true, Bool.true_and, Bool.and_false, Bool.false_and, Bool.or_true, Bool.true_or, Bool.or_false, Bool.false_or, cond_true, cond_false, List.getElem?_toArray, List.getElem?_cons_zero, List.getElem?_cons_succ, Nat.zero_add, Nat.add_zero, Nat.reduceAdd, forall_const]
    rw [slc_to (by omega)]
    have hb7 := hbr hf7
    have hk1 : BRows w7.heap (.slice a7 k c7) (L.take k) := ⟨by rw [List.map_take]; exact hb7.1.take (by rw [List.length_map]; exact hk) c7, fun x hx => hb7.2 x (List.mem_of_mem_take hx)⟩
    have hs7 := hs6.old hf7
    refine cal_i (Row_spec (hc.fr hs7.fr0) hk1 (by simp; omega) (hrow.take k)) ?_
    rintro _ w8 ⟨rfl, hf8⟩
    simp only [nilc_some, fad_mk, pik_true, pik_false, cnd_true, cnd_false, gif_same, gif_tf, gif_ft, gif_undef, bi_add, bi_sub, bi_mul, bi_eql, bi_neq, bi_lss, bi_leq, bi_gtr, bi_geq, notB_bool, cvi_int, lenS_mk, lenT_mk, ext0, ext1, ext2, nilP_mk, nilS_mk, fldv_agg, jn0_k, jn1_k, jn2_k, jn1_and, jn1_or, ex_some, Option.isNone_some, Option.isNone_none, Bool.false_bne, Bool.bne_true, Bool.bne_false, Bool.true_bne, Bool.not_true, Bool.not_false, Bool.and_true, Bool.true_and, Bool.and_false, Bool.false_and, Bool.or_true, Bool.true_or, Bool.or_false, Bool.false_or, cond_true, cond_false, List.getElem?_toArray, List.getElem?_cons_zero, List.getElem?_cons_succ, Nat.zero_add, Nat.add_zero, Nat.reduceAdd, forall_const]
    rw [slc_from hk]
    have hb8 := hbr (hf7.trans (H := []) hf8 (by simp) (by simp))
    have hk2 : BRows w8.heap (.slice (if c7 = k then a7 else a7.map (·.add (k * 34))) (L.length - k) (c7 - k)) (L.drop k) := ⟨by
      rw [List.map_drop]
      exact hb8.1.drop (by rw [List.length_map]; exact hk) (by rw [List.length_map]; exact hc7) (c7 - k), fun x hx => hb8.2 x (List.mem_of_mem_drop hx)⟩
    have hs8 := hs7.old hf8
    refine cal_i (Row_spec (hc.fr hs8.fr0) hk2 (by simp; omega) (hrow.drop k)) ?_
    rintro _ w9 ⟨rfl, hf9⟩
    have f1 : ((L.length : Int) == (L.length : Int)) = true := by simp
    have f2 : (((L.take k).length : Int) == (k : Int)) = true := by rw [List.length_take, Nat.min_eq_left hk]; simp
    have f3 : (((L.drop k).length : Int) == IntKind.i64.wrap ((L.length : Int) - (k : Int))) = true := by
      rw [wi64 (by omega) (by omega), List.length_drop]
      simp
      omega
    simp only [nilc_some, fad_mk, pik_true, pik_false, cnd_true, cnd_false, gif_same, gif_tf, gif_ft, gif_undef, bi_add, bi_sub, bi_mul, bi_eql, bi_neq, bi_lss, bi_leq, bi_gtr, bi_geq, notB_bool, cvi_int, lenS_mk, lenT_mk, ext0, ext1, ext2, nilP_mk, nilS_mk, fldv_agg, jn0_k, jn1_k, jn2_k, jn1_and, jn1_or, ex_some, Option.isNone_some, Option.isNone_none, Bool.false_bne, Bool.bne_true, Bool.bne_false, Bool.true_bne, Bool.not_true, Bool.not_false, Bool.and_true, Bool.true_and, Bool.and_false, Bool.false_and, Bool.or_true, Bool.true_or, Bool.or_false, Bool.false_or, cond_true, cond_false, List.getElem?_toArray, List.getElem?_cons_zero, List.getElem?_cons_succ, Nat.zero_add, Nat.add_zero, Nat.reduceAdd, forall_const, f1, f2, f3, show ((0 : Int) == 0) = true from rfl]
    exact hR _ _ ⟨rfl, (hs8.old hf9).fr0⟩
end
end Go.Fx
