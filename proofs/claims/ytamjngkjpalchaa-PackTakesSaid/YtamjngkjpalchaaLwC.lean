/-
  Law 1: lists of items.
-/
import Derived.Test.YtamjngkjpalchaaLwB
import Derived.Test.YtamjngkjpalchaaFxM
set_option linter.unusedVariables false
set_option linter.unusedSimpArgs false
namespace Go.Fx
def itc (p : It × Value) : List Value := [.int .i64 p.1.Do, .int .u64 p.1.v, p.2, .int .i64 p.1.n]
theorem itc_length (p : It × Value) : (itc p).length = 4 := rfl
def ItOk (h : Heap) (p : It × Value) : Prop := RdB h p.2 p.1.b ∧ p.1.v < 18446744073709551616 ∧ p.2.oneCell' = true ∧ p.1.b.length ≤ 9223372036854775807 ∧ -9223372036854775808 ≤ p.1.n ∧ p.1.n ≤ 9223372036854775807
/-- A slice reads as these items. -/
def RdI (h : Heap) (v : Value) (l : List (It × Value)) : Prop := Cel h v 4 l.length (l.flatMap itc) ∧ (∀ a n c, v = .slice a n c → n ≤ c) ∧ l.length ≤ 9223372036854775807 ∧ ∀ p ∈ l, ItOk h p
theorem ItOk.fr {w w' : World} {p : It × Value} (h : ItOk w.heap p) (hf : Fr [] w w') : ItOk w'.heap p := ⟨h.1.fr hf (off_nil _), h.2⟩
theorem RdI.fr {w w' : World} {v : Value} {l : List (It × Value)} (h : RdI w.heap v l) (hf : Fr [] w w') : RdI w'.heap v l :=
  ⟨h.1.fr hf (off_nil _), h.2.1, h.2.2.1, fun p hp => (h.2.2.2 p hp).fr hf⟩
theorem RdI.len {h : Heap} {v : Value} {l : List (It × Value)} (hr : RdI h v l) (K : Value → Prop) : lenS v K = K (.int .i64 l.length) := by
  obtain ⟨⟨a, c, rfl, _⟩, _⟩ := hr
  exact lenS_mk a _ c K
noncomputable def fsItem : Array Field := match P.underlying T_flurrylaw01_Item with
  | some (.struct fs) => fs
  | _ => #[]
theorem UT_item : P.underlying T_flurrylaw01_Item = some (.struct fsItem) := by kernel_rfl
theorem UT_items : P.underlying T_sl_flurrylaw01_Item = some (.slice T_flurrylaw01_Item) := by kernel_rfl
theorem CO_item : P.cellsOf T_flurrylaw01_Item = 4 := by kernel_rfl
theorem CO_uint8 : P.cellsOf T_uint8 = 1 := by kernel_rfl
theorem UT_int : P.underlying T_int = some (.int .i64) := by kernel_rfl
theorem UT_uint64 : P.underlying T_uint64 = some (.int .u64) := by kernel_rfl
theorem FS_item : (List.range 4).map (fun i => (fsItem[i]?).map fun f : Field => (f.type, f.offset, P.cellsOf f.type)) = [some (T_int, 0, 1), some (T_uint64, 1, 1), some (T_sl_uint8, 2, 1), some (T_int, 3, 1)] := by kernel_rfl
section
variable {H : Type} {enc : TypeId × Value → H} {w : World} {sp : Nat → Bool} {held : Bool}
/-- One item that is read. -/
theorem trod_item {fuel : Nat} {cs : List Value} {x : DataW H × List MemPlace} (h : DataW.trod enc P w 0 sp held fuel T_flurrylaw01_Item cs = some x) : ∃ p : It × Value, cs = itc p ∧ ItOk w.heap p := by
  obtain ⟨xs, n, -, -, hl, hxl, hf⟩ := DataW.trod_struct UT_item h
  rw [CO_item] at hl
  match cs, hl with
  | [c0, c1, c2, c3], _ =>
    have hfs := FS_item
    simp only [List.range_succ, List.range_zero, List.nil_append, List.map_append, List.map_cons, List.map_nil, List.cons_append, List.cons.injEq, and_true, Option.map_eq_some_iff, Prod.mk.injEq] at hfs
    obtain ⟨⟨f0, e0, t0, o0, s0⟩, ⟨f1, e1, t1, o1, s1⟩, ⟨f2, e2, t2, o2, s2⟩, ⟨f3, e3, t3, o3, s3⟩⟩ := hfs
    have hsz : ∀ (i : Nat) (f : Field), fsItem[i]? = some f → ∃ y, DataW.trod enc P w 0 sp held n f.type ((([c0, c1, c2, c3] : List Value).drop f.offset).take (P.cellsOf f.type)) = some y := fun i f hi => by
      rw [hf i f hi]
      exact ⟨_, List.getElem?_eq_getElem (by rw [hxl]; exact (Array.getElem?_eq_some_iff.1 hi).1)⟩
    obtain ⟨y0, h0⟩ := hsz 0 f0 e0
    obtain ⟨y1, h1⟩ := hsz 1 f1 e1
    obtain ⟨y2, h2⟩ := hsz 2 f2 e2
    obtain ⟨y3, h3⟩ := hsz 3 f3 e3
    rw [t0, o0, show P.cellsOf T_int = 1 from by kernel_rfl] at h0
    rw [t1, o1, show P.cellsOf T_uint64 = 1 from by kernel_rfl] at h1
    rw [t2, o2, show P.cellsOf T_sl_uint8 = 1 from by kernel_rfl] at h2
    rw [t3, o3, show P.cellsOf T_int = 1 from by kernel_rfl] at h3
    obtain ⟨z0, hz0, -, hw0⟩ := DataW.trod_int UT_int h0
    obtain ⟨z1, hz1, -, hw1⟩ := DataW.trod_int UT_uint64 h1
    obtain ⟨b, hb, hbl, hb1, -⟩ := trod_bytes (v := c2) UT_bytes UT_uint8 CO_uint8 h2
    obtain ⟨z3, hz3, -, hw3⟩ := DataW.trod_int UT_int h3
    have hb1' := bounds_u64 hw1
    have hb3 := bounds_i64 hw3
    obtain ⟨k, rfl⟩ := Int.eq_ofNat_of_zero_le hb1'.1
    simp at hz0 hz1 hz3
    subst hz0; subst hz1; subst hz3
    exact ⟨(⟨z0, k, b, z3⟩, c2), rfl, hb, by show k < 18446744073709551616; omega, hb1, hbl, hb3⟩
theorem trod_items {fuel : Nat} {v : Value} {x : DataW H × List MemPlace} (h : DataW.trod enc P w 0 sp held fuel T_sl_flurrylaw01_Item [v] = some x) : ∃ l, RdI w.heap v l := by
  obtain ⟨n, cs, m, hc, hn, h1, hnc, hi⟩ := trod_cel UT_items CO_item (by omega) h
  have hl : cs.length = n * 4 := by obtain ⟨_, _, _, hl, _⟩ := hc; exact hl
  have hall : ∀ i, i < n → ∃ p : It × Value, (cs.drop (i * 4)).take 4 = itc p ∧ ItOk w.heap p := fun i hin => by
    obtain ⟨y, hy⟩ := hi i hin
    exact trod_item hy
  haveI : Inhabited (It × Value) := ⟨(⟨0, 0, [], 0⟩, .nilIface)⟩
  obtain ⟨f, hf⟩ := Deep.choose_lt hall
  have hcs := parts_eq hl fun i hin => (hf i hin).1
  refine ⟨(List.range n).map f, ?_, hnc, by simpa using hn, fun p hp => ?_⟩
  · rw [List.length_map, List.length_range, List.flatMap_map, ← hcs]
    exact hc
  · obtain ⟨i, hin, rfl⟩ := List.mem_map.1 hp
    exact (hf i (by simpa using hin)).2
end
/-- 'for _, x := range l': the copy that a round takes. -/
theorem item_copy {w : World} {cs : Array Value} {K : Value → World → Prop} (hcs : cs.size = 4) (h1 : ∀ u ∈ cs.toList, u.oneCell' = true)
    (h : ∀ w' g, w.heap.size ≤ g → w'.heap[g]? = some (.cells cs T_flurrylaw01_Item (0, 0)) → Fr [] w w' → K (.pointer (some ⟨g, 0, none⟩)) w') :
    efP P (Instr.alloc T_flurrylaw01_Item true (.tuple #[])) w fun t w => stN 4 t (.agg cs) w fun w => K t w := by
  have hr : (Instr.alloc T_flurrylaw01_Item true (.tuple #[])).run P w = .ok (.pointer (some ⟨w.heap.size, 0, none⟩)) (w.alloc (.cells #[.int .i64 0, .int .u64 0, .slice none 0 0, .int .i64 0] T_flurrylaw01_Item)) := by kernel_rfl
  refine efP_run hr ?_
  refine stN_i (alloc_new w _) hcs (by simp) h1 fun w' hg hf => ?_
  have e : splice #[.int .i64 0, .int .u64 0, .slice none 0 0, .int .i64 0] 0 cs.toList = cs := by
    apply Array.ext'
    have : cs.toList.length = 4 := by simpa using hcs
    simp [splice, this]
  rw [e] at hg
  exact h w' _ (Nat.le_refl _) hg ((fr_alloc w _).trans hf (by simp) (by simp))
theorem itc_one {h : Heap} {p : It × Value} (hp : ItOk h p) : ∀ u ∈ (itc p).toArray.toList, u.oneCell' = true := by
  intro u hu
  simp [itc] at hu
  rcases hu with rfl | rfl | rfl | rfl <;> first | rfl | exact hp.2.2.1
theorem RdI.at {h : Heap} {v : Value} {l : List (It × Value)} (hr : RdI h v l) {i : Nat} {p : It × Value} (hi : l[i]? = some p) : (((l.flatMap itc).drop (i * 4)).take 4) = itc p := part_at itc_length hi
theorem few_spec {w : World} {v : Value} {l : List (It × Value)} (hr : RdI w.heap v l) :
    cal P f_law01_few [v] w fun r w' => ∃ f, r = .bool f ∧ (f = true → l.length ≤ 200 ∧ ∀ p ∈ l, p.1.b.length ≤ 200000) ∧ Fr [] w w' := by
  refine s_law01_few fun R hR => ?_
  unfold c_law01_few
  have hlen := hr.2.2.1
  rw [hr.len, min_int, show min (l.length : Int) 300 = ((min l.length 300 : Nat) : Int) by omega]
  obtain ⟨⟨a, c, hv, hl4, hh⟩, hcap, _, hok⟩ := id hr
  subst hv
  have hlc := hcap _ _ _ rfl
  rw [slc_to (by omega)]
  simp only [nilc_some, fad_mk, pik_true, pik_false, cnd_true, cnd_false, gif_same, gif_tf, gif_ft, gif_undef, bi_add, bi_sub, bi_mul, bi_eql, bi_neq, bi_lss, bi_leq, bi_gtr, bi_geq, notB_bool, cvi_int, lenS_mk, lenT_mk, ext0, ext1, ext2, nilP_mk, nilS_mk, fldv_agg, jn0_k, jn1_k, jn2_k, jn1_and, jn1_or, ex_some, Option.isNone_some, Option.isNone_none, Bool.false_bne, Bool.bne_true, Bool.bne_false, Bool.true_bne, Bool.not_true, Bool.not_false, Bool.and_true, Bool.true_and, Bool.and_false, Bool.false_and, Bool.or_true, Bool.true_or, Bool.or_false, Bool.false_or, cond_true, cond_false, List.getElem?_toArray, List.getElem?_cons_zero, List.getElem?_cons_succ, Nat.zero_add, Nat.add_zero, Nat.reduceAdd, forall_const]
  have hct := Cel.take (k := min l.length 300) hr.1 (by omega) c
  rw [parts_take itc_length] at hct
  refine ⟨fun x y w' => ∃ i m : Nat, i ≤ min l.length 300 ∧ x = .int .i64 m ∧ y = .int .i64 i ∧ m ≤ 1048576 ∧ (∀ (j : Nat) p, j < i → l[j]? = some p → min p.1.b.length 1048576 ≤ m) ∧ Fr [] w w',
    fun _ y _ => (min l.length 300 - RowKit.intOf y).toNat, ⟨0, 0, by omega, rfl, rfl, by omega, by simp, Fr.refl _ _⟩, ?_⟩
  rintro _ _ w1 ⟨i, m, hi, rfl, rfl, hm, hall, hf1⟩ -
  simp only [nilc_some, fad_mk, pik_true, pik_false, cnd_true, cnd_false, gif_same, gif_tf, gif_ft, gif_undef, bi_add, bi_sub, bi_mul, bi_eql, bi_neq, bi_lss, bi_leq, bi_gtr, bi_geq, notB_bool, cvi_int, lenS_mk, lenT_mk, ext0, ext1, ext2, nilP_mk, nilS_mk, fldv_agg, jn0_k, jn1_k, jn2_k, jn1_and, jn1_or, ex_some, Option.isNone_some, Option.isNone_none, Bool.false_bne, Bool.bne_true, Bool.bne_false, Bool.true_bne, Bool.not_true, Bool.not_false, Bool.and_true, Bool.true_and, Bool.and_false, Bool.false_and, Bool.or_true, Bool.true_or, Bool.or_false, Bool.false_or, cond_true, cond_false, List.getElem?_toArray, List.getElem?_cons_zero, List.getElem?_cons_succ, Nat.zero_add, Nat.add_zero, Nat.reduceAdd, forall_const]
  rw [cnd_bool]
  refine ⟨fun h => ?_, fun h => ?_⟩
  · have hlt : i < min l.length 300 := by simp at h; omega
    obtain ⟨p, hp⟩ : ∃ p, l[i]? = some p := ⟨_, List.getElem?_eq_getElem (by omega)⟩
    have hpm := List.mem_of_getElem? hp
    have hpk := (hok p hpm).fr hf1
    refine ldxN (hct.fr hf1 (off_nil _)) (by omega) (j := i) hlt ?_
    rw [part_at itc_length (show (l.take (min l.length 300))[i]? = some p by rw [List.getElem?_take_of_lt hlt]; exact hp)]
    refine item_copy rfl (itc_one hpk) fun w2 g hg hg2 hf2 => ?_
    have hg2' : w2.heap[g]? = some (.cells #[.int .i64 p.1.Do, .int .u64 p.1.v, p.2, .int .i64 p.1.n] T_flurrylaw01_Item (0, 0)) := hg2
    simp only [nilc_some, fad_mk, pik_true, pik_false, cnd_true, cnd_false, gif_same, gif_tf, gif_ft, gif_undef, bi_add, bi_sub, bi_mul, bi_eql, bi_neq, bi_lss, bi_leq, bi_gtr, bi_geq, notB_bool, cvi_int, lenS_mk, lenT_mk, ext0, ext1, ext2, nilP_mk, nilS_mk, fldv_agg, jn0_k, jn1_k, jn2_k, jn1_and, jn1_or, ex_some, Option.isNone_some, Option.isNone_none, Bool.false_bne, Bool.bne_true, Bool.bne_false, Bool.true_bne, Bool.not_true, Bool.not_false, Bool.and_true, Bool.true_and, Bool.and_false, Bool.false_and, Bool.or_true, Bool.true_or, Bool.or_false, Bool.false_or, cond_true, cond_false, List.getElem?_toArray, List.getElem?_cons_zero, List.getElem?_cons_succ, Nat.zero_add, Nat.add_zero, Nat.reduceAdd, forall_const, ld1_eq hg2', hpk.1.len, min_int]
    have e1 : min (p.1.b.length : Int) 1048576 = ((min p.1.b.length 1048576 : Nat) : Int) := by omega
    rw [e1, wi64 (by omega) (by omega), wi64 (by omega) (by omega)]
    have e2 : min ((m : Int) + ((min p.1.b.length 1048576 : Nat) : Int)) 1048576 = ((min (m + min p.1.b.length 1048576) 1048576 : Nat) : Int) := by omega
    rw [e2]
    refine ⟨⟨i + 1, _, by omega, rfl, by simp, by omega, ?_, hf1.trans hf2 (by simp) (by simp)⟩, by simp [RowKit.intOf]; omega⟩
    intro j q hj hq
    by_cases hji : j = i
    · subst hji
      rw [hp] at hq
      cases hq
      omega
    · have := hall j q (by omega) hq
      omega
  · have hge : i = min l.length 300 := by simp at h; omega
    refine hR _ _ ⟨_, rfl, fun hf => ?_, hf1⟩
    simp at hf
    refine ⟨by omega, fun p hp => ?_⟩
    obtain ⟨j, hj⟩ := List.mem_iff_getElem?.1 hp
    have hjl := (List.getElem?_eq_some_iff.1 hj).1
    have := hall j p (by omega) hj
    omega
end Go.Fx
