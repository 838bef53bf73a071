/-
  Law 1: taking an item as it was put.
-/
import Derived.Test.YtamjngkjpalchaaUpB
set_option linter.unusedVariables false
set_option linter.unusedSimpArgs false
namespace Go.Fx
def Up.back (x : Up) (i : It) : Up × Bool :=
  if i.Do = 0 then ((x.take i.b.length).1, (x.take i.b.length).2 == i.b) else if i.Do = 1 then ((x.take 1).1, ofBe (x.take 1).2 == i.v % 256) else if i.Do = 2 then ((x.take 2).1, ofBe (x.take 2).2 == i.v % 65536) else
  if i.Do = 3 then ((x.counted 4 i.b.length).1, (x.counted 4 i.b.length).2 == i.b) else if i.Do = 4 then ((x.take 4).1, ofBe (x.take 4).2 == i.v % 4294967296) else
  if i.Do = 5 then ((x.counted 2 i.b.length).1, (x.counted 2 i.b.length).2 == i.b) else if i.Do = 8 then ((x.take 8).1, ofBe (x.take 8).2 == i.v) else (x, true)
theorem natbeq (a b : Nat) : (((a : Nat) : Int) == ((b : Nat) : Int)) = (a == b) := by
  by_cases h : a = b
  · subst h; simp
  · have h1 : (a == b) = false := by simpa using h
    rw [h1, beq_eq_false_iff_ne]
    omega
theorem back_spec {w : World} {p s : Value} {x : Up} {F : List Nat} {i : It} (hp : IsUp w.heap p x F) (hs : RdB w.heap s i.b) (ho : Off s F) (hl : i.b.length ≤ 9223372036854775807) (hv : i.v < 18446744073709551616) (h1 : s.oneCell' = true) :
    cal P f_law01_back [p, .agg #[.int .i64 i.Do, .int .u64 i.v, s, .int .i64 i.n]] w fun v w' => v = .bool (x.back i).2 ∧ IsUp w'.heap p (x.back i).1 F ∧ Fr F w w' := by
  refine s_law01_back fun R hR => ?_
  unfold c_law01_back
  refine bx_i fun w1 g hg hg1 hf1 => ?_
  have hp1 := hp.fr hf1 (by simp)
  have hs1 := hs.fr hf1 (off_nil _)
  have hgF : g ∉ F := fun hm => by have := hp.lt g hm; omega
  have m1 : IntKind.u8.wrap (i.v : Int) = ((i.v % 256 : Nat) : Int) := wu8n _
  have m2 : IntKind.u16.wrap (i.v : Int) = ((i.v % 65536 : Nat) : Int) := wu16n _
  have m4 : IntKind.u32.wrap (i.v : Int) = ((i.v % 4294967296 : Nat) : Int) := wu32n _
  have hp1d : ∀ d, IsUp ({ w1 with drawn := d } : World).heap p x F := fun _ => hp1
  have hml : (i.b.length : Int) ≤ 9223372036854775807 := by omega
  simp only [Value.cells] at hg1
  have hS : ∀ w', Fr F w1 w' → w'.heap[g]? = some (.cells #[.int .i64 i.Do, .int .u64 i.v, s, .int .i64 i.n] T_flurrylaw01_Item (0, 0)) ∧ RdB w'.heap s i.b := fun w' hf => ⟨hf.blk hg1 hgF, hs1.fr hf ho⟩
  have hld : ∀ (w' : World) (o : Nat) (v : Value), (w'.heap[g]? = some (.cells #[.int .i64 i.Do, .int .u64 i.v, s, .int .i64 i.n] T_flurrylaw01_Item (0, 0)) ∧ RdB w'.heap s i.b) →
      (#[.int .i64 i.Do, .int .u64 i.v, s, .int .i64 i.n] : Array Value)[o]? = some v → ld1 (.pointer (some ⟨g, o, none⟩)) w'.heap fun u => u = v := fun w' o v h ho => ld1_i h.1 ho rfl
  have hfw : ∀ w', Fr F w1 w' → Fr F w w' := fun w' hf => hf1.trans hf (by simp) (fun k hk => .inl hk)
  simp only [nilc_some, fad_mk, pik_true, pik_false, cnd_true, cnd_false, gif_same, gif_tf, gif_ft, gif_undef, bi_add, bi_sub, bi_mul, bi_eql, bi_neq, bi_lss, bi_leq, bi_gtr, bi_geq, notB_bool, cvi_int, lenS_mk, lenT_mk, ext0, ext1, ext2, nilP_mk, nilS_mk, fldv_agg, jn0_k, jn1_k, jn2_k, jn1_and, jn1_or, ex_some, Option.isNone_some, Option.isNone_none, Bool.false_bne, Bool.bne_true, Bool.bne_false, Bool.true_bne, Bool.not_true, Bool.not_false, Bool.and_true, Bool.true_and, Bool.and_false, Bool.false_and, Bool.or_true, Bool.true_or, Bool.or_false, Bool.false_or, cond_true, cond_false, List.getElem?_toArray, List.getElem?_cons_zero, List.getElem?_cons_succ, Nat.zero_add, Nat.add_zero, Nat.reduceAdd, forall_const, ld1_eq hg1]
  rw [cnd_bool]
  refine ⟨fun h => ?_, fun h0 => ?_⟩
  · have h : i.Do = 0 := by simpa using h
    refine ⟨fun w' => w'.heap[g]? = some (.cells #[.int .i64 i.Do, .int .u64 i.v, s, .int .i64 i.n] T_flurrylaw01_Item (0, 0)) ∧ RdB w'.heap s i.b, ⟨hg1, hs1⟩, ?_⟩
    refine ⟨s, fun w' hw' => hld w' 2 s hw' rfl, ?_⟩
    simp only [hs1.len]
    refine ⟨s, fun w' hw' => hld w' 2 s hw' rfl, ?_⟩
    refine cal_i (uFixed_spec (hp1d _) _) ?_
    rintro v w2 ⟨e1, e2, e3, e4⟩
    have e2 := e2.ofDrew
    refine ⟨hS _ e2, ?_⟩
    refine cal_i (Equal_spec e3 (hS _ e2).2) ?_
    rintro _ _ ⟨rfl, rfl⟩
    exact ⟨hS _ e2, hR _ _ (by simp only [Up.back, h, if_true]; exact ⟨trivial, e1, hfw _ e2⟩)⟩
  rw [cnd_bool]
  refine ⟨fun h => ?_, fun h1 => ?_⟩
  · have h : i.Do = 1 := by simpa using h
    refine ⟨fun w' => w'.heap[g]? = some (.cells #[.int .i64 i.Do, .int .u64 i.v, s, .int .i64 i.n] T_flurrylaw01_Item (0, 0)) ∧ RdB w'.heap s i.b, ⟨hg1, hs1⟩, ?_⟩
    refine ⟨.int .u64 i.v, fun w' hw' => hld w' 1 _ hw' rfl, ?_⟩
    simp only [nilc_some, fad_mk, pik_true, pik_false, cnd_true, cnd_false, gif_same, gif_tf, gif_ft, gif_undef, bi_add, bi_sub, bi_mul, bi_eql, bi_neq, bi_lss, bi_leq, bi_gtr, bi_geq, notB_bool, cvi_int, lenS_mk, lenT_mk, ext0, ext1, ext2, nilP_mk, nilS_mk, fldv_agg, jn0_k, jn1_k, jn2_k, jn1_and, jn1_or, ex_some, Option.isNone_some, Option.isNone_none, Bool.false_bne, Bool.bne_true, Bool.bne_false, Bool.true_bne, Bool.not_true, Bool.not_false, Bool.and_true, Bool.true_and, Bool.and_false, Bool.false_and, Bool.or_true, Bool.true_or, Bool.or_false, Bool.false_or, cond_true, cond_false, List.getElem?_toArray, List.getElem?_cons_zero, List.getElem?_cons_succ, Nat.zero_add, Nat.add_zero, Nat.reduceAdd, forall_const, m1]
    refine cal_i (uByte_spec (hp1d _)) ?_
    rintro v w2 ⟨rfl, e1, e2⟩
    have e2 := e2.ofDrew
    refine ⟨hS _ e2, ?_⟩
    simp only [bi_eql, natbeq]
    exact hR _ _ (by rw [Up.back, if_neg (by omega), if_pos h]; exact ⟨rfl, e1, hfw _ e2⟩)
  rw [cnd_bool]
  refine ⟨fun h => ?_, fun h2 => ?_⟩
  · have h : i.Do = 2 := by simpa using h
    refine ⟨fun w' => w'.heap[g]? = some (.cells #[.int .i64 i.Do, .int .u64 i.v, s, .int .i64 i.n] T_flurrylaw01_Item (0, 0)) ∧ RdB w'.heap s i.b, ⟨hg1, hs1⟩, ?_⟩
    refine ⟨.int .u64 i.v, fun w' hw' => hld w' 1 _ hw' rfl, ?_⟩
    simp only [nilc_some, fad_mk, pik_true, pik_false, cnd_true, cnd_false, gif_same, gif_tf, gif_ft, gif_undef, bi_add, bi_sub, bi_mul, bi_eql, bi_neq, bi_lss, bi_leq, bi_gtr, bi_geq, notB_bool, cvi_int, lenS_mk, lenT_mk, ext0, ext1, ext2, nilP_mk, nilS_mk, fldv_agg, jn0_k, jn1_k, jn2_k, jn1_and, jn1_or, ex_some, Option.isNone_some, Option.isNone_none, Bool.false_bne, Bool.bne_true, Bool.bne_false, Bool.true_bne, Bool.not_true, Bool.not_false, Bool.and_true, Bool.true_and, Bool.and_false, Bool.false_and, Bool.or_true, Bool.true_or, Bool.or_false, Bool.false_or, cond_true, cond_false, List.getElem?_toArray, List.getElem?_cons_zero, List.getElem?_cons_succ, Nat.zero_add, Nat.add_zero, Nat.reduceAdd, forall_const, m2]
    refine cal_i (uShort_spec (hp1d _)) ?_
    rintro v w2 ⟨rfl, e1, e2⟩
    have e2 := e2.ofDrew
    refine ⟨hS _ e2, ?_⟩
    simp only [bi_eql, natbeq]
    exact hR _ _ (by rw [Up.back, if_neg (by omega), if_neg (by omega), if_pos h]; exact ⟨rfl, e1, hfw _ e2⟩)
  rw [cnd_bool]
  refine ⟨fun h => ?_, fun h3 => ?_⟩
  · have h : i.Do = 3 := by simpa using h
    refine ⟨fun w' => w'.heap[g]? = some (.cells #[.int .i64 i.Do, .int .u64 i.v, s, .int .i64 i.n] T_flurrylaw01_Item (0, 0)) ∧ RdB w'.heap s i.b, ⟨hg1, hs1⟩, ?_⟩
    refine ⟨s, fun w' hw' => hld w' 2 s hw' rfl, ?_⟩
    simp only [hs1.len]
    refine ⟨s, fun w' hw' => hld w' 2 s hw' rfl, ?_⟩
    refine cal_i (uBytes_spec (hp1d _) hml) ?_
    rintro v w2 ⟨e1, e2, e3, e4⟩
    have e2 := e2.ofDrew
    refine ⟨hS _ e2, ?_⟩
    refine cal_i (Equal_spec e3 (hS _ e2).2) ?_
    rintro _ _ ⟨rfl, rfl⟩
    exact ⟨hS _ e2, hR _ _ (by rw [Up.back, if_neg (by omega), if_neg (by omega), if_neg (by omega), if_pos h]; exact ⟨rfl, e1, hfw _ e2⟩)⟩
  rw [cnd_bool]
  refine ⟨fun h => ?_, fun h4 => ?_⟩
  · have h : i.Do = 4 := by simpa using h
    refine ⟨fun w' => w'.heap[g]? = some (.cells #[.int .i64 i.Do, .int .u64 i.v, s, .int .i64 i.n] T_flurrylaw01_Item (0, 0)) ∧ RdB w'.heap s i.b, ⟨hg1, hs1⟩, ?_⟩
    refine ⟨.int .u64 i.v, fun w' hw' => hld w' 1 _ hw' rfl, ?_⟩
    simp only [nilc_some, fad_mk, pik_true, pik_false, cnd_true, cnd_false, gif_same, gif_tf, gif_ft, gif_undef, bi_add, bi_sub, bi_mul, bi_eql, bi_neq, bi_lss, bi_leq, bi_gtr, bi_geq, notB_bool, cvi_int, lenS_mk, lenT_mk, ext0, ext1, ext2, nilP_mk, nilS_mk, fldv_agg, jn0_k, jn1_k, jn2_k, jn1_and, jn1_or, ex_some, Option.isNone_some, Option.isNone_none, Bool.false_bne, Bool.bne_true, Bool.bne_false, Bool.true_bne, Bool.not_true, Bool.not_false, Bool.and_true, Bool.true_and, Bool.and_false, Bool.false_and, Bool.or_true, Bool.true_or, Bool.or_false, Bool.false_or, cond_true, cond_false, List.getElem?_toArray, List.getElem?_cons_zero, List.getElem?_cons_succ, Nat.zero_add, Nat.add_zero, Nat.reduceAdd, forall_const, m4]
    refine cal_i (uInt_spec (hp1d _)) ?_
    rintro v w2 ⟨rfl, e1, e2⟩
    have e2 := e2.ofDrew
    refine ⟨hS _ e2, ?_⟩
    simp only [bi_eql, natbeq]
    exact hR _ _ (by rw [Up.back, if_neg (by omega), if_neg (by omega), if_neg (by omega), if_neg (by omega), if_pos h]; exact ⟨rfl, e1, hfw _ e2⟩)
  rw [cnd_bool]
  refine ⟨fun h => ?_, fun h5 => ?_⟩
  · have h : i.Do = 5 := by simpa using h
    refine ⟨fun w' => w'.heap[g]? = some (.cells #[.int .i64 i.Do, .int .u64 i.v, s, .int .i64 i.n] T_flurrylaw01_Item (0, 0)) ∧ RdB w'.heap s i.b, ⟨hg1, hs1⟩, ?_⟩
    refine ⟨s, fun w' hw' => hld w' 2 s hw' rfl, ?_⟩
    simp only [hs1.len]
    refine ⟨s, fun w' hw' => hld w' 2 s hw' rfl, ?_⟩
    refine ⟨.string ⟨i.b.toArray⟩, fun w' hw' => ?_, ?_⟩
    · show rdP P _ w' _
      rw [rdP_eq (conv_str UT_bytes UT_uint8 UT_string (show RdB w'.heap s i.b from hw'.2))]
    refine cal_i (uText_spec (hp1d _) hml) ?_
    rintro v w2 ⟨rfl, e1, e2⟩
    have e2 := e2.ofDrew
    refine ⟨hS _ e2, ?_⟩
    refine ⟨.bool ((x.counted 2 i.b.length).2 == i.b), fun w' hw' => ?_, ?_⟩
    · show rdP P _ w' _
      rw [eqS_str]
    exact hR _ _ (by rw [Up.back, if_neg (by omega), if_neg (by omega), if_neg (by omega), if_neg (by omega), if_neg (by omega), if_pos h]; exact ⟨rfl, e1, hfw _ e2⟩)
  rw [cnd_bool]
  refine ⟨fun h => ?_, fun h8 => ?_⟩
  · have h : i.Do = 8 := by simpa using h
    refine ⟨fun w' => w'.heap[g]? = some (.cells #[.int .i64 i.Do, .int .u64 i.v, s, .int .i64 i.n] T_flurrylaw01_Item (0, 0)) ∧ RdB w'.heap s i.b, ⟨hg1, hs1⟩, ?_⟩
    refine ⟨.int .u64 i.v, fun w' hw' => hld w' 1 _ hw' rfl, ?_⟩
    refine cal_i (uLong_spec (hp1d _)) ?_
    rintro v w2 ⟨rfl, e1, e2⟩
    have e2 := e2.ofDrew
    refine ⟨hS _ e2, ?_⟩
    simp only [bi_eql, natbeq]
    exact hR _ _ (by rw [Up.back, if_neg (by omega), if_neg (by omega), if_neg (by omega), if_neg (by omega), if_neg (by omega), if_neg (by omega), if_pos h]; exact ⟨rfl, e1, hfw _ e2⟩)
  have hi : x.back i = (x, true) := by
    simp at h0 h1 h2 h3 h4 h5 h8
    simp [Up.back, h0, h1, h2, h3, h4, h5, h8]
  exact hR _ _ (by rw [hi]; exact ⟨rfl, hp1, hfw _ (Fr.refl _ _)⟩)
/-- An item's bytes. -/
def It.enc (i : It) : List UInt8 :=
  if i.Do = 0 then i.b else if i.Do = 1 then be 1 i.v else if i.Do = 2 then be 2 i.v else if i.Do = 3 then be 4 i.b.length ++ i.b else if i.Do = 4 then be 4 i.v else if i.Do = 5 then be 2 i.b.length ++ i.b else if i.Do = 8 then be 8 i.v else []
def It.fine (i : It) : Prop := i.Do = 5 → i.b.length ≤ 65535
theorem item_stuck {x : Pk} (he : x.e ≠ 0) (i : It) : x.item i = x := by
  have hw : x.works = false := by simp [Pk.works, he]
  unfold Pk.item Pk.text Pk.add
  repeat' split
  all_goals simp_all
theorem add_enc {x : Pk} (hm : x.made = true) (he : x.e = 0) (b : List UInt8) : (x.add b).e = 10 ∨ ((x.add b).e = 0 ∧ (x.add b).b = x.b ++ b) := by
  rw [Pk.add, if_pos (by simp [Pk.works, hm, he])]
  split
  · exact .inl rfl
  · exact .inr ⟨he, rfl⟩
theorem item_enc {x : Pk} (hm : x.made = true) (he : x.e = 0) (i : It) : (x.item i).e = 10 ∨ (x.item i).e = 3 ∨ ((x.item i).e = 0 ∧ (x.item i).b = x.b ++ i.enc ∧ i.fine) := by
  have hw : x.works = true := by simp [Pk.works, hm, he]
  have key : ∀ b, (x.item i = x.add b) → i.enc = b → i.fine → (x.item i).e = 10 ∨ (x.item i).e = 3 ∨ ((x.item i).e = 0 ∧ (x.item i).b = x.b ++ i.enc ∧ i.fine) := fun b h1 h2 h3 => by
    rw [h1, h2]
    rcases add_enc hm he b with h | ⟨h, h'⟩
    · exact .inl h
    · exact .inr (.inr ⟨h, h', h3⟩)
  by_cases h0 : i.Do = 0
  · exact key i.b (by simp [Pk.item, h0]) (by simp [It.enc, h0]) (fun h => by omega)
  by_cases h1 : i.Do = 1
  · exact key (be 1 i.v) (by simp [Pk.item, h1]) (by simp [It.enc, h1]) (fun h => by omega)
  by_cases h2 : i.Do = 2
  · exact key (be 2 i.v) (by simp [Pk.item, h2]) (by simp [It.enc, h2]) (fun h => by omega)
  by_cases h3 : i.Do = 3
  · exact key (be 4 i.b.length ++ i.b) (by simp [Pk.item, h3]) (by simp [It.enc, h3]) (fun h => by omega)
  by_cases h4 : i.Do = 4
  · exact key (be 4 i.v) (by simp [Pk.item, h4]) (by simp [It.enc, h4]) (fun h => by omega)
  by_cases h5 : i.Do = 5
  · by_cases hl : 65535 < i.b.length
    · refine .inr (.inl ?_)
      simp [Pk.item, h5, Pk.text, hw, hl]
    · exact key (be 2 i.b.length ++ i.b) (by simp [Pk.item, h5, Pk.text, hw, hl]) (by simp [It.enc, h5]) (fun _ => by omega)
  by_cases h8 : i.Do = 8
  · exact key (be 8 i.v) (by simp [Pk.item, h8]) (by simp [It.enc, h8]) (fun h => by omega)
  · refine .inr (.inr ⟨?_, ?_, fun h => by omega⟩)
    · simp [Pk.item, h0, h1, h2, h3, h4, h5, h8, he]
    · simp [Pk.item, It.enc, h0, h1, h2, h3, h4, h5, h8]
theorem take_ok {u : Up} (hm : u.made = true) (he : u.e = 0) {c rest : List UInt8} (hb : u.b = c ++ rest) {n : Int} (hn : n = c.length) : u.take n = ({ u with b := rest }, c) := by
  subst hn
  rw [Up.take, if_pos (by simp [Up.works, hm, he]), if_neg (by omega), if_neg (by rw [hb]; simp; omega), Int.toNat_natCast, hb, List.drop_left' rfl, List.take_left' rfl]
theorem take_short {u : Up} (hm : u.made = true) (he : u.e = 0) {n : Int} (hn : (u.b.length : Int) < n) : (u.take n).1 = { u with e := 11 } := by
  rw [Up.take, if_pos (by simp [Up.works, hm, he]), if_neg (by omega), if_pos hn]
theorem counted_ok {u : Up} (hm : u.made = true) (he : u.e = 0) {head : Nat} {c rest : List UInt8} (hb : u.b = be head c.length ++ c ++ rest) (hc : c.length < 256 ^ head) : u.counted head c.length = ({ u with b := rest }, c) := by
  have hd : u.b.take head = be head c.length := by rw [hb, List.append_assoc, List.take_left' (be_length _ _)]
  have hd2 : u.b.drop head = c ++ rest := by rw [hb, List.append_assoc, List.drop_left' (be_length _ _)]
  have hv : ofBe (be head c.length) = c.length := by rw [ofBe_be, Nat.mod_eq_of_lt hc]
  have hlen : u.b.length = head + (c.length + rest.length) := by rw [hb]; simp [be_length]
  rw [Up.counted, if_pos (by simp [Up.works, hm, he]), if_neg (by omega), if_neg (by omega), hd, hv, if_neg (by omega), if_neg (by omega), hd2, List.drop_left' rfl, List.take_left' rfl]
theorem counted_short {u : Up} (hm : u.made = true) (he : u.e = 0) {head : Nat} {c t : List UInt8} (hb : u.b ++ t = be head c.length ++ c) (ht : t ≠ []) (hc : c.length < 256 ^ head) : (u.counted head c.length).1 = { u with e := 11 } := by
  have hlen := congrArg List.length hb
  simp only [List.length_append, be_length] at hlen
  have ht' : 0 < t.length := List.length_pos_iff.2 ht
  rw [Up.counted, if_pos (by simp [Up.works, hm, he]), if_neg (by omega)]
  split
  · rfl
  · rename_i hh
    have hd : u.b.take head = be head c.length := by
      have := congrArg (List.take head) hb
      rw [List.take_append_of_le_length (by omega), List.take_left' (be_length _ _)] at this
      exact this
    have hv : ofBe (be head c.length) = c.length := by rw [ofBe_be, Nat.mod_eq_of_lt hc]
    rw [hd, hv, if_neg (by omega), if_pos (by omega)]
theorem back_stuck {u : Up} (he : u.e ≠ 0) (i : It) : (u.back i).1 = u := by
  have hw : u.works = false := by simp [Up.works, he]
  have ht : ∀ n, (u.take n).1 = u := fun n => by rw [Up.take, if_neg (by simp [hw])]
  have hc : ∀ h m, (u.counted h m).1 = u := fun h m => by rw [Up.counted, if_neg (by simp [hw])]
  unfold Up.back
  repeat' split
  all_goals first | exact ht _ | exact hc _ _ | rfl
theorem back_ok {u : Up} (hm : u.made = true) (he : u.e = 0) {i : It} {rest : List UInt8} (hb : u.b = i.enc ++ rest) (hf : i.fine) (hl : i.b.length ≤ 200000) (hv : i.v < 18446744073709551616) : u.back i = ({ u with b := rest }, true) := by
  unfold It.enc at hb
  unfold Up.back
  by_cases h0 : i.Do = 0
  · rw [if_pos h0] at hb ⊢
    rw [take_ok hm he hb rfl]; simp
  rw [if_neg h0] at hb ⊢
  by_cases h1 : i.Do = 1
  · rw [if_pos h1] at hb ⊢
    rw [take_ok hm he hb (by simp [be_length]), ofBe_be]; simp
  rw [if_neg h1] at hb ⊢
  by_cases h2 : i.Do = 2
  · rw [if_pos h2] at hb ⊢
    rw [take_ok hm he hb (by simp [be_length]), ofBe_be]; simp
  rw [if_neg h2] at hb ⊢
  by_cases h3 : i.Do = 3
  · rw [if_pos h3] at hb ⊢
    rw [counted_ok hm he hb (by omega)]; simp
  rw [if_neg h3] at hb ⊢
  by_cases h4 : i.Do = 4
  · rw [if_pos h4] at hb ⊢
    rw [take_ok hm he hb (by simp [be_length]), ofBe_be]; simp
  rw [if_neg h4] at hb ⊢
  by_cases h5 : i.Do = 5
  · rw [if_pos h5] at hb ⊢
    have := hf h5
    rw [counted_ok hm he hb (by omega)]; simp
  rw [if_neg h5] at hb ⊢
  by_cases h8 : i.Do = 8
  · rw [if_pos h8] at hb ⊢
    rw [take_ok hm he hb (by simp [be_length]), ofBe_be, Nat.mod_eq_of_lt hv]; simp
  rw [if_neg h8] at hb ⊢
  simp at hb
  rw [← hb]
theorem back_short {u : Up} (hm : u.made = true) (he : u.e = 0) {i : It} {t : List UInt8} (hb : u.b ++ t = i.enc) (ht : t ≠ []) (hf : i.fine) (hl : i.b.length ≤ 200000) : (u.back i).1 = { u with e := 11 } := by
  have ht' : 0 < t.length := List.length_pos_iff.2 ht
  have hlen := congrArg List.length hb
  rw [List.length_append] at hlen
  unfold It.enc at hb hlen
  unfold Up.back
  by_cases h0 : i.Do = 0
  · rw [if_pos h0] at hlen ⊢
    exact take_short hm he (by omega)
  rw [if_neg h0] at hb hlen ⊢
  by_cases h1 : i.Do = 1
  · rw [if_pos h1, be_length] at hlen; rw [if_pos h1]
    exact take_short hm he (by omega)
  rw [if_neg h1] at hb hlen ⊢
  by_cases h2 : i.Do = 2
  · rw [if_pos h2, be_length] at hlen; rw [if_pos h2]
    exact take_short hm he (by omega)
  rw [if_neg h2] at hb hlen ⊢
  by_cases h3 : i.Do = 3
  · rw [if_pos h3] at hb ⊢
    exact counted_short hm he hb ht (by omega)
  rw [if_neg h3] at hb hlen ⊢
  by_cases h4 : i.Do = 4
  · rw [if_pos h4, be_length] at hlen; rw [if_pos h4]
    exact take_short hm he (by omega)
  rw [if_neg h4] at hb hlen ⊢
  by_cases h5 : i.Do = 5
  · rw [if_pos h5] at hb ⊢
    have := hf h5
    exact counted_short hm he hb ht (by omega)
  rw [if_neg h5] at hb hlen ⊢
  by_cases h8 : i.Do = 8
  · rw [if_pos h8, be_length] at hlen; rw [if_pos h8]
    exact take_short hm he (by omega)
  rw [if_neg h8] at hlen
  simp at hlen
  exact absurd hlen.2 ht
/-- What was there before is off what came. -/
theorem RdB.off' {h : Heap} {v : Value} {l : List UInt8} (hr : RdB h v l) {F : List Nat} (hF : ∀ k ∈ F, h.size ≤ k) : Off v F := hr.off hF
theorem take_made (x : Up) (n : Int) : (x.take n).1.made = x.made := by
  unfold Up.take
  repeat' split
  all_goals rfl
theorem counted_made (x : Up) (h : Nat) (n : Int) : (x.counted h n).1.made = x.made := by
  unfold Up.counted
  repeat' split
  all_goals rfl
theorem back_made (x : Up) (i : It) : (x.back i).1.made = x.made := by
  unfold Up.back
  repeat' split
  all_goals first | exact take_made _ _ | exact counted_made _ _ _ | rfl
theorem Own.cap {h : Heap} {v : Value} {size n : Nat} {cs : List Value} {F : List Nat} (ho : Own h v size n cs F) : ∃ a c, v = .slice a n c ∧ n ≤ c := by
  obtain ⟨hl, ⟨rfl, rfl, -⟩ | ⟨g, o, cap, cur, E, rfl, hn, -⟩⟩ := ho
  · exact ⟨_, _, rfl, by omega⟩
  · exact ⟨_, _, rfl, hn⟩
theorem Out_cap {w : World} {p : Value} {x : Pk} {F : List Nat} (hp : IsPk w.heap p x F) (hs : x.Sm) : cal P f_pack_Packer_Out [p] w fun v w' =>
    ∃ s, v = .tuple #[s, .int .i64 x.err] ∧ RdB w'.heap s x.out ∧ Fr [] w w' ∧ ∃ a c, s = .slice a x.out.length c ∧ x.out.length ≤ c := by
  have hs' : x.b.length ≤ 8192 := hs
  refine cal_i (Out_spec hp (by omega)) ?_
  rintro v w' ⟨hf, ⟨he, s, g, rfl, ho, hg⟩ | ⟨he, rfl⟩⟩
  · refine ⟨s, by rw [he], by rw [Pk.out, if_pos he]; exact ho.rd, hf, ?_⟩
    rw [Pk.out, if_pos he]
    exact Own.cap ho
  · exact ⟨_, rfl, by rw [Pk.out, if_neg he]; exact RdB.nil _ _, hf, none, 0, by rw [Pk.out, if_neg he]; rfl, by rw [Pk.out, if_neg he]; simp⟩
end Go.Fx
