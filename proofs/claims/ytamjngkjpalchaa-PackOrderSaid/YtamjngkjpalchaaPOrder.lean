/-
  What is proved: for every a, b and width the law PackOrder returns true, and its arguments read as they did. Conditions: none.
-/
import Derived.Test.YtamjngkjpalchaaLwB
import Derived.Test.YtamjngkjpalchaaRows
import Derived.WalkKit
import Derived.ProofKit
import Derived.OpenShut
import Derived.ChangeOld
import Derived.Below
import Derived.Carry
set_option linter.unusedVariables false
set_option linter.unusedSimpArgs false
namespace Go.Fx
theorem item_new {wd a : Nat} (h : wd = 1 ∨ wd = 2 ∨ wd = 4 ∨ wd = 8) : (Pk.new 8).item ⟨wd, a, [], 0⟩ = ⟨true, be wd a, 0, 8⟩ := by
  rcases h with rfl | rfl | rfl | rfl <;> simp [Pk.item, Pk.add, Pk.new, Pk.works, be_length]
theorem be_inj (n a b : Nat) : (be n a = be n b) ↔ a % 256 ^ n = b % 256 ^ n := by
  refine ⟨fun h => ?_, fun h => ?_⟩
  · rw [← ofBe_be, ← ofBe_be, h]
  · rw [← be_mod n a, ← be_mod n b, h]
theorem IsPk.nilP {h : Heap} {p : Value} {x : Pk} {F : List Nat} (hp : IsPk h p x F) (K : Value → Prop) : nilP false p K = K (.bool false) := by
  obtain ⟨g, s, E, G, rfl, _⟩ := hp
  rw [nilP_mk]; rfl
theorem PackOrder_walk {w : World} {a b c : Nat} (ha : a < 18446744073709551616) (hb : b < 18446744073709551616) (hc : c < 256) :
    cal P f_law01_PackOrder [.int .u64 a, .int .u64 b, .int .u8 c] w fun v w' => v = .bool true ∧ Fr [] w w' := by
  refine s_law01_PackOrder fun R hR => ?_
  unfold c_law01_PackOrder
  have hr : (Instr.buildSlice T_sl_int 4 #[(0, (Value.int IntKind.i64 1)), (1, (Value.int IntKind.i64 2)), (2, (Value.int IntKind.i64 4)), (3, (Value.int IntKind.i64 8))]).run P w =
      .ok (.slice (some ⟨w.heap.size, 0, none⟩) 4 4) (w.alloc (.cells [Value.int IntKind.i64 1, Value.int IntKind.i64 2, Value.int IntKind.i64 4, Value.int IntKind.i64 8].toArray T_int)) := by kernel_rfl
  refine slice_i hr fun w1 g hg hb1 hf1 => ?_
  have ho := Own.of_blk (n := 4) (size := 1) hb1 rfl
  rw [bi_rem _ _ _ _ (by omega), show (c : Int).tmod 4 = ((c % 4 : Nat) : Int) from tmodn c 4]
  obtain ⟨wd, hj, hwd⟩ : ∃ wd : Nat, [Value.int IntKind.i64 1, Value.int IntKind.i64 2, Value.int IntKind.i64 4, Value.int IntKind.i64 8][c % 4]? = some (.int .i64 wd) ∧ (wd = 1 ∨ wd = 2 ∨ wd = 4 ∨ wd = 8) := by
    have : c % 4 = 0 ∨ c % 4 = 1 ∨ c % 4 = 2 ∨ c % 4 = 3 := by omega
    rcases this with h | h | h | h <;> rw [h]
    · exact ⟨1, rfl, by omega⟩
    · exact ⟨2, rfl, by omega⟩
    · exact ⟨4, rfl, by omega⟩
    · exact ⟨8, rfl, by omega⟩
  refine ldx ho.cel hj ?_
  refine cal_i (New_spec 8) ?_
  rintro p w2 ⟨F, hp2, hf2, hF⟩
  refine cal_i (New_spec 8) ?_
  rintro q w3 ⟨G, hq3, hf3, hG⟩
  refine cal_i live_spec ?_
  rintro _ w4 ⟨rfl, hf4⟩
  have hf34 : Fr [] w2 w4 := hf3.trans hf4 (by simp) (by simp)
  have hp4 := hp2.fr hf34 (by simp)
  have hq4 := hq3.fr hf4 (by simp)
  simp only [nilc_some, fad_mk, pik_true, pik_false, cnd_true, cnd_false, gif_same, gif_tf, gif_ft, gif_undef, bi_add, bi_sub, bi_mul, bi_eql, bi_neq, bi_lss, bi_leq, bi_gtr, bi_geq, notB_bool, cvi_int, lenS_mk, lenT_mk, ext0, ext1, ext2, nilP_mk, nilS_mk, fldv_agg, jn0_k, jn1_k, jn2_k, jn1_and, jn1_or, ex_some, Option.isNone_some, Option.isNone_none, Bool.false_bne, Bool.bne_true, Bool.bne_false, Bool.true_bne, Bool.not_true, Bool.not_false, Bool.and_true, Bool.true_and, Bool.and_false, Bool.false_and, Bool.or_true, Bool.true_or, Bool.or_false, Bool.false_or, cond_true, cond_false, List.getElem?_toArray, List.getElem?_cons_zero, List.getElem?_cons_succ, Nat.zero_add, Nat.add_zero, Nat.reduceAdd, forall_const, hp4.nilP, hq4.nilP]
  have hb1 : (Instr.build T_flurrylaw01_Item #[(0, (Value.int .i64 wd)), (1, (Value.int .u64 a))]).run P w4 = .ok (.agg #[.int .i64 wd, .int .u64 a, .slice none 0 0, .int .i64 0]) w4 := by kernel_rfl
  rw [rdP_eq hb1]
  refine cal_i (put1_spec (i := ⟨wd, a, [], 0⟩) hp4 (Pk.new_ok 8) (RdB.nil _ _) (by intro g o n c h; cases h) (by intro g o n c h; cases h) (by simp) ha rfl) ?_
  rintro _ w5 ⟨rfl, F5, hp5, hf5, hG5⟩
  have hdGF : ∀ k ∈ G, k ∉ F := fun k hk hm => by
    have h1 := hp2.lt k hm
    have h2 := hG k hk
    omega
  have hq5 := hq4.fr hf5 hdGF
  have hb2 : (Instr.build T_flurrylaw01_Item #[(0, (Value.int .i64 wd)), (1, (Value.int .u64 b))]).run P w5 = .ok (.agg #[.int .i64 wd, .int .u64 b, .slice none 0 0, .int .i64 0]) w5 := by kernel_rfl
  rw [rdP_eq hb2]
  refine cal_i (put1_spec (i := ⟨wd, b, [], 0⟩) hq5 (Pk.new_ok 8) (RdB.nil _ _) (by intro g o n c h; cases h) (by intro g o n c h; cases h) (by simp) hb rfl) ?_
  rintro _ w6 ⟨rfl, G6, hq6, hf6, hG6⟩
  have hdF5 : ∀ k ∈ F5, k ∉ G := fun k hk hm => by
    rcases hG5 k hk with h | h
    · exact hdGF k hm h
    · have := hq4.lt k hm
      omega
  have hp6 := hp5.fr hf6 hdF5
  rw [item_new hwd] at hp6 hq6
  have hwd8 : wd ≤ 8 := by omega
  refine cal_i (Out_spec hp6 (by simp [be_length]; omega)) ?_
  rintro v w7 ⟨hf7, h⟩
  obtain ⟨_, s, g7, rfl, ho7, hg7⟩ := h.resolve_right fun h => h.1 rfl
  simp only [nilc_some, fad_mk, pik_true, pik_false, cnd_true, cnd_false, gif_same, gif_tf, gif_ft, gif_undef, bi_add, bi_sub, bi_mul, bi_eql, bi_neq, bi_lss, bi_leq, bi_gtr, bi_geq, notB_bool, cvi_int, lenS_mk, lenT_mk, ext0, ext1, ext2, nilP_mk, nilS_mk, fldv_agg, jn0_k, jn1_k, jn2_k, jn1_and, jn1_or, ex_some, Option.isNone_some, Option.isNone_none, Bool.false_bne, Bool.bne_true, Bool.bne_false, Bool.true_bne, Bool.not_true, Bool.not_false, Bool.and_true, Bool.true_and, Bool.and_false, Bool.false_and, Bool.or_true, Bool.true_or, Bool.or_false, Bool.false_or, cond_true, cond_false, List.getElem?_toArray, List.getElem?_cons_zero, List.getElem?_cons_succ, Nat.zero_add, Nat.add_zero, Nat.reduceAdd, forall_const]
  refine cal_i (Out_spec (hq6.fr hf7 (by simp)) (by simp [be_length]; omega)) ?_
  rintro v w8 ⟨hf8, h⟩
  obtain ⟨_, t, g8, rfl, ho8, hg8⟩ := h.resolve_right fun h => h.1 rfl
  have ho7 := ho7.fr hf8 (by simp)
  have hfw : Fr [] w w8 := by
    have h1 : Fr F w2 w5 := hf34.trans hf5 (by simp) fun i hi => .inl hi
    have h2 : Fr (F ++ G) w2 w6 := h1.trans hf6 (fun i hi => .inl (by simp [hi])) (fun i hi => .inl (by simp [hi]))
    have h3 : Fr (F ++ G) w2 w8 := (h2.trans (H := F ++ G) hf7 (fun i hi => .inl hi) (by simp)).trans hf8 (fun i hi => .inl hi) (by simp)
    have h4 : Fr [] w w2 := hf1.trans hf2 (by simp) (by simp)
    refine h4.trans h3 (by simp) fun i hi => .inr ?_
    have s1 := hf1.size
    have s2 := hf2.size
    rcases List.mem_append.1 hi with hi | hi
    · have := hF i hi; omega
    · have := hG i hi; omega
  simp only [nilc_some, fad_mk, pik_true, pik_false, cnd_true, cnd_false, gif_same, gif_tf, gif_ft, gif_undef, bi_add, bi_sub, bi_mul, bi_eql, bi_neq, bi_lss, bi_leq, bi_gtr, bi_geq, notB_bool, cvi_int, lenS_mk, lenT_mk, ext0, ext1, ext2, nilP_mk, nilS_mk, fldv_agg, jn0_k, jn1_k, jn2_k, jn1_and, jn1_or, ex_some, Option.isNone_some, Option.isNone_none, Bool.false_bne, Bool.bne_true, Bool.bne_false, Bool.true_bne, Bool.not_true, Bool.not_false, Bool.and_true, Bool.true_and, Bool.and_false, Bool.false_and, Bool.or_true, Bool.true_or, Bool.or_false, Bool.false_or, cond_true, cond_false, List.getElem?_toArray, List.getElem?_cons_zero, List.getElem?_cons_succ, Nat.zero_add, Nat.add_zero, Nat.reduceAdd, forall_const]
  refine ⟨fun x y w' => x = .int .u64 ((a % 256 ^ wd : Nat) : Int) ∧ y = .int .u64 ((b % 256 ^ wd : Nat) : Int) ∧ ∃ d, w' = { w8 with drawn := d }, ?_, ?_⟩
  · change cnd _ _ _
    rw [cnd_bool]
    refine ⟨fun h => ?_, fun h => ?_⟩
    · have h8 : wd < 8 := by simp at h; omega
      simp only [drw]
      have hsh : ∀ K : Value → Prop, sh BinOp.shl (.int .u64 1) (.int .u64 (IntKind.u64.wrap (IntKind.i64.wrap (8 * (wd : Int))))) K = K (.int .u64 ((256 ^ wd : Nat) : Int)) := by
        intro K
        rw [wi64 (by omega) (by omega), wu64i (by omega) (by omega), sh_shl _ _ _ _ _ (by omega)]
        congr 2
        rcases hwd with rfl | rfl | rfl | rfl <;> first | rfl | omega
      have hpos : ((256 ^ wd : Nat) : Int) ≠ 0 := by have := Nat.pow_pos (n := wd) (show 0 < 256 by decide); omega
      simp only [nilc_some, fad_mk, pik_true, pik_false, cnd_true, cnd_false, gif_same, gif_tf, gif_ft, gif_undef, bi_add, bi_sub, bi_mul, bi_eql, bi_neq, bi_lss, bi_leq, bi_gtr, bi_geq, notB_bool, cvi_int, lenS_mk, lenT_mk, ext0, ext1, ext2, nilP_mk, nilS_mk, fldv_agg, jn0_k, jn1_k, jn2_k, jn1_and, jn1_or, ex_some, Option.isNone_some, Option.isNone_none, Bool.false_bne, Bool.bne_true, Bool.bne_false, Bool.true_bne, Bool.not_true, Bool.not_false, Bool.and_true, Bool.true_and, Bool.and_false, Bool.false_and, Bool.or_true, Bool.true_or, Bool.or_false, Bool.false_or, cond_true, cond_false, List.getElem?_toArray, List.getElem?_cons_zero, List.getElem?_cons_succ, Nat.zero_add, Nat.add_zero, Nat.reduceAdd, forall_const, hsh]
      rw [bi_rem _ _ _ _ hpos, bi_rem _ _ _ _ hpos, tmodn, tmodn]
      exact ⟨rfl, rfl, _, rfl⟩
    · have h8 : wd = 8 := by simp at h; omega
      subst h8
      rw [Nat.mod_eq_of_lt (show a < 256 ^ 8 from ha), Nat.mod_eq_of_lt (show b < 256 ^ 8 from hb)]
      exact ⟨rfl, rfl, w8.drawn, rfl⟩
  rintro _ _ w9 ⟨rfl, rfl, d, rfl⟩ -
  simp only [nilc_some, fad_mk, pik_true, pik_false, cnd_true, cnd_false, gif_same, gif_tf, gif_ft, gif_undef, bi_add, bi_sub, bi_mul, bi_eql, bi_neq, bi_lss, bi_leq, bi_gtr, bi_geq, notB_bool, cvi_int, lenS_mk, lenT_mk, ext0, ext1, ext2, nilP_mk, nilS_mk, fldv_agg, jn0_k, jn1_k, jn2_k, jn1_and, jn1_or, ex_some, Option.isNone_some, Option.isNone_none, Bool.false_bne, Bool.bne_true, Bool.bne_false, Bool.true_bne, Bool.not_true, Bool.not_false, Bool.and_true, Bool.true_and, Bool.and_false, Bool.false_and, Bool.or_true, Bool.true_or, Bool.or_false, Bool.false_or, cond_true, cond_false, List.getElem?_toArray, List.getElem?_cons_zero, List.getElem?_cons_succ, Nat.zero_add, Nat.add_zero, Nat.reduceAdd, forall_const, ho7.rd.len, ho8.rd.len, be_length, beq_self_eq_true]
  refine jn1_dup ?_
  refine cal_i (Compare_spec (w := { w8 with drawn := d }) ho7.rd ho8.rd) ?_
  rintro _ _ ⟨rfl, rfl⟩
  simp only [nilc_some, fad_mk, pik_true, pik_false, cnd_true, cnd_false, gif_same, gif_tf, gif_ft, gif_undef, bi_add, bi_sub, bi_mul, bi_eql, bi_neq, bi_lss, bi_leq, bi_gtr, bi_geq, notB_bool, cvi_int, lenS_mk, lenT_mk, ext0, ext1, ext2, nilP_mk, nilS_mk, fldv_agg, jn0_k, jn1_k, jn2_k, jn1_and, jn1_or, ex_some, Option.isNone_some, Option.isNone_none, Bool.false_bne, Bool.bne_true, Bool.bne_false, Bool.true_bne, Bool.not_true, Bool.not_false, Bool.and_true, Bool.true_and, Bool.and_false, Bool.false_and, Bool.or_true, Bool.true_or, Bool.or_false, Bool.false_or, cond_true, cond_false, List.getElem?_toArray, List.getElem?_cons_zero, List.getElem?_cons_succ, Nat.zero_add, Nat.add_zero, Nat.reduceAdd, forall_const]
  rw [eqS_bool _ _ UT_bool]
  have e1 : (decide (Extern.BytealgCompare.cmp ⟨(be wd a).toArray⟩ ⟨(be wd b).toArray⟩ < 0) == decide (((a % 256 ^ wd : Nat) : Int) < ((b % 256 ^ wd : Nat) : Int))) = true := by
    have := cmp_lt (be wd a) (be wd b) (by simp [be_length])
    rw [ofBe_be, ofBe_be] at this
    simp only [beq_iff_eq, decide_eq_decide, this]
    omega
  have e2 : ((be wd a == be wd b) == (((a % 256 ^ wd : Nat) : Int) == ((b % 256 ^ wd : Nat) : Int))) = true := by
    have := be_inj wd a b
    by_cases h : a % 256 ^ wd = b % 256 ^ wd
    · have h1 := this.2 h
      simp [h1, h]
    · have h1 : (be wd a == be wd b) = false := by simpa using fun hh => h (this.1 hh)
      have h2 : (((a % 256 ^ wd : Nat) : Int) == ((b % 256 ^ wd : Nat) : Int)) = false := by
        rw [beq_eq_false_iff_ne]
        exact fun hh => h (by exact_mod_cast hh)
      rw [h1, h2]
      rfl
  rw [e1]
  simp only [nilc_some, fad_mk, pik_true, pik_false, cnd_true, cnd_false, gif_same, gif_tf, gif_ft, gif_undef, bi_add, bi_sub, bi_mul, bi_eql, bi_neq, bi_lss, bi_leq, bi_gtr, bi_geq, notB_bool, cvi_int, lenS_mk, lenT_mk, ext0, ext1, ext2, nilP_mk, nilS_mk, fldv_agg, jn0_k, jn1_k, jn2_k, jn1_and, jn1_or, ex_some, Option.isNone_some, Option.isNone_none, Bool.false_bne, Bool.bne_true, Bool.bne_false, Bool.true_bne, Bool.not_true, Bool.not_false, Bool.and_true, Bool.true_and, Bool.and_false, Bool.false_and, Bool.or_true, Bool.true_or, Bool.or_false, Bool.false_or, cond_true, cond_false, List.getElem?_toArray, List.getElem?_cons_zero, List.getElem?_cons_succ, Nat.zero_add, Nat.add_zero, Nat.reduceAdd, forall_const]
  refine jn1_dup ?_
  refine cal_i (Equal_spec (w := { w8 with drawn := d }) ho7.rd ho8.rd) ?_
  rintro _ _ ⟨rfl, rfl⟩
  simp only [nilc_some, fad_mk, pik_true, pik_false, cnd_true, cnd_false, gif_same, gif_tf, gif_ft, gif_undef, bi_add, bi_sub, bi_mul, bi_eql, bi_neq, bi_lss, bi_leq, bi_gtr, bi_geq, notB_bool, cvi_int, lenS_mk, lenT_mk, ext0, ext1, ext2, nilP_mk, nilS_mk, fldv_agg, jn0_k, jn1_k, jn2_k, jn1_and, jn1_or, ex_some, Option.isNone_some, Option.isNone_none, Bool.false_bne, Bool.bne_true, Bool.bne_false, Bool.true_bne, Bool.not_true, Bool.not_false, Bool.and_true, Bool.true_and, Bool.and_false, Bool.false_and, Bool.or_true, Bool.true_or, Bool.or_false, Bool.false_or, cond_true, cond_false, List.getElem?_toArray, List.getElem?_cons_zero, List.getElem?_cons_succ, Nat.zero_add, Nat.add_zero, Nat.reduceAdd, forall_const]
  rw [eqS_bool _ _ UT_bool]
  rw [e2]
  exact hR _ _ ⟨rfl, hfw.drew _⟩
end Go.Fx
namespace Go.Proofs.Ytamjngkjpalchaa
open Go.ChangeShapes Go.WideShapes Go.ChangeAt Go.RowKit
theorem own : ownKnob Try.prog.godebug = none := by kernel_rfl
theorem laidOut : laidOutB Try.prog = true := by kernel_rfl
theorem walkPackOrder (a0 : Int) (a1 : Int) (a2 : Int) (w0 : (Lit.int .u64 a0).wf = true) (w1 : (Lit.int .u64 a1).wf = true) (w2 : (Lit.int .u8 a2).wf = true) (w : World) :
    Calls Try.prog 3 #[.int .u64 a0, .int .u64 a1, .int .u8 a2] w fun e w' => e = .returned (.bool true) ∧ Below w.heap.size w w' := by
  have b0 := bounds_u64 w0
  have b1 := bounds_u64 w1
  have b2 := bounds_u8 w2
  obtain ⟨a, rfl⟩ := Int.eq_ofNat_of_zero_le b0.1
  obtain ⟨b, rfl⟩ := Int.eq_ofNat_of_zero_le b1.1
  obtain ⟨c, rfl⟩ := Int.eq_ofNat_of_zero_le b2.1
  have h := Go.Fx.PackOrder_walk (w := w) (a := a) (b := b) (c := c) (by omega) (by omega) (by omega)
  refine Calls.mono h fun e w' ⟨v, he, hv, hf⟩ => ⟨by rw [he, hv], hf.below (by simp)⟩
set_option maxRecDepth 100000 in
theorem liftedPackOrder (os : Os) (started : os.Started) (H : Type) (enc : TypeId × Value → H) :
    ReturnsInHanded {} Try.checked os 3 .any (Rows.packOrderSpec.pre6 enc Try.prog Try.f3 Rows.packOrderRow.domain false) (Rows.packOrderSpec.post enc Try.prog Try.f3 false true false false) := by
  refine returnsInHanded_of_change (C := Try.checked) own started (by kernel_rfl) Try.func3
    (ChangeSpec.witness6 (enc := enc) (C := Try.checked) false ⟨#[], #[.int .u64 0, .int .u64 0, .int .u8 0], []⟩ 8 (by kernel_rfl) (by kernel_rfl) (by kernel_rfl) (by kernel_rfl)) ?_
  intro W base args ds gs before hval0 hW hcnd _
  have hval : ∀ (j : Nat) t v, Try.f3.params[j]? = some t → args[j]? = some v → Value.okWide Try.prog W .any base t v := hval0
  have hW' := hW
  obtain ⟨p, q, hA0, hV, rfl, hfz, hnd⟩ := hW
  have hA : DataW.TrodAll enc Try.prog W 0 (fun _ => true) true Try.f3.params.toList args.toList ds p := hA0
  rw [Try.params3] at hA hval
  obtain ⟨v0, vs0, d0, ds0, p0, q0, hargs, rfl, rfl, h0, r0⟩ := trodAll_cons hA
  obtain ⟨v1, vs1, d1, ds1, p1, q1, rfl, rfl, rfl, h1, r1⟩ := trodAll_cons r0
  obtain ⟨v2, vs2, d2, ds2, p2, q2, rfl, rfl, rfl, h2, r2⟩ := trodAll_cons r1
  obtain ⟨rfl, rfl, rfl⟩ := trodAll_nil r2
  obtain rfl : args = #[v0, v1, v2] := by cases args; simp_all
  obtain ⟨rfl, rfl⟩ := trodVars_none hV
  obtain ⟨a0, rfl, rfl, rfl, w0⟩ := open_int Try.underlying22 (hval 0 22 v0 rfl rfl) h0
  obtain ⟨a1, rfl, rfl, rfl, w1⟩ := open_int Try.underlying22 (hval 1 22 v1 rfl rfl) h1
  obtain ⟨a2, rfl, rfl, rfl, w2⟩ := open_int Try.underlying5 (hval 2 5 v2 rfl rfl) h2
  clear hA0 hval0
  refine (walkPackOrder a0 a1 a2 w0 w1 w2 W).mono fun e W' ⟨he, bel⟩ => ?_
  subst he
  exact ⟨_, rfl, _, _, _, [], _, [], hW', trodAll_mk1 (shut_bool Try.underlying4 _), (trodAll_cons_mk (shut_int Try.underlying22 w0) (trodAll_cons_mk (shut_int Try.underlying22 w1) (trodAll_cons_mk (shut_int Try.underlying5 w2) trodAll_mk0))), rfl, bel.frame _, fun h => by cases h⟩
theorem packOrder : Rows.PackOrderSaid :=
  OpenClaim.holds_of_wide 3 Try.f3 rfl rfl rfl rfl rfl rfl rfl ⟨rfl, rfl, rfl, rfl, rfl⟩ rfl rfl rfl rfl rfl (by kernel_rfl) Try.func3 (by kernel_rfl)
    (of_decide_eq_true (by kernel_rfl)) (by unfold Func.isWrapper; first | (rw [if_pos (by decide +kernel)]; kernel_rfl) | (rw [if_neg (by decide +kernel)]; exact ⟨rfl, rfl⟩))
    (fun os started H enc _ => liftedPackOrder os started H enc)
#print axioms packOrder
end Go.Proofs.Ytamjngkjpalchaa
