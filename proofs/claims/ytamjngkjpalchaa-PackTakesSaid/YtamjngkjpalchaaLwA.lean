/-
  Law 1's smaller functions.
-/
import Derived.Test.YtamjngkjpalchaaPkB
import Derived.Test.YtamjngkjpalchaaFxL
set_option linter.unusedVariables false
set_option linter.unusedSimpArgs false
namespace Go.Fx
theorem Equal_spec {w : World} {x y : Value} {a b : List UInt8} (hx : RdB w.heap x a) (hy : RdB w.heap y b) : cal P f_bytes_Equal [x, y] w fun v w' => v = .bool (a == b) ∧ w = w' := by
  refine s_bytes_Equal fun R hR => ?_
  unfold c_bytes_Equal
  rw [rdP_eq (conv_str UT_bytes UT_uint8 UT_string hx), rdP_eq (conv_str UT_bytes UT_uint8 UT_string hy), eqS_str]
  exact hR _ _ ⟨rfl, rfl⟩
theorem Compare_spec {w : World} {x y : Value} {a b : List UInt8} (hx : RdB w.heap x a) (hy : RdB w.heap y b) :
    cal P f_bytes_Compare [x, y] w fun v w' => v = .int .i64 (Extern.BytealgCompare.cmp ⟨a.toArray⟩ ⟨b.toArray⟩) ∧ w = w' := by
  refine s_bytes_Compare fun R hR => ?_
  unfold c_bytes_Compare
  refine ⟨_, _, ?_, hR _ _ ⟨rfl, rfl⟩⟩
  have hs : (P.funcs[f_internal_bytealg_Compare]?).isSome = true := by kernel_rfl
  have hf : P.funcs[f_internal_bytealg_Compare]? = some ((P.funcs[f_internal_bytealg_Compare]?).get hs) := (Option.some_get hs).symm
  rw [run_callFunc_extern (e := Extern.BytealgCompare.compare) hf (by kernel_rfl) (by kernel_rfl) (by kernel_rfl) (by kernel_rfl)]
  change (Sem.run P (do pure (goInt (Extern.BytealgCompare.cmp (← Extern.Bytes.bytesOf x) (← Extern.Bytes.bytesOf y)))) w).andThen _ = _
  simp only [Sem.run_bind, hx.bytesOf, hy.bytesOf, Result.andThen_ok, Sem.run_pure, goInt]
/-- The chapter's examples hold. -/
theorem live_spec {w : World} : cal P f_law01_live [] w fun v w' => v = .bool true ∧ Fr [] w w' := by
  refine s_law01_live fun R hR => ?_
  unfold c_law01_live
  refine cal_i (New_spec 20) ?_
  rintro p w1 ⟨F1, hp1, hf1, hF1⟩
  have hk1 := Pk.new_ok 20
  generalize hx1 : Pk.new 20 = x1 at *
  have hnil : ∀ K : Value → Prop, nilP false p K = K (.bool false) := by
    intro K
    obtain ⟨g, s, E, G, rfl, _⟩ := hp1
    rw [nilP_mk]; rfl
  rw [hnil]
  simp only [nilc_some, fad_mk, pik_true, pik_false, cnd_true, cnd_false, gif_same, gif_tf, gif_ft, gif_undef, bi_add, bi_sub, bi_mul, bi_eql, bi_neq, bi_lss, bi_leq, bi_gtr, bi_geq, notB_bool, cvi_int, lenS_mk, lenT_mk, ext0, ext1, ext2, nilP_mk, nilS_mk, fldv_agg, jn0_k, jn1_k, jn2_k, jn1_and, jn1_or, ex_some, Option.isNone_some, Option.isNone_none, Bool.false_bne, Bool.bne_true, Bool.bne_false, Bool.true_bne, Bool.not_true, Bool.not_false, Bool.and_true, Bool.true_and, Bool.and_false, Bool.false_and, Bool.or_true, Bool.true_or, Bool.or_false, Bool.false_or, cond_true, cond_false, List.getElem?_toArray, List.getElem?_cons_zero, List.getElem?_cons_succ, Nat.zero_add, Nat.add_zero, Nat.reduceAdd, forall_const]
  refine cal_i (Short_spec (v := 258) hp1 hk1 (by decide)) ?_
  rintro _ w2 ⟨rfl, F2, hp2, hf2, hG2⟩
  have hk2 := Pk.add_ok hk1 (be 2 258)
  have hr2 : (Instr.buildSlice T_sl_uint8 2 #[(0, .int .u8 7), (1, .int .u8 8)]).run P w2 = .ok (.slice (some ⟨w2.heap.size, 0, none⟩) 2 2) (w2.alloc (.cells (bvs [7, 8]).toArray T_uint8)) := by kernel_rfl
  refine buildB (l := [7, 8]) rfl hr2 fun w3 g3 hg3 ho3 hf3 => ?_
  have hp3 := hp2.fr hf3 (by simp)
  refine cal_i (Bytes_spec hp3 hk2 ho3.rd (Own.off ho3 ?_) (by decide)) ?_
  · intro k hk hm
    have := hp2.lt k hm
    simp at hk
    omega
  rintro _ w4 ⟨rfl, F4, hp4, hf4, hG4⟩
  have hk4 := Pk.add_ok hk2 (be 4 [(7 : UInt8), 8].length ++ [7, 8])
  refine cal_i (Text_spec (s := [195, 169]) hp4 hk4) ?_
  rintro _ w5 ⟨rfl, F5, hp5, hf5, hG5⟩
  have hx5 : (((x1.add (be 2 258)).add (be 4 [(7 : UInt8), 8].length ++ [7, 8])).text [195, 169]) = ⟨true, [1, 2, 0, 0, 0, 2, 7, 8, 0, 2, 195, 169], 0, 20⟩ := by subst hx1; rfl
  rw [hx5] at hp5
  refine cal_i (Out_spec hp5 (by simp)) ?_
  rintro v w6 ⟨hf6, h⟩
  rcases h with ⟨_, s, g, rfl, ho6, hg⟩ | ⟨h, _⟩
  · simp only [nilc_some, fad_mk, pik_true, pik_false, cnd_true, cnd_false, gif_same, gif_tf, gif_ft, gif_undef, bi_add, bi_sub, bi_mul, bi_eql, bi_neq, bi_lss, bi_leq, bi_gtr, bi_geq, notB_bool, cvi_int, lenS_mk, lenT_mk, ext0, ext1, ext2, nilP_mk, nilS_mk, fldv_agg, jn0_k, jn1_k, jn2_k, jn1_and, jn1_or, ex_some, Option.isNone_some, Option.isNone_none, Bool.false_bne, Bool.bne_true, Bool.bne_false, Bool.true_bne, Bool.not_true, Bool.not_false, Bool.and_true, Bool.true_and, Bool.and_false, Bool.false_and, Bool.or_true, Bool.true_or, Bool.or_false, Bool.false_or, cond_true, cond_false, List.getElem?_toArray, List.getElem?_cons_zero, List.getElem?_cons_succ, Nat.zero_add, Nat.add_zero, Nat.reduceAdd, forall_const, show ((0 : Int) == 0) = true from rfl]
    have hr7 : ∀ w6 : World, (Instr.buildSlice T_sl_uint8 12 #[(0, (Value.int IntKind.u8 1)), (1, (Value.int IntKind.u8 2)), (2, (Value.int IntKind.u8 0)), (3, (Value.int IntKind.u8 0)), (4, (Value.int IntKind.u8 0)), (5, (Value.int IntKind.u8 2)), (6, (Value.int IntKind.u8 7)), (7, (Value.int IntKind.u8 8)), (8, (Value.int IntKind.u8 0)), (9, (Value.int IntKind.u8 2)), (10, (Value.int IntKind.u8 195)), (11, (Value.int IntKind.u8 169))]).run P w6 =
        .ok (.slice (some ⟨w6.heap.size, 0, none⟩) 12 12) (w6.alloc (.cells (bvs [1, 2, 0, 0, 0, 2, 7, 8, 0, 2, 195, 169]).toArray T_uint8)) := fun w6 => by kernel_rfl
    refine jn1_dup ?_
    refine buildB (l := [1, 2, 0, 0, 0, 2, 7, 8, 0, 2, 195, 169]) rfl (hr7 w6) fun w7 g7 hg7 ho7 hf7 => ?_
    refine cal_i (Equal_spec (OwnB.rd (ho6.fr hf7 (by simp))) ho7.rd) ?_
    rintro _ _ ⟨rfl, rfl⟩
    intro _
    refine hR _ _ ⟨rfl, ?_⟩
    refine Fr.trans hf1 ((hf2.seq ((hf3.trans (hf4.seq (hf5.seq (hf6.trans hf7 (by simp) (by simp)) hG5) hG4) (by simp) fun i hi => .inl hi)) hG2)) (by simp) fun i hi => .inr (hF1 i hi)
  · exact absurd rfl h
end Go.Fx
