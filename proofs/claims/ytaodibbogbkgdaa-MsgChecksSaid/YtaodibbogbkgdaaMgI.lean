/-
  What a message bears, taken.
-/
import Derived.Test.YtaodibbogbkgdaaMgH
set_option linter.unusedVariables false
set_option linter.unusedSimpArgs false
namespace Go.Fx
def vecP (l : List UInt8) : Vec 32 := ⟨(l ++ List.replicate 32 0).take 32, by simp⟩
theorem vecP_of {l : List UInt8} (h : l.length = 32) : (vecP l).1 = l := by
  show (l ++ List.replicate 32 0).take 32 = l
  rw [List.take_left' h]
def stI (b : List UInt8) (e : Int) : Nat → List (Vec 32) × List UInt8 × Int
  | 0 => ([], b, e)
  | n + 1 => ((stI b e n).1 ++ [vecP (tk 32 (stI b e n).2.1 (stI b e n).2.2).1], (tk 32 (stI b e n).2.1 (stI b e n).2.2).2)
def stB (b : List UInt8) (e : Int) : Nat → List (List UInt8) × List UInt8 × Int
  | 0 => ([], b, e)
  | n + 1 => ((stB b e n).1 ++ [(ct 246 (stB b e n).2.1 (stB b e n).2.2).1], (ct 246 (stB b e n).2.1 (stB b e n).2.2).2)
theorem stI_len (b : List UInt8) (e : Int) : ∀ n, (stI b e n).1.length = n
  | 0 => rfl
  | n + 1 => by rw [stI]; simp [stI_len b e n]
theorem stB_len (b : List UInt8) (e : Int) : ∀ n, (stB b e n).1.length = n
  | 0 => rfl
  | n + 1 => by rw [stB]; simp [stB_len b e n]
theorem tk_rest (n : Nat) (b : List UInt8) (e : Int) : (tk n b e).2.1.length ≤ b.length := by unfold tk; split <;> (try split) <;> simp
theorem ct_rest (n : Nat) (b : List UInt8) (e : Int) : (ct n b e).2.1.length ≤ b.length := by
  unfold ct
  split
  · split
    · simp
    · split
      · simp
      · split
        · simp
        · refine Nat.le_trans (tk_rest _ _ _) ?_
          simp
  · simp
theorem stB_rest (b : List UInt8) (e : Int) : ∀ n, (stB b e n).2.1.length ≤ b.length
  | 0 => Nat.le_refl _
  | n + 1 => Nat.le_trans (ct_rest _ _ _) (stB_rest b e n)
def readM (k q : Int) (b : List UInt8) (e : Int) : Msg × List UInt8 × Int :=
  match kbody k with
  | .some n => (⟨k, q, (stI b e n.toNat).1, []⟩, (stI b e n.toNat).2)
  | .names => if 32 < ofBe (tk 4 b e).1 then (Msg.zero, (tk 4 b e).2) else (⟨k, q, (stI (tk 4 b e).2.1 (tk 4 b e).2.2 (ofBe (tk 4 b e).1)).1, []⟩, (stI (tk 4 b e).2.1 (tk 4 b e).2.2 (ofBe (tk 4 b e).1)).2)
  | .blocks true => (⟨k, q, [], (stB b e 1).1⟩, (stB b e 1).2)
  | .blocks false => if 32 < ofBe (tk 4 b e).1 then (Msg.zero, (tk 4 b e).2) else (⟨k, q, [], (stB (tk 4 b e).2.1 (tk 4 b e).2.2 (ofBe (tk 4 b e).1)).1⟩, (stB (tk 4 b e).2.1 (tk 4 b e).2.2 (ofBe (tk 4 b e).1)).2)
  | _ => (⟨k, q, [], []⟩, b, e)
theorem kbody_n {k n : Int} (h : kbody k = .some n) : n = 1 ∨ n = 2 := by
  unfold kbody at h
  repeat' split at h
  all_goals first | (cases h; simp; done) | cases h
section
variable {w0 w : World} {As : List Asn} {iv bv u v s : Value} {g : Nat} {b : List UInt8} {e : Int} {n : Nat}
theorem Sep.atB {l : List UInt8} (hs : Sep w0 w (ownB v l :: As)) (h0 : 0 < l.length) : ∃ g o c, v = .slice (some ⟨g, o, none⟩) l.length c ∧ At w.heap g o (bvs l) := by
  obtain ⟨a, c, rfl, hl, hh⟩ := hs.rd
  rcases hh with h1 | ⟨g, o, cur, t, fr, rfl, hg, hcs⟩
  · omega
  · have hlen := congrArg List.length hcs
    simp only [List.length_take, List.length_drop, Array.length_toList, bvs_length, Nat.mul_one] at hlen
    rw [Nat.mul_one] at hcs
    exact ⟨g, o, c, rfl, cur, t, fr, hg, by rw [bvs_length]; omega, by rw [bvs_length]; exact hcs⟩
theorem mTake_spec (hs : Sep w0 w (uk g s e :: ownB s b :: As)) (hn : n ≤ 100) : cal P f_msg_take [.pointer (some ⟨g, 0, none⟩), .int .i64 n] w fun r w' =>
    ∃ s', Sep w0 w' (rows (rVec 32) r (stI b e n).1 :: uk g s' (stI b e n).2.2 :: ownB s' (stI b e n).2.1 :: As) := by
  refine s_msg_take fun R hR => ?_
  unfold c_msg_take
  refine ⟨fun t x w' => ∃ (i : Nat) (s' : Value), x = .int .i64 i ∧ i ≤ n ∧ Sep w0 w' (rows (rVec 32) t (stI b e i).1 :: uk g s' (stI b e i).2.2 :: ownB s' (stI b e i).2.1 :: As), fun _ x _ => (n - RowKit.intOf x).toNat, ⟨0, s, rfl, by omega, hs.nilR⟩, ?_⟩
  rintro t5 _ w1 ⟨i, s1, rfl, hi, hs1⟩ -
  have hl := stI_len b e i
  simp only [nilc_some, fad_mk, pik_true, pik_false, cnd_true, cnd_false, gif_same, gif_tf, gif_ft, gif_undef, bi_add, bi_sub, bi_mul, bi_eql, bi_neq, bi_lss, bi_leq, bi_gtr, bi_geq, notB_bool, cvi_int, lenS_mk, lenT_mk, ext0, ext1, ext2, nilP_mk, nilS_mk, fldv_agg, jn0_k, jn1_k, jn2_k, jn1_and, jn1_or, ex_some, Option.isNone_some, Option.isNone_none, Bool.false_bne, Bool.bne_true, Bool.bne_false, Bool.true_bne, Bool.not_true, Bool.not_false, Bool.and_true, Bool.true_and, Bool.and_false, Bool.false_and, Bool.or_true, Bool.true_or, Bool.or_false, Bool.false_or, cond_true, cond_false, List.getElem?_toArray, List.getElem?_cons_zero, List.getElem?_cons_succ, Nat.zero_add, Nat.add_zero, Nat.reduceAdd, forall_const]
  rw [cnd_bool]
  refine ⟨fun h => ?_, fun h => ?_⟩
  · have hlt : i < n := by simpa using h
    refine cal_i (uFixedS (n := 32) (hs1.pick [1, 2, 0] 3) (by omega)) ?_
    rintro v2 w2 ⟨s2, hs2⟩
    have ht32 : (tk 32 (stI b e i).2.1 (stI b e i).2.2).1.length ≤ 32 := by unfold tk; split <;> (try split) <;> simp; omega
    obtain ⟨F, ho, hu⟩ := hs2.upd
    refine appMk S_sl_uint8 ZC_uint8 U_int ho (n := 32) (by omega) (by omega) fun v3 w3 F3 ho3 hf3 hg3 => ?_
    have hs3 := hu w3 F3 (ownB _ _) ho3 hf3 hg3
    obtain ⟨a, c, rfl, hc⟩ := Sep.form hs3
    have hlen3 : ((tk 32 (stI b e i).2.1 (stI b e i).2.2).1 ++ List.replicate 32 0).length ≥ 32 := by simp
    rw [show (Value.int .i64 32) = .int .i64 ((32 : Nat) : Int) from rfl, slc_to (by omega)]
    have hs4 := hs3.takeB (k := 32) (by omega)
    have hx : ((tk 32 (stI b e i).2.1 (stI b e i).2.2).1 ++ List.replicate 32 0).take 32 = (vecP (tk 32 (stI b e i).2.1 (stI b e i).2.2).1).1 := rfl
    rw [hx] at hs4
    generalize hy : vecP (tk 32 (stI b e i).2.1 (stI b e i).2.2).1 = y at *
    obtain ⟨g5, o5, c5, hv5, hat⟩ := hs4.atB (by rw [y.2]; omega)
    rw [y.2] at hv5
    rw [hv5]
    have hr : ∀ K, rdP P (Instr.arrayAt T_api_ID (.slice (some ⟨g5, o5, none⟩) 32 c5)) w3 K = K (.pointer (some ⟨g5, o5, none⟩)) := fun K => rdP_eq (by simp [Instr.arrayAt, run_underlying U_api_ID]) K
    have hld : ∀ K, ldN 32 (.pointer (some ⟨g5, o5, none⟩)) w3.heap K = K (.agg (Rdr.cells (rVec 32) y).toArray) := fun K => At.ldN (cs := bvs y.1) hat (by rw [bvs_length, y.2]) K
    rw [hr, hld]
    refine rows_lit hs4 S_sl_api_ID (l := [y]) (V := fun a => .agg (Rdr.cells (rVec 32) a).toArray) (fun a => rfl) rfl rfl (by decide) (by decide) fun g6 w6 hs6 => ?_
    refine rows_app S_sl_api_ID U_sl_api_ID (by simp) (hs6.pick [4, 0, 2, 3] 5) (Sep.rows hs6) ?_ (by simp [hl]; omega) (by simp [hl]; omega) fun v7 w7 hs7 => ?_
    · simp only [List.flatMap_cons, List.flatMap_nil, List.append_nil]
      exact oneVec
    rw [wi64 (by omega) (by omega)]
    refine ⟨⟨i + 1, s2, by simp, by omega, ?_⟩, by simp [RowKit.intOf]; omega⟩
    rw [stI, hy]
    exact hs7.d1
  · have hge : i = n := by simp at h; omega
    subst hge
    exact hR _ _ ⟨s1, hs1⟩
end
end Go.Fx
