/-
  The program's sum: a state, bytes taken in.
-/
import Derived.Test.YticmbeincpaaeaaDoorShI
set_option linter.unusedVariables false
set_option linter.unusedSimpArgs false
namespace Go.Fx
abbrev VW (n : Nat) := {l : List W32 // l.length = n}
def rW (n : Nat) : Rdr (VW n) where
  size := n
  cells l := wvs l.1
  ok _ _ := True
  len l := by simp [wvs, l.2]
  one _ := wvs_one _
  fr h _ := h
abbrev Q_St := Rdr.pair (rW 8) (Rdr.pair qv (Rdr.pair (rInt .i64) rBool))
abbrev st (g : Nat) (h : VW 8) (s : Value) (n : Int) : Asn := blk g (Rdr.cells Q_St (h, s, n, true)).toArray T_sha_State
def first8 : VW 8 := ⟨firstL, rfl⟩
section
variable {w0 w : World} {v b s : Value} {l r : List UInt8} {As : List Asn} {g : Nat} {h : VW 8} {n : Int}
theorem first_spec : cal P f_sha_first [] w fun r w' => r = .agg (wvs firstL).toArray ∧ Fr [] w w' := by
  refine s_sha_first fun R hR => ?_
  unfold c_sha_first
  refine alloc_s (Sep.start w) (A_a8 w) fun g w1 hs => ?_
  rw [B_first]
  refine stN_w hs (by simp) rfl fun w2 hs => ?_
  rw [ldN_w (n := 8) hs.blk rfl]
  exact hR _ _ ⟨rfl, hs.fr0⟩
theorem B_St (K : Value → Prop) : rdP P (Instr.build T_sha_State #[(0, .agg (wvs firstL).toArray), (3, .bool true)]) w K = K (.agg (Rdr.cells Q_St (first8, .slice none 0 0, 0, true)).toArray) := rdP_eq (by kernel_rfl) K
theorem New_spec : cal P f_sha_New [] w fun r w' => ∃ g, r = .pointer (some ⟨g, 0, none⟩) ∧ Sep w w' [st g first8 (.slice none 0 0) 0] := by
  refine s_sha_New fun R hR => ?_
  unfold c_sha_New
  refine cal_i first_spec ?_
  rintro _ w1 ⟨rfl, hf1⟩
  rw [B_St]
  refine bx_s ((Sep.start w).old hf1) fun g w2 hs => ?_
  exact hR _ _ ⟨g, rfl, hs⟩
theorem none_spec (hs : Sep w0 w (st g h s n :: As)) : cal P f_sha_State_none [.pointer (some ⟨g, 0, none⟩)] w fun r w' => r = .bool false ∧ w = w' := by
  refine s_sha_State_none fun R hR => ?_
  unfold c_sha_State_none
  simp only [nilc_some, fad_mk, pik_true, pik_false, cnd_true, cnd_false, gif_same, gif_tf, gif_ft, gif_undef, bi_add, bi_sub, bi_mul, bi_eql, bi_neq, bi_lss, bi_leq, bi_gtr, bi_geq, notB_bool, cvi_int, lenS_mk, lenT_mk, ext0, ext1, ext2, nilP_mk, nilS_mk, fldv_agg, jn0_k, jn1_k, jn2_k, jn1_and, jn1_or, ex_some, Option.isNone_some, Option.isNone_none, Bool.false_bne, Bool.bne_true, Bool.bne_false, Bool.true_bne, Bool.not_true, Bool.not_false, Bool.and_true, Bool.true_and, Bool.and_false, Bool.false_and, Bool.or_true, Bool.true_or, Bool.or_false, Bool.false_or, cond_true, cond_false, List.getElem?_toArray, List.getElem?_cons_zero, List.getElem?_cons_succ, Nat.zero_add, Nat.add_zero, Nat.reduceAdd, forall_const]
  have hb := Fld.ldB (r := Q_St) (Fld.snd (Fld.snd (Fld.snd Fld.self))) hs.blk
  refine jn1_dup ?_
  rw [show (Value.pointer (some ⟨g, 10, none⟩)) = .pointer (some ⟨g, 8 + (1 + (1 + 0)), none⟩) from rfl]
  refine (hb _).mpr ?_
  simp only [nilc_some, fad_mk, pik_true, pik_false, cnd_true, cnd_false, gif_same, gif_tf, gif_ft, gif_undef, bi_add, bi_sub, bi_mul, bi_eql, bi_neq, bi_lss, bi_leq, bi_gtr, bi_geq, notB_bool, cvi_int, lenS_mk, lenT_mk, ext0, ext1, ext2, nilP_mk, nilS_mk, fldv_agg, jn0_k, jn1_k, jn2_k, jn1_and, jn1_or, ex_some, Option.isNone_some, Option.isNone_none, Bool.false_bne, Bool.bne_true, Bool.bne_false, Bool.true_bne, Bool.not_true, Bool.not_false, Bool.and_true, Bool.true_and, Bool.and_false, Bool.false_and, Bool.or_true, Bool.true_or, Bool.or_false, Bool.false_or, cond_true, cond_false, List.getElem?_toArray, List.getElem?_cons_zero, List.getElem?_cons_succ, Nat.zero_add, Nat.add_zero, Nat.reduceAdd, forall_const]
  exact hR _ _ ⟨rfl, rfl⟩
/-- A part of an owned slice, to its end. -/
def Rest (v : Value) (l : List UInt8) (u : Value) (m : List UInt8) : Prop := ∃ a n c, u = .slice a n c ∧ n = m.length ∧ n ≤ c ∧ ∀ z : World, RdB z.heap v l → RdB z.heap u m
theorem Rest.start {a : Option Addr} {c : Nat} (hc : l.length ≤ c) : Rest (.slice a l.length c) l (.slice a l.length c) l := ⟨a, _, c, rfl, rfl, hc, fun _ h => h⟩
theorem Rest.to {u : Value} {m : List UInt8} (hr : Rest v l u m) (h64 : 64 ≤ m.length) (K : Value → Prop) (h : ∀ x, (∀ z : World, RdB z.heap v l → RdB z.heap x (m.take 64)) → K x) : slc 1 u none (some (.int .i64 64)) K := by
  obtain ⟨a, n, c, rfl, rfl, hc, hx⟩ := hr
  have := slc_to (size := 1) (n := m.length) (a := a) (k := .i64) (show 64 ≤ c by omega) K
  rw [show (Value.int .i64 64) = .int .i64 ((64 : Nat) : Int) from rfl, this]
  exact h _ fun z hz => (hx z hz).take h64 c
theorem Rest.from {u : Value} {m : List UInt8} (hr : Rest v l u m) (h64 : 64 ≤ m.length) (K : Value → Prop) (h : ∀ x, Rest v l x (m.drop 64) → K x) : slc 1 u (some (.int .i64 64)) none K := by
  obtain ⟨a, n, c, rfl, rfl, hc, hx⟩ := hr
  have := slc_from (size := 1) (c := c) (a := a) (k := .i64) h64 K
  rw [show (Value.int .i64 64) = .int .i64 ((64 : Nat) : Int) from rfl, this]
  exact h _ ⟨_, _, _, rfl, by simp, by omega, fun z hz => (hx z hz).drop h64 hc (c - 64)⟩
theorem Rest.len {u : Value} {m : List UInt8} (hr : Rest v l u m) (K : Value → Prop) : lenS u K = K (.int .i64 m.length) := by
  obtain ⟨a, n, c, rfl, rfl, hc, hx⟩ := hr
  exact lenS_mk a _ c K
end
end Go.Fx
